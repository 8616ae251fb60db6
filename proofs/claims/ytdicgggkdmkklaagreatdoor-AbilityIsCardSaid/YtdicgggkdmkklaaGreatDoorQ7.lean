/- Plain words: mana costs and pools (chapter 8); Parse inverts Text. No program in sight. Plain words on memory: == of two references. Conditions: none. Plain words on memory: amounts' rows and ==; w -/
import Derived.Test.YtdicgggkdmkklaaGreatDoorQ3
import Derived.Test.YtdicgggkdmkklaaGreatDoorQ2
import Derived.Deep.MidRow
import Derived.Laws.CopyRow
import Derived.Test.YtdicgggkdmkklaaGreatDoorQ4
import Derived.Lib.Index
set_option linter.all false
set_option maxRecDepth 100000
set_option maxHeartbeats 16000000
namespace Go.Proofs.YtdicgggkdmkklaaGreatDoor
open Go.ChangeShapes Go.WideShapes Go.RowKit
structure Co where
 g:Int
 x:Int
 c0:Int
 c1:Int
 c2:Int
 c3:Int
 c4:Int
deriving DecidableEq
structure Po where
 g:Int
 c0:Int
 c1:Int
 c2:Int
 c3:Int
 c4:Int
deriving DecidableEq
def Co.cells (c:Co):Array Value:=#[.int .i64 c.g, .int .i64 c.x, .int .i64 c.c0, .int .i64 c.c1, .int .i64 c.c2, .int .i64 c.c3, .int .i64 c.c4]
def Po.cells (c:Po):Array Value:=#[.int .i64 c.g, .int .i64 c.c0, .int .i64 c.c1, .int .i64 c.c2, .int .i64 c.c3, .int .i64 c.c4]
def dQ:Co:=⟨0,0,0,0,0,0,0⟩
def bn:Po:=⟨0,0,0,0,0,0⟩
def uU (a b:Co):Bool:=a.g==b.g&&(a.x==b.x&&(a.c0==b.c0&&(a.c1==b.c1&&(a.c2==b.c2&&(a.c3==b.c3&&a.c4==b.c4)))))
def uV (a b:Po):Bool:=a.g==b.g&&(a.c0==b.c0&&(a.c1==b.c1&&(a.c2==b.c2&&(a.c3==b.c3&&a.c4==b.c4))))
theorem yh (a b:Co):uU a b=true↔a=b:=by
 obtain ⟨a0,a1,a2,a3,a4,a5,a6⟩:=a
 obtain ⟨b0,b1,b2,b3,b4,b5,b6⟩:=b
 simp [uU]
theorem IZ (a:Co):uU a a=true:=(yh a a).2 rfl
def rJ (n:Int):Bool:=decide (0≤n)&&decide (n≤9)
def kU (c:Co):Bool:=rJ c.c0&&(rJ c.c1&&(rJ c.c2&&(rJ c.c3&&(rJ c.c4&&(decide (0≤c.g)&&(decide (c.g≤99)&&(decide (0≤c.x)&&decide (c.x≤2))))))))
def rep (b:UInt8) (n:Int):Str:=List.replicate n.toNat b
def pY (g:Int):Str:=if 0<g then Lib.itoa g else []
def mW (c:Co):Str:=rep 65 c.c0++(rep 67 c.c1++(rep 74 c.c2++(rep 82 c.c3++rep 69 c.c4)))
def lH (c:Co):Str:=rep 88 c.x++(pY c.g++mW c)
def iy (c:Co):Str:=if kU c=true then (if uU c dQ=true then [48] else lH c) else []
def isLet (c:UInt8):Bool:=c==65 || (c==67 || (c==74 || (c==82 || c==69)))
def Ag (c:UInt8):Bool:=c==88
def jD (c:UInt8):Bool:= !isLet c
def zG (s:Str):Str:=s.dropWhile Ag
def tq (s:Str):Str:=(zG s).dropWhile jD
def I4 (s:Str):Str:=(zG s).takeWhile jD
def yx (s:Str):Co:=⟨(numOf (I4 s)).getD 0,((s.takeWhile Ag).length:Nat),((tq s).count 65:Nat),((tq s).count 67:Nat),((tq s).count 74:Nat),((tq s).count 82:Nat),((tq s).count 69:Nat)⟩
def kX (s:Str):Option Co:=if s≠[]∧(tq s).all isLet=true∧iy (yx s)=s then some (yx s) else none
def Ee (p:Po):Co:=⟨p.g,0,p.c0,p.c1,p.c2,p.c3,p.c4⟩
def arZ (c:Co):Po:=⟨c.g,c.c0,c.c1,c.c2,c.c3,c.c4⟩
def jY (p:Po):Str:=iy (Ee p)
def dU (s:Str):Option Po:=match kX s with
 |some c=>if c.x=0 then some (arZ c) else none
 |none=>none
theorem YQ {p:UInt8→Bool} :∀ {l r:Str},(∀c∈l,p c=true)→(∀c∈r.head?,p c=false)→(l++r).takeWhile p=l∧(l++r).dropWhile p=r
 |[],[],_,_=>⟨rfl,rfl⟩
 |[],c::r,_,h=>by
  have:=h c (by simp)
  simp [List.takeWhile_cons,List.dropWhile_cons,this]
 |a::l,r,h1,h2=>by
  have ha:=h1 a (.head _)
  obtain ⟨i1,i2⟩:=YQ (l:=l) (fun c hc=>h1 c (.tail _ hc)) h2
  simp [List.takeWhile_cons,List.dropWhile_cons,ha,i1,i2]
theorem JJ {g:Int} (h0:0≤g) {c:UInt8} (h:c∈pY g):48≤c.toNat∧c.toNat≤57:=by
 unfold pY at h
 split at h
 ·obtain ⟨n,rfl⟩:=Int.eq_ofNat_of_zero_le h0
  rw [Lib.itoa_nonneg] at h
  exact nS n c h
 ·cases h
theorem RQ {b:UInt8} {n:Int} {c:UInt8} (h:c∈rep b n):c=b:=(List.mem_replicate.1 h).2
theorem Ho (c:Co):∀b∈mW c,isLet b=true:=by
 intro b h
 unfold mW at h
 simp only [List.mem_append] at h
 rcases h with h|h|h|h|h<;>rw [RQ h]<;>rfl
theorem afy {b:UInt8} (h:isLet b=true):Ag b=false∧¬(48≤b.toNat∧b.toNat≤57):=by
 unfold isLet at h
 simp only [Bool.or_eq_true,beq_iff_eq] at h
 rcases h with rfl|rfl|rfl|rfl|rfl<;>decide
theorem aeX {b:UInt8} (h:48≤b.toNat∧b.toNat≤57):Ag b=false∧jD b=true:=by
 have h2:isLet b=false:=by
  cases hb:isLet b with
  |false=>rfl
  |true=>exact absurd h (afy hb).2
 refine ⟨?_,by unfold jD;rw [h2];rfl⟩
 cases hb:Ag b with
 |false=>rfl
 |true=>
  unfold Ag at hb
  rw [beq_iff_eq] at hb
  subst hb
  exact absurd h (by decide)
theorem ab8 (c:Co) (h:kU c=true):((mW c).count 65:Int)=c.c0∧((mW c).count 67:Int)=c.c1∧((mW c).count 74:Int)=c.c2∧((mW c).count 82:Int)=c.c3∧((mW c).count 69:Int)=c.c4:=by
 simp only [kU,rJ,Bool.and_eq_true,decide_eq_true_eq] at h
 unfold mW rep
 simp [List.count_append,List.count_replicate]
 omega
theorem ab5 (g:Int) (h0:0≤g) (h1:g≤99):(numOf (pY g)).getD 0=g:=by
 unfold pY
 split
 ·rw [NM g (by omega) h1];rfl
 ·obtain rfl:g=0:=by omega
  decide +kernel
theorem WZ {c:Co} (h:kU c=true):yx (lH c)=c∧(tq (lH c)).all isLet=true:=by
 have hr:=h
 simp only [kU,rJ,Bool.and_eq_true,decide_eq_true_eq] at hr
 have hx:∀b∈rep 88 c.x,Ag b=true:=fun b hb=>by rw [RQ hb];rfl
 have hn:∀b∈pY c.g,48≤b.toNat∧b.toNat≤57:=fun b hb=>JJ (by omega) hb
 have hh:∀b∈(pY c.g++mW c).head?,Ag b=false:=fun b hb=>by
  have hb:=List.mem_of_mem_head? hb
  rcases List.mem_append.1 hb with hb|hb
  ·exact (aeX (hn b hb)).1
  ·exact (afy (Ho c b hb)).1
 have hs:∀b∈(mW c).head?,jD b=false:=fun b hb=>by
  have:=Ho c b (List.mem_of_mem_head? hb)
  unfold jD;rw [this];rfl
 obtain ⟨x1,x2⟩:=YQ (p:=Ag) hx hh
 obtain ⟨y1,y2⟩:=YQ (p:=jD) (fun b hb=>(aeX (hn b hb)).2) hs
 have e1:zG (lH c)=pY c.g++mW c:=x2
 have e2:tq (lH c)=mW c:=by unfold tq;rw [e1];exact y2
 have e3:I4 (lH c)=pY c.g:=by unfold I4;rw [e1];exact y1
 have e4:(lH c).takeWhile Ag=rep 88 c.x:=x1
 obtain ⟨k0,k1,k2,k3,k4⟩:=ab8 c h
 refine ⟨?_,by rw [e2];exact List.all_eq_true.2 (Ho c)⟩
 unfold yx
 rw [e2,e3,e4,ab5 _ (by omega) (by omega),k0,k1,k2,k3,k4]
 have:((rep 88 c.x).length:Int)=c.x:=by unfold rep;rw [List.length_replicate];omega
 rw [this]
theorem QJ {c:Co} (h:kU c=true) (h0:uU c dQ=false):lH c≠[]:=by
 intro e
 have:=(WZ h).1
 rw [e] at this
 have e2:yx []=dQ:=by decide +kernel
 rw [e2] at this
 rw [←this] at h0
 rw [IZ] at h0;cases h0
theorem Jb {c:Co} (h:kU c=false):iy c=[]:=if_neg (by rw [h];decide)
def vU (r q:Rf):Bool:=r.kind==q.kind&&(r.n==q.n&&fK r.f q.f)
theorem VG (r q:Rf) (w:World):(binOp .eql 61 (.agg r.cells) (.agg q.cells)).run Tryz.prog w= .ok (.bool (vU r q)) w:=by
 rw [run_eql_struct,run_equalIn_agg w 9999 61 _ _ (by kernel_rfl) (by kernel_rfl)]
 simp [vU,fK,Rf.cells,go_sem,Tryz.underlying61,Tryz.fieldsF,Tryz.stoodF,Tryz.underlying25,Tryz.underlying23,Tryz.underlying3,Tryz.underlying9]
 iterate 17 (refine yX (by simp) ?_)
 split
 ·rename_i h;rw [h];simp
 ·rename_i h;rw [beq_eq_false_iff_ne.2 h]
theorem aoJ (r q:Rf) (w:World):(binOp .neq 61 (.agg r.cells) (.agg q.cells)).run Tryz.prog w= .ok (.bool (!vU r q)) w:=by
 have h:=VG r q w
 rw [run_eql_struct] at h
 rw [run_neq_struct]
 generalize (Op.equalIn 10000 61 (.agg r.cells) (.agg q.cells)).run Tryz.prog w=x at *
 cases x<;>simp_all [Result.andThen]
abbrev TAm:Nat:=63
def sV (r q:Am):Bool:=r.k==q.k&&(r.n==q.n&&(r.c==q.c&&fK r.f q.f))
theorem VE (r q:Am) (w:World):(binOp .eql 63 (.agg r.cells) (.agg q.cells)).run Tryz.prog w= .ok (.bool (sV r q)) w:=by
 rw [run_eql_struct,run_equalIn_agg w 9999 63 _ _ (by kernel_rfl) (by kernel_rfl)]
 simp [sV,fK,Am.cells,go_sem,Tryz.underlying63,Tryz.fieldsF,Tryz.stoodF,Tryz.underlying25,Tryz.underlying23,Tryz.underlying3,Tryz.underlying9]
 iterate 18 (refine yX (by simp) ?_)
 split
 ·rename_i h;rw [h];simp
 ·rename_i h;rw [beq_eq_false_iff_ne.2 h]
theorem aoF (r q:Am) (w:World):(binOp .neq 63 (.agg r.cells) (.agg q.cells)).run Tryz.prog w= .ok (.bool (!sV r q)) w:=by
 have h:=VE r q w
 rw [run_eql_struct] at h
 rw [run_neq_struct]
 generalize (Op.equalIn 10000 63 (.agg r.cells) (.agg q.cells)).run Tryz.prog w=x at *
 cases x<;>simp_all [Result.andThen]
structure Ef where
 op:Int
 ref:Rf
 amt:Am
 ctr:Int
 zone:Int
 card:ByteArray
 flt:aH
 pool:Po
 mods:List Md
def zeroE:Ef:=⟨0,dY,dG,0,0,⟨#[]⟩,aaB,bn,[]⟩
def opT:List Str:=[[],[100,97,109,97,103,101],[100,101,115,116,114,111,121],[109,111,118,101],[100,114,97,119],[100,105,115,99,97,114,100],[103,97,105,110],[108,111,115,101],[116,97,112],[117,110,116,97,112],[112,117,116],[116,97,107,101],[99,114,101,97,116,101],[109,111,100],[109,97,110,97],[99,111,117,110,116,101,114],[99,111,112,121],[98,101,99,111,109,101],[115,97,99,114,105,102,105,99,101],[109,105,108,108],[115,99,114,121],[115,101,97,114,99,104],[115,104,105,101,108,100],[116,117,114,110],[119,105,110],[100,101,102,101,97,116],[118,101,110,111,109]]
def opName (op:Int):Str:=if 0≤op∧op≤26 then wd opT op.toNat else []
def uR (op:Int):Bool:=decide (op∈([1,2,3,4,5,6,7,8,9,10,11,12,13,15,16,17,18,19,22,25,26]:List Int))
def uZ (op:Int):Bool:=decide (op∈([3]:List Int))
def uK (op:Int):Bool:=decide (op∈([10,11]:List Int))
def uC (op:Int):Bool:=decide (op∈([12]:List Int))
def uA (op:Int):Bool:=decide (op∈([1,4,5,6,7,10,11,12,18,19,20,22,26]:List Int))
def uM (op:Int):Bool:=decide (op∈([13]:List Int))
def uP (op:Int):Bool:=decide (op∈([14]:List Int))
def uF (op:Int):Bool:=decide (op∈([18,21]:List Int))
def kK:List Str:=[[],[114,97],[114],[114,122],[114,97],[114,97],[114,97],[114,97],[114],[114],[114,107,97],[114,107,97],[114,99,97],[114,109],[112],[114],[114],[114],[114,97,102],[114,97],[97],[102],[114,97],[],[],[114],[114,97]]
def dF (op:Int):Str:=if 0≤op∧op≤26 then wd kK op.toNat else []
def fRef (e:Ef) (specs:Int):Bool:=if uR e.op=true then iY e.ref specs else vU e.ref dY
def rG (e:Ef):Bool:=if uA e.op=true then iT e.amt else sV e.amt dG
def rH (e:Ef):Bool:=if uK e.op=true then !(dw e.ctr==[]) else e.ctr==0
def oC (e:Ef):Bool:=if uZ e.op=true then decide (0≤e.zone)&&decide (e.zone≤4) else e.zone==0
def fCard (e:Ef):Bool:=if uC e.op=true then isName (L e.card) else L e.card==[]
def Hz (op:Int):Int:=if op=21 then 2 else 0
def qL (e:Ef):Bool:=if uF e.op=true then dh e.flt&&e.flt.zone==Hz e.op else fK e.flt aaB
def oz (e:Ef):Bool:=if uP e.op=true then !(uV e.pool bn)&& !(jY e.pool==[]) else uV e.pool bn
def ou (e:Ef):Bool:=if uM e.op=true then !(eH e.mods==[]) else decide (e.mods.length=0)
def jw (e:Ef) (specs:Int):Bool:=fRef e specs&&(rG e&&(rH e&&(oC e&&(fCard e&&(qL e&&(oz e&&ou e))))))
def jl (e:Ef) (specs:Int):Bool:= !(opName e.op==[])&&jw e specs
def opt (b:Bool) (s:Str):List Str:=if b=true then [s] else []
def yZ (l:List Md):Str:=91::(eH l++[93])
def Gg (f:aH):Str:=40::(textOf f++[41])
def kM (e:Ef):List Str:=opName e.op::(opt (uR e.op) (dI e.ref)++(opt (uZ e.op) (dR e.zone)++(opt (uK e.op) (dw e.ctr)++(opt (uC e.op) (L e.card)++(opt (uA e.op) (dW e.amt)++(opt (uM e.op) (yZ e.mods)++(opt (uP e.op) (jY e.pool)++opt (uF e.op) (Gg e.flt))))))))
def dB (e:Ef):Str:=if jl e 4=true then Lib.join (kM e) [32] else []
def nx (b:Bool) (l:List Str):Str × List Str:=if b=true∧2≤l.length then (l.getD 1 [],l.drop 1) else ([],l)
def yF (s:Str):Int:=(List.range' 1 26).foldl (fun (o:Int) (k:Nat)=>if opName (k:Int)=s then (k:Int) else o) 0
def Oa (s:Str):Int:=(List.range' 0 6).foldl (fun (o:Int) (k:Nat)=>if dR (k:Int)=s then (k:Int) else o) 0
def innerS (s:Str):Str:=if s.length<2 then [] else (s.take (s.length - 1)).drop 1
def nx1 (op:Int) (ws:List Str):=nx (uR op) ws
def nx2 (op:Int) (ws:List Str):=nx (uZ op) (nx1 op ws).2
def nx3 (op:Int) (ws:List Str):=nx (uK op) (nx2 op ws).2
def nx4 (op:Int) (ws:List Str):=nx (uC op) (nx3 op ws).2
def nx5 (op:Int) (ws:List Str):=nx (uA op) (nx4 op ws).2
def nx6 (op:Int) (ws:List Str):=nx (uM op) (nx5 op ws).2
def nx7 (op:Int) (ws:List Str):=nx (uP op) (nx6 op ws).2
def nx8 (op:Int) (ws:List Str):=nx (uF op) (nx7 op ws).2
def Rk (op:Int) (ws:List Str):Ef:=⟨op,(dX (nx1 op ws).1).getD dY,(eY (nx5 op ws).1).getD dG,(((jF (nx3 op ws).1).getD 0:Nat):Int),Oa (nx2 op ws).1,B (nx4 op ws).1,(bW (innerS (nx8 op ws).1)).getD aaB,(dU (nx7 op ws).1).getD bn,(fF (innerS (nx6 op ws).1)).getD []⟩
def qM (ws:List Str):Ef:=Rk (yF (ws.getD 0 [])) ws
def fC (s:Str):Option Ef:=if s≠[]∧dB (qM (eX 32 s))=s then some (qM (eX 32 s)) else none
theorem MC {op:Int} (h:opName op≠[]):∃k:Fin 27,op=(k.val:Int)∧1≤k.val:=by
 unfold opName at h
 split at h
 ·rename_i h1
  refine ⟨⟨op.toNat,by omega⟩,by simp only;omega,?_⟩
  simp only
  rcases Nat.eq_zero_or_pos op.toNat with h0|h0
  ·rw [h0] at h;exact absurd rfl h
  ·exact h0
 ·exact absurd rfl h
theorem Uk:∀k:Fin 27,1≤k.val→opName (k.val:Int)≠[]:=by decide +kernel
theorem not_nil {s:Str} (h:(!(s==[]))=true):s≠[]:=fun e=>by rw [e] at h;cases h
structure EOk (e:Ef) (specs:Int):Prop where
 PX:∃k:Fin 27,e.op=(k.val:Int)∧1≤k.val
 ref:fRef e specs=true
 amt:rG e=true
 ctr:rH e=true
 zone:oC e=true
 card:fCard e=true
 flt:qL e=true
 pool:oz e=true
 mods:ou e=true
theorem Eo {e:Ef} {specs:Int} (h:jl e specs=true):EOk e specs:=by
 simp only [jl,jw,Bool.and_eq_true] at h
 exact ⟨MC (not_nil h.1),h.2.1,h.2.2.1,h.2.2.2.1,h.2.2.2.2.1,h.2.2.2.2.2.1,h.2.2.2.2.2.2.1,h.2.2.2.2.2.2.2.1,h.2.2.2.2.2.2.2.2⟩
def Dw (c:UInt8):Prop:=c.toNat≠59∧c.toNat≠40∧c.toNat≠41∧c.toNat≠91∧c.toNat≠93
instance (c:UInt8):Decidable (Dw c):=by unfold Dw;exact inferInstance
theorem uJ {b:Bool} {s x:Str} (h:x∈opt b s):b=true∧x=s:=by
 cases b
 ·cases h
 ·exact ⟨rfl,by simpa [opt] using h⟩
theorem vZ {e:Ef} (h:jl e 4=true):dB e=Lib.join (kM e) [32]:=if_pos h
theorem BL {e:Ef} (h:jl e 4=false):dB e=[]:=if_neg (by rw [h];decide)
theorem WT {e:Ef} (h:jl e 4=true):dB e≠[]:=by
 rw [vZ h]
 obtain ⟨k,hk,h1⟩:=(Eo h).PX
 have hn:opName e.op≠[]:=by rw [hk];exact Uk k h1
 unfold kM
 generalize (opt (uR e.op) (dI e.ref)++_)=r
 cases r with
 |nil=>rw [Lib.join_one];exact hn
 |cons a r=>rw [fA];simp [hn]
theorem Ej {s:Str} {e:Ef} (h:fC s=some e):jl e 4=true∧dB e=s:=by
 unfold fC at h
 split at h
 ·rename_i hc
  obtain rfl:=Option.some.inj h
  refine ⟨?_,hc.2⟩
  cases hv:jl (qM (eX 32 s)) 4 with
  |true=>rfl
  |false=>
   have:=hc.2
   rw [BL hv] at this
   exact absurd this.symm hc.1
 ·cases h
def jC:Str:=[59,32]
def iF:Bool→Str→Str→List Str
 |_,cur,[]=>[cur]
 |true,cur,_::r=>iF false cur r
 |false,cur,c::r=>if c=59∧r.head?=some 32 then cur::iF true [] r else iF false (cur++[c]) r
def lY (s:Str):List Str:=iF false [] s
theorem Kr (cur r:Str):iF false cur (59::32::r)=cur::iF false [] r:=by
 rw [iF,if_pos ⟨rfl,rfl⟩,iF]
theorem AO (c:UInt8) (cur r:Str) (h:¬(c=59∧r.head?=some 32)):iF false cur (c::r)=iF false (cur++[c]) r:=by
 rw [iF,if_neg h]
theorem Hl:∀(s cur:Str) (b:Bool),iF b cur s≠[]
 |[],cur,b=>by cases b<;>simp [iF]
 |c::r,cur,true=>by rw [iF];exact Hl r cur false
 |c::r,cur,false=>by
  rw [iF];split
  ·simp
  ·exact Hl r _ false
theorem Gm:∀(n:Nat) (s cur:Str),s.length≤n→Lib.join (iF false cur s) jC=cur++s
 |_,[],cur,_=>by rw [iF,Lib.join_one,List.append_nil]
 |0,c::r,cur,h=>by simp at h
 |n+1,c::r,cur,h=>by
  by_cases hc:c=59∧r.head?=some 32
  ·obtain ⟨rfl,hr⟩:=hc
   cases r with
   |nil=>cases hr
   |cons d r=>
    obtain rfl:d=32:=by simpa using hr
    rw [Kr]
    have ih:=Gm n r [] (by simp at h ⊢;omega)
    cases hl:iF false [] r with
    |nil=>exact absurd hl (Hl r [] false)
    |cons b l=>rw [hl] at ih;rw [fA,ih];simp [jC]
  ·rw [AO _ _ _ hc,Gm n r _ (by simp at h ⊢;omega)];simp
theorem ZI (s:Str):Lib.join (lY s) jC=s:=by unfold lY;rw [Gm s.length s [] (Nat.le_refl _)];rfl
theorem D5:∀(s cur:Str) (b:Bool),(iF b cur s).length≤s.length+1
 |[],cur,b=>by cases b<;>simp [iF]
 |c::r,cur,true=>by rw [iF];have:=D5 r cur false;simp;omega
 |c::r,cur,false=>by
  rw [iF];split
  ·have:=D5 r [] true;simp;omega
  ·have:=D5 r (cur++[c]) false;simp;omega
theorem D6:∀(s cur:Str) (b:Bool),∀x∈iF b cur s,x.length≤cur.length+s.length
 |[],cur,b,x,h=>by cases b<;>(simp [iF] at h;subst h;simp)
 |c::r,cur,true,x,h=>by rw [iF] at h;have:=D6 r cur false x h;simp;omega
 |c::r,cur,false,x,h=>by
  rw [iF] at h
  split at h
  ·rcases List.mem_cons.1 h with rfl|h
   ·simp
   ·have:=D6 r [] true x h;simp at this ⊢;omega
  ·have:=D6 r _ false x h;simp at this ⊢;omega
theorem YJ (c:UInt8) (r:Str):jC.isPrefixOf (c::r)=(c==59&&r.head?==some 32):=by
 cases r with
 |nil=>simp [jC,List.isPrefixOf]
 |cons d r=>
  rw [Bool.eq_iff_iff]
  simp [jC]
  constructor
  ·rintro ⟨h1,h2⟩;exact ⟨h1.symm,h2.symm⟩
  ·rintro ⟨h1,h2⟩;exact ⟨h1.symm,h2.symm⟩
theorem ag0:∀(s cur:Str),(Lib.index s jC= -1∧iF false cur s=[cur++s])∨(∃i:Nat,Lib.index s jC=i∧i+2≤s.length∧iF false cur s=(cur++s.take i)::iF false [] (s.drop (i+2)))
 |[],cur=> .inl ⟨rfl,by rw [iF,List.append_nil]⟩
 |c::r,cur=>by
  by_cases h:c=59∧r.head?=some 32
  ·obtain ⟨rfl,hr⟩:=h
   cases r with
   |nil=>cases hr
   |cons d r=>
    obtain rfl:d=32:=by simpa using hr
    refine .inr ⟨0,?_,by simp,?_⟩
    ·unfold Lib.index
     rw [YJ];rfl
    ·rw [Kr];simp
  ·have hp:jC.isPrefixOf (c::r)=false:=by
    rw [YJ]
    cases hb:(c==59&&r.head?==some 32) with
    |false=>rfl
    |true=>simp only [Bool.and_eq_true,beq_iff_eq] at hb;exact absurd hb h
   rw [AO _ _ _ h]
   unfold Lib.index
   rw [hp,if_neg (by decide)]
   rcases ag0 r (cur++[c]) with ⟨h1,h2⟩|⟨i,h1,h2,h3⟩
   ·left;rw [h1,h2];simp
   ·right
    refine ⟨i+1,?_,by simp;omega,?_⟩
    ·rw [h1,if_neg (by rw [beq_iff_eq];omega)];simp
    ·rw [h3];simp
theorem adz (s:Str):(Lib.index s jC= -1∧lY s=[s])∨(∃i:Nat,Lib.index s jC=i∧i+2≤s.length∧lY s=s.take i::lY (s.drop (i+2))):=by
 have:=ag0 s []
 simpa [lY] using this
theorem Na:∀(n:Nat) (s:Str),s.length≤n→Lib.splitK jC 0 (Lib.count s jC) s=lY s
 |n,s,hn=>by
  rcases adz s with ⟨h1,h2⟩|⟨i,h1,h2,h3⟩
  ·rw [Lib.count_miss h1,h2];rfl
  ·have hc:=Lib.count_hit (sub:=jC) (by decide) h1
   have hl:jC.length=2:=rfl
   rw [hl] at hc
   cases n with
   |zero=>omega
   |succ n=>
    have ih:=Na n (s.drop (i+2)) (by simp;omega)
    rw [hc,Nat.add_comm,Lib.splitK,if_neg (by rw [h1,beq_iff_eq];omega),h1,hl,h3]
    simp only [Int.toNat_natCast,Nat.add_zero]
    rw [ih]
theorem aar (s:ByteArray):(Lib.splitB ⟨#[59,32]⟩ 0 (Lib.countB s ⟨#[59,32]⟩) s).map L=lY (L s):=by
 have h:=Lib.splitB_data ⟨#[59,32]⟩ 0 (Lib.countB s ⟨#[59,32]⟩) s
 exact h.trans (Na _ (L s) (Nat.le_refl _))
def jW (l:List Ef):Str:=if l≠[]∧l.length≤8∧(l.all fun e=>jl e 4)=true then Lib.join (l.map dB) jC else []
def qc:List Ef→List Str→Option (List Ef)
 |out,[]=>some out
 |out,p::r=>match fC p with
  |none=>none
  |some m=>if out.length=8 then none else qc (out++[m]) r
def kH (s:Str):Option (List Ef):=qc [] (lY s)
theorem OT:∀(ps:List Str) (out l:List Ef),qc out ps=some l→out.length≤8→(out.all fun e=>jl e 4)=true→(l.all fun e=>jl e 4)=true∧l.length≤8∧l.map dB=out.map dB++ps
 |[],out,l,h,h6,ha=>by rw [qc] at h;injection h with h;subst h;exact ⟨ha,h6,by simp⟩
 |p::r,out,l,h,h6,ha=>by
  rw [qc] at h
  cases hp:fC p with
  |none=>rw [hp] at h;cases h
  |some m=>
   rw [hp] at h
   simp only at h
   split at h
   ·cases h
   ·obtain ⟨h1,h2⟩:=Ej hp
    obtain ⟨i1,i2,i3⟩:=OT r (out++[m]) l h (by simp;omega) (by simp [ha,h1])
    exact ⟨i1,i2,by rw [i3];simp [h2]⟩
theorem Ji {s:Str} {l:List Ef} (h:kH s=some l):l≠[]∧l.length≤8∧(l.all fun e=>jl e 4)=true∧jW l=s:=by
 obtain ⟨h1,h2,h3⟩:=OT (lY s) [] l h (by simp) rfl
 simp only [List.map_nil,List.nil_append] at h3
 have h0:l≠[]:=fun e=>by
  rw [e] at h3
  exact Hl s [] false h3.symm
 refine ⟨h0,h2,h1,?_⟩
 unfold jW
 rw [if_pos ⟨h0,h2,h1⟩,h3,ZI]
def mY (c:Co) (b:UInt8):Option Co:=
 if b=88 then some { c with x:=c.x+1 }
 else if 48≤b.toNat∧b.toNat≤57 then some { c with g:=10 * c.g+((b.toNat:Int) - 48) }
 else if b=65 then some { c with c0:=c.c0+1 }
 else if b=67 then some { c with c1:=c.c1+1 }
 else if b=74 then some { c with c2:=c.c2+1 }
 else if b=82 then some { c with c3:=c.c3+1 }
 else if b=69 then some { c with c4:=c.c4+1 }
 else none
theorem aeL:∀k:Fin 100,(pY (k.val:Int)).length≤2:=by decide +kernel
theorem ab4 {c:Co} (h:kU c=true):(lH c).length≤60:=by
 simp only [kU,rJ,Bool.and_eq_true,decide_eq_true_eq] at h
 have h1:=aeL ⟨c.g.toNat,by omega⟩
 simp only at h1
 rw [show ((c.g.toNat:Nat):Int)=c.g by omega] at h1
 unfold lH mW rep
 simp only [List.length_append,List.length_replicate]
 omega
theorem OB (c:Co):(iy c).length≤60:=by
 unfold iy
 split
 ·split
  ·decide
  ·exact ab4 ‹_›
 ·decide
theorem abZ {c d:Co} {b:UInt8} {n:Int} (h:mY c b=some d) (hx:0≤c.x∧c.x≤n) (h0:0≤c.c0∧c.c0≤n) (h1:0≤c.c1∧c.c1≤n) (h2:0≤c.c2∧c.c2≤n) (h3:0≤c.c3∧c.c3≤n) (h4:0≤c.c4∧c.c4≤n) (hg:0≤c.g):
 (0≤d.x∧d.x≤n+1)∧(0≤d.c0∧d.c0≤n+1)∧(0≤d.c1∧d.c1≤n+1)∧(0≤d.c2∧d.c2≤n+1)∧(0≤d.c3∧d.c3≤n+1)∧(0≤d.c4∧d.c4≤n+1)∧0≤d.g:=by
 unfold mY at h
 repeat' split at h
 all_goals first|(cases h;done)|(obtain rfl:=Option.some.inj h;simp only;omega)
def mQ (e:Ef) (f:UInt8):Str:=
 if f=114 then dI e.ref else if f=122 then dR e.zone else if f=107 then dw e.ctr else if f=99 then L e.card else if f=97 then dW e.amt else if f=109 then yZ e.mods else if f=112 then jY e.pool else Gg e.flt
theorem H8 (e:Ef) (h:∃k:Fin 27,e.op=(k.val:Int)∧1≤k.val):kM e=opName e.op::(dF e.op).map (mQ e):=by
 obtain ⟨op,ref,amt,ctr,zone,card,flt,pool,mods⟩:=e
 obtain ⟨⟨k,hk⟩,h1,h2⟩:=h
 simp only at h1 h2
 subst h1
 have:k=1∨k=2∨k=3∨k=4∨k=5∨k=6∨k=7∨k=8∨k=9∨k=10∨k=11∨k=12∨k=13∨k=14∨k=15∨k=16∨k=17∨k=18∨k=19∨k=20∨k=21∨k=22∨k=23∨k=24∨k=25∨k=26:=by omega
 rcases this with rfl|rfl|rfl|rfl|rfl|rfl|rfl|rfl|rfl|rfl|rfl|rfl|rfl|rfl|rfl|rfl|rfl|rfl|rfl|rfl|rfl|rfl|rfl|rfl|rfl|rfl
 all_goals rfl
end Go.Proofs.YtdicgggkdmkklaaGreatDoor
