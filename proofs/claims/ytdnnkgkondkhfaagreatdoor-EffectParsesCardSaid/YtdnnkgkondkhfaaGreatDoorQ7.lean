/- Plain words: mana costs and pools (chapter 8); Parse inverts Text. No program in sight. Plain words on memory: == of two references. Conditions: none. Plain words on memory: amounts' rows and ==; w -/
import Derived.Test.YtdnnkgkondkhfaaGreatDoorQ3
import Derived.Test.YtdnnkgkondkhfaaGreatDoorQ2
import Derived.Deep.MidRow
import Derived.Laws.CopyRow
import Derived.Test.YtdnnkgkondkhfaaGreatDoorQ4
import Derived.Lib.Index
import Derived.Test.YtdnnkgkondkhfaaGreatDoorQ1
set_option linter.all false
set_option maxRecDepth 100000
set_option maxHeartbeats 16000000
namespace Go.Proofs.YtdnnkgkondkhfaaGreatDoor
open Go.ChangeShapes Go.WideShapes Go.RowKit
structure Co where
 g:Int
 x:Int
 c0:Int
 c1:Int
 c2:Int
 c3:Int
 c4:Int
deriving DecidableEq
structure Po where
 g:Int
 c0:Int
 c1:Int
 c2:Int
 c3:Int
 c4:Int
deriving DecidableEq
def Co.cells (c:Co):Array Value:=#[.int .i64 c.g, .int .i64 c.x, .int .i64 c.c0, .int .i64 c.c1, .int .i64 c.c2, .int .i64 c.c3, .int .i64 c.c4]
def Po.cells (c:Po):Array Value:=#[.int .i64 c.g, .int .i64 c.c0, .int .i64 c.c1, .int .i64 c.c2, .int .i64 c.c3, .int .i64 c.c4]
def dQ:Co:=⟨0,0,0,0,0,0,0⟩
def bn:Po:=⟨0,0,0,0,0,0⟩
def uU (a b:Co):Bool:=a.g==b.g&&(a.x==b.x&&(a.c0==b.c0&&(a.c1==b.c1&&(a.c2==b.c2&&(a.c3==b.c3&&a.c4==b.c4)))))
def uV (a b:Po):Bool:=a.g==b.g&&(a.c0==b.c0&&(a.c1==b.c1&&(a.c2==b.c2&&(a.c3==b.c3&&a.c4==b.c4))))
theorem yh (a b:Co):uU a b=true↔a=b:=by
 obtain ⟨a0,a1,a2,a3,a4,a5,a6⟩:=a
 obtain ⟨b0,b1,b2,b3,b4,b5,b6⟩:=b
 simp [uU]
theorem NQ (a b:Po):uV a b=true↔a=b:=by
 obtain ⟨a0,a1,a2,a3,a4,a5⟩:=a
 obtain ⟨b0,b1,b2,b3,b4,b5⟩:=b
 simp [uV]
theorem IZ (a:Co):uU a a=true:=(yh a a).2 rfl
def rJ (n:Int):Bool:=decide (0≤n)&&decide (n≤9)
def kU (c:Co):Bool:=rJ c.c0&&(rJ c.c1&&(rJ c.c2&&(rJ c.c3&&(rJ c.c4&&(decide (0≤c.g)&&(decide (c.g≤99)&&(decide (0≤c.x)&&decide (c.x≤2))))))))
def rep (b:UInt8) (n:Int):Str:=List.replicate n.toNat b
def pY (g:Int):Str:=if 0<g then Lib.itoa g else []
def mW (c:Co):Str:=rep 65 c.c0++(rep 67 c.c1++(rep 74 c.c2++(rep 82 c.c3++rep 69 c.c4)))
def lH (c:Co):Str:=rep 88 c.x++(pY c.g++mW c)
def iy (c:Co):Str:=if kU c=true then (if uU c dQ=true then [48] else lH c) else []
def isLet (c:UInt8):Bool:=c==65 || (c==67 || (c==74 || (c==82 || c==69)))
def Ag (c:UInt8):Bool:=c==88
def jD (c:UInt8):Bool:= !isLet c
def zG (s:Str):Str:=s.dropWhile Ag
def tq (s:Str):Str:=(zG s).dropWhile jD
def I4 (s:Str):Str:=(zG s).takeWhile jD
def yx (s:Str):Co:=⟨(numOf (I4 s)).getD 0,((s.takeWhile Ag).length:Nat),((tq s).count 65:Nat),((tq s).count 67:Nat),((tq s).count 74:Nat),((tq s).count 82:Nat),((tq s).count 69:Nat)⟩
def kX (s:Str):Option Co:=if s≠[]∧(tq s).all isLet=true∧iy (yx s)=s then some (yx s) else none
def Ee (p:Po):Co:=⟨p.g,0,p.c0,p.c1,p.c2,p.c3,p.c4⟩
def arZ (c:Co):Po:=⟨c.g,c.c0,c.c1,c.c2,c.c3,c.c4⟩
def jY (p:Po):Str:=iy (Ee p)
def dU (s:Str):Option Po:=match kX s with
 |some c=>if c.x=0 then some (arZ c) else none
 |none=>none
theorem YQ {p:UInt8→Bool} :∀ {l r:Str},(∀c∈l,p c=true)→(∀c∈r.head?,p c=false)→(l++r).takeWhile p=l∧(l++r).dropWhile p=r
 |[],[],_,_=>⟨rfl,rfl⟩
 |[],c::r,_,h=>by
  have:=h c (by simp)
  simp [List.takeWhile_cons,List.dropWhile_cons,this]
 |a::l,r,h1,h2=>by
  have ha:=h1 a (.head _)
  obtain ⟨i1,i2⟩:=YQ (l:=l) (fun c hc=>h1 c (.tail _ hc)) h2
  simp [List.takeWhile_cons,List.dropWhile_cons,ha,i1,i2]
theorem JJ {g:Int} (h0:0≤g) {c:UInt8} (h:c∈pY g):48≤c.toNat∧c.toNat≤57:=by
 unfold pY at h
 split at h
 ·obtain ⟨n,rfl⟩:=Int.eq_ofNat_of_zero_le h0
  rw [Lib.itoa_nonneg] at h
  exact nS n c h
 ·cases h
theorem RQ {b:UInt8} {n:Int} {c:UInt8} (h:c∈rep b n):c=b:=(List.mem_replicate.1 h).2
theorem Ho (c:Co):∀b∈mW c,isLet b=true:=by
 intro b h
 unfold mW at h
 simp only [List.mem_append] at h
 rcases h with h|h|h|h|h<;>rw [RQ h]<;>rfl
theorem afy {b:UInt8} (h:isLet b=true):Ag b=false∧¬(48≤b.toNat∧b.toNat≤57):=by
 unfold isLet at h
 simp only [Bool.or_eq_true,beq_iff_eq] at h
 rcases h with rfl|rfl|rfl|rfl|rfl<;>decide
theorem aeX {b:UInt8} (h:48≤b.toNat∧b.toNat≤57):Ag b=false∧jD b=true:=by
 have h2:isLet b=false:=by
  cases hb:isLet b with
  |false=>rfl
  |true=>exact absurd h (afy hb).2
 refine ⟨?_,by unfold jD;rw [h2];rfl⟩
 cases hb:Ag b with
 |false=>rfl
 |true=>
  unfold Ag at hb
  rw [beq_iff_eq] at hb
  subst hb
  exact absurd h (by decide)
theorem ab8 (c:Co) (h:kU c=true):((mW c).count 65:Int)=c.c0∧((mW c).count 67:Int)=c.c1∧((mW c).count 74:Int)=c.c2∧((mW c).count 82:Int)=c.c3∧((mW c).count 69:Int)=c.c4:=by
 simp only [kU,rJ,Bool.and_eq_true,decide_eq_true_eq] at h
 unfold mW rep
 simp [List.count_append,List.count_replicate]
 omega
theorem ab5 (g:Int) (h0:0≤g) (h1:g≤99):(numOf (pY g)).getD 0=g:=by
 unfold pY
 split
 ·rw [NM g (by omega) h1];rfl
 ·obtain rfl:g=0:=by omega
  decide +kernel
theorem WZ {c:Co} (h:kU c=true):yx (lH c)=c∧(tq (lH c)).all isLet=true:=by
 have hr:=h
 simp only [kU,rJ,Bool.and_eq_true,decide_eq_true_eq] at hr
 have hx:∀b∈rep 88 c.x,Ag b=true:=fun b hb=>by rw [RQ hb];rfl
 have hn:∀b∈pY c.g,48≤b.toNat∧b.toNat≤57:=fun b hb=>JJ (by omega) hb
 have hh:∀b∈(pY c.g++mW c).head?,Ag b=false:=fun b hb=>by
  have hb:=List.mem_of_mem_head? hb
  rcases List.mem_append.1 hb with hb|hb
  ·exact (aeX (hn b hb)).1
  ·exact (afy (Ho c b hb)).1
 have hs:∀b∈(mW c).head?,jD b=false:=fun b hb=>by
  have:=Ho c b (List.mem_of_mem_head? hb)
  unfold jD;rw [this];rfl
 obtain ⟨x1,x2⟩:=YQ (p:=Ag) hx hh
 obtain ⟨y1,y2⟩:=YQ (p:=jD) (fun b hb=>(aeX (hn b hb)).2) hs
 have e1:zG (lH c)=pY c.g++mW c:=x2
 have e2:tq (lH c)=mW c:=by unfold tq;rw [e1];exact y2
 have e3:I4 (lH c)=pY c.g:=by unfold I4;rw [e1];exact y1
 have e4:(lH c).takeWhile Ag=rep 88 c.x:=x1
 obtain ⟨k0,k1,k2,k3,k4⟩:=ab8 c h
 refine ⟨?_,by rw [e2];exact List.all_eq_true.2 (Ho c)⟩
 unfold yx
 rw [e2,e3,e4,ab5 _ (by omega) (by omega),k0,k1,k2,k3,k4]
 have:((rep 88 c.x).length:Int)=c.x:=by unfold rep;rw [List.length_replicate];omega
 rw [this]
theorem QJ {c:Co} (h:kU c=true) (h0:uU c dQ=false):lH c≠[]:=by
 intro e
 have:=(WZ h).1
 rw [e] at this
 have e2:yx []=dQ:=by decide +kernel
 rw [e2] at this
 rw [←this] at h0
 rw [IZ] at h0;cases h0
theorem Jb {c:Co} (h:kU c=false):iy c=[]:=if_neg (by rw [h];decide)
theorem Td {c:Co} (h:kU c=true):iy c≠[]:=by
 unfold iy
 rw [if_pos h]
 cases hz:uU c dQ with
 |true=>simp
 |false=>simp only [Bool.false_eq_true,if_false];exact QJ h hz
theorem FQ (c:Co):iy c≠[]↔kU c=true:=by
 cases h:kU c with
 |true=>exact ⟨fun _=>rfl,fun _=>Td h⟩
 |false=>rw [Jb h];simp
theorem I9 {c:Co} (h:kU c=true):kX (iy c)=some c:=by
 cases hz:uU c dQ with
 |true=>
  rw [(yh _ _).1 hz]
  decide +kernel
 |false=>
  have e:iy c=lH c:=by unfold iy;rw [if_pos h,if_neg (by rw [hz];decide)]
  obtain ⟨g1,g2⟩:=WZ h
  unfold kX
  rw [e,g1,if_pos ⟨QJ h hz,g2,e⟩]
theorem BG {s:Str} {c:Co} (h:kX s=some c):kU c=true∧iy c=s:=by
 unfold kX at h
 split at h
 ·rename_i hc
  obtain rfl:=Option.some.inj h
  refine ⟨(FQ _).1 ?_,hc.2.2⟩
  rw [hc.2.2];exact hc.1
 ·cases h
def ac6 (p:Po):Bool:=kU (Ee p)
theorem Gy (p:Po):jY p≠[]↔ac6 p=true:=FQ _
theorem JR {p:Po} (h:ac6 p=true):dU (jY p)=some p:=by
 unfold dU jY
 rw [I9 h];rfl
theorem Vm:dU []=none:=by decide +kernel
theorem Wv {s:Str} {o:Option Co} (h1:∀t,o=some t→kU t=true∧iy t=s) (h2:o=none→∀t,kU t=true→iy t=s→False):o=kX s:=by
 cases o with
 |some t=>
  obtain ⟨a,b⟩:=h1 t rfl
  rw [←b,I9 a]
 |none=>
  cases hp:kX s with
  |none=>rfl
  |some t=>exact absurd (h2 rfl t (BG hp).1 (BG hp).2) id
def vU (r q:Rf):Bool:=r.kind==q.kind&&(r.n==q.n&&fK r.f q.f)
theorem NY (r q:Rf):vU r q=true↔r=q:=by
 obtain ⟨a,b,f⟩:=r
 obtain ⟨a2,b2,f2⟩:=q
 simp only [vU,Bool.and_eq_true,beq_iff_eq,lI,Rf.mk.injEq]
theorem VG (r q:Rf) (w:World):(binOp .eql 28 (.agg r.cells) (.agg q.cells)).run Tryz.prog w= .ok (.bool (vU r q)) w:=by
 rw [run_eql_struct,run_equalIn_agg w 9999 28 _ _ (by kernel_rfl) (by kernel_rfl)]
 simp [vU,fK,Rf.cells,go_sem,Tryz.underlying28,Tryz.fieldsF,Tryz.stoodF,Tryz.underlying26,Tryz.underlying24,Tryz.underlying3,Tryz.underlying9]
 iterate 17 (refine yX (by simp) ?_)
 split
 ·rename_i h;rw [h];simp
 ·rename_i h;rw [beq_eq_false_iff_ne.2 h]
theorem aoJ (r q:Rf) (w:World):(binOp .neq 28 (.agg r.cells) (.agg q.cells)).run Tryz.prog w= .ok (.bool (!vU r q)) w:=by
 have h:=VG r q w
 rw [run_eql_struct] at h
 rw [run_neq_struct]
 generalize (Op.equalIn 10000 28 (.agg r.cells) (.agg q.cells)).run Tryz.prog w=x at *
 cases x<;>simp_all [Result.andThen]
abbrev TAm:Nat:=30
def sV (r q:Am):Bool:=r.k==q.k&&(r.n==q.n&&(r.c==q.c&&fK r.f q.f))
theorem Nr (r q:Am):sV r q=true↔r=q:=by
 obtain ⟨a,b,c,f⟩:=r
 obtain ⟨a2,b2,c2,f2⟩:=q
 simp only [sV,Bool.and_eq_true,beq_iff_eq,lI,Am.mk.injEq]
theorem VE (r q:Am) (w:World):(binOp .eql 30 (.agg r.cells) (.agg q.cells)).run Tryz.prog w= .ok (.bool (sV r q)) w:=by
 rw [run_eql_struct,run_equalIn_agg w 9999 30 _ _ (by kernel_rfl) (by kernel_rfl)]
 simp [sV,fK,Am.cells,go_sem,Tryz.underlying30,Tryz.fieldsF,Tryz.stoodF,Tryz.underlying26,Tryz.underlying24,Tryz.underlying3,Tryz.underlying9]
 iterate 18 (refine yX (by simp) ?_)
 split
 ·rename_i h;rw [h];simp
 ·rename_i h;rw [beq_eq_false_iff_ne.2 h]
theorem aoF (r q:Am) (w:World):(binOp .neq 30 (.agg r.cells) (.agg q.cells)).run Tryz.prog w= .ok (.bool (!sV r q)) w:=by
 have h:=VE r q w
 rw [run_eql_struct] at h
 rw [run_neq_struct]
 generalize (Op.equalIn 10000 30 (.agg r.cells) (.agg q.cells)).run Tryz.prog w=x at *
 cases x<;>simp_all [Result.andThen]
structure Ef where
 op:Int
 ref:Rf
 amt:Am
 ctr:Int
 zone:Int
 card:ByteArray
 flt:aH
 pool:Po
 mods:List Md
def zeroE:Ef:=⟨0,dY,dG,0,0,⟨#[]⟩,aaB,bn,[]⟩
def opT:List Str:=[[],[100,97,109,97,103,101],[100,101,115,116,114,111,121],[109,111,118,101],[100,114,97,119],[100,105,115,99,97,114,100],[103,97,105,110],[108,111,115,101],[116,97,112],[117,110,116,97,112],[112,117,116],[116,97,107,101],[99,114,101,97,116,101],[109,111,100],[109,97,110,97],[99,111,117,110,116,101,114],[99,111,112,121],[98,101,99,111,109,101],[115,97,99,114,105,102,105,99,101],[109,105,108,108],[115,99,114,121],[115,101,97,114,99,104],[115,104,105,101,108,100],[116,117,114,110],[119,105,110],[100,101,102,101,97,116],[118,101,110,111,109]]
def opName (op:Int):Str:=if 0≤op∧op≤26 then wd opT op.toNat else []
def uR (op:Int):Bool:=decide (op∈([1,2,3,4,5,6,7,8,9,10,11,12,13,15,16,17,18,19,22,25,26]:List Int))
def uZ (op:Int):Bool:=decide (op∈([3]:List Int))
def uK (op:Int):Bool:=decide (op∈([10,11]:List Int))
def uC (op:Int):Bool:=decide (op∈([12]:List Int))
def uA (op:Int):Bool:=decide (op∈([1,4,5,6,7,10,11,12,18,19,20,22,26]:List Int))
def uM (op:Int):Bool:=decide (op∈([13]:List Int))
def uP (op:Int):Bool:=decide (op∈([14]:List Int))
def uF (op:Int):Bool:=decide (op∈([18,21]:List Int))
def kK:List Str:=[[],[114,97],[114],[114,122],[114,97],[114,97],[114,97],[114,97],[114],[114],[114,107,97],[114,107,97],[114,99,97],[114,109],[112],[114],[114],[114],[114,97,102],[114,97],[97],[102],[114,97],[],[],[114],[114,97]]
def dF (op:Int):Str:=if 0≤op∧op≤26 then wd kK op.toNat else []
def fRef (e:Ef) (specs:Int):Bool:=if uR e.op=true then iY e.ref specs else vU e.ref dY
def rG (e:Ef):Bool:=if uA e.op=true then iT e.amt else sV e.amt dG
def rH (e:Ef):Bool:=if uK e.op=true then !(dw e.ctr==[]) else e.ctr==0
def oC (e:Ef):Bool:=if uZ e.op=true then decide (0≤e.zone)&&decide (e.zone≤4) else e.zone==0
def fCard (e:Ef):Bool:=if uC e.op=true then isName (L e.card) else L e.card==[]
def Hz (op:Int):Int:=if op=21 then 2 else 0
def qL (e:Ef):Bool:=if uF e.op=true then dh e.flt&&e.flt.zone==Hz e.op else fK e.flt aaB
def oz (e:Ef):Bool:=if uP e.op=true then !(uV e.pool bn)&& !(jY e.pool==[]) else uV e.pool bn
def ou (e:Ef):Bool:=if uM e.op=true then !(eH e.mods==[]) else decide (e.mods.length=0)
def jw (e:Ef) (specs:Int):Bool:=fRef e specs&&(rG e&&(rH e&&(oC e&&(fCard e&&(qL e&&(oz e&&ou e))))))
def jl (e:Ef) (specs:Int):Bool:= !(opName e.op==[])&&jw e specs
def opt (b:Bool) (s:Str):List Str:=if b=true then [s] else []
def yZ (l:List Md):Str:=91::(eH l++[93])
def Gg (f:aH):Str:=40::(textOf f++[41])
def kM (e:Ef):List Str:=opName e.op::(opt (uR e.op) (dI e.ref)++(opt (uZ e.op) (dR e.zone)++(opt (uK e.op) (dw e.ctr)++(opt (uC e.op) (L e.card)++(opt (uA e.op) (dW e.amt)++(opt (uM e.op) (yZ e.mods)++(opt (uP e.op) (jY e.pool)++opt (uF e.op) (Gg e.flt))))))))
def dB (e:Ef):Str:=if jl e 4=true then Lib.join (kM e) [32] else []
def nx (b:Bool) (l:List Str):Str × List Str:=if b=true∧2≤l.length then (l.getD 1 [],l.drop 1) else ([],l)
def yF (s:Str):Int:=(List.range' 1 26).foldl (fun (o:Int) (k:Nat)=>if opName (k:Int)=s then (k:Int) else o) 0
def Oa (s:Str):Int:=(List.range' 0 6).foldl (fun (o:Int) (k:Nat)=>if dR (k:Int)=s then (k:Int) else o) 0
def innerS (s:Str):Str:=if s.length<2 then [] else (s.take (s.length - 1)).drop 1
def nx1 (op:Int) (ws:List Str):=nx (uR op) ws
def nx2 (op:Int) (ws:List Str):=nx (uZ op) (nx1 op ws).2
def nx3 (op:Int) (ws:List Str):=nx (uK op) (nx2 op ws).2
def nx4 (op:Int) (ws:List Str):=nx (uC op) (nx3 op ws).2
def nx5 (op:Int) (ws:List Str):=nx (uA op) (nx4 op ws).2
def nx6 (op:Int) (ws:List Str):=nx (uM op) (nx5 op ws).2
def nx7 (op:Int) (ws:List Str):=nx (uP op) (nx6 op ws).2
def nx8 (op:Int) (ws:List Str):=nx (uF op) (nx7 op ws).2
def Rk (op:Int) (ws:List Str):Ef:=⟨op,(dX (nx1 op ws).1).getD dY,(eY (nx5 op ws).1).getD dG,(((jF (nx3 op ws).1).getD 0:Nat):Int),Oa (nx2 op ws).1,B (nx4 op ws).1,(bW (innerS (nx8 op ws).1)).getD aaB,(dU (nx7 op ws).1).getD bn,(fF (innerS (nx6 op ws).1)).getD []⟩
def qM (ws:List Str):Ef:=Rk (yF (ws.getD 0 [])) ws
def fC (s:Str):Option Ef:=if s≠[]∧dB (qM (eX 32 s))=s then some (qM (eX 32 s)) else none
theorem Uj:∀k:Fin 27,yF (opName (k.val:Int))=(k.val:Int):=by decide +kernel
theorem MC {op:Int} (h:opName op≠[]):∃k:Fin 27,op=(k.val:Int)∧1≤k.val:=by
 unfold opName at h
 split at h
 ·rename_i h1
  refine ⟨⟨op.toNat,by omega⟩,by simp only;omega,?_⟩
  simp only
  rcases Nat.eq_zero_or_pos op.toNat with h0|h0
  ·rw [h0] at h;exact absurd rfl h
  ·exact h0
 ·exact absurd rfl h
theorem Uk:∀k:Fin 27,1≤k.val→opName (k.val:Int)≠[]:=by decide +kernel
theorem aoQ (b:Bool) (x s:Str) (r:List Str):nx b (x::(opt b s++r))=(if b=true then s else [],(if b=true then s else x)::r):=by
 cases b<;>simp [nx,opt]
theorem alT (b:Bool) (x s:Str):nx b (x::opt b s)=(if b=true then s else [],[if b=true then s else x]):=by
 cases b<;>simp [nx,opt]
theorem acL (l:List Md):innerS (yZ l)=eH l:=by
 unfold innerS yZ
 simp
 intro h;omega
theorem afu (f:aH):innerS (Gg f)=textOf f:=by
 unfold innerS Gg
 simp
 intro h;omega
theorem ab2 (c:Int) (h:c=0∨c=1∨c=2):(((jF (dw c)).getD 0:Nat):Int)=c:=by rcases h with rfl|rfl|rfl<;>decide +kernel
theorem BF {c:Int} (h:dw c≠[]):c=0∨c=1∨c=2:=by
 unfold dw at h
 split at h
 ·exact .inl ‹_›
 split at h
 ·exact .inr (.inl ‹_›)
 split at h
 ·exact .inr (.inr ‹_›)
 ·exact absurd rfl h
theorem ahs (z:Int) (h0:0≤z) (h1:z≤4):Oa (dR z)=z:=by
 have:∀k:Fin 5,Oa (dR (k.val:Int))=(k.val:Int):=by decide +kernel
 have:=this ⟨z.toNat,by omega⟩
 simp only at this
 rwa [show ((z.toNat:Nat):Int)=z by omega] at this
theorem Io:fF []=none:=by decide +kernel
theorem not_nil {s:Str} (h:(!(s==[]))=true):s≠[]:=fun e=>by rw [e] at h;cases h
structure EOk (e:Ef) (specs:Int):Prop where
 PX:∃k:Fin 27,e.op=(k.val:Int)∧1≤k.val
 ref:fRef e specs=true
 amt:rG e=true
 ctr:rH e=true
 zone:oC e=true
 card:fCard e=true
 flt:qL e=true
 pool:oz e=true
 mods:ou e=true
theorem Eo {e:Ef} {specs:Int} (h:jl e specs=true):EOk e specs:=by
 simp only [jl,jw,Bool.and_eq_true] at h
 exact ⟨MC (not_nil h.1),h.2.1,h.2.2.1,h.2.2.2.1,h.2.2.2.2.1,h.2.2.2.2.2.1,h.2.2.2.2.2.2.1,h.2.2.2.2.2.2.2.1,h.2.2.2.2.2.2.2.2⟩
theorem apm {e:Ef} (h:fRef e 4=true):(dX (if uR e.op=true then dI e.ref else [])).getD dY=e.ref:=by
 unfold fRef at h
 split at h<;>rename_i hu
 ·rw [if_pos hu,vG h];rfl
 ·rw [if_neg hu,RP];exact ((NY _ _).1 h).symm
theorem apg {e:Ef} (h:rG e=true):(eY (if uA e.op=true then dW e.amt else [])).getD dG=e.amt:=by
 unfold rG at h
 split at h<;>rename_i hu
 ·rw [if_pos hu,Bq h];rfl
 ·rw [if_neg hu,UU];exact ((Nr _ _).1 h).symm
theorem aph {e:Ef} (h:rH e=true):(((jF (if uK e.op=true then dw e.ctr else [])).getD 0:Nat):Int)=e.ctr:=by
 unfold rH at h
 split at h<;>rename_i hu
 ·rw [if_pos hu];exact ab2 _ (BF (not_nil h))
 ·rw [if_neg hu]
  rw [beq_iff_eq] at h
  rw [h];decide +kernel
theorem amB {e:Ef} (h:oC e=true):Oa (if uZ e.op=true then dR e.zone else [])=e.zone:=by
 unfold oC at h
 split at h<;>rename_i hu
 ·simp only [Bool.and_eq_true,decide_eq_true_eq] at h
  rw [if_pos hu,ahs _ h.1 h.2]
 ·rw [if_neg hu]
  rw [beq_iff_eq] at h
  rw [h];decide +kernel
theorem amx {e:Ef} (h:fCard e=true):B (if uC e.op=true then L e.card else [])=e.card:=by
 unfold fCard at h
 split at h<;>rename_i hu
 ·rw [if_pos hu,qV]
 ·rw [if_neg hu]
  rw [beq_iff_eq] at h
  rw [←h,qV]
theorem apj {e:Ef} (h:qL e=true):(bW (innerS (if uF e.op=true then Gg e.flt else []))).getD aaB=e.flt:=by
 unfold qL at h
 split at h<;>rename_i hu
 ·rw [Bool.and_eq_true] at h
  rw [if_pos hu,afu,nI h.1];rfl
 ·rw [if_neg hu,show innerS []=[] from rfl,JQ]
  exact ((lI _ _).1 h).symm
theorem amA {e:Ef} (h:oz e=true):(dU (if uP e.op=true then jY e.pool else [])).getD bn=e.pool:=by
 unfold oz at h
 split at h<;>rename_i hu
 ·rw [Bool.and_eq_true] at h
  rw [if_pos hu,JR ((Gy _).1 (not_nil h.2))];rfl
 ·rw [if_neg hu,Vm];exact ((NQ _ _).1 h).symm
theorem acX {l:List Md} (h:(!(eH l==[]))=true):l≠[]∧l.length≤6∧l.all iL=true:=afL (not_nil h)
theorem amy {e:Ef} (h:ou e=true):(fF (innerS (if uM e.op=true then yZ e.mods else []))).getD []=e.mods:=by
 unfold ou at h
 split at h<;>rename_i hu
 ·obtain ⟨a,b,c⟩:=acX h
  rw [if_pos hu,acL,JG a b c];rfl
 ·rw [if_neg hu,show innerS []=[] from rfl,Io]
  rw [decide_eq_true_eq] at h
  rw [List.eq_nil_of_length_eq_zero h];rfl
theorem ZA {e:Ef} (h:jl e 4=true):qM (kM e)=e:=by
 have o:=Eo h
 have r1:=apm o.ref
 have r2:=apg o.amt
 have r3:=aph o.ctr
 have r4:=amB o.zone
 have r5:=amx o.card
 have r6:=apj o.flt
 have r7:=amA o.pool
 have r8:=amy o.mods
 obtain ⟨k,hk,_⟩:=o.PX
 have hop:yF ((kM e).getD 0 [])=e.op:=by
  show yF (opName e.op)=e.op
  rw [hk];exact Uj k
 unfold qM
 rw [hop]
 obtain ⟨op,ref,amt,ctr,zone,card,flt,pool,mods⟩:=e
 simp only at *
 simp only [Rk,nx8,nx7,nx6,nx5,nx4,nx3,nx2,nx1,kM,aoQ,alT]
 rw [r1,r2,r3,r4,r5,r6,r7,r8]
def jh:Str→Nat→Option Nat
 |[],d=>some d
 |c::r,d=>if c.toNat=59∨(c.toNat=32∧d=0) then none else jh r (bP d c.toNat)
theorem eU:∀ {a b:Str} {d d1 d2:Nat},jh a d=some d1→jh b d1=some d2→jh (a++b) d=some d2
 |[],b,d,d1,d2,h1,h2=>by rw [jh] at h1;injection h1 with h1;rw [h1];exact h2
 |c::a,b,d,d1,d2,h1,h2=>by
  rw [jh] at h1
  rw [List.cons_append,jh]
  split at h1
  ·cases h1
  ·rename_i hc
   rw [if_neg hc];exact eU h1 h2
theorem GV:∀ {w:Str} {d d':Nat},jh w d=some d'→∀cur r,splitAux 32 d cur (w++r)=splitAux 32 d' (cur++w) r
 |[],d,d',h,cur,r=>by rw [jh] at h;injection h with h;rw [h];simp
 |c::w,d,d',h,cur,r=>by
  rw [jh] at h
  split at h
  ·cases h
  ·rename_i hc
   rw [List.cons_append,splitAux,if_neg (fun e=>hc (.inr e)),GV h]
   simp
theorem abz:∀ {w:Str} {d d':Nat},jh w d=some d'→(59:UInt8)∉w
 |[],_,_,_=>by simp
 |c::w,d,d',h=>by
  rw [jh] at h
  split at h
  ·cases h
  ·rename_i hc
   intro hm
   rcases List.mem_cons.1 hm with e|hm
   ·exact hc (.inl (by rw [←e];rfl))
   ·exact abz h hm
def Dw (c:UInt8):Prop:=c.toNat≠59∧c.toNat≠40∧c.toNat≠41∧c.toNat≠91∧c.toNat≠93
instance (c:UInt8):Decidable (Dw c):=by unfold Dw;exact inferInstance
theorem Zm {c:UInt8} (h:Dw c) (d:Nat):bP d c.toNat=d:=by
 obtain ⟨_,a,b,e,f⟩:=h
 unfold bP
 rw [if_neg (by omega),if_neg (by omega)]
theorem wM:∀ {w:Str} {d:Nat},(∀c∈w,Dw c)→(d≠0∨∀c∈w,c.toNat≠32)→jh w d=some d
 |[],_,_,_=>rfl
 |c::w,d,h,h2=>by
  have hc:=h c (.head _)
  rw [jh,if_neg,Zm hc]
  ·exact wM (fun x hx=>h x (.tail _ hx)) (h2.imp id fun g x hx=>g x (.tail _ hx))
  ·rintro (e|⟨e1,e2⟩)
   ·exact hc.1 e
   ·rcases h2 with g|g
    ·exact g e2
    ·exact g c (.head _) e1
theorem Cm {c:UInt8} (h:okB c=true):Dw c∧c.toNat≠32:=by
 have e:∀n:Nat,n<256→c=UInt8.ofNat n→c.toNat=n:=fun n hn e=>by rw [e];simp;omega
 simp only [okB,XI,okb,Bool.or_eq_true,Bool.and_eq_true,decide_eq_true_eq,beq_iff_eq] at h
 unfold Dw
 rcases h with h|h|h|h|h
 ·omega
 all_goals (subst h;decide)
theorem Rx {w:Str} (h:oI w) (d:Nat):jh w d=some d:=
 wM (fun c hc=>(Cm (List.all_eq_true.1 h c hc)).1) (.inr fun c hc=>(Cm (List.all_eq_true.1 h c hc)).2)
theorem AV (f:aH) (d:Nat) (h:d≠0):jh (textOf f) d=some d:=
 wM (fun c hc=>by
  rcases Hr hc with h|h
  ·exact (Cm h).1
  ·subst h;decide) (.inl h)
theorem yA (n:Int) (d:Nat):jh (Lib.itoa n) d=some d:=
 wM (fun c hc=>by unfold Dw;rcases tC hc with h|h<;>omega) (.inr fun c hc=>by rcases tC hc with h|h<;>omega)
theorem acM {s:Str} (h:isName s=true):oI s:=by
 simp only [isName,Bool.and_eq_true] at h
 refine List.all_eq_true.2 fun c hc=> ?_
 unfold okB;rw [List.all_eq_true.1 h.2 c hc];rfl
theorem amC {r:Rf} (h:iY r 4=true):jh (dI r) 0=some 0:=by
 rcases sN h with rfl|rfl|rfl|rfl|rfl|(rfl|rfl|rfl|rfl)|(rfl|rfl|rfl|rfl)|⟨f,hf,rfl⟩
 all_goals try (decide +kernel)
 have e:dI ⟨4,0,f⟩=eF++(textOf f++[41]):=by
  unfold dI;rw [if_pos h]
  simp [refBody,xw]
 rw [e]
 exact eU (d1:=1) (by decide) (eU (AV f 1 (by decide)) (by decide))
theorem Tj (f:aH):jh (bT f) 0=some 0:=eU (d1:=1) (by decide) (eU (AV f 1 (by decide)) (by decide))
theorem anO {a:Am} (h:iT a=true):jh (dW a) 0=some 0:=by
 have e:dW a=rU a:=if_pos h
 rw [e]
 rcases wU h with ⟨n,_,rfl⟩|⟨n,_,_,f,_,rfl⟩|⟨c,(rfl|rfl|rfl),rfl⟩|⟨k,(rfl|rfl|rfl|rfl|rfl),rfl⟩
 ·exact yA n 0
 ·rw [wS]
  split
  ·exact eU (yA _ 0) (by rw [jh,if_neg (by decide)];exact Tj f)
  ·exact Tj f
 all_goals decide +kernel
theorem aif (f:aH):jh (Gg f) 0=some 0:=eU (a:=[40]) (d1:=1) (by decide) (eU (AV f 1 (by decide)) (by decide))
theorem UG:∀k:Fin 64,jh (bD k.val) 1=some 1:=by decide +kernel
theorem OE:∀k:Fin 32,jh (bM k.val) 1=some 1:=by decide +kernel
theorem aou:∀i:Fin 17,(wd bK i.val).all okB=true:=by decide +kernel
theorem Xn {m:Nat} (hm:m<2 ^ 17):jh (dA m) 1=some 1:=by
 refine wM (fun c hc=> ?_) (.inl (by decide))
 unfold dA at hc
 split at hc
 ·have:∀c∈pJ,okB c=true:=by decide
  exact (Cm (this c hc)).1
 ·rcases Cb hc with ⟨w,hw,hc⟩|hc
  ·obtain ⟨i,hi,rfl⟩:=List.mem_map.1 hw
   exact (Cm (List.all_eq_true.1 (aou ⟨i,uw hm hi⟩) c hc)).1
  ·simp at hc;subst hc;decide
theorem aoD {r:Md} (h:iL r=true):jh (cu r) 1=some 1:=by
 rw [show cu r=nK r from if_pos h]
 cases wH h with
 |control=>decide
 |rZ k h1 h2=>exact eU (a:=vw++[61]) (d:=1) (d1:=1) (by decide) (UG ⟨k,by omega⟩)
 |zW k h1 h2=>exact eU (a:=sQ++[61]) (d:=1) (d1:=1) (by decide) (UG ⟨k,by omega⟩)
 |Ku s hs=>exact eU (a:=EG++[61]) (d:=1) (d1:=1) (by decide) (Rx (zL hs) 1)
 |Kv s hs=>exact eU (a:=zu++[61]) (d:=1) (d1:=1) (by decide) (Rx (zL hs) 1)
 |vX k h1=>exact eU (a:=sG++[61]) (d:=1) (d1:=1) (by decide) (OE ⟨k,by omega⟩)
 |vY k h1 h2=>exact eU (a:=qA++[61]) (d:=1) (d1:=1) (by decide) (OE ⟨k,by omega⟩)
 |keys8 k h1 h2=>exact eU (a:=tK++[61]) (d:=1) (d1:=1) (by decide) (Xn (m:=k) (by omega))
 |DK k h1 h2=>exact eU (a:=tJ++[61]) (d:=1) (d1:=1) (by decide) (Xn (m:=k) (by omega))
 |blank=>decide
 |count f hf=>exact eU (a:=uS++[61]++ig) (d:=1) (d1:=2) (by decide) (eU (b:=[41]) (d:=2) (d1:=2) (d2:=1) (AV f 2 (by decide)) (by decide))
 |DZ n m h1 h2 h3 h4=>exact eU (a:=uS++[61]) (d:=1) (d1:=1) (by decide) (eU (yA n 1) (eU (a:=[47]) (d:=1) (d1:=1) (by decide) (yA m 1)))
 |Dt n m h1 h2 h3 h4=>exact eU (a:=zX++[61]) (d:=1) (d1:=1) (by decide) (eU (yA n 1) (eU (a:=[47]) (d:=1) (d1:=1) (by decide) (yA m 1)))
 |switch=>decide
theorem Xi {sep:Str} {d:Nat} (hs:jh sep d=some d):∀ {l:List Str},(∀x∈l,jh x d=some d)→jh (Lib.join l sep) d=some d
 |[],_=>rfl
 |[a],h=>by rw [Lib.join_one];exact h a (by simp)
 |a::b::r,h=>by
  rw [fA]
  exact eU (eU (h a (by simp)) hs) (Xi hs fun x hx=>h x (.tail _ hx))
theorem aiC {l:List Md} (h:l.all iL=true) (h0:l≠[]) (h6:l.length≤6):jh (yZ l) 0=some 0:=by
 have e:eH l=Lib.join (l.map cu) iK:=if_pos ⟨h0,h6,h⟩
 have:=Xi (sep:=iK) (d:=1) (by decide) (l:=l.map cu) (fun x hx=>by
  obtain ⟨r,hr,rfl⟩:=List.mem_map.1 hx
  exact aoD (List.all_eq_true.1 h r hr))
 unfold yZ
 rw [e]
 exact eU (a:=[91]) (d1:=1) (by decide) (eU this (by decide))
theorem aiP {p:Po} (h:ac6 p=true):jh (jY p) 0=some 0:=by
 unfold jY iy
 unfold ac6 at h
 rw [if_pos h]
 split
 ·decide
 ·refine wM (fun c hc=> ?_) (.inr fun c hc=> ?_)
  all_goals
   unfold lH at hc
   simp only [kU,rJ,Bool.and_eq_true,decide_eq_true_eq] at h
   rcases List.mem_append.1 hc with hc|hc
   ·rw [RQ hc];decide
   rcases List.mem_append.1 hc with hc|hc
   ·have:=JJ (by omega) hc
    first|(unfold Dw;omega)|omega
   ·have:=Ho _ c hc
    unfold isLet at this
    simp only [Bool.or_eq_true,beq_iff_eq] at this
    rcases this with rfl|rfl|rfl|rfl|rfl<;>decide
theorem ac5:∀k:Fin 27,jh (opName (k.val:Int)) 0=some 0:=by decide +kernel
theorem ajI {z:Int} (h0:0≤z) (h1:z≤4):jh (dR z) 0=some 0:=by
 have:∀k:Fin 5,jh (dR (k.val:Int)) 0=some 0:=by decide +kernel
 have:=this ⟨z.toNat,by omega⟩
 simp only at this
 rwa [show ((z.toNat:Nat):Int)=z by omega] at this
theorem ak1 {c:Int} (h:c=0∨c=1∨c=2):jh (dw c) 0=some 0:=by rcases h with rfl|rfl|rfl<;>decide
theorem uJ {b:Bool} {s x:Str} (h:x∈opt b s):b=true∧x=s:=by
 cases b
 ·cases h
 ·exact ⟨rfl,by simpa [opt] using h⟩
theorem KL {e:Ef} (h:jl e 4=true):∀x∈kM e,jh x 0=some 0:=by
 have o:=Eo h
 obtain ⟨k,hk,_⟩:=o.PX
 intro x hx
 unfold kM at hx
 rcases List.mem_cons.1 hx with rfl|hx
 ·rw [hk];exact ac5 k
 rcases List.mem_append.1 hx with hx|hx
 ·obtain ⟨hu,rfl⟩:=uJ hx
  have:=o.ref;unfold fRef at this;rw [if_pos hu] at this;exact amC this
 rcases List.mem_append.1 hx with hx|hx
 ·obtain ⟨hu,rfl⟩:=uJ hx
  have:=o.zone;unfold oC at this;rw [if_pos hu] at this
  simp only [Bool.and_eq_true,decide_eq_true_eq] at this;exact ajI this.1 this.2
 rcases List.mem_append.1 hx with hx|hx
 ·obtain ⟨hu,rfl⟩:=uJ hx
  have:=o.ctr;unfold rH at this;rw [if_pos hu] at this;exact ak1 (BF (not_nil this))
 rcases List.mem_append.1 hx with hx|hx
 ·obtain ⟨hu,rfl⟩:=uJ hx
  have:=o.card;unfold fCard at this;rw [if_pos hu] at this;exact Rx (acM this) 0
 rcases List.mem_append.1 hx with hx|hx
 ·obtain ⟨hu,rfl⟩:=uJ hx
  have:=o.amt;unfold rG at this;rw [if_pos hu] at this;exact anO this
 rcases List.mem_append.1 hx with hx|hx
 ·obtain ⟨hu,rfl⟩:=uJ hx
  have:=o.mods;unfold ou at this;rw [if_pos hu] at this
  obtain ⟨a,b,c⟩:=acX this
  exact aiC c a b
 rcases List.mem_append.1 hx with hx|hx
 ·obtain ⟨hu,rfl⟩:=uJ hx
  have:=o.pool;unfold oz at this;rw [if_pos hu,Bool.and_eq_true] at this
  exact aiP ((Gy _).1 (not_nil this.2))
 ·obtain ⟨hu,rfl⟩:=uJ hx
  exact aif _
theorem Qw:∀ {l:List Str},l≠[]→(∀x∈l,jh x 0=some 0)→eX 32 (Lib.join l [32])=l
 |[],h,_=>absurd rfl h
 |[a],_,h=>by
  have:=GV (h a (by simp)) [] []
  rw [Lib.join_one]
  unfold eX
  rw [List.append_nil] at this
  rw [this];rfl
 |a::b::r,_,h=>by
  have ih:=Qw (l:=b::r) (by simp) (fun x hx=>h x (.tail _ hx))
  have h1:=GV (h a (by simp)) [] ([32]++Lib.join (b::r) [32])
  rw [fA,List.append_assoc]
  unfold eX at ih ⊢
  rw [h1]
  show splitAux 32 0 a (32::Lib.join (b::r) [32])=_
  rw [splitAux,if_pos ⟨by decide,rfl⟩,show bP 0 (32:UInt8).toNat=0 from by decide,ih]
theorem vZ {e:Ef} (h:jl e 4=true):dB e=Lib.join (kM e) [32]:=if_pos h
theorem BL {e:Ef} (h:jl e 4=false):dB e=[]:=if_neg (by rw [h];decide)
theorem WT {e:Ef} (h:jl e 4=true):dB e≠[]:=by
 rw [vZ h]
 obtain ⟨k,hk,h1⟩:=(Eo h).PX
 have hn:opName e.op≠[]:=by rw [hk];exact Uk k h1
 unfold kM
 generalize (opt (uR e.op) (dI e.ref)++_)=r
 cases r with
 |nil=>rw [Lib.join_one];exact hn
 |cons a r=>rw [fA];simp [hn]
theorem Qx {e:Ef} (h:jl e 4=true):eX 32 (dB e)=kM e:=by
 rw [vZ h]
 exact Qw (by simp [kM]) (KL h)
theorem En {e:Ef} (h:jl e 4=true):fC (dB e)=some e:=by
 unfold fC
 rw [Qx h,ZA h,if_pos ⟨WT h,rfl⟩]
theorem Ej {s:Str} {e:Ef} (h:fC s=some e):jl e 4=true∧dB e=s:=by
 unfold fC at h
 split at h
 ·rename_i hc
  obtain rfl:=Option.some.inj h
  refine ⟨?_,hc.2⟩
  cases hv:jl (qM (eX 32 s)) 4 with
  |true=>rfl
  |false=>
   have:=hc.2
   rw [BL hv] at this
   exact absurd this.symm hc.1
 ·cases h
theorem Zo {s:Str} {o:Option Ef} (h1:∀t,o=some t→jl t 4=true∧dB t=s) (h2:o=none→∀t,jl t 4=true→dB t=s→False):o=fC s:=by
 cases o with
 |some t=>
  obtain ⟨a,b⟩:=h1 t rfl
  rw [←b,En a]
 |none=>
  cases hp:fC s with
  |none=>rfl
  |some t=>exact absurd (h2 rfl t (Ej hp).1 (Ej hp).2) id
theorem Jg:fC []=none:=if_neg (fun h=>h.1 rfl)
theorem FV (e:Ef):(59:UInt8)∉dB e:=by
 cases h:jl e 4 with
 |false=>rw [BL h];simp
 |true=>
  rw [vZ h]
  intro hm
  rcases Cb hm with ⟨w,hw,hc⟩|hc
  ·exact abz (KL h w hw) hc
  ·simp at hc
def mY (c:Co) (b:UInt8):Option Co:=
 if b=88 then some { c with x:=c.x+1 }
 else if 48≤b.toNat∧b.toNat≤57 then some { c with g:=10 * c.g+((b.toNat:Int) - 48) }
 else if b=65 then some { c with c0:=c.c0+1 }
 else if b=67 then some { c with c1:=c.c1+1 }
 else if b=74 then some { c with c2:=c.c2+1 }
 else if b=82 then some { c with c3:=c.c3+1 }
 else if b=69 then some { c with c4:=c.c4+1 }
 else none
def jZ:Co→Str→Option Co
 |c,[]=>some c
 |c,b::s=>match mY c b with
  |some d=>if 99<d.g then none else jZ d s
  |none=>none
def qCo (s:Str):Option Co:=if 60<s.length then none else match jZ dQ s with
 |some c=>if s≠[]∧iy c=s then some c else none
 |none=>none
theorem oN (c:Co) (b:UInt8) (s:Str):jZ c (b::s)=match mY c b with|some d=>if 99<d.g then none else jZ d s|none=>none:=rfl
theorem rP:∀(a b:Str) (c:Co),jZ c (a++b)=match jZ c a with|some d=>jZ d b|none=>none
 |[],b,c=>rfl
 |x::a,b,c=>by
  show jZ c (x::(a++b))=_
  rw [oN,oN]
  cases mY c x with
  |none=>rfl
  |some d=>
   simp only
   split
   ·rfl
   ·exact rP a b d
theorem apC:∀(n:Nat) (c:Co),c.g≤99→jZ c (List.replicate n 88)=some { c with x:=c.x+n }
 |0,c,_=>by simp [jZ]
 |n+1,c,h=>by
  show jZ c (88::List.replicate n 88)=_
  rw [oN,show mY c 88=some { c with x:=c.x+1 } from rfl]
  simp only
  rw [if_neg (by (try simp only);omega),apC n _ (by (try simp only);omega)]
  simp only [Option.some.injEq,Co.mk.injEq,and_true,true_and]
  omega
theorem apx:∀(n:Nat) (c:Co),c.g≤99→jZ c (List.replicate n 65)=some { c with c0:=c.c0+n }
 |0,c,_=>by simp [jZ]
 |n+1,c,h=>by
  show jZ c (65::List.replicate n 65)=_
  rw [oN,show mY c 65=some { c with c0:=c.c0+1 } from rfl]
  simp only
  rw [if_neg (by (try simp only);omega),apx n _ (by (try simp only);omega)]
  simp only [Option.some.injEq,Co.mk.injEq,and_true,true_and]
  omega
theorem apy:∀(n:Nat) (c:Co),c.g≤99→jZ c (List.replicate n 67)=some { c with c1:=c.c1+n }
 |0,c,_=>by simp [jZ]
 |n+1,c,h=>by
  show jZ c (67::List.replicate n 67)=_
  rw [oN,show mY c 67=some { c with c1:=c.c1+1 } from rfl]
  simp only
  rw [if_neg (by (try simp only);omega),apy n _ (by (try simp only);omega)]
  simp only [Option.some.injEq,Co.mk.injEq,and_true,true_and]
  omega
theorem apz:∀(n:Nat) (c:Co),c.g≤99→jZ c (List.replicate n 74)=some { c with c2:=c.c2+n }
 |0,c,_=>by simp [jZ]
 |n+1,c,h=>by
  show jZ c (74::List.replicate n 74)=_
  rw [oN,show mY c 74=some { c with c2:=c.c2+1 } from rfl]
  simp only
  rw [if_neg (by (try simp only);omega),apz n _ (by (try simp only);omega)]
  simp only [Option.some.injEq,Co.mk.injEq,and_true,true_and]
  omega
theorem apA:∀(n:Nat) (c:Co),c.g≤99→jZ c (List.replicate n 82)=some { c with c3:=c.c3+n }
 |0,c,_=>by simp [jZ]
 |n+1,c,h=>by
  show jZ c (82::List.replicate n 82)=_
  rw [oN,show mY c 82=some { c with c3:=c.c3+1 } from rfl]
  simp only
  rw [if_neg (by (try simp only);omega),apA n _ (by (try simp only);omega)]
  simp only [Option.some.injEq,Co.mk.injEq,and_true,true_and]
  omega
theorem apB:∀(n:Nat) (c:Co),c.g≤99→jZ c (List.replicate n 69)=some { c with c4:=c.c4+n }
 |0,c,_=>by simp [jZ]
 |n+1,c,h=>by
  show jZ c (69::List.replicate n 69)=_
  rw [oN,show mY c 69=some { c with c4:=c.c4+1 } from rfl]
  simp only
  rw [if_neg (by (try simp only);omega),apB n _ (by (try simp only);omega)]
  simp only [Option.some.injEq,Co.mk.injEq,and_true,true_and]
  omega
def adt:Int→Str→Option Int
 |g,[]=>some g
 |g,b::s=>if 99<10 * g+((b.toNat:Int) - 48) then none else adt (10 * g+((b.toNat:Int) - 48)) s
theorem YE:∀(s:Str) (c:Co),(∀b∈s,48≤b.toNat∧b.toNat≤57)→jZ c s=match adt c.g s with|some g=>some { c with g:=g } |none=>none
 |[],c,_=>rfl
 |b::s,c,h=>by
  have hb:=h b (.head _)
  have hne:b≠88:=fun e=>by rw [e] at hb;exact absurd hb (by decide)
  unfold jZ adt
  rw [show mY c b=some { c with g:=10 * c.g+((b.toNat:Int) - 48) } by unfold mY;rw [if_neg hne,if_pos hb]]
  simp only
  split
  ·rfl
  ·exact YE s _ (fun x hx=>h x (.tail _ hx))
theorem aje:∀k:Fin 100,adt 0 (pY (k.val:Int))=some (k.val:Int):=by decide +kernel
theorem aeL:∀k:Fin 100,(pY (k.val:Int)).length≤2:=by decide +kernel
theorem ab4 {c:Co} (h:kU c=true):(lH c).length≤60:=by
 simp only [kU,rJ,Bool.and_eq_true,decide_eq_true_eq] at h
 have h1:=aeL ⟨c.g.toNat,by omega⟩
 simp only at h1
 rw [show ((c.g.toNat:Nat):Int)=c.g by omega] at h1
 unfold lH mW rep
 simp only [List.length_append,List.length_replicate]
 omega
theorem OB (c:Co):(iy c).length≤60:=by
 unfold iy
 split
 ·split
  ·decide
  ·exact ab4 ‹_›
 ·decide
theorem agM {c:Co} (h:kU c=true):jZ dQ (lH c)=some c:=by
 simp only [kU,rJ,Bool.and_eq_true,decide_eq_true_eq] at h
 have h1:=aje ⟨c.g.toNat,by omega⟩
 simp only at h1
 rw [show ((c.g.toNat:Nat):Int)=c.g by omega] at h1
 unfold lH mW rep
 rw [rP,apC _ _ (by decide)]
 simp only
 rw [rP,YE _ _ (fun b hb=>JJ (by omega) hb)]
 simp only
 rw [show dQ.g=0 from rfl,h1]
 simp only
 rw [rP,apx _ _ (by (try simp only);omega)]
 simp only
 rw [rP,apy _ _ (by (try simp only);omega)]
 simp only
 rw [rP,apz _ _ (by (try simp only);omega)]
 simp only
 rw [rP,apA _ _ (by (try simp only);omega)]
 simp only
 rw [apB _ _ (by (try simp only);omega)]
 obtain ⟨g,x,c0,c1,c2,c3,c4⟩:=c
 simp only [dQ,Option.some.injEq,Co.mk.injEq,true_and] at *
 omega
theorem agN {c:Co} (h:kU c=true):jZ dQ (iy c)=some c:=by
 unfold iy
 rw [if_pos h]
 split
 ·rename_i hz
  rw [(yh _ _).1 hz];decide
 ·exact agM h
theorem aoX (s:Str):qCo s=kX s:=by
 refine Wv ?_ ?_
 ·intro t ht
  unfold qCo at ht
  split at ht
  ·cases ht
  ·split at ht
   ·split at ht
    ·rename_i hc
     obtain rfl:=Option.some.inj ht
     exact ⟨(FQ _).1 (by rw [hc.2];exact hc.1),hc.2⟩
    ·cases ht
   ·cases ht
 ·intro hn t ht e
  subst e
  have hl:=OB t
  unfold qCo at hn
  rw [if_neg (by omega),agN ht] at hn
  simp only at hn
  rw [if_pos ⟨Td ht,trivial⟩] at hn
  cases hn
theorem abZ {c d:Co} {b:UInt8} {n:Int} (h:mY c b=some d) (hx:0≤c.x∧c.x≤n) (h0:0≤c.c0∧c.c0≤n) (h1:0≤c.c1∧c.c1≤n) (h2:0≤c.c2∧c.c2≤n) (h3:0≤c.c3∧c.c3≤n) (h4:0≤c.c4∧c.c4≤n) (hg:0≤c.g):
 (0≤d.x∧d.x≤n+1)∧(0≤d.c0∧d.c0≤n+1)∧(0≤d.c1∧d.c1≤n+1)∧(0≤d.c2∧d.c2≤n+1)∧(0≤d.c3∧d.c3≤n+1)∧(0≤d.c4∧d.c4≤n+1)∧0≤d.g:=by
 unfold mY at h
 repeat' split at h
 all_goals first|(cases h;done)|(obtain rfl:=Option.some.inj h;simp only;omega)
def jC:Str:=[59,32]
def iF:Bool→Str→Str→List Str
 |_,cur,[]=>[cur]
 |true,cur,_::r=>iF false cur r
 |false,cur,c::r=>if c=59∧r.head?=some 32 then cur::iF true [] r else iF false (cur++[c]) r
def lY (s:Str):List Str:=iF false [] s
theorem Kr (cur r:Str):iF false cur (59::32::r)=cur::iF false [] r:=by
 rw [iF,if_pos ⟨rfl,rfl⟩,iF]
theorem AO (c:UInt8) (cur r:Str) (h:¬(c=59∧r.head?=some 32)):iF false cur (c::r)=iF false (cur++[c]) r:=by
 rw [iF,if_neg h]
theorem Qz:∀(x cur r:Str),(59:UInt8)∉x→iF false cur (x++59::32::r)=(cur++x)::iF false [] r
 |[],cur,r,_=>by rw [List.nil_append,Kr,List.append_nil]
 |c::x,cur,r,h=>by
  rw [List.cons_append,AO _ _ _ (fun e=>h (by rw [←e.1];exact .head _)),Qz x _ r (fun m=>h (.tail _ m))];simp
theorem Qy:∀(x cur:Str),(59:UInt8)∉x→iF false cur x=[cur++x]
 |[],cur,_=>by rw [iF,List.append_nil]
 |c::x,cur,h=>by
  rw [AO _ _ _ (fun e=>h (by rw [←e.1];exact .head _)),Qy x _ (fun m=>h (.tail _ m))];simp
theorem Nc:∀(l:List Str),l≠[]→(∀x∈l,(59:UInt8)∉x)→lY (Lib.join l jC)=l
 |[],h,_=>absurd rfl h
 |[a],_,h=>by unfold lY;rw [Lib.join_one,Qy a [] (h a (by simp))];rfl
 |a::b::r,_,h=>by
  have ih:=Nc (b::r) (by simp) (fun x hx=>h x (.tail _ hx))
  unfold lY at ih ⊢
  rw [fA,List.append_assoc,show jC++Lib.join (b::r) jC=59::32::Lib.join (b::r) jC from rfl,Qz a [] _ (h a (by simp)),ih];rfl
theorem Hl:∀(s cur:Str) (b:Bool),iF b cur s≠[]
 |[],cur,b=>by cases b<;>simp [iF]
 |c::r,cur,true=>by rw [iF];exact Hl r cur false
 |c::r,cur,false=>by
  rw [iF];split
  ·simp
  ·exact Hl r _ false
theorem Gm:∀(n:Nat) (s cur:Str),s.length≤n→Lib.join (iF false cur s) jC=cur++s
 |_,[],cur,_=>by rw [iF,Lib.join_one,List.append_nil]
 |0,c::r,cur,h=>by simp at h
 |n+1,c::r,cur,h=>by
  by_cases hc:c=59∧r.head?=some 32
  ·obtain ⟨rfl,hr⟩:=hc
   cases r with
   |nil=>cases hr
   |cons d r=>
    obtain rfl:d=32:=by simpa using hr
    rw [Kr]
    have ih:=Gm n r [] (by simp at h ⊢;omega)
    cases hl:iF false [] r with
    |nil=>exact absurd hl (Hl r [] false)
    |cons b l=>rw [hl] at ih;rw [fA,ih];simp [jC]
  ·rw [AO _ _ _ hc,Gm n r _ (by simp at h ⊢;omega)];simp
theorem ZI (s:Str):Lib.join (lY s) jC=s:=by unfold lY;rw [Gm s.length s [] (Nat.le_refl _)];rfl
theorem D5:∀(s cur:Str) (b:Bool),(iF b cur s).length≤s.length+1
 |[],cur,b=>by cases b<;>simp [iF]
 |c::r,cur,true=>by rw [iF];have:=D5 r cur false;simp;omega
 |c::r,cur,false=>by
  rw [iF];split
  ·have:=D5 r [] true;simp;omega
  ·have:=D5 r (cur++[c]) false;simp;omega
theorem D6:∀(s cur:Str) (b:Bool),∀x∈iF b cur s,x.length≤cur.length+s.length
 |[],cur,b,x,h=>by cases b<;>(simp [iF] at h;subst h;simp)
 |c::r,cur,true,x,h=>by rw [iF] at h;have:=D6 r cur false x h;simp;omega
 |c::r,cur,false,x,h=>by
  rw [iF] at h
  split at h
  ·rcases List.mem_cons.1 h with rfl|h
   ·simp
   ·have:=D6 r [] true x h;simp at this ⊢;omega
  ·have:=D6 r _ false x h;simp at this ⊢;omega
theorem YJ (c:UInt8) (r:Str):jC.isPrefixOf (c::r)=(c==59&&r.head?==some 32):=by
 cases r with
 |nil=>simp [jC,List.isPrefixOf]
 |cons d r=>
  rw [Bool.eq_iff_iff]
  simp [jC]
  constructor
  ·rintro ⟨h1,h2⟩;exact ⟨h1.symm,h2.symm⟩
  ·rintro ⟨h1,h2⟩;exact ⟨h1.symm,h2.symm⟩
theorem ag0:∀(s cur:Str),(Lib.index s jC= -1∧iF false cur s=[cur++s])∨(∃i:Nat,Lib.index s jC=i∧i+2≤s.length∧iF false cur s=(cur++s.take i)::iF false [] (s.drop (i+2)))
 |[],cur=> .inl ⟨rfl,by rw [iF,List.append_nil]⟩
 |c::r,cur=>by
  by_cases h:c=59∧r.head?=some 32
  ·obtain ⟨rfl,hr⟩:=h
   cases r with
   |nil=>cases hr
   |cons d r=>
    obtain rfl:d=32:=by simpa using hr
    refine .inr ⟨0,?_,by simp,?_⟩
    ·unfold Lib.index
     rw [YJ];rfl
    ·rw [Kr];simp
  ·have hp:jC.isPrefixOf (c::r)=false:=by
    rw [YJ]
    cases hb:(c==59&&r.head?==some 32) with
    |false=>rfl
    |true=>simp only [Bool.and_eq_true,beq_iff_eq] at hb;exact absurd hb h
   rw [AO _ _ _ h]
   unfold Lib.index
   rw [hp,if_neg (by decide)]
   rcases ag0 r (cur++[c]) with ⟨h1,h2⟩|⟨i,h1,h2,h3⟩
   ·left;rw [h1,h2];simp
   ·right
    refine ⟨i+1,?_,by simp;omega,?_⟩
    ·rw [h1,if_neg (by rw [beq_iff_eq];omega)];simp
    ·rw [h3];simp
theorem adz (s:Str):(Lib.index s jC= -1∧lY s=[s])∨(∃i:Nat,Lib.index s jC=i∧i+2≤s.length∧lY s=s.take i::lY (s.drop (i+2))):=by
 have:=ag0 s []
 simpa [lY] using this
theorem Na:∀(n:Nat) (s:Str),s.length≤n→Lib.splitK jC 0 (Lib.count s jC) s=lY s
 |n,s,hn=>by
  rcases adz s with ⟨h1,h2⟩|⟨i,h1,h2,h3⟩
  ·rw [Lib.count_miss h1,h2];rfl
  ·have hc:=Lib.count_hit (sub:=jC) (by decide) h1
   have hl:jC.length=2:=rfl
   rw [hl] at hc
   cases n with
   |zero=>omega
   |succ n=>
    have ih:=Na n (s.drop (i+2)) (by simp;omega)
    rw [hc,Nat.add_comm,Lib.splitK,if_neg (by rw [h1,beq_iff_eq];omega),h1,hl,h3]
    simp only [Int.toNat_natCast,Nat.add_zero]
    rw [ih]
theorem aar (s:ByteArray):(Lib.splitB ⟨#[59,32]⟩ 0 (Lib.countB s ⟨#[59,32]⟩) s).map L=lY (L s):=by
 have h:=Lib.splitB_data ⟨#[59,32]⟩ 0 (Lib.countB s ⟨#[59,32]⟩) s
 exact h.trans (Na _ (L s) (Nat.le_refl _))
def jW (l:List Ef):Str:=if l≠[]∧l.length≤8∧(l.all fun e=>jl e 4)=true then Lib.join (l.map dB) jC else []
def qc:List Ef→List Str→Option (List Ef)
 |out,[]=>some out
 |out,p::r=>match fC p with
  |none=>none
  |some m=>if out.length=8 then none else qc (out++[m]) r
def kH (s:Str):Option (List Ef):=qc [] (lY s)
theorem OT:∀(ps:List Str) (out l:List Ef),qc out ps=some l→out.length≤8→(out.all fun e=>jl e 4)=true→(l.all fun e=>jl e 4)=true∧l.length≤8∧l.map dB=out.map dB++ps
 |[],out,l,h,h6,ha=>by rw [qc] at h;injection h with h;subst h;exact ⟨ha,h6,by simp⟩
 |p::r,out,l,h,h6,ha=>by
  rw [qc] at h
  cases hp:fC p with
  |none=>rw [hp] at h;cases h
  |some m=>
   rw [hp] at h
   simp only at h
   split at h
   ·cases h
   ·obtain ⟨h1,h2⟩:=Ej hp
    obtain ⟨i1,i2,i3⟩:=OT r (out++[m]) l h (by simp;omega) (by simp [ha,h1])
    exact ⟨i1,i2,by rw [i3];simp [h2]⟩
theorem OU:∀(l out:List Ef),(l.all fun e=>jl e 4)=true→out.length+l.length≤8→qc out (l.map dB)=some (out++l)
 |[],out,_,_=>by simp [qc]
 |m::l,out,h,h6=>by
  simp only [List.all_cons,Bool.and_eq_true] at h
  simp only [List.length_cons] at h6
  rw [List.map_cons,qc,En h.1]
  simp only
  rw [if_neg (by omega),OU l (out++[m]) h.2 (by simp;omega)]
  simp
theorem BM {l:List Ef} (h0:l≠[]) (h6:l.length≤8) (h:(l.all fun e=>jl e 4)=true):kH (jW l)=some l:=by
 unfold kH jW
 rw [if_pos ⟨h0,h6,h⟩,Nc _ (by simpa using h0) (fun x hx=>by obtain ⟨e,_,rfl⟩:=List.mem_map.1 hx;exact FV e),OU l [] h (by simpa using h6)]
 rfl
theorem Ji {s:Str} {l:List Ef} (h:kH s=some l):l≠[]∧l.length≤8∧(l.all fun e=>jl e 4)=true∧jW l=s:=by
 obtain ⟨h1,h2,h3⟩:=OT (lY s) [] l h (by simp) rfl
 simp only [List.map_nil,List.nil_append] at h3
 have h0:l≠[]:=fun e=>by
  rw [e] at h3
  exact Hl s [] false h3.symm
 refine ⟨h0,h2,h1,?_⟩
 unfold jW
 rw [if_pos ⟨h0,h2,h1⟩,h3,ZI]
theorem TI {l:List Ef} (h:jW l≠[]):l≠[]∧l.length≤8∧(l.all fun e=>jl e 4)=true:=by
 unfold jW at h
 split at h
 ·assumption
 ·exact absurd rfl h
theorem acr {l:List Ef} (h0:l≠[]) (h6:l.length≤8) (h:(l.all fun e=>jl e 4)=true):jW l≠[]:=by
 intro e
 have:=BM h0 h6 h
 rw [e] at this
 have e2:kH []=none:=by
  unfold kH lY
  rw [iF,qc]
  simp only [Jg]
 rw [e2] at this;cases this
theorem WU {s:Str} {o:Option (List Ef)} (h1:∀t,o=some t→jW t=s∧s≠[]) (h2:o=none→∀t,jW t=s→s≠[]→False):o=kH s:=by
 cases o with
 |some t=>
  obtain ⟨a,b⟩:=h1 t rfl
  rw [←a] at b
  obtain ⟨x,y,z⟩:=TI b
  rw [←a,BM x y z]
 |none=>
  cases hp:kH s with
  |none=>rfl
  |some t=>
   obtain ⟨a,b,c,d⟩:=Ji hp
   exact absurd (h2 rfl t d (d ▸ acr a b c)) id
theorem QX (n:Nat) (c:UInt8):pU n c=bP n c.toNat:=by
 rw [Tq]
 unfold bP
 by_cases h1:c.toNat=40∨c.toNat=91
 ·rw [if_pos h1,if_pos h1]
 ·rw [if_neg h1,if_neg h1]
  by_cases h2:c.toNat=41∨c.toNat=93
  ·rw [if_pos h2]
   split
   ·rfl
   ·rename_i h
    have:n=0:=by
     rcases Nat.eq_zero_or_pos n with h0|h0
     ·exact h0
     ·exact absurd ⟨h2,h0⟩ h
    subst this;rfl
  ·rw [if_neg h2,if_neg (fun h=>h2 h.1)]
theorem WO (c:UInt8) (s:Str):∀i,i≤s.length→eX c.toNat s=(dst c s i).1++splitAux c.toNat (mO (s.take i)) ((s.take i).drop (dst c s i).2) (s.drop i)
 |0,_=>by simp [dst,eX,mO]
 |i+1,hi=>by
  have ih:=WO c s i (by omega)
  have hk:i<s.length:=by omega
  obtain ⟨hle,_⟩:=WQ c s i
  rw [ih,Iz hk]
  have hd:mO (s.take (i+1))=bP (mO (s.take i)) (aI s i):=by
   rw [Hq hk,Tn,QX];rfl
  have hc:(s.getD i 0==c&&mO (s.take i)==0)=true↔(aI s i=c.toNat∧mO (s.take i)=0):=by
   rw [Bool.and_eq_true,beq_iff_eq,beq_iff_eq]
   refine and_congr_left fun _=> ?_
   unfold aI
   exact ⟨fun h=>by rw [h],fun h=>UInt8.toNat_inj.1 h⟩
  rw [dst]
  by_cases h:aI s i=c.toNat∧mO (s.take i)=0
  ·rw [if_pos h,if_pos (hc.2 h),hd]
   have e:(s.take (i+1)).drop (i+1)=[]:=by simp [List.drop_eq_nil_of_le]
   simp only [e,List.append_assoc,List.cons_append,List.nil_append]
  ·rw [if_neg h,if_neg (fun g=>h (hc.1 g)),hd]
   rw [Fj s hle hk]
theorem wY (c:UInt8) (s:Str):gu c s=eX c.toNat s:=by
 rw [WO c s s.length (Nat.le_refl _),List.drop_length,splitAux,List.take_length]
 rfl
def lJ (s:Str) (a b:UInt8):Option Str:=if s.length<2∨aI s 0≠a.toNat∨aI s (s.length - 1)≠b.toNat then none else some ((s.take (s.length - 1)).drop 1)
def Nk (s:Str):Option Nat:=(List.range' 0 5).find? fun k=>dR (k:Int)==s
def jo (e:Ef) (f:UInt8) (s:Str):Option Ef:=
 if f=114 then (dX s).map fun x=> { e with ref:=x }
 else if f=122 then (Nk s).map fun x=> { e with zone:=(x:Int) }
 else if f=107 then (jF s).map fun x=> { e with ctr:=(x:Int) }
 else if f=99 then some { e with card:=B s }
 else if f=97 then (eY s).map fun x=> { e with amt:=x }
 else if f=109 then ((lJ s 91 93).bind fF).map fun x=> { e with mods:=x }
 else if f=112 then (dU s).map fun x=> { e with pool:=x }
 else ((lJ s 40 41).bind bW).map fun x=> { e with flt:=x }
def gy:Ef→List UInt8→List Str→Option Ef
 |e,f::fs,w::ws=>(jo e f w).bind fun e'=>gy e' fs ws
 |e,_,_=>some e
def gW (op:Int):Ef:=⟨op,dY,dG,0,0,⟨#[]⟩,aaB,bn,[]⟩
def qOp (s:Str):Int:=yF ((gu 32 s).getD 0 [])
def qE (s:Str):Option Ef:=
 if qOp s=0∨(gu 32 s).length≠1+(dF (qOp s)).length then none
 else match gy (gW (qOp s)) (dF (qOp s)) ((gu 32 s).drop 1) with
  |none=>none
  |some e=>if jl e 4=true∧dB e=s then some e else none
def mQ (e:Ef) (f:UInt8):Str:=
 if f=114 then dI e.ref else if f=122 then dR e.zone else if f=107 then dw e.ctr else if f=99 then L e.card else if f=97 then dW e.amt else if f=109 then yZ e.mods else if f=112 then jY e.pool else Gg e.flt
theorem H8 (e:Ef) (h:∃k:Fin 27,e.op=(k.val:Int)∧1≤k.val):kM e=opName e.op::(dF e.op).map (mQ e):=by
 obtain ⟨op,ref,amt,ctr,zone,card,flt,pool,mods⟩:=e
 obtain ⟨⟨k,hk⟩,h1,h2⟩:=h
 simp only at h1 h2
 subst h1
 have:k=1∨k=2∨k=3∨k=4∨k=5∨k=6∨k=7∨k=8∨k=9∨k=10∨k=11∨k=12∨k=13∨k=14∨k=15∨k=16∨k=17∨k=18∨k=19∨k=20∨k=21∨k=22∨k=23∨k=24∨k=25∨k=26:=by omega
 rcases this with rfl|rfl|rfl|rfl|rfl|rfl|rfl|rfl|rfl|rfl|rfl|rfl|rfl|rfl|rfl|rfl|rfl|rfl|rfl|rfl|rfl|rfl|rfl|rfl|rfl|rfl
 all_goals rfl
theorem L6 (a b:UInt8) (m:Str):lJ (a::(m++[b])) a b=some m:=by
 unfold lJ
 have e1:aI (a::(m++[b])) 0=a.toNat:=rfl
 have e2:aI (a::(m++[b])) ((a::(m++[b])).length - 1)=b.toNat:=by simp [aI,List.getD]
 rw [if_neg (by rw [e1,e2];simp)]
 simp
theorem ajF (z:Int) (h0:0≤z) (h1:z≤4):∃k,Nk (dR z)=some k∧(k:Int)=z:=by
 have:∀k:Fin 5,Nk (dR (k.val:Int))=some k.val:=by decide +kernel
 have:=this ⟨z.toNat,by omega⟩
 simp only at this
 rw [show ((z.toNat:Nat):Int)=z by omega] at this
 exact ⟨_,this,by omega⟩
theorem ab1 (c:Int) (h:c=0∨c=1∨c=2):∃k,jF (dw c)=some k∧(k:Int)=c:=by
 rcases h with rfl|rfl|rfl
 ·exact ⟨0,by decide +kernel,rfl⟩
 ·exact ⟨1,by decide +kernel,rfl⟩
 ·exact ⟨2,by decide +kernel,rfl⟩
theorem amw {e:Ef} (e0:Ef) (h:fRef e 4=true) (hu:uR e.op=true):jo e0 114 (mQ e 114)=some { e0 with ref:=e.ref } :=by
 unfold fRef at h;rw [if_pos hu] at h
 show (dX (dI e.ref)).map _=_
 rw [vG h];rfl
theorem ai6 {e:Ef} (e0:Ef) (h:oC e=true) (hu:uZ e.op=true):jo e0 122 (mQ e 122)=some { e0 with zone:=e.zone } :=by
 unfold oC at h;rw [if_pos hu] at h
 simp only [Bool.and_eq_true,decide_eq_true_eq] at h
 obtain ⟨k,h1,h2⟩:=ajF _ h.1 h.2
 simp (decide:=true) only [jo,mQ,if_true,if_false]
 rw [h1];simp [h2]
theorem amu {e:Ef} (e0:Ef) (h:rH e=true) (hu:uK e.op=true):jo e0 107 (mQ e 107)=some { e0 with ctr:=e.ctr } :=by
 unfold rH at h;rw [if_pos hu] at h
 obtain ⟨k,h1,h2⟩:=ab1 _ (BF (not_nil h))
 simp (decide:=true) only [jo,mQ,if_true,if_false]
 rw [h1];simp [h2]
theorem ai3 (e e0:Ef):jo e0 99 (mQ e 99)=some { e0 with card:=e.card } :=by
 show some { e0 with card:=B (L e.card) } =_
 rw [qV]
theorem ams {e:Ef} (e0:Ef) (h:rG e=true) (hu:uA e.op=true):jo e0 97 (mQ e 97)=some { e0 with amt:=e.amt } :=by
 unfold rG at h;rw [if_pos hu] at h
 show (eY (dW e.amt)).map _=_
 rw [Bq h];rfl
theorem ai4 {e:Ef} (e0:Ef) (h:ou e=true) (hu:uM e.op=true):jo e0 109 (mQ e 109)=some { e0 with mods:=e.mods } :=by
 unfold ou at h;rw [if_pos hu] at h
 obtain ⟨a,b,c⟩:=acX h
 show ((lJ (91::(eH e.mods++[93])) 91 93).bind fF).map _=_
 rw [L6,Option.bind_some,JG a b c];rfl
theorem ai5 {e:Ef} (e0:Ef) (h:oz e=true) (hu:uP e.op=true):jo e0 112 (mQ e 112)=some { e0 with pool:=e.pool } :=by
 unfold oz at h;rw [if_pos hu,Bool.and_eq_true] at h
 show (dU (jY e.pool)).map _=_
 rw [JR ((Gy _).1 (not_nil h.2))];rfl
theorem amv {e:Ef} (e0:Ef) (h:qL e=true) (hu:uF e.op=true):jo e0 102 (mQ e 102)=some { e0 with flt:=e.flt } :=by
 unfold qL at h;rw [if_pos hu,Bool.and_eq_true] at h
 show ((lJ (40::(textOf e.flt++[41])) 40 41).bind bW).map _=_
 rw [L6,Option.bind_some,nI h.1];rfl
theorem aoN {e:Ef} (h:fRef e 4=true) (hu:uR e.op=false):e.ref=dY:=by
 unfold fRef at h;rw [if_neg (by rw [hu];decide)] at h;exact (NY _ _).1 h
theorem aoK {e:Ef} (h:rG e=true) (hu:uA e.op=false):e.amt=dG:=by
 unfold rG at h;rw [if_neg (by rw [hu];decide)] at h;exact (Nr _ _).1 h
theorem aoL {e:Ef} (h:rH e=true) (hu:uK e.op=false):e.ctr=0:=by
 unfold rH at h;rw [if_neg (by rw [hu];decide)] at h;exact beq_iff_eq.1 h
theorem alS {e:Ef} (h:oC e=true) (hu:uZ e.op=false):e.zone=0:=by
 unfold oC at h;rw [if_neg (by rw [hu];decide)] at h;exact beq_iff_eq.1 h
theorem no_card {e:Ef} (h:fCard e=true) (hu:uC e.op=false):e.card=⟨#[]⟩:=by
 unfold fCard at h;rw [if_neg (by rw [hu];decide)] at h
 have:=beq_iff_eq.1 h
 rw [←qV e.card,this];rfl
theorem aoM {e:Ef} (h:qL e=true) (hu:uF e.op=false):e.flt=aaB:=by
 unfold qL at h;rw [if_neg (by rw [hu];decide)] at h;exact (lI _ _).1 h
theorem alR {e:Ef} (h:oz e=true) (hu:uP e.op=false):e.pool=bn:=by
 unfold oz at h;rw [if_neg (by rw [hu];decide)] at h;exact (NQ _ _).1 h
theorem alQ {e:Ef} (h:ou e=true) (hu:uM e.op=false):e.mods=[]:=by
 unfold ou at h;rw [if_neg (by rw [hu];decide)] at h
 exact List.eq_nil_of_length_eq_zero (by simpa using h)
theorem Yx {e:Ef} (h:jl e 4=true):gy (gW e.op) (dF e.op) ((dF e.op).map (mQ e))=some e:=by
 have o:=Eo h
 have r1:=fun e0=>amw (e:=e) e0 o.ref
 have r2:=fun e0=>ams (e:=e) e0 o.amt
 have r3:=fun e0=>amu (e:=e) e0 o.ctr
 have r4:=fun e0=>ai6 (e:=e) e0 o.zone
 have r5:=fun e0=>ai3 e e0
 have r6:=fun e0=>amv (e:=e) e0 o.flt
 have r7:=fun e0=>ai5 (e:=e) e0 o.pool
 have r8:=fun e0=>ai4 (e:=e) e0 o.mods
 have n1:=aoN o.ref
 have n2:=aoK o.amt
 have n3:=aoL o.ctr
 have n4:=alS o.zone
 have n5:=no_card o.card
 have n6:=aoM o.flt
 have n7:=alR o.pool
 have n8:=alQ o.mods
 obtain ⟨⟨k,hk⟩,h1,h2⟩:=o.PX
 clear o h
 obtain ⟨op,ref,amt,ctr,zone,card,flt,pool,mods⟩:=e
 simp only at h1 h2 r1 r2 r3 r4 r5 r6 r7 r8 n1 n2 n3 n4 n5 n6 n7 n8
 subst h1
 have:k=1∨k=2∨k=3∨k=4∨k=5∨k=6∨k=7∨k=8∨k=9∨k=10∨k=11∨k=12∨k=13∨k=14∨k=15∨k=16∨k=17∨k=18∨k=19∨k=20∨k=21∨k=22∨k=23∨k=24∨k=25∨k=26:=by omega
 rcases this with rfl|rfl|rfl|rfl|rfl|rfl|rfl|rfl|rfl|rfl|rfl|rfl|rfl|rfl|rfl|rfl|rfl|rfl|rfl|rfl|rfl|rfl|rfl|rfl|rfl|rfl
 ·obtain rfl:=n3 (by decide)
  obtain rfl:=n4 (by decide)
  obtain rfl:=n5 (by decide)
  obtain rfl:=n6 (by decide)
  obtain rfl:=n7 (by decide)
  obtain rfl:=n8 (by decide)
  have q1:=fun e0=>r1 e0 (by decide)
  have q2:=fun e0=>r2 e0 (by decide)
  simp (decide:=true) only [dF,wd,kK,if_true,Int.toNat_natCast,List.getD_cons_succ,List.getD_cons_zero,List.map_cons,List.map_nil,gy,gW,Option.bind_some,q1,q2]
 ·obtain rfl:=n2 (by decide)
  obtain rfl:=n3 (by decide)
  obtain rfl:=n4 (by decide)
  obtain rfl:=n5 (by decide)
  obtain rfl:=n6 (by decide)
  obtain rfl:=n7 (by decide)
  obtain rfl:=n8 (by decide)
  have q1:=fun e0=>r1 e0 (by decide)
  simp (decide:=true) only [dF,wd,kK,if_true,Int.toNat_natCast,List.getD_cons_succ,List.getD_cons_zero,List.map_cons,List.map_nil,gy,gW,Option.bind_some,q1]
 ·obtain rfl:=n2 (by decide)
  obtain rfl:=n3 (by decide)
  obtain rfl:=n5 (by decide)
  obtain rfl:=n6 (by decide)
  obtain rfl:=n7 (by decide)
  obtain rfl:=n8 (by decide)
  have q1:=fun e0=>r1 e0 (by decide)
  have q4:=fun e0=>r4 e0 (by decide)
  simp (decide:=true) only [dF,wd,kK,if_true,Int.toNat_natCast,List.getD_cons_succ,List.getD_cons_zero,List.map_cons,List.map_nil,gy,gW,Option.bind_some,q1,q4]
 ·obtain rfl:=n3 (by decide)
  obtain rfl:=n4 (by decide)
  obtain rfl:=n5 (by decide)
  obtain rfl:=n6 (by decide)
  obtain rfl:=n7 (by decide)
  obtain rfl:=n8 (by decide)
  have q1:=fun e0=>r1 e0 (by decide)
  have q2:=fun e0=>r2 e0 (by decide)
  simp (decide:=true) only [dF,wd,kK,if_true,Int.toNat_natCast,List.getD_cons_succ,List.getD_cons_zero,List.map_cons,List.map_nil,gy,gW,Option.bind_some,q1,q2]
 ·obtain rfl:=n3 (by decide)
  obtain rfl:=n4 (by decide)
  obtain rfl:=n5 (by decide)
  obtain rfl:=n6 (by decide)
  obtain rfl:=n7 (by decide)
  obtain rfl:=n8 (by decide)
  have q1:=fun e0=>r1 e0 (by decide)
  have q2:=fun e0=>r2 e0 (by decide)
  simp (decide:=true) only [dF,wd,kK,if_true,Int.toNat_natCast,List.getD_cons_succ,List.getD_cons_zero,List.map_cons,List.map_nil,gy,gW,Option.bind_some,q1,q2]
 ·obtain rfl:=n3 (by decide)
  obtain rfl:=n4 (by decide)
  obtain rfl:=n5 (by decide)
  obtain rfl:=n6 (by decide)
  obtain rfl:=n7 (by decide)
  obtain rfl:=n8 (by decide)
  have q1:=fun e0=>r1 e0 (by decide)
  have q2:=fun e0=>r2 e0 (by decide)
  simp (decide:=true) only [dF,wd,kK,if_true,Int.toNat_natCast,List.getD_cons_succ,List.getD_cons_zero,List.map_cons,List.map_nil,gy,gW,Option.bind_some,q1,q2]
 ·obtain rfl:=n3 (by decide)
  obtain rfl:=n4 (by decide)
  obtain rfl:=n5 (by decide)
  obtain rfl:=n6 (by decide)
  obtain rfl:=n7 (by decide)
  obtain rfl:=n8 (by decide)
  have q1:=fun e0=>r1 e0 (by decide)
  have q2:=fun e0=>r2 e0 (by decide)
  simp (decide:=true) only [dF,wd,kK,if_true,Int.toNat_natCast,List.getD_cons_succ,List.getD_cons_zero,List.map_cons,List.map_nil,gy,gW,Option.bind_some,q1,q2]
 ·obtain rfl:=n2 (by decide)
  obtain rfl:=n3 (by decide)
  obtain rfl:=n4 (by decide)
  obtain rfl:=n5 (by decide)
  obtain rfl:=n6 (by decide)
  obtain rfl:=n7 (by decide)
  obtain rfl:=n8 (by decide)
  have q1:=fun e0=>r1 e0 (by decide)
  simp (decide:=true) only [dF,wd,kK,if_true,Int.toNat_natCast,List.getD_cons_succ,List.getD_cons_zero,List.map_cons,List.map_nil,gy,gW,Option.bind_some,q1]
 ·obtain rfl:=n2 (by decide)
  obtain rfl:=n3 (by decide)
  obtain rfl:=n4 (by decide)
  obtain rfl:=n5 (by decide)
  obtain rfl:=n6 (by decide)
  obtain rfl:=n7 (by decide)
  obtain rfl:=n8 (by decide)
  have q1:=fun e0=>r1 e0 (by decide)
  simp (decide:=true) only [dF,wd,kK,if_true,Int.toNat_natCast,List.getD_cons_succ,List.getD_cons_zero,List.map_cons,List.map_nil,gy,gW,Option.bind_some,q1]
 ·obtain rfl:=n4 (by decide)
  obtain rfl:=n5 (by decide)
  obtain rfl:=n6 (by decide)
  obtain rfl:=n7 (by decide)
  obtain rfl:=n8 (by decide)
  have q1:=fun e0=>r1 e0 (by decide)
  have q2:=fun e0=>r2 e0 (by decide)
  have q3:=fun e0=>r3 e0 (by decide)
  simp (decide:=true) only [dF,wd,kK,if_true,Int.toNat_natCast,List.getD_cons_succ,List.getD_cons_zero,List.map_cons,List.map_nil,gy,gW,Option.bind_some,q1,q2,q3]
 ·obtain rfl:=n4 (by decide)
  obtain rfl:=n5 (by decide)
  obtain rfl:=n6 (by decide)
  obtain rfl:=n7 (by decide)
  obtain rfl:=n8 (by decide)
  have q1:=fun e0=>r1 e0 (by decide)
  have q2:=fun e0=>r2 e0 (by decide)
  have q3:=fun e0=>r3 e0 (by decide)
  simp (decide:=true) only [dF,wd,kK,if_true,Int.toNat_natCast,List.getD_cons_succ,List.getD_cons_zero,List.map_cons,List.map_nil,gy,gW,Option.bind_some,q1,q2,q3]
 ·obtain rfl:=n3 (by decide)
  obtain rfl:=n4 (by decide)
  obtain rfl:=n6 (by decide)
  obtain rfl:=n7 (by decide)
  obtain rfl:=n8 (by decide)
  have q1:=fun e0=>r1 e0 (by decide)
  have q2:=fun e0=>r2 e0 (by decide)
  have q5:=r5
  simp (decide:=true) only [dF,wd,kK,if_true,Int.toNat_natCast,List.getD_cons_succ,List.getD_cons_zero,List.map_cons,List.map_nil,gy,gW,Option.bind_some,q1,q2,q5]
 ·obtain rfl:=n2 (by decide)
  obtain rfl:=n3 (by decide)
  obtain rfl:=n4 (by decide)
  obtain rfl:=n5 (by decide)
  obtain rfl:=n6 (by decide)
  obtain rfl:=n7 (by decide)
  have q1:=fun e0=>r1 e0 (by decide)
  have q8:=fun e0=>r8 e0 (by decide)
  simp (decide:=true) only [dF,wd,kK,if_true,Int.toNat_natCast,List.getD_cons_succ,List.getD_cons_zero,List.map_cons,List.map_nil,gy,gW,Option.bind_some,q1,q8]
 ·obtain rfl:=n1 (by decide)
  obtain rfl:=n2 (by decide)
  obtain rfl:=n3 (by decide)
  obtain rfl:=n4 (by decide)
  obtain rfl:=n5 (by decide)
  obtain rfl:=n6 (by decide)
  obtain rfl:=n8 (by decide)
  have q7:=fun e0=>r7 e0 (by decide)
  simp (decide:=true) only [dF,wd,kK,if_true,Int.toNat_natCast,List.getD_cons_succ,List.getD_cons_zero,List.map_cons,List.map_nil,gy,gW,Option.bind_some,q7]
 ·obtain rfl:=n2 (by decide)
  obtain rfl:=n3 (by decide)
  obtain rfl:=n4 (by decide)
  obtain rfl:=n5 (by decide)
  obtain rfl:=n6 (by decide)
  obtain rfl:=n7 (by decide)
  obtain rfl:=n8 (by decide)
  have q1:=fun e0=>r1 e0 (by decide)
  simp (decide:=true) only [dF,wd,kK,if_true,Int.toNat_natCast,List.getD_cons_succ,List.getD_cons_zero,List.map_cons,List.map_nil,gy,gW,Option.bind_some,q1]
 ·obtain rfl:=n2 (by decide)
  obtain rfl:=n3 (by decide)
  obtain rfl:=n4 (by decide)
  obtain rfl:=n5 (by decide)
  obtain rfl:=n6 (by decide)
  obtain rfl:=n7 (by decide)
  obtain rfl:=n8 (by decide)
  have q1:=fun e0=>r1 e0 (by decide)
  simp (decide:=true) only [dF,wd,kK,if_true,Int.toNat_natCast,List.getD_cons_succ,List.getD_cons_zero,List.map_cons,List.map_nil,gy,gW,Option.bind_some,q1]
 ·obtain rfl:=n2 (by decide)
  obtain rfl:=n3 (by decide)
  obtain rfl:=n4 (by decide)
  obtain rfl:=n5 (by decide)
  obtain rfl:=n6 (by decide)
  obtain rfl:=n7 (by decide)
  obtain rfl:=n8 (by decide)
  have q1:=fun e0=>r1 e0 (by decide)
  simp (decide:=true) only [dF,wd,kK,if_true,Int.toNat_natCast,List.getD_cons_succ,List.getD_cons_zero,List.map_cons,List.map_nil,gy,gW,Option.bind_some,q1]
 ·obtain rfl:=n3 (by decide)
  obtain rfl:=n4 (by decide)
  obtain rfl:=n5 (by decide)
  obtain rfl:=n7 (by decide)
  obtain rfl:=n8 (by decide)
  have q1:=fun e0=>r1 e0 (by decide)
  have q2:=fun e0=>r2 e0 (by decide)
  have q6:=fun e0=>r6 e0 (by decide)
  simp (decide:=true) only [dF,wd,kK,if_true,Int.toNat_natCast,List.getD_cons_succ,List.getD_cons_zero,List.map_cons,List.map_nil,gy,gW,Option.bind_some,q1,q2,q6]
 ·obtain rfl:=n3 (by decide)
  obtain rfl:=n4 (by decide)
  obtain rfl:=n5 (by decide)
  obtain rfl:=n6 (by decide)
  obtain rfl:=n7 (by decide)
  obtain rfl:=n8 (by decide)
  have q1:=fun e0=>r1 e0 (by decide)
  have q2:=fun e0=>r2 e0 (by decide)
  simp (decide:=true) only [dF,wd,kK,if_true,Int.toNat_natCast,List.getD_cons_succ,List.getD_cons_zero,List.map_cons,List.map_nil,gy,gW,Option.bind_some,q1,q2]
 ·obtain rfl:=n1 (by decide)
  obtain rfl:=n3 (by decide)
  obtain rfl:=n4 (by decide)
  obtain rfl:=n5 (by decide)
  obtain rfl:=n6 (by decide)
  obtain rfl:=n7 (by decide)
  obtain rfl:=n8 (by decide)
  have q2:=fun e0=>r2 e0 (by decide)
  simp (decide:=true) only [dF,wd,kK,if_true,Int.toNat_natCast,List.getD_cons_succ,List.getD_cons_zero,List.map_cons,List.map_nil,gy,gW,Option.bind_some,q2]
 ·obtain rfl:=n1 (by decide)
  obtain rfl:=n2 (by decide)
  obtain rfl:=n3 (by decide)
  obtain rfl:=n4 (by decide)
  obtain rfl:=n5 (by decide)
  obtain rfl:=n7 (by decide)
  obtain rfl:=n8 (by decide)
  have q6:=fun e0=>r6 e0 (by decide)
  simp (decide:=true) only [dF,wd,kK,if_true,Int.toNat_natCast,List.getD_cons_succ,List.getD_cons_zero,List.map_cons,List.map_nil,gy,gW,Option.bind_some,q6]
 ·obtain rfl:=n3 (by decide)
  obtain rfl:=n4 (by decide)
  obtain rfl:=n5 (by decide)
  obtain rfl:=n6 (by decide)
  obtain rfl:=n7 (by decide)
  obtain rfl:=n8 (by decide)
  have q1:=fun e0=>r1 e0 (by decide)
  have q2:=fun e0=>r2 e0 (by decide)
  simp (decide:=true) only [dF,wd,kK,if_true,Int.toNat_natCast,List.getD_cons_succ,List.getD_cons_zero,List.map_cons,List.map_nil,gy,gW,Option.bind_some,q1,q2]
 ·obtain rfl:=n1 (by decide)
  obtain rfl:=n2 (by decide)
  obtain rfl:=n3 (by decide)
  obtain rfl:=n4 (by decide)
  obtain rfl:=n5 (by decide)
  obtain rfl:=n6 (by decide)
  obtain rfl:=n7 (by decide)
  obtain rfl:=n8 (by decide)
  simp (decide:=true) only [dF,wd,kK,if_true,Int.toNat_natCast,List.getD_cons_succ,List.getD_cons_zero,List.map_cons,List.map_nil,gy,gW,Option.bind_some]
 ·obtain rfl:=n1 (by decide)
  obtain rfl:=n2 (by decide)
  obtain rfl:=n3 (by decide)
  obtain rfl:=n4 (by decide)
  obtain rfl:=n5 (by decide)
  obtain rfl:=n6 (by decide)
  obtain rfl:=n7 (by decide)
  obtain rfl:=n8 (by decide)
  simp (decide:=true) only [dF,wd,kK,if_true,Int.toNat_natCast,List.getD_cons_succ,List.getD_cons_zero,List.map_cons,List.map_nil,gy,gW,Option.bind_some]
 ·obtain rfl:=n2 (by decide)
  obtain rfl:=n3 (by decide)
  obtain rfl:=n4 (by decide)
  obtain rfl:=n5 (by decide)
  obtain rfl:=n6 (by decide)
  obtain rfl:=n7 (by decide)
  obtain rfl:=n8 (by decide)
  have q1:=fun e0=>r1 e0 (by decide)
  simp (decide:=true) only [dF,wd,kK,if_true,Int.toNat_natCast,List.getD_cons_succ,List.getD_cons_zero,List.map_cons,List.map_nil,gy,gW,Option.bind_some,q1]
 ·obtain rfl:=n3 (by decide)
  obtain rfl:=n4 (by decide)
  obtain rfl:=n5 (by decide)
  obtain rfl:=n6 (by decide)
  obtain rfl:=n7 (by decide)
  obtain rfl:=n8 (by decide)
  have q1:=fun e0=>r1 e0 (by decide)
  have q2:=fun e0=>r2 e0 (by decide)
  simp (decide:=true) only [dF,wd,kK,if_true,Int.toNat_natCast,List.getD_cons_succ,List.getD_cons_zero,List.map_cons,List.map_nil,gy,gW,Option.bind_some,q1,q2]
theorem aqE (s:Str):qE s=fC s:=by
 refine Zo ?_ ?_
 ·intro t h
  unfold qE at h
  split at h
  ·cases h
  ·split at h
   ·cases h
   ·split at h
    ·rename_i hc
     obtain rfl:=Option.some.inj h
     exact hc
    ·cases h
 ·intro h t h1 h2
  have hw:=Qx h1
  rw [h2] at hw
  have hd:gu 32 s=kM t:=by rw [wY];exact hw
  obtain ⟨k,hk,hk1⟩:=(Eo h1).PX
  have ho:qOp s=t.op:=by
   unfold qOp
   rw [hd]
   show yF (opName t.op)=t.op
   rw [hk];exact Uj k
  have hu:=H8 t (Eo h1).PX
  unfold qE at h
  rw [hd,ho,hu,if_neg,show (opName t.op::(dF t.op).map (mQ t)).drop 1=(dF t.op).map (mQ t) from rfl,Yx h1] at h
  ·simp only [h1,h2,and_self,if_true] at h
   cases h
  ·rintro (e|e)
   ·rw [hk] at e;omega
   ·apply e;simp;omega
def BK (w:Str) (d:Nat):Nat:=w.foldl (fun d c=>bP d c.toNat) d
theorem Sv:∀(w:Str) (d:Nat) (cur r:Str),(59:UInt8)∉w→splitAux 59 d cur (w++r)=splitAux 59 (BK w d) (cur++w) r
 |[],d,cur,r,_=>by simp [BK]
 |c::w,d,cur,r,h=>by
  have hc:¬(c.toNat=59∧d=0):=fun e=>h (by rw [show c=59 from UInt8.toNat_inj.1 e.1];exact .head _)
  rw [List.cons_append,splitAux,if_neg hc,Sv w _ _ _ (fun m=>h (.tail _ m))]
  simp [BK]
theorem RV:∀ {w:Str} {d d':Nat},jh w d=some d'→BK w d=d'
 |[],d,d',h=>by rw [jh] at h;exact Option.some.inj h
 |c::w,d,d',h=>by
  rw [jh] at h
  split at h
  ·cases h
  ·exact RV (w:=w) h
theorem aaO (a b:Str) (d:Nat):BK (a++b) d=BK b (BK a d):=by unfold BK;rw [List.foldl_append]
theorem WJ:∀ {l:List Str},(∀x∈l,jh x 0=some 0)→BK (Lib.join l [32]) 0=0
 |[],_=>rfl
 |[a],h=>by rw [Lib.join_one];exact RV (h a (by simp))
 |a::b::r,h=>by
  rw [fA,aaO,aaO,RV (h a (by simp)),show BK [32] 0=0 from by decide]
  exact WJ fun x hx=>h x (.tail _ hx)
theorem WL {e:Ef} (h:jl e 4=true):BK (dB e) 0=0:=by rw [vZ h];exact WJ (KL h)
def xU:List Str→List Str
 |[]=>[]
 |a::r=>a::r.map fun x=>x.drop 1
theorem Ko:∀(l:List Ef),l≠[]→(l.all fun e=>jl e 4)=true→∀cur,splitAux 59 0 cur (Lib.join (l.map dB) jC)=(match l with|[]=>[]|a::r=>(cur++dB a)::r.map fun e=>32::dB e)
 |[],h,_,_=>absurd rfl h
 |[a],_,h,cur=>by
  simp only [List.all_cons,List.all_nil,Bool.and_true] at h
  have:=Sv (dB a) 0 cur [] (FV a)
  rw [List.append_nil,WL h] at this
  rw [List.map_cons,List.map_nil,Lib.join_one,this];rfl
 |a::b::r,_,h,cur=>by
  rw [List.all_cons,Bool.and_eq_true] at h
  have ih:=Ko (b::r) (by simp) h.2 [32]
  rw [List.map_cons,List.map_cons,fA,List.append_assoc,Sv _ _ _ _ (FV a),WL h.1]
  show splitAux 59 0 (cur++dB a) (59::32::Lib.join (dB b::List.map dB r) jC)=_
  rw [splitAux,if_pos ⟨by decide,rfl⟩,show bP 0 (59:UInt8).toNat=0 from by decide]
  rw [splitAux,if_neg (by decide),show bP 0 (32:UInt8).toNat=0 from by decide]
  rw [List.map_cons] at ih
  rw [List.nil_append,ih]
  simp
def uO:List Str→Option (List Ef)
 |[]=>some []
 |p::r=>(fC p).bind fun e=>(uO r).map fun l=>e::l
def qEl (s:Str):Option (List Ef):=match uO (xU (gu 59 s)) with
 |none=>none
 |some l=>if jW l=s then some l else none
theorem MS:∀(l:List Ef),(l.all fun e=>jl e 4)=true→uO (l.map dB)=some l
 |[],_=>rfl
 |a::r,h=>by
  rw [List.all_cons,Bool.and_eq_true] at h
  rw [List.map_cons,uO,En h.1,Option.bind_some,MS r h.2];rfl
theorem aoY (s:Str):qEl s=kH s:=by
 refine WU ?_ ?_
 ·intro t h
  unfold qEl at h
  split at h
  ·cases h
  ·rename_i l hl
   split at h
   ·rename_i hc
    obtain rfl:=Option.some.inj h
    refine ⟨hc,fun e=> ?_⟩
    subst e
    have:uO (xU (gu 59 []))=none:=by
     rw [wY]
     show uO [[]]=none
     rw [uO,Jg];rfl
    rw [this] at hl;cases hl
   ·cases h
 ·intro h t h1 h2
  obtain ⟨a,b,c⟩:=TI (l:=t) (by rw [h1];exact h2)
  have e:jW t=Lib.join (t.map dB) jC:=if_pos ⟨a,b,c⟩
  have hs:=Ko t a c []
  rw [←e,h1] at hs
  have hd:gu 59 s=splitAux 59 0 [] s:=wY 59 s
  unfold qEl at h
  rw [hd,hs] at h
  cases t with
  |nil=>exact a rfl
  |cons x r=>
   simp only [xU,List.nil_append,List.map_map] at h
   have e2:(dB x::List.map ((fun x=>List.drop 1 x) ∘ fun e=>32::dB e) r)=(x::r).map dB:=by simp [Function.comp_def]
   rw [e2,MS _ c] at h
   simp only [h1,if_true] at h
   cases h
def rowOf (k n:Nat):Rf:=⟨(k:Int),(n:Int),aaB⟩
def zY (s:Str) (p:Nat × Nat):Bool:= !(p.1==4)&&(iY (rowOf p.1 p.2) 4&&dI (rowOf p.1 p.2)==s)
def Dx (k n:Nat):List (Nat × Nat):=(List.range' n (5 - n)).map fun m=>(k,m)
def KR:Nat→Nat→List (Nat × Nat)
 |_,0=>[]
 |k,j+1=>Dx k 0++KR (k+1) j
def DW (s:Str):Option (Nat × Nat):=(KR 1 8).find? (zY s)
def zS (s:Str):Str:=(s.take (s.length - 1)).drop 5
def E5 (s:Str):Bool:= !decide (s.length<6)&&(s.take 5==eF&&aI s (s.length - 1)==41)
def lN (s:Str):Option Rf:=match DW s with
 |some p=>some (rowOf p.1 p.2)
 |none=>if E5 s=true then (match bW (zS s) with|some f=>some ⟨4,0,f⟩|none=>none) else none
theorem adb {s:Str} {p:Nat × Nat} (h:DW s=some p):iY (rowOf p.1 p.2) 4=true∧dI (rowOf p.1 p.2)=s:=by
 have:=List.find?_some h
 unfold zY at this
 simp only [Bool.and_eq_true,beq_iff_eq] at this
 exact this.2
theorem ahD {k n:Nat} (h1:1≤k) (h2:k≤8) (h3:n≤4):(k,n)∈KR 1 8:=by
 have:∀k:Fin 9,∀n:Fin 5,1≤k.val→(k.val,n.val)∈KR 1 8:=by decide +kernel
 exact this ⟨k,by omega⟩ ⟨n,by omega⟩ h1
theorem adx (l:Str) (h:l≠[]):E5 (eF++l++[41])=true:=by
 unfold E5
 have hl:0<l.length:=List.length_pos_iff.2 h
 have e1:(eF++l++[41]).length=l.length+6:=by simp [eF]
 have e2:(eF++l++[41]).take 5=eF:=by rw [List.append_assoc];rfl
 have e3:aI (eF++l++[41]) (l.length+6 - 1)=41:=by
  unfold aI
  have:(eF++l++[41]).getD (l.length+6 - 1) 0=41:=by
   rw [List.getD,List.getElem?_append_right (by simp [eF])]
   simp [eF]
  rw [this];rfl
 rw [e1,e2,e3];simp
theorem acK (l:Str):zS (eF++l++[41])=l:=by
 unfold zS
 have e1:(eF++l++[41]).length - 1=(eF++l).length:=by simp
 rw [e1,List.take_left]
 rfl
theorem aao {s:Str} (h:E5 s=true):s=eF++zS s++[41]:=by
 unfold E5 at h
 simp only [Bool.and_eq_true,Bool.not_eq_true',decide_eq_false_iff_not,beq_iff_eq] at h
 obtain ⟨h1,h2,h3⟩:=h
 have a1:s.take (s.length - 1)++[s.getD (s.length - 1) 0]=s:=by
  have:=List.take_succ_eq_append_getElem (l:=s) (i:=s.length - 1) (by omega)
  rw [show s.length - 1+1=s.length by omega,List.take_length] at this
  rw [show s.getD (s.length - 1) 0=s[s.length - 1] from by simp [List.getD,show s.length - 1<s.length by omega]]
  exact this.symm
 have a2:s.getD (s.length - 1) 0=41:=by
  unfold aI at h3
  exact UInt8.toNat_inj.1 h3
 rw [a2] at a1
 have a3:s.take (s.length - 1)=eF++zS s:=by
  unfold zS
  have:=List.take_append_drop 5 (s.take (s.length - 1))
  rw [List.take_take,show min 5 (s.length - 1)=5 by omega,h2] at this
  exact this.symm
 rw [a3] at a1
 exact a1.symm
theorem X8 (s:Str):lN s=dX s:=by
 have sound:∀r,lN s=some r→iY r 4=true∧dI r=s:=by
  intro r h
  unfold lN at h
  cases hl:DW s with
  |some p=>rw [hl] at h;injection h with h;rw [←h];exact adb hl
  |none=>
   rw [hl] at h;simp only at h
   split at h
   ·rename_i hs
    cases hp:bW (zS s) with
    |some f=>
     rw [hp] at h;injection h with h
     obtain ⟨g1,g2⟩:=Qa hp
     have hv:iY ⟨4,0,f⟩ 4=true:=by
      unfold iY xw;simp [g1]
     rw [←h]
     refine ⟨hv,?_⟩
     have e:dI ⟨4,0,f⟩=eF++textOf f++[41]:=if_pos hv
     rw [e,g2];exact (aao hs).symm
    |none=>rw [hp] at h;cases h
   ·cases h
 cases hp:dX s with
 |some r=>
  obtain ⟨h1,h2⟩:=Vs hp
  cases hq:lN s with
  |some q=>
   obtain ⟨g1,g2⟩:=sound q hq
   have a:=vG g1
   rw [g2,hp] at a
   exact a.symm
  |none=>
   exfalso
   have hit:∀k n:Nat,1≤k→k≤8→k≠4→n≤4→r=rowOf k n→False:=by
    intro k n k1 k2 k4 n4 e
    have hm:=ahD k1 k2 n4
    unfold lN at hq
    cases hl:DW s with
    |some p=>rw [hl] at hq;cases hq
    |none=>
     have:=List.find?_eq_none.1 hl _ hm
     apply this
     unfold zY
     rw [e] at h1 h2
     simp [k4,h1,h2]
   rcases sN h1 with e|e|e|e|e|(e|e|e|e)|(e|e|e|e)|⟨f,hf,e⟩
   ·exact hit 1 0 (by omega) (by omega) (by omega) (by omega) e
   ·exact hit 2 0 (by omega) (by omega) (by omega) (by omega) e
   ·exact hit 5 0 (by omega) (by omega) (by omega) (by omega) e
   ·exact hit 6 0 (by omega) (by omega) (by omega) (by omega) e
   ·exact hit 7 0 (by omega) (by omega) (by omega) (by omega) e
   ·exact hit 3 1 (by omega) (by omega) (by omega) (by omega) e
   ·exact hit 3 2 (by omega) (by omega) (by omega) (by omega) e
   ·exact hit 3 3 (by omega) (by omega) (by omega) (by omega) e
   ·exact hit 3 4 (by omega) (by omega) (by omega) (by omega) e
   ·exact hit 8 1 (by omega) (by omega) (by omega) (by omega) e
   ·exact hit 8 2 (by omega) (by omega) (by omega) (by omega) e
   ·exact hit 8 3 (by omega) (by omega) (by omega) (by omega) e
   ·exact hit 8 4 (by omega) (by omega) (by omega) (by omega) e
   ·subst e
    have e:dI ⟨4,0,f⟩=eF++textOf f++[41]:=if_pos h1
    rw [e] at h2
    subst h2
    unfold lN at hq
    cases hl:DW (eF++textOf f++[41]) with
    |some p=>rw [hl] at hq;cases hq
    |none=>
     rw [hl] at hq;simp only at hq
     rw [if_pos (adx _ (amO hf)),acK,nI hf] at hq
     cases hq
 |none=>
  cases hq:lN s with
  |none=>rfl
  |some q=>
   obtain ⟨g1,g2⟩:=sound q hq
   have a:=vG g1
   rw [g2,hp] at a
   cases a
def insideOk (s b:Str):Bool:= !decide (s.length<b.length+1)&&(s.take b.length==b&&aI s (s.length - 1)==41)
def mZ (s b:Str):Option Str:=if insideOk s b=true then some ((s.take (s.length - 1)).drop b.length) else none
def yP (s:Str) (st:Int × Str) (i:Nat):Int × Str:=if aI s i=42 then ((rdNum (s.take i)).getD 0,s.drop (i+1)) else st
def Fg (s:Str) (k:Nat):Int × Str:=(List.range k).foldl (yP s) (1,s)
def lZ (s:Str):Int × Str:=Fg s (min s.length 3)
theorem lT (s:Str) (k:Nat):Fg s (k+1)=yP s (Fg s k) k:=by unfold Fg;rw [List.range_succ,List.foldl_append];rfl
def Rn (s:Str) (k:Nat):Bool:= !(k==2)&&(!(k==4)&&dW ⟨(k:Int),0,0,aaB⟩==s)
def OZ (s:Str):Option Nat:=(List.range' 1 7).find? (Rn s)
def Rl (s:Str) (c:Nat):Bool:=dW ⟨4,0,(c:Int),aaB⟩==s
def OY (s:Str):Option Nat:=(List.range' 0 3).find? (Rl s)
def CP (s:Str):Option Am:=match mZ (lZ s).2 fB with
 |none=>none
 |some m=>match bW m with
  |none=>none
  |some f=>if dW ⟨2,(lZ s).1,0,f⟩=s then some ⟨2,(lZ s).1,0,f⟩ else none
def Ld (s:Str):Option Am:=match rdNum s with
 |some n=>if 0≤n then some ⟨0,n,0,aaB⟩ else CP s
 |none=>CP s
def ML (s:Str):Option Am:=match OZ s with
 |some k=>some ⟨(k:Int),0,0,aaB⟩
 |none=>match OY s with
  |some c=>some ⟨4,0,(c:Int),aaB⟩
  |none=>Ld s
theorem Qn {s:Str} {n:Int} (h:rdNum s=some n):Lib.itoa n=s∧n≤1000000:=by
 unfold rdNum at h
 generalize (if aI s 0==45 then s.drop 1 else s)=r at h
 generalize (if aI s 0==45 then -(jK (s.drop 1):Int) else jK s)=v at h
 split at h
 ·cases h
 ·split at h
  ·rename_i hh
   injection h with h
   rw [h] at hh
   refine ⟨hh.2,?_⟩
   have:=hh.1
   unfold jU at this
   split at this
   ·omega
   ·split at this<;>omega
  ·cases h
theorem agT {k:Nat} (h1:1≤k) (h2:k<8) (h3:k≠2) (h4:k≠4):iT ⟨(k:Int),0,0,aaB⟩=true:=by
 have:k=1∨k=3∨k=5∨k=6∨k=7:=by omega
 rcases this with rfl|rfl|rfl|rfl|rfl<;>exact (show iT _=true from by kernel_rfl)
theorem anT {c:Nat} (h:c<3):iT ⟨4,0,(c:Int),aaB⟩=true:=by
 have:c=0∨c=1∨c=2:=by omega
 rcases this with rfl|rfl|rfl<;>exact (show iT _=true from by kernel_rfl)
theorem aoO {n:Int} (h0:0≤n) (h1:n≤1000000):iT ⟨0,n,0,aaB⟩=true:=by
 unfold iT;simp [h0,h1,lD]
theorem Xg (f:aH):mZ (bT f) fB=some (textOf f):=by
 have hl:(bT f).length=(textOf f).length+7:=by simp [bT,fB]
 have e1:(bT f).take fB.length=fB:=by unfold bT;rw [List.take_left]
 have e2:aI (bT f) ((bT f).length - 1)=41:=by
  unfold aI bT
  rw [←List.append_assoc]
  have:(fB++textOf f++[41]).length - 1=(fB++textOf f).length:=by simp
  rw [this,List.getD,List.getElem?_append_right (Nat.le_refl _)];simp
 have e3:((bT f).take ((bT f).length - 1)).drop fB.length=textOf f:=by
  unfold bT
  rw [←List.append_assoc]
  have:(fB++textOf f++[41]).length - 1=(fB++textOf f).length:=by simp
  rw [this,List.take_left,List.drop_left]
 unfold mZ
 rw [if_pos,e3]
 unfold insideOk
 rw [decide_eq_false (by rw [hl];simp [fB]),e1,e2];rfl
theorem ajm (f:aH):lZ (bT f)=(1,bT f):=by
 have hl:min (bT f).length 3=3:=by have:(bT f).length=(textOf f).length+7:=by simp [bT,fB]
                                   omega
 unfold lZ
 rw [hl,lT,lT,lT]
 have b0:aI (bT f) 0=99:=rfl
 have b1:aI (bT f) 1=111:=rfl
 have b2:aI (bT f) 2=117:=rfl
 unfold yP
 rw [b0,b1,b2]
 simp [Fg]
theorem adA (n:Nat) (h1:2≤n) (h2:n≤99) (f:aH):lZ (Lib.itoa (n:Int)++42::bT f)=((n:Int),bT f):=by
 have hr:=xP n (by omega)
 rw [Lib.itoa_nonneg] at hr ⊢
 by_cases h:n<10
 ·rw [Lib.decDigits_one h] at hr ⊢
  have hd:(UInt8.ofNat (48+n)).toNat=48+n:=by simp [UInt8.toNat_ofNat'];omega
  generalize UInt8.ofNat (48+n)=d at *
  have hl:min ([d]++42::bT f).length 3=3:=by simp [bT,fB]<;>try omega
  unfold lZ
  rw [hl,lT,lT,lT]
  have b0:aI ([d]++42::bT f) 0=d.toNat:=rfl
  have b1:aI ([d]++42::bT f) 1=42:=rfl
  have b2:aI ([d]++42::bT f) 2=99:=rfl
  unfold yP
  rw [b1,b2,if_neg (by omega),if_pos rfl]
  show ((rdNum [d]).getD 0,bT f)=_
  rw [hr];rfl
 ·rw [Lib.decDigits_two h (by omega)] at hr ⊢
  have hd:(UInt8.ofNat (48+n / 10)).toNat=48+n / 10:=by simp [UInt8.toNat_ofNat'];omega
  have he:(UInt8.ofNat (48+n % 10)).toNat=48+n % 10:=by simp [UInt8.toNat_ofNat'];omega
  generalize UInt8.ofNat (48+n / 10)=d at *
  generalize UInt8.ofNat (48+n % 10)=e at *
  have hl:min ([d,e]++42::bT f).length 3=3:=by simp
  unfold lZ
  rw [hl,lT,lT,lT]
  have b0:aI ([d,e]++42::bT f) 0=d.toNat:=rfl
  have b1:aI ([d,e]++42::bT f) 1=e.toNat:=rfl
  have b2:aI ([d,e]++42::bT f) 2=42:=rfl
  unfold yP
  rw [b0,b1,b2,if_pos rfl]
  show ((rdNum [d,e]).getD 0,bT f)=_
  rw [hr];rfl
theorem aoW (s:Str):ML s=eY s:=by
 apply V6
 ·intro t h
  unfold ML at h
  cases hs:OZ s with
  |some k=>
   rw [hs] at h
   have hm:=List.mem_of_find?_eq_some hs
   have hh:=List.find?_some hs
   unfold Rn at hh
   simp only [Bool.and_eq_true,Bool.not_eq_true',beq_eq_false_iff_ne,beq_iff_eq] at hh
   simp at hm
   injection h with h
   rw [←h]
   exact ⟨agT (by omega) (by omega) hh.1 hh.2.1,hh.2.2⟩
  |none=>
   rw [hs] at h
   simp only at h
   cases hc:OY s with
   |some c=>
    rw [hc] at h
    have hm:=List.mem_of_find?_eq_some hc
    have hh:=List.find?_some hc
    unfold Rl at hh
    simp at hm
    injection h with h
    rw [←h]
    exact ⟨anT (by omega),by simpa using hh⟩
   |none=>
    rw [hc] at h
    simp only at h
    have htail:∀t,CP s=some t→iT t=true∧dW t=s:=by
     intro t h
     unfold CP at h
     cases hi:mZ (lZ s).2 fB with
     |none=>rw [hi] at h;cases h
     |some m=>
      rw [hi] at h
      simp only at h
      cases hp:bW m with
      |none=>rw [hp] at h;cases h
      |some f=>
       rw [hp] at h
       simp only at h
       split at h
       ·rename_i ht
        injection h with h
        subst h
        refine ⟨?_,ht⟩
        cases hv:iT ⟨2,(lZ s).1,0,f⟩ with
        |true=>rfl
        |false=>
         rw [SS hv] at ht
         subst ht
         have:mZ (lZ []).2 fB=none:=by decide
         rw [this] at hi;cases hi
       ·cases h
    unfold Ld at h
    cases hn:rdNum s with
    |some n=>
     rw [hn] at h
     simp only at h
     split at h
     ·rename_i h0
      injection h with h
      obtain ⟨e1,e2⟩:=Qn hn
      rw [←h]
      have hv:=aoO h0 e2
      exact ⟨hv,(if_pos hv).trans e1⟩
     ·exact htail t h
    |none=>rw [hn] at h;exact htail t h
 ·intro h t hv ht
  unfold ML at h
  cases hs:OZ s with
  |some k=>rw [hs] at h;cases h
  |none=>
   rw [hs] at h
   simp only at h
   cases hc:OY s with
   |some c=>rw [hc] at h;cases h
   |none=>
    rw [hc] at h
    simp only at h
    have hbr:(41:UInt8)∈s→rdNum s=none:=by
     intro hm
     cases hn:rdNum s with
     |none=>rfl
     |some v=>
      rw [←(Qn hn).1] at hm
      have:=tC hm
      simp at this
    rcases wU hv with ⟨n,hn,rfl⟩|⟨n,h1,h2,f,hf,rfl⟩|⟨c,hcc,rfl⟩|⟨k,hk,rfl⟩
    ·have e:dW ⟨0,(n:Int),0,aaB⟩=Lib.itoa (n:Int):=if_pos hv
     rw [e] at ht
     unfold Ld at h
     rw [←ht,xP n hn] at h
     simp at h
    ·have hb:dW ⟨2,(n:Int),0,f⟩=rU ⟨2,(n:Int),0,f⟩:=if_pos hv
     rw [hb,wS] at ht
     have hscan:lZ s=((n:Int),bT f):=by
      rw [←ht]
      by_cases hn:n=1
      ·subst hn;exact ajm f
      ·rw [if_pos (by omega)];exact adA n (by omega) h2 f
     have hmem:(41:UInt8)∈s:=by
      rw [←ht]
      split
      ·exact List.mem_append_right _ (List.mem_cons_of_mem _ uH.1)
      ·exact uH.1
     unfold Ld at h
     rw [hbr hmem] at h
     simp only at h
     unfold CP at h
     rw [hscan] at h
     simp only at h
     rw [Xg] at h
     simp only at h
     rw [nI hf] at h
     simp only at h
     rw [if_pos (by rw [hb,wS];exact ht)] at h
     cases h
    ·have:=List.find?_eq_none.1 hc c.toNat (by rcases hcc with rfl|rfl|rfl<;>simp)
     apply this
     unfold Rl
     have e:((c.toNat:Nat):Int)=c:=by rcases hcc with rfl|rfl|rfl<;>rfl
     rw [e,ht];simp
    ·have:=List.find?_eq_none.1 hs k.toNat (by rcases hk with rfl|rfl|rfl|rfl|rfl<;>simp)
     apply this
     unfold Rn
     have e:((k.toNat:Nat):Int)=k:=by rcases hk with rfl|rfl|rfl|rfl|rfl<;>rfl
     rw [e,ht]
     rcases hk with rfl|rfl|rfl|rfl|rfl<;>simp
end Go.Proofs.YtdnnkgkondkhfaaGreatDoor
