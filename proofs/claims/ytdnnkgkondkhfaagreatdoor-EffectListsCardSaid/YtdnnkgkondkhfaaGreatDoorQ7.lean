/- Plain words: mana costs and pools (chapter 8); Parse inverts Text. No program in sight. Plain words on memory: == of two references. Conditions: none. Plain words on memory: amounts' rows and ==; w -/
import Derived.Test.YtdnnkgkondkhfaaGreatDoorQ3
import Derived.Test.YtdnnkgkondkhfaaGreatDoorQ2
import Derived.Deep.MidRow
import Derived.Laws.CopyRow
import Derived.Test.YtdnnkgkondkhfaaGreatDoorQ4
import Derived.Lib.Index
import Derived.Test.YtdnnkgkondkhfaaGreatDoorQ1
set_option linter.all false
set_option maxRecDepth 100000
set_option maxHeartbeats 16000000
namespace Go.Proofs.YtdnnkgkondkhfaaGreatDoor
open Go.ChangeShapes Go.WideShapes Go.RowKit
structure Co where
 g:Int
 x:Int
 c0:Int
 c1:Int
 c2:Int
 c3:Int
 c4:Int
deriving DecidableEq
structure Po where
 g:Int
 c0:Int
 c1:Int
 c2:Int
 c3:Int
 c4:Int
deriving DecidableEq
def Co.cells (c:Co):Array Value:=#[.int .i64 c.g, .int .i64 c.x, .int .i64 c.c0, .int .i64 c.c1, .int .i64 c.c2, .int .i64 c.c3, .int .i64 c.c4]
def Po.cells (c:Po):Array Value:=#[.int .i64 c.g, .int .i64 c.c0, .int .i64 c.c1, .int .i64 c.c2, .int .i64 c.c3, .int .i64 c.c4]
def dQ:Co:=⟨0,0,0,0,0,0,0⟩
def bn:Po:=⟨0,0,0,0,0,0⟩
def vG (a b:Co):Bool:=a.g==b.g&&(a.x==b.x&&(a.c0==b.c0&&(a.c1==b.c1&&(a.c2==b.c2&&(a.c3==b.c3&&a.c4==b.c4)))))
def vH (a b:Po):Bool:=a.g==b.g&&(a.c0==b.c0&&(a.c1==b.c1&&(a.c2==b.c2&&(a.c3==b.c3&&a.c4==b.c4))))
theorem yE (a b:Co):vG a b=true↔a=b:=by
 obtain ⟨a0,a1,a2,a3,a4,a5,a6⟩:=a
 obtain ⟨b0,b1,b2,b3,b4,b5,b6⟩:=b
 simp [vG]
theorem OB (a b:Po):vH a b=true↔a=b:=by
 obtain ⟨a0,a1,a2,a3,a4,a5⟩:=a
 obtain ⟨b0,b1,b2,b3,b4,b5⟩:=b
 simp [vH]
theorem Jt (a:Co):vG a a=true:=(yE a a).2 rfl
def rP (n:Int):Bool:=decide (0≤n)&&decide (n≤9)
def kV (c:Co):Bool:=rP c.c0&&(rP c.c1&&(rP c.c2&&(rP c.c3&&(rP c.c4&&(decide (0≤c.g)&&(decide (c.g≤99)&&(decide (0≤c.x)&&decide (c.x≤2))))))))
def rep (b:UInt8) (n:Int):Str:=List.replicate n.toNat b
def qh (g:Int):Str:=if 0<g then Lib.itoa g else []
def mX (c:Co):Str:=rep 65 c.c0++(rep 67 c.c1++(rep 74 c.c2++(rep 82 c.c3++rep 69 c.c4)))
def lI (c:Co):Str:=rep 88 c.x++(qh c.g++mX c)
def iC (c:Co):Str:=if kV c=true then (if vG c dQ=true then [48] else lI c) else []
def isLet (c:UInt8):Bool:=c==65 || (c==67 || (c==74 || (c==82 || c==69)))
def AP (c:UInt8):Bool:=c==88
def jE (c:UInt8):Bool:= !isLet c
def zW (s:Str):Str:=s.dropWhile AP
def tK (s:Str):Str:=(zW s).dropWhile jE
def Ju (s:Str):Str:=(zW s).takeWhile jE
def yL (s:Str):Co:=⟨(numOf (Ju s)).getD 0,((s.takeWhile AP).length:Nat),((tK s).count 65:Nat),((tK s).count 67:Nat),((tK s).count 74:Nat),((tK s).count 82:Nat),((tK s).count 69:Nat)⟩
def kY (s:Str):Option Co:=if s≠[]∧(tK s).all isLet=true∧iC (yL s)=s then some (yL s) else none
def EI (p:Po):Co:=⟨p.g,0,p.c0,p.c1,p.c2,p.c3,p.c4⟩
def avt (c:Co):Po:=⟨c.g,c.c0,c.c1,c.c2,c.c3,c.c4⟩
def jZ (p:Po):Str:=iC (EI p)
def dU (s:Str):Option Po:=match kY s with
 |some c=>if c.x=0 then some (avt c) else none
 |none=>none
theorem ZY {p:UInt8→Bool} :∀ {l r:Str},(∀c∈l,p c=true)→(∀c∈r.head?,p c=false)→(l++r).takeWhile p=l∧(l++r).dropWhile p=r
 |[],[],_,_=>⟨rfl,rfl⟩
 |[],c::r,_,h=>by
  have:=h c (by simp)
  simp [List.takeWhile_cons,List.dropWhile_cons,this]
 |a::l,r,h1,h2=>by
  have ha:=h1 a (.head _)
  obtain ⟨i1,i2⟩:=ZY (l:=l) (fun c hc=>h1 c (.tail _ hc)) h2
  simp [List.takeWhile_cons,List.dropWhile_cons,ha,i1,i2]
theorem Kr {g:Int} (h0:0≤g) {c:UInt8} (h:c∈qh g):48≤c.toNat∧c.toNat≤57:=by
 unfold qh at h
 split at h
 ·obtain ⟨n,rfl⟩:=Int.eq_ofNat_of_zero_le h0
  rw [Lib.itoa_nonneg] at h
  exact nT n c h
 ·cases h
theorem TD {b:UInt8} {n:Int} {c:UInt8} (h:c∈rep b n):c=b:=(List.mem_replicate.1 h).2
theorem Iu (c:Co):∀b∈mX c,isLet b=true:=by
 intro b h
 unfold mX at h
 simp only [List.mem_append] at h
 rcases h with h|h|h|h|h<;>rw [TD h]<;>rfl
theorem agS {b:UInt8} (h:isLet b=true):AP b=false∧¬(48≤b.toNat∧b.toNat≤57):=by
 unfold isLet at h
 simp only [Bool.or_eq_true,beq_iff_eq] at h
 rcases h with rfl|rfl|rfl|rfl|rfl<;>decide
theorem aga {b:UInt8} (h:48≤b.toNat∧b.toNat≤57):AP b=false∧jE b=true:=by
 have h2:isLet b=false:=by
  cases hb:isLet b with
  |false=>rfl
  |true=>exact absurd h (agS hb).2
 refine ⟨?_,by unfold jE;rw [h2];rfl⟩
 cases hb:AP b with
 |false=>rfl
 |true=>
  unfold AP at hb
  rw [beq_iff_eq] at hb
  subst hb
  exact absurd h (by decide)
theorem adv (c:Co) (h:kV c=true):((mX c).count 65:Int)=c.c0∧((mX c).count 67:Int)=c.c1∧((mX c).count 74:Int)=c.c2∧((mX c).count 82:Int)=c.c3∧((mX c).count 69:Int)=c.c4:=by
 simp only [kV,rP,Bool.and_eq_true,decide_eq_true_eq] at h
 unfold mX rep
 simp [List.count_append,List.count_replicate]
 omega
theorem ads (g:Int) (h0:0≤g) (h1:g≤99):(numOf (qh g)).getD 0=g:=by
 unfold qh
 split
 ·rw [Oz g (by omega) h1];rfl
 ·obtain rfl:g=0:=by omega
  decide +kernel
theorem XY {c:Co} (h:kV c=true):yL (lI c)=c∧(tK (lI c)).all isLet=true:=by
 have hr:=h
 simp only [kV,rP,Bool.and_eq_true,decide_eq_true_eq] at hr
 have hx:∀b∈rep 88 c.x,AP b=true:=fun b hb=>by rw [TD hb];rfl
 have hn:∀b∈qh c.g,48≤b.toNat∧b.toNat≤57:=fun b hb=>Kr (by omega) hb
 have hh:∀b∈(qh c.g++mX c).head?,AP b=false:=fun b hb=>by
  have hb:=List.mem_of_mem_head? hb
  rcases List.mem_append.1 hb with hb|hb
  ·exact (aga (hn b hb)).1
  ·exact (agS (Iu c b hb)).1
 have hs:∀b∈(mX c).head?,jE b=false:=fun b hb=>by
  have:=Iu c b (List.mem_of_mem_head? hb)
  unfold jE;rw [this];rfl
 obtain ⟨x1,x2⟩:=ZY (p:=AP) hx hh
 obtain ⟨y1,y2⟩:=ZY (p:=jE) (fun b hb=>(aga (hn b hb)).2) hs
 have e1:zW (lI c)=qh c.g++mX c:=x2
 have e2:tK (lI c)=mX c:=by unfold tK;rw [e1];exact y2
 have e3:Ju (lI c)=qh c.g:=by unfold Ju;rw [e1];exact y1
 have e4:(lI c).takeWhile AP=rep 88 c.x:=x1
 obtain ⟨k0,k1,k2,k3,k4⟩:=adv c h
 refine ⟨?_,by rw [e2];exact List.all_eq_true.2 (Iu c)⟩
 unfold yL
 rw [e2,e3,e4,ads _ (by omega) (by omega),k0,k1,k2,k3,k4]
 have:((rep 88 c.x).length:Int)=c.x:=by unfold rep;rw [List.length_replicate];omega
 rw [this]
theorem Ry {c:Co} (h:kV c=true) (h0:vG c dQ=false):lI c≠[]:=by
 intro e
 have:=(XY h).1
 rw [e] at this
 have e2:yL []=dQ:=by decide +kernel
 rw [e2] at this
 rw [←this] at h0
 rw [Jt] at h0;cases h0
theorem Jz {c:Co} (h:kV c=false):iC c=[]:=if_neg (by rw [h];decide)
theorem Ur {c:Co} (h:kV c=true):iC c≠[]:=by
 unfold iC
 rw [if_pos h]
 cases hz:vG c dQ with
 |true=>simp
 |false=>simp only [Bool.false_eq_true,if_false];exact Ry h hz
theorem Gu (c:Co):iC c≠[]↔kV c=true:=by
 cases h:kV c with
 |true=>exact ⟨fun _=>rfl,fun _=>Ur h⟩
 |false=>rw [Jz h];simp
theorem Jw {c:Co} (h:kV c=true):kY (iC c)=some c:=by
 cases hz:vG c dQ with
 |true=>
  rw [(yE _ _).1 hz]
  decide +kernel
 |false=>
  have e:iC c=lI c:=by unfold iC;rw [if_pos h,if_neg (by rw [hz];decide)]
  obtain ⟨g1,g2⟩:=XY h
  unfold kY
  rw [e,g1,if_pos ⟨Ry h hz,g2,e⟩]
theorem Ce {s:Str} {c:Co} (h:kY s=some c):kV c=true∧iC c=s:=by
 unfold kY at h
 split at h
 ·rename_i hc
  obtain rfl:=Option.some.inj h
  refine ⟨(Gu _).1 ?_,hc.2.2⟩
  rw [hc.2.2];exact hc.1
 ·cases h
def ael (p:Po):Bool:=kV (EI p)
theorem Ia (p:Po):jZ p≠[]↔ael p=true:=Gu _
theorem Kz {p:Po} (h:ael p=true):dU (jZ p)=some p:=by
 unfold dU jZ
 rw [Jw h];rfl
theorem V9:dU []=none:=by decide +kernel
theorem Xu {s:Str} {o:Option Co} (h1:∀t,o=some t→kV t=true∧iC t=s) (h2:o=none→∀t,kV t=true→iC t=s→False):o=kY s:=by
 cases o with
 |some t=>
  obtain ⟨a,b⟩:=h1 t rfl
  rw [←b,Jw a]
 |none=>
  cases hp:kY s with
  |none=>rfl
  |some t=>exact absurd (h2 rfl t (Ce hp).1 (Ce hp).2) id
def wF (r q:Rf):Bool:=r.kind==q.kind&&(r.n==q.n&&fK r.f q.f)
theorem OI (r q:Rf):wF r q=true↔r=q:=by
 obtain ⟨a,b,f⟩:=r
 obtain ⟨a2,b2,f2⟩:=q
 simp only [wF,Bool.and_eq_true,beq_iff_eq,lJ,Rf.mk.injEq]
theorem WL (r q:Rf) (w:World):(binOp .eql 28 (.agg r.cells) (.agg q.cells)).run Tryz.prog w= .ok (.bool (wF r q)) w:=by
 rw [run_eql_struct,run_equalIn_agg w 9999 28 _ _ (by kernel_rfl) (by kernel_rfl)]
 simp [wF,fK,Rf.cells,go_sem,Tryz.underlying28,Tryz.RY,Tryz.ZU,Tryz.underlying26,Tryz.underlying24,Tryz.underlying3,Tryz.underlying9]
 iterate 17 (refine zF (by simp) ?_)
 split
 ·rename_i h;rw [h];simp
 ·rename_i h;rw [beq_eq_false_iff_ne.2 h]
theorem aqP (r q:Rf) (w:World):(binOp .neq 28 (.agg r.cells) (.agg q.cells)).run Tryz.prog w= .ok (.bool (!wF r q)) w:=by
 have h:=WL r q w
 rw [run_eql_struct] at h
 rw [run_neq_struct]
 generalize (Op.equalIn 10000 28 (.agg r.cells) (.agg q.cells)).run Tryz.prog w=x at *
 cases x<;>simp_all [Result.andThen]
abbrev y9:Nat:=30
def tC (r q:Am):Bool:=r.k==q.k&&(r.n==q.n&&(r.c==q.c&&fK r.f q.f))
theorem N7 (r q:Am):tC r q=true↔r=q:=by
 obtain ⟨a,b,c,f⟩:=r
 obtain ⟨a2,b2,c2,f2⟩:=q
 simp only [tC,Bool.and_eq_true,beq_iff_eq,lJ,Am.mk.injEq]
theorem WI (r q:Am) (w:World):(binOp .eql 30 (.agg r.cells) (.agg q.cells)).run Tryz.prog w= .ok (.bool (tC r q)) w:=by
 rw [run_eql_struct,run_equalIn_agg w 9999 30 _ _ (by kernel_rfl) (by kernel_rfl)]
 simp [tC,fK,Am.cells,go_sem,Tryz.underlying30,Tryz.RY,Tryz.ZU,Tryz.underlying26,Tryz.underlying24,Tryz.underlying3,Tryz.underlying9]
 iterate 18 (refine zF (by simp) ?_)
 split
 ·rename_i h;rw [h];simp
 ·rename_i h;rw [beq_eq_false_iff_ne.2 h]
theorem aqL (r q:Am) (w:World):(binOp .neq 30 (.agg r.cells) (.agg q.cells)).run Tryz.prog w= .ok (.bool (!tC r q)) w:=by
 have h:=WI r q w
 rw [run_eql_struct] at h
 rw [run_neq_struct]
 generalize (Op.equalIn 10000 30 (.agg r.cells) (.agg q.cells)).run Tryz.prog w=x at *
 cases x<;>simp_all [Result.andThen]
structure Ef where
 op:Int
 ref:Rf
 amt:Am
 ctr:Int
 zone:Int
 card:ByteArray
 flt:aH
 pool:Po
 mods:List Md
def zeroE:Ef:=⟨0,dY,dG,0,0,⟨#[]⟩,zeroF,bn,[]⟩
def opT:List Str:=[[],[100,97,109,97,103,101],[100,101,115,116,114,111,121],[109,111,118,101],[100,114,97,119],[100,105,115,99,97,114,100],[103,97,105,110],[108,111,115,101],[116,97,112],[117,110,116,97,112],[112,117,116],[116,97,107,101],[99,114,101,97,116,101],[109,111,100],[109,97,110,97],[99,111,117,110,116,101,114],[99,111,112,121],[98,101,99,111,109,101],[115,97,99,114,105,102,105,99,101],[109,105,108,108],[115,99,114,121],[115,101,97,114,99,104],[115,104,105,101,108,100],[116,117,114,110],[119,105,110],[100,101,102,101,97,116],[118,101,110,111,109]]
def opName (op:Int):Str:=if 0≤op∧op≤26 then wd opT op.toNat else []
def uR (op:Int):Bool:=decide (op∈([1,2,3,4,5,6,7,8,9,10,11,12,13,15,16,17,18,19,22,25,26]:List Int))
def uZ (op:Int):Bool:=decide (op∈([3]:List Int))
def uK (op:Int):Bool:=decide (op∈([10,11]:List Int))
def uC (op:Int):Bool:=decide (op∈([12]:List Int))
def uA (op:Int):Bool:=decide (op∈([1,4,5,6,7,10,11,12,18,19,20,22,26]:List Int))
def uM (op:Int):Bool:=decide (op∈([13]:List Int))
def uP (op:Int):Bool:=decide (op∈([14]:List Int))
def uF (op:Int):Bool:=decide (op∈([18,21]:List Int))
def kL:List Str:=[[],[114,97],[114],[114,122],[114,97],[114,97],[114,97],[114,97],[114],[114],[114,107,97],[114,107,97],[114,99,97],[114,109],[112],[114],[114],[114],[114,97,102],[114,97],[97],[102],[114,97],[],[],[114],[114,97]]
def dF (op:Int):Str:=if 0≤op∧op≤26 then wd kL op.toNat else []
def fRef (e:Ef) (specs:Int):Bool:=if uR e.op=true then iZ e.ref specs else wF e.ref dY
def rM (e:Ef):Bool:=if uA e.op=true then iU e.amt else tC e.amt dG
def rO (e:Ef):Bool:=if uK e.op=true then !(dw e.ctr==[]) else e.ctr==0
def oG (e:Ef):Bool:=if uZ e.op=true then decide (0≤e.zone)&&decide (e.zone≤4) else e.zone==0
def fCard (e:Ef):Bool:=if uC e.op=true then isName (L e.card) else L e.card==[]
def IE (op:Int):Int:=if op=21 then 2 else 0
def qO (e:Ef):Bool:=if uF e.op=true then dh e.flt&&e.flt.zone==IE e.op else fK e.flt zeroF
def oD (e:Ef):Bool:=if uP e.op=true then !(vH e.pool bn)&& !(jZ e.pool==[]) else vH e.pool bn
def oC (e:Ef):Bool:=if uM e.op=true then !(eH e.mods==[]) else decide (e.mods.length=0)
def jy (e:Ef) (specs:Int):Bool:=fRef e specs&&(rM e&&(rO e&&(oG e&&(fCard e&&(qO e&&(oD e&&oC e))))))
def jm (e:Ef) (specs:Int):Bool:= !(opName e.op==[])&&jy e specs
def opt (b:Bool) (s:Str):List Str:=if b=true then [s] else []
def zH (l:List Md):Str:=91::(eH l++[93])
def GL (f:aH):Str:=40::(textOf f++[41])
def kN (e:Ef):List Str:=opName e.op::(opt (uR e.op) (dI e.ref)++(opt (uZ e.op) (dR e.zone)++(opt (uK e.op) (dw e.ctr)++(opt (uC e.op) (L e.card)++(opt (uA e.op) (dW e.amt)++(opt (uM e.op) (zH e.mods)++(opt (uP e.op) (jZ e.pool)++opt (uF e.op) (GL e.flt))))))))
def dB (e:Ef):Str:=if jm e 4=true then Lib.join (kN e) [32] else []
def nx (b:Bool) (l:List Str):Str × List Str:=if b=true∧2≤l.length then (l.getD 1 [],l.drop 1) else ([],l)
def yT (s:Str):Int:=(List.range' 1 26).foldl (fun (o:Int) (k:Nat)=>if opName (k:Int)=s then (k:Int) else o) 0
def OQ (s:Str):Int:=(List.range' 0 6).foldl (fun (o:Int) (k:Nat)=>if dR (k:Int)=s then (k:Int) else o) 0
def innerS (s:Str):Str:=if s.length<2 then [] else (s.take (s.length - 1)).drop 1
def nx1 (op:Int) (ws:List Str):=nx (uR op) ws
def nx2 (op:Int) (ws:List Str):=nx (uZ op) (nx1 op ws).2
def nx3 (op:Int) (ws:List Str):=nx (uK op) (nx2 op ws).2
def nx4 (op:Int) (ws:List Str):=nx (uC op) (nx3 op ws).2
def nx5 (op:Int) (ws:List Str):=nx (uA op) (nx4 op ws).2
def nx6 (op:Int) (ws:List Str):=nx (uM op) (nx5 op ws).2
def nx7 (op:Int) (ws:List Str):=nx (uP op) (nx6 op ws).2
def nx8 (op:Int) (ws:List Str):=nx (uF op) (nx7 op ws).2
def SH (op:Int) (ws:List Str):Ef:=⟨op,(dX (nx1 op ws).1).getD dY,(eY (nx5 op ws).1).getD dG,(((jG (nx3 op ws).1).getD 0:Nat):Int),OQ (nx2 op ws).1,B (nx4 op ws).1,(bW (innerS (nx8 op ws).1)).getD zeroF,(dU (nx7 op ws).1).getD bn,(fF (innerS (nx6 op ws).1)).getD []⟩
def qP (ws:List Str):Ef:=SH (yT (ws.getD 0 [])) ws
def fC (s:Str):Option Ef:=if s≠[]∧dB (qP (eX 32 s))=s then some (qP (eX 32 s)) else none
theorem Vh:∀k:Fin 27,yT (opName (k.val:Int))=(k.val:Int):=by decide +kernel
theorem Np {op:Int} (h:opName op≠[]):∃k:Fin 27,op=(k.val:Int)∧1≤k.val:=by
 unfold opName at h
 split at h
 ·rename_i h1
  refine ⟨⟨op.toNat,by omega⟩,by simp only;omega,?_⟩
  simp only
  rcases Nat.eq_zero_or_pos op.toNat with h0|h0
  ·rw [h0] at h;exact absurd rfl h
  ·exact h0
 ·exact absurd rfl h
theorem Vj:∀k:Fin 27,1≤k.val→opName (k.val:Int)≠[]:=by decide +kernel
theorem aqW (b:Bool) (x s:Str) (r:List Str):nx b (x::(opt b s++r))=(if b=true then s else [],(if b=true then s else x)::r):=by
 cases b<;>simp [nx,opt]
theorem anV (b:Bool) (x s:Str):nx b (x::opt b s)=(if b=true then s else [],[if b=true then s else x]):=by
 cases b<;>simp [nx,opt]
theorem adZ (l:List Md):innerS (zH l)=eH l:=by
 unfold innerS zH
 simp
 intro h;omega
theorem agO (f:aH):innerS (GL f)=textOf f:=by
 unfold innerS GL
 simp
 intro h;omega
theorem adp (c:Int) (h:c=0∨c=1∨c=2):(((jG (dw c)).getD 0:Nat):Int)=c:=by rcases h with rfl|rfl|rfl<;>decide +kernel
theorem Cc {c:Int} (h:dw c≠[]):c=0∨c=1∨c=2:=by
 unfold dw at h
 split at h
 ·exact .inl ‹_›
 split at h
 ·exact .inr (.inl ‹_›)
 split at h
 ·exact .inr (.inr ‹_›)
 ·exact absurd rfl h
theorem aiL (z:Int) (h0:0≤z) (h1:z≤4):OQ (dR z)=z:=by
 have:∀k:Fin 5,OQ (dR (k.val:Int))=(k.val:Int):=by decide +kernel
 have:=this ⟨z.toNat,by omega⟩
 simp only at this
 rwa [show ((z.toNat:Nat):Int)=z by omega] at this
theorem IZ:fF []=none:=by decide +kernel
theorem not_nil {s:Str} (h:(!(s==[]))=true):s≠[]:=fun e=>by rw [e] at h;cases h
structure EOk (e:Ef) (specs:Int):Prop where
 Qy:∃k:Fin 27,e.op=(k.val:Int)∧1≤k.val
 ref:fRef e specs=true
 amt:rM e=true
 ctr:rO e=true
 zone:oG e=true
 card:fCard e=true
 flt:qO e=true
 pool:oD e=true
 mods:oC e=true
theorem EN {e:Ef} {specs:Int} (h:jm e specs=true):EOk e specs:=by
 simp only [jm,jy,Bool.and_eq_true] at h
 exact ⟨Np (not_nil h.1),h.2.1,h.2.2.1,h.2.2.2.1,h.2.2.2.2.1,h.2.2.2.2.2.1,h.2.2.2.2.2.2.1,h.2.2.2.2.2.2.2.1,h.2.2.2.2.2.2.2.2⟩
theorem arx {e:Ef} (h:fRef e 4=true):(dX (if uR e.op=true then dI e.ref else [])).getD dY=e.ref:=by
 unfold fRef at h
 split at h<;>rename_i hu
 ·rw [if_pos hu,vP h];rfl
 ·rw [if_neg hu,TA];exact ((OI _ _).1 h).symm
theorem arq {e:Ef} (h:rM e=true):(eY (if uA e.op=true then dW e.amt else [])).getD dG=e.amt:=by
 unfold rM at h
 split at h<;>rename_i hu
 ·rw [if_pos hu,BQ h];rfl
 ·rw [if_neg hu,VO];exact ((N7 _ _).1 h).symm
theorem ars {e:Ef} (h:rO e=true):(((jG (if uK e.op=true then dw e.ctr else [])).getD 0:Nat):Int)=e.ctr:=by
 unfold rO at h
 split at h<;>rename_i hu
 ·rw [if_pos hu];exact adp _ (Cc (not_nil h))
 ·rw [if_neg hu]
  rw [beq_iff_eq] at h
  rw [h];decide +kernel
theorem aoA {e:Ef} (h:oG e=true):OQ (if uZ e.op=true then dR e.zone else [])=e.zone:=by
 unfold oG at h
 split at h<;>rename_i hu
 ·simp only [Bool.and_eq_true,decide_eq_true_eq] at h
  rw [if_pos hu,aiL _ h.1 h.2]
 ·rw [if_neg hu]
  rw [beq_iff_eq] at h
  rw [h];decide +kernel
theorem aox {e:Ef} (h:fCard e=true):B (if uC e.op=true then L e.card else [])=e.card:=by
 unfold fCard at h
 split at h<;>rename_i hu
 ·rw [if_pos hu,qY]
 ·rw [if_neg hu]
  rw [beq_iff_eq] at h
  rw [←h,qY]
theorem aru {e:Ef} (h:qO e=true):(bW (innerS (if uF e.op=true then GL e.flt else []))).getD zeroF=e.flt:=by
 unfold qO at h
 split at h<;>rename_i hu
 ·rw [Bool.and_eq_true] at h
  rw [if_pos hu,agO,nJ h.1];rfl
 ·rw [if_neg hu,show innerS []=[] from rfl,Ky]
  exact ((lJ _ _).1 h).symm
theorem aoz {e:Ef} (h:oD e=true):(dU (if uP e.op=true then jZ e.pool else [])).getD bn=e.pool:=by
 unfold oD at h
 split at h<;>rename_i hu
 ·rw [Bool.and_eq_true] at h
  rw [if_pos hu,Kz ((Ia _).1 (not_nil h.2))];rfl
 ·rw [if_neg hu,V9];exact ((OB _ _).1 h).symm
theorem aec {l:List Md} (h:(!(eH l==[]))=true):l≠[]∧l.length≤6∧l.all iM=true:=ag5 (not_nil h)
theorem aoy {e:Ef} (h:oC e=true):(fF (innerS (if uM e.op=true then zH e.mods else []))).getD []=e.mods:=by
 unfold oC at h
 split at h<;>rename_i hu
 ·obtain ⟨a,b,c⟩:=aec h
  rw [if_pos hu,adZ,J9 a b c];rfl
 ·rw [if_neg hu,show innerS []=[] from rfl,IZ]
  rw [decide_eq_true_eq] at h
  rw [List.eq_nil_of_length_eq_zero h];rfl
theorem aaG {e:Ef} (h:jm e 4=true):qP (kN e)=e:=by
 have o:=EN h
 have r1:=arx o.ref
 have r2:=arq o.amt
 have r3:=ars o.ctr
 have r4:=aoA o.zone
 have r5:=aox o.card
 have r6:=aru o.flt
 have r7:=aoz o.pool
 have r8:=aoy o.mods
 obtain ⟨k,hk,_⟩:=o.Qy
 have hop:yT ((kN e).getD 0 [])=e.op:=by
  show yT (opName e.op)=e.op
  rw [hk];exact Vh k
 unfold qP
 rw [hop]
 obtain ⟨op,ref,amt,ctr,zone,card,flt,pool,mods⟩:=e
 simp only at *
 simp only [SH,nx8,nx7,nx6,nx5,nx4,nx3,nx2,nx1,kN,aqW,anV]
 rw [r1,r2,r3,r4,r5,r6,r7,r8]
def ji:Str→Nat→Option Nat
 |[],d=>some d
 |c::r,d=>if c.toNat=59∨(c.toNat=32∧d=0) then none else ji r (bP d c.toNat)
theorem eU:∀ {a b:Str} {d d1 d2:Nat},ji a d=some d1→ji b d1=some d2→ji (a++b) d=some d2
 |[],b,d,d1,d2,h1,h2=>by rw [ji] at h1;injection h1 with h1;rw [h1];exact h2
 |c::a,b,d,d1,d2,h1,h2=>by
  rw [ji] at h1
  rw [List.cons_append,ji]
  split at h1
  ·cases h1
  ·rename_i hc
   rw [if_neg hc];exact eU h1 h2
theorem Ii:∀ {w:Str} {d d':Nat},ji w d=some d'→∀cur r,splitAux 32 d cur (w++r)=splitAux 32 d' (cur++w) r
 |[],d,d',h,cur,r=>by rw [ji] at h;injection h with h;rw [h];simp
 |c::w,d,d',h,cur,r=>by
  rw [ji] at h
  split at h
  ·cases h
  ·rename_i hc
   rw [List.cons_append,splitAux,if_neg (fun e=>hc (.inr e)),Ii h]
   simp
theorem acU:∀ {w:Str} {d d':Nat},ji w d=some d'→(59:UInt8)∉w
 |[],_,_,_=>by simp
 |c::w,d,d',h=>by
  rw [ji] at h
  split at h
  ·cases h
  ·rename_i hc
   intro hm
   rcases List.mem_cons.1 hm with e|hm
   ·exact hc (.inl (by rw [←e];rfl))
   ·exact acU h hm
def DZ (c:UInt8):Prop:=c.toNat≠59∧c.toNat≠40∧c.toNat≠41∧c.toNat≠91∧c.toNat≠93
instance (c:UInt8):Decidable (DZ c):=by unfold DZ;exact inferInstance
theorem aat {c:UInt8} (h:DZ c) (d:Nat):bP d c.toNat=d:=by
 obtain ⟨_,a,b,e,f⟩:=h
 unfold bP
 rw [if_neg (by omega),if_neg (by omega)]
theorem wY:∀ {w:Str} {d:Nat},(∀c∈w,DZ c)→(d≠0∨∀c∈w,c.toNat≠32)→ji w d=some d
 |[],_,_,_=>rfl
 |c::w,d,h,h2=>by
  have hc:=h c (.head _)
  rw [ji,if_neg,aat hc]
  ·exact wY (fun x hx=>h x (.tail _ hx)) (h2.imp id fun g x hx=>g x (.tail _ hx))
  ·rintro (e|⟨e1,e2⟩)
   ·exact hc.1 e
   ·rcases h2 with g|g
    ·exact g e2
    ·exact g c (.head _) e1
theorem Di {c:UInt8} (h:okB c=true):DZ c∧c.toNat≠32:=by
 have e:∀n:Nat,n<256→c=UInt8.ofNat n→c.toNat=n:=fun n hn e=>by rw [e];simp;omega
 simp only [okB,YO,okb,Bool.or_eq_true,Bool.and_eq_true,decide_eq_true_eq,beq_iff_eq] at h
 unfold DZ
 rcases h with h|h|h|h|h
 ·omega
 all_goals (subst h;decide)
theorem SY {w:Str} (h:oK w) (d:Nat):ji w d=some d:=
 wY (fun c hc=>(Di (List.all_eq_true.1 h c hc)).1) (.inr fun c hc=>(Di (List.all_eq_true.1 h c hc)).2)
theorem Bz (f:aH) (d:Nat) (h:d≠0):ji (textOf f) d=some d:=
 wY (fun c hc=>by
  rcases Iy hc with h|h
  ·exact (Di h).1
  ·subst h;decide) (.inl h)
theorem yM (n:Int) (d:Nat):ji (Lib.itoa n) d=some d:=
 wY (fun c hc=>by unfold DZ;rcases tV hc with h|h<;>omega) (.inr fun c hc=>by rcases tV hc with h|h<;>omega)
theorem ad1 {s:Str} (h:isName s=true):oK s:=by
 simp only [isName,Bool.and_eq_true] at h
 refine List.all_eq_true.2 fun c hc=> ?_
 unfold okB;rw [List.all_eq_true.1 h.2 c hc];rfl
theorem aoB {r:Rf} (h:iZ r 4=true):ji (dI r) 0=some 0:=by
 rcases sV h with rfl|rfl|rfl|rfl|rfl|(rfl|rfl|rfl|rfl)|(rfl|rfl|rfl|rfl)|⟨f,hf,rfl⟩
 all_goals try (decide +kernel)
 have e:dI ⟨4,0,f⟩=eF++(textOf f++[41]):=by
  unfold dI;rw [if_pos h]
  simp [refBody,xM]
 rw [e]
 exact eU (d1:=1) (by decide) (eU (Bz f 1 (by decide)) (by decide))
theorem Uw (f:aH):ji (bT f) 0=some 0:=eU (d1:=1) (by decide) (eU (Bz f 1 (by decide)) (by decide))
theorem apL {a:Am} (h:iU a=true):ji (dW a) 0=some 0:=by
 have e:dW a=rZ a:=if_pos h
 rw [e]
 rcases xw h with ⟨n,_,rfl⟩|⟨n,_,_,f,_,rfl⟩|⟨c,(rfl|rfl|rfl),rfl⟩|⟨k,(rfl|rfl|rfl|rfl|rfl),rfl⟩
 ·exact yM n 0
 ·rw [xu]
  split
  ·exact eU (yM _ 0) (by rw [ji,if_neg (by decide)];exact Uw f)
  ·exact Uw f
 all_goals decide +kernel
theorem ajx (f:aH):ji (GL f) 0=some 0:=eU (a:=[40]) (d1:=1) (by decide) (eU (Bz f 1 (by decide)) (by decide))
theorem VD:∀k:Fin 64,ji (bD k.val) 1=some 1:=by decide +kernel
theorem Px:∀k:Fin 32,ji (bM k.val) 1=some 1:=by decide +kernel
theorem aqA:∀i:Fin 17,(wd bK i.val).all okB=true:=by decide +kernel
theorem Yj {m:Nat} (hm:m<2 ^ 17):ji (dA m) 1=some 1:=by
 refine wY (fun c hc=> ?_) (.inl (by decide))
 unfold dA at hc
 split at hc
 ·have:∀c∈pO,okB c=true:=by decide
  exact (Di (this c hc)).1
 ·rcases CX hc with ⟨w,hw,hc⟩|hc
  ·obtain ⟨i,hi,rfl⟩:=List.mem_map.1 hw
   exact (Di (List.all_eq_true.1 (aqA ⟨i,uH hm hi⟩) c hc)).1
  ·simp at hc;subst hc;decide
theorem aqJ {r:Md} (h:iM r=true):ji (cu r) 1=some 1:=by
 rw [show cu r=nM r from if_pos h]
 cases wS h with
 |control=>decide
 |sJ k h1 h2=>exact eU (a:=vK++[61]) (d:=1) (d1:=1) (by decide) (VD ⟨k,by omega⟩)
 |Ap k h1 h2=>exact eU (a:=sZ++[61]) (d:=1) (d1:=1) (by decide) (VD ⟨k,by omega⟩)
 |KW s hs=>exact eU (a:=E5++[61]) (d:=1) (d1:=1) (by decide) (SY (Ac hs) 1)
 |KX s hs=>exact eU (a:=zO++[61]) (d:=1) (d1:=1) (by decide) (SY (Ac hs) 1)
 |wI k h1=>exact eU (a:=sO++[61]) (d:=1) (d1:=1) (by decide) (Px ⟨k,by omega⟩)
 |wJ k h1 h2=>exact eU (a:=qF++[61]) (d:=1) (d1:=1) (by decide) (Px ⟨k,by omega⟩)
 |keys8 k h1 h2=>exact eU (a:=uf++[61]) (d:=1) (d1:=1) (by decide) (Yj (m:=k) (by omega))
 |Ec k h1 h2=>exact eU (a:=tZ++[61]) (d:=1) (d1:=1) (by decide) (Yj (m:=k) (by omega))
 |blank=>decide
 |count f hf=>exact eU (a:=vC++[61]++iq) (d:=1) (d1:=2) (by decide) (eU (b:=[41]) (d:=2) (d1:=2) (d2:=1) (Bz f 2 (by decide)) (by decide))
 |Et n m h1 h2 h3 h4=>exact eU (a:=vC++[61]) (d:=1) (d1:=1) (by decide) (eU (yM n 1) (eU (a:=[47]) (d:=1) (d1:=1) (by decide) (yM m 1)))
 |DW n m h1 h2 h3 h4=>exact eU (a:=Aq++[61]) (d:=1) (d1:=1) (by decide) (eU (yM n 1) (eU (a:=[47]) (d:=1) (d1:=1) (by decide) (yM m 1)))
 |switch=>decide
theorem Ye {sep:Str} {d:Nat} (hs:ji sep d=some d):∀ {l:List Str},(∀x∈l,ji x d=some d)→ji (Lib.join l sep) d=some d
 |[],_=>rfl
 |[a],h=>by rw [Lib.join_one];exact h a (by simp)
 |a::b::r,h=>by
  rw [fA]
  exact eU (eU (h a (by simp)) hs) (Ye hs fun x hx=>h x (.tail _ hx))
theorem ajR {l:List Md} (h:l.all iM=true) (h0:l≠[]) (h6:l.length≤6):ji (zH l) 0=some 0:=by
 have e:eH l=Lib.join (l.map cu) iL:=if_pos ⟨h0,h6,h⟩
 have:=Ye (sep:=iL) (d:=1) (by decide) (l:=l.map cu) (fun x hx=>by
  obtain ⟨r,hr,rfl⟩:=List.mem_map.1 hx
  exact aqJ (List.all_eq_true.1 h r hr))
 unfold zH
 rw [e]
 exact eU (a:=[91]) (d1:=1) (by decide) (eU this (by decide))
theorem akm {p:Po} (h:ael p=true):ji (jZ p) 0=some 0:=by
 unfold jZ iC
 unfold ael at h
 rw [if_pos h]
 split
 ·decide
 ·refine wY (fun c hc=> ?_) (.inr fun c hc=> ?_)
  all_goals
   unfold lI at hc
   simp only [kV,rP,Bool.and_eq_true,decide_eq_true_eq] at h
   rcases List.mem_append.1 hc with hc|hc
   ·rw [TD hc];decide
   rcases List.mem_append.1 hc with hc|hc
   ·have:=Kr (by omega) hc
    first|(unfold DZ;omega)|omega
   ·have:=Iu _ c hc
    unfold isLet at this
    simp only [Bool.or_eq_true,beq_iff_eq] at this
    rcases this with rfl|rfl|rfl|rfl|rfl<;>decide
theorem aek:∀k:Fin 27,ji (opName (k.val:Int)) 0=some 0:=by decide +kernel
theorem alf {z:Int} (h0:0≤z) (h1:z≤4):ji (dR z) 0=some 0:=by
 have:∀k:Fin 5,ji (dR (k.val:Int)) 0=some 0:=by decide +kernel
 have:=this ⟨z.toNat,by omega⟩
 simp only at this
 rwa [show ((z.toNat:Nat):Int)=z by omega] at this
theorem amD {c:Int} (h:c=0∨c=1∨c=2):ji (dw c) 0=some 0:=by rcases h with rfl|rfl|rfl<;>decide
theorem uV {b:Bool} {s x:Str} (h:x∈opt b s):b=true∧x=s:=by
 cases b
 ·cases h
 ·exact ⟨rfl,by simpa [opt] using h⟩
theorem Ls {e:Ef} (h:jm e 4=true):∀x∈kN e,ji x 0=some 0:=by
 have o:=EN h
 obtain ⟨k,hk,_⟩:=o.Qy
 intro x hx
 unfold kN at hx
 rcases List.mem_cons.1 hx with rfl|hx
 ·rw [hk];exact aek k
 rcases List.mem_append.1 hx with hx|hx
 ·obtain ⟨hu,rfl⟩:=uV hx
  have:=o.ref;unfold fRef at this;rw [if_pos hu] at this;exact aoB this
 rcases List.mem_append.1 hx with hx|hx
 ·obtain ⟨hu,rfl⟩:=uV hx
  have:=o.zone;unfold oG at this;rw [if_pos hu] at this
  simp only [Bool.and_eq_true,decide_eq_true_eq] at this;exact alf this.1 this.2
 rcases List.mem_append.1 hx with hx|hx
 ·obtain ⟨hu,rfl⟩:=uV hx
  have:=o.ctr;unfold rO at this;rw [if_pos hu] at this;exact amD (Cc (not_nil this))
 rcases List.mem_append.1 hx with hx|hx
 ·obtain ⟨hu,rfl⟩:=uV hx
  have:=o.card;unfold fCard at this;rw [if_pos hu] at this;exact SY (ad1 this) 0
 rcases List.mem_append.1 hx with hx|hx
 ·obtain ⟨hu,rfl⟩:=uV hx
  have:=o.amt;unfold rM at this;rw [if_pos hu] at this;exact apL this
 rcases List.mem_append.1 hx with hx|hx
 ·obtain ⟨hu,rfl⟩:=uV hx
  have:=o.mods;unfold oC at this;rw [if_pos hu] at this
  obtain ⟨a,b,c⟩:=aec this
  exact ajR c a b
 rcases List.mem_append.1 hx with hx|hx
 ·obtain ⟨hu,rfl⟩:=uV hx
  have:=o.pool;unfold oD at this;rw [if_pos hu,Bool.and_eq_true] at this
  exact akm ((Ia _).1 (not_nil this.2))
 ·obtain ⟨hu,rfl⟩:=uV hx
  exact ajx _
theorem Q9:∀ {l:List Str},l≠[]→(∀x∈l,ji x 0=some 0)→eX 32 (Lib.join l [32])=l
 |[],h,_=>absurd rfl h
 |[a],_,h=>by
  have:=Ii (h a (by simp)) [] []
  rw [Lib.join_one]
  unfold eX
  rw [List.append_nil] at this
  rw [this];rfl
 |a::b::r,_,h=>by
  have ih:=Q9 (l:=b::r) (by simp) (fun x hx=>h x (.tail _ hx))
  have h1:=Ii (h a (by simp)) [] ([32]++Lib.join (b::r) [32])
  rw [fA,List.append_assoc]
  unfold eX at ih ⊢
  rw [h1]
  show splitAux 32 0 a (32::Lib.join (b::r) [32])=_
  rw [splitAux,if_pos ⟨by decide,rfl⟩,show bP 0 (32:UInt8).toNat=0 from by decide,ih]
theorem wK {e:Ef} (h:jm e 4=true):dB e=Lib.join (kN e) [32]:=if_pos h
theorem CG {e:Ef} (h:jm e 4=false):dB e=[]:=if_neg (by rw [h];decide)
theorem XK {e:Ef} (h:jm e 4=true):dB e≠[]:=by
 rw [wK h]
 obtain ⟨k,hk,h1⟩:=(EN h).Qy
 have hn:opName e.op≠[]:=by rw [hk];exact Vj k h1
 unfold kN
 generalize (opt (uR e.op) (dI e.ref)++_)=r
 cases r with
 |nil=>rw [Lib.join_one];exact hn
 |cons a r=>rw [fA];simp [hn]
theorem Rh {e:Ef} (h:jm e 4=true):eX 32 (dB e)=kN e:=by
 rw [wK h]
 exact Q9 (by simp [kN]) (Ls h)
theorem EM {e:Ef} (h:jm e 4=true):fC (dB e)=some e:=by
 unfold fC
 rw [Rh h,aaG h,if_pos ⟨XK h,rfl⟩]
theorem EL {s:Str} {e:Ef} (h:fC s=some e):jm e 4=true∧dB e=s:=by
 unfold fC at h
 split at h
 ·rename_i hc
  obtain rfl:=Option.some.inj h
  refine ⟨?_,hc.2⟩
  cases hv:jm (qP (eX 32 s)) 4 with
  |true=>rfl
  |false=>
   have:=hc.2
   rw [CG hv] at this
   exact absurd this.symm hc.1
 ·cases h
theorem aav {s:Str} {o:Option Ef} (h1:∀t,o=some t→jm t 4=true∧dB t=s) (h2:o=none→∀t,jm t 4=true→dB t=s→False):o=fC s:=by
 cases o with
 |some t=>
  obtain ⟨a,b⟩:=h1 t rfl
  rw [←b,EM a]
 |none=>
  cases hp:fC s with
  |none=>rfl
  |some t=>exact absurd (h2 rfl t (EL hp).1 (EL hp).2) id
theorem JE:fC []=none:=if_neg (fun h=>h.1 rfl)
theorem Gx (e:Ef):(59:UInt8)∉dB e:=by
 cases h:jm e 4 with
 |false=>rw [CG h];simp
 |true=>
  rw [wK h]
  intro hm
  rcases CX hm with ⟨w,hw,hc⟩|hc
  ·exact acU (Ls h w hw) hc
  ·simp at hc
def mZ (c:Co) (b:UInt8):Option Co:=
 if b=88 then some { c with x:=c.x+1 }
 else if 48≤b.toNat∧b.toNat≤57 then some { c with g:=10 * c.g+((b.toNat:Int) - 48) }
 else if b=65 then some { c with c0:=c.c0+1 }
 else if b=67 then some { c with c1:=c.c1+1 }
 else if b=74 then some { c with c2:=c.c2+1 }
 else if b=82 then some { c with c3:=c.c3+1 }
 else if b=69 then some { c with c4:=c.c4+1 }
 else none
def ku:Co→Str→Option Co
 |c,[]=>some c
 |c,b::s=>match mZ c b with
  |some d=>if 99<d.g then none else ku d s
  |none=>none
def qCo (s:Str):Option Co:=if 60<s.length then none else match ku dQ s with
 |some c=>if s≠[]∧iC c=s then some c else none
 |none=>none
theorem oP (c:Co) (b:UInt8) (s:Str):ku c (b::s)=match mZ c b with|some d=>if 99<d.g then none else ku d s|none=>none:=rfl
theorem rX:∀(a b:Str) (c:Co),ku c (a++b)=match ku c a with|some d=>ku d b|none=>none
 |[],b,c=>rfl
 |x::a,b,c=>by
  show ku c (x::(a++b))=_
  rw [oP,oP]
  cases mZ c x with
  |none=>rfl
  |some d=>
   simp only
   split
   ·rfl
   ·exact rX a b d
theorem arN:∀(n:Nat) (c:Co),c.g≤99→ku c (List.replicate n 88)=some { c with x:=c.x+n }
 |0,c,_=>by simp [ku]
 |n+1,c,h=>by
  show ku c (88::List.replicate n 88)=_
  rw [oP,show mZ c 88=some { c with x:=c.x+1 } from rfl]
  simp only
  rw [if_neg (by (try simp only);omega),arN n _ (by (try simp only);omega)]
  simp only [Option.some.injEq,Co.mk.injEq,and_true,true_and]
  omega
theorem arI:∀(n:Nat) (c:Co),c.g≤99→ku c (List.replicate n 65)=some { c with c0:=c.c0+n }
 |0,c,_=>by simp [ku]
 |n+1,c,h=>by
  show ku c (65::List.replicate n 65)=_
  rw [oP,show mZ c 65=some { c with c0:=c.c0+1 } from rfl]
  simp only
  rw [if_neg (by (try simp only);omega),arI n _ (by (try simp only);omega)]
  simp only [Option.some.injEq,Co.mk.injEq,and_true,true_and]
  omega
theorem arJ:∀(n:Nat) (c:Co),c.g≤99→ku c (List.replicate n 67)=some { c with c1:=c.c1+n }
 |0,c,_=>by simp [ku]
 |n+1,c,h=>by
  show ku c (67::List.replicate n 67)=_
  rw [oP,show mZ c 67=some { c with c1:=c.c1+1 } from rfl]
  simp only
  rw [if_neg (by (try simp only);omega),arJ n _ (by (try simp only);omega)]
  simp only [Option.some.injEq,Co.mk.injEq,and_true,true_and]
  omega
theorem arK:∀(n:Nat) (c:Co),c.g≤99→ku c (List.replicate n 74)=some { c with c2:=c.c2+n }
 |0,c,_=>by simp [ku]
 |n+1,c,h=>by
  show ku c (74::List.replicate n 74)=_
  rw [oP,show mZ c 74=some { c with c2:=c.c2+1 } from rfl]
  simp only
  rw [if_neg (by (try simp only);omega),arK n _ (by (try simp only);omega)]
  simp only [Option.some.injEq,Co.mk.injEq,and_true,true_and]
  omega
theorem arL:∀(n:Nat) (c:Co),c.g≤99→ku c (List.replicate n 82)=some { c with c3:=c.c3+n }
 |0,c,_=>by simp [ku]
 |n+1,c,h=>by
  show ku c (82::List.replicate n 82)=_
  rw [oP,show mZ c 82=some { c with c3:=c.c3+1 } from rfl]
  simp only
  rw [if_neg (by (try simp only);omega),arL n _ (by (try simp only);omega)]
  simp only [Option.some.injEq,Co.mk.injEq,and_true,true_and]
  omega
theorem arM:∀(n:Nat) (c:Co),c.g≤99→ku c (List.replicate n 69)=some { c with c4:=c.c4+n }
 |0,c,_=>by simp [ku]
 |n+1,c,h=>by
  show ku c (69::List.replicate n 69)=_
  rw [oP,show mZ c 69=some { c with c4:=c.c4+1 } from rfl]
  simp only
  rw [if_neg (by (try simp only);omega),arM n _ (by (try simp only);omega)]
  simp only [Option.some.injEq,Co.mk.injEq,and_true,true_and]
  omega
def aeH:Int→Str→Option Int
 |g,[]=>some g
 |g,b::s=>if 99<10 * g+((b.toNat:Int) - 48) then none else aeH (10 * g+((b.toNat:Int) - 48)) s
theorem ZK:∀(s:Str) (c:Co),(∀b∈s,48≤b.toNat∧b.toNat≤57)→ku c s=match aeH c.g s with|some g=>some { c with g:=g } |none=>none
 |[],c,_=>rfl
 |b::s,c,h=>by
  have hb:=h b (.head _)
  have hne:b≠88:=fun e=>by rw [e] at hb;exact absurd hb (by decide)
  unfold ku aeH
  rw [show mZ c b=some { c with g:=10 * c.g+((b.toNat:Int) - 48) } by unfold mZ;rw [if_neg hne,if_pos hb]]
  simp only
  split
  ·rfl
  ·exact ZK s _ (fun x hx=>h x (.tail _ hx))
theorem akL:∀k:Fin 100,aeH 0 (qh (k.val:Int))=some (k.val:Int):=by decide +kernel
theorem afW:∀k:Fin 100,(qh (k.val:Int)).length≤2:=by decide +kernel
theorem adr {c:Co} (h:kV c=true):(lI c).length≤60:=by
 simp only [kV,rP,Bool.and_eq_true,decide_eq_true_eq] at h
 have h1:=afW ⟨c.g.toNat,by omega⟩
 simp only at h1
 rw [show ((c.g.toNat:Nat):Int)=c.g by omega] at h1
 unfold lI mX rep
 simp only [List.length_append,List.length_replicate]
 omega
theorem Pn (c:Co):(iC c).length≤60:=by
 unfold iC
 split
 ·split
  ·decide
  ·exact adr ‹_›
 ·decide
theorem ah1 {c:Co} (h:kV c=true):ku dQ (lI c)=some c:=by
 simp only [kV,rP,Bool.and_eq_true,decide_eq_true_eq] at h
 have h1:=akL ⟨c.g.toNat,by omega⟩
 simp only at h1
 rw [show ((c.g.toNat:Nat):Int)=c.g by omega] at h1
 unfold lI mX rep
 rw [rX,arN _ _ (by decide)]
 simp only
 rw [rX,ZK _ _ (fun b hb=>Kr (by omega) hb)]
 simp only
 rw [show dQ.g=0 from rfl,h1]
 simp only
 rw [rX,arI _ _ (by (try simp only);omega)]
 simp only
 rw [rX,arJ _ _ (by (try simp only);omega)]
 simp only
 rw [rX,arK _ _ (by (try simp only);omega)]
 simp only
 rw [rX,arL _ _ (by (try simp only);omega)]
 simp only
 rw [arM _ _ (by (try simp only);omega)]
 obtain ⟨g,x,c0,c1,c2,c3,c4⟩:=c
 simp only [dQ,Option.some.injEq,Co.mk.injEq,true_and] at *
 omega
theorem ah2 {c:Co} (h:kV c=true):ku dQ (iC c)=some c:=by
 unfold iC
 rw [if_pos h]
 split
 ·rename_i hz
  rw [(yE _ _).1 hz];decide
 ·exact ah1 h
theorem aq3 (s:Str):qCo s=kY s:=by
 refine Xu ?_ ?_
 ·intro t ht
  unfold qCo at ht
  split at ht
  ·cases ht
  ·split at ht
   ·split at ht
    ·rename_i hc
     obtain rfl:=Option.some.inj ht
     exact ⟨(Gu _).1 (by rw [hc.2];exact hc.1),hc.2⟩
    ·cases ht
   ·cases ht
 ·intro hn t ht e
  subst e
  have hl:=Pn t
  unfold qCo at hn
  rw [if_neg (by omega),ah2 ht] at hn
  simp only at hn
  rw [if_pos ⟨Ur ht,trivial⟩] at hn
  cases hn
theorem adn {c d:Co} {b:UInt8} {n:Int} (h:mZ c b=some d) (hx:0≤c.x∧c.x≤n) (h0:0≤c.c0∧c.c0≤n) (h1:0≤c.c1∧c.c1≤n) (h2:0≤c.c2∧c.c2≤n) (h3:0≤c.c3∧c.c3≤n) (h4:0≤c.c4∧c.c4≤n) (hg:0≤c.g):
 (0≤d.x∧d.x≤n+1)∧(0≤d.c0∧d.c0≤n+1)∧(0≤d.c1∧d.c1≤n+1)∧(0≤d.c2∧d.c2≤n+1)∧(0≤d.c3∧d.c3≤n+1)∧(0≤d.c4∧d.c4≤n+1)∧0≤d.g:=by
 unfold mZ at h
 repeat' split at h
 all_goals first|(cases h;done)|(obtain rfl:=Option.some.inj h;simp only;omega)
def jD:Str:=[59,32]
def iG:Bool→Str→Str→List Str
 |_,cur,[]=>[cur]
 |true,cur,_::r=>iG false cur r
 |false,cur,c::r=>if c=59∧r.head?=some 32 then cur::iG true [] r else iG false (cur++[c]) r
def lZ (s:Str):List Str:=iG false [] s
theorem KT (cur r:Str):iG false cur (59::32::r)=cur::iG false [] r:=by
 rw [iG,if_pos ⟨rfl,rfl⟩,iG]
theorem Bl (c:UInt8) (cur r:Str) (h:¬(c=59∧r.head?=some 32)):iG false cur (c::r)=iG false (cur++[c]) r:=by
 rw [iG,if_neg h]
theorem Rj:∀(x cur r:Str),(59:UInt8)∉x→iG false cur (x++59::32::r)=(cur++x)::iG false [] r
 |[],cur,r,_=>by rw [List.nil_append,KT,List.append_nil]
 |c::x,cur,r,h=>by
  rw [List.cons_append,Bl _ _ _ (fun e=>h (by rw [←e.1];exact .head _)),Rj x _ r (fun m=>h (.tail _ m))];simp
theorem Ri:∀(x cur:Str),(59:UInt8)∉x→iG false cur x=[cur++x]
 |[],cur,_=>by rw [iG,List.append_nil]
 |c::x,cur,h=>by
  rw [Bl _ _ _ (fun e=>h (by rw [←e.1];exact .head _)),Ri x _ (fun m=>h (.tail _ m))];simp
theorem NR:∀(l:List Str),l≠[]→(∀x∈l,(59:UInt8)∉x)→lZ (Lib.join l jD)=l
 |[],h,_=>absurd rfl h
 |[a],_,h=>by unfold lZ;rw [Lib.join_one,Ri a [] (h a (by simp))];rfl
 |a::b::r,_,h=>by
  have ih:=NR (b::r) (by simp) (fun x hx=>h x (.tail _ hx))
  unfold lZ at ih ⊢
  rw [fA,List.append_assoc,show jD++Lib.join (b::r) jD=59::32::Lib.join (b::r) jD from rfl,Rj a [] _ (h a (by simp)),ih];rfl
theorem Ir:∀(s cur:Str) (b:Bool),iG b cur s≠[]
 |[],cur,b=>by cases b<;>simp [iG]
 |c::r,cur,true=>by rw [iG];exact Ir r cur false
 |c::r,cur,false=>by
  rw [iG];split
  ·simp
  ·exact Ir r _ false
theorem He:∀(n:Nat) (s cur:Str),s.length≤n→Lib.join (iG false cur s) jD=cur++s
 |_,[],cur,_=>by rw [iG,Lib.join_one,List.append_nil]
 |0,c::r,cur,h=>by simp at h
 |n+1,c::r,cur,h=>by
  by_cases hc:c=59∧r.head?=some 32
  ·obtain ⟨rfl,hr⟩:=hc
   cases r with
   |nil=>cases hr
   |cons d r=>
    obtain rfl:d=32:=by simpa using hr
    rw [KT]
    have ih:=He n r [] (by simp at h ⊢;omega)
    cases hl:iG false [] r with
    |nil=>exact absurd hl (Ir r [] false)
    |cons b l=>rw [hl] at ih;rw [fA,ih];simp [jD]
  ·rw [Bl _ _ _ hc,He n r _ (by simp at h ⊢;omega)];simp
theorem aaN (s:Str):Lib.join (lZ s) jD=s:=by unfold lZ;rw [He s.length s [] (Nat.le_refl _)];rfl
theorem Eu:∀(s cur:Str) (b:Bool),(iG b cur s).length≤s.length+1
 |[],cur,b=>by cases b<;>simp [iG]
 |c::r,cur,true=>by rw [iG];have:=Eu r cur false;simp;omega
 |c::r,cur,false=>by
  rw [iG];split
  ·have:=Eu r [] true;simp;omega
  ·have:=Eu r (cur++[c]) false;simp;omega
theorem Ew:∀(s cur:Str) (b:Bool),∀x∈iG b cur s,x.length≤cur.length+s.length
 |[],cur,b,x,h=>by cases b<;>(simp [iG] at h;subst h;simp)
 |c::r,cur,true,x,h=>by rw [iG] at h;have:=Ew r cur false x h;simp;omega
 |c::r,cur,false,x,h=>by
  rw [iG] at h
  split at h
  ·rcases List.mem_cons.1 h with rfl|h
   ·simp
   ·have:=Ew r [] true x h;simp at this ⊢;omega
  ·have:=Ew r _ false x h;simp at this ⊢;omega
theorem ZP (c:UInt8) (r:Str):jD.isPrefixOf (c::r)=(c==59&&r.head?==some 32):=by
 cases r with
 |nil=>simp [jD,List.isPrefixOf]
 |cons d r=>
  rw [Bool.eq_iff_iff]
  simp [jD]
  constructor
  ·rintro ⟨h1,h2⟩;exact ⟨h1.symm,h2.symm⟩
  ·rintro ⟨h1,h2⟩;exact ⟨h1.symm,h2.symm⟩
theorem aii:∀(s cur:Str),(Lib.index s jD= -1∧iG false cur s=[cur++s])∨(∃i:Nat,Lib.index s jD=i∧i+2≤s.length∧iG false cur s=(cur++s.take i)::iG false [] (s.drop (i+2)))
 |[],cur=> .inl ⟨rfl,by rw [iG,List.append_nil]⟩
 |c::r,cur=>by
  by_cases h:c=59∧r.head?=some 32
  ·obtain ⟨rfl,hr⟩:=h
   cases r with
   |nil=>cases hr
   |cons d r=>
    obtain rfl:d=32:=by simpa using hr
    refine .inr ⟨0,?_,by simp,?_⟩
    ·unfold Lib.index
     rw [ZP];rfl
    ·rw [KT];simp
  ·have hp:jD.isPrefixOf (c::r)=false:=by
    rw [ZP]
    cases hb:(c==59&&r.head?==some 32) with
    |false=>rfl
    |true=>simp only [Bool.and_eq_true,beq_iff_eq] at hb;exact absurd hb h
   rw [Bl _ _ _ h]
   unfold Lib.index
   rw [hp,if_neg (by decide)]
   rcases aii r (cur++[c]) with ⟨h1,h2⟩|⟨i,h1,h2,h3⟩
   ·left;rw [h1,h2];simp
   ·right
    refine ⟨i+1,?_,by simp;omega,?_⟩
    ·rw [h1,if_neg (by rw [beq_iff_eq];omega)];simp
    ·rw [h3];simp
theorem aeN (s:Str):(Lib.index s jD= -1∧lZ s=[s])∨(∃i:Nat,Lib.index s jD=i∧i+2≤s.length∧lZ s=s.take i::lZ (s.drop (i+2))):=by
 have:=aii s []
 simpa [lZ] using this
theorem NP:∀(n:Nat) (s:Str),s.length≤n→Lib.splitK jD 0 (Lib.count s jD) s=lZ s
 |n,s,hn=>by
  rcases aeN s with ⟨h1,h2⟩|⟨i,h1,h2,h3⟩
  ·rw [Lib.count_miss h1,h2];rfl
  ·have hc:=Lib.count_hit (sub:=jD) (by decide) h1
   have hl:jD.length=2:=rfl
   rw [hl] at hc
   cases n with
   |zero=>omega
   |succ n=>
    have ih:=NP n (s.drop (i+2)) (by simp;omega)
    rw [hc,Nat.add_comm,Lib.splitK,if_neg (by rw [h1,beq_iff_eq];omega),h1,hl,h3]
    simp only [Int.toNat_natCast,Nat.add_zero]
    rw [ih]
theorem abq (s:ByteArray):(Lib.splitB ⟨#[59,32]⟩ 0 (Lib.countB s ⟨#[59,32]⟩) s).map L=lZ (L s):=by
 have h:=Lib.splitB_data ⟨#[59,32]⟩ 0 (Lib.countB s ⟨#[59,32]⟩) s
 exact h.trans (NP _ (L s) (Nat.le_refl _))
def jX (l:List Ef):Str:=if l≠[]∧l.length≤8∧(l.all fun e=>jm e 4)=true then Lib.join (l.map dB) jD else []
def qj:List Ef→List Str→Option (List Ef)
 |out,[]=>some out
 |out,p::r=>match fC p with
  |none=>none
  |some m=>if out.length=8 then none else qj (out++[m]) r
def kJ (s:Str):Option (List Ef):=qj [] (lZ s)
theorem PN:∀(ps:List Str) (out l:List Ef),qj out ps=some l→out.length≤8→(out.all fun e=>jm e 4)=true→(l.all fun e=>jm e 4)=true∧l.length≤8∧l.map dB=out.map dB++ps
 |[],out,l,h,h6,ha=>by rw [qj] at h;injection h with h;subst h;exact ⟨ha,h6,by simp⟩
 |p::r,out,l,h,h6,ha=>by
  rw [qj] at h
  cases hp:fC p with
  |none=>rw [hp] at h;cases h
  |some m=>
   rw [hp] at h
   simp only at h
   split at h
   ·cases h
   ·obtain ⟨h1,h2⟩:=EL hp
    obtain ⟨i1,i2,i3⟩:=PN r (out++[m]) l h (by simp;omega) (by simp [ha,h1])
    exact ⟨i1,i2,by rw [i3];simp [h2]⟩
theorem PO:∀(l out:List Ef),(l.all fun e=>jm e 4)=true→out.length+l.length≤8→qj out (l.map dB)=some (out++l)
 |[],out,_,_=>by simp [qj]
 |m::l,out,h,h6=>by
  simp only [List.all_cons,Bool.and_eq_true] at h
  simp only [List.length_cons] at h6
  rw [List.map_cons,qj,EM h.1]
  simp only
  rw [if_neg (by omega),PO l (out++[m]) h.2 (by simp;omega)]
  simp
theorem CJ {l:List Ef} (h0:l≠[]) (h6:l.length≤8) (h:(l.all fun e=>jm e 4)=true):kJ (jX l)=some l:=by
 unfold kJ jX
 rw [if_pos ⟨h0,h6,h⟩,NR _ (by simpa using h0) (fun x hx=>by obtain ⟨e,_,rfl⟩:=List.mem_map.1 hx;exact Gx e),PO l [] h (by simpa using h6)]
 rfl
theorem JG {s:Str} {l:List Ef} (h:kJ s=some l):l≠[]∧l.length≤8∧(l.all fun e=>jm e 4)=true∧jX l=s:=by
 obtain ⟨h1,h2,h3⟩:=PN (lZ s) [] l h (by simp) rfl
 simp only [List.map_nil,List.nil_append] at h3
 have h0:l≠[]:=fun e=>by
  rw [e] at h3
  exact Ir s [] false h3.symm
 refine ⟨h0,h2,h1,?_⟩
 unfold jX
 rw [if_pos ⟨h0,h2,h1⟩,h3,aaN]
theorem UH {l:List Ef} (h:jX l≠[]):l≠[]∧l.length≤8∧(l.all fun e=>jm e 4)=true:=by
 unfold jX at h
 split at h
 ·assumption
 ·exact absurd rfl h
theorem adH {l:List Ef} (h0:l≠[]) (h6:l.length≤8) (h:(l.all fun e=>jm e 4)=true):jX l≠[]:=by
 intro e
 have:=CJ h0 h6 h
 rw [e] at this
 have e2:kJ []=none:=by
  unfold kJ lZ
  rw [iG,qj]
  simp only [JE]
 rw [e2] at this;cases this
theorem XL {s:Str} {o:Option (List Ef)} (h1:∀t,o=some t→jX t=s∧s≠[]) (h2:o=none→∀t,jX t=s→s≠[]→False):o=kJ s:=by
 cases o with
 |some t=>
  obtain ⟨a,b⟩:=h1 t rfl
  rw [←a] at b
  obtain ⟨x,y,z⟩:=UH b
  rw [←a,CJ x y z]
 |none=>
  cases hp:kJ s with
  |none=>rfl
  |some t=>
   obtain ⟨a,b,c,d⟩:=JG hp
   exact absurd (h2 rfl t d (d ▸ adH a b c)) id
theorem RU (n:Nat) (c:UInt8):pW n c=bP n c.toNat:=by
 rw [Uz]
 unfold bP
 by_cases h1:c.toNat=40∨c.toNat=91
 ·rw [if_pos h1,if_pos h1]
 ·rw [if_neg h1,if_neg h1]
  by_cases h2:c.toNat=41∨c.toNat=93
  ·rw [if_pos h2]
   split
   ·rfl
   ·rename_i h
    have:n=0:=by
     rcases Nat.eq_zero_or_pos n with h0|h0
     ·exact h0
     ·exact absurd ⟨h2,h0⟩ h
    subst this;rfl
  ·rw [if_neg h2,if_neg (fun h=>h2 h.1)]
theorem XH (c:UInt8) (s:Str):∀i,i≤s.length→eX c.toNat s=(dst c s i).1++splitAux c.toNat (mP (s.take i)) ((s.take i).drop (dst c s i).2) (s.drop i)
 |0,_=>by simp [dst,eX,mP]
 |i+1,hi=>by
  have ih:=XH c s i (by omega)
  have hk:i<s.length:=by omega
  obtain ⟨hle,_⟩:=XI c s i
  rw [ih,Jd hk]
  have hd:mP (s.take (i+1))=bP (mP (s.take i)) (aI s i):=by
   rw [Iw hk,Uy,RU];rfl
  have hc:(s.getD i 0==c&&mP (s.take i)==0)=true↔(aI s i=c.toNat∧mP (s.take i)=0):=by
   rw [Bool.and_eq_true,beq_iff_eq,beq_iff_eq]
   refine and_congr_left fun _=> ?_
   unfold aI
   exact ⟨fun h=>by rw [h],fun h=>UInt8.toNat_inj.1 h⟩
  rw [dst]
  by_cases h:aI s i=c.toNat∧mP (s.take i)=0
  ·rw [if_pos h,if_pos (hc.2 h),hd]
   have e:(s.take (i+1)).drop (i+1)=[]:=by simp [List.drop_eq_nil_of_le]
   simp only [e,List.append_assoc,List.cons_append,List.nil_append]
  ·rw [if_neg h,if_neg (fun g=>h (hc.1 g)),hd]
   rw [F9 s hle hk]
theorem xE (c:UInt8) (s:Str):gu c s=eX c.toNat s:=by
 rw [XH c s s.length (Nat.le_refl _),List.drop_length,splitAux,List.take_length]
 rfl
def lK (s:Str) (a b:UInt8):Option Str:=if s.length<2∨aI s 0≠a.toNat∨aI s (s.length - 1)≠b.toNat then none else some ((s.take (s.length - 1)).drop 1)
def NV (s:Str):Option Nat:=(List.range' 0 5).find? fun k=>dR (k:Int)==s
def jq (e:Ef) (f:UInt8) (s:Str):Option Ef:=
 if f=114 then (dX s).map fun x=> { e with ref:=x }
 else if f=122 then (NV s).map fun x=> { e with zone:=(x:Int) }
 else if f=107 then (jG s).map fun x=> { e with ctr:=(x:Int) }
 else if f=99 then some { e with card:=B s }
 else if f=97 then (eY s).map fun x=> { e with amt:=x }
 else if f=109 then ((lK s 91 93).bind fF).map fun x=> { e with mods:=x }
 else if f=112 then (dU s).map fun x=> { e with pool:=x }
 else ((lK s 40 41).bind bW).map fun x=> { e with flt:=x }
def gy:Ef→List UInt8→List Str→Option Ef
 |e,f::fs,w::ws=>(jq e f w).bind fun e'=>gy e' fs ws
 |e,_,_=>some e
def gX (op:Int):Ef:=⟨op,dY,dG,0,0,⟨#[]⟩,zeroF,bn,[]⟩
def qOp (s:Str):Int:=yT ((gu 32 s).getD 0 [])
def qE (s:Str):Option Ef:=
 if qOp s=0∨(gu 32 s).length≠1+(dF (qOp s)).length then none
 else match gy (gX (qOp s)) (dF (qOp s)) ((gu 32 s).drop 1) with
  |none=>none
  |some e=>if jm e 4=true∧dB e=s then some e else none
def mV (e:Ef) (f:UInt8):Str:=
 if f=114 then dI e.ref else if f=122 then dR e.zone else if f=107 then dw e.ctr else if f=99 then L e.card else if f=97 then dW e.amt else if f=109 then zH e.mods else if f=112 then jZ e.pool else GL e.flt
theorem IG (e:Ef) (h:∃k:Fin 27,e.op=(k.val:Int)∧1≤k.val):kN e=opName e.op::(dF e.op).map (mV e):=by
 obtain ⟨op,ref,amt,ctr,zone,card,flt,pool,mods⟩:=e
 obtain ⟨⟨k,hk⟩,h1,h2⟩:=h
 simp only at h1 h2
 subst h1
 have:k=1∨k=2∨k=3∨k=4∨k=5∨k=6∨k=7∨k=8∨k=9∨k=10∨k=11∨k=12∨k=13∨k=14∨k=15∨k=16∨k=17∨k=18∨k=19∨k=20∨k=21∨k=22∨k=23∨k=24∨k=25∨k=26:=by omega
 rcases this with rfl|rfl|rfl|rfl|rfl|rfl|rfl|rfl|rfl|rfl|rfl|rfl|rfl|rfl|rfl|rfl|rfl|rfl|rfl|rfl|rfl|rfl|rfl|rfl|rfl|rfl
 all_goals rfl
theorem Nb (a b:UInt8) (m:Str):lK (a::(m++[b])) a b=some m:=by
 unfold lK
 have e1:aI (a::(m++[b])) 0=a.toNat:=rfl
 have e2:aI (a::(m++[b])) ((a::(m++[b])).length - 1)=b.toNat:=by simp [aI,List.getD]
 rw [if_neg (by rw [e1,e2];simp)]
 simp
theorem alc (z:Int) (h0:0≤z) (h1:z≤4):∃k,NV (dR z)=some k∧(k:Int)=z:=by
 have:∀k:Fin 5,NV (dR (k.val:Int))=some k.val:=by decide +kernel
 have:=this ⟨z.toNat,by omega⟩
 simp only at this
 rw [show ((z.toNat:Nat):Int)=z by omega] at this
 exact ⟨_,this,by omega⟩
theorem ado (c:Int) (h:c=0∨c=1∨c=2):∃k,jG (dw c)=some k∧(k:Int)=c:=by
 rcases h with rfl|rfl|rfl
 ·exact ⟨0,by decide +kernel,rfl⟩
 ·exact ⟨1,by decide +kernel,rfl⟩
 ·exact ⟨2,by decide +kernel,rfl⟩
theorem aow {e:Ef} (e0:Ef) (h:fRef e 4=true) (hu:uR e.op=true):jq e0 114 (mV e 114)=some { e0 with ref:=e.ref } :=by
 unfold fRef at h;rw [if_pos hu] at h
 show (dX (dI e.ref)).map _=_
 rw [vP h];rfl
theorem akD {e:Ef} (e0:Ef) (h:oG e=true) (hu:uZ e.op=true):jq e0 122 (mV e 122)=some { e0 with zone:=e.zone } :=by
 unfold oG at h;rw [if_pos hu] at h
 simp only [Bool.and_eq_true,decide_eq_true_eq] at h
 obtain ⟨k,h1,h2⟩:=alc _ h.1 h.2
 simp (decide:=true) only [jq,mV,if_true,if_false]
 rw [h1];simp [h2]
theorem aou {e:Ef} (e0:Ef) (h:rO e=true) (hu:uK e.op=true):jq e0 107 (mV e 107)=some { e0 with ctr:=e.ctr } :=by
 unfold rO at h;rw [if_pos hu] at h
 obtain ⟨k,h1,h2⟩:=ado _ (Cc (not_nil h))
 simp (decide:=true) only [jq,mV,if_true,if_false]
 rw [h1];simp [h2]
theorem akA (e e0:Ef):jq e0 99 (mV e 99)=some { e0 with card:=e.card } :=by
 show some { e0 with card:=B (L e.card) } =_
 rw [qY]
theorem aot {e:Ef} (e0:Ef) (h:rM e=true) (hu:uA e.op=true):jq e0 97 (mV e 97)=some { e0 with amt:=e.amt } :=by
 unfold rM at h;rw [if_pos hu] at h
 show (eY (dW e.amt)).map _=_
 rw [BQ h];rfl
theorem akB {e:Ef} (e0:Ef) (h:oC e=true) (hu:uM e.op=true):jq e0 109 (mV e 109)=some { e0 with mods:=e.mods } :=by
 unfold oC at h;rw [if_pos hu] at h
 obtain ⟨a,b,c⟩:=aec h
 show ((lK (91::(eH e.mods++[93])) 91 93).bind fF).map _=_
 rw [Nb,Option.bind_some,J9 a b c];rfl
theorem akC {e:Ef} (e0:Ef) (h:oD e=true) (hu:uP e.op=true):jq e0 112 (mV e 112)=some { e0 with pool:=e.pool } :=by
 unfold oD at h;rw [if_pos hu,Bool.and_eq_true] at h
 show (dU (jZ e.pool)).map _=_
 rw [Kz ((Ia _).1 (not_nil h.2))];rfl
theorem aov {e:Ef} (e0:Ef) (h:qO e=true) (hu:uF e.op=true):jq e0 102 (mV e 102)=some { e0 with flt:=e.flt } :=by
 unfold qO at h;rw [if_pos hu,Bool.and_eq_true] at h
 show ((lK (40::(textOf e.flt++[41])) 40 41).bind bW).map _=_
 rw [Nb,Option.bind_some,nJ h.1];rfl
theorem aqT {e:Ef} (h:fRef e 4=true) (hu:uR e.op=false):e.ref=dY:=by
 unfold fRef at h;rw [if_neg (by rw [hu];decide)] at h;exact (OI _ _).1 h
theorem aqQ {e:Ef} (h:rM e=true) (hu:uA e.op=false):e.amt=dG:=by
 unfold rM at h;rw [if_neg (by rw [hu];decide)] at h;exact (N7 _ _).1 h
theorem aqR {e:Ef} (h:rO e=true) (hu:uK e.op=false):e.ctr=0:=by
 unfold rO at h;rw [if_neg (by rw [hu];decide)] at h;exact beq_iff_eq.1 h
theorem anM {e:Ef} (h:oG e=true) (hu:uZ e.op=false):e.zone=0:=by
 unfold oG at h;rw [if_neg (by rw [hu];decide)] at h;exact beq_iff_eq.1 h
theorem no_card {e:Ef} (h:fCard e=true) (hu:uC e.op=false):e.card=⟨#[]⟩:=by
 unfold fCard at h;rw [if_neg (by rw [hu];decide)] at h
 have:=beq_iff_eq.1 h
 rw [←qY e.card,this];rfl
theorem aqS {e:Ef} (h:qO e=true) (hu:uF e.op=false):e.flt=zeroF:=by
 unfold qO at h;rw [if_neg (by rw [hu];decide)] at h;exact (lJ _ _).1 h
theorem anL {e:Ef} (h:oD e=true) (hu:uP e.op=false):e.pool=bn:=by
 unfold oD at h;rw [if_neg (by rw [hu];decide)] at h;exact (OB _ _).1 h
theorem anK {e:Ef} (h:oC e=true) (hu:uM e.op=false):e.mods=[]:=by
 unfold oC at h;rw [if_neg (by rw [hu];decide)] at h
 exact List.eq_nil_of_length_eq_zero (by simpa using h)
theorem ZC {e:Ef} (h:jm e 4=true):gy (gX e.op) (dF e.op) ((dF e.op).map (mV e))=some e:=by
 have o:=EN h
 have r1:=fun e0=>aow (e:=e) e0 o.ref
 have r2:=fun e0=>aot (e:=e) e0 o.amt
 have r3:=fun e0=>aou (e:=e) e0 o.ctr
 have r4:=fun e0=>akD (e:=e) e0 o.zone
 have r5:=fun e0=>akA e e0
 have r6:=fun e0=>aov (e:=e) e0 o.flt
 have r7:=fun e0=>akC (e:=e) e0 o.pool
 have r8:=fun e0=>akB (e:=e) e0 o.mods
 have n1:=aqT o.ref
 have n2:=aqQ o.amt
 have n3:=aqR o.ctr
 have n4:=anM o.zone
 have n5:=no_card o.card
 have n6:=aqS o.flt
 have n7:=anL o.pool
 have n8:=anK o.mods
 obtain ⟨⟨k,hk⟩,h1,h2⟩:=o.Qy
 clear o h
 obtain ⟨op,ref,amt,ctr,zone,card,flt,pool,mods⟩:=e
 simp only at h1 h2 r1 r2 r3 r4 r5 r6 r7 r8 n1 n2 n3 n4 n5 n6 n7 n8
 subst h1
 have:k=1∨k=2∨k=3∨k=4∨k=5∨k=6∨k=7∨k=8∨k=9∨k=10∨k=11∨k=12∨k=13∨k=14∨k=15∨k=16∨k=17∨k=18∨k=19∨k=20∨k=21∨k=22∨k=23∨k=24∨k=25∨k=26:=by omega
 rcases this with rfl|rfl|rfl|rfl|rfl|rfl|rfl|rfl|rfl|rfl|rfl|rfl|rfl|rfl|rfl|rfl|rfl|rfl|rfl|rfl|rfl|rfl|rfl|rfl|rfl|rfl
 ·obtain rfl:=n3 (by decide)
  obtain rfl:=n4 (by decide)
  obtain rfl:=n5 (by decide)
  obtain rfl:=n6 (by decide)
  obtain rfl:=n7 (by decide)
  obtain rfl:=n8 (by decide)
  have q1:=fun e0=>r1 e0 (by decide)
  have q2:=fun e0=>r2 e0 (by decide)
  simp (decide:=true) only [dF,wd,kL,if_true,Int.toNat_natCast,List.getD_cons_succ,List.getD_cons_zero,List.map_cons,List.map_nil,gy,gX,Option.bind_some,q1,q2]
 ·obtain rfl:=n2 (by decide)
  obtain rfl:=n3 (by decide)
  obtain rfl:=n4 (by decide)
  obtain rfl:=n5 (by decide)
  obtain rfl:=n6 (by decide)
  obtain rfl:=n7 (by decide)
  obtain rfl:=n8 (by decide)
  have q1:=fun e0=>r1 e0 (by decide)
  simp (decide:=true) only [dF,wd,kL,if_true,Int.toNat_natCast,List.getD_cons_succ,List.getD_cons_zero,List.map_cons,List.map_nil,gy,gX,Option.bind_some,q1]
 ·obtain rfl:=n2 (by decide)
  obtain rfl:=n3 (by decide)
  obtain rfl:=n5 (by decide)
  obtain rfl:=n6 (by decide)
  obtain rfl:=n7 (by decide)
  obtain rfl:=n8 (by decide)
  have q1:=fun e0=>r1 e0 (by decide)
  have q4:=fun e0=>r4 e0 (by decide)
  simp (decide:=true) only [dF,wd,kL,if_true,Int.toNat_natCast,List.getD_cons_succ,List.getD_cons_zero,List.map_cons,List.map_nil,gy,gX,Option.bind_some,q1,q4]
 ·obtain rfl:=n3 (by decide)
  obtain rfl:=n4 (by decide)
  obtain rfl:=n5 (by decide)
  obtain rfl:=n6 (by decide)
  obtain rfl:=n7 (by decide)
  obtain rfl:=n8 (by decide)
  have q1:=fun e0=>r1 e0 (by decide)
  have q2:=fun e0=>r2 e0 (by decide)
  simp (decide:=true) only [dF,wd,kL,if_true,Int.toNat_natCast,List.getD_cons_succ,List.getD_cons_zero,List.map_cons,List.map_nil,gy,gX,Option.bind_some,q1,q2]
 ·obtain rfl:=n3 (by decide)
  obtain rfl:=n4 (by decide)
  obtain rfl:=n5 (by decide)
  obtain rfl:=n6 (by decide)
  obtain rfl:=n7 (by decide)
  obtain rfl:=n8 (by decide)
  have q1:=fun e0=>r1 e0 (by decide)
  have q2:=fun e0=>r2 e0 (by decide)
  simp (decide:=true) only [dF,wd,kL,if_true,Int.toNat_natCast,List.getD_cons_succ,List.getD_cons_zero,List.map_cons,List.map_nil,gy,gX,Option.bind_some,q1,q2]
 ·obtain rfl:=n3 (by decide)
  obtain rfl:=n4 (by decide)
  obtain rfl:=n5 (by decide)
  obtain rfl:=n6 (by decide)
  obtain rfl:=n7 (by decide)
  obtain rfl:=n8 (by decide)
  have q1:=fun e0=>r1 e0 (by decide)
  have q2:=fun e0=>r2 e0 (by decide)
  simp (decide:=true) only [dF,wd,kL,if_true,Int.toNat_natCast,List.getD_cons_succ,List.getD_cons_zero,List.map_cons,List.map_nil,gy,gX,Option.bind_some,q1,q2]
 ·obtain rfl:=n3 (by decide)
  obtain rfl:=n4 (by decide)
  obtain rfl:=n5 (by decide)
  obtain rfl:=n6 (by decide)
  obtain rfl:=n7 (by decide)
  obtain rfl:=n8 (by decide)
  have q1:=fun e0=>r1 e0 (by decide)
  have q2:=fun e0=>r2 e0 (by decide)
  simp (decide:=true) only [dF,wd,kL,if_true,Int.toNat_natCast,List.getD_cons_succ,List.getD_cons_zero,List.map_cons,List.map_nil,gy,gX,Option.bind_some,q1,q2]
 ·obtain rfl:=n2 (by decide)
  obtain rfl:=n3 (by decide)
  obtain rfl:=n4 (by decide)
  obtain rfl:=n5 (by decide)
  obtain rfl:=n6 (by decide)
  obtain rfl:=n7 (by decide)
  obtain rfl:=n8 (by decide)
  have q1:=fun e0=>r1 e0 (by decide)
  simp (decide:=true) only [dF,wd,kL,if_true,Int.toNat_natCast,List.getD_cons_succ,List.getD_cons_zero,List.map_cons,List.map_nil,gy,gX,Option.bind_some,q1]
 ·obtain rfl:=n2 (by decide)
  obtain rfl:=n3 (by decide)
  obtain rfl:=n4 (by decide)
  obtain rfl:=n5 (by decide)
  obtain rfl:=n6 (by decide)
  obtain rfl:=n7 (by decide)
  obtain rfl:=n8 (by decide)
  have q1:=fun e0=>r1 e0 (by decide)
  simp (decide:=true) only [dF,wd,kL,if_true,Int.toNat_natCast,List.getD_cons_succ,List.getD_cons_zero,List.map_cons,List.map_nil,gy,gX,Option.bind_some,q1]
 ·obtain rfl:=n4 (by decide)
  obtain rfl:=n5 (by decide)
  obtain rfl:=n6 (by decide)
  obtain rfl:=n7 (by decide)
  obtain rfl:=n8 (by decide)
  have q1:=fun e0=>r1 e0 (by decide)
  have q2:=fun e0=>r2 e0 (by decide)
  have q3:=fun e0=>r3 e0 (by decide)
  simp (decide:=true) only [dF,wd,kL,if_true,Int.toNat_natCast,List.getD_cons_succ,List.getD_cons_zero,List.map_cons,List.map_nil,gy,gX,Option.bind_some,q1,q2,q3]
 ·obtain rfl:=n4 (by decide)
  obtain rfl:=n5 (by decide)
  obtain rfl:=n6 (by decide)
  obtain rfl:=n7 (by decide)
  obtain rfl:=n8 (by decide)
  have q1:=fun e0=>r1 e0 (by decide)
  have q2:=fun e0=>r2 e0 (by decide)
  have q3:=fun e0=>r3 e0 (by decide)
  simp (decide:=true) only [dF,wd,kL,if_true,Int.toNat_natCast,List.getD_cons_succ,List.getD_cons_zero,List.map_cons,List.map_nil,gy,gX,Option.bind_some,q1,q2,q3]
 ·obtain rfl:=n3 (by decide)
  obtain rfl:=n4 (by decide)
  obtain rfl:=n6 (by decide)
  obtain rfl:=n7 (by decide)
  obtain rfl:=n8 (by decide)
  have q1:=fun e0=>r1 e0 (by decide)
  have q2:=fun e0=>r2 e0 (by decide)
  have q5:=r5
  simp (decide:=true) only [dF,wd,kL,if_true,Int.toNat_natCast,List.getD_cons_succ,List.getD_cons_zero,List.map_cons,List.map_nil,gy,gX,Option.bind_some,q1,q2,q5]
 ·obtain rfl:=n2 (by decide)
  obtain rfl:=n3 (by decide)
  obtain rfl:=n4 (by decide)
  obtain rfl:=n5 (by decide)
  obtain rfl:=n6 (by decide)
  obtain rfl:=n7 (by decide)
  have q1:=fun e0=>r1 e0 (by decide)
  have q8:=fun e0=>r8 e0 (by decide)
  simp (decide:=true) only [dF,wd,kL,if_true,Int.toNat_natCast,List.getD_cons_succ,List.getD_cons_zero,List.map_cons,List.map_nil,gy,gX,Option.bind_some,q1,q8]
 ·obtain rfl:=n1 (by decide)
  obtain rfl:=n2 (by decide)
  obtain rfl:=n3 (by decide)
  obtain rfl:=n4 (by decide)
  obtain rfl:=n5 (by decide)
  obtain rfl:=n6 (by decide)
  obtain rfl:=n8 (by decide)
  have q7:=fun e0=>r7 e0 (by decide)
  simp (decide:=true) only [dF,wd,kL,if_true,Int.toNat_natCast,List.getD_cons_succ,List.getD_cons_zero,List.map_cons,List.map_nil,gy,gX,Option.bind_some,q7]
 ·obtain rfl:=n2 (by decide)
  obtain rfl:=n3 (by decide)
  obtain rfl:=n4 (by decide)
  obtain rfl:=n5 (by decide)
  obtain rfl:=n6 (by decide)
  obtain rfl:=n7 (by decide)
  obtain rfl:=n8 (by decide)
  have q1:=fun e0=>r1 e0 (by decide)
  simp (decide:=true) only [dF,wd,kL,if_true,Int.toNat_natCast,List.getD_cons_succ,List.getD_cons_zero,List.map_cons,List.map_nil,gy,gX,Option.bind_some,q1]
 ·obtain rfl:=n2 (by decide)
  obtain rfl:=n3 (by decide)
  obtain rfl:=n4 (by decide)
  obtain rfl:=n5 (by decide)
  obtain rfl:=n6 (by decide)
  obtain rfl:=n7 (by decide)
  obtain rfl:=n8 (by decide)
  have q1:=fun e0=>r1 e0 (by decide)
  simp (decide:=true) only [dF,wd,kL,if_true,Int.toNat_natCast,List.getD_cons_succ,List.getD_cons_zero,List.map_cons,List.map_nil,gy,gX,Option.bind_some,q1]
 ·obtain rfl:=n2 (by decide)
  obtain rfl:=n3 (by decide)
  obtain rfl:=n4 (by decide)
  obtain rfl:=n5 (by decide)
  obtain rfl:=n6 (by decide)
  obtain rfl:=n7 (by decide)
  obtain rfl:=n8 (by decide)
  have q1:=fun e0=>r1 e0 (by decide)
  simp (decide:=true) only [dF,wd,kL,if_true,Int.toNat_natCast,List.getD_cons_succ,List.getD_cons_zero,List.map_cons,List.map_nil,gy,gX,Option.bind_some,q1]
 ·obtain rfl:=n3 (by decide)
  obtain rfl:=n4 (by decide)
  obtain rfl:=n5 (by decide)
  obtain rfl:=n7 (by decide)
  obtain rfl:=n8 (by decide)
  have q1:=fun e0=>r1 e0 (by decide)
  have q2:=fun e0=>r2 e0 (by decide)
  have q6:=fun e0=>r6 e0 (by decide)
  simp (decide:=true) only [dF,wd,kL,if_true,Int.toNat_natCast,List.getD_cons_succ,List.getD_cons_zero,List.map_cons,List.map_nil,gy,gX,Option.bind_some,q1,q2,q6]
 ·obtain rfl:=n3 (by decide)
  obtain rfl:=n4 (by decide)
  obtain rfl:=n5 (by decide)
  obtain rfl:=n6 (by decide)
  obtain rfl:=n7 (by decide)
  obtain rfl:=n8 (by decide)
  have q1:=fun e0=>r1 e0 (by decide)
  have q2:=fun e0=>r2 e0 (by decide)
  simp (decide:=true) only [dF,wd,kL,if_true,Int.toNat_natCast,List.getD_cons_succ,List.getD_cons_zero,List.map_cons,List.map_nil,gy,gX,Option.bind_some,q1,q2]
 ·obtain rfl:=n1 (by decide)
  obtain rfl:=n3 (by decide)
  obtain rfl:=n4 (by decide)
  obtain rfl:=n5 (by decide)
  obtain rfl:=n6 (by decide)
  obtain rfl:=n7 (by decide)
  obtain rfl:=n8 (by decide)
  have q2:=fun e0=>r2 e0 (by decide)
  simp (decide:=true) only [dF,wd,kL,if_true,Int.toNat_natCast,List.getD_cons_succ,List.getD_cons_zero,List.map_cons,List.map_nil,gy,gX,Option.bind_some,q2]
 ·obtain rfl:=n1 (by decide)
  obtain rfl:=n2 (by decide)
  obtain rfl:=n3 (by decide)
  obtain rfl:=n4 (by decide)
  obtain rfl:=n5 (by decide)
  obtain rfl:=n7 (by decide)
  obtain rfl:=n8 (by decide)
  have q6:=fun e0=>r6 e0 (by decide)
  simp (decide:=true) only [dF,wd,kL,if_true,Int.toNat_natCast,List.getD_cons_succ,List.getD_cons_zero,List.map_cons,List.map_nil,gy,gX,Option.bind_some,q6]
 ·obtain rfl:=n3 (by decide)
  obtain rfl:=n4 (by decide)
  obtain rfl:=n5 (by decide)
  obtain rfl:=n6 (by decide)
  obtain rfl:=n7 (by decide)
  obtain rfl:=n8 (by decide)
  have q1:=fun e0=>r1 e0 (by decide)
  have q2:=fun e0=>r2 e0 (by decide)
  simp (decide:=true) only [dF,wd,kL,if_true,Int.toNat_natCast,List.getD_cons_succ,List.getD_cons_zero,List.map_cons,List.map_nil,gy,gX,Option.bind_some,q1,q2]
 ·obtain rfl:=n1 (by decide)
  obtain rfl:=n2 (by decide)
  obtain rfl:=n3 (by decide)
  obtain rfl:=n4 (by decide)
  obtain rfl:=n5 (by decide)
  obtain rfl:=n6 (by decide)
  obtain rfl:=n7 (by decide)
  obtain rfl:=n8 (by decide)
  simp (decide:=true) only [dF,wd,kL,if_true,Int.toNat_natCast,List.getD_cons_succ,List.getD_cons_zero,List.map_cons,List.map_nil,gy,gX,Option.bind_some]
 ·obtain rfl:=n1 (by decide)
  obtain rfl:=n2 (by decide)
  obtain rfl:=n3 (by decide)
  obtain rfl:=n4 (by decide)
  obtain rfl:=n5 (by decide)
  obtain rfl:=n6 (by decide)
  obtain rfl:=n7 (by decide)
  obtain rfl:=n8 (by decide)
  simp (decide:=true) only [dF,wd,kL,if_true,Int.toNat_natCast,List.getD_cons_succ,List.getD_cons_zero,List.map_cons,List.map_nil,gy,gX,Option.bind_some]
 ·obtain rfl:=n2 (by decide)
  obtain rfl:=n3 (by decide)
  obtain rfl:=n4 (by decide)
  obtain rfl:=n5 (by decide)
  obtain rfl:=n6 (by decide)
  obtain rfl:=n7 (by decide)
  obtain rfl:=n8 (by decide)
  have q1:=fun e0=>r1 e0 (by decide)
  simp (decide:=true) only [dF,wd,kL,if_true,Int.toNat_natCast,List.getD_cons_succ,List.getD_cons_zero,List.map_cons,List.map_nil,gy,gX,Option.bind_some,q1]
 ·obtain rfl:=n3 (by decide)
  obtain rfl:=n4 (by decide)
  obtain rfl:=n5 (by decide)
  obtain rfl:=n6 (by decide)
  obtain rfl:=n7 (by decide)
  obtain rfl:=n8 (by decide)
  have q1:=fun e0=>r1 e0 (by decide)
  have q2:=fun e0=>r2 e0 (by decide)
  simp (decide:=true) only [dF,wd,kL,if_true,Int.toNat_natCast,List.getD_cons_succ,List.getD_cons_zero,List.map_cons,List.map_nil,gy,gX,Option.bind_some,q1,q2]
theorem asW (s:Str):qE s=fC s:=by
 refine aav ?_ ?_
 ·intro t h
  unfold qE at h
  split at h
  ·cases h
  ·split at h
   ·cases h
   ·split at h
    ·rename_i hc
     obtain rfl:=Option.some.inj h
     exact hc
    ·cases h
 ·intro h t h1 h2
  have hw:=Rh h1
  rw [h2] at hw
  have hd:gu 32 s=kN t:=by rw [xE];exact hw
  obtain ⟨k,hk,hk1⟩:=(EN h1).Qy
  have ho:qOp s=t.op:=by
   unfold qOp
   rw [hd]
   show yT (opName t.op)=t.op
   rw [hk];exact Vh k
  have hu:=IG t (EN h1).Qy
  unfold qE at h
  rw [hd,ho,hu,if_neg,show (opName t.op::(dF t.op).map (mV t)).drop 1=(dF t.op).map (mV t) from rfl,ZC h1] at h
  ·simp only [h1,h2,and_self,if_true] at h
   cases h
  ·rintro (e|e)
   ·rw [hk] at e;omega
   ·apply e;simp;omega
def CB (w:Str) (d:Nat):Nat:=w.foldl (fun d c=>bP d c.toNat) d
theorem TU:∀(w:Str) (d:Nat) (cur r:Str),(59:UInt8)∉w→splitAux 59 d cur (w++r)=splitAux 59 (CB w d) (cur++w) r
 |[],d,cur,r,_=>by simp [CB]
 |c::w,d,cur,r,h=>by
  have hc:¬(c.toNat=59∧d=0):=fun e=>h (by rw [show c=59 from UInt8.toNat_inj.1 e.1];exact .head _)
  rw [List.cons_append,splitAux,if_neg hc,TU w _ _ _ (fun m=>h (.tail _ m))]
  simp [CB]
theorem TJ:∀ {w:Str} {d d':Nat},ji w d=some d'→CB w d=d'
 |[],d,d',h=>by rw [ji] at h;exact Option.some.inj h
 |c::w,d,d',h=>by
  rw [ji] at h
  split at h
  ·cases h
  ·exact TJ (w:=w) h
theorem abP (a b:Str) (d:Nat):CB (a++b) d=CB b (CB a d):=by unfold CB;rw [List.foldl_append]
theorem XE:∀ {l:List Str},(∀x∈l,ji x 0=some 0)→CB (Lib.join l [32]) 0=0
 |[],_=>rfl
 |[a],h=>by rw [Lib.join_one];exact TJ (h a (by simp))
 |a::b::r,h=>by
  rw [fA,abP,abP,TJ (h a (by simp)),show CB [32] 0=0 from by decide]
  exact XE fun x hx=>h x (.tail _ hx)
theorem XF {e:Ef} (h:jm e 4=true):CB (dB e) 0=0:=by rw [wK h];exact XE (Ls h)
def yu:List Str→List Str
 |[]=>[]
 |a::r=>a::r.map fun x=>x.drop 1
theorem KQ:∀(l:List Ef),l≠[]→(l.all fun e=>jm e 4)=true→∀cur,splitAux 59 0 cur (Lib.join (l.map dB) jD)=(match l with|[]=>[]|a::r=>(cur++dB a)::r.map fun e=>32::dB e)
 |[],h,_,_=>absurd rfl h
 |[a],_,h,cur=>by
  simp only [List.all_cons,List.all_nil,Bool.and_true] at h
  have:=TU (dB a) 0 cur [] (Gx a)
  rw [List.append_nil,XF h] at this
  rw [List.map_cons,List.map_nil,Lib.join_one,this];rfl
 |a::b::r,_,h,cur=>by
  rw [List.all_cons,Bool.and_eq_true] at h
  have ih:=KQ (b::r) (by simp) h.2 [32]
  rw [List.map_cons,List.map_cons,fA,List.append_assoc,TU _ _ _ _ (Gx a),XF h.1]
  show splitAux 59 0 (cur++dB a) (59::32::Lib.join (dB b::List.map dB r) jD)=_
  rw [splitAux,if_pos ⟨by decide,rfl⟩,show bP 0 (59:UInt8).toNat=0 from by decide]
  rw [splitAux,if_neg (by decide),show bP 0 (32:UInt8).toNat=0 from by decide]
  rw [List.map_cons] at ih
  rw [List.nil_append,ih]
  simp
def uY:List Str→Option (List Ef)
 |[]=>some []
 |p::r=>(fC p).bind fun e=>(uY r).map fun l=>e::l
def qEl (s:Str):Option (List Ef):=match uY (yu (gu 59 s)) with
 |none=>none
 |some l=>if jX l=s then some l else none
theorem NH:∀(l:List Ef),(l.all fun e=>jm e 4)=true→uY (l.map dB)=some l
 |[],_=>rfl
 |a::r,h=>by
  rw [List.all_cons,Bool.and_eq_true] at h
  rw [List.map_cons,uY,EM h.1,Option.bind_some,NH r h.2];rfl
theorem aq4 (s:Str):qEl s=kJ s:=by
 refine XL ?_ ?_
 ·intro t h
  unfold qEl at h
  split at h
  ·cases h
  ·rename_i l hl
   split at h
   ·rename_i hc
    obtain rfl:=Option.some.inj h
    refine ⟨hc,fun e=> ?_⟩
    subst e
    have:uY (yu (gu 59 []))=none:=by
     rw [xE]
     show uY [[]]=none
     rw [uY,JE];rfl
    rw [this] at hl;cases hl
   ·cases h
 ·intro h t h1 h2
  obtain ⟨a,b,c⟩:=UH (l:=t) (by rw [h1];exact h2)
  have e:jX t=Lib.join (t.map dB) jD:=if_pos ⟨a,b,c⟩
  have hs:=KQ t a c []
  rw [←e,h1] at hs
  have hd:gu 59 s=splitAux 59 0 [] s:=xE 59 s
  unfold qEl at h
  rw [hd,hs] at h
  cases t with
  |nil=>exact a rfl
  |cons x r=>
   simp only [yu,List.nil_append,List.map_map] at h
   have e2:(dB x::List.map ((fun x=>List.drop 1 x) ∘ fun e=>32::dB e) r)=(x::r).map dB:=by simp [Function.comp_def]
   rw [e2,NH _ c] at h
   simp only [h1,if_true] at h
   cases h
def rowOf (k n:Nat):Rf:=⟨(k:Int),(n:Int),zeroF⟩
def Ar (s:Str) (p:Nat × Nat):Bool:= !(p.1==4)&&(iZ (rowOf p.1 p.2) 4&&dI (rowOf p.1 p.2)==s)
def D5 (k n:Nat):List (Nat × Nat):=(List.range' n (5 - n)).map fun m=>(k,m)
def LH:Nat→Nat→List (Nat × Nat)
 |_,0=>[]
 |k,j+1=>D5 k 0++LH (k+1) j
def Eo (s:Str):Option (Nat × Nat):=(LH 1 8).find? (Ar s)
def Ah (s:Str):Str:=(s.take (s.length - 1)).drop 5
def FQ (s:Str):Bool:= !decide (s.length<6)&&(s.take 5==eF&&aI s (s.length - 1)==41)
def lQ (s:Str):Option Rf:=match Eo s with
 |some p=>some (rowOf p.1 p.2)
 |none=>if FQ s=true then (match bW (Ah s) with|some f=>some ⟨4,0,f⟩|none=>none) else none
theorem aer {s:Str} {p:Nat × Nat} (h:Eo s=some p):iZ (rowOf p.1 p.2) 4=true∧dI (rowOf p.1 p.2)=s:=by
 have:=List.find?_some h
 unfold Ar at this
 simp only [Bool.and_eq_true,beq_iff_eq] at this
 exact this.2
theorem aiW {k n:Nat} (h1:1≤k) (h2:k≤8) (h3:n≤4):(k,n)∈LH 1 8:=by
 have:∀k:Fin 9,∀n:Fin 5,1≤k.val→(k.val,n.val)∈LH 1 8:=by decide +kernel
 exact this ⟨k,by omega⟩ ⟨n,by omega⟩ h1
theorem aeL (l:Str) (h:l≠[]):FQ (eF++l++[41])=true:=by
 unfold FQ
 have hl:0<l.length:=List.length_pos_iff.2 h
 have e1:(eF++l++[41]).length=l.length+6:=by simp [eF]
 have e2:(eF++l++[41]).take 5=eF:=by rw [List.append_assoc];rfl
 have e3:aI (eF++l++[41]) (l.length+6 - 1)=41:=by
  unfold aI
  have:(eF++l++[41]).getD (l.length+6 - 1) 0=41:=by
   rw [List.getD,List.getElem?_append_right (by simp [eF])]
   simp [eF]
  rw [this];rfl
 rw [e1,e2,e3];simp
theorem adY (l:Str):Ah (eF++l++[41])=l:=by
 unfold Ah
 have e1:(eF++l++[41]).length - 1=(eF++l).length:=by simp
 rw [e1,List.take_left]
 rfl
theorem abn {s:Str} (h:FQ s=true):s=eF++Ah s++[41]:=by
 unfold FQ at h
 simp only [Bool.and_eq_true,Bool.not_eq_true',decide_eq_false_iff_not,beq_iff_eq] at h
 obtain ⟨h1,h2,h3⟩:=h
 have a1:s.take (s.length - 1)++[s.getD (s.length - 1) 0]=s:=by
  have:=List.take_succ_eq_append_getElem (l:=s) (i:=s.length - 1) (by omega)
  rw [show s.length - 1+1=s.length by omega,List.take_length] at this
  rw [show s.getD (s.length - 1) 0=s[s.length - 1] from by simp [List.getD,show s.length - 1<s.length by omega]]
  exact this.symm
 have a2:s.getD (s.length - 1) 0=41:=by
  unfold aI at h3
  exact UInt8.toNat_inj.1 h3
 rw [a2] at a1
 have a3:s.take (s.length - 1)=eF++Ah s:=by
  unfold Ah
  have:=List.take_append_drop 5 (s.take (s.length - 1))
  rw [List.take_take,show min 5 (s.length - 1)=5 by omega,h2] at this
  exact this.symm
 rw [a3] at a1
 exact a1.symm
theorem Ze (s:Str):lQ s=dX s:=by
 have sound:∀r,lQ s=some r→iZ r 4=true∧dI r=s:=by
  intro r h
  unfold lQ at h
  cases hl:Eo s with
  |some p=>rw [hl] at h;injection h with h;rw [←h];exact aer hl
  |none=>
   rw [hl] at h;simp only at h
   split at h
   ·rename_i hs
    cases hp:bW (Ah s) with
    |some f=>
     rw [hp] at h;injection h with h
     obtain ⟨g1,g2⟩:=QG hp
     have hv:iZ ⟨4,0,f⟩ 4=true:=by
      unfold iZ xM;simp [g1]
     rw [←h]
     refine ⟨hv,?_⟩
     have e:dI ⟨4,0,f⟩=eF++textOf f++[41]:=if_pos hv
     rw [e,g2];exact (abn hs).symm
    |none=>rw [hp] at h;cases h
   ·cases h
 cases hp:dX s with
 |some r=>
  obtain ⟨h1,h2⟩:=Wp hp
  cases hq:lQ s with
  |some q=>
   obtain ⟨g1,g2⟩:=sound q hq
   have a:=vP g1
   rw [g2,hp] at a
   exact a.symm
  |none=>
   exfalso
   have hit:∀k n:Nat,1≤k→k≤8→k≠4→n≤4→r=rowOf k n→False:=by
    intro k n k1 k2 k4 n4 e
    have hm:=aiW k1 k2 n4
    unfold lQ at hq
    cases hl:Eo s with
    |some p=>rw [hl] at hq;cases hq
    |none=>
     have:=List.find?_eq_none.1 hl _ hm
     apply this
     unfold Ar
     rw [e] at h1 h2
     simp [k4,h1,h2]
   rcases sV h1 with e|e|e|e|e|(e|e|e|e)|(e|e|e|e)|⟨f,hf,e⟩
   ·exact hit 1 0 (by omega) (by omega) (by omega) (by omega) e
   ·exact hit 2 0 (by omega) (by omega) (by omega) (by omega) e
   ·exact hit 5 0 (by omega) (by omega) (by omega) (by omega) e
   ·exact hit 6 0 (by omega) (by omega) (by omega) (by omega) e
   ·exact hit 7 0 (by omega) (by omega) (by omega) (by omega) e
   ·exact hit 3 1 (by omega) (by omega) (by omega) (by omega) e
   ·exact hit 3 2 (by omega) (by omega) (by omega) (by omega) e
   ·exact hit 3 3 (by omega) (by omega) (by omega) (by omega) e
   ·exact hit 3 4 (by omega) (by omega) (by omega) (by omega) e
   ·exact hit 8 1 (by omega) (by omega) (by omega) (by omega) e
   ·exact hit 8 2 (by omega) (by omega) (by omega) (by omega) e
   ·exact hit 8 3 (by omega) (by omega) (by omega) (by omega) e
   ·exact hit 8 4 (by omega) (by omega) (by omega) (by omega) e
   ·subst e
    have e:dI ⟨4,0,f⟩=eF++textOf f++[41]:=if_pos h1
    rw [e] at h2
    subst h2
    unfold lQ at hq
    cases hl:Eo (eF++textOf f++[41]) with
    |some p=>rw [hl] at hq;cases hq
    |none=>
     rw [hl] at hq;simp only at hq
     rw [if_pos (aeL _ (aoM hf)),adY,nJ hf] at hq
     cases hq
 |none=>
  cases hq:lQ s with
  |none=>rfl
  |some q=>
   obtain ⟨g1,g2⟩:=sound q hq
   have a:=vP g1
   rw [g2,hp] at a
   cases a
def insideOk (s b:Str):Bool:= !decide (s.length<b.length+1)&&(s.take b.length==b&&aI s (s.length - 1)==41)
def ng (s b:Str):Option Str:=if insideOk s b=true then some ((s.take (s.length - 1)).drop b.length) else none
def zn (s:Str) (st:Int × Str) (i:Nat):Int × Str:=if aI s i=42 then ((rdNum (s.take i)).getD 0,s.drop (i+1)) else st
def FY (s:Str) (k:Nat):Int × Str:=(List.range k).foldl (zn s) (1,s)
def l7 (s:Str):Int × Str:=FY s (min s.length 3)
theorem lU (s:Str) (k:Nat):FY s (k+1)=zn s (FY s k) k:=by unfold FY;rw [List.range_succ,List.foldl_append];rfl
def SK (s:Str) (k:Nat):Bool:= !(k==2)&&(!(k==4)&&dW ⟨(k:Int),0,0,zeroF⟩==s)
def PX (s:Str):Option Nat:=(List.range' 1 7).find? (SK s)
def SI (s:Str) (c:Nat):Bool:=dW ⟨4,0,(c:Int),zeroF⟩==s
def PW (s:Str):Option Nat:=(List.range' 0 3).find? (SI s)
def Dp (s:Str):Option Am:=match ng (l7 s).2 fB with
 |none=>none
 |some m=>match bW m with
  |none=>none
  |some f=>if dW ⟨2,(l7 s).1,0,f⟩=s then some ⟨2,(l7 s).1,0,f⟩ else none
def L6 (s:Str):Option Am:=match rdNum s with
 |some n=>if 0≤n then some ⟨0,n,0,zeroF⟩ else Dp s
 |none=>Dp s
def Nw (s:Str):Option Am:=match PX s with
 |some k=>some ⟨(k:Int),0,0,zeroF⟩
 |none=>match PW s with
  |some c=>some ⟨4,0,(c:Int),zeroF⟩
  |none=>L6 s
theorem QV {s:Str} {n:Int} (h:rdNum s=some n):Lib.itoa n=s∧n≤1000000:=by
 unfold rdNum at h
 generalize (if aI s 0==45 then s.drop 1 else s)=r at h
 generalize (if aI s 0==45 then -(jL (s.drop 1):Int) else jL s)=v at h
 split at h
 ·cases h
 ·split at h
  ·rename_i hh
   injection h with h
   rw [h] at hh
   refine ⟨hh.2,?_⟩
   have:=hh.1
   unfold jV at this
   split at this
   ·omega
   ·split at this<;>omega
  ·cases h
theorem ah8 {k:Nat} (h1:1≤k) (h2:k<8) (h3:k≠2) (h4:k≠4):iU ⟨(k:Int),0,0,zeroF⟩=true:=by
 have:k=1∨k=3∨k=5∨k=6∨k=7:=by omega
 rcases this with rfl|rfl|rfl|rfl|rfl<;>exact (show iU _=true from by kernel_rfl)
theorem apQ {c:Nat} (h:c<3):iU ⟨4,0,(c:Int),zeroF⟩=true:=by
 have:c=0∨c=1∨c=2:=by omega
 rcases this with rfl|rfl|rfl<;>exact (show iU _=true from by kernel_rfl)
theorem aqU {n:Int} (h0:0≤n) (h1:n≤1000000):iU ⟨0,n,0,zeroF⟩=true:=by
 unfold iU;simp [h0,h1,lF]
theorem Yc (f:aH):ng (bT f) fB=some (textOf f):=by
 have hl:(bT f).length=(textOf f).length+7:=by simp [bT,fB]
 have e1:(bT f).take fB.length=fB:=by unfold bT;rw [List.take_left]
 have e2:aI (bT f) ((bT f).length - 1)=41:=by
  unfold aI bT
  rw [←List.append_assoc]
  have:(fB++textOf f++[41]).length - 1=(fB++textOf f).length:=by simp
  rw [this,List.getD,List.getElem?_append_right (Nat.le_refl _)];simp
 have e3:((bT f).take ((bT f).length - 1)).drop fB.length=textOf f:=by
  unfold bT
  rw [←List.append_assoc]
  have:(fB++textOf f++[41]).length - 1=(fB++textOf f).length:=by simp
  rw [this,List.take_left,List.drop_left]
 unfold ng
 rw [if_pos,e3]
 unfold insideOk
 rw [decide_eq_false (by rw [hl];simp [fB]),e1,e2];rfl
theorem akT (f:aH):l7 (bT f)=(1,bT f):=by
 have hl:min (bT f).length 3=3:=by have:(bT f).length=(textOf f).length+7:=by simp [bT,fB]
  omega
 unfold l7
 rw [hl,lU,lU,lU]
 have b0:aI (bT f) 0=99:=rfl
 have b1:aI (bT f) 1=111:=rfl
 have b2:aI (bT f) 2=117:=rfl
 unfold zn
 rw [b0,b1,b2]
 simp [FY]
theorem aeO (n:Nat) (h1:2≤n) (h2:n≤99) (f:aH):l7 (Lib.itoa (n:Int)++42::bT f)=((n:Int),bT f):=by
 have hr:=yh n (by omega)
 rw [Lib.itoa_nonneg] at hr ⊢
 by_cases h:n<10
 ·rw [Lib.decDigits_one h] at hr ⊢
  have hd:(UInt8.ofNat (48+n)).toNat=48+n:=by simp [UInt8.toNat_ofNat'];omega
  generalize UInt8.ofNat (48+n)=d at *
  have hl:min ([d]++42::bT f).length 3=3:=by simp [bT,fB]<;>try omega
  unfold l7
  rw [hl,lU,lU,lU]
  have b0:aI ([d]++42::bT f) 0=d.toNat:=rfl
  have b1:aI ([d]++42::bT f) 1=42:=rfl
  have b2:aI ([d]++42::bT f) 2=99:=rfl
  unfold zn
  rw [b1,b2,if_neg (by omega),if_pos rfl]
  show ((rdNum [d]).getD 0,bT f)=_
  rw [hr];rfl
 ·rw [Lib.decDigits_two h (by omega)] at hr ⊢
  have hd:(UInt8.ofNat (48+n / 10)).toNat=48+n / 10:=by simp [UInt8.toNat_ofNat'];omega
  have he:(UInt8.ofNat (48+n % 10)).toNat=48+n % 10:=by simp [UInt8.toNat_ofNat'];omega
  generalize UInt8.ofNat (48+n / 10)=d at *
  generalize UInt8.ofNat (48+n % 10)=e at *
  have hl:min ([d,e]++42::bT f).length 3=3:=by simp
  unfold l7
  rw [hl,lU,lU,lU]
  have b0:aI ([d,e]++42::bT f) 0=d.toNat:=rfl
  have b1:aI ([d,e]++42::bT f) 1=e.toNat:=rfl
  have b2:aI ([d,e]++42::bT f) 2=42:=rfl
  unfold zn
  rw [b0,b1,b2,if_pos rfl]
  show ((rdNum [d,e]).getD 0,bT f)=_
  rw [hr];rfl
theorem aq2 (s:Str):Nw s=eY s:=by
 apply Xh
 ·intro t h
  unfold Nw at h
  cases hs:PX s with
  |some k=>
   rw [hs] at h
   have hm:=List.mem_of_find?_eq_some hs
   have hh:=List.find?_some hs
   unfold SK at hh
   simp only [Bool.and_eq_true,Bool.not_eq_true',beq_eq_false_iff_ne,beq_iff_eq] at hh
   simp at hm
   injection h with h
   rw [←h]
   exact ⟨ah8 (by omega) (by omega) hh.1 hh.2.1,hh.2.2⟩
  |none=>
   rw [hs] at h
   simp only at h
   cases hc:PW s with
   |some c=>
    rw [hc] at h
    have hm:=List.mem_of_find?_eq_some hc
    have hh:=List.find?_some hc
    unfold SI at hh
    simp at hm
    injection h with h
    rw [←h]
    exact ⟨apQ (by omega),by simpa using hh⟩
   |none=>
    rw [hc] at h
    simp only at h
    have htail:∀t,Dp s=some t→iU t=true∧dW t=s:=by
     intro t h
     unfold Dp at h
     cases hi:ng (l7 s).2 fB with
     |none=>rw [hi] at h;cases h
     |some m=>
      rw [hi] at h
      simp only at h
      cases hp:bW m with
      |none=>rw [hp] at h;cases h
      |some f=>
       rw [hp] at h
       simp only at h
       split at h
       ·rename_i ht
        injection h with h
        subst h
        refine ⟨?_,ht⟩
        cases hv:iU ⟨2,(l7 s).1,0,f⟩ with
        |true=>rfl
        |false=>
         rw [Uk hv] at ht
         subst ht
         have:ng (l7 []).2 fB=none:=by decide
         rw [this] at hi;cases hi
       ·cases h
    unfold L6 at h
    cases hn:rdNum s with
    |some n=>
     rw [hn] at h
     simp only at h
     split at h
     ·rename_i h0
      injection h with h
      obtain ⟨e1,e2⟩:=QV hn
      rw [←h]
      have hv:=aqU h0 e2
      exact ⟨hv,(if_pos hv).trans e1⟩
     ·exact htail t h
    |none=>rw [hn] at h;exact htail t h
 ·intro h t hv ht
  unfold Nw at h
  cases hs:PX s with
  |some k=>rw [hs] at h;cases h
  |none=>
   rw [hs] at h
   simp only at h
   cases hc:PW s with
   |some c=>rw [hc] at h;cases h
   |none=>
    rw [hc] at h
    simp only at h
    have hbr:(41:UInt8)∈s→rdNum s=none:=by
     intro hm
     cases hn:rdNum s with
     |none=>rfl
     |some v=>
      rw [←(QV hn).1] at hm
      have:=tV hm
      simp at this
    rcases xw hv with ⟨n,hn,rfl⟩|⟨n,h1,h2,f,hf,rfl⟩|⟨c,hcc,rfl⟩|⟨k,hk,rfl⟩
    ·have e:dW ⟨0,(n:Int),0,zeroF⟩=Lib.itoa (n:Int):=if_pos hv
     rw [e] at ht
     unfold L6 at h
     rw [←ht,yh n hn] at h
     simp at h
    ·have hb:dW ⟨2,(n:Int),0,f⟩=rZ ⟨2,(n:Int),0,f⟩:=if_pos hv
     rw [hb,xu] at ht
     have hscan:l7 s=((n:Int),bT f):=by
      rw [←ht]
      by_cases hn:n=1
      ·subst hn;exact akT f
      ·rw [if_pos (by omega)];exact aeO n (by omega) h2 f
     have hmem:(41:UInt8)∈s:=by
      rw [←ht]
      split
      ·exact List.mem_append_right _ (List.mem_cons_of_mem _ uQ.1)
      ·exact uQ.1
     unfold L6 at h
     rw [hbr hmem] at h
     simp only at h
     unfold Dp at h
     rw [hscan] at h
     simp only at h
     rw [Yc] at h
     simp only at h
     rw [nJ hf] at h
     simp only at h
     rw [if_pos (by rw [hb,xu];exact ht)] at h
     cases h
    ·have:=List.find?_eq_none.1 hc c.toNat (by rcases hcc with rfl|rfl|rfl<;>simp)
     apply this
     unfold SI
     have e:((c.toNat:Nat):Int)=c:=by rcases hcc with rfl|rfl|rfl<;>rfl
     rw [e,ht];simp
    ·have:=List.find?_eq_none.1 hs k.toNat (by rcases hk with rfl|rfl|rfl|rfl|rfl<;>simp)
     apply this
     unfold SK
     have e:((k.toNat:Nat):Int)=k:=by rcases hk with rfl|rfl|rfl|rfl|rfl<;>rfl
     rw [e,ht]
     rcases hk with rfl|rfl|rfl|rfl|rfl<;>simp
end Go.Proofs.YtdnnkgkondkhfaaGreatDoor
