/- A range over an iterator that keeps its state in one captured block: the statement's law, for a body that goes on or returns. Conditions: none. Walks: strings.SplitSeq at the separator ", ": its it -/
import Derived.RangeFuncNested
import Derived.RangeFuncBound
import Derived.RangeFuncCalls
import Derived.RangeFuncLeaves
import Derived.Shelf.Abstract
import Derived.Shelf.RegionOpen
import Derived.WalkKit
import Derived.OwnWalkIn
import Derived.TacticsInMore
import Derived.LoopNIn
import Derived.LoopIn
import Derived.Maps.AppendAt
import Derived.Test.YtdicgggkdmkklaaGreatDoorQ3
import Derived.Test.YtdicgggkdmkklaaGreatDoorQ1
import Derived.Test.YtdicgggkdmkklaaGreatDoorQ2
import Derived.Test.YtdicgggkdmkklaaGreatDoorQ5
set_option linter.all false
set_option maxRecDepth 100000
set_option maxHeartbeats 16000000
namespace Go.Proofs.YtdicgggkdmkklaaGreatDoor
open Go.ChangeShapes Go.WideShapes Go.RowKit Go.Shelf
def nC (n0 lo hi:Nat) (A C:World):Prop:=Below n0 A C∧∀k,lo≤k→k<hi→C.heap[k]? =A.heap[k]?
theorem nC.refl (n0 lo hi:Nat) (A:World):nC n0 lo hi A A:=⟨Below.refl _ _,fun _ _ _=>rfl⟩
theorem nC.trans {n0 lo hi:Nat} {A C D:World} (h:nC n0 lo hi A C) (k:nC n0 lo hi C D):nC n0 lo hi A D:=⟨h.1.trans k.1,fun i h1 h2=>(k.2 i h1 h2).trans (h.2 i h1 h2)⟩
theorem nC.put {n0 lo hi:Nat} (A:World) {l:Nat} (o:Obj) (h:hi≤l) (h0:n0≤l) (hz:n0≤A.heap.size):nC n0 lo hi A (A.putObj l o):=
 ⟨(Below.refl n0 A).grown (grownBy_putObj' A l o) hz (fun k e=>by cases e;exact h0),fun k _ h2=>World.putObj_heap_other (by omega)⟩
theorem nC.below {n0 lo hi:Nat} {A C:World} (h:Below A.heap.size A C) (h0:n0≤A.heap.size) (hh:hi≤A.heap.size):nC n0 lo hi A C:=⟨h.mono h0,fun k _ h2=>h.block k (by omega)⟩
def Bears {β:Type} (c B:Nat) (J:β→World→Prop):Prop:=∀s A C row,J s A→A.grownBy C row→(∀r,row=some r→r=c∨(B≤r∧∃o:Obj,A.heap[r]? =some o∧o.isCells=false))→J s C
theorem Bears.put {β:Type} {c B:Nat} {J:β→World→Prop} (h:Bears c B J) {s:β} {A:World} {l:Nat} {o:Obj} (o':Obj) (hs:J s A) (hB:B≤l) (hl:A.heap[l]? =some o) (ho:o.isCells=false):J s (A.putObj l o'):=
 h s A _ (some l) hs (grownBy_putObj' A l o') (fun r e=>by cases e;exact .inr ⟨hB,o,hl,ho⟩)
theorem Bears.new {β:Type} {c B:Nat} {J:β→World→Prop} (h:Bears c B J) {s:β} {A:World} (o:Obj) (hs:J s A):J s (A.alloc o):=
 h s A _ none hs (World.grownBy_alloc A o none) (fun r e=>by cases e)
variable {P:Program} {n:Nat}
def aaF (P:Program) (n g:Nat) (lb:Array Value) (c n0 lo hi:Nat) (parts:List Str) (w:World):Prop:=
 ∀(l:Nat) (J Jx:List Str→World→Prop) (W:World),nC n0 lo hi w W→(∀s A C row,J s A→A.grownBy C row→(∀r,row=some r→r=c)→J s C)→(∀s A C row,Jx s A→A.grownBy C row→(∀r,row=some r→r=c)→Jx s C)→
  (∀pre x rest W1,parts=pre++x::rest→J pre W1→YieldAt Fence.wide (n - 1) P l #[.string (B x)] W1 fun e W'=>
   (e= .returned (.bool true)∧J (pre++[x]) W'∧nC n0 lo hi W1 W')∨(e= .returned (.bool false)∧Jx (pre++[x]) W'))→
  J [] W→
  CallsIn Fence.wide n P g (#[.func (.yield l) #[] #[]]++lb) W fun e W'=>(∃v,e= .returned v)∧(J parts W'∨∃pre,Jx pre W')
def aiI (n0 lo hi:Nat) (I Ix:List Str→World→Prop) (xs:List Str) (W:World):Exit→Act→World→Prop
 | .normal,_,W'=>KeepsOthers W W'∧nC n0 lo hi W W'∧I xs W'
 | .ret,_,W'=>KeepsOthers W W'∧Ix xs W'
 | .exit _,_,_=>False
 | .goto _,_,_=>False
 | .panic _,_,_=>False
 | .outgrown,_,_=>False
theorem ahq {g:Operand} {ps:Array Tmp} {assign body:Code} {Q:Exit→Act→World→Prop} {a:Act} {w:World}
 {gf:Nat} {lb:Array Value} (hg:a.eval g= .func (.func gf) #[] lb) (eg:∀args w,(callFunc gf args).run P w= .ok (.enter gf args) w)
 {c n0 lo hi:Nat} {parts:List Str} (hseq:aaF P (n - 1) gf lb c n0 lo hi parts w) (hc:c<w.heap.size) (hn0:n0≤w.heap.size) (hhi:hi≤w.heap.size) (hps:ps.size=1)
 (I Ix:List Str→World→Prop) (hI:Bears c w.heap.size I) (hIx:Bears c w.heap.size Ix) (h0:I [] w) (a₁:Str→Act)
 (hassign:∀(l:Nat) (x:Str) (W:World) (K:Act→World→Prop),K (a₁ x) W→
  assign.wpIn (Fence.wide.inRound l) (n - 1 - 1) P (Exit.then K (fun _ _ _=>False)) { tmps:=(ps.zip #[.string (B x)]).foldl (fun t (p,v)=>t.setIfInBounds p v) a.tmps,defers:=[] } W)
 (hbody:∀(l:Nat) (pre:List Str) (x:Str) (rest:List Str) (W:World),parts=pre++x::rest→w.heap.size≤W.heap.size→I pre W→body.wpIn (Fence.wide.inRound l) (n - 1 - 1) P (aiI n0 lo hi I Ix (pre++[x]) W) (a₁ x) W)
 (hdone:∀(D:Nat) (W:World),w.heap.size≤D→I parts W→W.heap[D]? =some (.deferred (some []))→Q .normal { a with defers:= { target:= .collected D,args:=#[] } ::a.defers } W)
 (hstop:∀(D:Nat) (pre:List Str) (W:World),w.heap.size≤D→Ix pre W→W.heap[D]? =some (.deferred (some []))→Code.ret.wpIn Fence.wide n P Q { a with defers:= { target:= .collected D,args:=#[] } ::a.defers } W):
 (Code.rangeFunc g ps assign body).wpIn Fence.wide n P Q a w:=by
 refine wpIn_rangeFunc ?_
 intro fn hfn
 obtain ⟨mk,hmk⟩:∃mk:LoopState→Option Code→Loop,mk=fun st pe=> { state:=st,pending:=pe,fn,tmps:=a.tmps,params:=ps,assign,body,defers:=w.heap.size } :=⟨_,rfl⟩
 obtain ⟨W1,hW1⟩:∃W1,(w.alloc (.deferred (some []))).alloc (.loop (mk .ready none))=W1:=⟨_,rfl⟩
 have hL1:W1.heap[w.heap.size+1]? =some (.loop (mk .ready none)):=by
  rw [←hW1];have:=World.alloc_heap_new (w.alloc (.deferred (some []))) (.loop (mk .ready none));rwa [World.size_alloc] at this
 have hD1:W1.heap[w.heap.size]? =some (.deferred (some [])):=by
  rw [←hW1];exact (Below.heap_alloc _ _ _ (by simp)).trans (World.alloc_heap_new w _)
 have hI1:I [] W1:=by rw [←hW1];exact hI.new _ (hI.new _ h0)
 have hs1:nC n0 lo hi w W1:=by
  rw [←hW1]
  exact nC.below (((Below.refl _ w).alloc (Nat.le_refl _) _).alloc (by simp) _) hn0 hhi
 have keep:∀ {A C:World} {row:Option Nat} {k:Nat} {o:Obj},A.grownBy C row→(∀r,row=some r→r=c)→w.heap.size≤k→A.heap[k]? =some o→C.heap[k]? =some o:=fun hg' hr hk ho=>
  (hg'.block _ (Array.getElem?_eq_some_iff.1 ho).1 (fun e=>by have:=hr _ e.symm;omega)).trans ho
 refine ⟨w.heap.size+1,[{ target:= .collected w.heap.size,args:=#[] }],W1, { target:= .fn (.func gf) lb,args:=#[.func (.yield (w.heap.size+1)) #[] #[]] },W1,gf,
  #[.func (.yield (w.heap.size+1)) #[] #[]]++lb,W1,?_,?_,fun f' _=>trivial,?_,(fun h=>by cases h),?_⟩
 ·rw [←hW1,hmk];exact run_enterLoop_outer _ _ _ _ _
 ·simp only [resolve,hg]
  simp [go_sem]
 ·simp [invoke,go_sem,eg]
 ·refine (hseq (w.heap.size+1)
   (fun pre W=>I pre W∧W.heap[w.heap.size+1]? =some (.loop (mk .ready none))∧W.heap[w.heap.size]? =some (.deferred (some []))∧w.heap.size≤W.heap.size)
   (fun pre W=>Ix pre W∧W.heap[w.heap.size+1]? =some (.loop (mk .done (some .ret)))∧W.heap[w.heap.size]? =some (.deferred (some [])))
   W1 hs1
   (fun s A C row hs hg' hr=>⟨hI s A C row hs.1 hg' (fun r e=> .inl (hr r e)),keep hg' hr (by omega) hs.2.1,keep hg' hr (Nat.le_refl _) hs.2.2.1,Nat.le_trans hs.2.2.2 hg'.size⟩)
   (fun s A C row hs hg' hr=>⟨hIx s A C row hs.1 hg' (fun r e=> .inl (hr r e)),keep hg' hr (by omega) hs.2.1,keep hg' hr (Nat.le_refl _) hs.2.2⟩)
   ?_ ⟨hI1,hL1,hD1,by rw [←hW1];simp;omega⟩).mono ?_
  ·rintro pre x rest W hx ⟨hi',hl,hk,hsz⟩
   have hlt:w.heap.size+1<W.heap.size:=(Array.getElem?_eq_some_iff.1 hl).1
   have hy:=run_yield (P:=P) (args:=#[.string (B x)]) hl (by rw [hmk];exact hps.symm)
   rw [hmk] at hy
   refine ⟨fn,_,assign,body,hy,roundIn_of_wpIn hfn (hassign _ x W _ ⟨_,run_beginRound hl (by rw [hmk]),?_⟩)⟩
   obtain ⟨W2,hW2⟩:∃W2,W.putObj (w.heap.size+1) (.loop { mk .ready none with state:= .busy })=W2:=⟨_,rfl⟩
   rw [hW2]
   have hl2:W2.heap[w.heap.size+1]? =some (.loop { mk .ready none with state:= .busy }):=by rw [←hW2];exact World.putObj_heap_same hlt
   have hk2:W2.heap[w.heap.size]? =some (.deferred (some [])):=by rw [←hW2];exact (World.putObj_heap_other (by omega)).trans hk
   have hsp:nC n0 lo hi W W2:=by rw [←hW2];exact nC.put _ _ (by omega) (by omega) (by omega)
   have hz2:W2.heap.size=W.heap.size:=by rw [←hW2];simp
   have hi2:I pre W2:=by rw [←hW2];exact hI.put _ hi' (by omega) hl rfl
   refine wpIn_mono (hbody _ pre x rest _ hx (by omega) hi2) ?_
   have fin:∀(jump:Option Code) (W3:World),KeepsOthers W2 W3→∃W4,(Instr.endRound (w.heap.size+1) jump).run P W3= .ok (.bool jump.isNone) W4∧W4=W3.putObj (w.heap.size+1) (.loop (mk (if jump.isNone then .ready else .done) jump))∧
    W3.heap[w.heap.size+1]? =some (.loop { mk .ready none with state:= .busy })∧
    W4.heap[w.heap.size+1]? =some (.loop (mk (if jump.isNone then .ready else .done) jump))∧W4.heap[w.heap.size]? =some (.deferred (some [])):=fun jump W3 hk3=>by
    have hl3:=hk3.same _ _ hl2 rfl
    have hr:=run_endRound (P:=P) jump hl3
    refine ⟨_,hr,by rw [hmk],hl3,?_,(World.putObj_heap_other (by omega)).trans (hk3.same _ _ hk2 rfl)⟩
    rw [World.putObj_heap_same (Array.getElem?_eq_some_iff.1 hl3).1,hmk]
   rintro e a3 W3 hp
   cases e with
   |normal=>
    obtain ⟨hk3,hs3,hi3⟩:=hp
    obtain ⟨W4,hr,e4,hl3,hl4,hk4⟩:=fin none W3 hk3
    refine ⟨_,_,hr, .inl ⟨rfl,⟨?_,hl4,hk4,?_⟩,?_⟩⟩
    ·rw [e4];exact hI.put _ hi3 (by omega) hl3 rfl
    ·rw [e4];have:=hk3.size;simp;omega
    ·rw [e4];exact (hsp.trans hs3).trans (nC.put _ _ (by omega) (by omega) (by have:=hk3.size;omega))
   |ret=>
    obtain ⟨hk3,hi3⟩:=hp
    obtain ⟨W4,hr,e4,hl3,hl4,hk4⟩:=fin (some .ret) W3 hk3
    refine ⟨_,_,hr, .inr ⟨rfl,?_,hl4,hk4⟩⟩
    rw [e4];exact hIx.put _ hi3 (by omega) hl3 rfl
   |exit id=>exact hp.elim
   |goto t=>exact hp.elim
   |panic ch=>exact hp.elim
   |outgrown=>exact hp.elim
  ·rintro e W2 ⟨⟨v,rfl⟩,(⟨hi2,hl,hk,_⟩|⟨pre,hi2,hl,hk⟩)⟩
   ·exact ⟨none,_,by have:=run_endLoop (P:=P) hl (by rw [hmk];simp);rw [hmk] at this;exact this,hdone _ _ (Nat.le_refl _) (hI.put _ hi2 (by omega) hl rfl) ((World.putObj_heap_other (by omega)).trans hk)⟩
   ·exact ⟨some .ret,_,by have:=run_endLoop (P:=P) hl (by rw [hmk];simp);rw [hmk] at this;exact this,hstop _ pre _ (Nat.le_refl _) (hIx.put _ hi2 (by omega) hl rfl) ((World.putObj_heap_other (by omega)).trans hk)⟩
theorem Rq {A C:World} (h:Below A.heap.size A C):KeepsOthers A C:=⟨h.size,fun k o hk _=>(h.block k (Array.getElem?_eq_some_iff.1 hk).1).trans hk⟩
theorem Xl {A:World} {g:Nat} {cs:Array Value} {T:Nat} (h:A.heap[g]? =some (.cells cs T (0,0))) (new:Array Value):KeepsOthers A (A.setRow g new):=
 ⟨by simp [World.setRow],fun k o hk ho=>by
  by_cases e:k=g
  ·subst e;rw [h] at hk;cases hk;cases ho
  ·exact (setRow_other A g k new e).trans hk⟩
theorem St.grown {L:World→Prop} {w0 w w':World} {rows:List Row} {row:Option Nat} (h:St L w0 rows w) (hg:w.grownBy w' row) (hr:∀r,row=some r→w0.heap.size≤r∧r∉rows.map (·.1)):St L w0 rows w':=
 ⟨h.base,h.keeps,h.below.grown hg h.below.size (fun k e=>(hr k e).1),fun x hx=>⟨(hg.block x.1 (Array.getElem?_eq_some_iff.1 (h.has x hx).1).1 (fun e=>(hr x.1 e.symm).2 (List.mem_map.2 ⟨x,hx,rfl⟩))).trans (h.has x hx).1,(h.has x hx).2⟩,h.apart⟩
structure lU (n0 lo hi:Nat) (W:World) (L:World→Prop) (w0:World) (rows:List Row) (w:World):Prop where
 st:St L w0 rows w
 keep:KeepsOthers W w
 span:nC n0 lo hi W w
 hn:n0≤w0.heap.size
 hh:hi≤w.heap.size
section
variable {n0 lo hi:Nat} {W w0 w:World} {L:World→Prop} {rows:List Row} {m:Nat} {l:Nat} {ops:Array Oper} {rest:List Oper} {o:Oper} {a:Act} {Q:Exit→Act→World→Prop}
theorem lU.start (h:St L w0 rows w) (hn:n0≤w0.heap.size) (hh:hi≤w.heap.size):lU n0 lo hi w L w0 rows w:=⟨h,KeepsOthers.refl _,nC.refl _ _ _ _,hn,hh⟩
theorem lU.mono (h:lU n0 lo hi W L w0 rows w) {w':World} (hb:Below w.heap.size w w'):lU n0 lo hi W L w0 rows w':=
 ⟨h.st.mono hb,h.keep.trans (Rq hb),h.span.trans (nC.below hb (Nat.le_trans h.hn h.st.below.size) h.hh),h.hn,Nat.le_trans h.hh hb.size⟩
theorem lU.call (h:lU n0 lo hi W L w0 rows w) {k:Nat} {args:Array Value} {v:Value} (hc:L w→Calls Tryz.prog k args w fun e w'=>e= .returned v∧Below w.heap.size w w'):CallsIn (Fence.wide.inRound l) m Tryz.prog k args w fun e w'=>e= .returned v∧lU n0 lo hi W L w0 rows w':=
 CallsIn.inRound l (callsIn_wide.2 ((hc h.st.laid).mono fun _ _ ⟨he,hb⟩=>⟨he,h.mono hb⟩))
theorem lU.new (h:lU n0 lo hi W L w0 rows w) (cs:Array Value) (T:Nat):lU n0 lo hi W L w0 ((w.heap.size,cs,T)::rows) (w.alloc (.cells cs T)):=by
 have h':=h.mono ((Below.refl _ w).alloc (Nat.le_refl _) (.cells cs T))
 exact ⟨h.st.alloc cs T,h'.keep,h'.span,h'.hn,h'.hh⟩
theorem lU.set (h:lU n0 lo hi W L w0 rows w) {g cs new T rows'} (hm:jq g cs new T rows rows') (hg:g<lo∨hi≤g):lU n0 lo hi W L w0 rows' (w.setRow g new):=by
 obtain ⟨hg1,hg2⟩:=h.st.has _ hm.mem
 have hb:Below n0 w (w.setRow g new):=below_setRow (Below.refl _ _) (Nat.le_trans h.hn hg2) new
 exact ⟨h.st.set hm,h.keep.trans (Xl hg1 new),h.span.trans ⟨hb,fun k h1 h2=>setRow_other w g k new (by omega)⟩,h.hn,Nat.le_trans h.hh hb.size⟩
theorem lU.tail {x:Row} (h:lU n0 lo hi W L w0 (x::rows) w):lU n0 lo hi W L w0 rows w:=
 ⟨⟨h.st.base,h.st.keeps,h.st.below,fun y hy=>h.st.has y (.tail _ hy),by have:=h.st.apart;simp only [List.map_cons,List.nodup_cons] at this;exact this.2⟩,h.keep,h.span,h.hn,h.hh⟩
theorem Rj (w:World) (g:Nat) (cs:Array Value):w.grownBy (w.setRow g cs) (some g):=⟨rfl,rfl,rfl,by simp [World.setRow],fun k _ hk=>setRow_other w g k cs (fun e=>hk (by rw [e]))⟩
theorem lU.grown (h:lU n0 lo hi W L w0 rows w) {w':World} {row:Option Nat} (hg:w.grownBy w' row) (hr:∀r,row=some r→hi≤r∧w0.heap.size≤r∧r∉rows.map (·.1)∧∃o:Obj,w.heap[r]? =some o∧o.isCells=true):lU n0 lo hi W L w0 rows w':=by
 have hz:=Nat.le_trans h.hn h.st.below.size
 refine ⟨h.st.grown hg (fun r e=>⟨(hr r e).2.1,(hr r e).2.2.1⟩),h.keep.trans (KeepsOthers.of_grownBy hg fun j o e ho=> ?_),h.span.trans ⟨(Below.refl n0 w).grown hg hz (fun k e=>Nat.le_trans h.hn (hr k e).2.1),fun k h1 h2=>hg.block k (Nat.lt_of_lt_of_le h2 h.hh) (fun e=>by have:=(hr k e.symm).1;omega)⟩,h.hn,Nat.le_trans h.hh hg.size⟩
 obtain ⟨o',ho',hc⟩:=(hr j e).2.2.2
 rw [ho] at ho';cases ho';exact hc
theorem O9 (hg:o.guard=none) (hd:∀c,o.op≠ .defer c) (hc:∀c,o.op≠ .call c) {F:Fence} {v:Value} {w':World} (hr:(execOp a.eval o).run Tryz.prog w= .ok (.value v) w')
 (h:wpListIn F m Tryz.prog ops Q rest (a.put o.dst v) w'):wpListIn F m Tryz.prog ops Q (o::rest) a w:=
 wpListIn_plain hg fun K hK=>by
  unfold Oper.wpIn
  refine ⟨fun f hf=> ?_,?_⟩
  ·unfold Oper.about at hf
   split at hf
   ·rename_i c he;exact absurd he (hc c)
   ·cases hf
  ·rw [Oper.semAt_plain F _ _ hd,hr]
   exact hK _ _ h
theorem aa9 (hg:o.guard=none) (hd:∀c,o.op≠ .defer c) (hc:∀c,o.op≠ .call c) {F:Fence} {w':World} (hr:(execOp a.eval o).run Tryz.prog w= .ok .skip w')
 (h:wpListIn F m Tryz.prog ops Q rest (a.put o.dst undef) w'):wpListIn F m Tryz.prog ops Q (o::rest) a w:=
 wpListIn_plain hg fun K hK=>by
  unfold Oper.wpIn
  refine ⟨fun f hf=> ?_,?_⟩
  ·unfold Oper.about at hf
   split at hf
   ·rename_i c he;exact absurd he (hc c)
   ·cases hf
  ·rw [Oper.semAt_plain F _ _ hd,hr]
   exact hK _ _ h
variable {dst:Option Tmp} {ty:TypeId} {pos:String} {af:Array Edge} {F:Fence}
theorem yV {T:Nat} (h:wpListIn F m Tryz.prog ops Q ((⟨dst, .alloc T,ty,pos,af,none⟩:Oper)::rest) a w):wpListIn F m Tryz.prog ops Q ((⟨dst, .alloc T,ty,pos,af,none⟩:Oper)::rest) a w:=h
theorem xu {T:Nat} {x:Operand} (h:wpListIn F m Tryz.prog ops Q ((⟨dst, .load T x,ty,pos,af,none⟩:Oper)::rest) a w):wpListIn F m Tryz.prog ops Q ((⟨dst, .load T x,ty,pos,af,none⟩:Oper)::rest) a w:=h
theorem lS {T:Nat} {x y:Operand} (h:wpListIn F m Tryz.prog ops Q ((⟨dst, .store T x y,ty,pos,af,none⟩:Oper)::rest) a w):wpListIn F m Tryz.prog ops Q ((⟨dst, .store T x y,ty,pos,af,none⟩:Oper)::rest) a w:=h
theorem LZ {T k:Nat} {ps:Array (Nat × Operand)} (h:wpListIn F m Tryz.prog ops Q ((⟨dst, .buildSlice T k ps,ty,pos,af,none⟩:Oper)::rest) a w):wpListIn F m Tryz.prog ops Q ((⟨dst, .buildSlice T k ps,ty,pos,af,none⟩:Oper)::rest) a w:=h
theorem O7 (T:Nat) (ho:o.op= .alloc T) (hg:o.guard=none) (hI:lU n0 lo hi W L w0 rows w) (cs:Array Value) (hz:∀w,(zeroValue T).run Tryz.prog w= .ok (.agg cs) w)
 (h:∀g w',hi≤g→lU n0 lo hi W L w0 ((g,cs,T)::rows) w'→wpListIn F m Tryz.prog ops Q rest (a.put o.dst (.pointer (some ⟨g,0,none⟩))) w'):wpListIn F m Tryz.prog ops Q (o::rest) a w:=
 O9 hg (fun c e=>by rw [ho] at e;cases e) (fun c e=>by rw [ho] at e;cases e) (v:= .pointer (some ⟨w.heap.size,0,none⟩)) (w':=w.alloc (.cells cs T))
  (by unfold execOp;simp only [ho,Instr.alloc,newVar,newRow,Sem.run_bind,hz,Result.andThen_ok,Value.cells];rfl) (h _ _ hI.hh (hI.new cs T))
theorem abA {w:World} (T:Nat) {g T':Nat} {cs ds:Array Value} {v:Value} (hv:v.cells=ds) (hg:w.heap[g]? =some (.cells cs T' (0,0))) (hz:cs.size=ds.size) (hi:(Tryz.prog.info? T).map (·.size)=some ds.size) (h1:ds.all (·.oneCell')=true):(storeVar T ⟨g,0,none⟩ v).run Tryz.prog w= .ok () (w.setRow g ds):=by
 subst hv
 have hst:=run_storeCells_at Tryz.prog g 0 T' v.cells.toList 0 cs w hg (by simp [hz]) (fun u hu=>(Array.all_eq_true_iff_forall_mem.1 h1) u (by simpa using hu))
 have e:(cs.toList.take (0+0)++v.cells.toList++cs.toList.drop (0+0+v.cells.toList.length)).toArray=v.cells:=by
  rw [List.drop_eq_nil_of_le (by simp [hz])];simp
 rw [e] at hst
 cases hq:Tryz.prog.info? T with
 |none=>simp [hq] at hi
 |some i=>
  have hs:v.cells.size=i.size:=by simp [hq] at hi;omega
  simp [storeVar,sizeOf,typeInfo,hq,hs,hst]
theorem DI (T:Nat) {x y:Operand} (ho:o.op= .store T x y) (hg:o.guard=none) (hI:lU n0 lo hi W L w0 rows w) {g T':Nat} (hx:a.eval x= .pointer (some ⟨g,0,none⟩)) {v:Value} (hy:a.eval y=v) {cs ds:Array Value} (hv:v.cells=ds) {rows':List Row} (hm:jq g cs ds T' rows rows') (hz:cs.size=ds.size)
 (hi':(Tryz.prog.info? T).map (·.size)=some ds.size) (h1:ds.all (·.oneCell')=true) (hlo:g<lo∨hi≤g) (h:∀w',lU n0 lo hi W L w0 rows' w'→wpListIn F m Tryz.prog ops Q rest (a.put o.dst undef) w'):wpListIn F m Tryz.prog ops Q (o::rest) a w:=
 aa9 hg (fun c e=>by rw [ho] at e;cases e) (fun c e=>by rw [ho] at e;cases e) (w':=w.setRow g ds)
  (by unfold execOp;simp only [ho,hx,hy,Instr.storeAt,Instr.sureAddr,Sem.run_bind,Sem.run_pure,Result.andThen_ok,abA T hv (hI.st.has _ hm.mem).1 hz hi' h1]) (h _ (hI.set hm hlo))
theorem O8 (T:Nat) {x y:Operand} (ho:o.op= .store T x y) (hg:o.guard=none) (hI:lU n0 lo hi W L w0 rows w) {g T':Nat} (hx:a.eval x= .pointer (some ⟨g,0,none⟩)) {v:Value} (hy:a.eval y=v) {cs ds:Array Value} (hv:v.cells=ds) {rows':List Row} (hm:jq g cs ds T' rows rows') (hz:cs.size=ds.size)
 (hi':(Tryz.prog.info? T).map (·.size)=some ds.size) (h1:ds.all (·.oneCell')=true) (hlo:g<lo∨hi≤g) (h:lU n0 lo hi W L w0 rows' (w.setRow g ds)→wpListIn F m Tryz.prog ops Q rest (a.put o.dst undef) (w.setRow g ds)):wpListIn F m Tryz.prog ops Q (o::rest) a w:=
 aa9 hg (fun c e=>by rw [ho] at e;cases e) (fun c e=>by rw [ho] at e;cases e) (w':=w.setRow g ds)
  (by unfold execOp;simp only [ho,hx,hy,Instr.storeAt,Instr.sureAddr,Sem.run_bind,Sem.run_pure,Result.andThen_ok,abA T hv (hI.st.has _ hm.mem).1 hz hi' h1]) (h (hI.set hm hlo))
theorem aj7 (T:Nat) {x:Operand} (ho:o.op= .load T x) (hg:o.guard=none) (hI:lU n0 lo hi W L w0 rows w) {g T':Nat} (hx:a.eval x= .pointer (some ⟨g,0,none⟩)) {cs:Array Value} (hm:cZ g cs T' rows)
 {d:TypeDesc} (hu:Tryz.prog.underlying T=some d) (hd:d.isRow=true) (hi':(Tryz.prog.info? T).map (·.size)=some cs.size) (h:wpListIn F m Tryz.prog ops Q rest (a.put o.dst (.agg cs)) w):wpListIn F m Tryz.prog ops Q (o::rest) a w:=
 O9 hg (fun c e=>by rw [ho] at e;cases e) (fun c e=>by rw [ho] at e;cases e) (kF hI.st ho hx hm (fun j v hj=>by simpa using hj) hu hd hi') h
theorem Xe {T:Nat} {x:Operand} (ho:o.op= .load T x) (hg:o.guard=none) (hI:lU n0 lo hi W L w0 rows w) {g T':Nat} (hx:a.eval x= .pointer (some ⟨g,0,none⟩)) {v:Value} (hm:cZ g #[v] T' rows)
 (hT:∃d,Tryz.prog.underlying T=some d∧d.isRow=false) (h:wpListIn F m Tryz.prog ops Q rest (a.put o.dst v) w):wpListIn F m Tryz.prog ops Q (o::rest) a w:=
 O9 hg (fun c e=>by rw [ho] at e;cases e) (fun c e=>by rw [ho] at e;cases e) (gB hI.st ho hx hm hT rfl) h
theorem afr {T:Nat} {x:Operand} (ho:o.op= .buildSlice T 1 #[(0,x)]) (hg:o.guard=none) (hI:lU n0 lo hi W L w0 rows w) {v:Value} (hx:a.eval x=v) (cs:Array Value) (T':Nat)
 (hr:∀w,(Instr.buildSlice T 1 #[(0,v)]).run Tryz.prog w= .ok (.slice (some ⟨w.heap.size,0,none⟩) 1 1) (w.alloc (.cells cs T')))
 (h:∀g w',hi≤g→lU n0 lo hi W L w0 ((g,cs,T')::rows) w'→wpListIn F m Tryz.prog ops Q rest (a.put o.dst (.slice (some ⟨g,0,none⟩) 1 1)) w'):wpListIn F m Tryz.prog ops Q (o::rest) a w:=
 O9 hg (fun c e=>by rw [ho] at e;cases e) (fun c e=>by rw [ho] at e;cases e) (v:= .slice (some ⟨w.heap.size,0,none⟩) 1 1) (w':=w.alloc (.cells cs T'))
  (by unfold execOp;simp [ho,hx,Sem.run_bind,hr,Result.andThen]) (h _ _ hI.hh (hI.new cs T'))
end
end Go.Proofs.YtdicgggkdmkklaaGreatDoor
namespace Go.Proofs.YtdicgggkdmkklaaGreatDoor
attribute [local irreducible] Calls
open Go.ChangeShapes Go.WideShapes Go.RowKit Go.Shelf
attribute [local go_sem] Oper.semAt_some
def EK (b:Nat):Array Value:=#[.pointer (some ⟨b+1,0,none⟩), .pointer (some ⟨b,0,none⟩), .pointer (some ⟨b+2,0,none⟩)]
def xQ (s:Str) (w:World):World:=((w.alloc (.cells #[.string (B s)] 9)).alloc (.cells #[.string ⟨#[44,32]⟩] 9)).alloc (.cells #[.int .i64 0] 3)
theorem ajk (s:Str) (w:World):Calls Tryz.prog 247 #[.string (B s), .string ⟨#[44,32]⟩, .int .i64 0] w fun e w'=>e= .returned (.func (.func 291) #[] (EK w.heap.size))∧w'=xQ s w:=by
 go_enter Tryz.func247,Tryz.ntmps247
 go_wp2
 go_ret
 exact ⟨by simp [EK],rfl⟩
theorem aqG (s:Str) (w:World) (b:Nat) (hb:Hid (w.heap.size=b)):Calls Tryz.prog 199 #[.string (B s), .string ⟨#[44,32]⟩] w fun e w'=>e= .returned (.func (.func 291) #[] (EK b))∧w'=xQ s w:=by
 obtain rfl:=hb.out
 clear hb
 go_enter Tryz.func199,Tryz.ntmps199
 go_wp2_with ((go_at_call 247;(with_reducible refine (ajk _ _).mono ?_);rintro e w' ⟨rfl,rfl⟩))
 go_ret
 exact ⟨rfl,rfl⟩
def Xp (b:Nat) (w:World):Nat:=match w.cell? ⟨b,0,none⟩ with|some (.string x)=>x.size|_=>0
theorem uy {w:World} {b T:Nat} {v:Value} (h:w.heap[b]? =some (.cells #[v] T (0,0))):w.cell? ⟨b,0,none⟩=some v:=by simp [World.cell?,h]
theorem aaJ {w:World} {b T:Nat} {v:Value} (h:w.heap[b]? =some (.cells #[v] T (0,0))):w.frozen? ⟨b,0,none⟩=false:=by simp [World.frozen?,h]
theorem Ju {w:World} {b T:Nat} {x:ByteArray} (h:w.heap[b]? =some (.cells #[.string x] T (0,0))):Xp b w=x.size:=by unfold Xp;rw [uy h]
theorem afs (s:Str) (i:Int) (h:Hid (Lib.index s iK=i)) (w:World) (hl:Laid w) (hs:s.length<4294967281):Calls Tryz.prog 278 #[.string (B s), .string ⟨#[44,32]⟩] w fun e w'=>e= .returned (.int .i64 i)∧w'=w:=
 (Tryz.strings_Index_shaped (B s) ⟨#[44,32]⟩ w hl.shaped (by rw [bC];exact hs)).mono fun e w' h'=>⟨h'.1.trans (by rw [←h.out];rfl),h'.2⟩
theorem Sz (n:Nat) (s:Str) (hs:s.length<4000000000) (b n0:Nat) (w:World) (hn0:n0≤b) (h1:w.heap[b]? =some (.cells #[.string (B s)] 9 (0,0))) (h2:w.heap[b+1]? =some (.cells #[.string ⟨#[44,32]⟩] 9 (0,0))) (h3:w.heap[b+2]? =some (.cells #[.int .i64 0] 3 (0,0)))
 (hL:∀W,Below n0 w W→Laid W):aaF Tryz.prog n 291 (EK b) b n0 b (b+3) (jV s) w:=fun l J Jx W hW hJ hJx hY h0=>by
 refine callsIn_of_wp Tryz.func291 rfl trivial ?_ rfl
 simp only [EK,Tryz.ntmps291,List.size_toArray,List.length_cons,List.length_nil,Nat.reduceAdd,Nat.reduceSub,Array.replicate_succ,Array.replicate_zero,List.push_toArray,List.append_toArray,List.nil_append,List.cons_append]
 have hb1:W.heap[b]? =some (.cells #[.string (B s)] 9 (0,0)):=(hW.2 b (by omega) (by omega)).trans h1
 have hb2:W.heap[b+1]? =some (.cells #[.string ⟨#[44,32]⟩] 9 (0,0)):=(hW.2 _ (by omega) (by omega)).trans h2
 have hb3:W.heap[b+2]? =some (.cells #[.int .i64 0] 3 (0,0)):=(hW.2 _ (by omega) (by omega)).trans h3
 have hbel:=hW.1
 have c1:=uy hb1
 have c2:=uy hb2
 have c3:=uy hb3
 gi_wp2
 clear h1 h2 h3 c1 c2 c3
 gi_loopw [7] (fun _ wr=>Hid (∃(pre:List Str) (cur:Str),jV s=pre++jV cur∧cur.length≤s.length∧wr.heap[b]? =some (.cells #[.string (B cur)] 9 (0,0))∧wr.heap[b+1]? =some (.cells #[.string ⟨#[44,32]⟩] 9 (0,0))∧wr.heap[b+2]? =some (.cells #[.int .i64 0] 3 (0,0))∧Below n0 w wr∧J pre wr)) (fun _ wr=>Xp b wr)
 case atStart=>exact Lib.hid ⟨[],s,rfl,Nat.le_refl _,hb1,hb2,hb3,hbel,h0⟩
 case round=>
  clear hb1 hb2 hb3 hbel h0 hW
  obtain ⟨pre,cur,HC,hlen,hb1,hb2,hb3,hbel,hj⟩:=hrel.out
  clear hrel
  have hl:=hL _ hbel
  have c1:=uy hb1
  have c2:=uy hb2
  have c3:=uy hb3
  have f1:=aaJ hb1
  have hleft:=Ju hb1
  rw [bC] at hleft
  rcases ab9 cur with ⟨hi,hc⟩|⟨i,hi,hi2,hc⟩
  ·have HI:=Lib.hid hi
   rw [hc] at HC
   obtain ⟨fn,tmps,assign,body,hy,hR⟩:=hY pre cur [] wr HC hj
   have HC':=Lib.hid HC
   clear hi hc HC hleft
   gi_wp2_with ((with_reducible refine And.intro ?_ (And.intro ?_ ?_));(exact trivial);(intro h;cases h);refine (callsIn_wide.2 (afs cur _ HI _ hl (by omega))).mono ?_;rintro e w' ⟨rfl,rfl⟩)
   refine ⟨fun h=>(by cases h),hR.mono ?_⟩
   rintro e W3 (⟨rfl,hJ3,hk3⟩|⟨rfl,hJx3⟩)
   ·gi_wp2
    go_end0
    exact ⟨⟨_,rfl⟩, .inl (by rw [HC'.out];exact hJ3)⟩
   ·gi_wp2
    go_end0
    exact ⟨⟨_,rfl⟩, .inr ⟨_,hJx3⟩⟩
  ·have HI:=Lib.hid hi
   rw [hc] at HC
   obtain ⟨fn,tmps,assign,body,hy,hR⟩:=hY pre (cur.take i) (jV (cur.drop (i+2))) wr HC hj
   have hsz:(B cur).size=cur.length:=bC cur
   have HC':Hid (jV s=(pre++[cur.take i])++jV (cur.drop (i+2))):=Lib.hid (by rw [HC];simp)
   have hx1:(B cur).extract 0 i=B (cur.take i):=lC (by rw [dM,cO,cO];simp)
   have hx2:(B cur).extract (i+2) cur.length=B (cur.drop (i+2)):=lC (by rw [dM,cO,cO,List.take_of_length_le (Nat.le_refl _)])
   clear hi hc HC
   gi_wp2_with ((with_reducible refine And.intro ?_ (And.intro ?_ ?_));(exact trivial);(intro h;cases h);refine (callsIn_wide.2 (afs cur _ HI _ hl (by omega))).mono ?_;rintro e w' ⟨rfl,rfl⟩)
   refine ⟨fun h=>(by cases h),hR.mono ?_⟩
   rintro e W3 (⟨rfl,hJ3,hk3⟩|⟨rfl,hJx3⟩)
   ·have hb1':=(hk3.2 b (by omega) (by omega)).trans hb1
    have hb2':=(hk3.2 (b+1) (by omega) (by omega)).trans hb2
    have arM:=(hk3.2 (b+2) (by omega) (by omega)).trans hb3
    have d1:=uy hb1'
    have d2:=uy hb2'
    have g1:=aaJ hb1'
    gi_wp2
    go_roundw
    case rel=>
     have hset:(W3.setCell ⟨b,0,none⟩ (.string (B (cur.drop (i+2))))).heap[b]? =some (.cells #[.string (B (cur.drop (i+2)))] 9 (0,0)):=Boxed.set (t:=9) _ hb1'
     refine Lib.hid ⟨pre++[cur.take i],cur.drop (i+2),HC'.out,by simp;omega,hset,(Below.heap_setCell _ _ _ _ (by simp)).trans hb2',(Below.heap_setCell _ _ _ _ (by simp)).trans arM,((hbel.trans hk3.1).setCell (p:=⟨b,0,none⟩) hn0 _),?_⟩
     exact hJ _ _ _ (some b) hJ3 (grownBy_setCell' W3 b _) (fun r e=>by cases e;rfl)
    case measure=>
     have hset:(W3.setCell ⟨b,0,none⟩ (.string (B (cur.drop (i+2))))).heap[b]? =some (.cells #[.string (B (cur.drop (i+2)))] 9 (0,0)):=Boxed.set (t:=9) _ hb1'
     rw [Ju hset,Ju hb1,bC,bC,List.length_drop]
     omega
   ·gi_wp2
    refine bodyPost_ret (results_none rfl _ _ _) rfl ?_
    exact ⟨⟨_,rfl⟩, .inr ⟨_,hJx3⟩⟩
end Go.Proofs.YtdicgggkdmkklaaGreatDoor
namespace Go.Proofs.YtdicgggkdmkklaaGreatDoor
attribute [local irreducible] Calls
open Go.ChangeShapes Go.WideShapes Go.RowKit Go.Shelf
attribute [local go_sem] Oper.semAt_some
abbrev kT:Nat:=26
theorem abp {w:World} {base e size k:Nat} {v:Value} {xs:List Value} (h:w.ownsRow base e size v k xs) {row:Option Nat} (hr:∀r,row=some r→r<base∨∃o:Obj,w.heap[r]? =some o∧o.isCells=false):v.ownBlock=none∨v.ownBlock≠row:=by
 rcases h.2 with ⟨rfl,_⟩|⟨g,cap,cur,rfl,hb,hgb,_⟩
 ·exact .inl rfl
 ·refine .inr fun e'=> ?_
  rcases hr g (by simpa [Value.ownBlock] using e'.symm) with h1|⟨o,ho,hc⟩
  ·omega
  ·rw [hgb] at ho;cases ho;cases hc
theorem EY (r:Md):∀w:World,(Instr.buildSlice kT 1 #[(0, .agg (Md.cells r))]).run Tryz.prog w= .ok (.slice (some ⟨w.heap.size,0,none⟩) 1 1) (w.alloc (.cells (Md.cells r) iw)):=fun _=>by kernel_rfl
theorem abg:(Tryz.prog.info? iw).map (fun i=>(i.zero,i.size,i.bytes))=some (some (.agg dO.cells),20,176):=by kernel_rfl
def nZ (l:List Md):List Value:=l.flatMap fun r=>r.cells.toList
theorem Me (l:List Md) (m:Md):nZ (l++[m])=nZ l++m.cells.toList:=by simp [nZ]
theorem zN:∀(pre:List Str) (out l:List Md) (r:List Str),jS out pre=some l→jS out (pre++r)=jS l r
 |[],out,l,r,h=>by rw [jS] at h;injection h with h;rw [h];rfl
 |p::pre,out,l,r,h=>by
  rw [jS] at h
  rw [List.cons_append,jS]
  cases hp:iJ p with
  |none=>rw [hp] at h;cases h
  |some m=>
   rw [hp] at h
   simp only at h ⊢
   split at h
   ·cases h
   ·rename_i h6
    rw [if_neg h6]
    exact zN pre _ l r h
theorem Ug (l:List Md) (x:Str) (m:Md) (h:iJ x=some m) (h6:¬l.length=6):jS l [x]=some (l++[m]):=by
 rw [jS,h];simp only;rw [if_neg h6,jS]
theorem JH (l:List Md) (x:Str) (r:List Str) (h:iJ x=none∨l.length=6):jS l (x::r)=none:=by
 rw [jS]
 cases hp:iJ x with
 |none=>rfl
 |some m=>
  rcases h with h|h
  ·rw [hp] at h;cases h
  ·simp only;rw [if_pos h]
theorem acd (s x:Str) (h:x∈jV s):x.length≤s.length:=by
 have:=Dz s [] false x h
 simpa using this
def ajP (s:Str) (w:World) (e:Ending) (w':World):Prop:=
 Below w.heap.size w w'∧((fF s=none∧e= .returned (.tuple #[.slice none 0 0, .int .i64 3]))∨(∃l v,fF s=some l∧e= .returned (.tuple #[v, .int .i64 0])∧w'.ownsRow w.heap.size iw 20 v l.length (nZ l)))
theorem Py (s:Str) (hs:s.length<100000000) (R:Option Md) (h:Hid (iJ s=R)) (w:World) (hl:Laid w):Calls Tryz.prog 200 #[.string (B s)] w fun e w'=>e= .returned (Pz R)∧Below w.heap.size w w':=
 (ZN s hs w hl).mono fun e w' h'=>⟨by rw [h'.1,h.out],h'.2⟩
def Lst (w0:World) (pre:List Str) (W:World):Prop:=
 ∃(l:List Md) (v:Value),jS [] pre=some l∧l.length≤6∧W.ownsRow (w0.heap.size+6) iw 20 v l.length (nZ l)∧St Laid w0 [(w0.heap.size+2,#[v],kT),(w0.heap.size+1,#[.int .i64 0],43),(w0.heap.size,#[.slice none 0 0],kT)] W
def abK (s:Str) (w0:World) (_:List Str) (W:World):Prop:=
 fF s=none∧∃v,St Laid w0 [(w0.heap.size+2,#[v],kT),(w0.heap.size+1,#[.int .i64 3],43),(w0.heap.size,#[.slice none 0 0],kT)] W
theorem Lst.bears (w0:World) (B:Nat) (hB:w0.heap.size+6≤B):Bears (w0.heap.size+3) B (Lst w0):=by
 rintro pre A C row ⟨l,v,h1,h2,h3,h4⟩ hg hr
 refine ⟨l,v,h1,h2,h3.kept hg (abp h3 fun r e=> ?_),h4.grown hg fun r e=> ?_⟩
 ·rcases hr r e with h|⟨_,h⟩
  ·left;omega
  ·exact .inr h
 ·rcases hr r e with h|⟨h,_⟩<;>(simp only [List.map_cons,List.map_nil,List.mem_cons,List.not_mem_nil,or_false];omega)
theorem abK.bears (s:Str) (w0:World) (B:Nat) (hB:w0.heap.size+6≤B):Bears (w0.heap.size+3) B (abK s w0):=by
 rintro pre A C row ⟨h1,v,h4⟩ hg hr
 refine ⟨h1,v,h4.grown hg fun r e=> ?_⟩
 rcases hr r e with h|⟨h,_⟩<;>(simp only [List.map_cons,List.map_nil,List.mem_cons,List.not_mem_nil,or_false];omega)
theorem JA (r:Md):(Md.cells r).all (·.oneCell')=true:=by kernel_rfl
theorem abj:(#[.slice none 0 0]:Array Value).all (·.oneCell')=true:=by kernel_rfl
theorem UF:(#[.int .i64 3]:Array Value).all (·.oneCell')=true:=by kernel_rfl
theorem J9 (g k c:Nat):(#[.slice (some ⟨g,0,none⟩) k c]:Array Value).all (·.oneCell')=true:=by kernel_rfl
theorem RS {w:World} {g T:Nat} {cs:Array Value} (h:w.heap[g]? =some (.cells cs T (0,0))):∀(j:Nat) (u:Value),cs.toList[j]? =some u→w.cell? ((⟨g,0,none⟩:Addr).add j)=some u:=fun j u hj=>by
 have e:((⟨g,0,none⟩:Addr).add j)=⟨g,j,none⟩:=by simp [Addr.add];try (intro h;exact h.symm)
 rw [e,cell_of_row w g j cs T (0,0) h];simpa using hj
theorem Aw {w:World} {base e size k:Nat} {v:Value} {xs:List Value} (h:w.ownsRow base e size v k xs) (g:Nat) (cs:Array Value) (hg:g<base):(w.setRow g cs).ownsRow base e size v k xs:=h.kept (Rj w g cs) (abp h fun r e=>by cases e;exact .inl hg)
theorem afS {w:World} {b b' e size k:Nat} {v:Value} {xs:List Value} (hb:b'≤b) (h:w.ownsRow b e size v k xs):w.ownsRow b' e size v k xs:=by
 refine ⟨h.1,?_⟩
 rcases h.2 with h|⟨g,cap,cur,h1,h2,h3⟩
 ·exact .inl h
 ·exact .inr ⟨g,cap,cur,h1,by omega,h3⟩
theorem abh (r:Md):∀u∈r.cells.toList,u.oneCell'=true:=fun u hu=>(Array.all_eq_true_iff_forall_mem.1 (JA r)) u (by simpa using hu)
theorem ajE:(#[.int .i64 0]:Array Value).all (·.oneCell')=true:=by kernel_rfl
theorem Cj:(Tryz.prog.info? kT).map (·.size)=some 1:=by kernel_rfl
theorem FY:(Tryz.prog.info? 43).map (·.size)=some 1:=by kernel_rfl
theorem NJ:∃d,Tryz.prog.underlying kT=some d∧d.isRow=false:=⟨_,Tryz.underlying26,rfl⟩
theorem TY {w:World} {F:Fence} {n:Nat} {ops:Array Oper} {rest:List Oper} {o:Oper} {a:Act} {Q:Exit→Act→World→Prop} {ms:List Md} {r:Md} {b:Nat} {v:Value} {x y:Operand} (ho:o.op= .call { callee:= .builtin .append,args:=#[x,y],argTypes:=#[kT,kT] }) (hg:o.guard=none) (hs:a.eval x=v) (own:w.ownsRow b iw 20 v ms.length (nZ ms))
 {g3:Nat} (hx:a.eval y= .slice (some ⟨g3,0,none⟩) 1 1) (hr:w.heap[g3]? =some (.cells r.cells iw (0,0))) (h6:ms.length≤1000000) (hb:b≤w.heap.size)
 (h:∀g' cap' w1,w1.ownsRow b iw 20 (.slice (some ⟨g',0,none⟩) (ms.length+1) cap') (ms.length+1) (nZ (ms++[r]))→w.grownBy w1 v.ownBlock→wpListIn F n Tryz.prog ops Q rest (a.put o.dst (.slice (some ⟨g',0,none⟩) (ms.length+1) cap')) w1):wpListIn F n Tryz.prog ops Q (o::rest) a w:=by
 obtain ⟨i0,hi0,hz0,hz1,hz2⟩:=info_parts abg
 refine wpListIn_append_own w hg x y kT ho b iw i0 (.agg dO.cells) 20 176 Tryz.underlying26 hi0 hz0 hz1 hz2 rfl (by decide) v ms.length (nZ ms) hs own ⟨g3,0,none⟩ 1 1 r.cells.toList hx rfl (RS hr) (abh r) (by unfold maxLen;omega) (by omega) hb ?_
 intro v' w1 hown hgrow _
 obtain ⟨g',cap',rfl⟩:=ownsRow_succ hown
 exact h g' cap' w1 (by rw [Me];exact hown) hgrow
theorem Ci (s:Str) (hs:s.length<100000000) (r:Md) (h:Hid (iJ s=some r)) (w:World) (hl:Laid w):Calls Tryz.prog 200 #[.string (B s)] w fun e w'=>e= .returned (.tuple #[.agg r.cells, .int .i64 0])∧Below w.heap.size w w':=Py s hs _ h w hl
theorem Xw (s:Str) (hs:s.length<100000000) (h:Hid (iJ s=none)) (w:World) (hl:Laid w):Calls Tryz.prog 200 #[.string (B s)] w fun e w'=>e= .returned (.tuple #[.agg dO.cells, .int .i64 3])∧Below w.heap.size w w':=Py s hs _ h w hl
theorem St.add {L:World→Prop} {w0 w:World} {rows:List Row} (h:St L w0 rows w) {g T:Nat} {cs:Array Value} (hg:w.heap[g]? =some (.cells cs T (0,0))) (h1:w0.heap.size≤g) (hn:g∉rows.map (·.1)):St L w0 ((g,cs,T)::rows) w:=by
 refine ⟨h.base,h.keeps,h.below,?_,?_⟩
 ·intro x hx
  rcases List.mem_cons.1 hx with rfl|hx
  ·exact ⟨hg,h1⟩
  ·exact h.has x hx
 ·simp only [List.map_cons,List.nodup_cons]
  exact ⟨hn,h.apart⟩
theorem Vl (s:Str) (hs:s.length<100000000) (w0:World) (hl:Laid w0):Calls Tryz.prog 124 #[.string (B s)] w0 (ajP s w0):=by
 have hS0:=St.start hl bJ
 refine (callsIn_wide (n:=3)).1 ?_
 refine callsIn_of_wp_marks Tryz.func124 rfl trivial ?_ rfl
 simp only [Tryz.ntmps124,List.size_toArray,List.length_cons,List.length_nil,Nat.reduceAdd,Nat.reduceSub,Array.replicate_succ,Array.replicate_zero,List.push_toArray,List.append_toArray,List.nil_append,List.cons_append]
 gi_wp2_with ((with_reducible refine And.intro ?_ ?_);(exact trivial);refine (callsIn_wide.2 (aqG s _ (w0.heap.size+3) (Lib.hid (by simp)))).mono ?_;rintro e w' ⟨rfl,rfl⟩)
 have hS:St Laid w0 [(w0.heap.size+2,#[.slice none 0 0],kT),(w0.heap.size+1,#[.int .i64 0],43),(w0.heap.size,#[.slice none 0 0],kT)] (((w0.alloc (.cells #[.slice none 0 0] kT)).alloc (.cells #[.int .i64 0] 43)).alloc (.cells #[.slice none 0 0] kT)):=by
  have h1:=((hS0.alloc #[.slice none 0 0] kT).alloc #[.int .i64 0] 43).alloc #[.slice none 0 0] kT
  simp only [World.size_alloc] at h1
  exact h1
 have hz:(((w0.alloc (.cells #[.slice none 0 0] kT)).alloc (.cells #[.int .i64 0] 43)).alloc (.cells #[.slice none 0 0] kT)).heap.size=w0.heap.size+3:=by simp
 change Code.wpIn _ _ _ _ _ _ (xQ s (((w0.alloc (.cells #[.slice none 0 0] kT)).alloc (.cells #[.int .i64 0] 43)).alloc (.cells #[.slice none 0 0] kT)))
 generalize ((w0.alloc (.cells #[.slice none 0 0] kT)).alloc (.cells #[.int .i64 0] 43)).alloc (.cells #[.slice none 0 0] kT)=W2 at *
 have b1:(xQ s W2).heap[w0.heap.size+3]? =some (.cells #[.string (B s)] 9 (0,0)):=by
  unfold xQ;rw [←hz];exact (Below.heap_alloc _ _ _ (by simp;omega)).trans ((Below.heap_alloc _ _ _ (by simp)).trans (World.alloc_heap_new _ _))
 have b2:(xQ s W2).heap[w0.heap.size+3+1]? =some (.cells #[.string ⟨#[44,32]⟩] 9 (0,0)):=by
  unfold xQ;rw [←hz];refine (Below.heap_alloc _ _ _ (by simp)).trans ?_
  have:=World.alloc_heap_new (W2.alloc (.cells #[.string (B s)] 9)) (.cells #[.string ⟨#[44,32]⟩] 9)
  rwa [World.size_alloc] at this
 have b3:(xQ s W2).heap[w0.heap.size+3+2]? =some (.cells #[.int .i64 0] 3 (0,0)):=by
  unfold xQ;rw [←hz]
  have:=World.alloc_heap_new ((W2.alloc (.cells #[.string (B s)] 9)).alloc (.cells #[.string ⟨#[44,32]⟩] 9)) (.cells #[.int .i64 0] 3)
  rwa [World.size_alloc,World.size_alloc] at this
 have hz3:(xQ s W2).heap.size=w0.heap.size+6:=by unfold xQ;simp [hz]
 have hS3:St Laid w0 [(w0.heap.size+2,#[.slice none 0 0],kT),(w0.heap.size+1,#[.int .i64 0],43),(w0.heap.size,#[.slice none 0 0],kT)] (xQ s W2):=hS.mono (by unfold xQ;exact (((Below.refl _ W2).alloc (Nat.le_refl _) _).alloc (by simp) _).alloc (by simp;omega) _)
 generalize xQ s W2=W3 at *
 clear hS hz W2
 have hL:∀W,Below w0.heap.size W3 W→Laid W:=fun W hb=>hl.below (hS3.below.trans hb)
 refine ahq (P:=Tryz.prog) (n:=3) (gf:=291) (lb:=EK (w0.heap.size+3)) rfl (enters_of Tryz.func291 (by kernel_rfl) rfl) (c:=w0.heap.size+3) (n0:=w0.heap.size) (lo:=w0.heap.size+3) (hi:=w0.heap.size+3+3) (parts:=jV s)
  (Sz _ s (by omega) (w0.heap.size+3) w0.heap.size W3 (by omega) b1 b2 b3 hL) (by omega) (by omega) (by omega) rfl (Lst w0) (abK s w0) (Lst.bears w0 _ (by omega)) (abK.bears s w0 _ (by omega))
  ⟨[], .slice none 0 0,rfl,by simp,World.ownsRow_nil _ _ _ _,hS3⟩ ?a1 ?assign ?body ?done ?stop
 case assign=>
  intro l x W K hK
  gi_wp2
  exact hK
 case body=>
  rintro l pre x rest W hx hsz ⟨ms,v,h1,h2,h3,h4⟩
  have hxl:x.length≤s.length:=acd s x (by rw [hx];simp)
  have hp:fF s=jS ms (x::rest):=by unfold fF;rw [hx];exact zN pre [] ms _ h1
  have hp1:jS [] (pre++[x])=jS ms [x]:=zN pre [] ms _ h1
  have HP:=Lib.hid hp
  have HP1:=Lib.hid hp1
  clear hp hp1 h1
  obtain ⟨R,hR⟩:∃R,iJ x=R:=⟨_,rfl⟩
  cases R with
  |none=>
   have HR:=Lib.hid hR
   have HX:Hid (fF s=none):=Lib.hid (by rw [HP.out];exact JH ms x rest (.inl hR))
   clear hR HP HP1 h3
   have hI:=lU.start (n0:=w0.heap.size) (lo:=w0.heap.size+3) (hi:=w0.heap.size+3+3) h4 (Nat.le_refl _) (by omega)
   gi_wp2_with (first|((with_reducible refine And.intro ?_ ?_);(exact trivial);refine (lU.call hI fun hl=>Xw x (by omega) HR _ hl).mono ?_;rintro e w ⟨rfl,hI⟩)|((with_reducible refine yV ?_);refine O7 iw rfl rfl hI _ jf ?_;intro g2 w hg2 hI)|((with_reducible refine lS ?_);refine DI iw rfl rfl hI rfl rfl (ds:=Md.cells _) rfl .head rfl jQ (JA _) (.inr hg2) ?_;intro w hI;have c4:=hI.st.uz (.tail .head) 0 (v:=v) rfl)|((with_reducible refine lS ?_);refine DI kT rfl rfl hI rfl rfl (ds:=#[.slice none 0 0]) rfl (by repeat constructor) (by rfl) Cj abj (.inl (by omega)) ?_;intro w hI)|((with_reducible refine lS ?_);refine DI 43 rfl rfl hI rfl rfl (ds:=#[.int .i64 3]) rfl (by repeat constructor) (by rfl) FY UF (.inl (by omega)) ?_;intro w hI))
   exact ⟨hI.keep,HX.out,_,hI.tail.st⟩
  |some m=>
   have hR':=hR
   have HR:=Lib.hid hR
   clear hR
   by_cases h6:ms.length=6
   ·have HX:Hid (fF s=none):=Lib.hid (by rw [HP.out];exact JH ms x rest (.inr h6))
    clear HP HP1 hR'
    have hI:=lU.start (n0:=w0.heap.size) (lo:=w0.heap.size+3) (hi:=w0.heap.size+3+3) h4 (Nat.le_refl _) (by omega)
    rcases h3.2 with ⟨rfl,h0⟩|⟨g,cap,cur,rfl,hb,hg,hn,hcap,hcs,htk⟩
    ·omega
    ·clear h3 htk
     rw [h6] at hI
     gi_wp2_with (first|((with_reducible refine And.intro ?_ ?_);(exact trivial);refine (lU.call hI fun hl=>Ci x (by omega) m HR _ hl).mono ?_;rintro e w ⟨rfl,hI⟩)|((with_reducible refine yV ?_);refine O7 iw rfl rfl hI _ jf ?_;intro g2 w hg2 hI)|((with_reducible refine lS ?_);refine DI iw rfl rfl hI rfl rfl (ds:=Md.cells _) rfl .head rfl jQ (JA _) (.inr hg2) ?_;intro w hI;have c4:=hI.st.uz (.tail .head) 0 (v:= .slice (some ⟨g,0,none⟩) 6 cap) rfl)|((with_reducible refine lS ?_);refine DI kT rfl rfl hI rfl rfl (ds:=#[.slice none 0 0]) rfl (by repeat constructor) (by rfl) Cj abj (.inl (by omega)) ?_;intro w hI)|((with_reducible refine lS ?_);refine DI 43 rfl rfl hI rfl rfl (ds:=#[.int .i64 3]) rfl (by repeat constructor) (by rfl) FY UF (.inl (by omega)) ?_;intro w hI))
     exact ⟨hI.keep,HX.out,_,hI.tail.st⟩
   ·have HN:Hid (jS [] (pre++[x])=some (ms++[m])):=Lib.hid (by rw [HP1.out];exact Ug ms x m hR' h6)
    clear HP HP1 hR'
    rcases h3.2 with ⟨rfl,h0⟩|⟨g,cap,cur,rfl,hb,hg,hn,hcap,hcs,htk⟩
    ·obtain rfl:ms=[]:=List.length_eq_zero_iff.1 h0
     have hI:=lU.start (n0:=w0.heap.size) (lo:=w0.heap.size+3) (hi:=w0.heap.size+3+3) h4 (Nat.le_refl _) (by omega)
     have h7:=h3.1
     clear h3 h6 h0
     gi_wp2_with (first|((with_reducible refine And.intro ?_ ?_);(exact trivial);refine (lU.call hI fun hl=>Ci x (by omega) m HR _ hl).mono ?_;rintro e w ⟨rfl,hI⟩)|((with_reducible refine yV ?_);refine O7 iw rfl rfl hI _ jf ?_;intro g2 w hg2 hI)|((with_reducible refine lS ?_);refine DI iw rfl rfl hI rfl rfl (ds:=Md.cells _) rfl .head rfl jQ (JA _) (.inr hg2) ?_;intro w hI;have c4:=hI.st.uz (.tail .head) 0 (v:= .slice none 0 0) rfl)|((with_reducible refine xu ?_);refine Xe rfl rfl hI rfl (by repeat constructor) NJ ?_;(try simp only [ah,ak,au,ay,aA]))|((with_reducible refine xu ?_);refine aj7 iw rfl rfl hI rfl .head Tryz.underlying56 rfl jQ ?_;(try simp only [ah,ak,au,ay,aA]))|((with_reducible refine LZ ?_);refine afr rfl rfl hI rfl _ iw (EY m) ?_;intro g3 w hg3 hI;(try simp only [ah,ak,au,ay,aA]))|(gi_at_builtin;refine TY (b:=w0.heap.size+6) rfl rfl rfl (ms:=[]) (World.ownsRow_nil _ _ _ _) rfl (hI.st.row .head) (by omega) (by have:=hI.hh;omega) ?_;intro g' cap' w1 hown' hgrow;have hI:=hI.tail.tail.grown hgrow (fun r e=>by cases e);have hown2:=Aw hown' (w0.heap.size+2) #[.slice (some ⟨g',0,none⟩) (0+1) cap'] (by omega);clear hown' hgrow;refine O8 kT rfl rfl hI rfl rfl (ds:=#[.slice (some ⟨g',0,none⟩) (0+1) cap']) rfl .head (by rfl) Cj (J9 _ _ _) (.inl (by omega)) ?_;intro hI))
     exact ⟨hI.keep,hI.span,[]++[m],_,HN.out,by simp,hown2,hI.st⟩
    ·have hI:=lU.start (n0:=w0.heap.size) (lo:=w0.heap.size+3) (hi:=w0.heap.size+3+3) (h4.add hg (by omega) (by simp;omega)) (Nat.le_refl _) (by omega)
     have hne:((ms.length:Int)==6)=false:=by simp;omega
     have h8:ms.length+1≤6:=by omega
     have h31:=h3.1
     clear h3 h6 hg
     gi_wp2_with (first|((with_reducible refine And.intro ?_ ?_);(exact trivial);refine (lU.call hI fun hl=>Ci x (by omega) m HR _ hl).mono ?_;rintro e w ⟨rfl,hI⟩)|((with_reducible refine yV ?_);refine O7 iw rfl rfl hI _ jf ?_;intro g2 w hg2 hI)|((with_reducible refine lS ?_);refine DI iw rfl rfl hI rfl rfl (ds:=Md.cells _) rfl .head rfl jQ (JA _) (.inr hg2) ?_;intro w hI;have c4:=hI.st.uz (.tail (.tail .head)) 0 (v:= .slice (some ⟨g,0,none⟩) ms.length cap) rfl)|((with_reducible refine xu ?_);refine Xe rfl rfl hI rfl (by repeat constructor) NJ ?_;(try simp only [ah,ak,au,ay,aA]))|((with_reducible refine xu ?_);refine aj7 iw rfl rfl hI rfl .head Tryz.underlying56 rfl jQ ?_;(try simp only [ah,ak,au,ay,aA]))|((with_reducible refine LZ ?_);refine afr rfl rfl hI rfl _ iw (EY m) ?_;intro g3 w hg3 hI;(try simp only [ah,ak,au,ay,aA]))|(gi_at_builtin;refine TY (b:=w0.heap.size+6) rfl rfl rfl (ms:=ms) ⟨h31, .inr ⟨g,cap,cur,rfl,hb,(hI.st.row (.tail (.tail .head))),hn,hcap,hcs,htk⟩⟩ rfl (hI.st.row .head) (by omega) (by have:=hI.hh;omega) ?_;intro g' cap' w1 hown' hgrow;have hI:=hI.tail.tail.tail.grown hgrow (fun r e=>by have e2:some g=some r:=e;cases e2;exact ⟨by omega,by omega,by simp;omega,_,hI.st.row (.tail (.tail .head)),rfl⟩);have hown2:=Aw hown' (w0.heap.size+2) #[.slice (some ⟨g',0,none⟩) (ms.length+1) cap'] (by omega);clear hown' hgrow;refine O8 kT rfl rfl hI rfl rfl (ds:=#[.slice (some ⟨g',0,none⟩) (ms.length+1) cap']) rfl .head (by rfl) Cj (J9 _ _ _) (.inl (by omega)) ?_;intro hI))
     exact ⟨hI.keep,hI.span,ms++[m],_,HN.out,by simp;omega,by rw [List.length_append];exact hown2,hI.st⟩
 case done=>
  rintro D W hD ⟨ms,v,h1,h2,h3,h4⟩ hK
  have hp:fF s=some ms:=by unfold fF;exact h1
  have HP:=Lib.hid hp
  clear h1 hp
  have hI:=lU.start (n0:=w0.heap.size) (lo:=w0.heap.size+3) (hi:=w0.heap.size+3+3) h4 (Nat.le_refl _) (by have:=(Array.getElem?_eq_some_iff.1 hK).1;omega)
  rcases h3.2 with ⟨rfl,h0⟩|⟨g,cap,cur,rfl,hb,hg,hn,hcap,hcs,htk⟩
  ·exfalso
   have:=(tY HP.out).1
   exact this (List.length_eq_zero_iff.1 h0)
  ·gi_wp2_with (first|((with_reducible refine xu ?_);refine Xe rfl rfl hI rfl .head NJ ?_;(try simp only [ah,ak,au,ay,aA]))|((with_reducible refine lS ?_);refine O8 kT rfl rfl hI rfl rfl (ds:=#[.slice (some ⟨g,0,none⟩) ms.length cap]) rfl (.tail (.tail .head)) (by rfl) Cj (J9 _ _ _) (.inl (by omega)) ?_;intro hI)|((with_reducible refine lS ?_);refine O8 43 rfl rfl hI rfl rfl (ds:=#[.int .i64 0]) rfl (.tail .head) (by rfl) FY ajE (.inl (by omega)) ?_;intro hI))
   simp only [Act.put]
   have hK2:((W.setRow w0.heap.size #[.slice (some ⟨g,0,none⟩) ms.length cap]).setRow (w0.heap.size+1) #[.int .i64 0]).heap[D]? =some (.deferred (some [])):=(setRow_other _ _ _ _ (by omega)).trans ((setRow_other _ _ _ _ (by omega)).trans hK)
   have h3':=Aw (Aw h3 w0.heap.size #[.slice (some ⟨g,0,none⟩) ms.length cap] (by omega)) (w0.heap.size+1) #[.int .i64 0] (by omega)
   generalize (W.setRow w0.heap.size #[.slice (some ⟨g,0,none⟩) ms.length cap]).setRow (w0.heap.size+1) #[.int .i64 0]=W' at *
   refine ⟨by simp, .inl ⟨_,_,rfl,run_takeDeferred hK2,?_⟩⟩
   have h5:=hI.st.grown (grownBy_putObj' W' D (.deferred none)) (fun r e=>by cases e;exact ⟨by omega,by simp;omega⟩)
   have c2:=h5.uz (.tail (.tail .head)) 0 (v:= .slice (some ⟨g,0,none⟩) ms.length cap) rfl
   have c3:=h5.uz (.tail .head) 0 (v:= .int .i64 0) rfl
   refine ⟨.tuple #[.slice (some ⟨g,0,none⟩) ms.length cap, .int .i64 0],?_,h5.below, .inr ⟨ms,_,HP.out,rfl,afS (by omega) (ownsRow_putObj h3' _ hK2 rfl)⟩⟩
   simp [results,Tryz.f124,go_sem,c2,c3]
 case stop=>
  rintro D pre W hD ⟨h1,v,h4⟩ hK
  have HX:=Lib.hid h1
  clear h1
  gi_wp2
  refine ⟨by simp, .inl ⟨_,_,rfl,run_takeDeferred hK,?_⟩⟩
  have h5:=h4.grown (grownBy_putObj' W D (.deferred none)) (fun r e=>by cases e;exact ⟨by omega,by simp;omega⟩)
  have c2:=h5.uz (.tail (.tail .head)) 0 (v:= .slice none 0 0) rfl
  have c3:=h5.uz (.tail .head) 0 (v:= .int .i64 3) rfl
  refine ⟨.tuple #[.slice none 0 0, .int .i64 3],?_,h5.below, .inl ⟨HX.out,rfl⟩⟩
  simp [results,Tryz.f124,go_sem,c2,c3]
end Go.Proofs.YtdicgggkdmkklaaGreatDoor
namespace Go.Proofs.YtdicgggkdmkklaaGreatDoor
attribute [local irreducible] wpList Code.wp Calls
open Go.ChangeShapes Go.WideShapes Go.RowKit
theorem DL (r:Md):(cu r).length≤1000200:=by
 cases hv:iL r with
 |false=>rw [DN hv];decide
 |true=>
  rw [show cu r=nK r from if_pos hv]
  cases wH hv with
  |control=>decide
  |blank=>decide
  |switch=>decide
  |rZ k h1 h2=>
   have h3:=D8 ⟨k,by omega⟩
   simp only at h3
   show (vw++61::bD k).length≤_
   simp [vw];omega
  |zW k h1 h2=>
   have h3:=D8 ⟨k,by omega⟩
   simp only at h3
   show (sQ++61::bD k).length≤_
   simp [sQ];omega
  |Ku s hs=>
   have h3:=tu hs
   show (EG++61::L s).length≤_
   simp [EG];omega
  |Kv s hs=>
   have h3:=tu hs
   show (zu++61::L s).length≤_
   simp [zu];omega
  |vX k h1=>
   have h3:=uD ⟨k,by omega⟩
   simp only at h3
   show (sG++61::bM k).length≤_
   simp [sG];omega
  |vY k h1 h2=>
   have h3:=uD ⟨k,by omega⟩
   simp only at h3
   show (qA++61::bM k).length≤_
   simp [qA];omega
  |keys8 k h1 h2=>
   have h3:=Ak (m:=k)
   show (tK++61::dA k).length≤_
   simp [tK];omega
  |DK k h1 h2=>
   have h3:=Ak (m:=k)
   show (tJ++61::dA k).length≤_
   simp [tJ];omega
  |count f hf=>
   have h3:=oH (f:=f)
   show (uS++61::(ig++(textOf f++[41]))).length≤_
   simp [uS,ig];omega
  |DZ n m h1 h2 h3 h4=>
   have h5:=kV n (by omega) h2
   have h6:=kV m (by omega) h4
   show (uS++61::(Lib.itoa n++47::Lib.itoa m)).length≤_
   simp [uS];omega
  |Dt n m h1 h2 h3 h4=>
   have h5:=kV n h1 h2
   have h6:=kV m h3 h4
   show (zX++61::(Lib.itoa n++47::Lib.itoa m)).length≤_
   simp [zX];omega
def Eb (b off:Nat) (l:List Md) (w:World):Prop:=∀(k:Nat) (r:Md),l[k]? =some r→w.rangeAt b (off+k * 20) r.cells.toList
theorem Eb.keep {b off:Nat} {l:List Md} {w1 w2:World} (h:Eb b off l w1) (hb:Below w1.heap.size w1 w2):Eb b off l w2:=fun k r hk j v hj=>cell_below hb (h k r hk j v hj)
abbrev VB (b off:Nat) (l:List Md) (w:World):Prop:=Laid w∧Eb b off l w
theorem EU (b off:Nat) (l:List Md):∀w1 w2:World,VB b off l w1→Below w1.heap.size w1 w2→VB b off l w2:=fun _ _ h hb=>⟨h.1.below hb,h.2.keep hb⟩
theorem jk {ops:Array Oper} {rest:List Oper} {o:Oper} {a:Act} {w:World} {Q:Exit→Act→World→Prop} (T:Nat) {x:Operand} (ho:o.op= .load T x) (hw:Region.wanted o (yielded ops a.tmps)=true) {b p:Nat} (hx:a.eval x= .pointer (some ⟨b,p,none⟩)) {ds:Array Value} (hr:w.rangeAt b p ds.toList)
 {d:TypeDesc} (hu:Tryz.prog.underlying T=some d) (hd:d.isRow=true) (hi:(Tryz.prog.info? T).map (·.size)=some ds.size) (h:wpList Tryz.prog ops Q rest (a.put o.dst (.agg ds)) w):wpList Tryz.prog ops Q (o::rest) a w:=by
 unfold wpList
 rw [if_pos hw]
 exact .inl (wp_load_mid T x ho b p hx ds.toList d hr hu hd (by simpa using hi) (by simpa using h))
theorem YV (l:List Str) (A:Option Addr) (c base:Nat) (w:World) (h:Texts w base l (.slice A l.length c)) (hN:l.length≤100000000) (hlen:(Lib.join l [44,32]).length≤140737488355328):
 Calls Tryz.prog 41 #[.slice A l.length c, .string ⟨#[44,32]⟩] w fun e w'=>e= .returned (.string (B (Lib.join l [44,32])))∧Below w.heap.size w w':=by
 go_enter Tryz.func41,Tryz.ntmps41
 go_wp2_with (go_at_call 101;(with_reducible refine (tH _ _ _ _ _ _ h hN [44,32] rfl hlen).mono ?_);rintro e w2 ⟨rfl,hb2⟩)
 go_ret
 exact ⟨rfl,hb2⟩
theorem Gl:∀(l:List Str),(∀x∈l,x.length≤1000200)→(Lib.join l iK).length≤1000300 * l.length
 |[],_=>by simp [Lib.join_nil]
 |[a],h=>by rw [Lib.join_one];have:=h a (by simp);simp;omega
 |a::b::r,h=>by
  have ih:=Gl (b::r) (fun x hx=>h x (.tail _ hx))
  have ha:=h a (by simp)
  rw [fA]
  simp only [List.length_append,List.length_cons] at ih ⊢
  have:iK.length=2:=rfl
  omega
theorem AU (l:List Md) (k:Nat) (r:Md) (hr:l[k]? =some r):l.take (k+1)=l.take k++[r]:=by
 rw [List.take_succ,hr];rfl
theorem Xq (l:List Md) (b off c:Nat) (w0:World) (hl:VB b off l w0) (h0:l.length<1000000):Calls Tryz.prog 27 #[.slice (some ⟨b,off,none⟩) l.length c] w0 fun e w'=>e= .returned (.string (B (eH l)))∧Below w0.heap.size w0 w':=by
 obtain ⟨R,hR⟩:∃R,eH l=R:=⟨_,rfl⟩
 rw [hR]
 have HR:=Lib.hid hR
 clear hR
 have hS:=St.start hl (EU b off l)
 by_cases h1:1≤l.length∧l.length≤6
 ·obtain ⟨h1,h6⟩:=h1
  have hz1:decide ((l.length:Int)<1)=false:=by simp;omega
  have hz6:decide ((l.length:Int) > 6)=false:=by simp;omega
  have hz7:decide (6<(l.length:Int))=false:=by simp;omega
  go_enter Tryz.func27,Tryz.ntmps27
  go_wp2_with (first|fail)
  go_loopw [3,16] (fun tv iv wr=>∃(k:Nat) (v:Value),k≤l.length∧iv= .int .i64 k∧tv=v∧Hid ((l.take k).all iL=true)∧Hid (Texts wr w0.heap.size ((l.take k).map cu) v)∧Hid (Below w0.heap.size w0 wr)) (fun _ iv _=>l.length - (intOf iv).toNat)
  case atStart=>exact ⟨0, .slice none 0 0,by omega,rfl,rfl,Lib.hid rfl,Lib.hid (Texts.nil _ _),Lib.hid hS.below⟩
  case round=>
   clear hS
   obtain ⟨k,v,hk,rfl,rfl,HV,HT,HB⟩:=hrel
   have hS:=St.start (EU b off l _ _ hl HB.out) (EU b off l)
   have gU:=HB.out.size
   by_cases hlt:k<l.length
   ·obtain ⟨r,hr⟩:∃r,l[k]? =some r:=⟨l[k],List.getElem?_eq_getElem hlt⟩
    have HK:=Lib.hid hr
    have hln:((l.take k).map cu).length<1000000000:=by rw [List.length_map,List.length_take];omega
    cases hv:iL r with
    |false=>
     have HI:=Lib.hid hv.symm
     have HE:Hid (R=[]):=Lib.hid (by
      rw [←HR.out];unfold eH;rw [if_neg]
      rintro ⟨_,_,ha⟩
      have:=List.all_eq_true.1 ha r (List.mem_of_getElem? hr)
      rw [hv] at this;cases this)
     clear hr hv
     go_wp2_with (first|(go_at_call 71;(with_reducible refine (St.call hS fun hl=>ng _ _ HI _ hl.1).mono ?_);rintro e w ⟨rfl,hS⟩)|((with_reducible refine aC ?_);refine jk iw rfl rfl rfl (hS.laid.2 k r HK.out) Tryz.underlying56 rfl jQ ?_;(try simp only [ah,ak,au,ay,aA]))|((with_reducible refine aW ?_);(first|(refine aJ 56 rfl hS rfl _ jf ?_;intro g w hS));(try simp only [ah,ak,au,ay,aA]))|((with_reducible refine aC ?_);(first|(refine fD rfl hS rfl rfl (by repeat constructor) ?_));(try simp only [ah,ak,au,ay,aA]))|((with_reducible refine aN ?_);(first|(refine jM rfl hS rfl rfl rfl (by repeat constructor) ?_;intro w hS));(try simp only [ah,ak,au,ay,aA])))
     all_goals go_ret
     all_goals exact ⟨dL HE.out.symm,HB.out.trans (hS.below.mono gU)⟩
    |true=>
     have HI:=Lib.hid hv.symm
     obtain ⟨T,hT⟩:∃T,cu r=T:=⟨_,rfl⟩
     have Ie:=Lib.hid hT
     have Oh:Hid ((l.take (k+1)).all iL=true):=Lib.hid (by rw [AU l k r hr,List.all_append,HV.out];simp [hv])
     have HM:Hid ((l.take (k+1)).map cu=(l.take k).map cu++[L (B T)]):=Lib.hid (by rw [AU l k r hr,List.map_append,cO,←hT];rfl)
     clear hr hv hT
     go_wp2_with (first|(go_at_call 71;(with_reducible refine (St.call hS fun hl=>ng _ _ HI _ hl.1).mono ?_);rintro e w ⟨rfl,hS⟩)|(go_at_call 72;(with_reducible refine (St.call hS fun hl=>Jz _ _ Ie _ hl.1).mono ?_);rintro e w ⟨rfl,hS⟩)|((with_reducible refine aC ?_);refine jk iw rfl rfl rfl (hS.laid.2 k r HK.out) Tryz.underlying56 rfl jQ ?_;(try simp only [ah,ak,au,ay,aA]))|(at_builtin;refine dH rfl (.tmp 23) (.tmp 26) 73 rfl Tryz.underlying73 jB rfl rfl (HT.out.below hS.below) hln (Nat.le_trans gU hS.below.size) ?_;intro v' w2 hown2 hb2)|((with_reducible refine aW ?_);(first|(refine aJ 56 rfl hS rfl _ jf ?_;intro g w hS));(try simp only [ah,ak,au,ay,aA]))|((with_reducible refine aC ?_);(first|(refine fD rfl hS rfl rfl (by repeat constructor) ?_));(try simp only [ah,ak,au,ay,aA]))|((with_reducible refine aN ?_);(first|(refine jM rfl hS rfl rfl rfl (by repeat constructor) ?_;intro w hS));(try simp only [ah,ak,au,ay,aA])))
     have hown3:Texts w2 w0.heap.size ((l.take (k+1)).map cu) v':=by rw [HM.out];exact hown2
     have hb3:Below w0.heap.size w0 w2:=(HB.out.trans (hS.below.mono gU)).trans hb2
     go_roundw
     case rel=>exact ⟨k+1,v',by omega,by go_num,rfl,Oh,Lib.hid hown3,Lib.hid hb3⟩
     case measure=>simp [intOf];omega
   ·obtain rfl:k=l.length:=by omega
    have h2:=HT.out
    have h3:=HV.out
    rw [List.take_length] at h2 h3
    have hne:l≠[]:=fun e=>by rw [e] at h1;simp at h1
    have HE:Hid (R=Lib.join (l.map cu) [44,32]):=Lib.hid (by rw [←HR.out];unfold eH;rw [if_pos ⟨hne,h6,h3⟩];rfl)
    have hjl:(Lib.join (l.map cu) [44,32]).length≤140737488355328:=by
     have:=Gl (l.map cu) (fun x hx=>by
      obtain ⟨r,_,rfl⟩:=List.mem_map.1 hx
      exact DL r)
     rw [List.length_map] at this
     have e:iK=[44,32]:=rfl
     rw [e] at this;omega
    have hN:(l.map cu).length≤100000000:=by rw [List.length_map];omega
    obtain ⟨A2,c2,rfl,_⟩:=h2.form
    clear HT HV h3
    generalize l.map cu=ts at *
    have HT:=Lib.hid h2
    clear h2
    go_wp2_with (first|(go_at_call 41;(with_reducible refine (St.call hS fun hl=>YV _ _ _ _ _ HT.out hN hjl).mono ?_);rintro e w ⟨rfl,hS⟩))
    all_goals go_ret
    all_goals exact ⟨dL HE.out.symm,HB.out.trans (hS.below.mono gU)⟩
 ·have HE:Hid (R=[]):=Lib.hid (by
   rw [←HR.out];unfold eH;rw [if_neg];rintro ⟨a,b,_⟩;exact h1 ⟨List.length_pos_iff.2 a,b⟩)
  have h1':l.length=0∨6<l.length:=by omega
  rcases h1' with h1'|h1'
  ·have hz:((l.length:Int)<1)=True:=by simp;omega
   go_enter Tryz.func27,Tryz.ntmps27
   go_wp2_with (first|fail)
   all_goals go_ret
   all_goals exact ⟨dL HE.out.symm,hS.below⟩
  ·go_enter Tryz.func27,Tryz.ntmps27
   go_wp2_with (first|((with_reducible refine bG ?_);(first|(refine aS rfl ?_)|((fail_if_success refine fJ rfl ?_);refine iZ _ _ rfl rfl (fun hb=> ?_) (fun hb=> ?_)<;>(first|(obtain rfl:=eq_of_beq hb)|(simp only [hb]))));(try simp only [ah,ak,au,ay,aA])))
   all_goals go_ret
   all_goals exact ⟨dL HE.out.symm,hS.below⟩
theorem acP (l:List Md) (k:Nat) (r:Md) (hr:l[k]? =some r):Lib.join ((l.take (k+1)).map cu) iK=if k=0 then cu r else Lib.join ((l.take k).map cu) iK++(iK++cu r):=by
 rw [AU l k r hr,List.map_append,List.map_cons,List.map_nil,wG]
 have hlt:k<l.length:=by
  rcases Nat.lt_or_ge k l.length with h|h
  ·exact h
  ·rw [List.getElem?_eq_none h] at hr;cases hr
 by_cases h0:k=0
 ·subst h0;rw [if_pos (by simp),if_pos rfl]
 ·have:(l.take k).map cu≠[]:=fun e=>by
   have:=congrArg List.length e
   rw [List.length_map,List.length_take] at this;simp only [List.length_nil] at this;omega
  rw [if_neg this,if_neg h0,List.append_assoc]
theorem ajp (l:List Md) (k:Nat) (hk:k≤6):(Lib.join ((l.take k).map cu) iK).length≤7000000:=by
 have:=Gl ((l.take k).map cu) (fun x hx=>by
  obtain ⟨r,_,rfl⟩:=List.mem_map.1 hx
  exact DL r)
 rw [List.length_map,List.length_take] at this
 have h2:min k l.length≤6:=by omega
 have h3:1000300 * min k l.length≤1000300 * 6:=Nat.mul_le_mul_left _ h2
 omega
theorem Qc (l:List Md) (b off c:Nat) (w0:World) (hl:VB b off l w0) (h0:l.length<1000000):Calls Tryz.prog 32 #[.slice (some ⟨b,off,none⟩) l.length c] w0 fun e w'=>e= .returned (.string (B (eH l)))∧Below w0.heap.size w0 w':=by
 obtain ⟨R,hR⟩:∃R,eH l=R:=⟨_,rfl⟩
 rw [hR]
 have HR:=Lib.hid hR
 clear hR
 have hS:=St.start hl (EU b off l)
 by_cases h1:1≤l.length∧l.length≤6
 ·obtain ⟨h1,h6⟩:=h1
  have hz1:((l.length:Int)==0)=false:=by rw [beq_eq_false_iff_ne];omega
  have hz6:decide ((l.length:Int) > 6)=false:=by simp;omega
  have hz7:decide (6<(l.length:Int))=false:=by simp;omega
  go_enter Tryz.func32,Tryz.ntmps32
  go_wp2_with (first|fail)
  go_loopw [3,4] (fun sv iv wr=>∃(k:Nat) (p:Str),k≤l.length∧p.length≤7000000∧iv= .int .i64 k∧sv= .string (B p)∧Hid ((l.take k).all iL=true)∧Hid (Lib.join ((l.take k).map cu) iK=p)∧Hid (Below w0.heap.size w0 wr)) (fun _ iv _=>l.length - (intOf iv).toNat)
  case atStart=>exact ⟨0,[],by omega,by simp,rfl,rfl,Lib.hid rfl,Lib.hid rfl,Lib.hid hS.below⟩
  case round=>
   clear hS
   obtain ⟨k,p,hk,hp,rfl,rfl,HV,HP,HB⟩:=hrel
   have hS:=St.start (EU b off l _ _ hl HB.out) (EU b off l)
   have gU:=HB.out.size
   by_cases hlt:k<l.length
   ·obtain ⟨r,hr⟩:∃r,l[k]? =some r:=⟨l[k],List.getElem?_eq_getElem hlt⟩
    have HK:=Lib.hid hr
    cases hv:iL r with
    |false=>
     have HI:=Lib.hid hv.symm
     have HE:Hid (R=[]):=Lib.hid (by
      rw [←HR.out];unfold eH;rw [if_neg]
      rintro ⟨_,_,ha⟩
      have:=List.all_eq_true.1 ha r (List.mem_of_getElem? hr)
      rw [hv] at this;cases this)
     clear hr hv
     go_wp2_with (first|(go_at_call 84;(with_reducible refine (St.call hS fun hl=>ni _ _ HI _ hl.1).mono ?_);rintro e w ⟨rfl,hS⟩)|((with_reducible refine aC ?_);refine jk iw rfl rfl rfl (hS.laid.2 k r HK.out) Tryz.underlying56 rfl jQ ?_;(try simp only [ah,ak,au,ay,aA])))
     all_goals go_ret
     all_goals exact ⟨dL HE.out.symm,HB.out.trans (hS.below.mono gU)⟩
    |true=>
     have HI:=Lib.hid hv.symm
     obtain ⟨T,hT⟩:∃T,cu r=T:=⟨_,rfl⟩
     have Ie:=Lib.hid hT
     have hTl:=DL r
     rw [hT] at hTl
     have hj:=acP l k r hr
     rw [hT,HP.out] at hj
     have hjl:=ajp l (k+1) (by omega)
     have Oh:Hid ((l.take (k+1)).all iL=true):=Lib.hid (by rw [AU l k r hr,List.all_append,HV.out];simp [hv])
     clear hr hv hT
     by_cases hk0:k=0
     ·subst hk0
      rw [if_pos rfl] at hj
      rw [hj] at hjl
      have HJ:=Lib.hid hj
      have hp0:p=[]:=by rw [←HP.out];rfl
      subst hp0
      clear hj
      go_wp2_with (first|(go_at_call 84;(with_reducible refine (St.call hS fun hl=>ni _ _ HI _ hl.1).mono ?_);rintro e w ⟨rfl,hS⟩)|(go_at_call 85;(with_reducible refine (St.call hS fun hl=>Az _ _ Ie _ hl.1).mono ?_);rintro e w ⟨rfl,hS⟩)|((with_reducible refine aC ?_);refine jk iw rfl rfl rfl (hS.laid.2 0 r HK.out) Tryz.underlying56 rfl jQ ?_;(try simp only [ah,ak,au,ay,aA]))|((with_reducible refine jT ?_);(first|(refine eG rfl rfl rfl rfl (by first|(simp only [List.length_append,List.length_cons,List.length_nil];omega)|fail) ?_));(try simp only [ah,ak,au,ay,aA])))
      go_roundw
      case rel=>exact ⟨1,T,by omega,hjl,by go_num,by simp,Oh,HJ,Lib.hid (HB.out.trans (hS.below.mono gU))⟩
      case measure=>simp [intOf];omega
     ·rw [if_neg hk0] at hj
      rw [hj] at hjl
      have HJ:=Lib.hid hj
      have hk1:decide ((k:Int) > 0)=true:=by simp;omega
      have hk2:decide (0<(k:Int))=true:=by simp;omega
      clear hj
      go_wp2_with (first|(go_at_call 84;(with_reducible refine (St.call hS fun hl=>ni _ _ HI _ hl.1).mono ?_);rintro e w ⟨rfl,hS⟩)|(go_at_call 85;(with_reducible refine (St.call hS fun hl=>Az _ _ Ie _ hl.1).mono ?_);rintro e w ⟨rfl,hS⟩)|((with_reducible refine aC ?_);refine jk iw rfl rfl rfl (hS.laid.2 k r HK.out) Tryz.underlying56 rfl jQ ?_;(try simp only [ah,ak,au,ay,aA]))|((with_reducible refine jT ?_);(first|(refine eG rfl rfl rfl rfl (by first|(simp only [List.length_append,List.length_cons,List.length_nil];omega)|fail) ?_));(try simp only [ah,ak,au,ay,aA])))
      go_roundw
      case rel=>exact ⟨k+1,p++(iK++T),by omega,hjl,by go_num,by simp [iK],Oh,HJ,Lib.hid (HB.out.trans (hS.below.mono gU))⟩
      case measure=>simp [intOf];omega
   ·obtain rfl:k=l.length:=by omega
    have h2:=HP.out
    have h3:=HV.out
    rw [List.take_length] at h2 h3
    have hne:l≠[]:=fun e=>by rw [e] at h1;simp at h1
    have HE:Hid (R=p):=Lib.hid (by rw [←HR.out];unfold eH;rw [if_pos ⟨hne,h6,h3⟩];exact h2)
    clear h2 h3
    go_wp2_with (first|fail)
    all_goals go_ret
    all_goals exact ⟨dL HE.out.symm,HB.out.trans (hS.below.mono gU)⟩
 ·have HE:Hid (R=[]):=Lib.hid (by
   rw [←HR.out];unfold eH;rw [if_neg];rintro ⟨a,b,_⟩;exact h1 ⟨List.length_pos_iff.2 a,b⟩)
  have h1':l.length=0∨6<l.length:=by omega
  rcases h1' with h1'|h1'
  ·have hz:((l.length:Int)==0)=true:=by rw [beq_iff_eq];omega
   go_enter Tryz.func32,Tryz.ntmps32
   go_wp2_with (first|fail)
   all_goals go_ret
   all_goals exact ⟨dL HE.out.symm,hS.below⟩
  ·go_enter Tryz.func32,Tryz.ntmps32
   go_wp2_with (first|((with_reducible refine bG ?_);(first|(refine aS rfl ?_)|((fail_if_success refine fJ rfl ?_);refine iZ _ _ rfl rfl (fun hb=> ?_) (fun hb=> ?_)<;>(first|(obtain rfl:=eq_of_beq hb)|(simp only [hb]))));(try simp only [ah,ak,au,ay,aA])))
   all_goals go_ret
   all_goals exact ⟨dL HE.out.symm,hS.below⟩
theorem uQ {ops:Array Oper} {rest:List Oper} {o:Oper} {a:Act} {w w0:World} {Q:Exit→Act→World→Prop} {L:World→Prop} {rows:List Row} {T:Nat} {x:Operand} (ho:o.op= .buildSlice T 1 #[(0,x)]) (hS:St L w0 rows w) (hw:Region.wanted o (yielded ops a.tmps)=true) {v:Value} (hx:a.eval x=v) (cs:Array Value) (T':Nat)
 (hr:∀w,(Instr.buildSlice T 1 #[(0,v)]).run Tryz.prog w= .ok (.slice (some ⟨w.heap.size,0,none⟩) 1 1) (w.alloc (.cells cs T')))
 (h:∀g w',St L w0 ((g,cs,T')::rows) w'→wpList Tryz.prog ops Q rest (a.put o.dst (.slice (some ⟨g,0,none⟩) 1 1)) w'):wpList Tryz.prog ops Q (o::rest) a w:=
 jc hw fun K hK=>by
  unfold Oper.wp execOp
  simp [ho,hx,Sem.run_bind,hr,Result.andThen]
  exact hK _ _ (h _ _ (hS.alloc cs T'))
theorem sW {ops:Array Oper} {rest:List Oper} {a:Act} {w:World} {Q:Exit→Act→World→Prop} {dst:Option Tmp} {ty:TypeId} {pos:String} {af:Array Edge} {gd:Option (Nat × Bool)} {T k:Nat} {ps:Array (Nat × Operand)} (h:wpList Tryz.prog ops Q ((⟨dst, .buildSlice T k ps,ty,pos,af,gd⟩:Oper)::rest) a w):wpList Tryz.prog ops Q ((⟨dst, .buildSlice T k ps,ty,pos,af,gd⟩:Oper)::rest) a w:=h
theorem ak0 (cur:Str):fQ false cur []=[cur]:=by rw [fQ]
theorem ahP (cur r:Str) (c:UInt8):fQ true cur (c::r)=fQ false cur r:=by rw [fQ]
theorem akZ (cur r:Str) (h:r.head?=some 32):fQ false cur (44::r)=cur::fQ true [] r:=by rw [fQ,if_pos ⟨rfl,h⟩]
theorem drop_at {s:Str} {k:Nat} (h:k<s.length):s.drop k=s[k]::s.drop (k+1):=List.drop_eq_getElem_cons h
theorem yg {s:Str} {k:Nat} (h:k<s.length):aI s k=(s[k]).toNat:=by simp [aI,List.getD,h]
def RL (s:Str) (k g:Nat) (ms:List Md):Prop:=
 (∃pre,jV s=pre∧jS [] pre=some ms∧k=s.length+1)∨
 (∃pre,k≤s.length∧jV s=pre++fQ false ((s.take k).drop g) (s.drop k)∧g≤k∧jS [] pre=some ms)∨
 (∃pre,k<s.length∧aI s k=32∧jV s=pre++fQ true [] (s.drop k)∧g=k+1∧jS [] pre=some ms)
theorem RL.start (s:Str):RL s 0 0 []:= .inr (.inl ⟨[],by omega,by simp [jV],by omega,rfl⟩)
theorem RL.out {s:Str} {g:Nat} {ms:List Md} (h:RL s (s.length+1) g ms):fF s=some ms:=by
 rcases h with ⟨pre,h1,h2,_⟩|⟨_,h,_⟩|⟨_,h,_⟩
 ·unfold fF;rw [h1];exact h2
 ·omega
 ·omega
theorem RL.skip {s:Str} {k:Nat} {ms:List Md} (h:RL s k (k+1) ms) (hk:k≤s.length):k<s.length∧aI s k=32∧RL s (k+1) (k+1) ms:=by
 rcases h with ⟨pre,h1,h2,_⟩|⟨pre,h,_,h2,_⟩|⟨pre,h1,h2,h3,_,h4⟩
 ·omega
 ·omega
 ·refine ⟨h1,h2, .inr (.inl ⟨pre,h1,?_,by omega,h4⟩)⟩
  have e:(s.take (k+1)).drop (k+1)=[]:=List.drop_eq_nil_of_le (by rw [List.length_take];omega)
  rw [h3,drop_at h1,ahP,e]
theorem RL.cut {s:Str} {k g:Nat} {ms:List Md} (h:RL s k g ms) (hg:g≤k) (hk:k≤s.length) (hc:k=s.length∨(aI s k=44∧k+1<s.length∧aI s (k+1)=32)):
 (iJ ((s.take k).drop g)=none∨ms.length=6→fF s=none)∧(∀m,iJ ((s.take k).drop g)=some m→¬ms.length=6→(k=s.length→RL s (k+1) (k+2) (ms++[m]))∧(k<s.length→RL s (k+1) (k+2) (ms++[m]))):=by
 rcases h with ⟨pre,h1,h2,_⟩|⟨pre,h1,h2,_,h4⟩|⟨pre,h1,h2,h3,_,h4⟩
 ·omega
 ·obtain ⟨rest,hr⟩:∃rest,jV s=pre++((s.take k).drop g)::rest∧(k=s.length→rest=[])∧(k<s.length→rest=fQ true [] (s.drop (k+1))):=by
   rcases hc with rfl|⟨c1,c2,c3⟩
   ·refine ⟨[],?_,fun _=>rfl,fun h=>by omega⟩
    rw [h2,List.drop_length,ak0]
   ·have hk':k<s.length:=by omega
    refine ⟨fQ true [] (s.drop (k+1)),?_,fun h=>by omega,fun _=>rfl⟩
    have e1:s[k]=44:=by rw [yg hk'] at c1;exact UInt8.toNat_inj.1 c1
    have e2:s[k+1]=32:=by rw [yg c2] at c3;exact UInt8.toNat_inj.1 c3
    rw [h2,drop_at hk',e1,akZ _ _ (by rw [drop_at c2,e2];rfl)]
  obtain ⟨hr,hr1,hr2⟩:=hr
  refine ⟨fun hb=> ?_,fun m hm h6=> ?_⟩
  ·unfold fF
   rw [hr,zN pre [] ms _ h4]
   exact JH ms _ rest hb
  ·have hrun:jS [] (pre++[(s.take k).drop g])=some (ms++[m]):=by rw [zN pre [] ms _ h4];exact Ug ms _ m hm h6
   refine ⟨fun e=> .inl ⟨_,?_,hrun,by omega⟩,fun h=> ?_⟩
   ·rw [hr,hr1 e]
   ·rcases hc with e|⟨c1,c2,c3⟩
    ·omega
    ·exact .inr (.inr ⟨_,c2,c3,by rw [hr,hr2 h,List.append_assoc];rfl,rfl,hrun⟩)
 ·omega
theorem Uf:∀(l:List Md) (k:Nat) (r:Md) (j:Nat) (v:Value),l[k]? =some r→r.cells.toList[j]? =some v→(nZ l)[k * 20+j]? =some v
 |[],k,r,j,v,h,_=>by simp at h
 |a::l,0,r,j,v,h,hj=>by
  have e:a=r:=by simpa using h
  subst e
  have hl:j<a.cells.toList.length:=by
   rcases Nat.lt_or_ge j a.cells.toList.length with h'|h'
   ·exact h'
   ·rw [List.getElem?_eq_none h'] at hj;cases hj
  rw [Nat.zero_mul,Nat.zero_add,nZ,List.flatMap_cons,List.getElem?_append_left hl];exact hj
 |a::l,k+1,r,j,v,h,hj=>by
  have ih:=Uf l k r j v (by simpa using h) hj
  have hl:a.cells.toList.length=20:=rfl
  rw [nZ,List.flatMap_cons,List.getElem?_append_right (by rw [hl];omega),hl,show (k+1) * 20+j - 20=k * 20+j by omega]
  exact ih
theorem afT {w:World} {b:Nat} {v:Value} {l:List Md} (h:w.ownsRow b iw 20 v l.length (nZ l)) (hne:l≠[]):∃g c,v= .slice (some ⟨g,0,none⟩) l.length c∧Eb g 0 l w:=by
 rcases h.2 with ⟨_,h0⟩|⟨g,cap,cur,rfl,hb,hg,hn,hcap,hcs,htk⟩
 ·exact absurd (List.length_eq_zero_iff.1 h0) hne
 ·refine ⟨g,cap,rfl,fun k r hk j u hj=> ?_⟩
  have hlt:k<l.length:=by
   rcases Nat.lt_or_ge k l.length with h'|h'
   ·exact h'
   ·rw [List.getElem?_eq_none h'] at hk;cases hk
  have acF:j<20:=by
   rcases Nat.lt_or_ge j r.cells.toList.length with h'|h'
   ·exact h'
   ·rw [List.getElem?_eq_none h'] at hj;cases hj
  rw [cell_of_row w g _ cur iw (0,0) hg]
  have e:=Uf l k r j u hk hj
  rw [←htk,List.getElem?_take] at e
  have:k * 20+j<l.length * 20:=by
   have:(k+1) * 20≤l.length * 20:=Nat.mul_le_mul_right _ hlt
   omega
  rw [if_pos this] at e
  rw [show 0+k * 20+j=k * 20+j by omega]
  simpa using e
theorem Xt (A:Option Addr) (c:Nat) (w:World):Calls Tryz.prog 27 #[.slice A 0 c] w fun e w'=>e= .returned (.string (B []))∧w=w':=by
 go_enter Tryz.func27,Tryz.ntmps27
 go_wp2
 go_ret
 exact ⟨rfl,rfl⟩
theorem Qe (A:Option Addr) (c:Nat) (w:World):Calls Tryz.prog 32 #[.slice A 0 c] w fun e w'=>e= .returned (.string (B []))∧w=w':=by
 go_enter Tryz.func32,Tryz.ntmps32
 go_wp2
 go_ret
 exact ⟨rfl,rfl⟩
end Go.Proofs.YtdicgggkdmkklaaGreatDoor
