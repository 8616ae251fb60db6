/- Regions that draw their order: some operations (in any order) leave one value each, the others follow one behind the other; both lists given by their numbers. Conditions: none. Regions that draw th -/
import Derived.Test.YtdicgggkdmkklaaGreatDoorMEMem
import Derived.Test.YtdicgggkdmkklaaGreatDoorQ3
set_option linter.all false
set_option maxRecDepth 100000
set_option maxHeartbeats 16000000
namespace Go.Proofs.YtdicgggkdmkklaaGreatDoor
open Go.ChangeShapes Go.WideShapes Go.RowKit
section
variable {P:Program} {ops:Array Oper} {Q:Exit→Act→World→Prop} {q:Nat}
inductive aoT (P:Program) (ops:Array Oper) (Q:Exit→Act→World→Prop) (S:World→Prop) (q:Nat) (E:Act→Prop):List Nat→List Oper→Act→Prop
 |nil {a} :E a→aoT P ops Q S q E [] [] a
 |pure {i is o rest a} (v:Value):(∀c a w,Q (.panic c) (a.put o.dst v) w→Q (.panic c) a w)→yS P ops o v a→aoT P ops Q S q E is rest (a.put o.dst v)→aoT P ops Q S q E (i::is) (o::rest) a
 |read {i is o rest a} (v:Value):(∀c a w,Q (.panic c) (a.put o.dst v) w→Q (.panic c) a w)→reach ops 6 q i=true→zF P ops S o v a→aoT P ops Q S q E is rest (a.put o.dst v)→aoT P ops Q S q E (i::is) (o::rest) a
def apv:List Nat→Array Bool→Array Bool
 |[],listed=>listed
 |i::is,listed=>apv is (listed.setIfInBounds i true)
def asB (ops:Array Oper):List Nat→Array Bool→Bool
 |[],listed=>(Region.ready .any ops listed).isEmpty
 |i::is,listed=>Region.ready .any ops listed==[i]&&(decide (i<listed.size)&&asB ops is (listed.setIfInBounds i true))
theorem avo {F:Array Bool→Act→World→Prop} :∀(is:List Nat) (l:List Oper) (listed:Array Bool) (a:Act) (w:World),(is.map fun i=>ops[i]?)=l.map some→(is.head?=some q∨listed.getD q true=true)→asB ops is listed=true→wpList P ops Q l a w→WF P .any ops Q F q l.length listed a w
 |[],l,listed,a,w,hl,_,hc,h=>by
  obtain rfl:l=[]:=by simpa using hl.symm
  refine ⟨by simpa [asB] using hc,?_⟩
  unfold wpList at h;exact h
 |i::is,[],listed,a,w,hl,_,_,_=>by simp at hl
 |i::is,o::rest,listed,a,w,hl,hq,hc,h=>by
  simp only [asB,Bool.and_eq_true,beq_iff_eq,decide_eq_true_eq] at hc
  obtain ⟨h1,hsz,h2⟩:=hc
  simp only [List.map_cons,List.cons.injEq] at hl
  have hi:ops[i]? =some o:=hl.1
  have hq1:(listed.setIfInBounds i true).getD q true=true:=by
   rcases hq with hq|hq
   ·obtain rfl:i=q:=by simpa using hq
    simp [hsz]
   ·by_cases e:i=q
    ·subst e;simp [hsz]
    ·rw [getD_set_ne true e];exact hq
  refine ⟨fun e=>(by rw [h1] at e;cases e),fun j hj=> ?_⟩
  rw [h1] at hj
  obtain rfl:j=i:=by simpa using hj
  have h3:wpOp P ops Q j (fun a' w'=>wpList P ops Q rest a' w') a w:=by
   unfold wpOp
   rw [hi]
   simp only
   unfold wpList at h
   exact h
  exact wpOp_mono (fun a' w' h'=>⟨fun _=>avo is rest _ a' w' hl.2 (.inr hq1) h2 h',fun e=>by rw [hq1] at e;cases e⟩) h3
end
section
variable {L:World→Prop} {w0 w:World} {rows:List Row} {Q:Exit→Act→World→Prop} {a:Act}
variable {ops:Array Oper} {q i:Nat} {is:List Nat} {rest:List Oper} {o:Oper} {a':Act} {E:Act→Prop}
end
end Go.Proofs.YtdicgggkdmkklaaGreatDoor
namespace Go.Proofs.YtdicgggkdmkklaaGreatDoor
open Go.ChangeShapes Go.WideShapes Go.RowKit
section
variable {P:Program} {ops:Array Oper} {Q:Exit→Act→World→Prop} {q:Nat}
inductive aj0 (P:Program) (ops:Array Oper) (Q:Exit→Act→World→Prop) {ι:Type} (S:ι→World→Prop) (q:Nat) (E:Act→Prop):List Nat→List Oper→Act→Prop
 |nil {a} :E a→aj0 P ops Q S q E [] [] a
 |pure {i is o rest a} (v:Value):(∀c a w,Q (.panic c) (a.put o.dst v) w→Q (.panic c) a w)→yS P ops o v a→aj0 P ops Q S q E is rest (a.put o.dst v)→aj0 P ops Q S q E (i::is) (o::rest) a
 |read {i is o rest a} (v:Value):(∀c a w,Q (.panic c) (a.put o.dst v) w→Q (.panic c) a w)→reach ops 6 q i=true→(∀x,zF P ops (S x) o v a)→aj0 P ops Q S q E is rest (a.put o.dst v)→aj0 P ops Q S q E (i::is) (o::rest) a
def arD (ops:Array Oper) (p q dp:Nat):List Nat→Array Bool→Bool
 |[],_=>true
 |i::is,listed=>i != p&&(i != q&&((match ops[i]? with|some o=>o.dst != some dp|none=>false)&&(Region.free .any ops listed i&&((Region.ready .any ops listed).contains i&&arD ops p q dp is (listed.setIfInBounds i true)))))
theorem au1 {ι:Type} {S:ι→World→Prop} {E:Act→Prop} {p dp:Nat} {F:Array Bool→Act→World→Prop} (hs:Region.noSelect ops=true) (hS:∀listed a w,listed.getD q true=false→F listed a w→∃x,S x w∧∀w',S x w'→F listed a w')
 (hB:∀i d v,i≠p→i≠q→d≠some dp→abG F q i d v) (k0:Nat):∀(is:List Nat) (l:List Oper) (listed:Array Bool) (a:Act),Closed .any ops listed→listed.getD q true=false→(is.map fun i=>ops[i]?)=l.map some→arD ops p q dp is listed=true→
  (∀a,E a→∀w,F (apv is listed) a w→WF P .any ops Q F q k0 (apv is listed) a w)→aj0 P ops Q S q E is l a→∀w,F listed a w→WF P .any ops Q F q (k0+l.length) listed a w
 |[],_,listed,a,_,_,_,_,hE,h=>by
  cases h with
  |nil h=>exact hE a h
 |i::is,l,listed,a,hcl,hq0,hl,ho,hE,h=>by
  simp only [arD,Bool.and_eq_true,bne_iff_ne,ne_eq] at ho
  obtain ⟨hp,hq,hd,hf,hr,ho⟩:=ho
  have hq1:(listed.setIfInBounds i true).getD q true=false:=by rw [getD_set_ne true hq];exact hq0
  have aoc:Closed .any ops (listed.setIfInBounds i true):=hcl.set (by simpa using hr)
  cases h with
  | @pure _ _ o rest _ v hQ hy h=>
    simp only [List.map_cons,List.cons.injEq] at hl
    have hi:ops[i]? =some o:=hl.1
    rw [hi] at hd
    have hd:o.dst≠some dp:=by simpa using hd
    have ih:=au1 hs hS hB k0 is rest (listed.setIfInBounds i true) (a.put o.dst v) aoc hq1 hl.2 ho hE h
    intro w hw
    exact ag4 hi hq (Region.noSelect_spec hs) hQ (hB i o.dst v hp hq hd) (k0+rest.length) listed a w (Region.free_spec hi hf) (by simpa using hr) hy (fun _=>hw) (ih w ((hB i o.dst v hp hq hd listed a w).2 hw)) (fun _ w' hw'=>ih w' hw')
  | @read _ _ o rest _ v hQ hwt hy h=>
    simp only [List.map_cons,List.cons.injEq] at hl
    have hi:ops[i]? =some o:=hl.1
    rw [hi] at hd
    have hd:o.dst≠some dp:=by simpa using hd
    have ih:=au1 hs hS hB k0 is rest (listed.setIfInBounds i true) (a.put o.dst v) aoc hq1 hl.2 ho hE h
    exact adD hi hq (Region.noSelect_spec hs) hQ (hB i o.dst v hp hq hd) (fun listed hc hl=>ado hwt listed hc hl) S hS (k0+rest.length) listed a hcl (Region.free_spec hi hf) (by simpa using hr) hy hq0 ih
def FJ (S:List Row→World→Prop) (p q:Nat) (dp:Tmp) (sh:Nat→Value) (z:Array Value) (T:Nat) (listed:Array Bool) (a:Act) (w:World):Prop:=
 if listed.getD q true=true then True else if listed.getD p true=true then ∃g,a.tmps.getD dp undef=sh g∧S [(g,z,T)] w else S [] w
end
section
variable {L:World→Prop} {w0 w:World} {rows:List Row} {Q:Exit→Act→World→Prop} {a:Act}
theorem axK {id:Nat} {l:List Oper} (hd tl:List Nat) (p q dp:Nat) (sh:Nat→Value) (hsh:∀g g',sh g=sh g'→g=g') (z:Array Value) (T:Nat) (hS:St L w0 rows w) {lh lt:List Oper} {o:Oper} (h1:(hd.map fun i=>l.toArray[i]?)=lh.map some) (hi:l.toArray[p]? =some o) (hdst:o.dst=some dp) (hgd:o.guard=none)
 (h2:(tl.map fun i=>l.toArray[i]?)=lt.map some) (hqt:tl.head?=some q) (hlen:lt.length+1+lh.length=l.length) (hpq:(p==q)=false)
 (hs:Region.noSelect l.toArray=true) (ho:arD l.toArray p q dp hd (Array.replicate l.length false)=true) (hq:(apv hd (Array.replicate l.length false)).getD q true=false) (hp:(apv hd (Array.replicate l.length false)).getD p true=false)
 (hr:Region.ready .any l.toArray (apv hd (Array.replicate l.length false))=[p]) (hc:asB l.toArray tl ((apv hd (Array.replicate l.length false)).setIfInBounds p true)=true) (hpn:((apv hd (Array.replicate l.length false)).setIfInBounds p true).getD p true=true)
 (hq0:(Array.replicate l.length false).getD q true=false) (hp0:(Array.replicate l.length false).getD p true=false)
 (h:aj0 Tryz.prog l.toArray Q (SX L w0 rows (some (z,T))) q (fun a=>dp<a.tmps.size∧(∀w,(execOp a.eval o).run Tryz.prog w= .ok (.value (sh w.heap.size)) (w.alloc (.cells z T)))∧∀g w,St L w0 ((g,z,T)::rows) w→wpList Tryz.prog l.toArray Q lt (a.put (some dp) (sh g)) w) hd lh a):(Code.region id l.toArray true).wp Tryz.prog Q a w:=by
 have hpq:p≠q:=by simpa using hpq
 have h1':=au1 (p:=p) (dp:=dp) (F:=FJ (fun X=>St L w0 (rows++X)) p q dp sh z T) hs
  (fun listed a w hq hf=>by
   unfold FJ at hf ⊢
   simp only [hq,Bool.false_eq_true,if_false] at hf ⊢
   split at hf
   ·rename_i hpl
    obtain ⟨g,hg,hs'⟩:=hf
    exact ⟨some g,hs',fun w' hw'=>by simp only [hpl,if_true];exact ⟨g,hg,hw'⟩⟩
   ·rename_i hpl
    exact ⟨none,show St L w0 rows w by simpa using hf,fun w' (hw':St L w0 rows w')=>by rw [if_neg hpl];simpa using hw'⟩)
  (fun i d v hpi hqi hd listed a w=>by
   unfold FJ
   rw [getD_set_ne true hqi,getD_set_ne true hpi]
   have e:(a.put d v).tmps.getD dp undef=a.tmps.getD dp undef:=by
    cases d with
    |none=>rfl
    |some d=>
     have hne:d≠dp:=fun e=>hd (by rw [e])
     show (a.tmps.setIfInBounds d v).getD dp undef=_
     simp [Array.getD_eq_getD_getElem?,Array.getElem?_setIfInBounds,hne]
   rw [e]) (lt.length+1) hd lh (Array.replicate l.length false) a (Ed _ _) hq0 h1 ho
  (fun a he w hf=>by
   unfold FJ at hf
   simp only [hq,hp,Bool.false_eq_true,if_false,List.append_nil] at hf
   refine ⟨fun e=>(by rw [hr] at e;cases e),fun j hj=> ?_⟩
   rw [hr] at hj
   obtain rfl:j=p:=by simpa using hj
   have hq2:((apv hd (Array.replicate l.length false)).setIfInBounds j true).getD q true=false:=by rw [getD_set_ne true hpq];exact hq
   have hw:Region.wanted o (yielded l.toArray a.tmps)=true:=by simp [Region.wanted,hgd]
   obtain ⟨hsz,hrun,he⟩:=he
   unfold wpOp
   rw [hi]
   simp only
   rw [if_pos hw]
   left
   unfold Oper.wp
   rw [hrun w]
   have key:∀g,(a.put (some dp) (sh g)).tmps.getD dp undef=sh g:=fun g=>by
    show (a.tmps.setIfInBounds dp _).getD dp undef=_
    simp [hsz]
   show (_→_)∧(_→_)
   rw [hdst]
   refine ⟨fun e=>(by rw [hq2] at e;cases e),fun _=>⟨?_,fun w'' xq=> ?_⟩⟩
   ·unfold FJ
    simp only [hq2,hpn,Bool.false_eq_true,if_false,if_true]
    exact ⟨w.heap.size,key _,(hf.alloc z T).adJ⟩
   ·unfold FJ at xq
    simp only [hq2,hpn,Bool.false_eq_true,if_false,if_true] at xq
    obtain ⟨g,hg,hs'⟩:=xq
    obtain rfl:=hsh _ _ ((key w.heap.size).symm.trans hg)
    exact avo tl lt _ _ w'' h2 (.inl hqt) hc (he _ w'' hs'.rot)) h
 refine wp_region_any Tryz.follows_mixed ?_
 rw [hlen] at h1'
 have:=qF _ _ _ _ (h1' w.drew (by unfold FJ;simp only [hq0,hp0,Bool.false_eq_true,if_false,List.append_nil];exact hS.drew))
 simpa using this
variable {ops:Array Oper} {q i:Nat} {is:List Nat} {rest:List Oper} {o:Oper} {a':Act} {E:Act→Prop} {e:Option (Array Value × Nat)}
theorem azB (h:aj0 Tryz.prog ops Q (SX L w0 rows e) q E (i::is) (o::rest) a):aj0 Tryz.prog ops Q (SX L w0 rows e) q E (i::is) (o::rest) a:=h
theorem awX {v:Value} (hw:Region.wanted o (yielded ops a.tmps)=true) (hwt:reach ops 6 q i=true) (hy:∀X w,St L w0 (rows++X) w→(execOp a.eval o).run Tryz.prog w= .ok (.value v) w) (hq:∀c a w,Q (.panic c) (a.put o.dst v) w→Q (.panic c) a w) (ha:a.put o.dst v=a')
 (h:aj0 Tryz.prog ops Q (SX L w0 rows e) q E is rest a'):aj0 Tryz.prog ops Q (SX L w0 rows e) q E (i::is) (o::rest) a:=by
 subst ha
 exact .read v hq hwt (fun x=> .inl ⟨hw,fun w hS=>by
  obtain ⟨X,h1,h2⟩:=hS.get
  rw [hy X w h1];exact ⟨rfl,hS⟩⟩) h
theorem aCA {k:Nat} {args:Array Value} {v:Value} (hw:Region.wanted o (yielded ops a.tmps)=true) (hwt:reach ops 6 q i=true) (hy:∀w,(execOp a.eval o).run Tryz.prog w= .ok (.enter k args) w) (hc:mG k args L v) (hq:∀c a w,Q (.panic c) (a.put o.dst v) w→Q (.panic c) a w) (ha:a.put o.dst v=a')
 (h:aj0 Tryz.prog ops Q (SX L w0 rows e) q E is rest a'):aj0 Tryz.prog ops Q (SX L w0 rows e) q E (i::is) (o::rest) a:=by
 subst ha
 exact .read v hq hwt (fun x=> .inl ⟨hw,fun w hS=>by
  obtain ⟨X,h1,h2⟩:=hS.get
  rw [hy w];exact (h1.call (hc.c w)).mono fun _ _ h'=>⟨h'.1,h2 _ h'.2⟩⟩) h
theorem aCB {v:Value} (hw:Region.wanted o (yielded ops a.tmps)=true) (hy:∀w,(execOp a.eval o).run Tryz.prog w= .ok (.value v) w) (hq:∀c a w,Q (.panic c) (a.put o.dst v) w→Q (.panic c) a w) (ha:a.put o.dst v=a')
 (h:aj0 Tryz.prog ops Q (SX L w0 rows e) q E is rest a'):aj0 Tryz.prog ops Q (SX L w0 rows e) q E (i::is) (o::rest) a:=by
 subst ha
 exact .pure v hq (.inl ⟨hw,hy⟩) h
theorem aC7 (h:E a):aj0 Tryz.prog ops Q (SX L w0 rows e) q E [] [] a:= .nil h
end
theorem s9 {G R:Prop} (k:R) (h:R→G:=by
 intro k
 (with_reducible refine azB ?_)
 first
 |exact awX rfl (by decide +kernel) (fun X=>ape (by rfl) (by rfl) (cZ.app (by repeat constructor) X) (by infer_instance)) (fun _ _ _ h=>h) (by simp only [ah,ak,au,ay,aA];exact rfl) k
 |exact awX rfl (by decide +kernel) (fun X=>apd (by rfl) (by rfl) (cZ.app (by repeat constructor) X) (by rfl) (by rfl) (by exact rfl)) (fun _ _ _ h=>h) (by simp only [ah,ak,au,ay,aA];exact rfl) k
 |exact awX rfl (by decide +kernel) (fun X=>agD (by rfl) (by rfl) (cZ.app (by repeat constructor) X) (by assumption) (by first|decide|omega)) (fun _ _ _ h=>h) (by simp only [ah,ak,au,ay,aA];exact rfl) k
 |exact aCA rfl (by decide +kernel) (by intro w;go_simp;first|with_reducible rfl|exact ⟨rfl,rfl⟩) (by infer_instance) (fun _ _ _ h=>h) (by simp only [ah,ak,au,ay,aA];exact rfl) k
 |exact aCB rfl (by intro w;go_simp;with_reducible rfl) (fun _ _ _ h=>h) (by simp only [ah,ak,au,ay,aA];exact rfl) k):G:=h k
end Go.Proofs.YtdicgggkdmkklaaGreatDoor
namespace Go.Proofs.YtdicgggkdmkklaaGreatDoor
open Go.ChangeShapes Go.WideShapes Go.RowKit
def aDa (Q:Exit→Act→World→Prop) (K:Act→World→Prop):Exit→Act→World→Prop
 | .normal=>K
 |e=>Q e
def az2 (S S':World→Prop) (p q:Nat) (listed:Array Bool) (w:World):Prop:=
 if listed.getD q true=true then True else if listed.getD p true=true then S' w else S w
section
variable {L:World→Prop} {w0 w:World} {rows rows':List Row} {Q:Exit→Act→World→Prop} {a:Act}
def ayS (L:World→Prop) (w0:World) (rows rows':List Row):Bool→World→Prop
 |false=>St L w0 rows
 |true=>St L w0 rows'
theorem aq7 {id:Nat} {l:List Oper} (hd tl:List Nat) (p q g off T:Nat) (v:Value) (hS:St L w0 rows w) {cs new:Array Value} {T':Nat} (hm:jq g cs new T' rows rows') (hput:Put cs off T v new) {lh lt:List Oper} {o:Oper} (h1:(hd.map fun i=>l.toArray[i]?)=lh.map some) (hi:l.toArray[p]? =some o)
 (h2:(tl.map fun i=>l.toArray[i]?)=lt.map some) (hqt:tl.head?=some q) (hlen:lt.length+1+lh.length=l.length) (hpq:(p==q)=false) {x y:Operand} (hop:o.op= .store T x y) (hdst:o.dst=none) (hgd:o.guard=none)
 (hs:Region.noSelect l.toArray=true) (ho:arD l.toArray p q 1000000 hd (Array.replicate l.length false)=true) (hq:(apv hd (Array.replicate l.length false)).getD q true=false) (hp:(apv hd (Array.replicate l.length false)).getD p true=false)
 (hr:Region.ready .any l.toArray (apv hd (Array.replicate l.length false))=[p]) (hc:asB l.toArray tl ((apv hd (Array.replicate l.length false)).setIfInBounds p true)=true) (hpn:((apv hd (Array.replicate l.length false)).setIfInBounds p true).getD p true=true)
 (hq0:(Array.replicate l.length false).getD q true=false) (hp0:(Array.replicate l.length false).getD p true=false)
 (h:aj0 Tryz.prog l.toArray Q (ayS L w0 rows rows') q (fun a=>(a.eval x= .pointer (some ⟨g,off,none⟩)∧a.eval y=v)∧∀w,St L w0 rows' w→wpList Tryz.prog l.toArray Q lt a w) hd lh a):(Code.region id l.toArray true).wp Tryz.prog Q a w:=by
 have hpq:p≠q:=by simpa using hpq
 have h1':=au1 (p:=p) (dp:=1000000) (F:=fun listed _ w=>az2 (St L w0 rows) (St L w0 rows') p q listed w) hs
  (fun listed a w hq hf=>by
   unfold az2 at hf ⊢
   simp only [hq,Bool.false_eq_true,if_false] at hf ⊢
   split at hf
   ·rename_i hpl
    exact ⟨true,hf,fun w' hw'=>by simp only [hpl,if_true];exact hw'⟩
   ·rename_i hpl
    exact ⟨false,hf,fun w' hw'=>by rw [if_neg hpl];exact hw'⟩)
  (fun i d v hpi hqi hd listed a w=>by
   simp only [az2,getD_set_ne true hqi,getD_set_ne true hpi]) (lt.length+1) hd lh (Array.replicate l.length false) a (Ed _ _) hq0 h1 ho
  (fun a he w hf=>by
   unfold az2 at hf
   simp only [hq,hp,Bool.false_eq_true,if_false] at hf
   refine ⟨fun e=>(by rw [hr] at e;cases e),fun j hj=> ?_⟩
   rw [hr] at hj
   obtain rfl:j=p:=by simpa using hj
   have hq2:((apv hd (Array.replicate l.length false)).setIfInBounds j true).getD q true=false:=by rw [getD_set_ne true hpq];exact hq
   have hw:Region.wanted o (yielded l.toArray a.tmps)=true:=by simp [Region.wanted,hgd]
   obtain ⟨⟨hx,hy⟩,he⟩:=he
   have step:wpList Tryz.prog l.toArray (aDa Q fun a' w'=>a'=a∧St L w0 rows' w') [o] a w:=
    bF hop hf hw hx hy hm hput.fit hput.new hput.info hput.one fun w' hS'=>by
     unfold wpList
     exact ⟨by rw [hdst];rfl,hS'⟩
   have h3:wpOp Tryz.prog l.toArray Q j (fun a' w'=>a'=a∧St L w0 rows' w') a w:=by
    unfold wpOp
    rw [hi]
    simp only
    unfold wpList at step
    exact step
   refine wpOp_mono (fun a' w' h'=> ?_) h3
   obtain ⟨rfl,hS'⟩:=h'
   refine ⟨fun e=>(by rw [hq2] at e;cases e),fun _=>⟨?_,fun w'' xq=> ?_⟩⟩
   ·unfold az2
    simp only [hq2,hpn,Bool.false_eq_true,if_false,if_true]
    exact hS'
   ·unfold az2 at xq
    simp only [hq2,hpn,Bool.false_eq_true,if_false,if_true] at xq
    exact avo tl lt _ _ w'' h2 (.inl hqt) hc (he w'' xq)) h
 refine wp_region_any Tryz.follows_mixed ?_
 rw [hlen] at h1'
 have:=qF _ _ _ _ (h1' w.drew (by unfold az2;simp only [hq0,hp0,Bool.false_eq_true,if_false];exact hS.drew))
 simpa using this
variable {ops:Array Oper} {q i:Nat} {is:List Nat} {rest:List Oper} {o:Oper} {a':Act} {E:Act→Prop}
theorem azC (h:aj0 Tryz.prog ops Q (ayS L w0 rows rows') q E (i::is) (o::rest) a):aj0 Tryz.prog ops Q (ayS L w0 rows rows') q E (i::is) (o::rest) a:=h
theorem azl {v:Value} (hw:Region.wanted o (yielded ops a.tmps)=true) (hwt:reach ops 6 q i=true) (hy:∀w,St L w0 rows w→(execOp a.eval o).run Tryz.prog w= .ok (.value v) w) (hy2:∀w,St L w0 rows' w→(execOp a.eval o).run Tryz.prog w= .ok (.value v) w) (hq:∀c a w,Q (.panic c) (a.put o.dst v) w→Q (.panic c) a w) (ha:a.put o.dst v=a')
 (h:aj0 Tryz.prog ops Q (ayS L w0 rows rows') q E is rest a'):aj0 Tryz.prog ops Q (ayS L w0 rows rows') q E (i::is) (o::rest) a:=by
 subst ha
 exact .read v hq hwt (fun b=> .inl ⟨hw,fun w hS=>by
  cases b with
  |false=>rw [hy w hS];exact ⟨rfl,hS⟩
  |true=>rw [hy2 w hS];exact ⟨rfl,hS⟩⟩) h
theorem aCC {v:Value} (hw:Region.wanted o (yielded ops a.tmps)=true) (hy:∀w,(execOp a.eval o).run Tryz.prog w= .ok (.value v) w) (hq:∀c a w,Q (.panic c) (a.put o.dst v) w→Q (.panic c) a w) (ha:a.put o.dst v=a')
 (h:aj0 Tryz.prog ops Q (ayS L w0 rows rows') q E is rest a'):aj0 Tryz.prog ops Q (ayS L w0 rows rows') q E (i::is) (o::rest) a:=by
 subst ha
 exact .pure v hq (.inl ⟨hw,hy⟩) h
theorem aAW {x y:Operand} {v:Value} {g off:Nat} {lt:List Oper} (hx:a.eval x= .pointer (some ⟨g,off,none⟩)) (hy:a.eval y=v) (h:∀w,St L w0 rows' w→wpList Tryz.prog ops Q lt a w):
 aj0 Tryz.prog ops Q (ayS L w0 rows rows') q (fun a=>(a.eval x= .pointer (some ⟨g,off,none⟩)∧a.eval y=v)∧∀w,St L w0 rows' w→wpList Tryz.prog ops Q lt a w) [] [] a:= .nil ⟨⟨hx,hy⟩,h⟩
end
theorem s10 {G R:Prop} (k:R) (h:R→G:=by
 intro k
 (with_reducible refine azC ?_)
 first
 |exact azl rfl (by decide +kernel) (ape (by rfl) (by rfl) (by repeat constructor) (by infer_instance)) (ape (by rfl) (by rfl) (by repeat constructor) (by infer_instance)) (fun _ _ _ h=>h) (by simp only [ah,ak,au,ay,aA];exact rfl) k
 |exact azl rfl (by decide +kernel) (apd (by rfl) (by rfl) (by repeat constructor) (by rfl) (by rfl) (by exact rfl)) (apd (by rfl) (by rfl) (by repeat constructor) (by rfl) (by rfl) (by exact rfl)) (fun _ _ _ h=>h) (by simp only [ah,ak,au,ay,aA];exact rfl) k
 |exact aCC rfl (by intro w;go_simp;with_reducible rfl) (fun _ _ _ h=>h) (by simp only [ah,ak,au,ay,aA];exact rfl) k):G:=h k
end Go.Proofs.YtdicgggkdmkklaaGreatDoor
