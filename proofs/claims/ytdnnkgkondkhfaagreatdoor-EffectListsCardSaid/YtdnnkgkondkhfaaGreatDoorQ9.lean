/- Walks: package word: Cut at a star. Conditions: the text is shorter than 100 million bytes. Walks: package mana: Parse. Conditions: Laid; the text is shorter than a hundred million bytes. Walks: pa -/
import Derived.Test.YtdnnkgkondkhfaaGreatDoorQ7
import Derived.Deep.RegionHeld3
import Derived.OwnWalk
import Derived.Test.YtdnnkgkondkhfaaGreatDoorQ8
import Derived.Test.YtdnnkgkondkhfaaGreatDoorQ5
import Derived.Test.YtdnnkgkondkhfaaGreatDoorUFl
import Derived.Test.YtdnnkgkondkhfaaGreatDoorQ3
import Derived.Test.YtdnnkgkondkhfaaGreatDoorQ4
import Derived.Test.YtdnnkgkondkhfaaGreatDoorQ2
set_option linter.all false
set_option maxRecDepth 100000
set_option maxHeartbeats 16000000
namespace Go.Proofs.YtdnnkgkondkhfaaGreatDoor
open Go.ChangeShapes Go.WideShapes Go.RowKit
def XB (s:ByteArray) (o:Option (Str × Str)):Value:=match o with|some p=> .tuple #[.string (B p.1), .string (B p.2), .bool true]|none=> .tuple #[.string s, .string ⟨#[]⟩, .bool false]
theorem JM (s p:ByteArray) (w:World) (pl:Str) (hp:L p=pl) (b:Bool) (h:Hid (Lib.hasPrefix (L s) pl=b)):
 Calls Tryz.prog 172 #[.string s, .string p] w fun e w'=>e= .returned (.bool b)∧w=w':=by
 subst hp
 exact (Tryz.strings_HasPrefix s p w).mono fun _ _ h'=>⟨h'.1.trans (by rw [←h.out];rfl),h'.2.symm⟩
theorem amF {s:Str} {k d:Nat} (h:k<s.length):nS 42 d (s.drop k)=if d=0∧aI s k=42 then some ([],s.drop (k+1)) else (nS 42 (bP d (aI s k)) (s.drop (k+1))).map fun p=>(s.getD k 0::p.1,p.2):=by
 rw [List.drop_eq_getElem_cons h,nS]
 have e:s[k]=s.getD k 0:=by simp [List.getD,h]
 rw [e];rfl
theorem YZ {s:Str} {k:Nat} (h:k<s.length):Lib.hasPrefix (s.drop k) [42]=(aI s k==42):=by
 rw [List.drop_eq_getElem_cons h]
 have e:s[k]=s.getD k 0:=by simp [List.getD,h]
 rw [e]
 unfold Lib.hasPrefix aI
 rw [Bool.eq_iff_iff]
 simp [List.isPrefixOf]
 exact ⟨fun e=>by rw [←e];rfl,fun e=>(UInt8.toNat_inj.1 e).symm⟩
theorem take_one {s:Str} {k:Nat} (h:k<s.length) (l:Str):s.take k++(s.getD k 0::l)=s.take (k+1)++l:=by
 rw [List.take_succ_eq_append_getElem h,List.append_assoc]
 simp [List.getD,h]
theorem map_take {s:Str} {k:Nat} (h:k<s.length) (o:Option (Str × Str)):((o.map fun p=>(s.getD k 0::p.1,p.2)).map fun p=>(s.take k++p.1,p.2))=o.map fun p=>(s.take (k+1)++p.1,p.2):=by
 cases o with
 |none=>rfl
 |some p=>simp only [Option.map_some];rw [take_one h]
theorem ak8 (s:ByteArray) (w:World) (hs:s.size<100000000):
 Calls Tryz.prog 168 #[.string s, .string ⟨#[42]⟩] w fun e w'=>e= .returned (XB s (nS 42 0 (L s)))∧Below w.heap.size w w':=by
 have hg:=jo s
 have HL:=Lib.hid (dN s)
 obtain ⟨R,hR⟩:∃R,nS 42 0 (L s)=R:=⟨_,rfl⟩
 rw [hR]
 have HR:=Lib.hid hR
 clear hR
 go_enter Tryz.av3,Tryz.auK
 go_wp2
 go_loop [7,8] (fun dv kv=>∃k d:Nat,k≤s.size∧d≤k∧kv= .int .i64 k∧dv= .int .i64 d∧Hid (R=(nS 42 d ((L s).drop k)).map fun p=>((L s).take k++p.1,p.2))) (fun _ kv=>s.size - (intOf kv).toNat)
 case atStart=>exact ⟨0,0,by omega,by omega,rfl,rfl,Lib.hid (by rw [←HR.out];simp)⟩
 case round=>
  obtain ⟨k,d,hk,hd,rfl,rfl,HD⟩:=hrel
  by_cases hlt:k<s.size
  ·have hkl:k<(L s).length:=by rw [HL.out];exact hlt
   have hst:=HD.out
   rw [amF hkl] at hst
   have hX:L (s.extract k s.size)=(L s).drop k:=by rw [dM,List.take_of_length_le (by rw [HL.out];exact Nat.le_refl _)]
   by_cases h0:d=0
   ·subst h0
    by_cases h42:aI (L s) k=42
    ·rw [if_pos ⟨rfl,h42⟩] at hst
     have HP:Hid (Lib.hasPrefix (L (s.extract k s.size)) [42]=true):=Lib.hid (by rw [hX,YZ hkl,h42];rfl)
     have HN:Hid (R=some ((L s).take k,(L s).drop (k+1))):=Lib.hid (by rw [hst];simp)
     have E1:Hid (s.extract 0 k=B ((L s).take k)):=Lib.hid (lD (by rw [dM,cO];rfl))
     have E2:Hid (s.extract (k+1) s.size=B ((L s).drop (k+1))):=Lib.hid (lD (by rw [dM,cO,List.take_of_length_le (by rw [HL.out];exact Nat.le_refl _)]))
     have EV:Hid (XB s R= .tuple #[.string (s.extract 0 k), .string (s.extract (k+1) s.size), .bool true]):=Lib.hid (by rw [HN.out,E1.out,E2.out];rfl)
     have hkI:(0:Int)≤(k:Int):=by omega
     have hkS:(k:Int)≤(s.size:Int):=by omega
     have hk1:(k:Int)+1≤(s.size:Int):=by omega
     have hkw:IntKind.i64.wrap ((k:Int)+1)=(k:Int)+1:=CW _ (by omega) (by omega)
     have hk0:(0:Int)≤(k:Int)+1:=by omega
     clear hst hX h42
     go_wp2_with (go_at_call 172;(with_reducible refine (JM _ _ _ [42] rfl true HP).mono ?_);rintro e w1 ⟨rfl,rfl⟩)
     go_region_held3 (fun w'=>Below w.heap.size w w') (first|exact (Below.refl _ _).drew|assumption) (fail)
     all_goals
      go_wp2
      go_ret3
      exact ⟨by rw [EV.out];rfl,(Below.refl _ _).drew⟩
    ·rw [if_neg (fun h=>h42 h.2)] at hst
     have HP:Hid (Lib.hasPrefix (L (s.extract k s.size)) [42]=false):=Lib.hid (by rw [hX,YZ hkl,beq_eq_false_iff_ne];exact h42)
     have HN:Hid (R=(nS 42 (bP 0 (aI (L s) k)) ((L s).drop (k+1))).map fun p=>((L s).take (k+1)++p.1,p.2)):=Lib.hid (by rw [hst,map_take hkl])
     have hdn:bP 0 (aI (L s) k)≤k+1:=Nat.le_trans (Gw _ _) (by omega)
     clear hst hX h42
     generalize hdd:bP 0 (aI (L s) k)=dd at *
     have HDD:=Lib.hid hdd
     clear hdd
     go_wp2_with (first|(go_at_call 172;(with_reducible refine (JM _ _ _ [42] rfl false HP).mono ?_);rintro e w1 ⟨rfl,rfl⟩)|(go_at_call 97;(refine (AU 0 _ (by omega) _).mono ?_);rw [HDD.out];rintro e w1 ⟨rfl,rfl⟩))
     go_round
     case rel=>exact ⟨k+1,dd,by omega,hdn,by go_num,rfl,HN⟩
     case measure=>simp [intOf];omega
   ·have t0:((d:Int)==0)=false:=by rw [beq_eq_false_iff_ne];omega
    rw [if_neg (fun h=>h0 h.1)] at hst
    have HN:Hid (R=(nS 42 (bP d (aI (L s) k)) ((L s).drop (k+1))).map fun p=>((L s).take (k+1)++p.1,p.2)):=Lib.hid (by rw [hst,map_take hkl])
    have hdn:bP d (aI (L s) k)≤k+1:=Nat.le_trans (Gw _ _) (by omega)
    clear hst hX h0
    generalize hdd:bP d (aI (L s) k)=dd at *
    have HDD:=Lib.hid hdd
    clear hdd
    go_wp2_with (first|(go_at_call 97;(with_reducible refine (AU d _ (by omega) _).mono ?_);rw [HDD.out];rintro e w1 ⟨rfl,rfl⟩))
    go_round
    case rel=>exact ⟨k+1,dd,by omega,hdn,by go_num,rfl,HN⟩
    case measure=>simp [intOf];omega
  ·obtain rfl:k=s.size:=by omega
   have HN:Hid (none=R):=Lib.hid (by rw [HD.out,List.drop_of_length_le (by rw [HL.out];exact Nat.le_refl _)];rfl)
   go_wp2
   go_ret3
   exact ⟨ret_val (by rw [←HN.out];rfl),Below.refl _ _⟩
end Go.Proofs.YtdnnkgkondkhfaaGreatDoor
namespace Go.Proofs.YtdnnkgkondkhfaaGreatDoor
attribute [local irreducible] wpList Code.wp Calls
open Go.ChangeShapes Go.WideShapes Go.RowKit
section
variable {L:World→Prop} {w0 w:World} {rows:List Row} {ops:Array Oper} {rest:List Oper} {o:Oper} {a:Act} {Q:Exit→Act→World→Prop}
theorem yB {T:Nat} {x y:Operand} (ho:o.op= .store T x y) (hS:St L w0 rows w) (hw:Region.wanted o (yielded ops a.tmps)=true) {g off:Nat} (hx:a.eval x= .pointer (some ⟨g,off,none⟩)) {v:Value} (hy:a.eval y=v)
 {cs new:Array Value} {T':Nat} {rows'} (hm:jr g cs new T' rows rows') (hfit:off+v.cells.size≤cs.size)
 (hnew:cs.toList.take off++v.cells.toList++cs.toList.drop (off+v.cells.size)=new.toList) (hi:(Tryz.prog.info? T).map (·.size)=some v.cells.size) (h1:v.cells.all (·.oneCell')=true)
 (h:St L w0 rows' (w.setRow g new)→wpList Tryz.prog ops Q rest (a.put o.dst undef) (w.setRow g new)):wpList Tryz.prog ops Q (o::rest) a w:=
 jd hw fun K hK=>by
  have hst:=run_storeCells_at Tryz.prog g off T' v.cells.toList 0 cs w (hS.has _ hm.mem).1 (by simpa using hfit) (fun u hu=>(Array.all_eq_true_iff_forall_mem.1 h1) u (by simpa using hu))
  have e:(cs.toList.take (off+0)++v.cells.toList++cs.toList.drop (off+0+v.cells.toList.length)).toArray=new:=by
   rw [Nat.add_zero,Array.length_toList,hnew]
  rw [e] at hst
  have hs:(storeVar T ⟨g,off,none⟩ v).run Tryz.prog w= .ok () (w.setRow g new):=by
   cases hq:Tryz.prog.info? T with
   |none=>simp [hq] at hi
   |some i=>
    have hs:v.cells.size=i.size:=by simp [hq] at hi;omega
    simp [storeVar,sizeOf,typeInfo,hq,hs,hst]
  unfold Oper.wp execOp
  simp only [ho,hx,hy,Instr.storeAt,Instr.sureAddr,Sem.run_bind,Sem.run_pure,Result.andThen_ok,hs]
  exact hK _ _ (h (hS.set hm))
theorem nO {T:Nat} {x:Operand} (ho:o.op= .load T x) (hw:Region.wanted o (yielded ops a.tmps)=true) {p:Addr} (hx:a.eval x= .pointer (some p)) (hT:∃d,Tryz.prog.underlying T=some d∧d.isRow=false) {v:Value} (hc:w.cell? p=some v)
 (h:wpList Tryz.prog ops Q rest (a.put o.dst v) w):wpList Tryz.prog ops Q (o::rest) a w:=
 jd hw fun K hK=>by
  obtain ⟨d,hu,hd⟩:=hT
  have hagg:(isAgg T).run Tryz.prog w= .ok false w:=by
   unfold isAgg
   rw [Sem.run_bind,run_underlying hu w]
   cases d<;>simp_all
  have hl:(loadVar T p).run Tryz.prog w= .ok v w:=by simp [loadVar,Sem.run_bind,hagg,hc]
  unfold Oper.wp execOp
  simp only [ho,hx,Instr.loadAt,Instr.sureAddr,Sem.run_bind,Sem.run_pure,Result.andThen_ok,hl]
  exact hK _ _ h
end
section
variable {L:World→Prop} {w0 w:World} {rows:List Row} {ops:Array Oper} {rest:List Oper} {o:Oper} {a:Act} {Q:Exit→Act→World→Prop}
theorem ai1 {x y:Operand} (ho:o.op= .store 3 x y) (hS:St L w0 rows w) (hw:Region.wanted o (yielded ops a.tmps)=true) {g:Nat} (hx:a.eval x= .pointer (some ⟨g,2,none⟩)) {v:Int} (hy:a.eval y= .int .i64 v) {r:Co} {T':Nat} {rows':List Row} (hm:jr g (Co.cells r) (Co.cells ⟨r.g,r.x,v,r.c1,r.c2,r.c3,r.c4⟩) T' rows rows') (h:St L w0 rows' (w.setRow g (Co.cells ⟨r.g,r.x,v,r.c1,r.c2,r.c3,r.c4⟩))→wpList Tryz.prog ops Q rest (a.put o.dst undef) (w.setRow g (Co.cells ⟨r.g,r.x,v,r.c1,r.c2,r.c3,r.c4⟩))):wpList Tryz.prog ops Q (o::rest) a w:=
 yB ho hS hw hx hy hm (Nat.le_of_ble_eq_true rfl) (Xv r v) gI (by simp [Value.cells,Value.oneCell']) h
theorem ai2 {x y:Operand} (ho:o.op= .store 3 x y) (hS:St L w0 rows w) (hw:Region.wanted o (yielded ops a.tmps)=true) {g:Nat} (hx:a.eval x= .pointer (some ⟨g,3,none⟩)) {v:Int} (hy:a.eval y= .int .i64 v) {r:Co} {T':Nat} {rows':List Row} (hm:jr g (Co.cells r) (Co.cells ⟨r.g,r.x,r.c0,v,r.c2,r.c3,r.c4⟩) T' rows rows') (h:St L w0 rows' (w.setRow g (Co.cells ⟨r.g,r.x,r.c0,v,r.c2,r.c3,r.c4⟩))→wpList Tryz.prog ops Q rest (a.put o.dst undef) (w.setRow g (Co.cells ⟨r.g,r.x,r.c0,v,r.c2,r.c3,r.c4⟩))):wpList Tryz.prog ops Q (o::rest) a w:=
 yB ho hS hw hx hy hm (Nat.le_of_ble_eq_true rfl) (Xw r v) gI (by simp [Value.cells,Value.oneCell']) h
theorem ai3 {x y:Operand} (ho:o.op= .store 3 x y) (hS:St L w0 rows w) (hw:Region.wanted o (yielded ops a.tmps)=true) {g:Nat} (hx:a.eval x= .pointer (some ⟨g,4,none⟩)) {v:Int} (hy:a.eval y= .int .i64 v) {r:Co} {T':Nat} {rows':List Row} (hm:jr g (Co.cells r) (Co.cells ⟨r.g,r.x,r.c0,r.c1,v,r.c3,r.c4⟩) T' rows rows') (h:St L w0 rows' (w.setRow g (Co.cells ⟨r.g,r.x,r.c0,r.c1,v,r.c3,r.c4⟩))→wpList Tryz.prog ops Q rest (a.put o.dst undef) (w.setRow g (Co.cells ⟨r.g,r.x,r.c0,r.c1,v,r.c3,r.c4⟩))):wpList Tryz.prog ops Q (o::rest) a w:=
 yB ho hS hw hx hy hm (Nat.le_of_ble_eq_true rfl) (Xx r v) gI (by simp [Value.cells,Value.oneCell']) h
theorem ai4 {x y:Operand} (ho:o.op= .store 3 x y) (hS:St L w0 rows w) (hw:Region.wanted o (yielded ops a.tmps)=true) {g:Nat} (hx:a.eval x= .pointer (some ⟨g,5,none⟩)) {v:Int} (hy:a.eval y= .int .i64 v) {r:Co} {T':Nat} {rows':List Row} (hm:jr g (Co.cells r) (Co.cells ⟨r.g,r.x,r.c0,r.c1,r.c2,v,r.c4⟩) T' rows rows') (h:St L w0 rows' (w.setRow g (Co.cells ⟨r.g,r.x,r.c0,r.c1,r.c2,v,r.c4⟩))→wpList Tryz.prog ops Q rest (a.put o.dst undef) (w.setRow g (Co.cells ⟨r.g,r.x,r.c0,r.c1,r.c2,v,r.c4⟩))):wpList Tryz.prog ops Q (o::rest) a w:=
 yB ho hS hw hx hy hm (Nat.le_of_ble_eq_true rfl) (Xy r v) gI (by simp [Value.cells,Value.oneCell']) h
theorem ai5 {x y:Operand} (ho:o.op= .store 3 x y) (hS:St L w0 rows w) (hw:Region.wanted o (yielded ops a.tmps)=true) {g:Nat} (hx:a.eval x= .pointer (some ⟨g,6,none⟩)) {v:Int} (hy:a.eval y= .int .i64 v) {r:Co} {T':Nat} {rows':List Row} (hm:jr g (Co.cells r) (Co.cells ⟨r.g,r.x,r.c0,r.c1,r.c2,r.c3,v⟩) T' rows rows') (h:St L w0 rows' (w.setRow g (Co.cells ⟨r.g,r.x,r.c0,r.c1,r.c2,r.c3,v⟩))→wpList Tryz.prog ops Q rest (a.put o.dst undef) (w.setRow g (Co.cells ⟨r.g,r.x,r.c0,r.c1,r.c2,r.c3,v⟩))):wpList Tryz.prog ops Q (o::rest) a w:=
 yB ho hS hw hx hy hm (Nat.le_of_ble_eq_true rfl) (Xz r v) gI (by simp [Value.cells,Value.oneCell']) h
end
theorem L8:∃d,Tryz.prog.underlying 5=some d∧d.isRow=false:=⟨_,Tryz.underlying5,rfl⟩
theorem alv:∀(s:Str) (k:Nat),k<(s.takeWhile AP).length→s.drop k=88::s.drop (k+1)
 |[],k,h=>by simp at h
 |b::s,k,h=>by
  rw [List.takeWhile_cons] at h
  split at h
  ·rename_i hb
   cases k with
   |zero=>simp only [AP,beq_iff_eq] at hb;simp [hb]
   |succ k=>simpa using alv s k (by simpa using h)
  ·simp at h
theorem alu:∀s:Str,s.drop (s.takeWhile AP).length=zW s
 |[]=>rfl
 |b::s=>by
  unfold zW
  rw [List.takeWhile_cons,List.dropWhile_cons]
  split
  ·simpa [zW] using alu s
  ·rfl
theorem asY (s:Str):Lib.hasPrefix (zW s) [88]=false:=by
 have:∀s:Str,Lib.hasPrefix (s.dropWhile AP) [88]=false:=by
  intro s
  induction s with
  |nil=>rfl
  |cons b s ih=>
   rw [List.dropWhile_cons]
   split
   ·exact ih
   ·rename_i hb
    simp only [AP,beq_iff_eq] at hb
    cases hp:Lib.hasPrefix (b::s) [88] with
    |false=>rfl
    |true=>
     simp [Lib.hasPrefix] at hp
     exact absurd hp.symm hb
 exact this s
theorem ajB (s:Str):Lib.hasPrefix (88::s) [88]=true:=by simp [Lib.hasPrefix]
theorem alH:∀s:Str,s.take (s.takeWhile jE).length=s.takeWhile jE∧s.drop (s.takeWhile jE).length=s.dropWhile jE
 |[]=>⟨rfl,rfl⟩
 |b::s=>by
  rw [List.takeWhile_cons,List.dropWhile_cons]
  split
  ·simpa using alH s
  ·exact ⟨rfl,rfl⟩
theorem ajK {b:UInt8} (h:isLet b=false):Lib.indexByte pz b= -1:=by
 have hc:=IU b
 have:pz.contains b=isLet b:=by unfold isLet;rw [Bool.eq_iff_iff];simp [pz,List.contains_cons]
 rw [this,h] at hc
 have:=Lib.indexByte_ge pz b
 simp at hc
 omega
theorem aco (s:ByteArray) (b:Bool) (h:Hid (Lib.hasPrefix (L s) [88]=b)) (w:World):Calls Tryz.prog 172 #[.string s, .string ⟨#[88]⟩] w fun e w'=>e= .returned (.bool b)∧w=w':=JM s ⟨#[88]⟩ w [88] rfl b h
theorem yN (b:UInt8) (i:Int) (h:Hid (Lib.indexByte pz b=i)) (w:World):Calls Tryz.prog 96 #[.string ⟨#[65,67,74,82,69]⟩, .int .u8 (b.toNat:Int)] w fun e w'=>e= .returned (.int .i64 i)∧w=w':=
 (pY Hg b w).mono fun _ _ h'=>⟨h'.1.trans (by rw [←h.out];rfl),h'.2⟩
theorem anz (w:World):Calls Tryz.prog 96 #[.string ⟨#[65,67,74,82,69]⟩, .int .u8 65] w fun e w'=>e= .returned (.int .i64 0)∧w=w':=yN 65 0 (Lib.hid (by decide)) w
theorem anA (w:World):Calls Tryz.prog 96 #[.string ⟨#[65,67,74,82,69]⟩, .int .u8 67] w fun e w'=>e= .returned (.int .i64 1)∧w=w':=yN 67 1 (Lib.hid (by decide)) w
theorem anB (w:World):Calls Tryz.prog 96 #[.string ⟨#[65,67,74,82,69]⟩, .int .u8 74] w fun e w'=>e= .returned (.int .i64 2)∧w=w':=yN 74 2 (Lib.hid (by decide)) w
theorem anC (w:World):Calls Tryz.prog 96 #[.string ⟨#[65,67,74,82,69]⟩, .int .u8 82] w fun e w'=>e= .returned (.int .i64 3)∧w=w':=yN 82 3 (Lib.hid (by decide)) w
theorem anD (w:World):Calls Tryz.prog 96 #[.string ⟨#[65,67,74,82,69]⟩, .int .u8 69] w fun e w'=>e= .returned (.int .i64 4)∧w=w':=yN 69 4 (Lib.hid (by decide)) w
def alr (o:Option Co):Value:=match o with|some c=> .tuple #[.agg c.cells, .int .i64 0]|none=> .tuple #[.agg dQ.cells, .int .i64 3]
theorem cell_setRow_other (w:World) (g:Nat) (new:Array Value) (D i:Nat) (h:D≠g):(w.setRow g new).cell? ⟨D,i,none⟩=w.cell? ⟨D,i,none⟩:=by
 simp [World.cell?,setRow_other w g D new h]
def al2:Value→Nat| .string b=>b.size|_=>0
theorem Jy (s:Str) (hs:s.length<100000000) (w0:World) (hl:Laid w0) (R:Option Co) (HR:Hid (kY s=R)):Calls Tryz.prog 195 #[.string (B s)] w0 fun e w'=>e= .returned (alr R)∧Below w0.heap.size w0 w':=by
 have hS:=St.start hl bJ
 obtain ⟨N,hN⟩:∃N,(s.takeWhile AP).length=N:=⟨_,rfl⟩
 have hNs:N≤s.length:=by rw [←hN];exact (List.takeWhile_prefix _).length_le
 have HN:=Lib.hid hN
 clear hN
 go_enter Tryz.av8,Tryz.auP
 go_wp2_with (first|((with_reducible refine aW ?_);(first|(refine aJ 50 rfl hS rfl _ nN ?_;intro g w hS));(try simp only [ah,ak,au,ay,aA])))
 rename_i g2 wq hSq K1 hK1
 clear hSq
 generalize g=g4 at *
 go_loopw [5] (fun rv wr=>∃k:Nat,k≤N∧rv= .string (B (s.drop k))∧Hid (St Laid w0 [(g4,Co.cells ⟨0,k,0,0,0,0,0⟩,50),(g2,dQ.cells,50)] wr)) (fun rv _=>al2 rv)
 case atStart=>exact ⟨0,by omega,by simp,Lib.hid hS⟩
 case round=>
  clear hS
  obtain ⟨k,hk,rfl,HS⟩:=hrel
  have hS:=HS.out
  clear HS
  by_cases hlt:k<N
  ·have hd:=alv s k (by rw [HN.out];exact hlt)
   obtain ⟨X,hX⟩:∃X,B (s.drop k)=X:=⟨_,rfl⟩
   have HP:Hid (Lib.hasPrefix (L X) [88]=true):=Lib.hid (by rw [←hX,cO,hd];exact ajB _)
   have hsz:X.size=s.length - k:=by rw [←hX,bC,List.length_drop]
   have E1:Hid (X.extract 1 X.size=B (s.drop (k+1))):=Lib.hid (lD (by
    rw [dM,cO,←hX,cO,bC,List.take_of_length_le (Nat.le_refl _),List.drop_drop]))
   have h1:1≤X.size:=by omega
   rw [hX]
   clear hd hX
   go_wp2_with (first|(go_at_call 172;(with_reducible refine (St.still hS fun hl=>aco _ _ HP _).mono ?_);rintro e w ⟨rfl,hS⟩)|((with_reducible refine aC ?_);(first|(refine BD rfl hS rfl rfl (by repeat constructor) ?_));(try simp only [ah,ak,au,ay,aA]))|((with_reducible refine aN ?_);(first|(refine amu rfl hS rfl rfl rfl (by repeat constructor) ?_;intro w hS));(try simp only [ah,ak,au,ay,aA])))
   go_roundw
   case rel=>exact ⟨k+1,by omega,by rw [←hsz,E1.out],Lib.hid (by push_cast;exact hS)⟩
   case measure=>simp [al2];omega
  ·obtain rfl:k=N:=by omega
   have hd:=alu s
   rw [HN.out] at hd
   obtain ⟨X,hX⟩:∃X,zW s=X:=⟨_,rfl⟩
   have HX:=Lib.hid hX
   have HP:Hid (Lib.hasPrefix (L (B X)) [88]=false):=Lib.hid (by rw [cO,←hX];exact asY s)
   have hXl:X.length≤s.length:=by rw [←hX,←hd,List.length_drop];omega
   rw [hd,hX]
   clear hd hX
   obtain ⟨M,hM⟩:∃M,(X.takeWhile jE).length=M:=⟨_,rfl⟩
   have hMX:M≤X.length:=by rw [←hM];exact (List.takeWhile_prefix _).length_le
   obtain ⟨m1,m2⟩:=alH X
   rw [hM] at m1 m2
   have hbz:(B X).size=X.length:=bC X
   have E2:(B X).extract 0 M=B (X.takeWhile jE):=lD (by rw [dM,cO,cO,List.drop_zero,m1])
   have E3:(B X).extract M X.length=B (X.dropWhile jE):=lD (by rw [dM,cO,cO,List.take_of_length_le (Nat.le_refl _),m2])
   have hidx:∀w,Laid w→Calls Tryz.prog 258 #[.string (B (X++[65])), .string ⟨#[65,67,74,82,69]⟩] w fun e w'=>e= .returned (.int .i64 (M:Int))∧Below w.heap.size w w':=fun w hl=>hM ▸ aaI X w hl (by omega)
   obtain ⟨G,hG⟩:∃G:Int,(numOf (X.takeWhile jE)).getD 0=G:=⟨_,rfl⟩
   obtain ⟨gb,hgb⟩:∃b,(numOf (X.takeWhile jE)).isSome=b:=⟨_,rfl⟩
   have hnum:∀w,Laid w→Calls Tryz.prog 243 #[.string (B (X.takeWhile jE))] w fun e w'=>e= .returned (.tuple #[.int .i64 G, .bool gb])∧Below w.heap.size w w':=fun w hl=>hG ▸ hgb ▸ YL (X.takeWhile jE) (by have:=(List.takeWhile_prefix jE (l:=X)).length_le;omega) w hl
   have HG:=Lib.hid hG
   obtain ⟨A,hA⟩:∃A,X.dropWhile jE=A:=⟨_,rfl⟩
   obtain ⟨Y,hY⟩:∃Y,X.takeWhile jE=Y:=⟨_,rfl⟩
   have HA:=Lib.hid (show tK s=A by unfold tK;rw [HX.out,hA])
   have HM:Hid (Ju s=Y):=Lib.hid (by unfold Ju;rw [HX.out,hY])
   have hAl:A.length≤X.length:=by rw [←hA];exact (List.dropWhile_suffix _).length_le
   rw [hA] at E3
   rw [hY] at E2 hnum HG
   clear hgb hG hA hY hM m1 m2
   have hc2:=fun wx=>Lib.run_convert_string_bytes (P:=Tryz.prog) wx 9 198 5 (B A) Tryz.underlying9 Tryz.underlying198 Tryz.underlying5
   go_wp2_with (first|(go_at_call 172;(with_reducible refine (St.still hS fun hl=>aco _ _ HP _).mono ?_);rintro e w ⟨rfl,hS⟩)|(go_at_call 258;(with_reducible refine (St.call hS fun hl=>hidx _ hl).mono ?_);rintro e w ⟨rfl,hS⟩)|(go_at_call 243;(with_reducible refine (St.call hS fun hl=>hnum _ hl).mono ?_);rintro e w ⟨rfl,hS⟩)|((with_reducible refine jU ?_);(first|(refine eG rfl rfl rfl rfl (by first|(simp only [List.length_append,List.length_cons,List.length_nil];omega)|fail) ?_));(try simp only [ah,ak,au,ay,aA]))|((with_reducible refine aN ?_);(first|(refine ams rfl hS rfl rfl rfl (by repeat constructor) ?_;intro w hS));(try simp only [ah,ak,au,ay,aA])))
   have hb:=bytesWorld_below w 5 (B A)
   have hcell:=fun (j:Nat) (hj:j<A.length)=>IQ w 5 (B A) j (by rw [bC];exact hj)
   rw [cO] at hcell
   have hgD:w.heap.size≠g4:=by
    have:=(Array.getElem?_eq_some_iff.1 (hS.row .head)).1;omega
   have hS2:=hS.mono hb
   clear hc2 hb hS E2 E3 hnum hidx
   generalize grownCap w A.length 0 5=cap
   generalize Lib.bytesWorld w 5 (B A)=W at *
   generalize w.heap.size=D at *
   go_loopw [35] (fun iv wr=>∃j:Nat,j≤A.length∧iv= .int .i64 j∧Hid ((A.take j).all isLet=true)∧Hid (St Laid w0 [(g4,Co.cells ⟨G,k,((A.take j).count 65:Nat),((A.take j).count 67:Nat),((A.take j).count 74:Nat),((A.take j).count 82:Nat),((A.take j).count 69:Nat)⟩,50),(g2,dQ.cells,50)] wr)∧Hid (∀i,i<A.length→wr.cell? ⟨D,i,none⟩=some (.int .u8 (aI A i:Nat)))) (fun iv _=>A.length - (intOf iv).toNat)
   case atStart=>exact ⟨0,by omega,rfl,Lib.hid rfl,Lib.hid hS2,Lib.hid hcell⟩
   case round=>
    clear hS2 hcell
    obtain ⟨j,hj,rfl,NY,HS,HB⟩:=hrel
    have hS:=HS.out
    clear HS
    by_cases hlt:j<A.length
    ·obtain ⟨b,hbj⟩:∃b,A[j]? =some b:=⟨A[j],List.getElem?_eq_getElem hlt⟩
     have hbt:aI A j=b.toNat:=by
      unfold aI;rw [List.getD_eq_getElem?_getD,hbj];rfl
     have HC:=Lib.hid (HB.out j hlt)
     rw [hbt] at HC
     have HT:Hid (A.take (j+1)=A.take j++[b]):=Lib.hid (by rw [List.take_succ,hbj];rfl)
     have hle:(A.take j).length≤100000000:=by rw [List.length_take];omega
     obtain ⟨n0,h0⟩:∃n,(A.take j).count 65=n:=⟨_,rfl⟩
     obtain ⟨n1,h1⟩:∃n,(A.take j).count 67=n:=⟨_,rfl⟩
     obtain ⟨n2,h2⟩:∃n,(A.take j).count 74=n:=⟨_,rfl⟩
     obtain ⟨n3,h3⟩:∃n,(A.take j).count 82=n:=⟨_,rfl⟩
     obtain ⟨n4,h4⟩:∃n,(A.take j).count 69=n:=⟨_,rfl⟩
     rw [h0,h1,h2,h3,h4] at hS
     have b0:n0≤100000000:=by rw [←h0];exact Nat.le_trans List.count_le_length hle
     have b1:n1≤100000000:=by rw [←h1];exact Nat.le_trans List.count_le_length hle
     have b2:n2≤100000000:=by rw [←h2];exact Nat.le_trans List.count_le_length hle
     have b3:n3≤100000000:=by rw [←h3];exact Nat.le_trans List.count_le_length hle
     have b4:n4≤100000000:=by rw [←h4];exact Nat.le_trans List.count_le_length hle
     have H0:=Lib.hid h0
     have H1:=Lib.hid h1
     have H2:=Lib.hid h2
     have H3:=Lib.hid h3
     have H4:=Lib.hid h4
     clear h0 h1 h2 h3 h4 hbt
     cases hlb:isLet b with
     |false=>
      have HI:=Lib.hid (ajK hlb)
      have HE:Hid (R=none):=Lib.hid (by
       rw [←HR.out];unfold kY;rw [if_neg]
       rintro ⟨_,ha,_⟩
       rw [HA.out] at ha
       have:=List.all_eq_true.1 ha b (List.mem_of_getElem? hbj)
       rw [hlb] at this;cases this)
      have he:=HE.out
      subst he
      clear hbj hlb
      go_wp2_with (first|((with_reducible refine aC ?_);refine nO rfl rfl rfl L8 HC.out ?_;(try simp only [ah,ak,au,ay,aA]))|(go_at_call 96;(with_reducible refine (yN _ _ HI _).mono ?_);rintro e w ⟨rfl,rfl⟩)|((with_reducible refine oz ?_);refine rJ rfl ?_;(try simp only [ah,ak,au,ay,aA]))|((with_reducible refine aN ?_);(first|(refine kH rfl hS rfl rfl rfl (by repeat constructor) ?_;intro w hS));(try simp only [ah,ak,au,ay,aA])))
      all_goals (refine qG hS rfl rfl (by repeat constructor) rfl rfl (fun hb=>⟨rfl,hb⟩))
     |true=>
      clear hbj
      unfold isLet at hlb
      simp only [Bool.or_eq_true,beq_iff_eq] at hlb
      rcases hlb with rfl|rfl|rfl|rfl|rfl
      ·
       go_wp2_with (first|((with_reducible refine aC ?_);refine nO rfl rfl rfl L8 HC.out ?_;(try simp only [ah,ak,au,ay,aA]))|(go_at_call 96;(with_reducible refine (anz _).mono ?_);rintro e w ⟨rfl,rfl⟩)|((with_reducible refine aN ?_);refine ai1 rfl hS rfl rfl rfl .head ?_;intro hS)|((with_reducible refine aC ?_);(first|(refine RG rfl hS rfl rfl (by repeat constructor) ?_));(try simp only [ah,ak,au,ay,aA])))
       go_roundw
       case rel=>exact ⟨j+1,by omega,by go_num,Lib.hid (by rw [HT.out,List.all_append,NY.out];rfl),Lib.hid (by rw [HT.out];simpa [List.count_append,H0.out,H1.out,H2.out,H3.out,H4.out] using hS),Lib.hid (fun i hi=>(cell_setRow_other _ _ _ _ _ hgD).trans (HB.out i hi))⟩
       case measure=>simp [intOf];omega
      ·
       go_wp2_with (first|((with_reducible refine aC ?_);refine nO rfl rfl rfl L8 HC.out ?_;(try simp only [ah,ak,au,ay,aA]))|(go_at_call 96;(with_reducible refine (anA _).mono ?_);rintro e w ⟨rfl,rfl⟩)|((with_reducible refine aN ?_);refine ai2 rfl hS rfl rfl rfl .head ?_;intro hS)|((with_reducible refine aC ?_);(first|(refine RH rfl hS rfl rfl (by repeat constructor) ?_));(try simp only [ah,ak,au,ay,aA])))
       go_roundw
       case rel=>exact ⟨j+1,by omega,by go_num,Lib.hid (by rw [HT.out,List.all_append,NY.out];rfl),Lib.hid (by rw [HT.out];simpa [List.count_append,H0.out,H1.out,H2.out,H3.out,H4.out] using hS),Lib.hid (fun i hi=>(cell_setRow_other _ _ _ _ _ hgD).trans (HB.out i hi))⟩
       case measure=>simp [intOf];omega
      ·
       go_wp2_with (first|((with_reducible refine aC ?_);refine nO rfl rfl rfl L8 HC.out ?_;(try simp only [ah,ak,au,ay,aA]))|(go_at_call 96;(with_reducible refine (anB _).mono ?_);rintro e w ⟨rfl,rfl⟩)|((with_reducible refine aN ?_);refine ai3 rfl hS rfl rfl rfl .head ?_;intro hS)|((with_reducible refine aC ?_);(first|(refine RI rfl hS rfl rfl (by repeat constructor) ?_));(try simp only [ah,ak,au,ay,aA])))
       go_roundw
       case rel=>exact ⟨j+1,by omega,by go_num,Lib.hid (by rw [HT.out,List.all_append,NY.out];rfl),Lib.hid (by rw [HT.out];simpa [List.count_append,H0.out,H1.out,H2.out,H3.out,H4.out] using hS),Lib.hid (fun i hi=>(cell_setRow_other _ _ _ _ _ hgD).trans (HB.out i hi))⟩
       case measure=>simp [intOf];omega
      ·
       go_wp2_with (first|((with_reducible refine aC ?_);refine nO rfl rfl rfl L8 HC.out ?_;(try simp only [ah,ak,au,ay,aA]))|(go_at_call 96;(with_reducible refine (anC _).mono ?_);rintro e w ⟨rfl,rfl⟩)|((with_reducible refine aN ?_);refine ai4 rfl hS rfl rfl rfl .head ?_;intro hS)|((with_reducible refine aC ?_);(first|(refine RJ rfl hS rfl rfl (by repeat constructor) ?_));(try simp only [ah,ak,au,ay,aA])))
       go_roundw
       case rel=>exact ⟨j+1,by omega,by go_num,Lib.hid (by rw [HT.out,List.all_append,NY.out];rfl),Lib.hid (by rw [HT.out];simpa [List.count_append,H0.out,H1.out,H2.out,H3.out,H4.out] using hS),Lib.hid (fun i hi=>(cell_setRow_other _ _ _ _ _ hgD).trans (HB.out i hi))⟩
       case measure=>simp [intOf];omega
      ·
       go_wp2_with (first|((with_reducible refine aC ?_);refine nO rfl rfl rfl L8 HC.out ?_;(try simp only [ah,ak,au,ay,aA]))|(go_at_call 96;(with_reducible refine (anD _).mono ?_);rintro e w ⟨rfl,rfl⟩)|((with_reducible refine aN ?_);refine ai5 rfl hS rfl rfl rfl .head ?_;intro hS)|((with_reducible refine aC ?_);(first|(refine RN rfl hS rfl rfl (by repeat constructor) ?_));(try simp only [ah,ak,au,ay,aA])))
       go_roundw
       case rel=>exact ⟨j+1,by omega,by go_num,Lib.hid (by rw [HT.out,List.all_append,NY.out];rfl),Lib.hid (by rw [HT.out];simpa [List.count_append,H0.out,H1.out,H2.out,H3.out,H4.out] using hS),Lib.hid (fun i hi=>(cell_setRow_other _ _ _ _ _ hgD).trans (HB.out i hi))⟩
       case measure=>simp [intOf];omega
    ·obtain rfl:j=A.length:=by omega
     rw [List.take_length] at hS
     have aqb:=NY.out
     rw [List.take_length] at aqb
     have hgu:yL s=⟨G,k,(A.count 65:Nat),(A.count 67:Nat),(A.count 74:Nat),(A.count 82:Nat),(A.count 69:Nat)⟩:=by
      unfold yL;rw [HM.out,HA.out,HN.out,HG.out]
     obtain ⟨T,hT⟩:∃T,iC ⟨G,k,(A.count 65:Nat),(A.count 67:Nat),(A.count 74:Nat),(A.count 82:Nat),(A.count 69:Nat)⟩=T:=⟨_,rfl⟩
     have hR:=HR.out
     unfold kY at hR
     rw [hgu,HA.out,hT] at hR
     have HT:=Lib.hid hT
     clear hT NY HB hgu HG HM HA
     generalize (A.count 65:Nat)=n0 at *
     generalize (A.count 67:Nat)=n1 at *
     generalize (A.count 74:Nat)=n2 at *
     generalize (A.count 82:Nat)=n3 at *
     generalize (A.count 69:Nat)=n4 at *
     by_cases h0:s=[]
     ·rw [if_neg (fun h=>h.1 h0)] at hR
      subst hR h0
      go_wp2_with (first|((with_reducible refine bG ?_);(first|(refine aS rfl ?_));(try simp only [ah,ak,au,ay,aA]))|((with_reducible refine oz ?_);refine rJ rfl ?_;(try simp only [ah,ak,au,ay,aA]))|((with_reducible refine aN ?_);(first|(refine kH rfl hS rfl rfl rfl (by repeat constructor) ?_;intro w hS));(try simp only [ah,ak,au,ay,aA])))
      all_goals (refine qG hS rfl rfl (by repeat constructor) rfl rfl (fun hb=>⟨rfl,hb⟩))
     ·have h1:(s==[])=false:=by simpa using h0
      by_cases hx:T=s
      ·rw [if_pos ⟨h0,aqb,hx⟩] at hR
       subst hR hx
       have ht:(T==T)=true:=by simp
       go_wp2_with (first|(go_at_call 80;(with_reducible refine (St.call hS fun hl=>Uo _ _ HT _ hl).mono ?_);rintro e w ⟨rfl,hS⟩)|((with_reducible refine aC ?_);(first|(refine qN rfl hS rfl rfl (by repeat constructor) ?_));(try simp only [ah,ak,au,ay,aA]))|((with_reducible refine aN ?_);(first|(refine kH rfl hS rfl rfl rfl (by repeat constructor) ?_;intro w hS));(try simp only [ah,ak,au,ay,aA])))
       all_goals (refine qG hS rfl rfl (by repeat constructor) rfl rfl (fun hb=>⟨rfl,hb⟩))
      ·rw [if_neg (fun h=>hx h.2.2)] at hR
       subst hR
       have hx':(T==s)=false:=by simpa using hx
       go_wp2_with (first|(go_at_call 80;(with_reducible refine (St.call hS fun hl=>Uo _ _ HT _ hl).mono ?_);rintro e w ⟨rfl,hS⟩)|((with_reducible refine oz ?_);refine rJ rfl ?_;(try simp only [ah,ak,au,ay,aA]))|((with_reducible refine aC ?_);(first|(refine qN rfl hS rfl rfl (by repeat constructor) ?_));(try simp only [ah,ak,au,ay,aA]))|((with_reducible refine aN ?_);(first|(refine kH rfl hS rfl rfl rfl (by repeat constructor) ?_;intro w hS));(try simp only [ah,ak,au,ay,aA])))
       all_goals (refine qG hS rfl rfl (by repeat constructor) rfl rfl (fun hb=>⟨rfl,hb⟩))
end Go.Proofs.YtdnnkgkondkhfaaGreatDoor
namespace Go.Proofs.YtdnnkgkondkhfaaGreatDoor
attribute [local irreducible] wpList Code.wp Calls
open Go.ChangeShapes Go.WideShapes Go.RowKit
def aem (o:Option Po):Value:=match o with|some c=> .tuple #[.agg c.cells, .int .i64 0]|none=> .tuple #[.agg bn.cells, .int .i64 3]
theorem Jv (s:Str) (hs:s.length<100000000) (c:Co) (h:Hid (kY s=some c)) (w:World) (hl:Laid w):Calls Tryz.prog 195 #[.string (B s)] w fun e w'=>e= .returned (.tuple #[.agg c.cells, .int .i64 0])∧Below w.heap.size w w':=Jy s hs w hl (some c) h
theorem Xt (s:Str) (hs:s.length<100000000) (h:Hid (kY s=none)) (w:World) (hl:Laid w):Calls Tryz.prog 195 #[.string (B s)] w fun e w'=>e= .returned (.tuple #[.agg dQ.cells, .int .i64 3])∧Below w.heap.size w w':=Jy s hs w hl none h
theorem aaY (s:Str) (hs:s.length<100000000) (w0:World) (hl:Laid w0):Calls Tryz.prog 94 #[.string (B s)] w0 fun e w'=>e= .returned (aem (dU s))∧Below w0.heap.size w0 w':=by
 cases hc:kY s with
 |none=>
  rw [show dU s=none by unfold dU;rw [hc]]
  have HC:=Lib.hid hc
  clear hc
  have hS:=St.start hl bJ
  go_enter Tryz.agD,Tryz.acH
  go_wp2_with (first|(go_at_call 195;(with_reducible refine (St.call hS fun hl=>Xt s hs HC _ hl).mono ?_);rintro e w ⟨rfl,hS⟩)|((with_reducible refine LD ?_);refine ED _ _ rfl rfl hS rfl rfl [.int .i64 0, .int .i64 0, .int .i64 0, .int .i64 0, .int .i64 0] rfl (.tail .head) (fun j v h=>by match j,h with|0,h=>exact h|1,h=>exact h|2,h=>exact h|3,h=>exact h|4,h=>exact h|j+5,h=>cases h) (new:=Po.cells ⟨0,0,0,0,0,0⟩) .head (Nat.le_of_ble_eq_true rfl) rfl (by simp [Value.oneCell']) ?_;intro w hS)|((with_reducible refine aW ?_);(first|(refine aJ 50 rfl hS rfl _ nN ?_;intro g w hS)|(refine aJ 32 rfl hS rfl _ yX ?_;intro g w hS));(try simp only [ah,ak,au,ay,aA]))|((with_reducible refine rW ?_);refine wC rfl ?_;(try simp only [ah,ak,au,ay,aA]))|((with_reducible refine zJ ?_);refine En rfl rfl ?_;(try simp only [ah,ak,au,ay,aA]))|((with_reducible refine aC ?_);(first|(refine uO rfl hS rfl rfl (by repeat constructor) ?_));(try simp only [ah,ak,au,ay,aA]))|((with_reducible refine aN ?_);(first|(refine kH rfl hS rfl rfl rfl (by repeat constructor) ?_;intro w hS)|(refine yZ rfl hS rfl rfl rfl (by repeat constructor) ?_;intro w hS));(try simp only [ah,ak,au,ay,aA]))|((with_reducible refine aT ?_);refine qX 3 rfl hS (by kernel_rfl) (by kernel_rfl) (by kernel_rfl) (by decide +kernel) (by kernel_rfl) ?_;(simp only [List.take_succ_cons,List.take_zero,List.drop_succ_cons,List.drop_zero]))|((with_reducible refine tq ?_);refine pI ?_;intro w hS)|((with_reducible refine qg ?_);(refine lS (v:= ?_) rfl (fun _ _ _ h=>h) ?_ ?_;rotate_left;(focus ((intro w;go_simp)<;>with_reducible rfl)));(try simp only [ah,ak,au,ay,aA]))|((with_reducible refine aT ?_);refine bY hS (by kernel_rfl) (by kernel_rfl) ?_)|((with_reducible refine fG ?_);intro w hS)|((with_reducible refine wW ?_);(first|(refine uw rfl (fun _ _ _ h=>h) ?_));(try simp only [ah,ak,au,ay,aA]))|((with_reducible refine dS ?_);(refine dn (v:= ?_) rfl (fun _ _ _ h=>h) ?_ ?_;rotate_left;(focus ((intro w hS;go_simp)<;>with_reducible rfl)));(try simp only [ah,ak,au,ay,aA])))
  all_goals (refine yY hS rfl rfl (by repeat constructor) rfl rfl (fun hb=>⟨rfl,hb⟩))
 |some c=>
  obtain ⟨cg,cx,c0,c1,c2,c3,c4⟩:=c
  have HC:=Lib.hid hc
  have hne:=fun wx=>aqM (EI ⟨cg,c0,c1,c2,c3,c4⟩) ⟨cg,cx,c0,c1,c2,c3,c4⟩ wx
  by_cases hx:cx=0
  ·rw [show dU s=some ⟨cg,c0,c1,c2,c3,c4⟩ by unfold dU;rw [hc];exact if_pos hx]
   subst hx
   rw [show vG (EI ⟨cg,c0,c1,c2,c3,c4⟩) ⟨cg,0,c0,c1,c2,c3,c4⟩=true from Jt _] at hne
   clear hc
   have hS:=St.start hl bJ
   go_enter Tryz.agD,Tryz.acH
   go_wp2_with (first|(go_at_call 195;(with_reducible refine (St.call hS fun hl=>Jv s hs _ HC _ hl).mono ?_);rintro e w ⟨rfl,hS⟩)|((with_reducible refine LD ?_);refine ED _ _ rfl rfl hS rfl rfl [.int .i64 c0, .int .i64 c1, .int .i64 c2, .int .i64 c3, .int .i64 c4] rfl (.tail .head) (fun j v h=>by match j,h with|0,h=>exact h|1,h=>exact h|2,h=>exact h|3,h=>exact h|4,h=>exact h|j+5,h=>cases h) (new:=Po.cells ⟨cg,c0,c1,c2,c3,c4⟩) .head (Nat.le_of_ble_eq_true rfl) rfl (by simp [Value.oneCell']) ?_;intro w hS)|((with_reducible refine aW ?_);(first|(refine aJ 50 rfl hS rfl _ nN ?_;intro g w hS)|(refine aJ 32 rfl hS rfl _ yX ?_;intro g w hS));(try simp only [ah,ak,au,ay,aA]))|((with_reducible refine zJ ?_);refine En rfl rfl ?_;(try simp only [ah,ak,au,ay,aA]))|((with_reducible refine aC ?_);(first|(refine uO rfl hS rfl rfl (by repeat constructor) ?_)|(refine LZ rfl hS rfl rfl (by repeat constructor) ?_));(try simp only [ah,ak,au,ay,aA]))|((with_reducible refine aN ?_);(first|(refine kH rfl hS rfl rfl rfl (by repeat constructor) ?_;intro w hS)|(refine yZ rfl hS rfl rfl rfl (by repeat constructor) ?_;intro w hS));(try simp only [ah,ak,au,ay,aA]))|((with_reducible refine aT ?_);refine qX 3 rfl hS (by kernel_rfl) (by kernel_rfl) (by kernel_rfl) (by decide +kernel) (by kernel_rfl) ?_;(simp only [List.take_succ_cons,List.take_zero,List.drop_succ_cons,List.drop_zero]))|((with_reducible refine tq ?_);refine pI ?_;intro w hS)|((with_reducible refine qg ?_);(refine lS (v:= ?_) rfl (fun _ _ _ h=>h) ?_ ?_;rotate_left;(focus ((intro w;go_simp)<;>with_reducible rfl)));(try simp only [ah,ak,au,ay,aA]))|((with_reducible refine aT ?_);refine bY hS (by kernel_rfl) (by kernel_rfl) ?_)|((with_reducible refine fG ?_);intro w hS)|((with_reducible refine gZ ?_);(first|(refine abN rfl rfl rfl (by repeat constructor) (fun _ _ _ h=>h) ?_)|(refine acQ rfl rfl rfl (by repeat constructor) (fun _ _ _ h=>h) ?_));(try simp only [ah,ak,au,ay,aA]))|((with_reducible refine iI ?_);(first|(refine eu (v:= ?_) (args:= ?_) 196 rfl (fun _ _ _ h=>h) ?_ ?_ ?_;rotate_left 2;(focus ((intro w;go_simp)<;>with_reducible rfl));(focus (intro w hS;refine St.jF hS (fun hl=>Gt _ _ hl) ?_;with_reducible rfl))));(try simp only [ah,ak,au,ay,aA]))|((with_reducible refine dS ?_);(refine dn (v:= ?_) rfl (fun _ _ _ h=>h) ?_ ?_;rotate_left;(focus ((intro w hS;go_simp)<;>with_reducible rfl)));(try simp only [ah,ak,au,ay,aA])))
   all_goals (refine yY hS rfl rfl (by repeat constructor) rfl rfl (fun hb=>⟨rfl,hb⟩))
  ·rw [show dU s=none by unfold dU;rw [hc];exact if_neg hx]
   rw [show vG (EI ⟨cg,c0,c1,c2,c3,c4⟩) ⟨cg,cx,c0,c1,c2,c3,c4⟩=false by
    cases h:vG (EI ⟨cg,c0,c1,c2,c3,c4⟩) ⟨cg,cx,c0,c1,c2,c3,c4⟩ with
    |false=>rfl
    |true=>
     have:=(yE _ _).1 h
     injection this with _ h2
     exact absurd h2.symm hx] at hne
   clear hc
   have hS:=St.start hl bJ
   go_enter Tryz.agD,Tryz.acH
   go_wp2_with (first|(go_at_call 195;(with_reducible refine (St.call hS fun hl=>Jv s hs _ HC _ hl).mono ?_);rintro e w ⟨rfl,hS⟩)|((with_reducible refine LD ?_);refine ED _ _ rfl rfl hS rfl rfl [.int .i64 c0, .int .i64 c1, .int .i64 c2, .int .i64 c3, .int .i64 c4] rfl (.tail .head) (fun j v h=>by match j,h with|0,h=>exact h|1,h=>exact h|2,h=>exact h|3,h=>exact h|4,h=>exact h|j+5,h=>cases h) (new:=Po.cells ⟨cg,c0,c1,c2,c3,c4⟩) .head (Nat.le_of_ble_eq_true rfl) rfl (by simp [Value.oneCell']) ?_;intro w hS)|((with_reducible refine aW ?_);(first|(refine aJ 50 rfl hS rfl _ nN ?_;intro g w hS)|(refine aJ 32 rfl hS rfl _ yX ?_;intro g w hS));(try simp only [ah,ak,au,ay,aA]))|((with_reducible refine rW ?_);refine wC rfl ?_;(try simp only [ah,ak,au,ay,aA]))|((with_reducible refine zJ ?_);refine En rfl rfl ?_;(try simp only [ah,ak,au,ay,aA]))|((with_reducible refine aC ?_);(first|(refine uO rfl hS rfl rfl (by repeat constructor) ?_));(try simp only [ah,ak,au,ay,aA]))|((with_reducible refine aN ?_);(first|(refine kH rfl hS rfl rfl rfl (by repeat constructor) ?_;intro w hS)|(refine yZ rfl hS rfl rfl rfl (by repeat constructor) ?_;intro w hS));(try simp only [ah,ak,au,ay,aA]))|((with_reducible refine aT ?_);refine qX 3 rfl hS (by kernel_rfl) (by kernel_rfl) (by kernel_rfl) (by decide +kernel) (by kernel_rfl) ?_;(simp only [List.take_succ_cons,List.take_zero,List.drop_succ_cons,List.drop_zero]))|((with_reducible refine tq ?_);refine pI ?_;intro w hS)|((with_reducible refine qg ?_);(refine lS (v:= ?_) rfl (fun _ _ _ h=>h) ?_ ?_;rotate_left;(focus ((intro w;go_simp)<;>with_reducible rfl)));(try simp only [ah,ak,au,ay,aA]))|((with_reducible refine aT ?_);refine bY hS (by kernel_rfl) (by kernel_rfl) ?_)|((with_reducible refine fG ?_);intro w hS)|((with_reducible refine gZ ?_);(first|(refine abN rfl rfl rfl (by repeat constructor) (fun _ _ _ h=>h) ?_)|(refine acQ rfl rfl rfl (by repeat constructor) (fun _ _ _ h=>h) ?_));(try simp only [ah,ak,au,ay,aA]))|((with_reducible refine iI ?_);(first|(refine eu (v:= ?_) (args:= ?_) 196 rfl (fun _ _ _ h=>h) ?_ ?_ ?_;rotate_left 2;(focus ((intro w;go_simp)<;>with_reducible rfl));(focus (intro w hS;refine St.jF hS (fun hl=>Gt _ _ hl) ?_;with_reducible rfl))));(try simp only [ah,ak,au,ay,aA]))|((with_reducible refine dS ?_);(refine dn (v:= ?_) rfl (fun _ _ _ h=>h) ?_ ?_;rotate_left;(focus ((intro w hS;go_simp)<;>with_reducible rfl)));(try simp only [ah,ak,au,ay,aA])))
   all_goals (refine yY hS rfl rfl (by repeat constructor) rfl rfl (fun hb=>⟨rfl,hb⟩))
theorem Vm (p:Po) (T:Str) (h:Hid (jZ p=T)) (w:World) (hl:Laid w):Calls Tryz.prog 102 #[.agg p.cells] w fun e w'=>e= .returned (.string (B T))∧Below w.heap.size w w':=
 (aen p w hl).mono fun e w' h'=>⟨by rw [h'.1,h.out],h'.2⟩
end Go.Proofs.YtdnnkgkondkhfaaGreatDoor
namespace Go.Proofs.YtdnnkgkondkhfaaGreatDoor
open Go.ChangeShapes Go.WideShapes Go.RowKit
instance (r:Am):Part (Am.cells r) 0 30 (Am.cells r):= .of (n:=19) rfl Tryz.underlying30 rfl (by kernel_rfl)
instance (r v:Am):Put (Am.cells r) 0 30 (.agg (Am.cells v)) (Am.cells v):= .of rfl rfl (by kernel_rfl) rfl
instance:Xb 30 (Am.cells dG):=⟨fun _=>by kernel_rfl⟩
instance (r:Am) (x:Int):Put (Am.cells r) 0 3 (.int .i64 x) (Am.cells ⟨x,r.n,r.c,r.f⟩):= .of rfl rfl (by kernel_rfl) rfl
instance (r:Am) (x:Int):Put (Am.cells r) 1 3 (.int .i64 x) (Am.cells ⟨r.k,x,r.c,r.f⟩):= .of rfl rfl (by kernel_rfl) rfl
instance (r:Am) (x:Int):Put (Am.cells r) 2 3 (.int .i64 x) (Am.cells ⟨r.k,r.n,x,r.f⟩):= .of rfl rfl (by kernel_rfl) rfl
instance (r:Am):Part (Am.cells r) 3 26 (aH.cells r.f):= .of (n:=16) rfl Tryz.underlying26 rfl (by kernel_rfl)
instance (r:Am) (x:aH):Put (Am.cells r) 3 26 (.agg (aH.cells x)) (Am.cells ⟨r.k,r.n,r.c,x⟩):= .of rfl rfl (by kernel_rfl) rfl
instance:AL 30 [] (.agg (Am.cells dG)):=⟨fun _=>by kernel_rfl⟩
instance (x0:Int):AL 30 [(0, .int .i64 x0)] (.agg (Am.cells ⟨x0,0,0,zeroF⟩)):=⟨fun _=>by kernel_rfl⟩
instance (x1:Int):AL 30 [(1, .int .i64 x1)] (.agg (Am.cells ⟨0,x1,0,zeroF⟩)):=⟨fun _=>by kernel_rfl⟩
instance (x0:Int) (x2:Int):AL 30 [(0, .int .i64 x0),(2, .int .i64 x2)] (.agg (Am.cells ⟨x0,0,x2,zeroF⟩)):=⟨fun _=>by kernel_rfl⟩
instance (x0:Int) (x1:Int):AL 30 [(0, .int .i64 x0),(1, .int .i64 x1)] (.agg (Am.cells ⟨x0,x1,0,zeroF⟩)):=⟨fun _=>by kernel_rfl⟩
instance (r q:Am):OT 30 (Am.cells r) (Am.cells q) (tC r q):=⟨WI r q⟩
instance {f:aH} :Len (textOf f) 1000000:=⟨oJ⟩
theorem N9 {c:Int} :dw c=[]↔ ¬(c=0∨c=1∨c=2):=by
 unfold dw
 repeat' split
 all_goals simp_all [wd,vF]
instance {c:Int} :Len (dw c) 6:=⟨aam c⟩
class Uj (n:Int):Prop where
 lo: -1000000≤n
 hi:n≤1000000
instance {n:Int} [h:Uj n]:Len (Lib.itoa n) 21:=⟨Lib.itoa_length_le n (by have:=h.lo;omega) (by have:=h.hi;omega)⟩
instance:Sub bZ Laid:=⟨fun _ h=>h.base⟩
section
variable {L:World→Prop}
instance (f:aH):mJ 56 #[.agg (aH.cells f)] L (.bool (dh f)):=⟨fun w _=>Ig f _ (Lib.hid rfl) w⟩
instance (f:aH):mJ 66 #[.agg (aH.cells f)] L (.string (B (textOf f))):=⟨fun w _=>uq f w⟩
instance (c:Int):mJ 112 #[.int .i64 c] L (.string (B (dw c))):=⟨fun w _=>(Zw c w).mono fun e w' h=>⟨h.1,h.2 ▸ Below.refl _ _⟩⟩
instance (n:Int) [h:Uj n]:mJ 83 #[.int .i64 n] L (.string (B (Lib.itoa n))):=⟨fun w _=>qA n w (by have:=h.lo;omega) (by have:=h.hi;omega)⟩
variable [Sub L Laid]
instance (n:Int) [h:Uj n]:mJ 81 #[.int .i64 n] L (.string (B (Lib.itoa n))):=⟨fun w hl=>nI n (by have:=h.lo;omega) (by have:=h.hi;omega) w (Sub.sub w hl)⟩
instance (f:aH):mJ 52 #[.agg (aH.cells f)] L (.bool (dh f)):=⟨fun w hl=>wQ f.zone f.who f.self f.types f.aV f.colors f.aP f.sub f.keys f.dJ f.pk f.pn f.tk f.tn f.vk f.vn w (Sub.sub w hl) _ (Lib.hid rfl)⟩
instance (f:aH):mJ 63 #[.agg (aH.cells f)] L (.string (B (textOf f))):=⟨fun w hl=>MS f.zone f.who f.self f.types f.aV f.colors f.aP f.sub f.keys f.dJ f.pk f.pn f.tk f.tn f.vk f.vn w (Sub.sub w hl)⟩
end
section
variable {L:World→Prop} [Sub L bZ]
instance (c:Int):mJ 100 #[.int .i64 c] L (.string (B (dw c))):=⟨fun w hl=>(ML c w (Sub.sub w hl)).mono fun e w' h=>⟨h.1,h.2 ▸ Below.refl _ _⟩⟩
end
end Go.Proofs.YtdnnkgkondkhfaaGreatDoor
namespace Go.Proofs.YtdnnkgkondkhfaaGreatDoor
attribute [local irreducible] wpList Code.wp Calls dh fK
open Go.ChangeShapes Go.WideShapes Go.RowKit
attribute [local simp] lF
def WQ (a:Am):Am:=⟨0,if a.k=0∨a.k=2 then 0 else a.n,if a.k=4 then 0 else a.c,if a.k=2 then zeroF else a.f⟩
theorem am0 (f:aH) (R:Bool) (HR:Hid (dh f=R)) (w:World) (hl:Laid w):Calls Tryz.prog 52 #[.agg f.cells] w fun e w'=>e= .returned (.bool R)∧Below w.heap.size w w':=
 wQ f.zone f.who f.self f.types f.aV f.colors f.aP f.sub f.keys f.dJ f.pk f.pn f.tk f.tn f.vk f.vn w hl R HR
theorem asr (k n c:Int) (f:aH) (w0:World):Calls Tryz.prog 253 #[.agg (Am.cells ⟨k,n,c,f⟩)] w0 fun e w'=>e= .returned (.agg (WQ ⟨k,n,c,f⟩).cells)∧Below w0.heap.size w0 w':=by
 have hS:=St.DL w0
 go_in
 go_wp2_with (first|(have hq:=iE;subst hq)|refine s0 ?_|(refine s1 ?_;clear hS;intro w hS)|(refine s2 ?_;clear hS;intro g w hS))
 all_goals first|go_ret|refine res1 hS ?_
 all_goals refine ⟨kX ?_,hS.below⟩
 all_goals (clear hS;simp_all [WQ,zeroF])
instance {L:World→Prop} (a:Am):mJ 253 #[.agg (Am.cells a)] L (.agg (Am.cells (WQ a))):=⟨fun w _=>asr a.k a.n a.c a.f w⟩
theorem alp (k n c:Int) (f:aH) (w0:World) (hl:bZ w0):Calls Tryz.prog 188 #[.agg (Am.cells ⟨k,n,c,f⟩)] w0 fun e w'=>e= .returned (.bool (iU ⟨k,n,c,f⟩))∧Below w0.heap.size w0 w':=by
 have hS:=St.start hl fun _ _ h hb=>h.below hb
 go_in
 go_wp2_with (first|(have hq:=iE;subst hq)|refine s0 ?_|(refine s1 ?_;clear hS;intro w hS)|(refine s2 ?_;clear hS;intro g w hS)|(refine s3 ?_ ?_<;>intro hb<;>(try subst hb)<;>(try (exfalso;first|omega|exact Bool.noConfusion hb))))
 all_goals go_ret
 all_goals refine ⟨aX ?_,hS.below⟩
 all_goals clear hS
 all_goals (simp_all [iU,tC,WQ,DY,N9,dG,lF]<;>first|exact fin|(rw [Bool.eq_iff_iff];simp [N9];done))
theorem asB (a:Am) (R:Bool) (HR:Hid (iU a=R)) (w:World) (hl:bZ w):Calls Tryz.prog 188 #[.agg a.cells] w fun e w'=>e= .returned (.bool R)∧Below w.heap.size w w':=HR.out ▸ alp a.k a.n a.c a.f w hl
instance {L:World→Prop} [Sub L bZ] (a:Am):mJ 188 #[.agg (Am.cells a)] L (.bool (iU a)):=⟨fun w hl=>alp a.k a.n a.c a.f w (Sub.sub w hl)⟩
end Go.Proofs.YtdnnkgkondkhfaaGreatDoor
namespace Go.Proofs.YtdnnkgkondkhfaaGreatDoor
attribute [local irreducible] wpList Code.wp Calls dh fK
open Go.ChangeShapes Go.WideShapes Go.RowKit
def TT (k:Int):Str:=if DY k=true then wd EZ k.toNat else []
theorem ZQ (k:Int) (w0:World):Calls Tryz.prog 199 #[.int .i64 k] w0 fun e w'=>e= .returned (.string (B (TT k)))∧w0=w':=by
 go_in
 go_wp2_with (have hq:=iE;subst hq)
 all_goals go_ret
 all_goals refine ⟨dL ?_,rfl⟩
 all_goals first|rfl|(simp_all [TT,DY];done)
instance {L:World→Prop} (k:Int):mJ 199 #[.int .i64 k] L (.string (B (TT k))):=⟨fun w _=>(ZQ k w).mono fun _ _ h=>⟨h.1,h.2 ▸ Below.refl _ _⟩⟩
theorem alq {a:Am} (h:(!iU a)=false):0≤a.n∧a.n≤1000000:=by
 rcases xw (by simpa using h) with ⟨n,_,rfl⟩|⟨n,_,_,f,_,rfl⟩|⟨c,_,rfl⟩|⟨k,_,rfl⟩<;>simp<;>omega
theorem al5 (k n c:Int) (f:aH) (w0:World) (hl:bZ w0):Calls Tryz.prog 101 #[.agg (Am.cells ⟨k,n,c,f⟩)] w0 fun e w'=>e= .returned (.string (B (dW ⟨k,n,c,f⟩)))∧Below w0.heap.size w0 w':=by
 have hS:=St.start hl fun _ _ h hb=>h.below hb
 go_in
 go_wp2_with (first|(have hq:=iE;subst hq)|(go_at_call 81;have hn:=alq ‹(!iU _)=false›;simp only at hn;have:Len (Lib.itoa n) 21:=⟨Lib.itoa_length_le n (by omega) (by omega)⟩;refine c_call (fun hl=>nI _ (by omega) (by omega) _ hl.base) hS ?_;clear hS;intro w hS)|refine s0 ?_|(refine s1 ?_;clear hS;intro w hS)|(refine s2 ?_;clear hS;intro g w hS))
 all_goals go_ret
 all_goals refine ⟨dL ?_,hS.below⟩
 all_goals clear hS
 all_goals first|(simp_all [dW];done)|(simp_all [dW,rZ,bT,fB,zC,wd,TT,EZ,iU,DY];done)|(simp_all [dW,rZ,bT,fB,zC,iU]<;>omega)
theorem aeM (k:Nat) (hk:k<8) (w:World):Calls Tryz.prog 199 #[.int .i64 k] w fun e w'=>e= .returned (.string (B (wd EZ k)))∧w=w':=by
 rw [show wd EZ k=TT k by have:∀k:Fin 8,wd EZ k.val=TT k.val:=by decide +kernel
  exact this ⟨k,hk⟩]
 exact ZQ k w
theorem abI (a:Am) (w:World) (hl:bZ w):Calls Tryz.prog 101 #[.agg a.cells] w fun e w'=>e= .returned (.string (B (dW a)))∧Below w.heap.size w w':=al5 a.k a.n a.c a.f w hl
instance {L:World→Prop} [Sub L bZ] (a:Am):mJ 101 #[.agg (Am.cells a)] L (.string (B (dW a))):=⟨fun w hl=>abI a w (Sub.sub w hl)⟩
theorem aiO (a:Am) (T:ByteArray) (hT:Hid (B (dW a)=T)) (w:World) (hl:bZ w):
 Calls Tryz.prog 101 #[.agg a.cells] w fun e w'=>e= .returned (.string T)∧Below w.heap.size w w':=
 (abI a w hl).mono fun e w' h=>⟨by rw [h.1,hT.out],h.2⟩
end Go.Proofs.YtdnnkgkondkhfaaGreatDoor
namespace Go.Proofs.YtdnnkgkondkhfaaGreatDoor
open Go.ChangeShapes Go.WideShapes Go.RowKit
class Lit (b:ByteArray) (l:outParam Str):Prop where
 eq:b=B l
instance (l:Str):Lit ⟨l.toArray⟩ l:=⟨rfl⟩
instance (l:Str):Lit (B l) l:=⟨rfl⟩
class jw (s:Str):Prop where
 lt:s.length<100000000
instance {s:Str} {k:Nat} [h:jw s]:jw (s.drop k):=⟨by have:=h.lt;rw [List.length_drop];omega⟩
instance {s:Str} {k:Nat} [h:jw s]:jw (s.take k):=⟨by have:=h.lt;rw [List.length_take];omega⟩
instance {s l:Str} [h:jw s]:jw (Lib.trimPrefix s l):=⟨by unfold Lib.trimPrefix;have:=h.lt;split<;>simp<;>omega⟩
instance {s l:Str} [h:jw s]:jw (Lib.trimSuffix s l):=⟨by unfold Lib.trimSuffix;have:=h.lt;split<;>simp<;>omega⟩
theorem jw.sz (s:Str) [h:jw s]:(B s).size<100000000:=by rw [bC];exact h.lt
def CO (b:Bool):Int:=cond b 0 3
theorem LP (b:Bool):(CO b != 0)= !b:=by cases b<;>rfl
theorem LM (b:Bool):(CO b==0)=b:=by cases b<;>rfl
theorem DV (s:Str) (a b:Nat):(B s).extract a b=B ((s.take b).drop a):=lD (by rw [dM,cO,cO])
theorem adS (s:Str) (n:Nat) (h:n<(B s).size):((B s)[n]'h).toNat=aI s n:=by rw [jo,cO]
theorem YN (o:Option Int):lN o= .tuple #[.int .i64 (o.getD 0), .bool o.isSome]:=by cases o<;>rfl
theorem XQ (o:Option aH):Fv o= .tuple #[.agg (aH.cells (o.getD zeroF)), .int .i64 (CO o.isSome)]:=by cases o<;>rfl
theorem RZ {P:Nat→Bool} {k m:Nat} {o:Option Nat} (h:k<m) (hq:P k=false) (ho:o=(List.range' k (m - k)).find? P):o=(List.range' (k+1) (m - (k+1))).find? P:=by
 rw [ho,show m - k=(m - (k+1))+1 by omega,List.range'_succ,List.find?_cons,hq]
theorem Og {P:Nat→Bool} {k m:Nat} {o:Option Nat} (h:k<m) (hq:P k=true) (ho:o=(List.range' k (m - k)).find? P):o=some k:=by
 rw [ho,show m - k=(m - (k+1))+1 by omega,List.range'_succ,List.find?_cons,hq]
theorem BZ {w w':World} (h:w=w'):Below w.heap.size w w':=h ▸ Below.refl _ _
section
variable {L':World→Prop}
instance (s:Str) [jw s]:mJ 202 #[.string (B s)] L' (.tuple #[.int .i64 ((rdNum s).getD 0), .bool (rdNum s).isSome]):=⟨fun w _=>(zL (B s) w (jw.sz s)).mono fun e w' h=>⟨by rw [h.1,cO,YN],h.2⟩⟩
instance (s:Str) [jw s]:mJ 72 #[.string (B s)] L' (.tuple #[.agg (aH.cells ((bW s).getD zeroF)), .int .i64 (CO (bW s).isSome)]):=⟨fun w _=>(Ih (B s) w (jw.sz s)).mono fun e w' h=>⟨by rw [h.1,cO,KA,XQ],h.2⟩⟩
instance {p:ByteArray} {l:Str} [h:Lit p l] (s:Str):mJ 165 #[.string (B s), .string p] L' (.tuple #[.string (B (Lib.trimPrefix s l)), .bool (Lib.hasPrefix s l)]):=⟨fun w _=>(sF (B s) p w l (by rw [h.eq,cO])).mono fun e w' h=>⟨by rw [h.1,cO],BZ h.2⟩⟩
instance {p:ByteArray} {l:Str} [h:Lit p l] (s:Str):mJ 171 #[.string (B s), .string p] L' (.string (B (Lib.trimPrefix s l))):=⟨fun w _=>(abt (B s) p w l (by rw [h.eq,cO]) _ (Lib.hid rfl)).mono fun e w' h=>⟨by rw [h.1,cO],BZ h.2⟩⟩
instance {p:ByteArray} {l:Str} [h:Lit p l] (s:Str) [jw s]:mJ 170 #[.string (B s), .string p] L' (.tuple #[.string (B (Lib.trimSuffix s l)), .bool (Lib.hasSuffix s l)]):=⟨fun w _=>(Tryz.strings_CutSuffix (B s) p w (by have:=jw.sz s;omega)).mono fun e w' h'=>⟨by rw [h'.1,show p=B l from h.eq];simp [cO];rfl,BZ h'.2.symm⟩⟩
instance {p:ByteArray} {l:Str} [h:Lit p l] (s:Str) [jw s]:mJ 236 #[.string (B s), .string p] L' (.string (B (Lib.trimSuffix s l))):=⟨fun w _=>(Tryz.strings_TrimSuffix (B s) p w (by have:=jw.sz s;omega)).mono fun e w' h'=>⟨by rw [h'.1,show p=B l from h.eq];simp [cO];rfl,BZ h'.2.symm⟩⟩
variable [Sub L' Laid]
instance (s:Str) [jw s]:mJ 243 #[.string (B s)] L' (.tuple #[.int .i64 ((numOf s).getD 0), .bool (numOf s).isSome]):=⟨fun w hl=>(Hy (B s) w (Sub.sub w hl) (by have:=jw.sz s;omega)).mono fun e w' h=>⟨by rw [h.1,cO,YN],h.2⟩⟩
instance (s:Str) [jw s]:mJ 95 #[.string (B s)] L' (.tuple #[.agg (aH.cells ((bW s).getD zeroF)), .int .i64 (CO (bW s).isSome)]):=⟨fun w hl=>(JL (B s) w (Sub.sub w hl) (jw.sz s)).mono fun e w' h=>⟨by rw [h.1,cO,XQ],h.2⟩⟩
end
end Go.Proofs.YtdnnkgkondkhfaaGreatDoor
namespace Go.Proofs.YtdnnkgkondkhfaaGreatDoor
attribute [local irreducible] wpList Code.wp Calls dh fK
open Go.ChangeShapes Go.WideShapes Go.RowKit
attribute [local simp] lF
attribute [local go_sem] LP LM DV
def Ug (w wr:World):Prop:=wr.heap[w.heap.size]? =some (.cells dG.cells y9)∧Below w.heap.size w wr
theorem Ug.below {w w1 w2:World} (h:Ug w w1) (hb:Below w1.heap.size w1 w2):Ug w w2:=⟨blk_below2 hb h.1,below_two h.2 hb⟩
theorem Ug.bel {w wr:World} (h:Ug w wr):Below w.heap.size w wr:=h.2
theorem Ug.setRow {w w1:World} (h:Ug w w1) {g:Nat} (hg:w.heap.size<g) (cs:Array Value):Ug w (w1.setRow g cs):=
 ⟨(setRow_other w1 g w.heap.size cs (by omega)).trans h.1,below_setRow h.2 (Nat.le_of_lt hg) cs⟩
theorem aja (s:Str) (o:Option (Str × Str)):XB (B s) o= .tuple #[.string (B (o.getD (s,[])).1), .string (B (o.getD (s,[])).2), .bool o.isSome]:=by cases o<;>rfl
instance {s:Str} {b d:Nat} [h:jw s]:jw ((nS b d s).getD (s,[])).1:=⟨by cases hc:nS b d s with
 |none=>exact h.lt
 |some p=>have:=(Oa (p:=p.1) (q:=p.2) hc).1;have:=h.lt;simp;omega⟩
instance {s:Str} {b d:Nat} [h:jw s]:jw ((nS b d s).getD (s,[])).2:=⟨by cases hc:nS b d s with
 |none=>simp
 |some p=>have:=(Oa (p:=p.1) (q:=p.2) hc).2;have:=h.lt;simp;omega⟩
instance {L':World→Prop} (s:Str) [jw s]:mJ 168 #[.string (B s), .string ⟨#[42]⟩] L' (.tuple #[.string (B ((nS 42 0 s).getD (s,[])).1), .string (B ((nS 42 0 s).getD (s,[])).2), .bool (nS 42 0 s).isSome]):=⟨fun w _=>(ak8 (B s) w (jw.sz s)).mono fun e w' h=>⟨by rw [h.1,cO,aja],h.2⟩⟩
instance {L':World→Prop} [Sub L' bZ] (s:Str):mJ 90 #[.string (B s)] L' (.tuple #[.int .i64 (((jG s).getD 0:Nat):Int), .bool (jG s).isSome]):=⟨fun w hl=>(Ph (B s) _ _ (Lib.hid ⟨by rw [cO],by rw [cO]⟩) w (Sub.sub w hl)).mono fun e w' h=>⟨h.1,BZ h.2⟩⟩
theorem ank (s:Str) [jw s] (w0:World) (hl:bZ w0):Calls Tryz.prog 192 #[.string (B s)] w0 fun e w'=>e= .returned (.agg (qp s).cells)∧Below w0.heap.size w0 w':=by
 have hS:=St.start hl fun _ _ h hb=>h.below hb
 go_in
 go_wp2_with (first|refine s0 ?_|(refine s1 ?_;clear hS;intro w hS)|(refine s2 ?_;clear hS;intro g w hS))
 any_goals
  (refine res1 hS ?_
   refine ⟨kX ?_,hS.below⟩
   clear hS
   cases hn:numOf s<;>simp_all [qp]
   done)
 have HN:Hid (numOf s=none):=Lib.hid (by clear hS;cases hn:numOf s<;>simp_all)
 have hns:(numOf s).isSome=false:=by rw [HN.out];rfl
 simp only [hns]
 generalize g=gr at *
 go_loopw [5] (fun kv wr=>∃k:Nat,k≤8∧kv= .int .i64 k∧Hid (St bZ w0 [(gr,Am.cells dG,y9)] wr)∧Hid (Q7 s=(List.range' k (8 - k)).find? fun k=>wd EZ k==s)) (fun kv _=>8 - (intOf kv).toNat)
 case atStart=>exact ⟨0,by omega,rfl,Lib.hid hS,rfl⟩
 case round=>
  obtain ⟨k,hk,rfl,HS,HL⟩:=hrel
  clear hS
  have hS:=HS.out
  clear HS
  by_cases hlt:k<8
  ·have hk7:(k:Int)≤7:=by omega
   go_wp2_with (first|(have hq:=sE;subst hq)|(go_at_call 199;refine ame (aeM k hlt _) ?_)|refine s0 ?_|(refine s1 ?_;clear hS;intro w hS))
   all_goals first
    |(refine res1 hS ?_
      refine ⟨kX ?_,hS.below⟩
      clear hS
      have hp:=Og hlt (by simp) HL.out
      unfold qp
      rw [HN.out,hp])
    |(go_roundw
      case rel=>exact ⟨k+1,by omega,congrArg (Value.int _) (by omega),Lib.hid hS,Lib.hid (RZ hlt (by assumption) HL.out)⟩
      case measure=>simp [intOf]<;>omega)
  ·have hk7:¬(k:Int)≤7:=by omega
   have HSI:Hid (Q7 s=none):=Lib.hid (by rw [HL.out,show k=8 by omega];rfl)
   clear HL
   go_wp2_with (first|refine s0 ?_|(refine s1 ?_;clear hS;intro w hS)|(refine s2 ?_;clear hS;intro g w hS))
   all_goals
    refine res1 hS ?_
    refine ⟨kX ?_,hS.below⟩
    clear hS
    unfold qp
    rw [HN.out,HSI.out]
    cases hc:nS 42 0 s<;>simp_all [FD,zC,fB]
instance {L:World→Prop} [Sub L bZ] (s:Str) [jw s]:mJ 192 #[.string (B s)] L (.agg (Am.cells (qp s))):=⟨fun w hl=>ank s w (Sub.sub w hl)⟩
end Go.Proofs.YtdnnkgkondkhfaaGreatDoor
namespace Go.Proofs.YtdnnkgkondkhfaaGreatDoor
attribute [local irreducible] wpList Code.wp Calls dh fK
open Go.ChangeShapes Go.WideShapes Go.RowKit
def xA (o:Option Am):Value:=match o with|some r=> .tuple #[.agg r.cells, .int .i64 0]|none=> .tuple #[.agg dG.cells, .int .i64 3]
theorem Xc (s:Str) [jw s] (w0:World) (hl:bZ w0):Calls Tryz.prog 91 #[.string (B s)] w0 fun e w'=>e= .returned (xA (eY s))∧Below w0.heap.size w0 w':=by
 have hS:=St.start hl fun _ _ h hb=>h.below hb
 go_in
 go_wp2_with (first|refine s0 ?_|(refine s1 ?_;clear hS;intro w hS)|(refine s2 ?_;clear hS;intro g w hS)|(refine s3 ?_ ?_<;>intro hb<;>(try subst hb)<;>(try (exfalso;first|omega|exact Bool.noConfusion hb))))
 all_goals refine res2 hS ?_
 all_goals refine ⟨ret_val ?_,hS.below⟩
 all_goals clear hS
 all_goals simp_all [eY,xA]
theorem al7 (o:Option Am):xA o= .tuple #[.agg (Am.cells (o.getD dG)), .int .i64 (CO o.isSome)]:=by cases o<;>rfl
instance {L:World→Prop} [Sub L bZ] (s:Str) [jw s]:mJ 91 #[.string (B s)] L (.tuple #[.agg (Am.cells ((eY s).getD dG)), .int .i64 (CO (eY s).isSome)]):=⟨fun w hl=>by rw [←al7];exact Xc s w (Sub.sub w hl)⟩
theorem ac5 (s:ByteArray) (w:World) (hl:bZ w) (hs:s.size<100000000):Calls Tryz.prog 91 #[.string s] w fun e w'=>e= .returned (xA (eY (L s)))∧Below w.heap.size w w':=by
 have:jw (L s):=⟨by rw [dN];exact hs⟩
 have h:=Xc (L s) w hl
 rwa [qY] at h
end Go.Proofs.YtdnnkgkondkhfaaGreatDoor
namespace Go.Proofs.YtdnnkgkondkhfaaGreatDoor
open Go.ChangeShapes Go.WideShapes Go.RowKit
end Go.Proofs.YtdnnkgkondkhfaaGreatDoor
