/- Walks: package effect: Text. Conditions: LaidM; the modifications lie where the slice says. Walks: package effect: whole, Is. Conditions: LaidM; the modifications lie where the slice says. -/
import Derived.Test.YtdicgggkdmkklaaGreatDoorQ8
import Derived.Test.YtdicgggkdmkklaaGreatDoorMEMem
import Derived.Test.YtdicgggkdmkklaaGreatDoorQ3
import Derived.Test.YtdicgggkdmkklaaGreatDoorQ9
import Derived.Test.YtdicgggkdmkklaaGreatDoorQ17
set_option linter.all false
set_option maxRecDepth 100000
set_option maxHeartbeats 16000000
namespace Go.Proofs.YtdicgggkdmkklaaGreatDoor
attribute [local irreducible] wpList Code.wp Calls
open Go.ChangeShapes Go.WideShapes Go.RowKit
section
variable {L:World→Prop} {w0 w:World} {rows:List Row} {ops:Array Oper} {rest:List Oper} {o:Oper} {a:Act} {Q:Exit→Act→World→Prop}
theorem aaw {x:Operand} (ho:o.op= .buildSlice mV 1 #[(0,x)]) (hS:St L w0 rows w) (hw:Region.wanted o (yielded ops a.tmps)=true) {s:ByteArray} (hx:a.eval x= .string s)
 (h:∀g w',St L w0 ((g,#[.string s],9)::rows) w'→wpList Tryz.prog ops Q rest (a.put o.dst (.slice (some ⟨g,0,none⟩) 1 1)) w'):wpList Tryz.prog ops Q (o::rest) a w:=
 jc hw fun K hK=>by
  have hr:(Instr.buildSlice mV 1 #[(0, .string s)]).run Tryz.prog w= .ok (.slice (some ⟨w.heap.size,0,none⟩) 1 1) (w.alloc (.cells #[.string s] 9)):=by
   kernel_rfl
  unfold Oper.wp execOp
  simp [ho,hx,Sem.run_bind,hr,Result.andThen]
  exact hK _ _ (h _ _ (hS.alloc _ _))
theorem aax (T:Nat) (v:Value) (ho:o.op= .alloc T) (hS:St L w0 rows w) (hw:Region.wanted o (yielded ops a.tmps)=true) (hz:∀w,(zeroValue T).run Tryz.prog w= .ok v w) (hv:v.cells= #[v])
 (h:∀g w',St L w0 ((g,#[v],T)::rows) w'→wpList Tryz.prog ops Q rest (a.put o.dst (.pointer (some ⟨g,0,none⟩))) w'):wpList Tryz.prog ops Q (o::rest) a w:=
 jc hw fun K hK=>by
  unfold Oper.wp execOp
  simp only [ho,Instr.alloc,newVar,newRow,Sem.run_bind,hz,Result.andThen_ok,hv]
  exact hK _ _ (h _ _ (hS.alloc #[v] T))
theorem aqg:∀w:World,(zeroValue mV).run Tryz.prog w= .ok (.slice none 0 0) w:=fun _=>by kernel_rfl
theorem aor:(Tryz.prog.info? mV).map (·.size)=some 1:=by kernel_rfl
theorem J8:∃d,Tryz.prog.underlying mV=some d∧d.isRow=false:=⟨_,Tryz.underlying73,rfl⟩
theorem QF {x y:Operand} (ho:o.op= .store mV x y) (hS:St L w0 rows w) (hw:Region.wanted o (yielded ops a.tmps)=true) {g:Nat} (hx:a.eval x= .pointer (some ⟨g,0,none⟩)) {A:Option Addr} {n c:Nat} (hy:a.eval y= .slice A n c) {v0:Value} {rows':List Row}
 (hm:jq g #[v0] #[.slice A n c] mV rows rows') (h:∀w',St L w0 rows' w'→wpList Tryz.prog ops Q rest (a.put o.dst undef) w'):wpList Tryz.prog ops Q (o::rest) a w:=
 bF ho hS hw hx hy hm (Nat.le_of_ble_eq_true rfl) rfl aor (by simp [Value.cells,Value.oneCell']) h
variable {dst:Option Tmp} {ty:TypeId} {pos:String} {af:Array Edge} {gd:Option (Nat × Bool)}
theorem akG {T k:Nat} {ps:Array (Nat × Operand)} (h:wpList Tryz.prog ops Q ((⟨dst, .buildSlice T k ps,ty,pos,af,gd⟩:Oper)::rest) a w):wpList Tryz.prog ops Q ((⟨dst, .buildSlice T k ps,ty,pos,af,gd⟩:Oper)::rest) a w:=h
end
theorem WK.start {L:World→Prop} {w0 w:World} {rows:List Row} {g gw:Nat} {s:Str} (hS:St L w0 ((g,#[.slice (some ⟨gw,0,none⟩) 1 1],mV)::(gw,#[.string (B s)],9)::rows) w):WK w0.heap.size g gw (.slice (some ⟨gw,0,none⟩) 1 1) #[.string (B s)] [s] 1:=by
 have hb:=(hS.has _ (.head _)).2
 have hb2:=(hS.has _ (.tail _ (.head _))).2
 refine ⟨by simp,by simp,⟨_,_,rfl⟩,fun w' a1 a2=> ?_⟩
 have ht:Texts w' w0.heap.size [s] (.slice (some ⟨gw,0,none⟩) 1 1):=by
  exact ⟨rfl, .inr ⟨gw,1,_,rfl,hb2,a2,by simp,by unfold maxLen;decide,rfl,rfl⟩⟩
 exact ⟨⟨_,a1,hb,ht⟩,ht⟩
theorem ai8 (r:Rf) (T:Str) (h:Hid (dI r=T)) (w:World) (hl:Laid w):Calls Tryz.prog 185 #[.agg r.cells] w fun e w'=>e= .returned (.string (B T))∧Below w.heap.size w w':=agI r (B T) (Lib.hid (by rw [h.out])) w hl
theorem ahw (a:Am) (T:Str) (h:Hid (dW a=T)) (w:World) (hl:bZ w):Calls Tryz.prog 186 #[.agg a.cells] w fun e w'=>e= .returned (.string (B T))∧Below w.heap.size w w':=ahv a (B T) (Lib.hid (by rw [h.out])) w hl
theorem ab3 (c:Int) (T:Str) (h:Hid (dw c=T)) (w:World) (hl:bZ w):Calls Tryz.prog 75 #[.int .i64 c] w fun e w'=>e= .returned (.string (B T))∧w=w':=Oz c (B T) (Lib.hid (by rw [h.out])) w hl
theorem afg (f:aH) (T:Str) (h:Hid (textOf f=T)) (w:World) (hl:Laid w):Calls Tryz.prog 38 #[.agg f.cells] w fun e w'=>e= .returned (.string (B T))∧Below w.heap.size w w':=
 (zK f w hl).mono fun e w' h'=>⟨h'.1.trans (by rw [h.out]),h'.2⟩
theorem QH (z:Int) (T:Str) (h:Hid (dR z=T)) (w:World):Calls Tryz.prog 183 #[.int .i64 z] w fun e w'=>e= .returned (.string (B T))∧Below w.heap.size w w':=
 (ajG z w).mono fun e w' h'=>⟨h'.1.trans (by rw [h.out]),h'.2⟩
theorem QZ (op:Int) (T:Str) (h:Hid (opName op=T)) (w:World) (hl:Laid w):Calls Tryz.prog 76 #[.int .i64 op] w fun e w'=>e= .returned (.string (B T))∧Below w.heap.size w w':=
 (Tv op w hl).mono fun e w' h'=>⟨h'.1.trans (by rw [h.out]),h'.2⟩
theorem ae0 (op:Int) (u:Us) (h:Hid (Dk op=u)) (w:World) (hl:Laid w):Calls Tryz.prog 78 #[.int .i64 op] w fun e w'=>e= .returned (.agg (Us.cells u))∧Below w.heap.size w w':=
 (aaQ op w hl).mono fun e w' h'=>⟨h'.1.trans (by rw [h.out]),h'.2⟩
theorem aho (l:List Str) (A:Option Addr) (c base:Nat) (w:World) (h:Texts w base l (.slice A l.length c)) (hN:l.length≤100000000) (hlen:(Lib.join l [32]).length≤140737488355328):
 Calls Tryz.prog 41 #[.slice A l.length c, .string ⟨#[32]⟩] w fun e w'=>e= .returned (.string (B (Lib.join l [32])))∧Below w.heap.size w w':=by
 go_enter Tryz.func41,Tryz.ntmps41
 go_wp2_with (go_at_call 101;(with_reducible refine (tH _ _ _ _ _ _ h hN [32] rfl hlen).mono ?_);rintro e w2 ⟨rfl,hb2⟩)
 go_ret
 exact ⟨rfl,hb2⟩
theorem WK.fin {base g gw:Nat} {v:Value} {cur:Array Value} {l:List Str} {k:Nat} (h:WK base g gw v cur l k):∃(n:Nat) (A:Option Addr) (c:Nat),v= .slice A n c∧Hid (l.length=n):=by
 obtain ⟨A,c,e⟩:=h.form
 exact ⟨_,A,c,e,Lib.hid rfl⟩
theorem ahp {base g gw:Nat} {cur:Array Value} {l:List Str} {k n:Nat} {A:Option Addr} {c:Nat} (HW:Hid (WK base g gw (.slice A n c) cur l k)) (hn:Hid (l.length=n)) (w:World) (h1:w.heap[g]? =some (.cells #[.slice A n c] mV (0,0))) (h2:w.heap[gw]? =some (.cells cur 9 (0,0))) (hk:k<1000) (hlen:(Lib.join l [32]).length≤140737488355328):
 Calls Tryz.prog 41 #[.slice A n c, .string ⟨#[32]⟩] w fun e w'=>e= .returned (.string (B (Lib.join l [32])))∧Below w.heap.size w w':=by
 obtain rfl:=hn.out
 exact aho l A c base w ((HW.out.back w h1 h2).2) (by have:=HW.out.len;omega) hlen
theorem acn (op:Int) (ref:Rf) (amt:Am) (ctr zone:Int) (card:Str) (flt:aH) (pool:Po) (mods:List Md) (va:Option Addr) (vn vc:Nat)
 (hIs:∀w,bQ ⟨op,ref,amt,ctr,zone,B card,flt,pool,mods⟩ ⟨va,vn,vc⟩ w→Calls Tryz.prog 29 #[.agg (Em.cells ⟨op,ref,amt,ctr,zone,B card,flt,pool,⟨va,vn,vc⟩⟩), .int .i64 4] w fun e w'=>e= .returned (.bool true)∧Below w.heap.size w w')
 (hv:jl ⟨op,ref,amt,ctr,zone,B card,flt,pool,mods⟩ 4=true) (w0:World) (hl:bQ ⟨op,ref,amt,ctr,zone,B card,flt,pool,mods⟩ ⟨va,vn,vc⟩ w0):
 Calls Tryz.prog 104 #[.agg (Em.cells ⟨op,ref,amt,ctr,zone,B card,flt,pool,⟨va,vn,vc⟩⟩)] w0 fun e w'=>e= .returned (.string (B (Lib.join (kM ⟨op,ref,amt,ctr,zone,B card,flt,pool,mods⟩) [32])))∧Below w0.heap.size w0 w':=by
 have hj:=Tt hv
 have l1:=MV ref
 have l2:=Oo amt
 have l3:=Gt mods
 have l4:=oH (f:=flt)
 obtain ⟨U,hU⟩:∃U,Dk op=U:=⟨_,rfl⟩
 obtain ⟨N0,hN⟩:∃T,opName op=T:=⟨_,rfl⟩
 obtain ⟨T1,hT1⟩:∃T,dI ref=T:=⟨_,rfl⟩
 obtain ⟨T2,hT2⟩:∃T,dW amt=T:=⟨_,rfl⟩
 obtain ⟨T3,hT3⟩:∃T,dw ctr=T:=⟨_,rfl⟩
 obtain ⟨T4,hT4⟩:∃T,dR zone=T:=⟨_,rfl⟩
 obtain ⟨T6,hT6⟩:∃T,textOf flt=T:=⟨_,rfl⟩
 obtain ⟨T7,hT7⟩:∃T,jY pool=T:=⟨_,rfl⟩
 obtain ⟨T8,hT8⟩:∃T,eH mods=T:=⟨_,rfl⟩
 obtain ⟨u1,u2,u3,u4,u5,u6,u7,u8⟩:=U
 have hW:kM ⟨op,ref,amt,ctr,zone,B card,flt,pool,mods⟩=[N0]++opt u1 T1++opt u4 T4++opt u3 T3++opt u5 card++opt u2 T2++opt u8 ([91]++T8++[93])++opt u7 T7++opt u6 ([40]++T6++[41]):=by
  have h1:uR op=u1:=congrArg Us.ref hU
  have h2:uA op=u2:=congrArg Us.amt hU
  have h3:uK op=u3:=congrArg Us.ctr hU
  have h4:uZ op=u4:=congrArg Us.zone hU
  have h5:uC op=u5:=congrArg Us.card hU
  have h6:uF op=u6:=congrArg Us.flt hU
  have h7:uP op=u7:=congrArg Us.pool hU
  have h8:uM op=u8:=congrArg Us.mods hU
  unfold kM yZ Gg
  simp only
  rw [h1,h2,h3,h4,h5,h6,h7,h8,hN,hT1,hT2,hT3,hT4,hT6,hT7,hT8,cO]
  simp
 rw [hT1] at l1
 rw [hT2] at l2
 rw [hT8] at l3
 rw [hT6] at l4
 rw [hW] at hj ⊢
 have HJ:=Lib.hid hj
 have GU:=Lib.hid hU
 have GN:=Lib.hid hN
 have G1:=Lib.hid hT1
 have G2:=Lib.hid hT2
 have G3:=Lib.hid hT3
 have G4:=Lib.hid hT4
 have G6:=Lib.hid hT6
 have G7:=Lib.hid hT7
 have G8:=Lib.hid hT8
 clear hj hU hN hT1 hT2 hT3 hT4 hT6 hT7 hT8 hW hv
 have hS:=St.start hl (jL _ _)
 go_enter Tryz.func104,Tryz.ntmps104
 go_wp2_with (first|fail|((refine aF rfl ?_);(first|((with_reducible refine akG ?_);refine aaw rfl hS rfl rfl ?_;intro g w hS)|((with_reducible refine aW ?_);refine aax mV (.slice none 0 0) rfl hS rfl aqg rfl ?_;intro g w hS)|((with_reducible refine aW ?_);refine aJ 112 rfl hS rfl _ YT ?_;intro g w hS)|((with_reducible refine aN ?_);refine YU rfl hS rfl rfl rfl .head ?_;intro w hS)|((with_reducible refine aN ?_);refine QF rfl hS rfl rfl rfl .head ?_;intro w hS;have HW:=Lib.hid (WK.start hS))|((with_reducible refine aC (T:=mV) ?_);obtain ⟨n0,A0,c0,hv0,HN0⟩:=HW.out.fin;subst hv0;refine aQ rfl hS rfl rfl .head J8 rfl ?_;(try simp only [ah,ak,au,ay,aA]))|((with_reducible refine aC (T:=4) ?_);(first|(refine Fp rfl hS rfl rfl (by repeat constructor) ?_));(try simp only [ah,ak,au,ay,aA]))|((with_reducible refine aC (T:=67) ?_);(first|(refine iC rfl hS rfl rfl (by repeat constructor) ?_));(try simp only [ah,ak,au,ay,aA]))|((with_reducible refine aC (T:=3) ?_);(first|(refine lq rfl hS rfl rfl (by repeat constructor) ?_));(try simp only [ah,ak,au,ay,aA]))|((with_reducible refine aC (T:=9) ?_);(first|(refine wC rfl hS rfl rfl (by repeat constructor) ?_));(try simp only [ah,ak,au,ay,aA]))|((with_reducible refine bI ?_);(first|(refine aG rfl hS rfl rfl ?_;intro g w hS));(try simp only [ah,ak,au,ay,aA]))))|((fail_if_success (with_reducible refine aB ?_));(first|(go_at_call 29;(with_reducible refine (St.call hS fun hl=>hIs _ hl).mono ?_);rintro e w ⟨rfl,hS⟩)|(go_at_call 78;(with_reducible refine (St.call hS fun hl=>ae0 _ _ GU _ hl.1.base).mono ?_);rintro e w ⟨rfl,hS⟩)|(go_at_call 76;(with_reducible refine (St.call hS fun hl=>QZ _ _ GN _ hl.1.base).mono ?_);rintro e w ⟨rfl,hS⟩)|(go_at_call 41;(with_reducible refine (St.call hS fun hl=>ahp HW HN0 _ (hS.row .head) (hS.row (.tail .head)) (by decide) (Nat.le_trans HJ.out (by decide))).mono ?_);rintro e w ⟨rfl,hS⟩)|(go_at_call 184;(with_reducible refine (ak4 _ _ hS HW (by decide) (by simp [mV])).mono ?_);rintro e w ⟨rfl,v1,gw1,ata,hS,HW⟩)|((with_reducible refine aT ?_);refine qU 6 rfl hS (by kernel_rfl) (by kernel_rfl) (by kernel_rfl) (by decide +kernel) (by kernel_rfl) ?_;(simp only [List.take_succ_cons,List.take_zero,List.drop_succ_cons,List.drop_zero]))|((with_reducible refine aT ?_);refine qU 8 rfl hS (by kernel_rfl) (by kernel_rfl) (by kernel_rfl) (by decide +kernel) (by kernel_rfl) ?_;(simp only [List.take_succ_cons,List.take_zero,List.drop_succ_cons,List.drop_zero]))|((with_reducible refine sS ?_);refine pF ?_;intro w hS)|((with_reducible refine am6 ?_);(first|(refine ajf rfl rfl rfl rfl (by (try simp only [List.length_append,List.length_cons,List.length_nil]);omega) (fun _ _ _ h=>h) ?_));(try simp only [ah,ak,au,ay,aA]))|((with_reducible refine yR ?_);(first|(refine ap4 rfl rfl (by decide +kernel) rfl (by repeat constructor) (fun _ _ _ h=>h) ?_)|(refine ap5 rfl rfl (by decide +kernel) rfl (by repeat constructor) (fun _ _ _ h=>h) ?_)|(refine ap6 rfl rfl (by decide +kernel) rfl (by repeat constructor) (fun _ _ _ h=>h) ?_)|(refine ap7 rfl rfl (by decide +kernel) rfl (by repeat constructor) (fun _ _ _ h=>h) ?_)|(refine ap8 rfl rfl (by decide +kernel) rfl (by repeat constructor) (fun _ _ _ h=>h) ?_)|(refine ap9 rfl rfl (by decide +kernel) rfl (by repeat constructor) (fun _ _ _ h=>h) ?_)|(refine aqa rfl rfl (by decide +kernel) rfl (by repeat constructor) (fun _ _ _ h=>h) ?_)|(refine an1 rfl rfl (by decide +kernel) rfl (by repeat constructor) (fun _ _ _ h=>h) ?_)|(refine ald rfl rfl (by decide +kernel) rfl (by repeat constructor) (fun _ _ _ h=>h) ?_)|(refine ale rfl rfl (by decide +kernel) rfl (by repeat constructor) (fun _ _ _ h=>h) ?_)|(refine alf rfl rfl (by decide +kernel) rfl (by repeat constructor) (fun _ _ _ h=>h) ?_)|(refine alg rfl rfl (by decide +kernel) rfl (by repeat constructor) (fun _ _ _ h=>h) ?_)|(refine alh rfl rfl (by decide +kernel) rfl (by repeat constructor) (fun _ _ _ h=>h) ?_)|(refine ali rfl rfl (by decide +kernel) rfl (by repeat constructor) (fun _ _ _ h=>h) ?_));(try simp only [ah,ak,au,ay,aA]))|((with_reducible refine Ia ?_);(first|(refine oO (v:= ?_) (args:= ?_) 185 rfl (fun _ _ _ h=>h) (by decide +kernel) ?_ ?_ ?_;rotate_left 2;(focus ((intro w;go_simp)<;>with_reducible rfl));(focus (intro X w hS;refine St.jE hS (fun hl=>ai8 _ _ G1 _ hl.1.base) ?_;with_reducible rfl)))|(refine oO (v:= ?_) (args:= ?_) 186 rfl (fun _ _ _ h=>h) (by decide +kernel) ?_ ?_ ?_;rotate_left 2;(focus ((intro w;go_simp)<;>with_reducible rfl));(focus (intro X w hS;refine St.jE hS (fun hl=>ahw _ _ G2 _ hl.1) ?_;with_reducible rfl)))|(refine oO (v:= ?_) (args:= ?_) 75 rfl (fun _ _ _ h=>h) (by decide +kernel) ?_ ?_ ?_;rotate_left 2;(focus ((intro w;go_simp)<;>with_reducible rfl));(focus (intro X w hS;refine St.Kt hS (fun hl=>ab3 _ _ G3 _ hl.1) ?_;with_reducible rfl)))|(refine oO (v:= ?_) (args:= ?_) 183 rfl (fun _ _ _ h=>h) (by decide +kernel) ?_ ?_ ?_;rotate_left 2;(focus ((intro w;go_simp)<;>with_reducible rfl));(focus (intro X w hS;refine St.jE hS (fun hl=>QH _ _ G4 _) ?_;with_reducible rfl)))|(refine oO (v:= ?_) (args:= ?_) 38 rfl (fun _ _ _ h=>h) (by decide +kernel) ?_ ?_ ?_;rotate_left 2;(focus ((intro w;go_simp)<;>with_reducible rfl));(focus (intro X w hS;refine St.jE hS (fun hl=>afg _ _ G6 _ hl.1.base) ?_;with_reducible rfl)))|(refine oO (v:= ?_) (args:= ?_) 160 rfl (fun _ _ _ h=>h) (by decide +kernel) ?_ ?_ ?_;rotate_left 2;(focus ((intro w;go_simp)<;>with_reducible rfl));(focus (intro X w hS;refine St.jE hS (fun hl=>Un _ _ G7 _ hl.1.base) ?_;with_reducible rfl)))|(refine oO (v:= ?_) (args:= ?_) 27 rfl (fun _ _ _ h=>h) (by decide +kernel) ?_ ?_ ?_;rotate_left 2;(focus ((intro w;go_simp)<;>with_reducible rfl));(focus (intro X w hS;refine St.jE hS (fun hl=>Pq ⟨op,ref,amt,ctr,zone,B card,flt,pool,mods⟩ ⟨va,vn,vc⟩ _ G8 _ hl) ?_;with_reducible rfl))));(try simp only [ah,ak,au,ay,aA]))|((with_reducible refine pX ?_);(refine lQ (v:= ?_) rfl (fun _ _ _ h=>h) ?_ ?_;rotate_left;(focus ((intro w;go_simp)<;>with_reducible rfl)));(try simp only [ah,ak,au,ay,aA])))))
 all_goals go_ret
 all_goals exact ⟨dL (by simp),hS.below⟩
end Go.Proofs.YtdicgggkdmkklaaGreatDoor
namespace Go.Proofs.YtdicgggkdmkklaaGreatDoor
attribute [local irreducible] wpList Code.wp Calls iY iT dh eH jY dw isName fRef rG rH oC fCard qL oz ou vU sV fK uV textOf
open Go.ChangeShapes Go.WideShapes Go.RowKit
theorem aoH (f g:aH) (w:World):(binOp .neq TF (.agg f.cells) (.agg g.cells)).run Tryz.prog w= .ok (.bool (!fK f g)) w:=by
 have h:=an4 f g w
 rw [run_eql_struct] at h
 rw [run_neq_struct]
 generalize (Op.equalIn 10000 TF (.agg f.cells) (.agg g.cells)).run Tryz.prog w=x at *
 cases x<;>simp_all [Result.andThen]
theorem ahm (s:ByteArray) (R:Bool) (h:Hid (isName (L s)=R)) (w:World) (hl:Laid w):Calls Tryz.prog 149 #[.string s] w fun e w'=>e= .returned (.bool R)∧Below w.heap.size w w':=
 (QD s w hl.shaped).mono fun e w' h'=>⟨by rw [h'.1,h.out],h'.2⟩
theorem aeJ (c:Int) (T:Str) (h:Hid (dw c=T)) (w:World) (hl:bZ w):Calls Tryz.prog 75 #[.int .i64 c] w fun e w'=>e= .returned (.string (B T))∧w=w':=
 Oz c (B T) (Lib.hid (by rw [h.out])) w hl
end Go.Proofs.YtdicgggkdmkklaaGreatDoor
