/- Walks: package keyword: the names. Conditions: none. -/
import Derived.Test.YtdicgggkdmkklaaGreatDoorQ1
set_option linter.all false
set_option maxRecDepth 100000
set_option maxHeartbeats 16000000
namespace Go.Proofs.YtdicgggkdmkklaaGreatDoor
open Go.ChangeShapes Go.WideShapes Go.RowKit
theorem Dy (a b:ByteArray) (g:Nat) (w:World) (R:ByteArray) (h0:w.cell? ⟨g,0,none⟩=some (.string a)) (h1:w.cell? ⟨g,1,none⟩=some (.string b)) (hb:b.toList.isEmpty=false) (hR:(if a.toList.isEmpty then b else a)=R):
 Calls Tryz.prog 179 #[.slice (some ⟨g,0,none⟩) 2 2] w fun e w'=>e= .returned (.string R)∧w=w':=by
 have h01:(0:Int)<2:=by decide
 have HR:=Lib.hid hR;clear hR
 cases ha:a.toList.isEmpty
 ·go_enter Tryz.func179,Tryz.ntmps179
  go_wp2
  refine wp_loop_rounds 1 ?_
  rw [rounds_succ]
  go_wp2
  go_ret
  exact ⟨dV (by rw [←HR.out,ha];rfl),rfl⟩
 ·go_enter Tryz.func179,Tryz.ntmps179
  go_wp2
  refine wp_loop_rounds 2 ?_
  rw [rounds_succ]
  go_wp2
  rw [rounds_succ]
  go_wp2
  go_ret
  exact ⟨dV (by rw [←HR.out,ha];rfl),rfl⟩
theorem apE {k j:Nat} (hk:k=j) (hj:j<31) (c:Nat):(wrap64 ((2:Int) ^ k)==((2 ^ c:Nat):Int))=decide (j=c):=by
 subst hk
 rw [Dp hj,Bool.eq_iff_iff]
 simp only [beq_iff_eq,decide_eq_true_eq,Int.natCast_inj]
 exact ⟨fun h=>(Nat.pow_right_inj (by decide)).1 h,fun h=>by rw [h]⟩
theorem ag6 {K:Act→World→Prop} {Q:Exit→Act→World→Prop} {n:Nat} {a:Act} {w:World} (h:Q (.exit n) a w):Exit.then K Q (.exit n) a w:=h
theorem ajt {K:Act→World→Prop} {Q:Exit→Act→World→Prop} {a:Act} {w:World} (h:Q .ret a w):Exit.then K Q .ret a w:=h
theorem ZE {Q:Exit→Act→World→Prop} {i:Nat} {a:Act} {w:World} (h:Q .ret a w):Exit.inBlock i Q .ret a w:=h
theorem Xd {Q:Exit→Act→World→Prop} {i:Nat} {a:Act} {w:World} (h:Q .normal a w):Exit.inBlock i Q (.exit i) a w:=by
 show (if i=i then Q .normal a w else Q (.exit i) a w);rw [if_pos rfl];exact h
theorem Vd {Q:Exit→Act→World→Prop} {i n:Nat} {a:Act} {w:World} (hn:(n==i)=false) (h:Q (.exit n) a w):Exit.inBlock i Q (.exit n) a w:=by
 show (if n=i then Q .normal a w else Q (.exit n) a w);rw [if_neg (by simpa using hn)];exact h
theorem Hw (w:World) (a b:Value) (t:TypeId):(w.alloc (.cells #[a,b] t)).cell? ⟨w.heap.size,0,none⟩=some a:=by simp
theorem Hy (w:World) (a b:Value) (t:TypeId):(w.alloc (.cells #[a,b] t)).cell? ⟨w.heap.size,1,none⟩=some b:=by simp
theorem L9 (k:Nat) (hk:k<17) (w:World):
 Calls Tryz.prog 99 #[.int .i64 k] w fun e w'=>e= .returned (.string (B (bK.getD k [])))∧Below w.heap.size w w':=by
 have F:=fun c=>apE (k:=k) rfl (by omega) c
 have f0:(wrap64 ((2:Int) ^ k)==1)=decide (k=0):=F 0
 have f1:(wrap64 ((2:Int) ^ k)==2)=decide (k=1):=F 1
 have f2:(wrap64 ((2:Int) ^ k)==4)=decide (k=2):=F 2
 have f3:(wrap64 ((2:Int) ^ k)==8)=decide (k=3):=F 3
 have f4:(wrap64 ((2:Int) ^ k)==16)=decide (k=4):=F 4
 have f5:(wrap64 ((2:Int) ^ k)==32)=decide (k=5):=F 5
 have f6:(wrap64 ((2:Int) ^ k)==64)=decide (k=6):=F 6
 have f7:(wrap64 ((2:Int) ^ k)==128)=decide (k=7):=F 7
 have f8:(wrap64 ((2:Int) ^ k)==256)=decide (k=8):=F 8
 have f9:(wrap64 ((2:Int) ^ k)==512)=decide (k=9):=F 9
 have f10:(wrap64 ((2:Int) ^ k)==1024)=decide (k=10):=F 10
 have f11:(wrap64 ((2:Int) ^ k)==2048)=decide (k=11):=F 11
 have f12:(wrap64 ((2:Int) ^ k)==4096)=decide (k=12):=F 12
 have f13:(wrap64 ((2:Int) ^ k)==8192)=decide (k=13):=F 13
 have f14:(wrap64 ((2:Int) ^ k)==16384)=decide (k=14):=F 14
 have f16:(wrap64 ((2:Int) ^ k)==65536)=decide (k=16):=F 16
 have g2:(k:Int)<17:=by omega
 obtain ⟨R,hR⟩:∃R,bK.getD k []=R:=⟨_,rfl⟩
 rw [hR]
 have hc:k=0∨k=1∨k=2∨k=3∨k=4∨k=5∨k=6∨k=7∨k=8∨k=9∨k=10∨k=11∨k=12∨k=13∨k=14∨k=15∨k=16:=by omega
 clear F hk
 rcases hc with h|h|h|h|h|h|h|h|h|h|h|h|h|h|h|h|h
 all_goals
  have e:∀c:Nat,decide (k=c)=decide (_=c):=fun c=>congrArg (fun x=>decide (x=c)) h
  have HR:Hid (B (bK.getD _ [])=B R):=Lib.hid (congrArg B ((congrArg (fun x=>bK.getD x []) h).symm.trans hR))
  clear h hR
  go_enter Tryz.func99,Tryz.ntmps99
  repeat (first|(refine wp_exit ?_;repeat (first|refine ag6 ?_|refine Xd ?_|refine Vd rfl ?_))|(refine wp_ret ?_;repeat (first|refine ajt ?_|refine ZE ?_))|(go_at_call 179;(first|refine (Dy ⟨#[102,105,114,115,116]⟩ ⟨#[100,111,117,98,108,101]⟩ _ _ ⟨#[102,105,114,115,116]⟩ (Hw _ _ _ _) (Hy _ _ _ _) (by simp) (by simp)).mono ?_|refine (Dy ⟨#[]⟩ ⟨#[100,111,117,98,108,101]⟩ _ _ ⟨#[100,111,117,98,108,101]⟩ (Hw _ _ _ _) (Hy _ _ _ _) (by simp) (by simp)).mono ?_|refine (Dy ⟨#[110,111]⟩ ⟨#[109,117,115,116]⟩ _ _ ⟨#[110,111]⟩ (Hw _ _ _ _) (Hy _ _ _ _) (by simp) (by simp)).mono ?_|refine (Dy ⟨#[]⟩ ⟨#[109,117,115,116]⟩ _ _ ⟨#[109,117,115,116]⟩ (Hw _ _ _ _) (Hy _ _ _ _) (by simp) (by simp)).mono ?_);rintro e w' ⟨rfl,rfl⟩;dsimp only)|go_step)
  go_ret
  exact ⟨dV HR.out,by first|exact Below.refl _ _|exact (Below.refl _ _).alloc (Nat.le_refl _) _⟩
end Go.Proofs.YtdicgggkdmkklaaGreatDoor
