/- Plain words on memory: a struct in the middle of a row, loaded and stored; triggers' rows and ==; what chapter 18 is given. Conditions: none. Walks: package trigger: Is, Text. Conditions: LaidT. -/
import Derived.Test.YtdicgggkdmkklaaGreatDoorQ3
import Derived.Test.YtdicgggkdmkklaaGreatDoorQ2
import Derived.Deep.MidRow
import Derived.Laws.CopyRow
import Derived.Test.YtdicgggkdmkklaaGreatDoorQ9
set_option linter.all false
set_option maxRecDepth 100000
set_option maxHeartbeats 16000000
namespace Go.Proofs.YtdicgggkdmkklaaGreatDoor
open Go.ChangeShapes Go.WideShapes Go.RowKit
abbrev TTg:Nat:=33
def asz (r q:Tg):Bool:=r.k==q.k&&(r.who==q.who&&fK r.f q.f)
theorem avq (r q:Tg):asz r q=true↔r=q:=by
 obtain ⟨a,b,f⟩:=r
 obtain ⟨a2,b2,f2⟩:=q
 simp only [asz,Bool.and_eq_true,beq_iff_eq,lI,Tg.mk.injEq]
theorem aC6 (r q:Tg) (w:World):(binOp .eql 33 (.agg r.cells) (.agg q.cells)).run Tryz.prog w= .ok (.bool (asz r q)) w:=by
 rw [run_eql_struct,run_equalIn_agg w 9999 33 _ _ (by kernel_rfl) (by kernel_rfl)]
 simp [asz,fK,Tg.cells,go_sem,Tryz.underlying33,Tryz.fieldsF,Tryz.stoodF,Tryz.underlying25,Tryz.underlying23,Tryz.underlying3,Tryz.underlying9]
 iterate 17 (refine yX (by simp) ?_)
 split
 ·rename_i h;rw [h];simp
 ·rename_i h;rw [beq_eq_false_iff_ne.2 h]
def av3:Array Value:=(ajX.map fun x=>Value.string (B x)).toArray
structure ahi (w:World):Prop where
 base:Laid w
 verbs:∃ty fr,w.heap[(0:Nat)]? =some (.cells av3 ty fr)
theorem ahi.below {w w':World} (h:ahi w) (hb:Below w.heap.size w w'):ahi w':=⟨h.base.below hb,by
 obtain ⟨ty,fr,hv⟩:=h.verbs
 exact ⟨ty,fr,aaD hb hv⟩⟩
theorem ahi.alloc {w:World} (h:ahi w) (o:Obj):ahi (w.alloc o):=h.below ((Below.refl _ _).alloc (Nat.le_refl _) _)
theorem ahi.verb {w:World} (h:ahi w) {k:Nat} (hk:k<15):w.cell? ⟨(0:Nat),k,none⟩=some (.string (B (wd ajX k))):=by
 obtain ⟨ty,fr,hv⟩:=h.verbs
 rw [cell_of_row _ _ k _ _ _ hv]
 have hl:k<ajX.length:=hk
 simp [av3,wd,List.getD,hl]
theorem ars (k:Int) (h1:1≤k) (h2:k≤14) (w:World):Calls Tryz.prog 79 #[.int .i64 k] w fun e w'=>e= .returned (.tuple #[.bool (atp k), .bool (an7 k)])∧w=w':=by
 have hc:k=1∨k=2∨k=3∨k=4∨k=5∨k=6∨k=7∨k=8∨k=9∨k=10∨k=11∨k=12∨k=13∨k=14:=by omega
 clear h1 h2
 rcases hc with rfl|rfl|rfl|rfl|rfl|rfl|rfl|rfl|rfl|rfl|rfl|rfl|rfl|rfl
 all_goals
  go_enter Tryz.func79,Tryz.ntmps79
  go_wp2
  go_ret2
  exact ⟨rfl,rfl⟩
instance aGA (r:Tg):Part (Tg.cells r) 0 33 (Tg.cells r):= .of (n:=18) rfl Tryz.underlying33 rfl (by kernel_rfl)
instance aGB (r v:Tg):Put (Tg.cells r) 0 33 (.agg (Tg.cells v)) (Tg.cells v):= .of rfl rfl (by kernel_rfl) rfl
instance aGC:VX 33 (Tg.cells adY):=⟨fun _=>by kernel_rfl⟩
instance aGD (r:Tg) (x:Int):Put (Tg.cells r) 0 3 (.int .i64 x) (Tg.cells ⟨x,r.who,r.f⟩):= .of rfl rfl (by kernel_rfl) rfl
instance aGE (r:Tg) (x:Int):Put (Tg.cells r) 1 3 (.int .i64 x) (Tg.cells ⟨r.k,x,r.f⟩):= .of rfl rfl (by kernel_rfl) rfl
instance aGF (r:Tg):Part (Tg.cells r) 2 25 (aH.cells r.f):= .of (n:=16) rfl Tryz.underlying25 rfl (by kernel_rfl)
instance aGG (r:Tg) (x:aH):Put (Tg.cells r) 2 25 (.agg (aH.cells x)) (Tg.cells ⟨r.k,r.who,x⟩):= .of rfl rfl (by kernel_rfl) rfl
instance aGH:Ae 33 [] (.agg (Tg.cells adY)):=⟨fun _=>by kernel_rfl⟩
instance aGI (x0:Int):Ae 33 [(0, .int .i64 x0)] (.agg (Tg.cells ⟨x0,0,aaB⟩)):=⟨fun _=>by kernel_rfl⟩
instance aGJ (x0:Int) (x1:Int):Ae 33 [(0, .int .i64 x0),(1, .int .i64 x1)] (.agg (Tg.cells ⟨x0,x1,aaB⟩)):=⟨fun _=>by kernel_rfl⟩
instance (r q:Tg):Ob 33 (Tg.cells r) (Tg.cells q) (asz r q):=⟨aC6 r q⟩
attribute [local irreducible] wpList Code.wp Calls dh fK
attribute [local simp] lD
theorem axl:∀k:Nat,(wd ajX k).length≤7:=l7 (by decide)
instance {k:Nat} :Len (wd ajX k) 7:=⟨axl k⟩
instance:Sub ahi Laid:=⟨fun _ h=>h.base⟩
theorem aDg (k who:Int) (f:aH) (w0:World) (hl:ahi w0):Calls Tryz.prog 30 #[.agg (Tg.cells ⟨k,who,f⟩)] w0 fun e w'=>e= .returned (.bool (ajU ⟨k,who,f⟩))∧Below w0.heap.size w0 w':=by
 have hS:=St.start hl fun _ _ h hb=>h.below hb
 go_in
 go_wp2_with (first|(have hq:=iE;subst hq)|(have hq:=sE;subst hq)|(go_at_call 79;refine akH (ars _ (by omega) (by omega) _) ?_)|refine s0 ?_|(refine s1 ?_;clear hS;intro w hS)|(refine s2 ?_;clear hS;intro g w hS)|(refine s4 ?_;clear hS;intro g cur cw w hw hcw hS)|(refine s3 ?_ ?_<;>intro hb<;>(try subst hb)<;>(try (exfalso;first|omega|exact Bool.noConfusion hb))))
 all_goals go_ret
 all_goals refine ⟨aX ?_,hS.below⟩
 all_goals (clear hS;simp_all [ajU,axo]<;>exact fin)
instance {L:World→Prop} [Sub L ahi] (t:Tg):mG 30 #[.agg (Tg.cells t)] L (.bool (ajU t)):=⟨fun w hl=>aDg t.k t.who t.f w (Sub.sub w hl)⟩
theorem aDh {t:Tg} (h:(!ajU t)=false):1≤t.k∧t.k≤14:=by
 simp only [ajU,Bool.not_eq_false',Bool.and_eq_true,decide_eq_true_eq] at h
 exact h.1
theorem aBL (k who:Int) (f:aH) (w0:World) (hl:ahi w0):Calls Tryz.prog 40 #[.agg (Tg.cells ⟨k,who,f⟩)] w0 fun e w'=>e= .returned (.string (B (aei ⟨k,who,f⟩)))∧Below w0.heap.size w0 w':=by
 have hS:=St.start hl fun _ _ h hb=>h.below hb
 go_in
 go_upto_region 3 with (first|(have hq:=iE;subst hq)|(have hq:=sE;subst hq)|refine s0 ?_|(refine s1 ?_;clear hS;intro w hS)|(refine s2 ?_;clear hS;intro g w hS)|(refine s4 ?_;clear hS;intro g cur cw w hw hcw hS)|(refine s3 ?_ ?_<;>intro hb<;>(try subst hb)<;>(try (exfalso;first|omega|exact Bool.noConfusion hb))))
 ·go_ret
  refine ⟨dL ?_,hS.below⟩
  clear hS;simp_all [aei]
 ·have hn:=aDh ‹(!ajU _)=false›
  simp only at hn
  obtain ⟨n,rfl⟩:∃n:Nat,k=n:=⟨k.toNat,by omega⟩
  have hv:=hS.laid.verb (k:=n) (by omega)
  go_wp2_with (first|(have hq:=iE;subst hq)|(have hq:=sE;subst hq)|(go_at_call 79;refine akH (ars _ (by omega) (by omega) _) ?_)|refine s0 ?_|(refine s1 ?_;clear hS;intro w hS)|(refine s2 ?_;clear hS;intro g w hS)|(refine s4 ?_;clear hS;intro g cur cw w hw hcw hS)|(refine s3 ?_ ?_<;>intro hb<;>(try subst hb)<;>(try (exfalso;first|omega|exact Bool.noConfusion hb))))
  all_goals go_ret
  all_goals refine ⟨dL ?_,hS.below⟩
  all_goals clear hS
  all_goals simp_all [aei,ajQ,aqW,aon]
theorem aBK (t:Tg) (w:World) (hl:ahi w):Calls Tryz.prog 40 #[.agg t.cells] w fun e w'=>e= .returned (.string (B (aei t)))∧Below w.heap.size w w':=aBL t.k t.who t.f w hl
instance {L:World→Prop} [Sub L ahi] (t:Tg):mG 40 #[.agg (Tg.cells t)] L (.string (B (aei t))):=⟨fun w hl=>aBK t w (Sub.sub w hl)⟩
end Go.Proofs.YtdicgggkdmkklaaGreatDoor
