/- Abilities in memory: rows of specifications, prices, abilities; what an ability's slices point to. Conditions: none. Steps of a walk: contracts for abilities: costs, joins of the call's own lists; -/
import Derived.Test.YtdicgggkdmkklaaGreatDoorMVLaw
import Derived.Test.YtdicgggkdmkklaaGreatDoorQ17
import Derived.Test.YtdicgggkdmkklaaGreatDoorMTg
import Derived.Test.YtdicgggkdmkklaaGreatDoorQ3
import Derived.Test.YtdicgggkdmkklaaGreatDoorMEParse
import Derived.Test.YtdicgggkdmkklaaGreatDoorMTp
import Derived.Test.YtdicgggkdmkklaaGreatDoorQ9
import Derived.Test.YtdicgggkdmkklaaGreatDoorQ11
import Derived.Test.YtdicgggkdmkklaaGreatDoorShelfR
import Derived.Test.YtdicgggkdmkklaaGreatDoorQ7
set_option linter.all false
set_option maxRecDepth 100000
set_option maxHeartbeats 16000000
namespace Go.Proofs.YtdicgggkdmkklaaGreatDoor
open Go.ChangeShapes Go.WideShapes Go.RowKit
def Sp.cells (r:Sp):Array Value:=#[.bool r.pl, .bool r.ob, .int .i64 r.f.zone, .int .i64 r.f.who, .int .i64 r.f.self, .int .i64 r.f.types, .int .i64 r.f.aV, .int .i64 r.f.colors, .int .i64 r.f.aP, .string r.f.sub, .int .i64 r.f.keys, .int .i64 r.f.dJ, .int .i64 r.f.pk, .int .i64 r.f.pn, .int .i64 r.f.tk, .int .i64 r.f.tn, .int .i64 r.f.vk, .int .i64 r.f.vn]
def Pr.cells (r:Pr):Array Value:=#[.int .i64 r.aeC.g, .int .i64 r.aeC.x, .int .i64 r.aeC.c0, .int .i64 r.aeC.c1, .int .i64 r.aeC.c2, .int .i64 r.aeC.c3, .int .i64 r.aeC.c4, .bool r.dJ, .bool r.fM, .int .i64 r.life]
structure Ax where
 kind:Int
 f:aH
 mods:Sl
 pr:Pr
 slow:Bool
 t:Tg
 may:Bool
 specs:Sl
 qE:Sl
 r:Rp
def Ax.cells (r:Ax):Array Value:=#[.int .i64 r.kind, .int .i64 r.f.zone, .int .i64 r.f.who, .int .i64 r.f.self, .int .i64 r.f.types, .int .i64 r.f.aV, .int .i64 r.f.colors, .int .i64 r.f.aP, .string r.f.sub, .int .i64 r.f.keys, .int .i64 r.f.dJ, .int .i64 r.f.pk, .int .i64 r.f.pn, .int .i64 r.f.tk, .int .i64 r.f.tn, .int .i64 r.f.vk, .int .i64 r.f.vn, .slice r.mods.a r.mods.n r.mods.c, .int .i64 r.pr.aeC.g, .int .i64 r.pr.aeC.x, .int .i64 r.pr.aeC.c0, .int .i64 r.pr.aeC.c1, .int .i64 r.pr.aeC.c2, .int .i64 r.pr.aeC.c3, .int .i64 r.pr.aeC.c4, .bool r.pr.dJ, .bool r.pr.fM, .int .i64 r.pr.life, .bool r.slow, .int .i64 r.t.k, .int .i64 r.t.who, .int .i64 r.t.f.zone, .int .i64 r.t.f.who, .int .i64 r.t.f.self, .int .i64 r.t.f.types, .int .i64 r.t.f.aV, .int .i64 r.t.f.colors, .int .i64 r.t.f.aP, .string r.t.f.sub, .int .i64 r.t.f.keys, .int .i64 r.t.f.dJ, .int .i64 r.t.f.pk, .int .i64 r.t.f.pn, .int .i64 r.t.f.tk, .int .i64 r.t.f.tn, .int .i64 r.t.f.vk, .int .i64 r.t.f.vn, .bool r.may, .slice r.specs.a r.specs.n r.specs.c, .slice r.qE.a r.qE.n r.qE.c, .int .i64 r.r.on, .int .i64 r.r.who, .int .i64 r.r.f.zone, .int .i64 r.r.f.who, .int .i64 r.r.f.self, .int .i64 r.r.f.types, .int .i64 r.r.f.aV, .int .i64 r.r.f.colors, .int .i64 r.r.f.aP, .string r.r.f.sub, .int .i64 r.r.f.keys, .int .i64 r.r.f.dJ, .int .i64 r.r.f.pk, .int .i64 r.r.f.pn, .int .i64 r.r.f.tk, .int .i64 r.r.f.tn, .int .i64 r.r.f.vk, .int .i64 r.r.f.vn, .int .i64 r.r.d, .int .i64 r.r.n, .int .i64 r.r.z, .int .i64 r.r.c]
def aqY:Ax:=⟨0,aaB,⟨none,0,0⟩,RD,false,adY,false,⟨none,0,0⟩,⟨none,0,0⟩,I5⟩
def Ab.at (a:Ab) (m s e:Sl):Ax:=⟨a.k,a.f,m,a.pr,a.slow,a.t,a.may,s,e,a.r⟩
instance aGr (r:Sp):Part (Sp.cells r) 0 49 (Sp.cells r):= .of (n:=18) rfl Tryz.underlying49 rfl (by kernel_rfl)
instance aGs (r v:Sp):Put (Sp.cells r) 0 49 (.agg (Sp.cells v)) (Sp.cells v):= .of rfl rfl (by kernel_rfl) rfl
instance aGt:VX 49 (Sp.cells auG):=⟨fun _=>by kernel_rfl⟩
instance aGu (r:Sp) (x:Bool):Put (Sp.cells r) 0 4 (.bool x) (Sp.cells ⟨x,r.ob,r.f⟩):= .of rfl rfl (by kernel_rfl) rfl
instance aGv (r:Sp) (x:Bool):Put (Sp.cells r) 1 4 (.bool x) (Sp.cells ⟨r.pl,x,r.f⟩):= .of rfl rfl (by kernel_rfl) rfl
instance aGw (r:Sp):Part (Sp.cells r) 2 25 (aH.cells r.f):= .of (n:=16) rfl Tryz.underlying25 rfl (by kernel_rfl)
instance aGx (r:Sp) (x:aH):Put (Sp.cells r) 2 25 (.agg (aH.cells x)) (Sp.cells ⟨r.pl,r.ob,x⟩):= .of rfl rfl (by kernel_rfl) rfl
instance aGy:Ae 49 [] (.agg (Sp.cells auG)):=⟨fun _=>by kernel_rfl⟩
instance aGz (x0:Bool):Ae 49 [(0, .bool x0)] (.agg (Sp.cells ⟨x0,false,aaB⟩)):=⟨fun _=>by kernel_rfl⟩
instance aGe (r:Pr):Part (Pr.cells r) 0 31 (Pr.cells r):= .of (n:=10) rfl Tryz.underlying31 rfl (by kernel_rfl)
instance aGf (r v:Pr):Put (Pr.cells r) 0 31 (.agg (Pr.cells v)) (Pr.cells v):= .of rfl rfl (by kernel_rfl) rfl
instance aGg:VX 31 (Pr.cells RD):=⟨fun _=>by kernel_rfl⟩
instance aGh (r:Pr):Part (Pr.cells r) 0 29 (Co.cells r.aeC):= .of (n:=7) rfl Tryz.underlying29 rfl (by kernel_rfl)
instance aGi (r:Pr) (x:Co):Put (Pr.cells r) 0 29 (.agg (Co.cells x)) (Pr.cells ⟨x,r.dJ,r.fM,r.life⟩):= .of rfl rfl (by kernel_rfl) rfl
instance aGj (r:Pr) (x:Bool):Put (Pr.cells r) 7 4 (.bool x) (Pr.cells ⟨r.aeC,x,r.fM,r.life⟩):= .of rfl rfl (by kernel_rfl) rfl
instance aGk (r:Pr) (x:Bool):Put (Pr.cells r) 8 4 (.bool x) (Pr.cells ⟨r.aeC,r.dJ,x,r.life⟩):= .of rfl rfl (by kernel_rfl) rfl
instance aGl (r:Pr) (x:Int):Put (Pr.cells r) 9 3 (.int .i64 x) (Pr.cells ⟨r.aeC,r.dJ,r.fM,x⟩):= .of rfl rfl (by kernel_rfl) rfl
instance aGm:Ae 31 [] (.agg (Pr.cells RD)):=⟨fun _=>by kernel_rfl⟩
instance aF4 (r:Ax):Part (Ax.cells r) 0 39 (Ax.cells r):= .of (n:=72) rfl Tryz.underlying39 rfl (by kernel_rfl)
instance aF5 (r v:Ax):Put (Ax.cells r) 0 39 (.agg (Ax.cells v)) (Ax.cells v):= .of rfl rfl (by kernel_rfl) rfl
instance aF6:VX 39 (Ax.cells aqY):=⟨fun _=>by kernel_rfl⟩
instance aF7 (r:Ax) (x:Int):Put (Ax.cells r) 0 3 (.int .i64 x) (Ax.cells ⟨x,r.f,r.mods,r.pr,r.slow,r.t,r.may,r.specs,r.qE,r.r⟩):= .of rfl rfl (by kernel_rfl) rfl
instance aF8 (r:Ax):Part (Ax.cells r) 1 25 (aH.cells r.f):= .of (n:=16) rfl Tryz.underlying25 rfl (by kernel_rfl)
instance aF9 (r:Ax) (x:aH):Put (Ax.cells r) 1 25 (.agg (aH.cells x)) (Ax.cells ⟨r.kind,x,r.mods,r.pr,r.slow,r.t,r.may,r.specs,r.qE,r.r⟩):= .of rfl rfl (by kernel_rfl) rfl
instance aGa (r:Ax) (xa:Option Addr) (xn xc:Nat):Put (Ax.cells r) 17 26 (.slice xa xn xc) (Ax.cells ⟨r.kind,r.f,⟨xa,xn,xc⟩,r.pr,r.slow,r.t,r.may,r.specs,r.qE,r.r⟩):= .of rfl rfl (by kernel_rfl) rfl
instance aGb (r:Ax):Part (Ax.cells r) 18 31 (Pr.cells r.pr):= .of (n:=10) rfl Tryz.underlying31 rfl (by kernel_rfl)
instance aGc (r:Ax) (x:Pr):Put (Ax.cells r) 18 31 (.agg (Pr.cells x)) (Ax.cells ⟨r.kind,r.f,r.mods,x,r.slow,r.t,r.may,r.specs,r.qE,r.r⟩):= .of rfl rfl (by kernel_rfl) rfl
instance aGd (r:Ax) (x:Bool):Put (Ax.cells r) 28 4 (.bool x) (Ax.cells ⟨r.kind,r.f,r.mods,r.pr,x,r.t,r.may,r.specs,r.qE,r.r⟩):= .of rfl rfl (by kernel_rfl) rfl
instance aFL (r:Ax):Part (Ax.cells r) 29 33 (Tg.cells r.t):= .of (n:=18) rfl Tryz.underlying33 rfl (by kernel_rfl)
instance aFM (r:Ax) (x:Tg):Put (Ax.cells r) 29 33 (.agg (Tg.cells x)) (Ax.cells ⟨r.kind,r.f,r.mods,r.pr,r.slow,x,r.may,r.specs,r.qE,r.r⟩):= .of rfl rfl (by kernel_rfl) rfl
instance aFN (r:Ax) (x:Bool):Put (Ax.cells r) 47 4 (.bool x) (Ax.cells ⟨r.kind,r.f,r.mods,r.pr,r.slow,r.t,x,r.specs,r.qE,r.r⟩):= .of rfl rfl (by kernel_rfl) rfl
instance aFO (r:Ax) (xa:Option Addr) (xn xc:Nat):Put (Ax.cells r) 48 34 (.slice xa xn xc) (Ax.cells ⟨r.kind,r.f,r.mods,r.pr,r.slow,r.t,r.may,⟨xa,xn,xc⟩,r.qE,r.r⟩):= .of rfl rfl (by kernel_rfl) rfl
instance aFP (r:Ax) (xa:Option Addr) (xn xc:Nat):Put (Ax.cells r) 49 35 (.slice xa xn xc) (Ax.cells ⟨r.kind,r.f,r.mods,r.pr,r.slow,r.t,r.may,r.specs,⟨xa,xn,xc⟩,r.r⟩):= .of rfl rfl (by kernel_rfl) rfl
instance aFQ (r:Ax):Part (Ax.cells r) 50 37 (Rp.cells r.r):= .of (n:=22) rfl Tryz.underlying37 rfl (by kernel_rfl)
instance aFR (r:Ax) (x:Rp):Put (Ax.cells r) 50 37 (.agg (Rp.cells x)) (Ax.cells ⟨r.kind,r.f,r.mods,r.pr,r.slow,r.t,r.may,r.specs,r.qE,x⟩):= .of rfl rfl (by kernel_rfl) rfl
instance aFS:Ae 39 [] (.agg (Ax.cells aqY)):=⟨fun _=>by kernel_rfl⟩
instance aFT (x0:Int):Ae 39 [(0, .int .i64 x0)] (.agg (Ax.cells ⟨x0,aaB,⟨none,0,0⟩,RD,false,adY,false,⟨none,0,0⟩,⟨none,0,0⟩,I5⟩)):=⟨fun _=>by kernel_rfl⟩
instance aFU (x0:Int) (x9:Rp):Ae 39 [(0, .int .i64 x0),(9, .agg (Rp.cells x9))] (.agg (Ax.cells ⟨x0,aaB,⟨none,0,0⟩,RD,false,adY,false,⟨none,0,0⟩,⟨none,0,0⟩,x9⟩)):=⟨fun _=>by kernel_rfl⟩
instance aFV (x0:Int) (x1:aH) (x2a:Option Addr) (x2n x2c:Nat):Ae 39 [(0, .int .i64 x0),(1, .agg (aH.cells x1)),(2, .slice x2a x2n x2c)] (.agg (Ax.cells ⟨x0,x1,⟨x2a,x2n,x2c⟩,RD,false,adY,false,⟨none,0,0⟩,⟨none,0,0⟩,I5⟩)):=⟨fun _=>by kernel_rfl⟩
instance aGn (r:Rp):Part (Rp.cells r) 0 37 (Rp.cells r):= .of (n:=22) rfl Tryz.underlying37 rfl (by kernel_rfl)
instance aGo (r v:Rp):Put (Rp.cells r) 0 37 (.agg (Rp.cells v)) (Rp.cells v):= .of rfl rfl (by kernel_rfl) rfl
instance aGp:VX 37 (Rp.cells I5):=⟨fun _=>by kernel_rfl⟩
instance aGq:Ae 37 [] (.agg (Rp.cells I5)):=⟨fun _=>by kernel_rfl⟩
theorem aC5 (r q:Sp) (w:World):(binOp .eql 49 (.agg r.cells) (.agg q.cells)).run Tryz.prog w= .ok (.bool (atm r q)) w:=by
 rw [run_eql_struct,run_equalIn_agg w 9999 49 _ _ (by kernel_rfl) (by kernel_rfl)]
 simp [atm,fK,Sp.cells,go_sem,Tryz.underlying49,Tryz.fieldsF,Tryz.stoodF,Tryz.underlying25,Tryz.underlying23,Tryz.underlying3,Tryz.underlying4,Tryz.underlying9]
 iterate 17 (refine yX (by simp) ?_)
 split
 ·rename_i h;rw [h];simp
 ·rename_i h;rw [beq_eq_false_iff_ne.2 h]
theorem aC4 (r q:Pr) (w:World):(binOp .eql 31 (.agg r.cells) (.agg q.cells)).run Tryz.prog w= .ok (.bool (arE r q)) w:=by
 rw [run_eql_struct,run_equalIn_agg w 9999 31 _ _ (by kernel_rfl) (by kernel_rfl)]
 simp [arE,uU,Pr.cells,go_sem,Tryz.underlying31,Tryz.underlying29,Tryz.underlying3,Tryz.underlying4,aia 9996]
 repeat' split
 all_goals simp_all
instance (r q:Sp):Ob 49 (Sp.cells r) (Sp.cells q) (atm r q):=⟨aC5 r q⟩
instance (r q:Pr):Ob 31 (Pr.cells r) (Pr.cells q) (arE r q):=⟨aC4 r q⟩
instance (r q:Rp):Ob 37 (Rp.cells r) (Rp.cells q) (arb r q):=⟨aAP r q⟩
structure aew (w:World):Prop where
 m:bZ w
 t:ahi w
theorem aew.below {w w':World} (h:aew w) (hb:Below w.heap.size w w'):aew w':=⟨h.m.below hb,h.t.below hb⟩
instance:Sub aew bZ:=⟨fun _ h=>h.m⟩
instance:Sub aew ahi:=⟨fun _ h=>h.t⟩
instance:Sub aew Laid:=⟨fun _ h=>h.m.base⟩
instance {c:Co} :Len (iy c) 60:=⟨OB c⟩
class arB (l:List Str) (n:outParam Nat):Prop where
 le:l.length+(l.map List.length).sum≤n
instance:arB [] 0:=⟨by simp⟩
instance {l:List Str} {x:Str} {m n:Nat} [h:arB l m] [k:Len x n]:arB (l++[x]) (m+n+1):=⟨by have:=h.le;have:=k.le;simp;omega⟩
instance {l:List Str} {x:Str} {m n:Nat} [h:arB l m] [k:Len x n]:arB (x::l) (m+n+1):=⟨by have:=h.le;have:=k.le;simp;omega⟩
theorem aq2 (sep:Str) (hs:sep.length≤100):∀l:List Str,(Lib.join l sep).length≤100 * (l.length+(l.map List.length).sum)
 |[]=>by simp [Lib.join_nil]
 |[x]=>by rw [Lib.join_one];simp;omega
 |x::y::r=>by
  have ih:=aq2 sep hs (y::r)
  rw [fA]
  simp only [List.length_append,List.length_cons,List.map_cons,List.sum_cons] at ih ⊢
  omega
theorem ay6 {L:World→Prop} [hL:Sub L Laid] {w0 w:World} {rows wr p:List Row} {l:List Str} {A:Option Addr} {c:Nat} {R:Ending→World→Prop} (hS:St L w0 rows w) (hW:FB 9 1 YN l A c wr) (hen:Ends wr p rows) {sp:ByteArray} {sep:Str} [hsp:Lit sp sep] (hs:sep.length≤100) {n:Nat} (hl:arB l n) (hn:Nat.ble n 100000000=true)
 (h:∀w',St L w0 rows w'→R (.returned (.string (B (Lib.join l sep)))) w'):Calls Tryz.prog 41 #[.slice A l.length c, .string sp] w R:=by
 have hn:=Nat.le_of_ble_eq_true hn
 have hle:=hl.le
 have hj:=aq2 sep hs l
 have H:=Lib.hid h
 have hT:=hW.texts hS hen
 have HT:=Lib.hid (tH l A c w0.heap.size sp w hT (by omega) sep (by rw [hsp.eq,cO]) (by omega))
 clear h hT hj hle
 go_in
 go_wp2_with (go_at_call 101;refine c_call (fun _=>HT.out) hS ?_;clear hS;intro w hS)
 exact H.out w hS
theorem aBk {L:World→Prop} {w0 w:World} {rows wr p:List Row} {l:List Str} {A:Option Addr} {c:Nat} {R:Ending→World→Prop} (hS:St L w0 rows w) (hW:FB 9 1 YN l A c wr) (hen:Ends wr p rows) {sp:ByteArray} {sep:Str} [hsp:Lit sp sep] (hs:sep.length≤100) {n:Nat} (hl:arB l n) (hn:Nat.ble n 100000000=true)
 (h:R (.returned (.string (B (Lib.join l sep)))) w):Calls Tryz.prog 66 #[.slice A l.length c, .string sp] w R:=by
 have hn:=Nat.le_of_ble_eq_true hn
 have hle:=hl.le
 have hj:=aq2 sep hs l
 exact akH (Ut l A c w0.heap.size sp w (hW.texts hS hen) sep (by rw [hsp.eq,cO]) (by omega) (by omega)) h
theorem aBj {L:World→Prop} [hL:Sub L Laid] {w0 w:World} {rows:List Row} {x:Str} {g:Nat} {R:Ending→World→Prop} (hS:St L w0 rows w) (hm:cZ g (YN x) 9 rows) {sp:ByteArray} {sep:Str} [hsp:Lit sp sep] (hs:sep.length≤100) {n:Nat} (hl:Len x n) (hn:Nat.ble n 100000000=true)
 (h:∀w',St L w0 rows w'→R (.returned (.string (B x))) w'):Calls Tryz.prog 41 #[.slice (some ⟨g,0,none⟩) 1 1, .string sp] w R:=by
 have hn:=Nat.le_of_ble_eq_true hn
 have hle:=hl.le
 have H:=Lib.hid h
 have h1:w.heap[g]? =some (.cells (YN x) 9 (0,0)):=hS.row hm
 have hb:=(hS.has _ hm.mem).2
 have hT:Texts w w0.heap.size [x] (.slice (some ⟨g,0,none⟩) 1 1):=⟨rfl, .inr ⟨g,1,YN x,rfl,hb,h1,Nat.le_refl _,by decide,rfl,rfl⟩⟩
 have HT:=Lib.hid (tH [x] (some ⟨g,0,none⟩) 1 w0.heap.size sp w hT (by simp) sep (by rw [hsp.eq,cO]) (by rw [Lib.join_one];omega))
 clear h hT h1 hb
 go_in
 go_wp2_with (go_at_call 101;refine c_call (fun _=>HT.out) hS ?_;clear hS;intro w hS)
 rw [Lib.join_one]
 exact H.out w hS
section
variable {L':World→Prop} [Sub L' Laid]
instance aFD (c:Co):mG 61 #[.agg (Co.cells c)] L' (.bool (kU c)):=⟨fun w hl=>ahG c w (Sub.sub w hl)⟩
instance aEt (c:Co):mG 62 #[.agg (Co.cells c)] L' (.string (B (iy c))):=⟨fun w hl=>OA c w (Sub.sub w hl)⟩
instance aE4 (c:Co):mG 86 #[.agg (Co.cells c)] L' (.bool (kU c)):=⟨fun w hl=>afZ c w (Sub.sub w hl)⟩
instance aD6 (c:Co):mG 64 #[.agg (Co.cells c)] L' (.string (B (iy c))):=⟨fun w hl=>GH c _ (Lib.hid rfl) w (Sub.sub w hl)⟩
theorem axO (o:Option Co):ajT o= .tuple #[.agg (Co.cells (o.getD dQ)), .int .i64 (BN o.isSome)]:=by cases o<;>rfl
instance aD4 (s:Str) [h:jr s]:mG 209 #[.string (B s)] L' (.tuple #[.agg (Co.cells ((kX s).getD dQ)), .int .i64 (BN (kX s).isSome)]):=⟨fun w hl=>by rw [←axO];exact Ja s h.lt w (Sub.sub w hl) _ (Lib.hid rfl)⟩
end
end Go.Proofs.YtdicgggkdmkklaaGreatDoor
namespace Go.Proofs.YtdicgggkdmkklaaGreatDoor
attribute [local irreducible] wpList Code.wp Calls dh fK
open Go.ChangeShapes Go.WideShapes Go.RowKit
attribute [local simp] lD
theorem aAt (pl ob:Bool) (f:aH) (w0:World) (hl:Laid w0):Calls Tryz.prog 20 #[.agg (Sp.cells ⟨pl,ob,f⟩)] w0 fun e w'=>e= .returned (.string (B (MI ⟨pl,ob,f⟩)))∧Below w0.heap.size w0 w':=by
 have hS:=St.start hl fun _ _ h hb=>h.below hb
 go_in
 go_wp2_with (first|(have hq:=iE;subst hq)|(have hq:=sE;subst hq)|refine s0 ?_|(refine s1 ?_;clear hS;intro w hS)|(refine s2 ?_;clear hS;intro g w hS)|(refine s4 ?_;clear hS;intro g cur cw w hw hcw hS)|(refine s3 ?_ ?_<;>intro hb<;>(try subst hb)<;>(try (exfalso;first|omega|exact Bool.noConfusion hb))))
 all_goals go_ret
 all_goals refine ⟨dL ?_,hS.below⟩
 all_goals (clear hS;simp_all [MI,afp,anz,aen]<;>exact fin)
instance aEx {L':World→Prop} [Sub L' Laid] (s:Sp):mG 20 #[.agg (Sp.cells s)] L' (.string (B (MI s))):=⟨fun w hl=>aAt s.pl s.ob s.f w (Sub.sub w hl)⟩
theorem aBC (pl ob:Bool) (f:aH) (w0:World):Calls Tryz.prog 60 #[.agg (Sp.cells ⟨pl,ob,f⟩)] w0 fun e w'=>e= .returned (.bool (afp ⟨pl,ob,f⟩))∧Below w0.heap.size w0 w':=by
 have hS:=St.Dj w0
 go_in
 go_wp2_with (first|(have hq:=iE;subst hq)|(have hq:=sE;subst hq)|refine s0 ?_|(refine s1 ?_;clear hS;intro w hS)|(refine s2 ?_;clear hS;intro g w hS)|(refine s4 ?_;clear hS;intro g cur cw w hw hcw hS)|(refine s3 ?_ ?_<;>intro hb<;>(try subst hb)<;>(try (exfalso;first|omega|exact Bool.noConfusion hb))))
 all_goals go_ret
 all_goals refine ⟨aX ?_,hS.below⟩
 all_goals (clear hS;simp_all [afp]<;>exact fin)
instance aE6 {L':World→Prop} (s:Sp):mG 60 #[.agg (Sp.cells s)] L' (.bool (afp s)):=⟨fun w _=>aBC s.pl s.ob s.f w⟩
theorem azu (pl ob:Bool) (f:aH) (w0:World):Calls Tryz.prog 21 #[.agg (Sp.cells ⟨pl,ob,f⟩)] w0 fun e w'=>e= .returned (.string (B (MI ⟨pl,ob,f⟩)))∧Below w0.heap.size w0 w':=by
 have hS:=St.Dj w0
 go_in
 go_wp2_with (first|(have hq:=iE;subst hq)|(have hq:=sE;subst hq)|refine s0 ?_|(refine s1 ?_;clear hS;intro w hS)|(refine s2 ?_;clear hS;intro g w hS)|(refine s4 ?_;clear hS;intro g cur cw w hw hcw hS)|(refine s3 ?_ ?_<;>intro hb<;>(try subst hb)<;>(try (exfalso;first|omega|exact Bool.noConfusion hb))))
 all_goals go_ret
 all_goals refine ⟨dL ?_,hS.below⟩
 all_goals (clear hS;simp_all [MI,anz,aen]<;>exact fin)
instance aD9 {L':World→Prop} (s:Sp):mG 21 #[.agg (Sp.cells s)] L' (.string (B (MI s))):=⟨fun w _=>azu s.pl s.ob s.f w⟩
theorem aAl (m:Co) (dJ fM:Bool) (life:Int) (w0:World) (hl:Laid w0):Calls Tryz.prog 33 #[.agg (Pr.cells ⟨m,dJ,fM,life⟩)] w0 fun e w'=>e= .returned (.bool (aeF ⟨m,dJ,fM,life⟩))∧Below w0.heap.size w0 w':=by
 have hS:=St.start hl fun _ _ h hb=>h.below hb
 go_in
 go_wp2_with (first|(have hq:=iE;subst hq)|(have hq:=sE;subst hq)|refine s0 ?_|(refine s1 ?_;clear hS;intro w hS)|(refine s2 ?_;clear hS;intro g w hS)|(refine s4 ?_;clear hS;intro g cur cw w hw hcw hS)|(refine s3 ?_ ?_<;>intro hb<;>(try subst hb)<;>(try (exfalso;first|omega|exact Bool.noConfusion hb))))
 all_goals go_ret
 all_goals refine ⟨aX ?_,hS.below⟩
 all_goals (clear hS;simp_all [aeF]<;>exact fin)
instance aEw {L':World→Prop} [Sub L' Laid] (p:Pr):mG 33 #[.agg (Pr.cells p)] L' (.bool (aeF p)):=⟨fun w hl=>aAl p.aeC p.dJ p.fM p.life w (Sub.sub w hl)⟩
end Go.Proofs.YtdicgggkdmkklaaGreatDoor
namespace Go.Proofs.YtdicgggkdmkklaaGreatDoor
attribute [local irreducible] wpList Code.wp Calls dh fK
open Go.ChangeShapes Go.WideShapes Go.RowKit
instance putStr {r y:Str} :Put (YN r) 0 9 (.string (B y)) (YN y):= .of rfl rfl (by kernel_rfl) rfl
theorem awh (r x:Str):(afX r x).length≤r.length:=by
 unfold afX
 split
 ·rename_i h
  unfold takeB at h
  unfold Lib.trimSuffix
  rw [if_pos h]
  unfold Lib.trimPrefix
  split<;>simp<;>omega
 ·exact Nat.le_refl _
instance aED {r x:Str} [h:jr r]:jr (afX r x):=⟨Nat.lt_of_le_of_lt (awh r x) h.lt⟩
theorem aBs (s:Str) [jr s] (w0:World) (hl:Laid w0):Calls Tryz.prog 132 #[.string (B s)] w0 fun e w'=>e= .returned (.agg (Sp.cells (aoa s)))∧Below w0.heap.size w0 w':=by
 have hS:=St.start hl fun _ _ h hb=>h.below hb
 go_in
 go_wp2_with (first|(have hq:=iE;subst hq)|(have hq:=sE;subst hq)|refine s0 ?_|(refine s1 ?_;clear hS;intro w hS)|(refine s2 ?_;clear hS;intro g w hS)|(refine s4 ?_;clear hS;intro g cur cw w hw hcw hS)|(refine s3 ?_ ?_<;>intro hb<;>(try subst hb)<;>(try (exfalso;first|omega|exact Bool.noConfusion hb))))
 all_goals refine res1 hS ?_
 all_goals refine ⟨?_,hS.below⟩
 all_goals (clear hS;simp_all [aoa,spT,spU,anz,aen])
instance aFH {L':World→Prop} [Sub L' Laid] (s:Str) [jr s]:mG 132 #[.string (B s)] L' (.agg (Sp.cells (aoa s))):=⟨fun w hl=>aBs s w (Sub.sub w hl)⟩
theorem asJ (x r:Str) (hx:x.length<90000000) (hr:r.length<90000000) {L:World→Prop} {w0 w:World} {rows rows':List Row} {g:Nat} (hS:St L w0 rows w) (ha:cZ g (YN r) 9 rows) (hm:jq g (YN r) (YN (afX r x)) 9 rows rows') (h0:afX r x=r→rows'=rows):
 Calls Tryz.prog 127 #[.string (B x), .pointer (some ⟨g,0,none⟩)] w fun e w'=>e= .returned (.bool (takeB r x))∧St L w0 rows' w':=by
 have h1:jr ((32:UInt8)::r):=⟨by simp;omega⟩
 have h2:Len r 90000000:=⟨by omega⟩
 have h3:Len x 90000000:=⟨by omega⟩
 cases hb:takeB r x with
 |true=>
  have hb':Lib.hasSuffix ((32:UInt8)::r) ((32:UInt8)::x)=true:=hb
  have e:afX r x=Lib.trimPrefix (Lib.trimSuffix ((32:UInt8)::r) ((32:UInt8)::x)) [32]:=if_pos hb
  rw [e] at hm
  clear h0 hb e
  go_in
  go_wp2_with (first|(have hq:=iE;subst hq)|(have hq:=sE;subst hq)|((with_reducible refine aC (T:=9) ?_);refine aQ rfl hS rfl rfl ha ⟨_,Tryz.underlying9,rfl⟩ rfl ?_;(try simp only [ah,ak,au,ay,aA]))|((with_reducible refine aN ?_);refine amV rfl hS rfl rfl (.s rfl) hm (by infer_instance) (by simp only [ah,ak,au,ay,aA];exact rfl) rfl ?_;clear hS;intro w hS)|refine s0 ?_|(refine s1 ?_;clear hS;intro w hS)|(refine s2 ?_;clear hS;intro g w hS)|(refine s4 ?_;clear hS;intro g cur cw w hw hcw hS)|(refine s3 ?_ ?_<;>intro hb<;>(try subst hb)<;>(try (exfalso;first|omega|exact Bool.noConfusion hb))))
  all_goals go_ret
  all_goals exact ⟨aX (by first|rfl|exact hb'),hS⟩

 |false=>
  have hb':Lib.hasSuffix ((32:UInt8)::r) ((32:UInt8)::x)=false:=hb
  have e:afX r x=r:=by unfold afX;rw [hb];rfl
  have e2:=h0 e
  subst e2
  clear h0 hb e hm
  go_in
  go_wp2_with (first|(have hq:=iE;subst hq)|(have hq:=sE;subst hq)|((with_reducible refine aC (T:=9) ?_);refine aQ rfl hS rfl rfl ha ⟨_,Tryz.underlying9,rfl⟩ rfl ?_;(try simp only [ah,ak,au,ay,aA]))|refine s0 ?_|(refine s1 ?_;clear hS;intro w hS)|(refine s2 ?_;clear hS;intro g w hS)|(refine s4 ?_;clear hS;intro g cur cw w hw hcw hS)|(refine s3 ?_ ?_<;>intro hb<;>(try subst hb)<;>(try (exfalso;first|omega|exact Bool.noConfusion hb))))
  all_goals go_ret
  all_goals exact ⟨aX (by first|rfl|exact hb'),hS⟩

theorem auz:∀(n:Nat) (s:Str),s.length≤n→Lib.splitK iK 0 (Lib.count s iK) s=jV s
 |n,s,hn=>by
  rcases ab9 s with ⟨h1,h2⟩|⟨i,h1,h2,h3⟩
  ·rw [Lib.count_miss h1,h2];rfl
  ·have hc:=Lib.count_hit (sub:=iK) (by decide) h1
   have hl:iK.length=2:=rfl
   rw [hl] at hc
   cases n with
   |zero=>omega
   |succ n=>
    have ih:=auz n (s.drop (i+2)) (by simp;omega)
    rw [hc,Nat.add_comm,Lib.splitK,if_neg (by rw [h1,beq_iff_eq];omega),h1,hl,h3]
    simp only [Int.toNat_natCast,Nat.add_zero]
    rw [ih]
theorem az5 (s:Str) (hs:s.length<1000000000) (ps:List Str) (h:Hid (jV s=ps)) (w:World) (hl:Laid w):Calls Tryz.prog 198 #[.string (B s), .string ⟨#[44,32]⟩] w fun e w'=>∃g cur,e= .returned (.slice (some ⟨g,0,none⟩) ps.length ps.length)∧oZ cur ps∧w'.heap[g]? =some (.cells cur 9 (0,0))∧w.heap.size≤g∧Below w.heap.size w w':=
 (Tryz.strings_Split_shaped (B s) ⟨#[44,32]⟩ w hl.shaped (by rw [bC];omega) (by decide)).mono fun e w' ⟨he,hw⟩=>by
  have hL:(Lib.splitB ⟨#[44,32]⟩ 0 (Lib.countB (B s) ⟨#[44,32]⟩) (B s)).map L=jV (L (B s)):=(Lib.splitB_data ⟨#[44,32]⟩ 0 (Lib.countB (B s) ⟨#[44,32]⟩) (B s)).trans (auz _ (L (B s)) (Nat.le_refl _))
  rw [cO,h.out] at hL
  have hlen:(Lib.splitB ⟨#[44,32]⟩ 0 (Lib.countB (B s) ⟨#[44,32]⟩) (B s)).length=Lib.countB (B s) ⟨#[44,32]⟩+1:=Lib.splitB_all ⟨#[44,32]⟩ (by decide) 0 _ (B s) rfl
  have hl2:ps.length=Lib.countB (B s) ⟨#[44,32]⟩+1:=by rw [←hL,List.length_map,hlen]
  rw [←hl2] at he
  subst hw
  refine ⟨_,_,he,fun k x hk=> ?_,heap_alloc_new w _,Nat.le_refl _,(Below.refl _ _).alloc (Nat.le_refl _) _⟩
  rw [←hL,List.getElem?_map] at hk
  cases hy:(Lib.splitB ⟨#[44,32]⟩ 0 (Lib.countB (B s) ⟨#[44,32]⟩) (B s))[k]? with
  |none=>rw [hy] at hk;cases hk
  |some y=>
   rw [hy] at hk
   have e1:L y=x:=Option.some.inj hk
   rw [List.getElem?_toArray,List.getElem?_map,hy,←e1,qV];rfl
theorem azT (s c:Str):(Lib.trimS s c).length≤s.length:=by
 have hd:∀(p:UInt8→Bool) (l:Str),(l.dropWhile p).length≤l.length:=fun p l=>by
  induction l with
  |nil=>simp
  |cons x l ih=>rw [List.dropWhile_cons];split<;>simp<;>omega
 unfold Lib.trimS Lib.trimLeftS Lib.trimRightS
 refine Nat.le_trans (hd _ _) ?_
 rw [List.length_reverse]
 refine Nat.le_trans (hd _ _) ?_
 rw [List.length_reverse];exact Nat.le_refl _
instance av2 {s c:Str} [h:jr s]:jr (Lib.trimS s c):=⟨Nat.lt_of_le_of_lt (azT s c) h.lt⟩
instance aFI {L':World→Prop} (s:Str) [jr s]:mG 207 #[.string (B s), .string ⟨#[123,125]⟩] L' (.string (B (Lib.trimS s [123,125]))):=⟨fun w _=>Any.strings_Trim_laid Tryz.laysTrim (by kernel_rfl) (B s) ⟨#[123,125]⟩ w (by have:=jr.sz s;omega) (by decide) (ascii_of_all (by decide))⟩
theorem awF (s x:Str) (h:x∈jV s):x.length≤s.length:=by
 have:=Dz s [] false x h
 simpa using this
theorem aza (ps:List Str) (k:Nat) (p:Pr) (hk:k<ps.length) (h:(ps.take k).foldl aeG RD=p):(ps.take (k+1)).foldl aeG RD=aeG p ps[k]:=by
 rw [List.take_succ_eq_append_getElem hk,List.foldl_append,h]
 rfl
theorem aAc (s:Str) [jr s] (w0:World) (hl:Laid w0):Calls Tryz.prog 134 #[.string (B s)] w0 fun e w'=>e= .returned (.agg (Pr.cells (asx s)))∧Below w0.heap.size w0 w':=by
 have hS:=St.start hl fun _ _ h hb=>h.below hb
 obtain ⟨ps,hps⟩:∃ps,jV (Lib.trimS s [123,125])=ps:=⟨_,rfl⟩
 have hpl:ps.length≤100000001:=by
  have h1:=asi (Lib.trimS s [123,125]) [] false
  have h2:=(av2 (s:=s) (c:=[123,125])).lt
  rw [show fQ false [] (Lib.trimS s [123,125])=ps from hps] at h1;omega
 have hpm:∀x∈ps,x.length<100000000:=fun x hx=>by
  have h2:=(av2 (s:=s) (c:=[123,125])).lt
  have:=awF _ x (hps ▸ hx)
  omega
 have HR:Hid (asx s=ps.foldl aeG RD):=Lib.hid (by unfold asx;rw [hps])
 have HPS:=Lib.hid hps
 have hts:(Lib.trimS s [123,125]).length<1000000000:=by have:=(av2 (s:=s) (c:=[123,125])).lt;omega
 clear hps
 go_in
 go_upto_region 1 with (first|(have hq:=iE;subst hq)|(have hq:=sE;subst hq)|refine s0 ?_|(refine s1 ?_;clear hS;intro w hS)|(refine s2 ?_;clear hS;intro g w hS)|(refine s4 ?_;clear hS;intro g cur cw w hw hcw hS)|(refine s3 ?_ ?_<;>intro hb<;>(try subst hb)<;>(try (exfalso;first|omega|exact Bool.noConfusion hb))))
 generalize g=gr at *
 go_wp2_with (first|(have hq:=iE;subst hq)|(have hq:=sE;subst hq)|(go_at_call 198;(refine (az5 _ hts ps HPS _ hS.laid).mono ?_);rintro e w1 ⟨gw,cw,rfl,hw,hg,h1,hb⟩;have hS:=hS.grow hb hg h1;have HW:=Lib.hid hw;clear hw hg h1 hb)|refine s0 ?_|(refine s1 ?_;clear hS;intro w hS)|(refine s2 ?_;clear hS;intro g w hS)|(refine s4 ?_;clear hS;intro g cur cw w hw hcw hS)|(refine s3 ?_ ?_<;>intro hb<;>(try subst hb)<;>(try (exfalso;first|omega|exact Bool.noConfusion hb))))
 generalize g=gp at *
 go_loopw [12] (fun iv wr=>∃(k:Nat) (p:Pr),k≤ps.length∧iv= .int .i64 k∧Hid ((ps.take k).foldl aeG RD=p)∧Hid (St Laid w0 [(gw,cw,9),(gp,Pr.cells p,31),(gr,Pr.cells RD,31)] wr)) (fun iv _=>ps.length - (intOf iv).toNat)
 case atStart=>exact ⟨0,RD,by omega,rfl,Lib.hid rfl,Lib.hid hS⟩
 case round=>
  clear hS
  obtain ⟨k,p,hk,rfl,HP,HS⟩:=hrel
  have hS:=HS.out
  clear HS
  by_cases hlt:k<ps.length
  ·have hki:(k:Int)<ps.length:=by omega
   have:jr ps[k]:=⟨hpm _ (List.getElem_mem hlt)⟩
   have HF:=Lib.hid (aza ps k p hlt HP.out)
   go_wp2_with (first|(have hq:=iE;subst hq)|(have hq:=sE;subst hq)|refine s0 ?_|(refine s1 ?_;clear hS;intro w hS)|(refine s2 ?_;clear hS;intro g w hS)|(refine s4 ?_;clear hS;intro g cur cw w hw hcw hS)|(refine s3 ?_ ?_<;>intro hb<;>(try subst hb)<;>(try (exfalso;first|omega|exact Bool.noConfusion hb))))
   all_goals
    go_roundw
    case rel=>
     refine ⟨k+1,_,by omega,by go_num,?_,Lib.hid hS⟩
     exact Lib.hid (by rw [HF.out];unfold aeG;simp_all [aqV,ard,ane])
    case measure=>simp [intOf];omega
  ·obtain rfl:k=ps.length:=by omega
   go_wp2_with (first|(have hq:=iE;subst hq)|(have hq:=sE;subst hq)|refine s0 ?_|(refine s1 ?_;clear hS;intro w hS)|(refine s2 ?_;clear hS;intro g w hS)|(refine s4 ?_;clear hS;intro g cur cw w hw hcw hS)|(refine s3 ?_ ?_<;>intro hb<;>(try subst hb)<;>(try (exfalso;first|omega|exact Bool.noConfusion hb))))
   all_goals refine res1 hS ?_
   all_goals (refine ⟨?_,hS.below⟩;rw [HR.out,←HP.out,List.take_length])
instance aFF {L':World→Prop} [Sub L' Laid] (s:Str) [jr s]:mG 134 #[.string (B s)] L' (.agg (Pr.cells (asx s))):=⟨fun w hl=>aAc s w (Sub.sub w hl)⟩
end Go.Proofs.YtdicgggkdmkklaaGreatDoor
namespace Go.Proofs.YtdicgggkdmkklaaGreatDoor
open Go.ChangeShapes Go.WideShapes Go.RowKit
theorem aBB (c:UInt8) (r:Str):Lib.hasPrefix (c::r) [58,32]=true↔(c=58∧r.head?=some 32):=by
 unfold Lib.hasPrefix
 cases r with
 |nil=>simp [List.isPrefixOf]
 |cons d r=>
  simp [List.isPrefixOf]
  constructor
  ·rintro ⟨h1,h2⟩;exact ⟨h1.symm,h2.symm⟩
  ·rintro ⟨h1,h2⟩;exact ⟨h1.symm,h2.symm⟩
theorem aC0 {s:Str} {k d:Nat} (h:k<s.length):qy d (s.drop k)=if d=0∧Lib.hasPrefix (s.drop k) [58,32]=true then some ([],s.drop (k+2)) else (qy (bP d (aI s k)) (s.drop (k+1))).map fun p=>(s.getD k 0::p.1,p.2):=by
 have e:s[k]=s.getD k 0:=by simp [List.getD,h]
 rw [List.drop_eq_getElem_cons h,qy]
 simp only [aBB]
 rw [e,show List.drop 1 (List.drop (k+1) s)=s.drop (k+2) by rw [List.drop_drop]]
 rfl
theorem aDj (s:Str):WG (B s) (qy 0 s)= .tuple #[.string (B (wc1 s)), .string (B (wc2 s)), .bool (qy 0 s).isSome]:=by
 unfold wc1 wc2
 cases qy 0 s<;>rfl
theorem azX (s:ByteArray) (w:World) (hs:s.size<100000000):
 Calls Tryz.prog 125 #[.string s, .string ⟨#[58,32]⟩] w fun e w'=>e= .returned (WG s (qy 0 (L s)))∧Below w.heap.size w w':=by
 have hg:=jm s
 have HL:=Lib.hid (dN s)
 obtain ⟨R,hR⟩:∃R,qy 0 (L s)=R:=⟨_,rfl⟩
 rw [hR]
 have HR:=Lib.hid hR
 clear hR
 go_enter Tryz.func125,Tryz.ntmps125
 go_wp2
 go_loop [7,8] (fun dv kv=>∃k d:Nat,k≤s.size∧d≤k∧kv= .int .i64 k∧dv= .int .i64 d∧Hid (R=(qy d ((L s).drop k)).map fun p=>((L s).take k++p.1,p.2))) (fun _ kv=>s.size - (intOf kv).toNat)
 case atStart=>exact ⟨0,0,by omega,by omega,rfl,rfl,Lib.hid (by rw [←HR.out];simp)⟩
 case round=>
  obtain ⟨k,d,hk,hd,rfl,rfl,HD⟩:=hrel
  by_cases hlt:k<s.size
  ·have hkl:k<(L s).length:=by rw [HL.out];exact hlt
   have hst:=HD.out
   rw [aC0 hkl] at hst
   have hX:L (s.extract k s.size)=(L s).drop k:=by rw [dM,List.take_of_length_le (by rw [HL.out];exact Nat.le_refl _)]
   by_cases h0:d=0
   ·subst h0
    by_cases h42:Lib.hasPrefix ((L s).drop k) [58,32]=true
    ·rw [if_pos ⟨rfl,h42⟩] at hst
     have HP:Hid (Lib.hasPrefix (L (s.extract k s.size)) [58,32]=true):=Lib.hid (by rw [hX,h42])
     have HN:Hid (R=some ((L s).take k,(L s).drop (k+2))):=Lib.hid (by rw [hst];simp)
     have E1:Hid (s.extract 0 k=B ((L s).take k)):=Lib.hid (lC (by rw [dM,cO];rfl))
     have E2:Hid (s.extract (k+2) s.size=B ((L s).drop (k+2))):=Lib.hid (lC (by rw [dM,cO,List.take_of_length_le (by rw [HL.out];exact Nat.le_refl _)]))
     have EV:Hid (WG s R= .tuple #[.string (s.extract 0 k), .string (s.extract (k+2) s.size), .bool true]):=Lib.hid (by rw [HN.out,E1.out,E2.out];rfl)
     have hk2:k+2≤s.size:=by
      unfold Lib.hasPrefix at h42
      rw [List.isPrefixOf_iff_prefix] at h42
      have:=h42.length_le
      rw [List.length_drop,HL.out] at this
      simp at this;omega
     have hkI:(0:Int)≤(k:Int):=by omega
     have hkS:(k:Int)≤(s.size:Int):=by omega
     have hk1:(k:Int)+2≤(s.size:Int):=by omega
     have hkw:IntKind.i64.wrap ((k:Int)+2)=(k:Int)+2:=BZ _ (by omega) (by omega)
     have hk0:(0:Int)≤(k:Int)+2:=by omega
     clear hst hX h42
     go_wp2_with (go_at_call 131;(with_reducible refine (Jp _ _ _ [58,32] rfl true HP).mono ?_);rintro e w1 ⟨rfl,rfl⟩)
     go_region_held3 (fun w'=>Below w.heap.size w w') (first|exact (Below.refl _ _).drew|assumption) (fail)
     all_goals
      go_wp2
      go_ret3
      exact ⟨by rw [EV.out];rfl,(Below.refl _ _).drew⟩
    ·rw [if_neg (fun h=>h42 h.2)] at hst
     have HP:Hid (Lib.hasPrefix (L (s.extract k s.size)) [58,32]=false):=Lib.hid (by rw [hX];simpa using h42)
     have HN:Hid (R=(qy (bP 0 (aI (L s) k)) ((L s).drop (k+1))).map fun p=>((L s).take (k+1)++p.1,p.2)):=Lib.hid (by rw [hst,map_take hkl])
     have hdn:bP 0 (aI (L s) k)≤k+1:=Nat.le_trans (FU _ _) (by omega)
     clear hst hX h42
     generalize hdd:bP 0 (aI (L s) k)=dd at *
     have HDD:=Lib.hid hdd
     clear hdd
     go_wp2_with (first|(go_at_call 131;(with_reducible refine (Jp _ _ _ [58,32] rfl false HP).mono ?_);rintro e w1 ⟨rfl,rfl⟩)|(go_at_call 201;(refine (Ai 0 _ (by omega) _).mono ?_);rw [HDD.out];rintro e w1 ⟨rfl,rfl⟩))
     go_round
     case rel=>exact ⟨k+1,dd,by omega,hdn,by go_num,rfl,HN⟩
     case measure=>simp [intOf];omega
   ·have t0:((d:Int)==0)=false:=by rw [beq_eq_false_iff_ne];omega
    rw [if_neg (fun h=>h0 h.1)] at hst
    have HN:Hid (R=(qy (bP d (aI (L s) k)) ((L s).drop (k+1))).map fun p=>((L s).take (k+1)++p.1,p.2)):=Lib.hid (by rw [hst,map_take hkl])
    have hdn:bP d (aI (L s) k)≤k+1:=Nat.le_trans (FU _ _) (by omega)
    clear hst hX h0
    generalize hdd:bP d (aI (L s) k)=dd at *
    have HDD:=Lib.hid hdd
    clear hdd
    go_wp2_with (first|(go_at_call 201;(with_reducible refine (Ai d _ (by omega) _).mono ?_);rw [HDD.out];rintro e w1 ⟨rfl,rfl⟩))
    go_round
    case rel=>exact ⟨k+1,dd,by omega,hdn,by go_num,rfl,HN⟩
    case measure=>simp [intOf];omega
  ·obtain rfl:k=s.size:=by omega
   have HN:Hid (none=R):=Lib.hid (by rw [HD.out,List.drop_of_length_le (by rw [HL.out];exact Nat.le_refl _)];rfl)
   go_wp2
   go_ret3
   exact ⟨ret_val (by rw [←HN.out];rfl),Below.refl _ _⟩
instance aFJ {L':World→Prop} (s:Str) [jr s]:mG 125 #[.string (B s), .string ⟨#[58,32]⟩] L' (.tuple #[.string (B (wc1 s)), .string (B (wc2 s)), .bool (qy 0 s).isSome]):=⟨fun w _=>by
 have h:=azX (B s) w (jr.sz s)
 rwa [cO,aDj] at h⟩
end Go.Proofs.YtdicgggkdmkklaaGreatDoor
namespace Go.Proofs.YtdicgggkdmkklaaGreatDoor
open Go.ChangeShapes Go.WideShapes Go.RowKit Go.Sort
abbrev su:Nat:=49
abbrev awv:Nat:=34
instance aEq:ElT awv su 18 Sp.cells:=⟨Tryz.underlying34,⟨.agg (Sp.cells auG),144,by kernel_rfl,rfl,by decide⟩,by decide,fun _=>rfl,fun x u hu=>by
 have h:(Sp.cells x).toList.all (·.oneCell')=true:=rfl
 exact List.all_eq_true.1 h u hu⟩
instance aFK:Inhabited Sp:=⟨auG⟩
def aj2 (s:Sp):List Value:=(Sp.cells s).toList
theorem asu (s:Sp):(aj2 s).length=18:=rfl
theorem flat_get (l:List Sp):∀t,t<l.length * 18→(xk Sp.cells l)[t]? =(aj2 l[t / 18]!)[t % 18]? :=by
 induction l with
 |nil=>intro t h;simp at h
 |cons x l ih=>
  intro t h
  have e:xk Sp.cells (x::l)=aj2 x++xk Sp.cells l:=by simp [xk,aj2]
  rw [e]
  by_cases h1:t<18
  ·rw [List.getElem?_append_left (by rw [asu];exact h1),Nat.div_eq_of_lt h1,Nat.mod_eq_of_lt h1];rfl
  ·have h2:t / 18=(t - 18) / 18+1:=by omega
   have h3:t % 18=(t - 18) % 18:=by omega
   rw [List.getElem?_append_right (by rw [asu];omega),asu,ih (t - 18) (by simp at h;omega),h2,h3]
   simp
theorem avv (l:List Sp):(flatK aj2 18 l.toArray).toList=xk Sp.cells l:=by
 have hl:=TQ (inferInstance:ElT awv su 18 Sp.cells) l
 apply List.ext_getElem?
 intro t
 by_cases h:t<l.length * 18
 ·have h1:=get_flatK aj2 18 l.toArray t (by simpa using h)
  have h2:t<(flatK aj2 18 l.toArray).size:=by simpa using h
  have h3:(flatK aj2 18 l.toArray).toList[t]? =some (flatK aj2 18 l.toArray)[t]! :=by
   rw [getElem!_pos _ t h2,Array.getElem?_toList,Array.getElem?_eq_getElem h2]
  rw [h3,h1,flat_get l t h]
  have h4:t % 18<(aj2 l[t / 18]!).length:=by rw [asu];exact Nat.mod_lt _ (by decide)
  rw [List.getElem?_eq_getElem h4,←getElem!_pos (aj2 l[t / 18]!) (t % 18) h4]
  simp
 ·rw [List.getElem?_eq_none (l:=xk Sp.cells l) (by rw [hl];omega),List.getElem?_eq_none (by rw [Array.length_toList,size_flatK];simp;omega)]
theorem awk {cur:Array Value} {l:List Sp} (h:l.length * 18≤cur.size):(putCells id 0 (flatK aj2 18 l.toArray) cur).toList.take (l.length * 18)=xk Sp.cells l:=by
 have hl:=TQ (inferInstance:ElT awv su 18 Sp.cells) l
 apply List.ext_getElem?
 intro t
 by_cases ht:t<l.length * 18
 ·have h2:t<(flatK aj2 18 l.toArray).size:=by simpa using ht
  have h5:t<cur.size:=by omega
  rw [List.getElem?_take,if_pos ht,←avv]
  unfold putCells
  rw [Array.getElem?_toList,Array.getElem?_toList,Array.getElem?_mapIdx,Array.getElem?_eq_getElem h5,Array.getElem?_eq_getElem h2]
  simp only [Option.map_some,Nat.zero_add,Nat.zero_le,true_and,Nat.sub_zero,id]
  rw [if_pos h2,getElem!_pos _ t h2]
 ·rw [List.getElem?_eq_none (l:=xk Sp.cells l) (by rw [hl];omega),List.getElem?_take,if_neg ht]
theorem azv {acc:List Sp} {A:Option Addr} {c:Nat} {wr p:List Row} {L:World→Prop} {w0 w:World} (hW:FB su 18 Sp.cells acc A c wr) (hS:St L w0 (p++wr) w):Calls Tryz.prog 133 #[.slice A acc.length c] w fun e w'=>∃wr',e= .returned (.tuple #[])∧FB su 18 Sp.cells acc.reverse A c wr'∧St L w0 (p++wr') w':=by
 by_cases h0:acc=[]
 ·subst h0
  exact (AnyQ.slices_Reverse_empty Tryz.laysReverse A c w).mono fun e w' h=>⟨wr,h.1,hW,by rw [h.2];exact hS⟩
 ·rcases hW with ⟨_,_,h,_⟩|⟨g,cur,rfl,rfl,h1,h2,h3,h4⟩
  ·exact absurd h h0
  ·have hrow:=(hS.has (g,cur,su) (by simp)).1
   have hlen:acc.length * 18≤cur.size:=by rw [h3];exact Nat.mul_le_mul_right _ h1
   have hH:HoldsK aj2 18 w g 0 acc.toArray:=fun j hj=>by
    have hj':j<acc.length * 18:=by simpa using hj
    rw [Nat.zero_add]
    refine ⟨?_,frozen_of_row w g j cur su hrow⟩
    rw [cell_of_row w g j cur su (0,0) hrow,getElem!_pos _ j hj]
    have e:=congrArg (fun l=>l[j]?) h4
    simp only [List.getElem?_take,hj',if_true] at e
    rw [←Array.getElem?_toList,e,←avv,Array.getElem?_toList,Array.getElem?_eq_getElem hj];rfl
   refine (AnyQ.slices_Reverse Tryz.laysReverse 18 Tryz.isAgg49 Tryz.sizeOf49 aj2 (fun _=>rfl) (fun x v hv=>aEq.one x v hv) g 0 c acc.toArray w hH (by simp;unfold maxLen at h2;omega)).mono ?_
   rintro e w' ⟨he,n,hw⟩
   have hw2:w'=(Sort.ahead w n).setRow g (putCells id 0 (flatK aj2 18 acc.reverse.toArray) cur):=by
    rw [hw,show acc.toArray.reverse=acc.reverse.toArray by simp]
    unfold putRowK putRow mapBlock World.setRow
    congr 1
    apply Array.ext_getElem?
    intro k
    simp only [Array.getElem?_modify]
    by_cases hk:g=k
    ·subst hk
     have hr2:(Sort.ahead w n).heap[g]? =some (.cells cur su (0,0)):=hrow
     simp only [if_true,hr2,Option.map_some,onCells]
    ·simp [hk]
   have hSa:St L w0 (p++[(g,cur,su)]) (Sort.ahead w n):=hS.mono ⟨rfl,rfl,rfl,Nat.le_refl _,fun _ _=>rfl⟩
   have hsz:(putCells id 0 (flatK aj2 18 acc.reverse.toArray) cur).size=cur.size:=by simp [putCells]
   refine ⟨[(g,putCells id 0 (flatK aj2 18 acc.reverse.toArray) cur,su)],he, .inr ⟨g,_,rfl,rfl,by simpa using h1,h2,by rw [hsz,h3],?_⟩,?_⟩
   ·exact awk (by simpa using hlen)
   ·rw [hw2]
    have hs:=hSa.rot.set (g:=g) (new:=putCells id 0 (flatK aj2 18 acc.reverse.toArray) cur) .head
    exact hs.adJ
end Go.Proofs.YtdicgggkdmkklaaGreatDoor
