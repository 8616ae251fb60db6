/- Plain words on memory: modifications' rows and ==. Conditions: none. Walks over St: one cell of a row set by setCell (regions that draw their order and store). Conditions: none. Walks: package mod: -/
import Derived.Test.YtdicgggkdmkklaaGreatDoorQ3
import Derived.RegionTactic
import Derived.ChangeAlike
import Derived.Test.YtdicgggkdmkklaaGreatDoorQ2
import Derived.Test.YtdicgggkdmkklaaGreatDoorQ1
import Derived.Test.YtdicgggkdmkklaaGreatDoorQ4
set_option linter.all false
set_option maxRecDepth 100000
set_option maxHeartbeats 16000000
namespace Go.Proofs.YtdicgggkdmkklaaGreatDoor
open Go.ChangeShapes Go.WideShapes Go.RowKit
abbrev iw:Nat:=56
theorem aoz (r:Md):r.cells.all (·.oneCell')=true:=by simp [Md.cells,aH.cells,Value.oneCell']
theorem jQ:(Tryz.prog.info? 56).map (·.size)=some 20:=by kernel_rfl
theorem jf:∀w:World,(zeroValue 56).run Tryz.prog w= .ok (.agg (Md.cells dO)) w:=fun _=>by kernel_rfl
theorem afG:∀w:World,(Instr.build 56 ([]:List (Nat × Value)).toArray).run Tryz.prog w= .ok (.agg (Md.cells ⟨(dO).kind,(dO).n,(dO).m,(dO).sub,(dO).f⟩)) w:=fun _=>by kernel_rfl
def tV {ops rest a w Q dst ty pos af gd} (h:wpList Tryz.prog ops Q ((⟨dst, .build 56 #[],ty,pos,af,gd⟩:Oper)::rest) a w):=h
def yE {ops rest} {a:Act} {w Q dst ty pos af gd} hw h:=
 @gQ w ops rest (⟨dst, .build 56 #[],ty,pos,af,gd⟩:Oper) a Q 56 [] rfl hw [] (by simp only [List.map_cons,List.map_nil]) _ (afG) h
theorem acW (x0:Int):∀w:World,(Instr.build 56 ([(0, .int .i64 x0)]:List (Nat × Value)).toArray).run Tryz.prog w= .ok (.agg (Md.cells ⟨x0,(dO).n,(dO).m,(dO).sub,(dO).f⟩)) w:=fun _=>by kernel_rfl
def Ap {ops rest a w Q dst ty pos af gd y0} (h:wpList Tryz.prog ops Q ((⟨dst, .build 56 #[(0,y0)],ty,pos,af,gd⟩:Oper)::rest) a w):=h
def Gs {x0:Int} {ops rest} {a:Act} {w Q dst ty pos af gd y0} hw (h0:a.eval y0= .int .i64 x0) h:=
 @gQ w ops rest (⟨dst, .build 56 #[(0,y0)],ty,pos,af,gd⟩:Oper) a Q 56 [(0,y0)] rfl hw [(0, .int .i64 x0)] (by simp only [List.map_cons,List.map_nil,h0]) _ (acW x0) h
theorem XC (x0:Int) (x4:aH):∀w:World,(Instr.build 56 ([(0, .int .i64 x0),(4, .agg (aH.cells x4))]:List (Nat × Value)).toArray).run Tryz.prog w= .ok (.agg (Md.cells ⟨x0,(dO).n,(dO).m,(dO).sub,x4⟩)) w:=fun _=>by kernel_rfl
def JF {ops rest a w Q dst ty pos af gd y0 y4} (h:wpList Tryz.prog ops Q ((⟨dst, .build 56 #[(0,y0),(4,y4)],ty,pos,af,gd⟩:Oper)::rest) a w):=h
def PG {x0:Int} {x4:aH} {ops rest} {a:Act} {w Q dst ty pos af gd y0 y4} hw (h0:a.eval y0= .int .i64 x0) (h4:a.eval y4= .agg (aH.cells x4)) h:=
 @gQ w ops rest (⟨dst, .build 56 #[(0,y0),(4,y4)],ty,pos,af,gd⟩:Oper) a Q 56 [(0,y0),(4,y4)] rfl hw [(0, .int .i64 x0),(4, .agg (aH.cells x4))] (by simp only [List.map_cons,List.map_nil,h0,h4]) _ (XC x0 x4) h
theorem Ru (x0:Int) (x1:Int) (x2:Int):∀w:World,(Instr.build 56 ([(0, .int .i64 x0),(1, .int .i64 x1),(2, .int .i64 x2)]:List (Nat × Value)).toArray).run Tryz.prog w= .ok (.agg (Md.cells ⟨x0,x1,x2,(dO).sub,(dO).f⟩)) w:=fun _=>by kernel_rfl
def Rw {ops rest a w Q dst ty pos af gd y0 y1 y2} (h:wpList Tryz.prog ops Q ((⟨dst, .build 56 #[(0,y0),(1,y1),(2,y2)],ty,pos,af,gd⟩:Oper)::rest) a w):=h
def Xz {x0:Int} {x1:Int} {x2:Int} {ops rest} {a:Act} {w Q dst ty pos af gd y0 y1 y2} hw (h0:a.eval y0= .int .i64 x0) (h1:a.eval y1= .int .i64 x1) (h2:a.eval y2= .int .i64 x2) h:=
 @gQ w ops rest (⟨dst, .build 56 #[(0,y0),(1,y1),(2,y2)],ty,pos,af,gd⟩:Oper) a Q 56 [(0,y0),(1,y1),(2,y2)] rfl hw [(0, .int .i64 x0),(1, .int .i64 x1),(2, .int .i64 x2)] (by simp only [List.map_cons,List.map_nil,h0,h1,h2]) _ (Ru x0 x1 x2) h
theorem afD (r:Md):(Md.cells r)[0]? =some (.int .i64 r.kind):=rfl
theorem alK (r:Md) (x:Int):(Md.cells r).toList.take 0++(Value.cells (.int .i64 x)).toList++(Md.cells r).toList.drop (0+(Value.cells (.int .i64 x)).size)=(Md.cells ⟨x,r.n,r.m,r.sub,r.f⟩).toList:=rfl
theorem afE (r:Md):(Md.cells r)[1]? =some (.int .i64 r.n):=rfl
theorem alL (r:Md) (x:Int):(Md.cells r).toList.take 1++(Value.cells (.int .i64 x)).toList++(Md.cells r).toList.drop (1+(Value.cells (.int .i64 x)).size)=(Md.cells ⟨r.kind,x,r.m,r.sub,r.f⟩).toList:=rfl
theorem afF (r:Md):(Md.cells r)[2]? =some (.int .i64 r.m):=rfl
theorem alM (r:Md) (x:Int):(Md.cells r).toList.take 2++(Value.cells (.int .i64 x)).toList++(Md.cells r).toList.drop (2+(Value.cells (.int .i64 x)).size)=(Md.cells ⟨r.kind,r.n,x,r.sub,r.f⟩).toList:=rfl
theorem aoy (r:Md):(Md.cells r)[3]? =some (.string r.sub):=rfl
theorem alN (r:Md) (x:ByteArray):(Md.cells r).toList.take 3++(Value.cells (.string x)).toList++(Md.cells r).toList.drop (3+(Value.cells (.string x)).size)=(Md.cells ⟨r.kind,r.n,r.m,x,r.f⟩).toList:=rfl
theorem aiA (r:Md):∀j v,(aH.cells r.f)[j]? =some v→(Md.cells r)[4+j]? =some v:=by
 intro j v h
 have hj:j<16:=by
  rcases Nat.lt_or_ge j 16 with h1|h1
  ·exact h1
  ·rw [Array.getElem?_eq_none (by exact h1)] at h;cases h
 match j,hj,h with
 |0,_,h=>exact h
 |1,_,h=>exact h
 |2,_,h=>exact h
 |3,_,h=>exact h
 |4,_,h=>exact h
 |5,_,h=>exact h
 |6,_,h=>exact h
 |7,_,h=>exact h
 |8,_,h=>exact h
 |9,_,h=>exact h
 |10,_,h=>exact h
 |11,_,h=>exact h
 |12,_,h=>exact h
 |13,_,h=>exact h
 |14,_,h=>exact h
 |15,_,h=>exact h
theorem alO (r:Md) (x:aH):(Md.cells r).toList.take 4++(Value.cells (.agg (aH.cells x))).toList++(Md.cells r).toList.drop (4+(Value.cells (.agg (aH.cells x))).size)=(Md.cells ⟨r.kind,r.n,r.m,r.sub,x⟩).toList:=rfl
theorem aoA (r x:Md):(Md.cells r).toList.take 0++(Value.cells (.agg (Md.cells x))).toList++(Md.cells r).toList.drop (0+(Value.cells (.agg (Md.cells x))).size)=(Md.cells x).toList:=rfl
def afI {L w0 w rows ops rest o a Q x y} ho hS hw {g} hx {v} hy {r T' rows'} hm h:=
 @bF L w0 w rows ops rest o a Q 3 x y ho hS hw g 0 hx _ hy _ _ T' rows' hm (by exact Nat.le_of_ble_eq_true rfl) (alK r v) gI (by simp [Value.cells,Value.oneCell']) h
def PL {L w0 w rows ops rest o a Q x y} ho hS hw {g} hx {v} hy {r T' rows'} hm h:=
 @bF L w0 w rows ops rest o a Q 3 x y ho hS hw g 1 hx _ hy _ _ T' rows' hm (by exact Nat.le_of_ble_eq_true rfl) (alL r v) gI (by simp [Value.cells,Value.oneCell']) h
def afJ {L w0 w rows ops rest o a Q x y} ho hS hw {g} hx {v} hy {r T' rows'} hm h:=
 @bF L w0 w rows ops rest o a Q 3 x y ho hS hw g 2 hx _ hy _ _ T' rows' hm (by exact Nat.le_of_ble_eq_true rfl) (alM r v) gI (by simp [Value.cells,Value.oneCell']) h
def XD {L w0 w rows ops rest o a Q x y} ho hS hw {g} hx {v} hy {r T' rows'} hm h:=
 @bF L w0 w rows ops rest o a Q 9 x y ho hS hw g 3 hx _ hy _ _ T' rows' hm (by exact Nat.le_of_ble_eq_true rfl) (alN r v) Xf (by simp [Value.cells,Value.oneCell']) h
def afK {L w0 w rows ops rest o a Q x y} ho hS hw {g} hx {v} hy {r T' rows'} hm h:=
 @bF L w0 w rows ops rest o a Q 25 x y ho hS hw g 4 hx _ hy _ _ T' rows' hm (by exact Nat.le_of_ble_eq_true rfl) (alO r v) vM (Q9 v) h
def jM {L w0 w rows ops rest o a Q x y} ho hS hw {g} hx {v} hy {r T' rows'} hm h:=
 @bF L w0 w rows ops rest o a Q 56 x y ho hS hw g 0 hx _ hy _ _ T' rows' hm (by exact Nat.le_of_ble_eq_true rfl) (aoA r v) jQ (aoz v) h
def jX {L w0 w rows ops rest o a Q x} ho hS hw {g} hx {r T'} hm h:=
 @aQ L w0 w rows ops rest o a Q 3 x ho hS hw g 0 hx _ T' hm kJ _ (afD r) h
def tN {L w0 w rows ops rest o a Q x} ho hS hw {g} hx {r T'} hm h:=
 @aQ L w0 w rows ops rest o a Q 3 x ho hS hw g 1 hx _ T' hm kJ _ (afE r) h
def afH {L w0 w rows ops rest o a Q x} ho hS hw {g} hx {r T'} hm h:=
 @aQ L w0 w rows ops rest o a Q 3 x ho hS hw g 2 hx _ T' hm kJ _ (afF r) h
def JB {L w0 w rows ops rest o a Q x} ho hS hw {g} hx {r T'} hm h:=
 @aQ L w0 w rows ops rest o a Q 9 x ho hS hw g 3 hx _ T' hm GY _ (aoy r) h
def JC {L w0 w rows ops rest o a Q x} ho hS hw {g} hx {r T'} hm h:=
 @ny L w0 w rows ops rest o a Q 25 x ho hS hw g 4 hx _ _ T' hm (aiA r) _ Tryz.underlying25 rfl vM h
def fD {L w0 w rows ops rest o a Q x} ho hS hw {g} hx {r T'} hm h:=
 @mM L w0 w rows ops rest o a Q 56 x ho hS hw g hx (Md.cells r) T' hm _ Tryz.underlying56 rfl jQ h
def aoB {L w0 rows ops rest o a Q x} ho hw {g} hx {r:Md} {T'} hm hq h:=
 @dn L w0 rows ops Q o rest a (.int .i64 r.kind) hw hq (fun w hS=> @gB L w0 w rows o a hS 3 x ho g 0 hx _ T' hm kJ _ (afD r)) h
def PI {L w0 rows ops rest o a Q x} ho hw {g} hx {r:Md} {T'} hm hq h:=
 @dn L w0 rows ops Q o rest a (.int .i64 r.n) hw hq (fun w hS=> @gB L w0 w rows o a hS 3 x ho g 1 hx _ T' hm kJ _ (afE r)) h
def PK {L w0 rows ops rest o a Q x} ho hw {g} hx {r:Md} {T'} hm hq h:=
 @dn L w0 rows ops Q o rest a (.int .i64 r.m) hw hq (fun w hS=> @gB L w0 w rows o a hS 3 x ho g 2 hx _ T' hm kJ _ (afF r)) h
def aoC {L w0 rows ops rest o a Q x} ho hw {g} hx {r:Md} {T'} hm hq h:=
 @dn L w0 rows ops Q o rest a (.agg (Md.cells r)) hw hq (fun w hS=> @kF L w0 w rows o a hS 56 x ho g 0 hx _ _ T' hm (fun j v hj=>by simpa using hj) _ Tryz.underlying56 rfl jQ) h
theorem Bh {L:World→Prop} {w0 w:World} {rows:List Row} {a:Act} (hS:St L w0 rows w) {fn:Func} {p q:Tmp} (hf:fn.results= #[.cell p 56, .tmp q]) {g:Nat} (hp:a.tmps.getD p undef= .pointer (some ⟨g,0,none⟩)) {r:Md} {T':Nat} (hm:cZ g (Md.cells r) T' rows) {v:Value} (hq:a.tmps.getD q undef=v) (hdef:a.defers=[]) {R:Ending→World→Prop} (hR:Below w0.heap.size w0 w→R (.returned (.tuple #[.agg (Md.cells r),v])) w):bodyPost Tryz.prog fn R .ret a w:=
 bodyPost_ret ((gV hf a.tmps w g T' (Md.cells r) (0,0) _ hp (hS.row hm) Tryz.underlying56 rfl jQ).trans (by rw [hq])) hdef (hR hS.below)
theorem zM {L:World→Prop} {w0 w:World} {rows:List Row} {a:Act} (hS:St L w0 rows w) {fn:Func} {p:Tmp} (hf:fn.results= #[.cell p 56]) {g:Nat} (hp:a.tmps.getD p undef= .pointer (some ⟨g,0,none⟩)) {r:Md} {T':Nat} (hm:cZ g (Md.cells r) T' rows) (hdef:a.defers=[]) {R:Ending→World→Prop} (hR:Below w0.heap.size w0 w→R (.returned (.agg (Md.cells r))) w):bodyPost Tryz.prog fn R .ret a w:=
 St.result hS hf hp hm Tryz.underlying56 rfl jQ hdef hR
theorem aqr (r q:Md) (w:World):(binOp .eql 56 (.agg r.cells) (.agg q.cells)).run Tryz.prog w= .ok (.bool (Ew r q)) w:=by
 rw [run_eql_struct,run_equalIn_agg w 9999 56 _ _ (by kernel_rfl) (by kernel_rfl)]
 simp [Ew,fK,Md.cells,go_sem,Tryz.underlying56,Tryz.fieldsF,Tryz.stoodF,Tryz.underlying25,Tryz.underlying23,Tryz.underlying3,Tryz.underlying9]
 (try simp only [Bool.and_assoc])
 iterate 19 (refine yX (by simp) ?_)
 split
 ·rename_i h;rw [h];simp
 ·rename_i h;rw [beq_eq_false_iff_ne.2 h]
theorem PU (r q:Md) (w:World):(binOp .neq 56 (.agg r.cells) (.agg q.cells)).run Tryz.prog w= .ok (.bool (!Ew r q)) w:=by
 have h:=aqr r q w
 rw [run_eql_struct] at h
 rw [run_neq_struct]
 generalize (Op.equalIn 10000 56 (.agg r.cells) (.agg q.cells)).run Tryz.prog w=x at *
 cases x<;>simp_all [Result.andThen]
theorem St.apD {L:World→Prop} {w0 w:World} {rows rows':List Row} (h:St L w0 rows w) {g T:Nat} {cs new:Array Value} (m:jq g cs new T rows rows') (j:Nat) (u:Value) (hn:new=cs.setIfInBounds j u):St L w0 rows' (w.setCell ⟨g,j,none⟩ u):=by
 obtain ⟨hg,ho⟩:=h.has _ m.mem
 refine ⟨h.base,h.keeps,h.below.setCell (p:=⟨g,j,none⟩) ho u,?_,by rw [m.keys];exact h.apart⟩
 intro x hx
 rcases m.cases h.apart x hx with rfl|⟨h1,h2⟩
 ·refine ⟨?_,ho⟩
  simp [World.setCell,Array.getElem?_modify,hg,hn]
 ·exact ⟨(Below.heap_setCell w _ u x.1 h2).trans (h.has x h1).1,(h.has x h1).2⟩
theorem St.uz {L:World→Prop} {w0 w:World} {rows:List Row} (h:St L w0 rows w) {g T:Nat} {cs:Array Value} (m:cZ g cs T rows) (j:Nat) {v:Value} (hv:cs[j]? =some v):w.cell? ⟨g,j,none⟩=some v:=(cell_of_row w g j cs T (0,0) (h.row m)).trans hv
theorem St.ajY {L:World→Prop} {w0 w:World} {rows:List Row} (h:St L w0 rows w) {g T:Nat} {cs:Array Value} (m:cZ g cs T rows) (j:Nat):w.frozen? ⟨g,j,none⟩=false:=frozen_of_row w g j cs T (h.row m)
end Go.Proofs.YtdicgggkdmkklaaGreatDoor
namespace Go.Proofs.YtdicgggkdmkklaaGreatDoor
attribute [local irreducible] wpList Code.wp Calls
open Go.ChangeShapes Go.WideShapes Go.RowKit
theorem acV (r:Md) (w:World) (hl:Laid w):Calls Tryz.prog 154 #[.agg r.cells] w fun e w'=>e= .returned (.agg (Lj r).cells)∧Below w.heap.size w w':=by
 obtain ⟨kind,n,m,sub,f⟩:=r
 have hS:=St.start hl bJ
 go_enter Tryz.func154,Tryz.ntmps154
 go_wp2_with (first|((first|(with_reducible refine aB ?_)|(with_reducible refine aT ?_));(have hq:=int_eq (by assumption);subst hq))|((with_reducible refine aT ?_);have c1:=hS.uz (.tail (.tail .head)) 1 (v:= .int .i64 n) rfl;have c2:=hS.uz (.tail (.tail .head)) 2 (v:= .int .i64 m) rfl;have d1:=hS.uz .head 1 (v:= .int .i64 0) rfl;have d2:=hS.uz .head 2 (v:= .int .i64 0) rfl;have f1:=hS.ajY .head 1;have f2:=hS.ajY .head 2;go_region;(have hS:=((hS.apD (new:=Md.cells ⟨_,n,dO.m,dO.sub,dO.f⟩) .head 1 (.int .i64 n) rfl).apD (new:=Md.cells ⟨_,n,m,dO.sub,dO.f⟩) .head 2 (.int .i64 m) rfl).drew);revert hS;generalize World.drew _=wz;intro hS)|((with_reducible refine bI ?_);(first|(refine aG rfl hS rfl rfl ?_;intro g w hS));(try simp only [ah,ak,au,ay,aA]))|((with_reducible refine aW ?_);(first|(refine aJ 56 rfl hS rfl _ jf ?_;intro g w hS));(try simp only [ah,ak,au,ay,aA]))|((with_reducible refine Ap ?_);refine Gs rfl rfl ?_;(try simp only [ah,ak,au,ay,aA]))|((with_reducible refine aC ?_);(first|(refine fD rfl hS rfl rfl (by repeat constructor) ?_)|(refine jX rfl hS rfl rfl (by repeat constructor) ?_)|(refine tN rfl hS rfl rfl (by repeat constructor) ?_)|(refine JB rfl hS rfl rfl (by repeat constructor) ?_)|(refine JC rfl hS rfl rfl (by repeat constructor) ?_));(try simp only [ah,ak,au,ay,aA]))|((with_reducible refine aN ?_);(first|(refine jM rfl hS rfl rfl rfl (by repeat constructor) ?_;intro w hS)|(refine PL rfl hS rfl rfl rfl (by repeat constructor) ?_;intro w hS)|(refine XD rfl hS rfl rfl rfl (by repeat constructor) ?_;intro w hS)|(refine afK rfl hS rfl rfl rfl (by repeat constructor) ?_;intro w hS));(try simp only [ah,ak,au,ay,aA])))
 all_goals (refine zM hS rfl rfl (by repeat constructor) rfl (fun hb=>⟨kW (f:=Md.cells) ?_,hb⟩))
 all_goals (simp_all [Lj,Ll,dO])
def inB (n a b:Int):Bool:=decide (a≤n)&&decide (n≤b)
theorem Xv (n a b:Int) (w:World):Calls Tryz.prog 153 #[.int .i64 n, .int .i64 a, .int .i64 b] w fun e w'=>e= .returned (.bool (inB n a b))∧w=w':=by
 go_enter Tryz.func153,Tryz.ntmps153
 go_wp2_with (first|fail)
 all_goals go_ret
 all_goals exact ⟨aX (by rw [Bool.eq_iff_iff];simp_all [inB]<;>(intros;omega)),rfl⟩
theorem aiy (r:Md) (w:World) (hl:Laid w):Calls Tryz.prog 71 #[.agg r.cells] w fun e w'=>e= .returned (.bool (iL r))∧Below w.heap.size w w':=by
 have heq:=fun (q:Md) (wx:World)=>PU r q wx
 have hS:=St.start hl bJ
 go_enter Tryz.func71,Tryz.ntmps71
 go_wp2_with (first|(go_at_call 153;(with_reducible refine (St.still hS fun hl=>Xv _ _ _ _).mono ?_);rintro e w ⟨rfl,hS⟩)|(go_at_call 69;(with_reducible refine (St.call hS fun hl=>Ua _ _ hl).mono ?_);rintro e w ⟨rfl,hS⟩)|(go_at_call 26;(with_reducible refine (St.call hS fun hl=>aln _ _ hl).mono ?_);rintro e w ⟨rfl,hS⟩)|((with_reducible refine bG ?_);(first|(refine aS rfl ?_)|((fail_if_success refine fJ rfl ?_);refine iZ _ _ rfl rfl (fun hb=> ?_) (fun hb=> ?_)<;>(first|(obtain rfl:=eq_of_beq hb)|(simp only [hb]))));(try simp only [ah,ak,au,ay,aA]))|((with_reducible refine bI ?_);(first|(refine aG rfl hS rfl rfl ?_;intro g w hS));(try simp only [ah,ak,au,ay,aA]))|((with_reducible refine aC ?_);(first|(refine jX rfl hS rfl rfl (by repeat constructor) ?_)|(refine tN rfl hS rfl rfl (by repeat constructor) ?_)|(refine afH rfl hS rfl rfl (by repeat constructor) ?_)|(refine JB rfl hS rfl rfl (by repeat constructor) ?_)|(refine JC rfl hS rfl rfl (by repeat constructor) ?_));(try simp only [ah,ak,au,ay,aA]))|((with_reducible refine aT ?_);refine bY hS (by kernel_rfl) (by kernel_rfl) ?_)|((with_reducible refine fG ?_);intro w hS)|((with_reducible refine wK ?_);(first|(refine uh rfl (fun _ _ _ h=>h) ?_)|((fail_if_success refine MX rfl ?_);refine YF _ _ rfl rfl (fun hb=> ?_) (fun hb=> ?_)<;>(first|(obtain rfl:=eq_of_beq hb)|(simp only [hb]))));(try simp only [ah,ak,au,ay,aA]))|((with_reducible refine gY ?_);(first|(refine aoC rfl rfl rfl (by repeat constructor) (fun _ _ _ h=>h) ?_)|(refine aoB rfl rfl rfl (by repeat constructor) (fun _ _ _ h=>h) ?_));(try simp only [ah,ak,au,ay,aA]))|((with_reducible refine iH ?_);(first|(refine eu (v:= ?_) (args:= ?_) 153 rfl (fun _ _ _ h=>h) ?_ ?_ ?_;rotate_left 2;(focus ((intro w;go_simp)<;>with_reducible rfl));(focus (intro w hS;refine St.Kt hS (fun hl=>Xv _ _ _ _) ?_;with_reducible rfl)))|(refine eu (v:= ?_) (args:= ?_) 154 rfl (fun _ _ _ h=>h) ?_ ?_ ?_;rotate_left 2;(focus ((intro w;go_simp)<;>with_reducible rfl));(focus (intro w hS;refine St.jE hS (fun hl=>acV _ _ hl) ?_;with_reducible rfl))));(try simp only [ah,ak,au,ay,aA]))|((with_reducible refine dS ?_);(refine dn (v:= ?_) rfl (fun _ _ _ h=>h) ?_ ?_;rotate_left;(focus ((intro w hS;go_simp)<;>with_reducible rfl)));(try simp only [ah,ak,au,ay,aA])))
 all_goals go_ret
 all_goals (refine ⟨aX ?_,hS.below⟩;clear heq hS hl;rw [Bool.eq_iff_iff];simp_all [iL,Px,inB]<;>(intros;omega))
theorem ng (r:Md) (R:Bool) (h:Hid (R=iL r)) (w:World) (hl:Laid w):Calls Tryz.prog 71 #[.agg r.cells] w fun e w'=>e= .returned (.bool R)∧Below w.heap.size w w':=
 (aiy r w hl).mono fun e w' h'=>⟨by rw [h'.1,h.out],h'.2⟩
theorem D8:∀k:Fin 64,(bD k.val).length≤1000:=by decide +kernel
theorem uD:∀k:Fin 32,(bM k.val).length≤1000:=by decide +kernel
theorem acN:∀k:Fin 199,(Lib.itoa ((k.val:Int) - 99)).length≤1000:=by decide +kernel
theorem kV (n:Int) (h1: -99≤n) (h2:n≤99):(Lib.itoa n).length≤1000:=by
 have:=acN ⟨(n+99).toNat,by omega⟩
 simp only at this
 rwa [show (((n+99).toNat:Nat):Int) - 99=n by omega] at this
theorem Ak {m:Nat} :(dA m).length≤1000000:=by
 unfold dA
 split
 ·decide
 ·have h1:=join_le [43] 20 _ (xC (m:=m) (show ∀x∈bK,x.length≤20 by decide))
  have h2:=pW bK m
  simp only [List.length_cons,List.length_nil] at h1;omega
theorem ZP (r:Md) (HV:Hid (false=iL r)) (w:World) (hl:Laid w):Calls Tryz.prog 72 #[.agg r.cells] w fun e w'=>e= .returned (.string (B []))∧Below w.heap.size w w':=by
 obtain ⟨kind,n,m,sub,f⟩:=r
 have hS:=St.start hl bJ
 go_enter Tryz.func72,Tryz.ntmps72
 go_wp2_with (first|(go_at_call 71;(with_reducible refine (St.call hS fun hl=>ng _ _ HV _ hl).mono ?_);rintro e w ⟨rfl,hS⟩)|((with_reducible refine bI ?_);(first|(refine aG rfl hS rfl rfl ?_;intro g w hS));(try simp only [ah,ak,au,ay,aA]))|((with_reducible refine aC ?_);(first|(refine fD rfl hS rfl rfl (by repeat constructor) ?_));(try simp only [ah,ak,au,ay,aA])))
 go_ret
 exact ⟨rfl,hS.below⟩
theorem ZQ (r:Md) (hr:nJ r) (HV:Hid (true=iL r)) (w:World) (hl:Laid w):Calls Tryz.prog 72 #[.agg r.cells] w fun e w'=>e= .returned (.string (B (nK r)))∧Below w.heap.size w w':=by
 cases hr with
 |control|blank|switch=>
  have hS:=St.start hl bJ
  go_enter Tryz.func72,Tryz.ntmps72
  go_wp2_with (first|(go_at_call 71;(with_reducible refine (St.call hS fun hl=>ng _ _ HV _ hl).mono ?_);rintro e w ⟨rfl,hS⟩)|((with_reducible refine bI ?_);(first|(refine aG rfl hS rfl rfl ?_;intro g w hS));(try simp only [ah,ak,au,ay,aA]))|((with_reducible refine aC ?_);(first|(refine fD rfl hS rfl rfl (by repeat constructor) ?_)|(refine jX rfl hS rfl rfl (by repeat constructor) ?_));(try simp only [ah,ak,au,ay,aA])))
  all_goals go_ret
  all_goals exact ⟨dL rfl,hS.below⟩
 |rZ k h1 h2|zW k h1 h2=>
  have h3:=D8 ⟨k,by omega⟩
  simp only at h3
  have hS:=St.start hl bJ
  go_enter Tryz.func72,Tryz.ntmps72
  go_wp2_with (first|(go_at_call 71;(with_reducible refine (St.call hS fun hl=>ng _ _ HV _ hl).mono ?_);rintro e w ⟨rfl,hS⟩)|(go_at_call 155;(with_reducible refine (St.call hS fun hl=>vH _ _).mono ?_);rintro e w ⟨rfl,hS⟩)|((with_reducible refine jT ?_);(first|(refine eG rfl rfl rfl rfl (by first|(simp only [List.length_append,List.length_cons,List.length_nil];omega)|fail) ?_));(try simp only [ah,ak,au,ay,aA]))|((with_reducible refine bI ?_);(first|(refine aG rfl hS rfl rfl ?_;intro g w hS));(try simp only [ah,ak,au,ay,aA]))|((with_reducible refine aC ?_);(first|(refine fD rfl hS rfl rfl (by repeat constructor) ?_)|(refine jX rfl hS rfl rfl (by repeat constructor) ?_)|(refine tN rfl hS rfl rfl (by repeat constructor) ?_));(try simp only [ah,ak,au,ay,aA])))
  all_goals go_ret
  all_goals exact ⟨dL rfl,hS.below⟩
 |Ku s hs|Kv s hs=>
  obtain ⟨p,rfl⟩:∃p,s=B p:=⟨L s,(qV s).symm⟩
  have h3:=tu hs
  rw [cO] at h3
  have hS:=St.start hl bJ
  go_enter Tryz.func72,Tryz.ntmps72
  go_wp2_with (first|(go_at_call 71;(with_reducible refine (St.call hS fun hl=>ng _ _ HV _ hl).mono ?_);rintro e w ⟨rfl,hS⟩)|((with_reducible refine jT ?_);(first|(refine eG rfl rfl rfl rfl (by first|(simp only [List.length_append,List.length_cons,List.length_nil];omega)|fail) ?_));(try simp only [ah,ak,au,ay,aA]))|((with_reducible refine bI ?_);(first|(refine aG rfl hS rfl rfl ?_;intro g w hS));(try simp only [ah,ak,au,ay,aA]))|((with_reducible refine aC ?_);(first|(refine fD rfl hS rfl rfl (by repeat constructor) ?_)|(refine jX rfl hS rfl rfl (by repeat constructor) ?_)|(refine JB rfl hS rfl rfl (by repeat constructor) ?_));(try simp only [ah,ak,au,ay,aA])))
  all_goals go_ret
  all_goals exact ⟨dL rfl,hS.below⟩
 |vX k h1=>
  have h3:=uD ⟨k,by omega⟩
  simp only at h3
  have hS:=St.start hl bJ
  go_enter Tryz.func72,Tryz.ntmps72
  go_wp2_with (first|(go_at_call 71;(with_reducible refine (St.call hS fun hl=>ng _ _ HV _ hl).mono ?_);rintro e w ⟨rfl,hS⟩)|(go_at_call 156;(with_reducible refine (St.call hS fun hl=>vF _ (by omega) _ hl).mono ?_);rintro e w ⟨rfl,hS⟩)|((with_reducible refine jT ?_);(first|(refine eG rfl rfl rfl rfl (by first|(simp only [List.length_append,List.length_cons,List.length_nil];omega)|fail) ?_));(try simp only [ah,ak,au,ay,aA]))|((with_reducible refine bI ?_);(first|(refine aG rfl hS rfl rfl ?_;intro g w hS));(try simp only [ah,ak,au,ay,aA]))|((with_reducible refine aC ?_);(first|(refine fD rfl hS rfl rfl (by repeat constructor) ?_)|(refine jX rfl hS rfl rfl (by repeat constructor) ?_)|(refine tN rfl hS rfl rfl (by repeat constructor) ?_));(try simp only [ah,ak,au,ay,aA])))
  all_goals go_ret
  all_goals exact ⟨dL rfl,hS.below⟩
 |vY k h1 h2=>
  have h3:=uD ⟨k,by omega⟩
  simp only at h3
  have hS:=St.start hl bJ
  go_enter Tryz.func72,Tryz.ntmps72
  go_wp2_with (first|(go_at_call 71;(with_reducible refine (St.call hS fun hl=>ng _ _ HV _ hl).mono ?_);rintro e w ⟨rfl,hS⟩)|(go_at_call 156;(with_reducible refine (St.call hS fun hl=>vF _ (by omega) _ hl).mono ?_);rintro e w ⟨rfl,hS⟩)|((with_reducible refine jT ?_);(first|(refine eG rfl rfl rfl rfl (by first|(simp only [List.length_append,List.length_cons,List.length_nil];omega)|fail) ?_));(try simp only [ah,ak,au,ay,aA]))|((with_reducible refine bI ?_);(first|(refine aG rfl hS rfl rfl ?_;intro g w hS));(try simp only [ah,ak,au,ay,aA]))|((with_reducible refine aC ?_);(first|(refine fD rfl hS rfl rfl (by repeat constructor) ?_)|(refine jX rfl hS rfl rfl (by repeat constructor) ?_)|(refine tN rfl hS rfl rfl (by repeat constructor) ?_));(try simp only [ah,ak,au,ay,aA])))
  all_goals go_ret
  all_goals exact ⟨dL rfl,hS.below⟩
 |keys8 k h1 h2|DK k h1 h2=>
  have h3:=Ak (m:=k)
  have hS:=St.start hl bJ
  go_enter Tryz.func72,Tryz.ntmps72
  go_wp2_with (first|(go_at_call 71;(with_reducible refine (St.call hS fun hl=>ng _ _ HV _ hl).mono ?_);rintro e w ⟨rfl,hS⟩)|(go_at_call 157;(with_reducible refine (St.call hS fun hl=>Eu _ (by omega) _).mono ?_);rintro e w ⟨rfl,hS⟩)|((with_reducible refine jT ?_);(first|(refine eG rfl rfl rfl rfl (by first|(simp only [List.length_append,List.length_cons,List.length_nil];omega)|fail) ?_));(try simp only [ah,ak,au,ay,aA]))|((with_reducible refine bI ?_);(first|(refine aG rfl hS rfl rfl ?_;intro g w hS));(try simp only [ah,ak,au,ay,aA]))|((with_reducible refine aC ?_);(first|(refine fD rfl hS rfl rfl (by repeat constructor) ?_)|(refine jX rfl hS rfl rfl (by repeat constructor) ?_)|(refine tN rfl hS rfl rfl (by repeat constructor) ?_));(try simp only [ah,ak,au,ay,aA])))
  all_goals go_ret
  all_goals exact ⟨dL rfl,hS.below⟩
 |count f hf=>
  have h3:=oH (f:=f)
  have hS:=St.start hl bJ
  go_enter Tryz.func72,Tryz.ntmps72
  go_wp2_with (first|(go_at_call 71;(with_reducible refine (St.call hS fun hl=>ng _ _ HV _ hl).mono ?_);rintro e w ⟨rfl,hS⟩)|(go_at_call 38;(with_reducible refine (St.call hS fun hl=>zK _ _ hl).mono ?_);rintro e w ⟨rfl,hS⟩)|((with_reducible refine jT ?_);(first|(refine eG rfl rfl rfl rfl (by first|(simp only [List.length_append,List.length_cons,List.length_nil];omega)|fail) ?_));(try simp only [ah,ak,au,ay,aA]))|((with_reducible refine bI ?_);(first|(refine aG rfl hS rfl rfl ?_;intro g w hS));(try simp only [ah,ak,au,ay,aA]))|((with_reducible refine aC ?_);(first|(refine fD rfl hS rfl rfl (by repeat constructor) ?_)|(refine jX rfl hS rfl rfl (by repeat constructor) ?_)|(refine JC rfl hS rfl rfl (by repeat constructor) ?_));(try simp only [ah,ak,au,ay,aA])))
  all_goals go_ret
  all_goals (refine ⟨dL ?_,hS.below⟩;simp [nK,uS,ig])
 |DZ n m h1 h2 h3 h4=>
  have h5:=kV n (by omega) h2
  have h6:=kV m (by omega) h4
  have hS:=St.start hl bJ
  go_enter Tryz.func72,Tryz.ntmps72
  go_wp2_with (first|(go_at_call 71;(with_reducible refine (St.call hS fun hl=>ng _ _ HV _ hl).mono ?_);rintro e w ⟨rfl,hS⟩)|((with_reducible refine bI ?_);(first|(refine aG rfl hS rfl rfl ?_;intro g w hS));(try simp only [ah,ak,au,ay,aA]))|((with_reducible refine aC ?_);(first|(refine fD rfl hS rfl rfl (by repeat constructor) ?_)|(refine jX rfl hS rfl rfl (by repeat constructor) ?_));(try simp only [ah,ak,au,ay,aA]))|((with_reducible refine aT ?_);refine bY hS (by kernel_rfl) (by kernel_rfl) ?_)|((with_reducible refine fG ?_);intro w hS)|((with_reducible refine Fb ?_);(first|(refine C9 rfl rfl rfl rfl (by first|(simp only [List.length_append,List.length_cons,List.length_nil];omega)|fail) (fun _ _ _ h=>h) ?_));(try simp only [ah,ak,au,ay,aA]))|((with_reducible refine gY ?_);(first|(refine PI rfl rfl rfl (by repeat constructor) (fun _ _ _ h=>h) ?_)|(refine PK rfl rfl rfl (by repeat constructor) (fun _ _ _ h=>h) ?_));(try simp only [ah,ak,au,ay,aA]))|((with_reducible refine iH ?_);(first|(refine eu (v:= ?_) (args:= ?_) 63 rfl (fun _ _ _ h=>h) ?_ ?_ ?_;rotate_left 2;(focus ((intro w;go_simp)<;>with_reducible rfl));(focus (intro w hS;refine St.jE hS (fun hl=>nH _ (by omega) (by omega) _ hl) ?_;with_reducible rfl))));(try simp only [ah,ak,au,ay,aA]))|((with_reducible refine dS ?_);(refine dn (v:= ?_) rfl (fun _ _ _ h=>h) ?_ ?_;rotate_left;(focus ((intro w hS;go_simp)<;>with_reducible rfl)));(try simp only [ah,ak,au,ay,aA])))
  all_goals go_ret
  all_goals (refine ⟨dL ?_,hS.below⟩;simp [nK,uS])
 |Dt n m h1 h2 h3 h4=>
  have h5:=kV n h1 h2
  have h6:=kV m h3 h4
  have hS:=St.start hl bJ
  go_enter Tryz.func72,Tryz.ntmps72
  go_wp2_with (first|(go_at_call 71;(with_reducible refine (St.call hS fun hl=>ng _ _ HV _ hl).mono ?_);rintro e w ⟨rfl,hS⟩)|((with_reducible refine bI ?_);(first|(refine aG rfl hS rfl rfl ?_;intro g w hS));(try simp only [ah,ak,au,ay,aA]))|((with_reducible refine aC ?_);(first|(refine fD rfl hS rfl rfl (by repeat constructor) ?_)|(refine jX rfl hS rfl rfl (by repeat constructor) ?_));(try simp only [ah,ak,au,ay,aA]))|((with_reducible refine aT ?_);refine bY hS (by kernel_rfl) (by kernel_rfl) ?_)|((with_reducible refine fG ?_);intro w hS)|((with_reducible refine Fb ?_);(first|(refine C9 rfl rfl rfl rfl (by first|(simp only [List.length_append,List.length_cons,List.length_nil];omega)|fail) (fun _ _ _ h=>h) ?_));(try simp only [ah,ak,au,ay,aA]))|((with_reducible refine gY ?_);(first|(refine PI rfl rfl rfl (by repeat constructor) (fun _ _ _ h=>h) ?_)|(refine PK rfl rfl rfl (by repeat constructor) (fun _ _ _ h=>h) ?_));(try simp only [ah,ak,au,ay,aA]))|((with_reducible refine iH ?_);(first|(refine eu (v:= ?_) (args:= ?_) 63 rfl (fun _ _ _ h=>h) ?_ ?_ ?_;rotate_left 2;(focus ((intro w;go_simp)<;>with_reducible rfl));(focus (intro w hS;refine St.jE hS (fun hl=>nH _ (by omega) (by omega) _ hl) ?_;with_reducible rfl))));(try simp only [ah,ak,au,ay,aA]))|((with_reducible refine dS ?_);(refine dn (v:= ?_) rfl (fun _ _ _ h=>h) ?_ ?_;rotate_left;(focus ((intro w hS;go_simp)<;>with_reducible rfl)));(try simp only [ah,ak,au,ay,aA])))
  all_goals go_ret
  all_goals (refine ⟨dL ?_,hS.below⟩;simp [nK,zX])
theorem acU (r:Md) (w:World) (hl:Laid w):Calls Tryz.prog 72 #[.agg r.cells] w fun e w'=>e= .returned (.string (B (cu r)))∧Below w.heap.size w w':=by
 cases hv:iL r with
 |false=>rw [DN hv];exact ZP r (Lib.hid hv.symm) w hl
 |true=>rw [show cu r=nK r from if_pos hv];exact ZQ r (wH hv) (Lib.hid hv.symm) w hl
theorem Jz (r:Md) (T:Str) (h:Hid (cu r=T)) (w:World) (hl:Laid w):Calls Tryz.prog 72 #[.agg r.cells] w fun e w'=>e= .returned (.string (B T))∧Below w.heap.size w w':=
 (acU r w hl).mono fun e w' h'=>⟨by rw [h'.1,h.out],h'.2⟩
def JK (o:Option Nat):Int:=if o.isSome=true then 0 else 3
theorem JL (o:Option Nat):PY o= .tuple #[.int .i64 (pq o), .int .i64 (JK o)]:=by cases o<;>rfl
theorem Uh (o:Option Int):lM o= .tuple #[.int .i64 (o.getD 0), .bool o.isSome]:=by cases o<;>rfl
def Jm (o:Option aH):Int:=if o.isSome=true then 0 else 3
theorem TT (o:Option aH):ER o= .tuple #[.agg (aH.cells (o.getD aaB)), .int .i64 (Jm o)]:=by cases o<;>rfl
theorem amj (x:Str) (hx:x.length<100000000) (w:World) (hl:Laid w):Calls Tryz.prog 287 #[.string (B x)] w fun e w'=>e= .returned (.tuple #[.int .i64 (pq (xM x)), .int .i64 (JK (xM x))])∧Below w.heap.size w w':=
 (yH (B x) w hl (by rw [bC];omega)).mono fun e w' ⟨he,hb⟩=>⟨he.trans (by rw [cO,JL]),hb⟩
theorem alY (x:Str) (w:World) (hl:Laid w):Calls Tryz.prog 288 #[.string (B x)] w fun e w'=>e= .returned (.tuple #[.int .i64 (pq (pO x)), .int .i64 (JK (pO x))])∧Below w.heap.size w w':=
 (yj (B x) w hl).mono fun e w' ⟨he,hb⟩=>⟨he.trans (by rw [cO,JL]),hb⟩
theorem al0 (x:Str) (hx:x.length<100000000) (w:World):Calls Tryz.prog 242 #[.string (B x)] w fun e w'=>e= .returned (.tuple #[.int .i64 (pq (xJ x)), .int .i64 (JK (xJ x))])∧Below w.heap.size w w':=
 (Cc (B x) w (by rw [bC];omega)).mono fun e w' ⟨he,hb⟩=>⟨he.trans (by rw [cO,JL]),hb⟩
theorem XF (x:Str) (hx:x.length<100000000) (w:World) (hl:Laid w):Calls Tryz.prog 208 #[.string (B x)] w fun e w'=>e= .returned (.tuple #[.int .i64 ((numOf x).getD 0), .bool (numOf x).isSome])∧Below w.heap.size w w':=
 (Gv (B x) w hl (by rw [bC];omega)).mono fun e w' ⟨he,hb⟩=>⟨he.trans (by rw [cO,Uh]),hb⟩
theorem WX (x:Str) (hx:x.length<100000000) (w:World) (hl:Laid w):Calls Tryz.prog 123 #[.string (B x)] w fun e w'=>e= .returned (.tuple #[.agg (aH.cells ((bW x).getD aaB)), .int .i64 (Jm (bW x))])∧Below w.heap.size w w':=
 (Jo (B x) w hl (by rw [bC];exact hx)).mono fun e w' ⟨he,hb⟩=>⟨he.trans (by rw [cO,TT]),hb⟩
theorem WE (s:Str) (c:UInt8) (p q:Str) (HC:Hid (cutAt c s=(p,q))) (w:World) (hl:Laid w) (hs:s.length<100000000):
 Calls Tryz.prog 122 #[.string (B s), .string ⟨#[c]⟩] w fun e w'=>(∃b,e= .returned (.tuple #[.string (B p), .string (B q), .bool b]))∧Below w.heap.size w w':=
 (Tryz.strings_Cut_shaped (B s) ⟨#[c]⟩ w hl.shaped (by rw [bC];omega)).mono fun e w' ⟨he,n,hw⟩=>by
  obtain ⟨h1,h2⟩:=anm c s
  rw [HC.out] at h1 h2
  refine ⟨⟨(Lib.cut (B s).data.toList (⟨#[c]⟩:ByteArray).data.toList).2.2,he.trans ?_⟩,hw ▸ below_drewN (Below.refl _ _) n⟩
  rw [show (⟨#[c]⟩:ByteArray).data.toList=[c] from rfl,show (B s).data.toList=L (B s) from rfl,cO,h1,h2];rfl
theorem ace (x:Str) (w:World):Calls Tryz.prog 120 #[.string (B x), .string ⟨#[99,111,117,110,116,40]⟩] w fun e w'=>e= .returned (.tuple #[.string (B (Lib.trimPrefix x ig)), .bool (Lib.hasPrefix x ig)])∧w=w':=
 (rW (B x) ⟨#[99,111,117,110,116,40]⟩ w ig rfl).mono fun e w' h=>⟨by rw [h.1,cO],h.2⟩
theorem ag8 (x:Str) (hx:x.length<1000000000) (w:World):Calls Tryz.prog 194 #[.string (B x), .string ⟨#[41]⟩] w fun e w'=>e= .returned (.string (B (Lib.trimSuffix x [41])))∧w=w':=
 (Tryz.strings_TrimSuffix (B x) ⟨#[41]⟩ w (by rw [bC];omega)).mono fun _ _ h'=>⟨h'.1.trans (by rw [show (B x).data.toList=L (B x) from rfl,cO];try rfl),h'.2.symm⟩
theorem ZB (x:Str) (hx:x.length<1000000000) (w:World):Calls Tryz.prog 294 #[.string (B x), .string ⟨#[43]⟩] w fun e w'=>e= .returned (.bool (Lib.hasSuffix x [43]))∧w=w':=
 (Tryz.strings_HasSuffix (B x) ⟨#[43]⟩ w (by rw [bC];omega)).mono fun _ _ h'=>⟨h'.1.trans (by rw [show (B x).data.toList=L (B x) from rfl,cO];try rfl),h'.2.symm⟩
theorem aoV (x p:Str):(Lib.trimPrefix x p).length≤x.length:=by unfold Lib.trimPrefix;split<;>simp
theorem apF (x p:Str):(Lib.trimSuffix x p).length≤x.length:=by unfold Lib.trimSuffix;split<;>simp
theorem Xy (s:Str) (hs:s.length<100000000) (w:World) (hl:Laid w):Calls Tryz.prog 293 #[.string (B s)] w fun e w'=>e= .returned (.agg (Md.cells (sK s)))∧Below w.heap.size w w':=by
 have h1:=aoV s ig
 have h2:=apF (Lib.trimPrefix s ig) [41]
 obtain ⟨c1,c2⟩:=aaN 47 s
 obtain ⟨p,q,hpq⟩:∃p q,cutAt 47 s=(p,q):=⟨_,_,rfl⟩
 rw [hpq] at c1 c2
 simp only at c1 c2
 have HC:=Lib.hid hpq
 clear hpq
 have hS:=St.start hl bJ
 go_enter Tryz.func293,Tryz.ntmps293
 go_wp2_with (first|(go_at_call 120;(with_reducible refine (St.still hS fun hl=>ace _ _).mono ?_);rintro e w ⟨rfl,hS⟩)|(go_at_call 194;(with_reducible refine (St.still hS fun hl=>ag8 _ (by omega) _).mono ?_);rintro e w ⟨rfl,hS⟩)|(go_at_call 123;(with_reducible refine (St.call hS fun hl=>WX _ (by omega) _ hl).mono ?_);rintro e w ⟨rfl,hS⟩)|(go_at_call 208;(with_reducible refine (St.call hS fun hl=>XF _ (by omega) _ hl).mono ?_);rintro e w ⟨rfl,hS⟩)|(go_at_call 122;(with_reducible refine (WE s 47 p q HC _ hS.laid hs).mono ?_);rintro e w ⟨⟨b0,rfl⟩,hbw⟩;have hS:=hS.mono hbw;clear hbw)|((with_reducible refine aW ?_);(first|(refine aJ 56 rfl hS rfl _ jf ?_;intro g w hS)|(refine aJ 25 rfl hS rfl _ Q8 ?_;intro g w hS));(try simp only [ah,ak,au,ay,aA]))|((with_reducible refine JF ?_);refine PG rfl rfl rfl ?_;(try simp only [ah,ak,au,ay,aA]))|((with_reducible refine Rw ?_);refine Xz rfl rfl rfl rfl ?_;(try simp only [ah,ak,au,ay,aA]))|((with_reducible refine aC ?_);(first|(refine ES rfl hS rfl rfl (by repeat constructor) ?_));(try simp only [ah,ak,au,ay,aA]))|((with_reducible refine aN ?_);(first|(refine jM rfl hS rfl rfl rfl (by repeat constructor) ?_;intro w hS)|(refine Rh rfl hS rfl rfl rfl (by repeat constructor) ?_;intro w hS));(try simp only [ah,ak,au,ay,aA])))
 all_goals (refine zM hS rfl rfl (by repeat constructor) rfl (fun hb=>⟨kW (f:=Md.cells) ?_,hb⟩))
 all_goals (have hc:=HC.out;simp_all [sK,dO])
theorem abr (q:Str):wrap64 ((sK q).kind+1)=(sK q).kind+1:=by unfold sK;split<;>(simp only [];decide +kernel)
theorem ZM (s:Str) (hs:s.length<100000000) (w:World) (hl:Laid w):Calls Tryz.prog 248 #[.string (B s)] w fun e w'=>e= .returned (.agg (Md.cells (kN s)))∧Below w.heap.size w w':=by
 obtain ⟨c1,c2⟩:=aaN 61 s
 obtain ⟨p,q,hpq⟩:∃p q,cutAt 61 s=(p,q):=⟨_,_,rfl⟩
 rw [hpq] at c1 c2
 simp only at c1 c2
 have HC:=Lib.hid hpq
 clear hpq
 have hS:=St.start hl bJ
 go_enter Tryz.func248,Tryz.ntmps248
 go_wp2_with (first|((first|(with_reducible refine aB ?_)|(with_reducible refine aT ?_));(have hq:=str_eq (by assumption);subst hq))|(go_at_call 287;(with_reducible refine (St.call hS fun hl=>amj _ (by omega) _ hl).mono ?_);rintro e w ⟨rfl,hS⟩)|(go_at_call 288;(with_reducible refine (St.call hS fun hl=>alY _ _ hl).mono ?_);rintro e w ⟨rfl,hS⟩)|(go_at_call 242;(with_reducible refine (St.call hS fun hl=>al0 _ (by omega) _).mono ?_);rintro e w ⟨rfl,hS⟩)|(go_at_call 293;(with_reducible refine (St.call hS fun hl=>Xy _ (by omega) _ hl).mono ?_);rintro e w ⟨rfl,hS⟩)|(go_at_call 294;(with_reducible refine (St.still hS fun hl=>ZB _ (by omega) _).mono ?_);rintro e w ⟨rfl,hS⟩)|(go_at_call 122;(with_reducible refine (WE s 61 p q HC _ hS.laid hs).mono ?_);rintro e w ⟨⟨b0,rfl⟩,hbw⟩;have hS:=hS.mono hbw;clear hbw)|((with_reducible refine bG ?_);(first|(refine aS rfl ?_));(try simp only [ah,ak,au,ay,aA]))|((with_reducible refine aW ?_);(first|(refine aJ 56 rfl hS rfl _ jf ?_;intro g w hS));(try simp only [ah,ak,au,ay,aA]))|((with_reducible refine Ap ?_);refine Gs rfl rfl ?_;(try simp only [ah,ak,au,ay,aA]))|((with_reducible refine aC ?_);(first|(refine fD rfl hS rfl rfl (by repeat constructor) ?_)|(refine jX rfl hS rfl rfl (by repeat constructor) ?_));(try simp only [ah,ak,au,ay,aA]))|((with_reducible refine aN ?_);(first|(refine jM rfl hS rfl rfl rfl (by repeat constructor) ?_;intro w hS)|(refine afI rfl hS rfl rfl rfl (by repeat constructor) ?_;intro w hS)|(refine PL rfl hS rfl rfl rfl (by repeat constructor) ?_;intro w hS)|(refine XD rfl hS rfl rfl rfl (by repeat constructor) ?_;intro w hS));(try simp only [ah,ak,au,ay,aA])))
 all_goals (refine zM hS rfl rfl (by repeat constructor) rfl (fun hb=>⟨kW (f:=Md.cells) ?_,hb⟩))
 all_goals (have hc:=HC.out;clear hS hl;simp_all [abr,kN,rD,stepM,upM,dO,vK,BD,yQ,vw,sQ,EG,zu,sG,qA,tK,tJ,uS,zX]<;>(first|rfl|(decide +kernel)|exact abr _))
def Pz (o:Option Md):Value:=match o with|some r=> .tuple #[.agg r.cells, .int .i64 0]|none=> .tuple #[.agg dO.cells, .int .i64 3]
theorem Gq (s:Str) (G:Md) (h:Hid (kN s=G)) (hs:s.length<100000000) (w:World) (hl:Laid w):Calls Tryz.prog 248 #[.string (B s)] w fun e w'=>e= .returned (.agg G.cells)∧Below w.heap.size w w':=
 (ZM s hs w hl).mono fun e w' h'=>⟨by rw [h'.1,h.out],h'.2⟩
theorem acT (s:Str) (hs:s.length<100000000) (G:Md) (HG:Hid (kN s=G)) (I:Bool) (HI:Hid (I=iL G)) (T:Str) (HT:Hid (cu G=T)) (R:Option Md) (HR:Hid ((if I=true∧T=s then some G else none)=R)) (w:World) (hl:Laid w):
 Calls Tryz.prog 200 #[.string (B s)] w fun e w'=>e= .returned (Pz R)∧Below w.heap.size w w':=by
 have hS:=St.start hl bJ
 cases I
 ·obtain rfl:R=none:=by rw [←HR.out,if_neg (fun h=>by cases h.1)]
  clear HR
  go_enter Tryz.func200,Tryz.ntmps200
  go_wp2_with (first|(go_at_call 248;(with_reducible refine (St.call hS fun hl=>Gq _ _ HG hs _ hl).mono ?_);rintro e w ⟨rfl,hS⟩)|(go_at_call 71;(with_reducible refine (St.call hS fun hl=>ng _ _ HI _ hl).mono ?_);rintro e w ⟨rfl,hS⟩)|((with_reducible refine bG ?_);(first|(refine aS rfl ?_));(try simp only [ah,ak,au,ay,aA]))|((with_reducible refine aW ?_);(first|(refine aJ 56 rfl hS rfl _ jf ?_;intro g w hS));(try simp only [ah,ak,au,ay,aA]))|((with_reducible refine tV ?_);refine yE rfl ?_;(try simp only [ah,ak,au,ay,aA]))|((with_reducible refine aC ?_);(first|(refine fD rfl hS rfl rfl (by repeat constructor) ?_));(try simp only [ah,ak,au,ay,aA]))|((with_reducible refine aN ?_);(first|(refine jM rfl hS rfl rfl rfl (by repeat constructor) ?_;intro w hS));(try simp only [ah,ak,au,ay,aA])))
  all_goals (refine Bh hS rfl rfl (by repeat constructor) rfl rfl (fun hb=>⟨rfl,hb⟩))
 ·by_cases hx:T=s
  ·subst hx
   obtain rfl:R=some G:=by rw [←HR.out,if_pos ⟨rfl,rfl⟩]
   clear HR
   have ht:(T==T)=true:=by simp
   go_enter Tryz.func200,Tryz.ntmps200
   go_wp2_with (first|(go_at_call 248;(with_reducible refine (St.call hS fun hl=>Gq _ _ HG hs _ hl).mono ?_);rintro e w ⟨rfl,hS⟩)|(go_at_call 71;(with_reducible refine (St.call hS fun hl=>ng _ _ HI _ hl).mono ?_);rintro e w ⟨rfl,hS⟩)|(go_at_call 72;(with_reducible refine (St.call hS fun hl=>Jz _ _ HT _ hl).mono ?_);rintro e w ⟨rfl,hS⟩)|((with_reducible refine aW ?_);(first|(refine aJ 56 rfl hS rfl _ jf ?_;intro g w hS));(try simp only [ah,ak,au,ay,aA]))|((with_reducible refine aC ?_);(first|(refine fD rfl hS rfl rfl (by repeat constructor) ?_));(try simp only [ah,ak,au,ay,aA]))|((with_reducible refine aN ?_);(first|(refine jM rfl hS rfl rfl rfl (by repeat constructor) ?_;intro w hS));(try simp only [ah,ak,au,ay,aA])))
   all_goals (refine Bh hS rfl rfl (by repeat constructor) rfl rfl (fun hb=>⟨rfl,hb⟩))
  ·obtain rfl:R=none:=by rw [←HR.out,if_neg (fun h=>hx h.2)]
   have hx':(T==s)=false:=by simpa using hx
   clear hx HR
   go_enter Tryz.func200,Tryz.ntmps200
   go_wp2_with (first|(go_at_call 248;(with_reducible refine (St.call hS fun hl=>Gq _ _ HG hs _ hl).mono ?_);rintro e w ⟨rfl,hS⟩)|(go_at_call 71;(with_reducible refine (St.call hS fun hl=>ng _ _ HI _ hl).mono ?_);rintro e w ⟨rfl,hS⟩)|(go_at_call 72;(with_reducible refine (St.call hS fun hl=>Jz _ _ HT _ hl).mono ?_);rintro e w ⟨rfl,hS⟩)|((with_reducible refine aW ?_);(first|(refine aJ 56 rfl hS rfl _ jf ?_;intro g w hS));(try simp only [ah,ak,au,ay,aA]))|((with_reducible refine tV ?_);refine yE rfl ?_;(try simp only [ah,ak,au,ay,aA]))|((with_reducible refine aC ?_);(first|(refine fD rfl hS rfl rfl (by repeat constructor) ?_));(try simp only [ah,ak,au,ay,aA]))|((with_reducible refine aN ?_);(first|(refine jM rfl hS rfl rfl rfl (by repeat constructor) ?_;intro w hS));(try simp only [ah,ak,au,ay,aA])))
   all_goals (refine Bh hS rfl rfl (by repeat constructor) rfl rfl (fun hb=>⟨rfl,hb⟩))
theorem ZN (s:Str) (hs:s.length<100000000) (w:World) (hl:Laid w):Calls Tryz.prog 200 #[.string (B s)] w fun e w'=>e= .returned (Pz (iJ s))∧Below w.heap.size w w':=
 acT s hs _ (Lib.hid rfl) _ (Lib.hid rfl) _ (Lib.hid rfl) _ (Lib.hid rfl) w hl
def J6 (r:Md):Md:=⟨0,if Ll r.kind=true then 0 else r.n,if r.kind=12∨r.kind=13 then 0 else r.m,if r.kind=4∨r.kind=5 then ⟨#[]⟩ else r.sub,if r.kind=11 then aaB else r.f⟩
theorem aji (r:Md):Ew (J6 r) dO=Ew r (Lj r):=by
 rw [Bool.eq_iff_iff,yD,yD]
 obtain ⟨k,n,m,s,f⟩:=r
 simp only [J6,Lj,dO,Md.mk.injEq,true_and]
 by_cases h1:Ll k=true<;>by_cases h2:k=12∨k=13<;>by_cases h3:k=4∨k=5<;>by_cases h4:k=11<;>simp [h1,h2,h3,h4]
def YS (n:Int):Bool:=decide (1≤n)&&(decide (n≤63)&&(bits .and .i64 n 6==0))
theorem Yj (n:Int) (w:World):Calls Tryz.prog 166 #[.int .i64 n] w fun e w'=>e= .returned (.bool (YS n))∧w=w':=by
 go_enter Tryz.func166,Tryz.ntmps166
 go_wp2_with (first|((with_reducible refine bG ?_);(first|(refine aS rfl ?_));(try simp only [ah,ak,au,ay,aA])))
 all_goals go_ret
 all_goals exact ⟨aX (by rw [Bool.eq_iff_iff];simp_all [YS]<;>(intros;omega)),rfl⟩
theorem Z5 (r:Md) (w:World) (hl:Laid w):Calls Tryz.prog 165 #[.agg r.cells] w fun e w'=>e= .returned (.agg (J6 r).cells)∧Below w.heap.size w w':=by
 obtain ⟨kind,n,m,sub,f⟩:=r
 have hS:=St.start hl bJ
 go_enter Tryz.func165,Tryz.ntmps165
 go_wp2_with (first|((first|(with_reducible refine aB ?_)|(with_reducible refine aT ?_));(have hq:=int_eq (by assumption);subst hq))|((with_reducible refine bI ?_);(first|(refine aG rfl hS rfl rfl ?_;intro g w hS));(try simp only [ah,ak,au,ay,aA]))|((with_reducible refine aW ?_);(first|(refine aJ 56 rfl hS rfl _ jf ?_;intro g w hS));(try simp only [ah,ak,au,ay,aA]))|((with_reducible refine Gh ?_);refine NG rfl ?_;(try simp only [ah,ak,au,ay,aA]))|((with_reducible refine aC ?_);(first|(refine fD rfl hS rfl rfl (by repeat constructor) ?_)|(refine jX rfl hS rfl rfl (by repeat constructor) ?_));(try simp only [ah,ak,au,ay,aA]))|((with_reducible refine aN ?_);(first|(refine jM rfl hS rfl rfl rfl (by repeat constructor) ?_;intro w hS)|(refine afI rfl hS rfl rfl rfl (by repeat constructor) ?_;intro w hS)|(refine PL rfl hS rfl rfl rfl (by repeat constructor) ?_;intro w hS)|(refine afJ rfl hS rfl rfl rfl (by repeat constructor) ?_;intro w hS)|(refine XD rfl hS rfl rfl rfl (by repeat constructor) ?_;intro w hS)|(refine afK rfl hS rfl rfl rfl (by repeat constructor) ?_;intro w hS));(try simp only [ah,ak,au,ay,aA])))
 all_goals (refine zM hS rfl rfl (by repeat constructor) rfl (fun hb=>⟨kW (f:=Md.cells) ?_,hb⟩))
 all_goals (simp_all [J6,Ll,dO])
theorem agy (f:aH) (w:World):Calls Tryz.prog 31 #[.agg f.cells] w fun e w'=>e= .returned (.bool (dh f))∧Below w.heap.size w w':=GK f _ (Lib.hid rfl) w
theorem af6 (r:Md) (w:World) (hl:Laid w):Calls Tryz.prog 84 #[.agg r.cells] w fun e w'=>e= .returned (.bool (iL r))∧Below w.heap.size w w':=by
 have heq:=fun (wx:World)=>(PU (J6 r) dO wx).trans (by rw [aji r])
 have hS:=St.start hl bJ
 go_enter Tryz.func84,Tryz.ntmps84
 go_wp2_with (first|(go_at_call 166;(with_reducible refine (St.still hS fun hl=>Yj _ _).mono ?_);rintro e w ⟨rfl,hS⟩)|(go_at_call 165;(with_reducible refine (St.call hS fun hl=>Z5 _ _ hl).mono ?_);rintro e w ⟨rfl,hS⟩)|(go_at_call 82;(with_reducible refine (St.call hS fun hl=>Qk _ _).mono ?_);rintro e w ⟨rfl,hS⟩)|(go_at_call 31;(with_reducible refine (St.call hS fun hl=>agy _ _).mono ?_);rintro e w ⟨rfl,hS⟩)|((with_reducible refine bG ?_);(first|(refine aS rfl ?_)|((fail_if_success refine fJ rfl ?_);refine iZ _ _ rfl rfl (fun hb=> ?_) (fun hb=> ?_)<;>(first|(obtain rfl:=eq_of_beq hb)|(simp only [hb]))));(try simp only [ah,ak,au,ay,aA]))|((with_reducible refine bI ?_);(first|(refine aG rfl hS rfl rfl ?_;intro g w hS));(try simp only [ah,ak,au,ay,aA]))|((with_reducible refine tV ?_);refine yE rfl ?_;(try simp only [ah,ak,au,ay,aA]))|((with_reducible refine aC ?_);(first|(refine fD rfl hS rfl rfl (by repeat constructor) ?_)|(refine jX rfl hS rfl rfl (by repeat constructor) ?_)|(refine tN rfl hS rfl rfl (by repeat constructor) ?_)|(refine afH rfl hS rfl rfl (by repeat constructor) ?_)|(refine JB rfl hS rfl rfl (by repeat constructor) ?_)|(refine JC rfl hS rfl rfl (by repeat constructor) ?_));(try simp only [ah,ak,au,ay,aA])))
 all_goals go_ret
 all_goals (refine ⟨aX ?_,hS.below⟩;clear heq hS hl;rw [Bool.eq_iff_iff];simp_all [iL,Px,YS]<;>(intros;omega))
theorem ni (r:Md) (R:Bool) (h:Hid (R=iL r)) (w:World) (hl:Laid w):Calls Tryz.prog 84 #[.agg r.cells] w fun e w'=>e= .returned (.bool R)∧Below w.heap.size w w':=
 (af6 r w hl).mono fun e w' h'=>⟨by rw [h'.1,h.out],h'.2⟩
theorem Pm (T:List Str) (m:Nat) (sep:Str):∀k,(∀i,i<k→T.getD i []≠[])→jR T m sep k=Lib.join ((aK m k).map fun i=>T.getD i []) sep∧(jR T m sep k=[]↔aK m k=[])
 |0,_=>by simp [jR,aK,Lib.join_nil]
 |k+1,h=>by
  obtain ⟨h1,h2⟩:=Pm T m sep k (fun i hi=>h i (by omega))
  rw [jR]
  cases hb:m.testBit k with
  |false=>rw [oL hb];exact ⟨h1,h2⟩
  |true=>
   rw [qI hb,List.map_append,List.map_cons,List.map_nil,wG,if_pos rfl]
   by_cases h0:aK m k=[]
   ·rw [if_pos (h2.2 h0)]
    have hk:=h k (by omega)
    simp [h0];simpa using hk
   ·have h0':=fun e=>h0 (h2.1 e)
    rw [if_neg h0',if_neg (by simpa using h0),←h1]
    refine ⟨rfl,fun e=> ?_,fun e=> ?_⟩
    ·exact absurd (List.append_eq_nil_iff.1 (List.append_eq_nil_iff.1 e).1).1 h0'
    ·simp at e
theorem aqw (m:Nat) (hm:m<2 ^ 17):dA m=if jR bK m [43] 17=[] then pJ else jR bK m [43] 17:=by
 obtain ⟨h1,h2⟩:=Pm bK m [43] 17 (fun i hi=>ahj ⟨i,hi⟩)
 have e:bV bK m=(aK m 17).map fun i=>bK.getD i []:=by unfold bV;rw [Ec hm (show 17≤31 by omega)]
 unfold dA
 rw [e,←h1]
 by_cases h0:m=0
 ·subst h0;rw [if_pos rfl,if_pos (h2.2 rfl)]
 ·rw [if_neg h0,if_neg]
  intro hj
  apply abf (T:=bK) h0 (Nat.lt_of_lt_of_le hm (Nat.pow_le_pow_right (by omega) (by omega)))
  rw [e,h2.1 hj];rfl
theorem aqk (w:World):Calls Tryz.prog 112 #[.int .i64 0] w fun e w'=>e= .returned (.string (B [97,109,98,101,114]))∧w=w':=jA 0 (by decide) w
theorem aql (w:World):Calls Tryz.prog 112 #[.int .i64 1] w fun e w'=>e= .returned (.string (B [99,111,98,97,108,116]))∧w=w':=jA 1 (by decide) w
theorem aqm (w:World):Calls Tryz.prog 112 #[.int .i64 2] w fun e w'=>e= .returned (.string (B [106,101,116]))∧w=w':=jA 2 (by decide) w
theorem aqn (w:World):Calls Tryz.prog 112 #[.int .i64 3] w fun e w'=>e= .returned (.string (B [114,117,98,121]))∧w=w':=jA 3 (by decide) w
theorem aqo (w:World):Calls Tryz.prog 112 #[.int .i64 4] w fun e w'=>e= .returned (.string (B [101,109,101,114,97,108,100]))∧w=w':=jA 4 (by decide) w
def aop (n:Int):Bool:=decide (0≤n)&&decide (n≤31)
theorem af0 (n:Int) (w:World):Calls Tryz.prog 230 #[.int .i64 n] w fun e w'=>e= .returned (.bool (aop n))∧w=w':=by
 go_enter Tryz.func230,Tryz.ntmps230
 go_wp2_with (first|((with_reducible refine bG ?_);(first|(refine aS rfl ?_));(try simp only [ah,ak,au,ay,aA])))
 all_goals go_ret
 all_goals exact ⟨aX (by rw [Bool.eq_iff_iff];simp_all [aop]<;>(intros;omega)),rfl⟩
theorem Ez (m:Nat) (hm:m<32) (w0:World) (hl:Laid w0):Calls Tryz.prog 168 #[.int .i64 m] w0 fun e w'=>e= .returned (.string (B (bM m)))∧Below w0.heap.size w0 w':=by
 have hS:=St.start hl bJ
 have hc:m=0∨m=1∨m=2∨m=3∨m=4∨m=5∨m=6∨m=7∨m=8∨m=9∨m=10∨m=11∨m=12∨m=13∨m=14∨m=15∨m=16∨m=17∨m=18∨m=19∨m=20∨m=21∨m=22∨m=23∨m=24∨m=25∨m=26∨m=27∨m=28∨m=29∨m=30∨m=31:=by omega
 rcases hc with rfl|rfl|rfl|rfl|rfl|rfl|rfl|rfl|rfl|rfl|rfl|rfl|rfl|rfl|rfl|rfl|rfl|rfl|rfl|rfl|rfl|rfl|rfl|rfl|rfl|rfl|rfl|rfl|rfl|rfl|rfl|rfl
 all_goals
  go_enter Tryz.func168,Tryz.ntmps168
  go_wp2_with (first|(go_at_call 230;(with_reducible refine (St.still hS fun hl=>af0 _ _).mono ?_);rintro e w ⟨rfl,hS⟩)|(go_at_call 112;(with_reducible refine (St.still hS fun hl=>aqk _).mono ?_);rintro e w ⟨rfl,hS⟩)|(go_at_call 112;(with_reducible refine (St.still hS fun hl=>aql _).mono ?_);rintro e w ⟨rfl,hS⟩)|(go_at_call 112;(with_reducible refine (St.still hS fun hl=>aqm _).mono ?_);rintro e w ⟨rfl,hS⟩)|(go_at_call 112;(with_reducible refine (St.still hS fun hl=>aqn _).mono ?_);rintro e w ⟨rfl,hS⟩)|(go_at_call 112;(with_reducible refine (St.still hS fun hl=>aqo _).mono ?_);rintro e w ⟨rfl,hS⟩)|((with_reducible refine lK ?_);refine wp_loop_rounds 6 ?_)|(with_reducible refine jG ?_)|((with_reducible refine jT ?_);(first|(refine eG rfl rfl rfl rfl (by first|(simp only [List.length_append,List.length_cons,List.length_nil];omega)|fail) ?_));(try simp only [ah,ak,au,ay,aA])))
  all_goals go_ret
  all_goals exact ⟨dL (by decide +kernel),hS.below⟩
theorem af2 (m:Nat) (hm:m≤131071) (w:World):Calls Tryz.prog 231 #[.int .i64 m] w fun e w'=>e= .returned (.bool true)∧w=w':=by
 go_enter Tryz.func231,Tryz.ntmps231
 go_wp2
 all_goals go_ret
 all_goals first|exact ⟨rfl,rfl⟩|exact ⟨aX (by simp;omega),rfl⟩
theorem aj8:∀i:Fin 17,(wd bK i.val).length≤20:=by decide +kernel
theorem qP (i:Nat) (hi:i<17) (W:Str) (h:Hid (wd bK i=W)) (w:World):Calls Tryz.prog 113 #[.int .i64 i] w fun e w'=>e= .returned (.string (B W))∧Below w.heap.size w w':=
 (BO i hi w).mono fun e w' h'=>⟨by rw [h'.1,h.out],h'.2⟩
theorem aly (m k:Nat):jR bK m [43] (k+1)=if m.testBit k=true then (if jR bK m [43] k=[] then wd bK k else jR bK m [43] k++([43]++wd bK k)) else jR bK m [43] k:=by
 rw [jR,List.append_assoc];rfl
theorem MO (m:Nat) (hm:m<2 ^ 17) (w0:World) (hl:Laid w0):Calls Tryz.prog 169 #[.int .i64 m] w0 fun e w'=>e= .returned (.string (B (dA m)))∧Below w0.heap.size w0 w':=by
 have HJ:=Lib.hid (aqw m hm)
 have hm':m≤131071:=by omega
 have hS:=St.start hl bJ
 go_enter Tryz.func169,Tryz.ntmps169
 go_wp2_with (first|(go_at_call 231;(with_reducible refine (St.still hS fun hl=>af2 m hm' _).mono ?_);rintro e w ⟨rfl,hS⟩))
 go_loopw [0,3,4] (fun mv sv iv wr=>∃(k x:Nat) (p:Str),k≤17∧x≤131071∧p.length≤200 * k∧mv= .int .i64 x∧sv= .string (B p)∧iv= .int .i64 k∧Hid (x=m / 2 ^ k)∧Hid (jR bK m [43] k=p)∧Hid (St Laid w0 [] wr)) (fun _ _ iv _=>17 - (intOf iv).toNat)
 case atStart=>exact ⟨0,m,[],by omega,hm',by simp,rfl,rfl,rfl,by simp [Hid],rfl,Lib.hid hS⟩
 case round=>
  clear hS
  obtain ⟨k,x,p,hk,hx,hp,rfl,rfl,rfl,HX,HP,HS⟩:=hrel
  have hS:=HS.out
  clear HS
  by_cases hlt:k<17
  ·have VR:Hid (x / 2=m / 2 ^ (k+1)):=Lib.hid (by rw [HX.out,Nat.pow_succ,Nat.div_div_eq_div_mul])
   have hst:=aly m k
   rw [Nat.testBit_eq_decide_div_mod_eq,←HX.out,HP.out] at hst
   have hw:=aj8 ⟨k,hlt⟩
   simp only at hw
   generalize hW:wd bK k=W at *
   have HW:=Lib.hid hW
   clear hW
   by_cases hb:x % 2=1
   ·rw [decide_eq_true hb,if_pos rfl] at hst
    by_cases hp0:p=[]
    ·subst hp0
     rw [if_pos rfl] at hst
     have HN:=Lib.hid hst
     clear hst
     go_wp2_with (first|(go_at_call 113;(with_reducible refine (St.call hS fun hl=>qP k hlt _ HW _).mono ?_);rintro e w ⟨rfl,hS⟩)|((with_reducible refine jT ?_);(first|(refine eG rfl rfl rfl rfl (by first|(simp only [List.length_append,List.length_cons,List.length_nil];omega)|fail) ?_));(try simp only [ah,ak,au,ay,aA])))
     go_roundw
     case rel=>exact ⟨k+1,x / 2,W,by omega,by omega,by omega,by go_num,rfl,by go_num,VR,HN,Lib.hid hS⟩
     case measure=>simp [intOf];omega
    ·rw [if_neg hp0] at hst
     have hp1:(p==[])=false:=by simpa using hp0
     have HN:=Lib.hid hst
     clear hst hp0
     go_wp2_with (first|(go_at_call 113;(with_reducible refine (St.call hS fun hl=>qP k hlt _ HW _).mono ?_);rintro e w ⟨rfl,hS⟩)|((with_reducible refine jT ?_);(first|(refine eG rfl rfl rfl rfl (by first|(simp only [List.length_append,List.length_cons,List.length_nil];omega)|fail) ?_));(try simp only [ah,ak,au,ay,aA])))
     go_roundw
     case rel=>exact ⟨k+1,x / 2,p++([43]++W),by omega,by omega,by simp;omega,by go_num,by simp [ru],by go_num,VR,HN,Lib.hid hS⟩
     case measure=>simp [intOf];omega
   ·have hb':x % 2=0:=by omega
    rw [decide_eq_false hb,if_neg (by decide)] at hst
    have HN:=Lib.hid hst
    clear hst
    go_wp2_with (first|fail)
    go_roundw
    case rel=>exact ⟨k+1,x / 2,p,by omega,by omega,by omega,by go_num,rfl,by go_num,VR,HN,Lib.hid hS⟩
    case measure=>simp [intOf];omega
  ·obtain rfl:k=17:=by omega
   rw [HP.out] at HJ
   by_cases hp0:p=[]
   ·subst hp0
    go_wp2_with (first|fail)
    go_ret
    exact ⟨dL (by rw [HJ.out];rfl),hS.below⟩
   ·have hp1:(p==[])=false:=by simpa using hp0
    have HE:Hid (dA m=p):=Lib.hid (by rw [HJ.out,if_neg hp0])
    clear hp0
    go_wp2_with (first|fail)
    go_ret
    exact ⟨dL HE.out.symm,hS.below⟩
theorem Yh (r:Md) (HV:Hid (false=iL r)) (w:World) (hl:Laid w):Calls Tryz.prog 85 #[.agg r.cells] w fun e w'=>e= .returned (.string (B []))∧Below w.heap.size w w':=by
 obtain ⟨kind,n,m,sub,f⟩:=r
 have hS:=St.start hl bJ
 go_enter Tryz.func85,Tryz.ntmps85
 go_wp2_with (first|(go_at_call 84;(with_reducible refine (St.call hS fun hl=>ni _ _ HV _ hl).mono ?_);rintro e w ⟨rfl,hS⟩)|((with_reducible refine bI ?_);(first|(refine aG rfl hS rfl rfl ?_;intro g w hS));(try simp only [ah,ak,au,ay,aA]))|((with_reducible refine aC ?_);(first|(refine fD rfl hS rfl rfl (by repeat constructor) ?_));(try simp only [ah,ak,au,ay,aA])))
 go_ret
 exact ⟨rfl,hS.below⟩
theorem Yi (r:Md) (hr:nJ r) (HV:Hid (true=iL r)) (w:World) (hl:Laid w):Calls Tryz.prog 85 #[.agg r.cells] w fun e w'=>e= .returned (.string (B (nK r)))∧Below w.heap.size w w':=by
 cases hr with
 |control|blank|switch=>
  have hS:=St.start hl bJ
  go_enter Tryz.func85,Tryz.ntmps85
  go_wp2_with (first|(go_at_call 84;(with_reducible refine (St.call hS fun hl=>ni _ _ HV _ hl).mono ?_);rintro e w ⟨rfl,hS⟩)|((with_reducible refine bI ?_);(first|(refine aG rfl hS rfl rfl ?_;intro g w hS));(try simp only [ah,ak,au,ay,aA]))|((with_reducible refine aC ?_);(first|(refine fD rfl hS rfl rfl (by repeat constructor) ?_)|(refine jX rfl hS rfl rfl (by repeat constructor) ?_));(try simp only [ah,ak,au,ay,aA])))
  all_goals go_ret
  all_goals exact ⟨dL rfl,hS.below⟩
 |rZ k h1 h2|zW k h1 h2=>
  have h3:=D8 ⟨k,by omega⟩
  simp only at h3
  have hS:=St.start hl bJ
  go_enter Tryz.func85,Tryz.ntmps85
  go_wp2_with (first|(go_at_call 84;(with_reducible refine (St.call hS fun hl=>ni _ _ HV _ hl).mono ?_);rintro e w ⟨rfl,hS⟩)|(go_at_call 167;(with_reducible refine (St.call hS fun hl=>yM _ h1 h2 _).mono ?_);rintro e w ⟨rfl,hS⟩)|((with_reducible refine jT ?_);(first|(refine eG rfl rfl rfl rfl (by first|(simp only [List.length_append,List.length_cons,List.length_nil];omega)|fail) ?_));(try simp only [ah,ak,au,ay,aA]))|((with_reducible refine bI ?_);(first|(refine aG rfl hS rfl rfl ?_;intro g w hS));(try simp only [ah,ak,au,ay,aA]))|((with_reducible refine aC ?_);(first|(refine fD rfl hS rfl rfl (by repeat constructor) ?_)|(refine jX rfl hS rfl rfl (by repeat constructor) ?_)|(refine tN rfl hS rfl rfl (by repeat constructor) ?_));(try simp only [ah,ak,au,ay,aA])))
  all_goals go_ret
  all_goals exact ⟨dL rfl,hS.below⟩
 |Ku s hs|Kv s hs=>
  obtain ⟨p,rfl⟩:∃p,s=B p:=⟨L s,(qV s).symm⟩
  have h3:=tu hs
  rw [cO] at h3
  have hS:=St.start hl bJ
  go_enter Tryz.func85,Tryz.ntmps85
  go_wp2_with (first|(go_at_call 84;(with_reducible refine (St.call hS fun hl=>ni _ _ HV _ hl).mono ?_);rintro e w ⟨rfl,hS⟩)|((with_reducible refine jT ?_);(first|(refine eG rfl rfl rfl rfl (by first|(simp only [List.length_append,List.length_cons,List.length_nil];omega)|fail) ?_));(try simp only [ah,ak,au,ay,aA]))|((with_reducible refine bI ?_);(first|(refine aG rfl hS rfl rfl ?_;intro g w hS));(try simp only [ah,ak,au,ay,aA]))|((with_reducible refine aC ?_);(first|(refine fD rfl hS rfl rfl (by repeat constructor) ?_)|(refine jX rfl hS rfl rfl (by repeat constructor) ?_)|(refine JB rfl hS rfl rfl (by repeat constructor) ?_));(try simp only [ah,ak,au,ay,aA])))
  all_goals go_ret
  all_goals exact ⟨dL rfl,hS.below⟩
 |vX k h1=>
  have h3:=uD ⟨k,by omega⟩
  simp only at h3
  have hS:=St.start hl bJ
  go_enter Tryz.func85,Tryz.ntmps85
  go_wp2_with (first|(go_at_call 84;(with_reducible refine (St.call hS fun hl=>ni _ _ HV _ hl).mono ?_);rintro e w ⟨rfl,hS⟩)|(go_at_call 168;(with_reducible refine (St.call hS fun hl=>Ez _ (by omega) _ hl).mono ?_);rintro e w ⟨rfl,hS⟩)|((with_reducible refine jT ?_);(first|(refine eG rfl rfl rfl rfl (by first|(simp only [List.length_append,List.length_cons,List.length_nil];omega)|fail) ?_));(try simp only [ah,ak,au,ay,aA]))|((with_reducible refine bI ?_);(first|(refine aG rfl hS rfl rfl ?_;intro g w hS));(try simp only [ah,ak,au,ay,aA]))|((with_reducible refine aC ?_);(first|(refine fD rfl hS rfl rfl (by repeat constructor) ?_)|(refine jX rfl hS rfl rfl (by repeat constructor) ?_)|(refine tN rfl hS rfl rfl (by repeat constructor) ?_));(try simp only [ah,ak,au,ay,aA])))
  all_goals go_ret
  all_goals exact ⟨dL rfl,hS.below⟩
 |vY k h1 h2=>
  have h3:=uD ⟨k,by omega⟩
  simp only at h3
  have hS:=St.start hl bJ
  go_enter Tryz.func85,Tryz.ntmps85
  go_wp2_with (first|(go_at_call 84;(with_reducible refine (St.call hS fun hl=>ni _ _ HV _ hl).mono ?_);rintro e w ⟨rfl,hS⟩)|(go_at_call 168;(with_reducible refine (St.call hS fun hl=>Ez _ (by omega) _ hl).mono ?_);rintro e w ⟨rfl,hS⟩)|((with_reducible refine jT ?_);(first|(refine eG rfl rfl rfl rfl (by first|(simp only [List.length_append,List.length_cons,List.length_nil];omega)|fail) ?_));(try simp only [ah,ak,au,ay,aA]))|((with_reducible refine bI ?_);(first|(refine aG rfl hS rfl rfl ?_;intro g w hS));(try simp only [ah,ak,au,ay,aA]))|((with_reducible refine aC ?_);(first|(refine fD rfl hS rfl rfl (by repeat constructor) ?_)|(refine jX rfl hS rfl rfl (by repeat constructor) ?_)|(refine tN rfl hS rfl rfl (by repeat constructor) ?_));(try simp only [ah,ak,au,ay,aA])))
  all_goals go_ret
  all_goals exact ⟨dL rfl,hS.below⟩
 |keys8 k h1 h2|DK k h1 h2=>
  have h3:=Ak (m:=k)
  have hS:=St.start hl bJ
  go_enter Tryz.func85,Tryz.ntmps85
  go_wp2_with (first|(go_at_call 84;(with_reducible refine (St.call hS fun hl=>ni _ _ HV _ hl).mono ?_);rintro e w ⟨rfl,hS⟩)|(go_at_call 169;(with_reducible refine (St.call hS fun hl=>MO _ (by omega) _ hl).mono ?_);rintro e w ⟨rfl,hS⟩)|((with_reducible refine jT ?_);(first|(refine eG rfl rfl rfl rfl (by first|(simp only [List.length_append,List.length_cons,List.length_nil];omega)|fail) ?_));(try simp only [ah,ak,au,ay,aA]))|((with_reducible refine bI ?_);(first|(refine aG rfl hS rfl rfl ?_;intro g w hS));(try simp only [ah,ak,au,ay,aA]))|((with_reducible refine aC ?_);(first|(refine fD rfl hS rfl rfl (by repeat constructor) ?_)|(refine jX rfl hS rfl rfl (by repeat constructor) ?_)|(refine tN rfl hS rfl rfl (by repeat constructor) ?_));(try simp only [ah,ak,au,ay,aA])))
  all_goals go_ret
  all_goals exact ⟨dL rfl,hS.below⟩
 |count f hf=>
  have h3:=oH (f:=f)
  have hS:=St.start hl bJ
  go_enter Tryz.func85,Tryz.ntmps85
  go_wp2_with (first|(go_at_call 84;(with_reducible refine (St.call hS fun hl=>ni _ _ HV _ hl).mono ?_);rintro e w ⟨rfl,hS⟩)|(go_at_call 43;(with_reducible refine (St.call hS fun hl=>ug _ _).mono ?_);rintro e w ⟨rfl,hS⟩)|((with_reducible refine jT ?_);(first|(refine eG rfl rfl rfl rfl (by first|(simp only [List.length_append,List.length_cons,List.length_nil];omega)|fail) ?_));(try simp only [ah,ak,au,ay,aA]))|((with_reducible refine bI ?_);(first|(refine aG rfl hS rfl rfl ?_;intro g w hS));(try simp only [ah,ak,au,ay,aA]))|((with_reducible refine aC ?_);(first|(refine fD rfl hS rfl rfl (by repeat constructor) ?_)|(refine jX rfl hS rfl rfl (by repeat constructor) ?_)|(refine JC rfl hS rfl rfl (by repeat constructor) ?_));(try simp only [ah,ak,au,ay,aA])))
  all_goals go_ret
  all_goals (refine ⟨dL ?_,hS.below⟩;simp [nK,uS,ig])
 |DZ n m h1 h2 h3 h4=>
  have h5:=kV n (by omega) h2
  have h6:=kV m (by omega) h4
  have hS:=St.start hl bJ
  go_enter Tryz.func85,Tryz.ntmps85
  go_wp2_with (first|(go_at_call 84;(with_reducible refine (St.call hS fun hl=>ni _ _ HV _ hl).mono ?_);rintro e w ⟨rfl,hS⟩)|((with_reducible refine bI ?_);(first|(refine aG rfl hS rfl rfl ?_;intro g w hS));(try simp only [ah,ak,au,ay,aA]))|((with_reducible refine aC ?_);(first|(refine fD rfl hS rfl rfl (by repeat constructor) ?_)|(refine jX rfl hS rfl rfl (by repeat constructor) ?_));(try simp only [ah,ak,au,ay,aA]))|((with_reducible refine aT ?_);refine bY hS (by kernel_rfl) (by kernel_rfl) ?_)|((with_reducible refine fG ?_);intro w hS)|((with_reducible refine Fb ?_);(first|(refine C9 rfl rfl rfl rfl (by first|(simp only [List.length_append,List.length_cons,List.length_nil];omega)|fail) (fun _ _ _ h=>h) ?_));(try simp only [ah,ak,au,ay,aA]))|((with_reducible refine gY ?_);(first|(refine PI rfl rfl rfl (by repeat constructor) (fun _ _ _ h=>h) ?_)|(refine PK rfl rfl rfl (by repeat constructor) (fun _ _ _ h=>h) ?_));(try simp only [ah,ak,au,ay,aA]))|((with_reducible refine iH ?_);(first|(refine eu (v:= ?_) (args:= ?_) 65 rfl (fun _ _ _ h=>h) ?_ ?_ ?_;rotate_left 2;(focus ((intro w;go_simp)<;>with_reducible rfl));(focus (intro w hS;refine St.jE hS (fun hl=>qo _ _ (by omega) (by omega)) ?_;with_reducible rfl))));(try simp only [ah,ak,au,ay,aA]))|((with_reducible refine dS ?_);(refine dn (v:= ?_) rfl (fun _ _ _ h=>h) ?_ ?_;rotate_left;(focus ((intro w hS;go_simp)<;>with_reducible rfl)));(try simp only [ah,ak,au,ay,aA])))
  all_goals go_ret
  all_goals (refine ⟨dL ?_,hS.below⟩;simp [nK,uS])
 |Dt n m h1 h2 h3 h4=>
  have h5:=kV n h1 h2
  have h6:=kV m h3 h4
  have hS:=St.start hl bJ
  go_enter Tryz.func85,Tryz.ntmps85
  go_wp2_with (first|(go_at_call 84;(with_reducible refine (St.call hS fun hl=>ni _ _ HV _ hl).mono ?_);rintro e w ⟨rfl,hS⟩)|((with_reducible refine bI ?_);(first|(refine aG rfl hS rfl rfl ?_;intro g w hS));(try simp only [ah,ak,au,ay,aA]))|((with_reducible refine aC ?_);(first|(refine fD rfl hS rfl rfl (by repeat constructor) ?_)|(refine jX rfl hS rfl rfl (by repeat constructor) ?_));(try simp only [ah,ak,au,ay,aA]))|((with_reducible refine aT ?_);refine bY hS (by kernel_rfl) (by kernel_rfl) ?_)|((with_reducible refine fG ?_);intro w hS)|((with_reducible refine Fb ?_);(first|(refine C9 rfl rfl rfl rfl (by first|(simp only [List.length_append,List.length_cons,List.length_nil];omega)|fail) (fun _ _ _ h=>h) ?_));(try simp only [ah,ak,au,ay,aA]))|((with_reducible refine gY ?_);(first|(refine PI rfl rfl rfl (by repeat constructor) (fun _ _ _ h=>h) ?_)|(refine PK rfl rfl rfl (by repeat constructor) (fun _ _ _ h=>h) ?_));(try simp only [ah,ak,au,ay,aA]))|((with_reducible refine iH ?_);(first|(refine eu (v:= ?_) (args:= ?_) 65 rfl (fun _ _ _ h=>h) ?_ ?_ ?_;rotate_left 2;(focus ((intro w;go_simp)<;>with_reducible rfl));(focus (intro w hS;refine St.jE hS (fun hl=>qo _ _ (by omega) (by omega)) ?_;with_reducible rfl))));(try simp only [ah,ak,au,ay,aA]))|((with_reducible refine dS ?_);(refine dn (v:= ?_) rfl (fun _ _ _ h=>h) ?_ ?_;rotate_left;(focus ((intro w hS;go_simp)<;>with_reducible rfl)));(try simp only [ah,ak,au,ay,aA])))
  all_goals go_ret
  all_goals (refine ⟨dL ?_,hS.below⟩;simp [nK,zX])
theorem Z4 (r:Md) (w:World) (hl:Laid w):Calls Tryz.prog 85 #[.agg r.cells] w fun e w'=>e= .returned (.string (B (cu r)))∧Below w.heap.size w w':=by
 cases hv:iL r with
 |false=>rw [DN hv];exact Yh r (Lib.hid hv.symm) w hl
 |true=>rw [show cu r=nK r from if_pos hv];exact Yi r (wH hv) (Lib.hid hv.symm) w hl
theorem Az (r:Md) (T:Str) (h:Hid (cu r=T)) (w:World) (hl:Laid w):Calls Tryz.prog 85 #[.agg r.cells] w fun e w'=>e= .returned (.string (B T))∧Below w.heap.size w w':=
 (Z4 r w hl).mono fun e w' h'=>⟨by rw [h'.1,h.out],h'.2⟩
end Go.Proofs.YtdicgggkdmkklaaGreatDoor
namespace Go.Proofs.YtdicgggkdmkklaaGreatDoor
attribute [local irreducible] kQ dA CZ
attribute [local irreducible] wpList Code.wp Calls
open Go.ChangeShapes Go.WideShapes Go.RowKit
end Go.Proofs.YtdicgggkdmkklaaGreatDoor
namespace Go.Proofs.YtdicgggkdmkklaaGreatDoor
attribute [local irreducible] wpList Code.wp Calls
open Go.ChangeShapes Go.WideShapes Go.RowKit
end Go.Proofs.YtdicgggkdmkklaaGreatDoor
