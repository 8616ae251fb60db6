/- Walks over St: one cell of a row set by setCell (regions that draw their order and store). Conditions: none. Plain words on memory: modifications' rows and ==. Conditions: none. Walks: package mod: -/
import Derived.Test.YtdnnkgkondkhfaaGreatDoorQ3
import Derived.RegionTactic
import Derived.ChangeAlike
import Derived.Test.YtdnnkgkondkhfaaGreatDoorQ2
import Derived.Test.YtdnnkgkondkhfaaGreatDoorQ1
import Derived.Test.YtdnnkgkondkhfaaGreatDoorQ4
set_option linter.all false
set_option maxRecDepth 100000
set_option maxHeartbeats 16000000
namespace Go.Proofs.YtdnnkgkondkhfaaGreatDoor
open Go.ChangeShapes Go.WideShapes Go.RowKit
theorem St.arO {L:World→Prop} {w0 w:World} {rows rows':List Row} (h:St L w0 rows w) {g T:Nat} {cs new:Array Value} (m:jr g cs new T rows rows') (j:Nat) (u:Value) (hn:new=cs.setIfInBounds j u):St L w0 rows' (w.setCell ⟨g,j,none⟩ u):=by
 obtain ⟨hg,ho⟩:=h.has _ m.mem
 refine ⟨h.base,h.keeps,h.below.setCell (p:=⟨g,j,none⟩) ho u,?_,by rw [m.keys];exact h.apart⟩
 intro x hx
 rcases m.cases h.apart x hx with rfl|⟨h1,h2⟩
 ·refine ⟨?_,ho⟩
  simp [World.setCell,Array.getElem?_modify,hg,hn]
 ·exact ⟨(Below.heap_setCell w _ u x.1 h2).trans (h.has x h1).1,(h.has x h1).2⟩
theorem St.uJ {L:World→Prop} {w0 w:World} {rows:List Row} (h:St L w0 rows w) {g T:Nat} {cs:Array Value} (m:cZ g cs T rows) (j:Nat) {v:Value} (hv:cs[j]? =some v):w.cell? ⟨g,j,none⟩=some v:=(cell_of_row w g j cs T (0,0) (h.row m)).trans hv
theorem St.aly {L:World→Prop} {w0 w:World} {rows:List Row} (h:St L w0 rows w) {g T:Nat} {cs:Array Value} (m:cZ g cs T rows) (j:Nat):w.frozen? ⟨g,j,none⟩=false:=frozen_of_row w g j cs T (h.row m)
abbrev iy:Nat:=84
theorem aqF (r:Md):r.cells.all (·.oneCell')=true:=by simp [Md.cells,aH.cells,Value.oneCell']
theorem jR:(Tryz.prog.info? 84).map (·.size)=some 20:=by kernel_rfl
theorem jg:∀w:World,(zeroValue 84).run Tryz.prog w= .ok (.agg (Md.cells dO)) w:=fun _=>by kernel_rfl
theorem ag0:∀w:World,(Instr.build 84 ([]:List (Nat × Value)).toArray).run Tryz.prog w= .ok (.agg (Md.cells ⟨(dO).kind,(dO).n,(dO).m,(dO).sub,(dO).f⟩)) w:=fun _=>by kernel_rfl
def uh {ops rest a w Q dst ty pos af gd} (h:wpList Tryz.prog ops Q ((⟨dst, .build 84 #[],ty,pos,af,gd⟩:Oper)::rest) a w):=h
def yQ {ops rest} {a:Act} {w Q dst ty pos af gd} hw h:=
 @gU w ops rest (⟨dst, .build 84 #[],ty,pos,af,gd⟩:Oper) a Q 84 [] rfl hw [] (by simp only [List.map_cons,List.map_nil]) _ (ag0) h
theorem aeb (x0:Int):∀w:World,(Instr.build 84 ([(0, .int .i64 x0)]:List (Nat × Value)).toArray).run Tryz.prog w= .ok (.agg (Md.cells ⟨x0,(dO).n,(dO).m,(dO).sub,(dO).f⟩)) w:=fun _=>by kernel_rfl
def AY {ops rest a w Q dst ty pos af gd y0} (h:wpList Tryz.prog ops Q ((⟨dst, .build 84 #[(0,y0)],ty,pos,af,gd⟩:Oper)::rest) a w):=h
def Ho {x0:Int} {ops rest} {a:Act} {w Q dst ty pos af gd y0} hw (h0:a.eval y0= .int .i64 x0) h:=
 @gU w ops rest (⟨dst, .build 84 #[(0,y0)],ty,pos,af,gd⟩:Oper) a Q 84 [(0,y0)] rfl hw [(0, .int .i64 x0)] (by simp only [List.map_cons,List.map_nil,h0]) _ (aeb x0) h
theorem Yy (x0:Int) (x4:aH):∀w:World,(Instr.build 84 ([(0, .int .i64 x0),(4, .agg (aH.cells x4))]:List (Nat × Value)).toArray).run Tryz.prog w= .ok (.agg (Md.cells ⟨x0,(dO).n,(dO).m,(dO).sub,x4⟩)) w:=fun _=>by kernel_rfl
def J8 {ops rest a w Q dst ty pos af gd y0 y4} (h:wpList Tryz.prog ops Q ((⟨dst, .build 84 #[(0,y0),(4,y4)],ty,pos,af,gd⟩:Oper)::rest) a w):=h
def Qn {x0:Int} {x4:aH} {ops rest} {a:Act} {w Q dst ty pos af gd y0 y4} hw (h0:a.eval y0= .int .i64 x0) (h4:a.eval y4= .agg (aH.cells x4)) h:=
 @gU w ops rest (⟨dst, .build 84 #[(0,y0),(4,y4)],ty,pos,af,gd⟩:Oper) a Q 84 [(0,y0),(4,y4)] rfl hw [(0, .int .i64 x0),(4, .agg (aH.cells x4))] (by simp only [List.map_cons,List.map_nil,h0,h4]) _ (Yy x0 x4) h
theorem SS (x0:Int) (x1:Int) (x2:Int):∀w:World,(Instr.build 84 ([(0, .int .i64 x0),(1, .int .i64 x1),(2, .int .i64 x2)]:List (Nat × Value)).toArray).run Tryz.prog w= .ok (.agg (Md.cells ⟨x0,x1,x2,(dO).sub,(dO).f⟩)) w:=fun _=>by kernel_rfl
def SV {ops rest a w Q dst ty pos af gd y0 y1 y2} (h:wpList Tryz.prog ops Q ((⟨dst, .build 84 #[(0,y0),(1,y1),(2,y2)],ty,pos,af,gd⟩:Oper)::rest) a w):=h
def Yv {x0:Int} {x1:Int} {x2:Int} {ops rest} {a:Act} {w Q dst ty pos af gd y0 y1 y2} hw (h0:a.eval y0= .int .i64 x0) (h1:a.eval y1= .int .i64 x1) (h2:a.eval y2= .int .i64 x2) h:=
 @gU w ops rest (⟨dst, .build 84 #[(0,y0),(1,y1),(2,y2)],ty,pos,af,gd⟩:Oper) a Q 84 [(0,y0),(1,y1),(2,y2)] rfl hw [(0, .int .i64 x0),(1, .int .i64 x1),(2, .int .i64 x2)] (by simp only [List.map_cons,List.map_nil,h0,h1,h2]) _ (SS x0 x1 x2) h
theorem Yw (x0:Int) (x1:Int):∀w:World,(Instr.build 84 ([(0, .int .i64 x0),(1, .int .i64 x1)]:List (Nat × Value)).toArray).run Tryz.prog w= .ok (.agg (Md.cells ⟨x0,x1,(dO).m,(dO).sub,(dO).f⟩)) w:=fun _=>by kernel_rfl
def J6 {ops rest a w Q dst ty pos af gd y0 y1} (h:wpList Tryz.prog ops Q ((⟨dst, .build 84 #[(0,y0),(1,y1)],ty,pos,af,gd⟩:Oper)::rest) a w):=h
def Ql {x0:Int} {x1:Int} {ops rest} {a:Act} {w Q dst ty pos af gd y0 y1} hw (h0:a.eval y0= .int .i64 x0) (h1:a.eval y1= .int .i64 x1) h:=
 @gU w ops rest (⟨dst, .build 84 #[(0,y0),(1,y1)],ty,pos,af,gd⟩:Oper) a Q 84 [(0,y0),(1,y1)] rfl hw [(0, .int .i64 x0),(1, .int .i64 x1)] (by simp only [List.map_cons,List.map_nil,h0,h1]) _ (Yw x0 x1) h
theorem Yx (x0:Int) (x3:ByteArray):∀w:World,(Instr.build 84 ([(0, .int .i64 x0),(3, .string x3)]:List (Nat × Value)).toArray).run Tryz.prog w= .ok (.agg (Md.cells ⟨x0,(dO).n,(dO).m,x3,(dO).f⟩)) w:=fun _=>by kernel_rfl
def J7 {ops rest a w Q dst ty pos af gd y0 y3} (h:wpList Tryz.prog ops Q ((⟨dst, .build 84 #[(0,y0),(3,y3)],ty,pos,af,gd⟩:Oper)::rest) a w):=h
def Qm {x0:Int} {x3:ByteArray} {ops rest} {a:Act} {w Q dst ty pos af gd y0 y3} hw (h0:a.eval y0= .int .i64 x0) (h3:a.eval y3= .string x3) h:=
 @gU w ops rest (⟨dst, .build 84 #[(0,y0),(3,y3)],ty,pos,af,gd⟩:Oper) a Q 84 [(0,y0),(3,y3)] rfl hw [(0, .int .i64 x0),(3, .string x3)] (by simp only [List.map_cons,List.map_nil,h0,h3]) _ (Yx x0 x3) h
theorem agX (r:Md):(Md.cells r)[0]? =some (.int .i64 r.kind):=rfl
theorem anE (r:Md) (x:Int):(Md.cells r).toList.take 0++(Value.cells (.int .i64 x)).toList++(Md.cells r).toList.drop (0+(Value.cells (.int .i64 x)).size)=(Md.cells ⟨x,r.n,r.m,r.sub,r.f⟩).toList:=rfl
theorem agY (r:Md):(Md.cells r)[1]? =some (.int .i64 r.n):=rfl
theorem anF (r:Md) (x:Int):(Md.cells r).toList.take 1++(Value.cells (.int .i64 x)).toList++(Md.cells r).toList.drop (1+(Value.cells (.int .i64 x)).size)=(Md.cells ⟨r.kind,x,r.m,r.sub,r.f⟩).toList:=rfl
theorem agZ (r:Md):(Md.cells r)[2]? =some (.int .i64 r.m):=rfl
theorem anG (r:Md) (x:Int):(Md.cells r).toList.take 2++(Value.cells (.int .i64 x)).toList++(Md.cells r).toList.drop (2+(Value.cells (.int .i64 x)).size)=(Md.cells ⟨r.kind,r.n,x,r.sub,r.f⟩).toList:=rfl
theorem aqE (r:Md):(Md.cells r)[3]? =some (.string r.sub):=rfl
theorem anH (r:Md) (x:ByteArray):(Md.cells r).toList.take 3++(Value.cells (.string x)).toList++(Md.cells r).toList.drop (3+(Value.cells (.string x)).size)=(Md.cells ⟨r.kind,r.n,r.m,x,r.f⟩).toList:=rfl
theorem ajP (r:Md):∀j v,(aH.cells r.f)[j]? =some v→(Md.cells r)[4+j]? =some v:=by
 intro j v h
 have hj:j<16:=by
  rcases Nat.lt_or_ge j 16 with h1|h1
  ·exact h1
  ·rw [Array.getElem?_eq_none (by exact h1)] at h;cases h
 match j,hj,h with
 |0,_,h=>exact h
 |1,_,h=>exact h
 |2,_,h=>exact h
 |3,_,h=>exact h
 |4,_,h=>exact h
 |5,_,h=>exact h
 |6,_,h=>exact h
 |7,_,h=>exact h
 |8,_,h=>exact h
 |9,_,h=>exact h
 |10,_,h=>exact h
 |11,_,h=>exact h
 |12,_,h=>exact h
 |13,_,h=>exact h
 |14,_,h=>exact h
 |15,_,h=>exact h
theorem anI (r:Md) (x:aH):(Md.cells r).toList.take 4++(Value.cells (.agg (aH.cells x))).toList++(Md.cells r).toList.drop (4+(Value.cells (.agg (aH.cells x))).size)=(Md.cells ⟨r.kind,r.n,r.m,r.sub,x⟩).toList:=rfl
theorem aqG (r x:Md):(Md.cells r).toList.take 0++(Value.cells (.agg (Md.cells x))).toList++(Md.cells r).toList.drop (0+(Value.cells (.agg (Md.cells x))).size)=(Md.cells x).toList:=rfl
def ag2 {L w0 w rows ops rest o a Q x y} ho hS hw {g} hx {v} hy {r T' rows'} hm h:=
 @bF L w0 w rows ops rest o a Q 3 x y ho hS hw g 0 hx _ hy _ _ T' rows' hm (by exact Nat.le_of_ble_eq_true rfl) (anE r v) gI (by simp [Value.cells,Value.oneCell']) h
def Qq {L w0 w rows ops rest o a Q x y} ho hS hw {g} hx {v} hy {r T' rows'} hm h:=
 @bF L w0 w rows ops rest o a Q 3 x y ho hS hw g 1 hx _ hy _ _ T' rows' hm (by exact Nat.le_of_ble_eq_true rfl) (anF r v) gI (by simp [Value.cells,Value.oneCell']) h
def ag3 {L w0 w rows ops rest o a Q x y} ho hS hw {g} hx {v} hy {r T' rows'} hm h:=
 @bF L w0 w rows ops rest o a Q 3 x y ho hS hw g 2 hx _ hy _ _ T' rows' hm (by exact Nat.le_of_ble_eq_true rfl) (anG r v) gI (by simp [Value.cells,Value.oneCell']) h
def Yz {L w0 w rows ops rest o a Q x y} ho hS hw {g} hx {v} hy {r T' rows'} hm h:=
 @bF L w0 w rows ops rest o a Q 9 x y ho hS hw g 3 hx _ hy _ _ T' rows' hm (by exact Nat.le_of_ble_eq_true rfl) (anH r v) Yb (by simp [Value.cells,Value.oneCell']) h
def ag4 {L w0 w rows ops rest o a Q x y} ho hS hw {g} hx {v} hy {r T' rows'} hm h:=
 @bF L w0 w rows ops rest o a Q 26 x y ho hS hw g 4 hx _ hy _ _ T' rows' hm (by exact Nat.le_of_ble_eq_true rfl) (anI r v) vW (Sm v) h
def jO {L w0 w rows ops rest o a Q x y} ho hS hw {g} hx {v} hy {r T' rows'} hm h:=
 @bF L w0 w rows ops rest o a Q 84 x y ho hS hw g 0 hx _ hy _ _ T' rows' hm (by exact Nat.le_of_ble_eq_true rfl) (aqG r v) jR (aqF v) h
def jY {L w0 w rows ops rest o a Q x} ho hS hw {g} hx {r T'} hm h:=
 @aQ L w0 w rows ops rest o a Q 3 x ho hS hw g 0 hx _ T' hm kK _ (agX r) h
def ug {L w0 w rows ops rest o a Q x} ho hS hw {g} hx {r T'} hm h:=
 @aQ L w0 w rows ops rest o a Q 3 x ho hS hw g 1 hx _ T' hm kK _ (agY r) h
def ag1 {L w0 w rows ops rest o a Q x} ho hS hw {g} hx {r T'} hm h:=
 @aQ L w0 w rows ops rest o a Q 3 x ho hS hw g 2 hx _ T' hm kK _ (agZ r) h
def J4 {L w0 w rows ops rest o a Q x} ho hS hw {g} hx {r T'} hm h:=
 @aQ L w0 w rows ops rest o a Q 9 x ho hS hw g 3 hx _ T' hm Ik _ (aqE r) h
def J5 {L w0 w rows ops rest o a Q x} ho hS hw {g} hx {r T'} hm h:=
 @nC L w0 w rows ops rest o a Q 26 x ho hS hw g 4 hx _ _ T' hm (ajP r) _ Tryz.underlying26 rfl vW h
def fD {L w0 w rows ops rest o a Q x} ho hS hw {g} hx {r T'} hm h:=
 @mO L w0 w rows ops rest o a Q 84 x ho hS hw g hx (Md.cells r) T' hm _ Tryz.gK rfl jR h
def aqH {L w0 rows ops rest o a Q x} ho hw {g} hx {r:Md} {T'} hm hq h:=
 @dn L w0 rows ops Q o rest a (.int .i64 r.kind) hw hq (fun w hS=> @gB L w0 w rows o a hS 3 x ho g 0 hx _ T' hm kK _ (agX r)) h
def Qo {L w0 rows ops rest o a Q x} ho hw {g} hx {r:Md} {T'} hm hq h:=
 @dn L w0 rows ops Q o rest a (.int .i64 r.n) hw hq (fun w hS=> @gB L w0 w rows o a hS 3 x ho g 1 hx _ T' hm kK _ (agY r)) h
def Qp {L w0 rows ops rest o a Q x} ho hw {g} hx {r:Md} {T'} hm hq h:=
 @dn L w0 rows ops Q o rest a (.int .i64 r.m) hw hq (fun w hS=> @gB L w0 w rows o a hS 3 x ho g 2 hx _ T' hm kK _ (agZ r)) h
def aqI {L w0 rows ops rest o a Q x} ho hw {g} hx {r:Md} {T'} hm hq h:=
 @dn L w0 rows ops Q o rest a (.agg (Md.cells r)) hw hq (fun w hS=> @kG L w0 w rows o a hS 84 x ho g 0 hx _ _ T' hm (fun j v hj=>by simpa using hj) _ Tryz.gK rfl jR) h
theorem BM {L:World→Prop} {w0 w:World} {rows:List Row} {a:Act} (hS:St L w0 rows w) {fn:Func} {p q:Tmp} (hf:fn.results= #[.cell p 84, .tmp q]) {g:Nat} (hp:a.tmps.getD p undef= .pointer (some ⟨g,0,none⟩)) {r:Md} {T':Nat} (hm:cZ g (Md.cells r) T' rows) {v:Value} (hq:a.tmps.getD q undef=v) (hdef:a.defers=[]) {R:Ending→World→Prop} (hR:Below w0.heap.size w0 w→R (.returned (.tuple #[.agg (Md.cells r),v])) w):bodyPost Tryz.prog fn R .ret a w:=
 bodyPost_ret ((gW hf a.tmps w g T' (Md.cells r) (0,0) _ hp (hS.row hm) Tryz.gK rfl jR).trans (by rw [hq])) hdef (hR hS.below)
theorem Ad {L:World→Prop} {w0 w:World} {rows:List Row} {a:Act} (hS:St L w0 rows w) {fn:Func} {p:Tmp} (hf:fn.results= #[.cell p 84]) {g:Nat} (hp:a.tmps.getD p undef= .pointer (some ⟨g,0,none⟩)) {r:Md} {T':Nat} (hm:cZ g (Md.cells r) T' rows) (hdef:a.defers=[]) {R:Ending→World→Prop} (hR:Below w0.heap.size w0 w→R (.returned (.agg (Md.cells r))) w):bodyPost Tryz.prog fn R .ret a w:=
 St.result hS hf hp hm Tryz.gK rfl jR hdef hR
theorem asI (r q:Md) (w:World):(binOp .eql 84 (.agg r.cells) (.agg q.cells)).run Tryz.prog w= .ok (.bool (ET r q)) w:=by
 rw [run_eql_struct,run_equalIn_agg w 9999 84 _ _ (by kernel_rfl) (by kernel_rfl)]
 simp [ET,fK,Md.cells,go_sem,Tryz.gK,Tryz.RY,Tryz.ZU,Tryz.underlying26,Tryz.underlying24,Tryz.underlying3,Tryz.underlying9]
 (try simp only [Bool.and_assoc])
 iterate 19 (refine zF (by simp) ?_)
 split
 ·rename_i h;rw [h];simp
 ·rename_i h;rw [beq_eq_false_iff_ne.2 h]
theorem Qv (r q:Md) (w:World):(binOp .neq 84 (.agg r.cells) (.agg q.cells)).run Tryz.prog w= .ok (.bool (!ET r q)) w:=by
 have h:=asI r q w
 rw [run_eql_struct] at h
 rw [run_neq_struct]
 generalize (Op.equalIn 10000 84 (.agg r.cells) (.agg q.cells)).run Tryz.prog w=x at *
 cases x<;>simp_all [Result.andThen]
end Go.Proofs.YtdnnkgkondkhfaaGreatDoor
namespace Go.Proofs.YtdnnkgkondkhfaaGreatDoor
attribute [local irreducible] wpList Code.wp Calls
open Go.ChangeShapes Go.WideShapes Go.RowKit
theorem aea (r:Md) (w:World) (hl:Laid w):Calls Tryz.prog 218 #[.agg r.cells] w fun e w'=>e= .returned (.agg (Mc r).cells)∧Below w.heap.size w w':=by
 obtain ⟨kind,n,m,sub,f⟩:=r
 have hS:=St.start hl bJ
 go_enter Tryz.awg,Tryz.auV
 go_wp2_with (first|((first|(with_reducible refine aB ?_)|(with_reducible refine aT ?_));(have hq:=int_eq (by assumption);subst hq))|((with_reducible refine aT ?_);have c1:=hS.uJ (.tail (.tail .head)) 1 (v:= .int .i64 n) rfl;have c2:=hS.uJ (.tail (.tail .head)) 2 (v:= .int .i64 m) rfl;have d1:=hS.uJ .head 1 (v:= .int .i64 0) rfl;have d2:=hS.uJ .head 2 (v:= .int .i64 0) rfl;have f1:=hS.aly .head 1;have f2:=hS.aly .head 2;go_region;(have hS:=((hS.arO (new:=Md.cells ⟨_,n,dO.m,dO.sub,dO.f⟩) .head 1 (.int .i64 n) rfl).arO (new:=Md.cells ⟨_,n,m,dO.sub,dO.f⟩) .head 2 (.int .i64 m) rfl).drew);revert hS;generalize World.drew _=wz;intro hS)|((with_reducible refine bI ?_);(first|(refine aG rfl hS rfl rfl ?_;intro g w hS));(try simp only [ah,ak,au,ay,aA]))|((with_reducible refine aW ?_);(first|(refine aJ 84 rfl hS rfl _ jg ?_;intro g w hS));(try simp only [ah,ak,au,ay,aA]))|((with_reducible refine AY ?_);refine Ho rfl rfl ?_;(try simp only [ah,ak,au,ay,aA]))|((with_reducible refine aC ?_);(first|(refine fD rfl hS rfl rfl (by repeat constructor) ?_)|(refine jY rfl hS rfl rfl (by repeat constructor) ?_)|(refine ug rfl hS rfl rfl (by repeat constructor) ?_)|(refine J4 rfl hS rfl rfl (by repeat constructor) ?_)|(refine J5 rfl hS rfl rfl (by repeat constructor) ?_));(try simp only [ah,ak,au,ay,aA]))|((with_reducible refine aN ?_);(first|(refine jO rfl hS rfl rfl rfl (by repeat constructor) ?_;intro w hS)|(refine Qq rfl hS rfl rfl rfl (by repeat constructor) ?_;intro w hS)|(refine Yz rfl hS rfl rfl rfl (by repeat constructor) ?_;intro w hS)|(refine ag4 rfl hS rfl rfl rfl (by repeat constructor) ?_;intro w hS));(try simp only [ah,ak,au,ay,aA])))
 all_goals (refine Ad hS rfl rfl (by repeat constructor) rfl (fun hb=>⟨kX (f:=Md.cells) ?_,hb⟩))
 all_goals (simp_all [Mc,Me,dO])
def inB (n a b:Int):Bool:=decide (a≤n)&&decide (n≤b)
theorem Yq (n a b:Int) (w:World):Calls Tryz.prog 217 #[.int .i64 n, .int .i64 a, .int .i64 b] w fun e w'=>e= .returned (.bool (inB n a b))∧w=w':=by
 go_enter Tryz.awf,Tryz.auU
 go_wp2_with (first|fail)
 all_goals go_ret
 all_goals exact ⟨aX (by rw [Bool.eq_iff_iff];simp_all [inB]<;>(intros;omega)),rfl⟩
theorem ajN (r:Md) (w:World) (hl:Laid w):Calls Tryz.prog 124 #[.agg r.cells] w fun e w'=>e= .returned (.bool (iM r))∧Below w.heap.size w w':=by
 have heq:=fun (q:Md) (wx:World)=>Qv r q wx
 have hS:=St.start hl bJ
 go_enter Tryz.avO,Tryz.auv
 go_wp2_with (first|(go_at_call 217;(with_reducible refine (St.still hS fun hl=>Yq _ _ _ _).mono ?_);rintro e w ⟨rfl,hS⟩)|(go_at_call 122;(with_reducible refine (St.call hS fun hl=>UZ _ _ hl).mono ?_);rintro e w ⟨rfl,hS⟩)|(go_at_call 52;(with_reducible refine (St.call hS fun hl=>amZ _ _ hl).mono ?_);rintro e w ⟨rfl,hS⟩)|((with_reducible refine bG ?_);(first|(refine aS rfl ?_)|((fail_if_success refine fJ rfl ?_);refine jc _ _ rfl rfl (fun hb=> ?_) (fun hb=> ?_)<;>(first|(obtain rfl:=eq_of_beq hb)|(simp only [hb]))));(try simp only [ah,ak,au,ay,aA]))|((with_reducible refine bI ?_);(first|(refine aG rfl hS rfl rfl ?_;intro g w hS));(try simp only [ah,ak,au,ay,aA]))|((with_reducible refine aC ?_);(first|(refine jY rfl hS rfl rfl (by repeat constructor) ?_)|(refine ug rfl hS rfl rfl (by repeat constructor) ?_)|(refine ag1 rfl hS rfl rfl (by repeat constructor) ?_)|(refine J4 rfl hS rfl rfl (by repeat constructor) ?_)|(refine J5 rfl hS rfl rfl (by repeat constructor) ?_));(try simp only [ah,ak,au,ay,aA]))|((with_reducible refine aT ?_);refine bY hS (by kernel_rfl) (by kernel_rfl) ?_)|((with_reducible refine fG ?_);intro w hS)|((with_reducible refine wW ?_);(first|(refine uw rfl (fun _ _ _ h=>h) ?_)|((fail_if_success refine NK rfl ?_);refine ZL _ _ rfl rfl (fun hb=> ?_) (fun hb=> ?_)<;>(first|(obtain rfl:=eq_of_beq hb)|(simp only [hb]))));(try simp only [ah,ak,au,ay,aA]))|((with_reducible refine gZ ?_);(first|(refine aqI rfl rfl rfl (by repeat constructor) (fun _ _ _ h=>h) ?_)|(refine aqH rfl rfl rfl (by repeat constructor) (fun _ _ _ h=>h) ?_));(try simp only [ah,ak,au,ay,aA]))|((with_reducible refine iI ?_);(first|(refine eu (v:= ?_) (args:= ?_) 217 rfl (fun _ _ _ h=>h) ?_ ?_ ?_;rotate_left 2;(focus ((intro w;go_simp)<;>with_reducible rfl));(focus (intro w hS;refine St.KU hS (fun hl=>Yq _ _ _ _) ?_;with_reducible rfl)))|(refine eu (v:= ?_) (args:= ?_) 218 rfl (fun _ _ _ h=>h) ?_ ?_ ?_;rotate_left 2;(focus ((intro w;go_simp)<;>with_reducible rfl));(focus (intro w hS;refine St.jF hS (fun hl=>aea _ _ hl) ?_;with_reducible rfl))));(try simp only [ah,ak,au,ay,aA]))|((with_reducible refine dS ?_);(refine dn (v:= ?_) rfl (fun _ _ _ h=>h) ?_ ?_;rotate_left;(focus ((intro w hS;go_simp)<;>with_reducible rfl)));(try simp only [ah,ak,au,ay,aA])))
 all_goals go_ret
 all_goals (refine ⟨aX ?_,hS.below⟩;clear heq hS hl;rw [Bool.eq_iff_iff];simp_all [iM,Qi,inB]<;>(intros;omega))
theorem ni (r:Md) (R:Bool) (h:Hid (R=iM r)) (w:World) (hl:Laid w):Calls Tryz.prog 124 #[.agg r.cells] w fun e w'=>e= .returned (.bool R)∧Below w.heap.size w w':=
 (ajN r w hl).mono fun e w' h'=>⟨by rw [h'.1,h.out],h'.2⟩
theorem Ez:∀k:Fin 64,(bD k.val).length≤1000:=by decide +kernel
theorem uN:∀k:Fin 32,(bM k.val).length≤1000:=by decide +kernel
theorem ad2:∀k:Fin 199,(Lib.itoa ((k.val:Int) - 99)).length≤1000:=by decide +kernel
theorem kW (n:Int) (h1: -99≤n) (h2:n≤99):(Lib.itoa n).length≤1000:=by
 have:=ad2 ⟨(n+99).toNat,by omega⟩
 simp only at this
 rwa [show (((n+99).toNat:Nat):Int) - 99=n by omega] at this
theorem AX {m:Nat} :(dA m).length≤1000000:=by
 unfold dA
 split
 ·decide
 ·have h1:=join_le [43] 20 _ (xQ (m:=m) (show ∀x∈bK,x.length≤20 by decide))
  have h2:=qc bK m
  simp only [List.length_cons,List.length_nil] at h1;omega
theorem aaU (r:Md) (HV:Hid (false=iM r)) (w:World) (hl:Laid w):Calls Tryz.prog 125 #[.agg r.cells] w fun e w'=>e= .returned (.string (B []))∧Below w.heap.size w w':=by
 obtain ⟨kind,n,m,sub,f⟩:=r
 have hS:=St.start hl bJ
 go_enter Tryz.uT,Tryz.rU
 go_wp2_with (first|(go_at_call 124;(with_reducible refine (St.call hS fun hl=>ni _ _ HV _ hl).mono ?_);rintro e w ⟨rfl,hS⟩)|((with_reducible refine bI ?_);(first|(refine aG rfl hS rfl rfl ?_;intro g w hS));(try simp only [ah,ak,au,ay,aA]))|((with_reducible refine aC ?_);(first|(refine fD rfl hS rfl rfl (by repeat constructor) ?_));(try simp only [ah,ak,au,ay,aA])))
 go_ret
 exact ⟨rfl,hS.below⟩
theorem aaV (r:Md) (hr:nK r) (HV:Hid (true=iM r)) (w:World) (hl:Laid w):Calls Tryz.prog 125 #[.agg r.cells] w fun e w'=>e= .returned (.string (B (nM r)))∧Below w.heap.size w w':=by
 cases hr with
 |control|blank|switch=>
  have hS:=St.start hl bJ
  go_enter Tryz.uT,Tryz.rU
  go_wp2_with (first|(go_at_call 124;(with_reducible refine (St.call hS fun hl=>ni _ _ HV _ hl).mono ?_);rintro e w ⟨rfl,hS⟩)|((with_reducible refine bI ?_);(first|(refine aG rfl hS rfl rfl ?_;intro g w hS));(try simp only [ah,ak,au,ay,aA]))|((with_reducible refine aC ?_);(first|(refine fD rfl hS rfl rfl (by repeat constructor) ?_)|(refine jY rfl hS rfl rfl (by repeat constructor) ?_));(try simp only [ah,ak,au,ay,aA])))
  all_goals go_ret
  all_goals exact ⟨dL rfl,hS.below⟩
 |sJ k h1 h2|Ap k h1 h2=>
  have h3:=Ez ⟨k,by omega⟩
  simp only at h3
  have hS:=St.start hl bJ
  go_enter Tryz.uT,Tryz.rU
  go_wp2_with (first|(go_at_call 124;(with_reducible refine (St.call hS fun hl=>ni _ _ HV _ hl).mono ?_);rintro e w ⟨rfl,hS⟩)|(go_at_call 219;(with_reducible refine (St.call hS fun hl=>vS _ _).mono ?_);rintro e w ⟨rfl,hS⟩)|((with_reducible refine jU ?_);(first|(refine eG rfl rfl rfl rfl (by first|(simp only [List.length_append,List.length_cons,List.length_nil];omega)|fail) ?_));(try simp only [ah,ak,au,ay,aA]))|((with_reducible refine bI ?_);(first|(refine aG rfl hS rfl rfl ?_;intro g w hS));(try simp only [ah,ak,au,ay,aA]))|((with_reducible refine aC ?_);(first|(refine fD rfl hS rfl rfl (by repeat constructor) ?_)|(refine jY rfl hS rfl rfl (by repeat constructor) ?_)|(refine ug rfl hS rfl rfl (by repeat constructor) ?_));(try simp only [ah,ak,au,ay,aA])))
  all_goals go_ret
  all_goals exact ⟨dL rfl,hS.below⟩
 |KW s hs|KX s hs=>
  obtain ⟨p,rfl⟩:∃p,s=B p:=⟨L s,(qY s).symm⟩
  have h3:=tN hs
  rw [cO] at h3
  have hS:=St.start hl bJ
  go_enter Tryz.uT,Tryz.rU
  go_wp2_with (first|(go_at_call 124;(with_reducible refine (St.call hS fun hl=>ni _ _ HV _ hl).mono ?_);rintro e w ⟨rfl,hS⟩)|((with_reducible refine jU ?_);(first|(refine eG rfl rfl rfl rfl (by first|(simp only [List.length_append,List.length_cons,List.length_nil];omega)|fail) ?_));(try simp only [ah,ak,au,ay,aA]))|((with_reducible refine bI ?_);(first|(refine aG rfl hS rfl rfl ?_;intro g w hS));(try simp only [ah,ak,au,ay,aA]))|((with_reducible refine aC ?_);(first|(refine fD rfl hS rfl rfl (by repeat constructor) ?_)|(refine jY rfl hS rfl rfl (by repeat constructor) ?_)|(refine J4 rfl hS rfl rfl (by repeat constructor) ?_));(try simp only [ah,ak,au,ay,aA])))
  all_goals go_ret
  all_goals exact ⟨dL rfl,hS.below⟩
 |wI k h1=>
  have h3:=uN ⟨k,by omega⟩
  simp only at h3
  have hS:=St.start hl bJ
  go_enter Tryz.uT,Tryz.rU
  go_wp2_with (first|(go_at_call 124;(with_reducible refine (St.call hS fun hl=>ni _ _ HV _ hl).mono ?_);rintro e w ⟨rfl,hS⟩)|(go_at_call 220;(with_reducible refine (St.call hS fun hl=>vN _ (by omega) _ hl).mono ?_);rintro e w ⟨rfl,hS⟩)|((with_reducible refine jU ?_);(first|(refine eG rfl rfl rfl rfl (by first|(simp only [List.length_append,List.length_cons,List.length_nil];omega)|fail) ?_));(try simp only [ah,ak,au,ay,aA]))|((with_reducible refine bI ?_);(first|(refine aG rfl hS rfl rfl ?_;intro g w hS));(try simp only [ah,ak,au,ay,aA]))|((with_reducible refine aC ?_);(first|(refine fD rfl hS rfl rfl (by repeat constructor) ?_)|(refine jY rfl hS rfl rfl (by repeat constructor) ?_)|(refine ug rfl hS rfl rfl (by repeat constructor) ?_));(try simp only [ah,ak,au,ay,aA])))
  all_goals go_ret
  all_goals exact ⟨dL rfl,hS.below⟩
 |wJ k h1 h2=>
  have h3:=uN ⟨k,by omega⟩
  simp only at h3
  have hS:=St.start hl bJ
  go_enter Tryz.uT,Tryz.rU
  go_wp2_with (first|(go_at_call 124;(with_reducible refine (St.call hS fun hl=>ni _ _ HV _ hl).mono ?_);rintro e w ⟨rfl,hS⟩)|(go_at_call 220;(with_reducible refine (St.call hS fun hl=>vN _ (by omega) _ hl).mono ?_);rintro e w ⟨rfl,hS⟩)|((with_reducible refine jU ?_);(first|(refine eG rfl rfl rfl rfl (by first|(simp only [List.length_append,List.length_cons,List.length_nil];omega)|fail) ?_));(try simp only [ah,ak,au,ay,aA]))|((with_reducible refine bI ?_);(first|(refine aG rfl hS rfl rfl ?_;intro g w hS));(try simp only [ah,ak,au,ay,aA]))|((with_reducible refine aC ?_);(first|(refine fD rfl hS rfl rfl (by repeat constructor) ?_)|(refine jY rfl hS rfl rfl (by repeat constructor) ?_)|(refine ug rfl hS rfl rfl (by repeat constructor) ?_));(try simp only [ah,ak,au,ay,aA])))
  all_goals go_ret
  all_goals exact ⟨dL rfl,hS.below⟩
 |keys8 k h1 h2|Ec k h1 h2=>
  have h3:=AX (m:=k)
  have hS:=St.start hl bJ
  go_enter Tryz.uT,Tryz.rU
  go_wp2_with (first|(go_at_call 124;(with_reducible refine (St.call hS fun hl=>ni _ _ HV _ hl).mono ?_);rintro e w ⟨rfl,hS⟩)|(go_at_call 221;(with_reducible refine (St.call hS fun hl=>ES _ (by omega) _).mono ?_);rintro e w ⟨rfl,hS⟩)|((with_reducible refine jU ?_);(first|(refine eG rfl rfl rfl rfl (by first|(simp only [List.length_append,List.length_cons,List.length_nil];omega)|fail) ?_));(try simp only [ah,ak,au,ay,aA]))|((with_reducible refine bI ?_);(first|(refine aG rfl hS rfl rfl ?_;intro g w hS));(try simp only [ah,ak,au,ay,aA]))|((with_reducible refine aC ?_);(first|(refine fD rfl hS rfl rfl (by repeat constructor) ?_)|(refine jY rfl hS rfl rfl (by repeat constructor) ?_)|(refine ug rfl hS rfl rfl (by repeat constructor) ?_));(try simp only [ah,ak,au,ay,aA])))
  all_goals go_ret
  all_goals exact ⟨dL rfl,hS.below⟩
 |count f hf=>
  have h3:=oJ (f:=f)
  have hS:=St.start hl bJ
  go_enter Tryz.uT,Tryz.rU
  go_wp2_with (first|(go_at_call 124;(with_reducible refine (St.call hS fun hl=>ni _ _ HV _ hl).mono ?_);rintro e w ⟨rfl,hS⟩)|(go_at_call 63;(with_reducible refine (St.call hS fun hl=>Aa _ _ hl).mono ?_);rintro e w ⟨rfl,hS⟩)|((with_reducible refine jU ?_);(first|(refine eG rfl rfl rfl rfl (by first|(simp only [List.length_append,List.length_cons,List.length_nil];omega)|fail) ?_));(try simp only [ah,ak,au,ay,aA]))|((with_reducible refine bI ?_);(first|(refine aG rfl hS rfl rfl ?_;intro g w hS));(try simp only [ah,ak,au,ay,aA]))|((with_reducible refine aC ?_);(first|(refine fD rfl hS rfl rfl (by repeat constructor) ?_)|(refine jY rfl hS rfl rfl (by repeat constructor) ?_)|(refine J5 rfl hS rfl rfl (by repeat constructor) ?_));(try simp only [ah,ak,au,ay,aA])))
  all_goals go_ret
  all_goals (refine ⟨dL ?_,hS.below⟩;simp [nM,vC,iq])
 |Et n m h1 h2 h3 h4=>
  have h5:=kW n (by omega) h2
  have h6:=kW m (by omega) h4
  have hS:=St.start hl bJ
  go_enter Tryz.uT,Tryz.rU
  go_wp2_with (first|(go_at_call 124;(with_reducible refine (St.call hS fun hl=>ni _ _ HV _ hl).mono ?_);rintro e w ⟨rfl,hS⟩)|((with_reducible refine bI ?_);(first|(refine aG rfl hS rfl rfl ?_;intro g w hS));(try simp only [ah,ak,au,ay,aA]))|((with_reducible refine aC ?_);(first|(refine fD rfl hS rfl rfl (by repeat constructor) ?_)|(refine jY rfl hS rfl rfl (by repeat constructor) ?_));(try simp only [ah,ak,au,ay,aA]))|((with_reducible refine aT ?_);refine bY hS (by kernel_rfl) (by kernel_rfl) ?_)|((with_reducible refine fG ?_);intro w hS)|((with_reducible refine FV ?_);(first|(refine DC rfl rfl rfl rfl (by first|(simp only [List.length_append,List.length_cons,List.length_nil];omega)|fail) (fun _ _ _ h=>h) ?_));(try simp only [ah,ak,au,ay,aA]))|((with_reducible refine gZ ?_);(first|(refine Qo rfl rfl rfl (by repeat constructor) (fun _ _ _ h=>h) ?_)|(refine Qp rfl rfl rfl (by repeat constructor) (fun _ _ _ h=>h) ?_));(try simp only [ah,ak,au,ay,aA]))|((with_reducible refine iI ?_);(first|(refine eu (v:= ?_) (args:= ?_) 81 rfl (fun _ _ _ h=>h) ?_ ?_ ?_;rotate_left 2;(focus ((intro w;go_simp)<;>with_reducible rfl));(focus (intro w hS;refine St.jF hS (fun hl=>nI _ (by omega) (by omega) _ hl) ?_;with_reducible rfl))));(try simp only [ah,ak,au,ay,aA]))|((with_reducible refine dS ?_);(refine dn (v:= ?_) rfl (fun _ _ _ h=>h) ?_ ?_;rotate_left;(focus ((intro w hS;go_simp)<;>with_reducible rfl)));(try simp only [ah,ak,au,ay,aA])))
  all_goals go_ret
  all_goals (refine ⟨dL ?_,hS.below⟩;simp [nM,vC])
 |DW n m h1 h2 h3 h4=>
  have h5:=kW n h1 h2
  have h6:=kW m h3 h4
  have hS:=St.start hl bJ
  go_enter Tryz.uT,Tryz.rU
  go_wp2_with (first|(go_at_call 124;(with_reducible refine (St.call hS fun hl=>ni _ _ HV _ hl).mono ?_);rintro e w ⟨rfl,hS⟩)|((with_reducible refine bI ?_);(first|(refine aG rfl hS rfl rfl ?_;intro g w hS));(try simp only [ah,ak,au,ay,aA]))|((with_reducible refine aC ?_);(first|(refine fD rfl hS rfl rfl (by repeat constructor) ?_)|(refine jY rfl hS rfl rfl (by repeat constructor) ?_));(try simp only [ah,ak,au,ay,aA]))|((with_reducible refine aT ?_);refine bY hS (by kernel_rfl) (by kernel_rfl) ?_)|((with_reducible refine fG ?_);intro w hS)|((with_reducible refine FV ?_);(first|(refine DC rfl rfl rfl rfl (by first|(simp only [List.length_append,List.length_cons,List.length_nil];omega)|fail) (fun _ _ _ h=>h) ?_));(try simp only [ah,ak,au,ay,aA]))|((with_reducible refine gZ ?_);(first|(refine Qo rfl rfl rfl (by repeat constructor) (fun _ _ _ h=>h) ?_)|(refine Qp rfl rfl rfl (by repeat constructor) (fun _ _ _ h=>h) ?_));(try simp only [ah,ak,au,ay,aA]))|((with_reducible refine iI ?_);(first|(refine eu (v:= ?_) (args:= ?_) 81 rfl (fun _ _ _ h=>h) ?_ ?_ ?_;rotate_left 2;(focus ((intro w;go_simp)<;>with_reducible rfl));(focus (intro w hS;refine St.jF hS (fun hl=>nI _ (by omega) (by omega) _ hl) ?_;with_reducible rfl))));(try simp only [ah,ak,au,ay,aA]))|((with_reducible refine dS ?_);(refine dn (v:= ?_) rfl (fun _ _ _ h=>h) ?_ ?_;rotate_left;(focus ((intro w hS;go_simp)<;>with_reducible rfl)));(try simp only [ah,ak,au,ay,aA])))
  all_goals go_ret
  all_goals (refine ⟨dL ?_,hS.below⟩;simp [nM,Aq])
theorem ad9 (r:Md) (w:World) (hl:Laid w):Calls Tryz.prog 125 #[.agg r.cells] w fun e w'=>e= .returned (.string (B (cu r)))∧Below w.heap.size w w':=by
 cases hv:iM r with
 |false=>rw [Ee hv];exact aaU r (Lib.hid hv.symm) w hl
 |true=>rw [show cu r=nM r from if_pos hv];exact aaV r (wS hv) (Lib.hid hv.symm) w hl
theorem JZ (r:Md) (T:Str) (h:Hid (cu r=T)) (w:World) (hl:Laid w):Calls Tryz.prog 125 #[.agg r.cells] w fun e w'=>e= .returned (.string (B T))∧Below w.heap.size w w':=
 (ad9 r w hl).mono fun e w' h'=>⟨by rw [h'.1,h.out],h'.2⟩
def Kt (o:Option Nat):Int:=if o.isSome=true then 0 else 3
theorem Ku (o:Option Nat):Qz o= .tuple #[.int .i64 (pF o), .int .i64 (Kt o)]:=by cases o<;>rfl
theorem Vf (o:Option Int):lN o= .tuple #[.int .i64 (o.getD 0), .bool o.isSome]:=by cases o<;>rfl
def JK (o:Option aH):Int:=if o.isSome=true then 0 else 3
theorem UR (o:Option aH):Fv o= .tuple #[.agg (aH.cells (o.getD zeroF)), .int .i64 (JK o)]:=by cases o<;>rfl
theorem aol (x:Str) (hx:x.length<100000000) (w:World) (hl:Laid w):Calls Tryz.prog 300 #[.string (B x)] w fun e w'=>e= .returned (.tuple #[.int .i64 (pF (yc x)), .int .i64 (Kt (yc x))])∧Below w.heap.size w w':=
 (yV (B x) w hl (by rw [bC];omega)).mono fun e w' ⟨he,hb⟩=>⟨he.trans (by rw [cO,Ku]),hb⟩
theorem an0 (x:Str) (w:World) (hl:Laid w):Calls Tryz.prog 301 #[.string (B x)] w fun e w'=>e= .returned (.tuple #[.int .i64 (pF (pU x)), .int .i64 (Kt (pU x))])∧Below w.heap.size w w':=
 (yF (B x) w hl).mono fun e w' ⟨he,hb⟩=>⟨he.trans (by rw [cO,Ku]),hb⟩
theorem an2 (x:Str) (hx:x.length<100000000) (w:World):Calls Tryz.prog 259 #[.string (B x)] w fun e w'=>e= .returned (.tuple #[.int .i64 (pF (xY x)), .int .i64 (Kt (xY x))])∧Below w.heap.size w w':=
 (CY (B x) w (by rw [bC];omega)).mono fun e w' ⟨he,hb⟩=>⟨he.trans (by rw [cO,Ku]),hb⟩
theorem YL (x:Str) (hx:x.length<100000000) (w:World) (hl:Laid w):Calls Tryz.prog 243 #[.string (B x)] w fun e w'=>e= .returned (.tuple #[.int .i64 ((numOf x).getD 0), .bool (numOf x).isSome])∧Below w.heap.size w w':=
 (Hy (B x) w hl (by rw [bC];omega)).mono fun e w' ⟨he,hb⟩=>⟨he.trans (by rw [cO,Vf]),hb⟩
theorem XP (x:Str) (hx:x.length<100000000) (w:World) (hl:Laid w):Calls Tryz.prog 95 #[.string (B x)] w fun e w'=>e= .returned (.tuple #[.agg (aH.cells ((bW x).getD zeroF)), .int .i64 (JK (bW x))])∧Below w.heap.size w w':=
 (JL (B x) w hl (by rw [bC];exact hx)).mono fun e w' ⟨he,hb⟩=>⟨he.trans (by rw [cO,UR]),hb⟩
theorem XA (s:Str) (c:UInt8) (p q:Str) (HC:Hid (cutAt c s=(p,q))) (w:World) (hl:Laid w) (hs:s.length<100000000):
 Calls Tryz.prog 167 #[.string (B s), .string ⟨#[c]⟩] w fun e w'=>(∃b,e= .returned (.tuple #[.string (B p), .string (B q), .bool b]))∧Below w.heap.size w w':=
 (Tryz.strings_Cut_shaped (B s) ⟨#[c]⟩ w hl.shaped (by rw [bC];omega)).mono fun e w' ⟨he,n,hw⟩=>by
  obtain ⟨h1,h2⟩:=cut_one c s
  rw [HC.out] at h1 h2
  refine ⟨⟨(Lib.cut (B s).data.toList (⟨#[c]⟩:ByteArray).data.toList).2.2,he.trans ?_⟩,hw ▸ below_drewN (Below.refl _ _) n⟩
  rw [show (⟨#[c]⟩:ByteArray).data.toList=[c] from rfl,show (B s).data.toList=L (B s) from rfl,cO,h1,h2];rfl
theorem ady (x:Str) (w:World):Calls Tryz.prog 165 #[.string (B x), .string ⟨#[99,111,117,110,116,40]⟩] w fun e w'=>e= .returned (.tuple #[.string (B (Lib.trimPrefix x iq)), .bool (Lib.hasPrefix x iq)])∧w=w':=
 (sF (B x) ⟨#[99,111,117,110,116,40]⟩ w iq rfl).mono fun e w' h=>⟨by rw [h.1,cO],h.2⟩
theorem air (x:Str) (hx:x.length<1000000000) (w:World):Calls Tryz.prog 236 #[.string (B x), .string ⟨#[41]⟩] w fun e w'=>e= .returned (.string (B (Lib.trimSuffix x [41])))∧w=w':=
 (Tryz.strings_TrimSuffix (B x) ⟨#[41]⟩ w (by rw [bC];omega)).mono fun _ _ h'=>⟨h'.1.trans (by rw [show (B x).data.toList=L (B x) from rfl,cO];try rfl),h'.2.symm⟩
theorem aaH (x:Str) (hx:x.length<1000000000) (w:World):Calls Tryz.prog 303 #[.string (B x), .string ⟨#[43]⟩] w fun e w'=>e= .returned (.bool (Lib.hasSuffix x [43]))∧w=w':=
 (Tryz.strings_HasSuffix (B x) ⟨#[43]⟩ w (by rw [bC];omega)).mono fun _ _ h'=>⟨h'.1.trans (by rw [show (B x).data.toList=L (B x) from rfl,cO];try rfl),h'.2.symm⟩
theorem aq1 (x p:Str):(Lib.trimPrefix x p).length≤x.length:=by unfold Lib.trimPrefix;split<;>simp
theorem arQ (x p:Str):(Lib.trimSuffix x p).length≤x.length:=by unfold Lib.trimSuffix;split<;>simp
theorem Yu (s:Str) (hs:s.length<100000000) (w:World) (hl:Laid w):Calls Tryz.prog 302 #[.string (B s)] w fun e w'=>e= .returned (.agg (Md.cells (sU s)))∧Below w.heap.size w w':=by
 have h1:=aq1 s iq
 have h2:=arQ (Lib.trimPrefix s iq) [41]
 obtain ⟨c1,c2⟩:=abO 47 s
 obtain ⟨p,q,hpq⟩:∃p q,cutAt 47 s=(p,q):=⟨_,_,rfl⟩
 rw [hpq] at c1 c2
 simp only at c1 c2
 have HC:=Lib.hid hpq
 clear hpq
 have hS:=St.start hl bJ
 go_enter Tryz.awM,Tryz.avq
 go_wp2_with (first|(go_at_call 165;(with_reducible refine (St.still hS fun hl=>ady _ _).mono ?_);rintro e w ⟨rfl,hS⟩)|(go_at_call 236;(with_reducible refine (St.still hS fun hl=>air _ (by omega) _).mono ?_);rintro e w ⟨rfl,hS⟩)|(go_at_call 95;(with_reducible refine (St.call hS fun hl=>XP _ (by omega) _ hl).mono ?_);rintro e w ⟨rfl,hS⟩)|(go_at_call 243;(with_reducible refine (St.call hS fun hl=>YL _ (by omega) _ hl).mono ?_);rintro e w ⟨rfl,hS⟩)|(go_at_call 167;(with_reducible refine (XA s 47 p q HC _ hS.laid hs).mono ?_);rintro e w ⟨⟨b0,rfl⟩,hbw⟩;have hS:=hS.mono hbw;clear hbw)|((with_reducible refine aW ?_);(first|(refine aJ 84 rfl hS rfl _ jg ?_;intro g w hS)|(refine aJ 26 rfl hS rfl _ Sj ?_;intro g w hS));(try simp only [ah,ak,au,ay,aA]))|((with_reducible refine J8 ?_);refine Qn rfl rfl rfl ?_;(try simp only [ah,ak,au,ay,aA]))|((with_reducible refine SV ?_);refine Yv rfl rfl rfl rfl ?_;(try simp only [ah,ak,au,ay,aA]))|((with_reducible refine aC ?_);(first|(refine Fz rfl hS rfl rfl (by repeat constructor) ?_));(try simp only [ah,ak,au,ay,aA]))|((with_reducible refine aN ?_);(first|(refine jO rfl hS rfl rfl rfl (by repeat constructor) ?_;intro w hS)|(refine Sr rfl hS rfl rfl rfl (by repeat constructor) ?_;intro w hS));(try simp only [ah,ak,au,ay,aA])))
 all_goals (refine Ad hS rfl rfl (by repeat constructor) rfl (fun hb=>⟨kX (f:=Md.cells) ?_,hb⟩))
 all_goals (have hc:=HC.out;simp_all [sU,dO])
theorem acN (q:Str):wrap64 ((sU q).kind+1)=(sU q).kind+1:=by unfold sU;split<;>(simp only [];decide +kernel)
theorem aaR (s:Str) (hs:s.length<100000000) (w:World) (hl:Laid w):Calls Tryz.prog 257 #[.string (B s)] w fun e w'=>e= .returned (.agg (Md.cells (kP s)))∧Below w.heap.size w w':=by
 obtain ⟨c1,c2⟩:=abO 61 s
 obtain ⟨p,q,hpq⟩:∃p q,cutAt 61 s=(p,q):=⟨_,_,rfl⟩
 rw [hpq] at c1 c2
 simp only at c1 c2
 have HC:=Lib.hid hpq
 clear hpq
 have hS:=St.start hl bJ
 go_enter Tryz.awx,Tryz.avb
 go_wp2_with (first|((first|(with_reducible refine aB ?_)|(with_reducible refine aT ?_));(have hq:=str_eq (by assumption);subst hq))|(go_at_call 300;(with_reducible refine (St.call hS fun hl=>aol _ (by omega) _ hl).mono ?_);rintro e w ⟨rfl,hS⟩)|(go_at_call 301;(with_reducible refine (St.call hS fun hl=>an0 _ _ hl).mono ?_);rintro e w ⟨rfl,hS⟩)|(go_at_call 259;(with_reducible refine (St.call hS fun hl=>an2 _ (by omega) _).mono ?_);rintro e w ⟨rfl,hS⟩)|(go_at_call 302;(with_reducible refine (St.call hS fun hl=>Yu _ (by omega) _ hl).mono ?_);rintro e w ⟨rfl,hS⟩)|(go_at_call 303;(with_reducible refine (St.still hS fun hl=>aaH _ (by omega) _).mono ?_);rintro e w ⟨rfl,hS⟩)|(go_at_call 167;(with_reducible refine (XA s 61 p q HC _ hS.laid hs).mono ?_);rintro e w ⟨⟨b0,rfl⟩,hbw⟩;have hS:=hS.mono hbw;clear hbw)|((with_reducible refine bG ?_);(first|(refine aS rfl ?_));(try simp only [ah,ak,au,ay,aA]))|((with_reducible refine aW ?_);(first|(refine aJ 84 rfl hS rfl _ jg ?_;intro g w hS));(try simp only [ah,ak,au,ay,aA]))|((with_reducible refine AY ?_);refine Ho rfl rfl ?_;(try simp only [ah,ak,au,ay,aA]))|((with_reducible refine aC ?_);(first|(refine fD rfl hS rfl rfl (by repeat constructor) ?_)|(refine jY rfl hS rfl rfl (by repeat constructor) ?_));(try simp only [ah,ak,au,ay,aA]))|((with_reducible refine aN ?_);(first|(refine jO rfl hS rfl rfl rfl (by repeat constructor) ?_;intro w hS)|(refine ag2 rfl hS rfl rfl rfl (by repeat constructor) ?_;intro w hS)|(refine Qq rfl hS rfl rfl rfl (by repeat constructor) ?_;intro w hS)|(refine Yz rfl hS rfl rfl rfl (by repeat constructor) ?_;intro w hS));(try simp only [ah,ak,au,ay,aA])))
 all_goals (refine Ad hS rfl rfl (by repeat constructor) rfl (fun hb=>⟨kX (f:=Md.cells) ?_,hb⟩))
 all_goals (have hc:=HC.out;clear hS hl;simp_all [acN,kP,rG,stepM,upM,dO,vV,Cb,zq,vK,sZ,E5,zO,sO,qF,uf,tZ,vC,Aq]<;>(first|rfl|(decide +kernel)|exact acN _))
def Qk (o:Option Md):Value:=match o with|some r=> .tuple #[.agg r.cells, .int .i64 0]|none=> .tuple #[.agg dO.cells, .int .i64 3]
theorem Hl (s:Str) (G:Md) (h:Hid (kP s=G)) (hs:s.length<100000000) (w:World) (hl:Laid w):Calls Tryz.prog 257 #[.string (B s)] w fun e w'=>e= .returned (.agg G.cells)∧Below w.heap.size w w':=
 (aaR s hs w hl).mono fun e w' h'=>⟨by rw [h'.1,h.out],h'.2⟩
theorem ad8 (s:Str) (hs:s.length<100000000) (G:Md) (HG:Hid (kP s=G)) (I:Bool) (HI:Hid (I=iM G)) (T:Str) (HT:Hid (cu G=T)) (R:Option Md) (HR:Hid ((if I=true∧T=s then some G else none)=R)) (w:World) (hl:Laid w):
 Calls Tryz.prog 194 #[.string (B s)] w fun e w'=>e= .returned (Qk R)∧Below w.heap.size w w':=by
 have hS:=St.start hl bJ
 cases I
 ·obtain rfl:R=none:=by rw [←HR.out,if_neg (fun h=>by cases h.1)]
  clear HR
  go_enter Tryz.ab8,Tryz.YF
  go_wp2_with (first|(go_at_call 257;(with_reducible refine (St.call hS fun hl=>Hl _ _ HG hs _ hl).mono ?_);rintro e w ⟨rfl,hS⟩)|(go_at_call 124;(with_reducible refine (St.call hS fun hl=>ni _ _ HI _ hl).mono ?_);rintro e w ⟨rfl,hS⟩)|((with_reducible refine bG ?_);(first|(refine aS rfl ?_));(try simp only [ah,ak,au,ay,aA]))|((with_reducible refine aW ?_);(first|(refine aJ 84 rfl hS rfl _ jg ?_;intro g w hS));(try simp only [ah,ak,au,ay,aA]))|((with_reducible refine uh ?_);refine yQ rfl ?_;(try simp only [ah,ak,au,ay,aA]))|((with_reducible refine aC ?_);(first|(refine fD rfl hS rfl rfl (by repeat constructor) ?_));(try simp only [ah,ak,au,ay,aA]))|((with_reducible refine aN ?_);(first|(refine jO rfl hS rfl rfl rfl (by repeat constructor) ?_;intro w hS));(try simp only [ah,ak,au,ay,aA])))
  all_goals (refine BM hS rfl rfl (by repeat constructor) rfl rfl (fun hb=>⟨rfl,hb⟩))
 ·by_cases hx:T=s
  ·subst hx
   obtain rfl:R=some G:=by rw [←HR.out,if_pos ⟨rfl,rfl⟩]
   clear HR
   have ht:(T==T)=true:=by simp
   go_enter Tryz.ab8,Tryz.YF
   go_wp2_with (first|(go_at_call 257;(with_reducible refine (St.call hS fun hl=>Hl _ _ HG hs _ hl).mono ?_);rintro e w ⟨rfl,hS⟩)|(go_at_call 124;(with_reducible refine (St.call hS fun hl=>ni _ _ HI _ hl).mono ?_);rintro e w ⟨rfl,hS⟩)|(go_at_call 125;(with_reducible refine (St.call hS fun hl=>JZ _ _ HT _ hl).mono ?_);rintro e w ⟨rfl,hS⟩)|((with_reducible refine aW ?_);(first|(refine aJ 84 rfl hS rfl _ jg ?_;intro g w hS));(try simp only [ah,ak,au,ay,aA]))|((with_reducible refine aC ?_);(first|(refine fD rfl hS rfl rfl (by repeat constructor) ?_));(try simp only [ah,ak,au,ay,aA]))|((with_reducible refine aN ?_);(first|(refine jO rfl hS rfl rfl rfl (by repeat constructor) ?_;intro w hS));(try simp only [ah,ak,au,ay,aA])))
   all_goals (refine BM hS rfl rfl (by repeat constructor) rfl rfl (fun hb=>⟨rfl,hb⟩))
  ·obtain rfl:R=none:=by rw [←HR.out,if_neg (fun h=>hx h.2)]
   have hx':(T==s)=false:=by simpa using hx
   clear hx HR
   go_enter Tryz.ab8,Tryz.YF
   go_wp2_with (first|(go_at_call 257;(with_reducible refine (St.call hS fun hl=>Hl _ _ HG hs _ hl).mono ?_);rintro e w ⟨rfl,hS⟩)|(go_at_call 124;(with_reducible refine (St.call hS fun hl=>ni _ _ HI _ hl).mono ?_);rintro e w ⟨rfl,hS⟩)|(go_at_call 125;(with_reducible refine (St.call hS fun hl=>JZ _ _ HT _ hl).mono ?_);rintro e w ⟨rfl,hS⟩)|((with_reducible refine aW ?_);(first|(refine aJ 84 rfl hS rfl _ jg ?_;intro g w hS));(try simp only [ah,ak,au,ay,aA]))|((with_reducible refine uh ?_);refine yQ rfl ?_;(try simp only [ah,ak,au,ay,aA]))|((with_reducible refine aC ?_);(first|(refine fD rfl hS rfl rfl (by repeat constructor) ?_));(try simp only [ah,ak,au,ay,aA]))|((with_reducible refine aN ?_);(first|(refine jO rfl hS rfl rfl rfl (by repeat constructor) ?_;intro w hS));(try simp only [ah,ak,au,ay,aA])))
   all_goals (refine BM hS rfl rfl (by repeat constructor) rfl rfl (fun hb=>⟨rfl,hb⟩))
theorem aaS (s:Str) (hs:s.length<100000000) (w:World) (hl:Laid w):Calls Tryz.prog 194 #[.string (B s)] w fun e w'=>e= .returned (Qk (iK s))∧Below w.heap.size w w':=
 ad8 s hs _ (Lib.hid rfl) _ (Lib.hid rfl) _ (Lib.hid rfl) _ (Lib.hid rfl) w hl
def KL (r:Md):Md:=⟨0,if Me r.kind=true then 0 else r.n,if r.kind=12∨r.kind=13 then 0 else r.m,if r.kind=4∨r.kind=5 then ⟨#[]⟩ else r.sub,if r.kind=11 then zeroF else r.f⟩
theorem akP (r:Md):ET (KL r) dO=ET r (Mc r):=by
 rw [Bool.eq_iff_iff,yP,yP]
 obtain ⟨k,n,m,s,f⟩:=r
 simp only [KL,Mc,dO,Md.mk.injEq,true_and]
 by_cases h1:Me k=true<;>by_cases h2:k=12∨k=13<;>by_cases h3:k=4∨k=5<;>by_cases h4:k=11<;>simp [h1,h2,h3,h4]
def Z5 (n:Int):Bool:=decide (1≤n)&&(decide (n≤63)&&(bits .and .i64 n 6==0))
theorem Zo (n:Int) (w:World):Calls Tryz.prog 226 #[.int .i64 n] w fun e w'=>e= .returned (.bool (Z5 n))∧w=w':=by
 go_enter Tryz.awl,Tryz.au0
 go_wp2_with (first|((with_reducible refine bG ?_);(first|(refine aS rfl ?_));(try simp only [ah,ak,au,ay,aA])))
 all_goals go_ret
 all_goals exact ⟨aX (by rw [Bool.eq_iff_iff];simp_all [Z5]<;>(intros;omega)),rfl⟩
theorem aa4 (r:Md) (w:World) (hl:Laid w):Calls Tryz.prog 225 #[.agg r.cells] w fun e w'=>e= .returned (.agg (KL r).cells)∧Below w.heap.size w w':=by
 obtain ⟨kind,n,m,sub,f⟩:=r
 have hS:=St.start hl bJ
 go_enter Tryz.awk,Tryz.auZ
 go_wp2_with (first|((first|(with_reducible refine aB ?_)|(with_reducible refine aT ?_));(have hq:=int_eq (by assumption);subst hq))|((with_reducible refine bI ?_);(first|(refine aG rfl hS rfl rfl ?_;intro g w hS));(try simp only [ah,ak,au,ay,aA]))|((with_reducible refine aW ?_);(first|(refine aJ 84 rfl hS rfl _ jg ?_;intro g w hS));(try simp only [ah,ak,au,ay,aA]))|((with_reducible refine GV ?_);refine Oi rfl ?_;(try simp only [ah,ak,au,ay,aA]))|((with_reducible refine aC ?_);(first|(refine fD rfl hS rfl rfl (by repeat constructor) ?_)|(refine jY rfl hS rfl rfl (by repeat constructor) ?_));(try simp only [ah,ak,au,ay,aA]))|((with_reducible refine aN ?_);(first|(refine jO rfl hS rfl rfl rfl (by repeat constructor) ?_;intro w hS)|(refine ag2 rfl hS rfl rfl rfl (by repeat constructor) ?_;intro w hS)|(refine Qq rfl hS rfl rfl rfl (by repeat constructor) ?_;intro w hS)|(refine ag3 rfl hS rfl rfl rfl (by repeat constructor) ?_;intro w hS)|(refine Yz rfl hS rfl rfl rfl (by repeat constructor) ?_;intro w hS)|(refine ag4 rfl hS rfl rfl rfl (by repeat constructor) ?_;intro w hS));(try simp only [ah,ak,au,ay,aA])))
 all_goals (refine Ad hS rfl rfl (by repeat constructor) rfl (fun hb=>⟨kX (f:=Md.cells) ?_,hb⟩))
 all_goals (simp_all [KL,Me,dO])
theorem ahN (f:aH) (w:World):Calls Tryz.prog 56 #[.agg f.cells] w fun e w'=>e= .returned (.bool (dh f))∧Below w.heap.size w w':=Ig f _ (Lib.hid rfl) w
theorem aho (r:Md) (w:World) (hl:Laid w):Calls Tryz.prog 133 #[.agg r.cells] w fun e w'=>e= .returned (.bool (iM r))∧Below w.heap.size w w':=by
 have heq:=fun (wx:World)=>(Qv (KL r) dO wx).trans (by rw [akP r])
 have hS:=St.start hl bJ
 go_enter Tryz.avR,Tryz.auz
 go_wp2_with (first|(go_at_call 226;(with_reducible refine (St.still hS fun hl=>Zo _ _).mono ?_);rintro e w ⟨rfl,hS⟩)|(go_at_call 225;(with_reducible refine (St.call hS fun hl=>aa4 _ _ hl).mono ?_);rintro e w ⟨rfl,hS⟩)|(go_at_call 131;(with_reducible refine (St.call hS fun hl=>QS _ _).mono ?_);rintro e w ⟨rfl,hS⟩)|(go_at_call 56;(with_reducible refine (St.call hS fun hl=>ahN _ _).mono ?_);rintro e w ⟨rfl,hS⟩)|((with_reducible refine bG ?_);(first|(refine aS rfl ?_)|((fail_if_success refine fJ rfl ?_);refine jc _ _ rfl rfl (fun hb=> ?_) (fun hb=> ?_)<;>(first|(obtain rfl:=eq_of_beq hb)|(simp only [hb]))));(try simp only [ah,ak,au,ay,aA]))|((with_reducible refine bI ?_);(first|(refine aG rfl hS rfl rfl ?_;intro g w hS));(try simp only [ah,ak,au,ay,aA]))|((with_reducible refine uh ?_);refine yQ rfl ?_;(try simp only [ah,ak,au,ay,aA]))|((with_reducible refine aC ?_);(first|(refine fD rfl hS rfl rfl (by repeat constructor) ?_)|(refine jY rfl hS rfl rfl (by repeat constructor) ?_)|(refine ug rfl hS rfl rfl (by repeat constructor) ?_)|(refine ag1 rfl hS rfl rfl (by repeat constructor) ?_)|(refine J4 rfl hS rfl rfl (by repeat constructor) ?_)|(refine J5 rfl hS rfl rfl (by repeat constructor) ?_));(try simp only [ah,ak,au,ay,aA])))
 all_goals go_ret
 all_goals (refine ⟨aX ?_,hS.below⟩;clear heq hS hl;rw [Bool.eq_iff_iff];simp_all [iM,Qi,Z5]<;>(intros;omega))
theorem ny (r:Md) (R:Bool) (h:Hid (R=iM r)) (w:World) (hl:Laid w):Calls Tryz.prog 133 #[.agg r.cells] w fun e w'=>e= .returned (.bool R)∧Below w.heap.size w w':=
 (aho r w hl).mono fun e w' h'=>⟨by rw [h'.1,h.out],h'.2⟩
theorem Qd (T:List Str) (m:Nat) (sep:Str):∀k,(∀i,i<k→T.getD i []≠[])→jS T m sep k=Lib.join ((aK m k).map fun i=>T.getD i []) sep∧(jS T m sep k=[]↔aK m k=[])
 |0,_=>by simp [jS,aK,Lib.join_nil]
 |k+1,h=>by
  obtain ⟨h1,h2⟩:=Qd T m sep k (fun i hi=>h i (by omega))
  rw [jS]
  cases hb:m.testBit k with
  |false=>rw [oN hb];exact ⟨h1,h2⟩
  |true=>
   rw [qL hb,List.map_append,List.map_cons,List.map_nil,wR,if_pos rfl]
   by_cases h0:aK m k=[]
   ·rw [if_pos (h2.2 h0)]
    have hk:=h k (by omega)
    simp [h0];simpa using hk
   ·have h0':=fun e=>h0 (h2.1 e)
    rw [if_neg h0',if_neg (by simpa using h0),←h1]
    refine ⟨rfl,fun e=> ?_,fun e=> ?_⟩
    ·exact absurd (List.append_eq_nil_iff.1 (List.append_eq_nil_iff.1 e).1).1 h0'
    ·simp at e
theorem asN (m:Nat) (hm:m<2 ^ 17):dA m=if jS bK m [43] 17=[] then pO else jS bK m [43] 17:=by
 obtain ⟨h1,h2⟩:=Qd bK m [43] 17 (fun i hi=>aiC ⟨i,hi⟩)
 have e:bV bK m=(aK m 17).map fun i=>bK.getD i []:=by unfold bV;rw [EG hm (show 17≤31 by omega)]
 unfold dA
 rw [e,←h1]
 by_cases h0:m=0
 ·subst h0;rw [if_pos rfl,if_pos (h2.2 rfl)]
 ·rw [if_neg h0,if_neg]
  intro hj
  apply acy (T:=bK) h0 (Nat.lt_of_lt_of_le hm (Nat.pow_le_pow_right (by omega) (by omega)))
  rw [e,h2.1 hj];rfl
theorem asC (w:World):Calls Tryz.prog 158 #[.int .i64 0] w fun e w'=>e= .returned (.string (B [97,109,98,101,114]))∧w=w':=jB 0 (by decide) w
theorem asD (w:World):Calls Tryz.prog 158 #[.int .i64 1] w fun e w'=>e= .returned (.string (B [99,111,98,97,108,116]))∧w=w':=jB 1 (by decide) w
theorem asE (w:World):Calls Tryz.prog 158 #[.int .i64 2] w fun e w'=>e= .returned (.string (B [106,101,116]))∧w=w':=jB 2 (by decide) w
theorem asF (w:World):Calls Tryz.prog 158 #[.int .i64 3] w fun e w'=>e= .returned (.string (B [114,117,98,121]))∧w=w':=jB 3 (by decide) w
theorem asG (w:World):Calls Tryz.prog 158 #[.int .i64 4] w fun e w'=>e= .returned (.string (B [101,109,101,114,97,108,100]))∧w=w':=jB 4 (by decide) w
def aqv (n:Int):Bool:=decide (0≤n)&&decide (n≤31)
theorem ahk (n:Int) (w:World):Calls Tryz.prog 277 #[.int .i64 n] w fun e w'=>e= .returned (.bool (aqv n))∧w=w':=by
 go_enter Tryz.awF,Tryz.avi
 go_wp2_with (first|((with_reducible refine bG ?_);(first|(refine aS rfl ?_));(try simp only [ah,ak,au,ay,aA])))
 all_goals go_ret
 all_goals exact ⟨aX (by rw [Bool.eq_iff_iff];simp_all [aqv]<;>(intros;omega)),rfl⟩
theorem EW (m:Nat) (hm:m<32) (w0:World) (hl:Laid w0):Calls Tryz.prog 228 #[.int .i64 m] w0 fun e w'=>e= .returned (.string (B (bM m)))∧Below w0.heap.size w0 w':=by
 have hS:=St.start hl bJ
 have hc:m=0∨m=1∨m=2∨m=3∨m=4∨m=5∨m=6∨m=7∨m=8∨m=9∨m=10∨m=11∨m=12∨m=13∨m=14∨m=15∨m=16∨m=17∨m=18∨m=19∨m=20∨m=21∨m=22∨m=23∨m=24∨m=25∨m=26∨m=27∨m=28∨m=29∨m=30∨m=31:=by omega
 rcases hc with rfl|rfl|rfl|rfl|rfl|rfl|rfl|rfl|rfl|rfl|rfl|rfl|rfl|rfl|rfl|rfl|rfl|rfl|rfl|rfl|rfl|rfl|rfl|rfl|rfl|rfl|rfl|rfl|rfl|rfl|rfl|rfl
 all_goals
  go_enter Tryz.awn,Tryz.au2
  go_wp2_with (first|(go_at_call 277;(with_reducible refine (St.still hS fun hl=>ahk _ _).mono ?_);rintro e w ⟨rfl,hS⟩)|(go_at_call 158;(with_reducible refine (St.still hS fun hl=>asC _).mono ?_);rintro e w ⟨rfl,hS⟩)|(go_at_call 158;(with_reducible refine (St.still hS fun hl=>asD _).mono ?_);rintro e w ⟨rfl,hS⟩)|(go_at_call 158;(with_reducible refine (St.still hS fun hl=>asE _).mono ?_);rintro e w ⟨rfl,hS⟩)|(go_at_call 158;(with_reducible refine (St.still hS fun hl=>asF _).mono ?_);rintro e w ⟨rfl,hS⟩)|(go_at_call 158;(with_reducible refine (St.still hS fun hl=>asG _).mono ?_);rintro e w ⟨rfl,hS⟩)|((with_reducible refine lM ?_);refine wp_loop_rounds 6 ?_)|(with_reducible refine jH ?_)|((with_reducible refine jU ?_);(first|(refine eG rfl rfl rfl rfl (by first|(simp only [List.length_append,List.length_cons,List.length_nil];omega)|fail) ?_));(try simp only [ah,ak,au,ay,aA])))
  all_goals go_ret
  all_goals exact ⟨dL (by decide +kernel),hS.below⟩
theorem ahl (m:Nat) (hm:m≤131071) (w:World):Calls Tryz.prog 278 #[.int .i64 m] w fun e w'=>e= .returned (.bool true)∧w=w':=by
 go_enter Tryz.awG,Tryz.avj
 go_wp2
 all_goals go_ret
 all_goals first|exact ⟨rfl,rfl⟩|exact ⟨aX (by simp;omega),rfl⟩
theorem alG:∀i:Fin 17,(wd bK i.val).length≤20:=by decide +kernel
theorem qU (i:Nat) (hi:i<17) (W:Str) (h:Hid (wd bK i=W)) (w:World):Calls Tryz.prog 159 #[.int .i64 i] w fun e w'=>e= .returned (.string (B W))∧Below w.heap.size w w':=
 (CP i hi w).mono fun e w' h'=>⟨by rw [h'.1,h.out],h'.2⟩
theorem anq (m k:Nat):jS bK m [43] (k+1)=if m.testBit k=true then (if jS bK m [43] k=[] then wd bK k else jS bK m [43] k++([43]++wd bK k)) else jS bK m [43] k:=by
 rw [jS,List.append_assoc];rfl
theorem Nz (m:Nat) (hm:m<2 ^ 17) (w0:World) (hl:Laid w0):Calls Tryz.prog 229 #[.int .i64 m] w0 fun e w'=>e= .returned (.string (B (dA m)))∧Below w0.heap.size w0 w':=by
 have HJ:=Lib.hid (asN m hm)
 have hm':m≤131071:=by omega
 have hS:=St.start hl bJ
 go_enter Tryz.awo,Tryz.au3
 go_wp2_with (first|(go_at_call 278;(with_reducible refine (St.still hS fun hl=>ahl m hm' _).mono ?_);rintro e w ⟨rfl,hS⟩))
 go_loopw [0,3,4] (fun mv sv iv wr=>∃(k x:Nat) (p:Str),k≤17∧x≤131071∧p.length≤200 * k∧mv= .int .i64 x∧sv= .string (B p)∧iv= .int .i64 k∧Hid (x=m / 2 ^ k)∧Hid (jS bK m [43] k=p)∧Hid (St Laid w0 [] wr)) (fun _ _ iv _=>17 - (intOf iv).toNat)
 case atStart=>exact ⟨0,m,[],by omega,hm',by simp,rfl,rfl,rfl,by simp [Hid],rfl,Lib.hid hS⟩
 case round=>
  clear hS
  obtain ⟨k,x,p,hk,hx,hp,rfl,rfl,rfl,HX,HP,HS⟩:=hrel
  have hS:=HS.out
  clear HS
  by_cases hlt:k<17
  ·have WY:Hid (x / 2=m / 2 ^ (k+1)):=Lib.hid (by rw [HX.out,Nat.pow_succ,Nat.div_div_eq_div_mul])
   have hst:=anq m k
   rw [Nat.testBit_eq_decide_div_mod_eq,←HX.out,HP.out] at hst
   have hw:=alG ⟨k,hlt⟩
   simp only at hw
   generalize hW:wd bK k=W at *
   have HW:=Lib.hid hW
   clear hW
   by_cases hb:x % 2=1
   ·rw [decide_eq_true hb,if_pos rfl] at hst
    by_cases hp0:p=[]
    ·subst hp0
     rw [if_pos rfl] at hst
     have HN:=Lib.hid hst
     clear hst
     go_wp2_with (first|(go_at_call 159;(with_reducible refine (St.call hS fun hl=>qU k hlt _ HW _).mono ?_);rintro e w ⟨rfl,hS⟩)|((with_reducible refine jU ?_);(first|(refine eG rfl rfl rfl rfl (by first|(simp only [List.length_append,List.length_cons,List.length_nil];omega)|fail) ?_));(try simp only [ah,ak,au,ay,aA])))
     go_roundw
     case rel=>exact ⟨k+1,x / 2,W,by omega,by omega,by omega,by go_num,rfl,by go_num,WY,HN,Lib.hid hS⟩
     case measure=>simp [intOf];omega
    ·rw [if_neg hp0] at hst
     have hp1:(p==[])=false:=by simpa using hp0
     have HN:=Lib.hid hst
     clear hst hp0
     go_wp2_with (first|(go_at_call 159;(with_reducible refine (St.call hS fun hl=>qU k hlt _ HW _).mono ?_);rintro e w ⟨rfl,hS⟩)|((with_reducible refine jU ?_);(first|(refine eG rfl rfl rfl rfl (by first|(simp only [List.length_append,List.length_cons,List.length_nil];omega)|fail) ?_));(try simp only [ah,ak,au,ay,aA])))
     go_roundw
     case rel=>exact ⟨k+1,x / 2,p++([43]++W),by omega,by omega,by simp;omega,by go_num,by simp [rE],by go_num,WY,HN,Lib.hid hS⟩
     case measure=>simp [intOf];omega
   ·have hb':x % 2=0:=by omega
    rw [decide_eq_false hb,if_neg (by decide)] at hst
    have HN:=Lib.hid hst
    clear hst
    go_wp2_with (first|fail)
    go_roundw
    case rel=>exact ⟨k+1,x / 2,p,by omega,by omega,by omega,by go_num,rfl,by go_num,WY,HN,Lib.hid hS⟩
    case measure=>simp [intOf];omega
  ·obtain rfl:k=17:=by omega
   rw [HP.out] at HJ
   by_cases hp0:p=[]
   ·subst hp0
    go_wp2_with (first|fail)
    go_ret
    exact ⟨dL (by rw [HJ.out];rfl),hS.below⟩
   ·have hp1:(p==[])=false:=by simpa using hp0
    have HE:Hid (dA m=p):=Lib.hid (by rw [HJ.out,if_neg hp0])
    clear hp0
    go_wp2_with (first|fail)
    go_ret
    exact ⟨dL HE.out.symm,hS.below⟩
def nU (f:Nat→Str) (s:Str) (k n:Nat):Option Nat:=(List.range' k n).find? fun m=>f m==s
theorem IV (f:Nat→Str) (s:Str) (k n:Nat):nU f s k (n+1)=if f k=s then some k else nU f s (k+1) n:=by
 unfold nU
 rw [List.range'_succ,List.find?_cons]
 by_cases h:f k=s
 ·rw [if_pos h,show (f k==s)=true by simpa using h]
 ·rw [if_neg h,show (f k==s)=false by simpa using h]
theorem akn (s:Str):Nv s=nU bD s 1 63:=rfl
theorem ahg (s:Str):pU s=nU bM s 0 32:=by unfold pU nU;rw [List.range_eq_range']
theorem Vs (m:Nat) (h1:1≤m) (h2:m≤63) (T:Str) (h:Hid (bD m=T)) (w:World):Calls Tryz.prog 227 #[.int .i64 m] w fun e w'=>e= .returned (.string (B T))∧Below w.heap.size w w':=
 (zi m h1 h2 w).mono fun e w' h'=>⟨by rw [h'.1,h.out],h'.2⟩
theorem QN (m:Nat) (h1:m<32) (T:Str) (h:Hid (bM m=T)) (w:World) (hl:Laid w):Calls Tryz.prog 228 #[.int .i64 m] w fun e w'=>e= .returned (.string (B T))∧Below w.heap.size w w':=
 (EW m h1 w hl).mono fun e w' h'=>⟨by rw [h'.1,h.out],h'.2⟩
theorem MC (s:Str) (w0:World) (hl:Laid w0):Calls Tryz.prog 292 #[.string (B s)] w0 fun e w'=>e= .returned (.tuple #[.int .i64 (pF (Nv s)), .int .i64 (Kt (Nv s))])∧Below w0.heap.size w0 w':=by
 rw [akn]
 obtain ⟨R,hR⟩:∃R,nU bD s 1 63=R:=⟨_,rfl⟩
 rw [hR]
 have HR:=Lib.hid hR
 clear hR
 have hS:=St.start hl bJ
 go_enter Tryz.awH,Tryz.avk
 go_wp2_with (first|fail)
 go_loopw [4] (fun mv wr=>∃k:Nat,1≤k∧k≤64∧mv= .int .i64 k∧Hid (nU bD s k (64 - k)=R)∧Hid (St Laid w0 [] wr)) (fun mv _=>64 - (intOf mv).toNat)
 case atStart=>exact ⟨1,by omega,by omega,rfl,HR,Lib.hid hS⟩
 case round=>
  clear hS
  obtain ⟨k,hk1,hk2,rfl,HF,HS⟩:=hrel
  have hS:=HS.out
  clear HS
  by_cases hlt:k≤63
  ·have hst:=IV bD s k (63 - k)
   rw [show 63 - k+1=64 - k by omega,HF.out] at hst
   obtain ⟨T,hT⟩:∃T,bD k=T:=⟨_,rfl⟩
   rw [hT] at hst
   have HT:=Lib.hid hT
   clear hT
   by_cases hx:T=s
   ·subst hx
    rw [if_pos rfl] at hst
    have HN:=Lib.hid hst
    clear hst
    go_wp2_with (first|(go_at_call 227;(with_reducible refine (St.call hS fun hl=>Vs k hk1 hlt _ HT _).mono ?_);rintro e w ⟨rfl,hS⟩))
    go_ret2
    exact ⟨by rw [HN.out];rfl,hS.below⟩
   ·rw [if_neg hx] at hst
    have hx1:(T==s)=false:=by simpa using hx
    have HN:Hid (nU bD s (k+1) (64 - (k+1))=R):=Lib.hid (by rw [hst,show 64 - (k+1)=63 - k by omega])
    clear hst hx
    go_wp2_with (first|(go_at_call 227;(with_reducible refine (St.call hS fun hl=>Vs k hk1 hlt _ HT _).mono ?_);rintro e w ⟨rfl,hS⟩))
    go_roundw
    case rel=>exact ⟨k+1,by omega,by omega,by go_num,HN,Lib.hid hS⟩
    case measure=>simp [intOf];omega
  ·obtain rfl:k=64:=by omega
   have HN:Hid (none=R):=HF
   go_wp2_with (first|fail)
   go_ret2
   exact ⟨by rw [←HN.out];rfl,hS.below⟩
theorem KC (s:Str) (w0:World) (hl:Laid w0):Calls Tryz.prog 293 #[.string (B s)] w0 fun e w'=>e= .returned (.tuple #[.int .i64 (pF (pU s)), .int .i64 (Kt (pU s))])∧Below w0.heap.size w0 w':=by
 rw [ahg]
 obtain ⟨R,hR⟩:∃R,nU bM s 0 32=R:=⟨_,rfl⟩
 rw [hR]
 have HR:=Lib.hid hR
 clear hR
 have hS:=St.start hl bJ
 go_enter Tryz.awI,Tryz.avl
 go_wp2_with (first|fail)
 go_loopw [4] (fun mv wr=>∃k:Nat,k≤32∧mv= .int .i64 k∧Hid (nU bM s k (32 - k)=R)∧Hid (St Laid w0 [] wr)) (fun mv _=>32 - (intOf mv).toNat)
 case atStart=>exact ⟨0,by omega,rfl,HR,Lib.hid hS⟩
 case round=>
  clear hS
  obtain ⟨k,hk2,rfl,HF,HS⟩:=hrel
  have hS:=HS.out
  clear HS
  by_cases hlt:k≤31
  ·have hst:=IV bM s k (31 - k)
   rw [show 31 - k+1=32 - k by omega,HF.out] at hst
   obtain ⟨T,hT⟩:∃T,bM k=T:=⟨_,rfl⟩
   rw [hT] at hst
   have HT:=Lib.hid hT
   clear hT
   by_cases hx:T=s
   ·subst hx
    rw [if_pos rfl] at hst
    have HN:=Lib.hid hst
    clear hst
    go_wp2_with (first|(go_at_call 228;(with_reducible refine (St.call hS fun hl=>QN k (by omega) _ HT _ hl).mono ?_);rintro e w ⟨rfl,hS⟩))
    go_ret2
    exact ⟨by rw [HN.out];rfl,hS.below⟩
   ·rw [if_neg hx] at hst
    have hx1:(T==s)=false:=by simpa using hx
    have HN:Hid (nU bM s (k+1) (32 - (k+1))=R):=Lib.hid (by rw [hst,show 32 - (k+1)=31 - k by omega])
    clear hst hx
    go_wp2_with (first|(go_at_call 228;(with_reducible refine (St.call hS fun hl=>QN k (by omega) _ HT _ hl).mono ?_);rintro e w ⟨rfl,hS⟩))
    go_roundw
    case rel=>exact ⟨k+1,by omega,by go_num,HN,Lib.hid hS⟩
    case measure=>simp [intOf];omega
  ·obtain rfl:k=32:=by omega
   have HN:Hid (none=R):=HF
   go_wp2_with (first|fail)
   go_ret2
   exact ⟨by rw [←HN.out];rfl,hS.below⟩
theorem Zx (m:Nat) (h1:m<2 ^ 17) (T:Str) (h:Hid (dA m=T)) (w:World) (hl:Laid w):Calls Tryz.prog 229 #[.int .i64 m] w fun e w'=>e= .returned (.string (B T))∧Below w.heap.size w w':=
 (Nz m h1 w hl).mono fun e w' h'=>⟨by rw [h'.1,h.out],h'.2⟩
theorem ZI (s:Str):∀k,(kR s k).1<2 ^ k∧(kR s k).2.length≤s.length
 |0=>⟨by simp [kR],Nat.le_refl _⟩
 |k+1=>by
  obtain ⟨h1,h2⟩:=ZI s k
  rw [EY]
  unfold KJ
  split
  ·refine ⟨by simp only [Nat.pow_succ];omega,?_⟩
   simp only [List.length_drop];omega
  ·exact ⟨by rw [Nat.pow_succ];omega,h2⟩
theorem Zm (r:Md) (HV:Hid (false=iM r)) (w:World) (hl:Laid w):Calls Tryz.prog 134 #[.agg r.cells] w fun e w'=>e= .returned (.string (B []))∧Below w.heap.size w w':=by
 obtain ⟨kind,n,m,sub,f⟩:=r
 have hS:=St.start hl bJ
 go_enter Tryz.uU,Tryz.rV
 go_wp2_with (first|(go_at_call 133;(with_reducible refine (St.call hS fun hl=>ny _ _ HV _ hl).mono ?_);rintro e w ⟨rfl,hS⟩)|((with_reducible refine bI ?_);(first|(refine aG rfl hS rfl rfl ?_;intro g w hS));(try simp only [ah,ak,au,ay,aA]))|((with_reducible refine aC ?_);(first|(refine fD rfl hS rfl rfl (by repeat constructor) ?_));(try simp only [ah,ak,au,ay,aA])))
 go_ret
 exact ⟨rfl,hS.below⟩
theorem Zn (r:Md) (hr:nK r) (HV:Hid (true=iM r)) (w:World) (hl:Laid w):Calls Tryz.prog 134 #[.agg r.cells] w fun e w'=>e= .returned (.string (B (nM r)))∧Below w.heap.size w w':=by
 cases hr with
 |control|blank|switch=>
  have hS:=St.start hl bJ
  go_enter Tryz.uU,Tryz.rV
  go_wp2_with (first|(go_at_call 133;(with_reducible refine (St.call hS fun hl=>ny _ _ HV _ hl).mono ?_);rintro e w ⟨rfl,hS⟩)|((with_reducible refine bI ?_);(first|(refine aG rfl hS rfl rfl ?_;intro g w hS));(try simp only [ah,ak,au,ay,aA]))|((with_reducible refine aC ?_);(first|(refine fD rfl hS rfl rfl (by repeat constructor) ?_)|(refine jY rfl hS rfl rfl (by repeat constructor) ?_));(try simp only [ah,ak,au,ay,aA])))
  all_goals go_ret
  all_goals exact ⟨dL rfl,hS.below⟩
 |sJ k h1 h2|Ap k h1 h2=>
  have h3:=Ez ⟨k,by omega⟩
  simp only at h3
  have hS:=St.start hl bJ
  go_enter Tryz.uU,Tryz.rV
  go_wp2_with (first|(go_at_call 133;(with_reducible refine (St.call hS fun hl=>ny _ _ HV _ hl).mono ?_);rintro e w ⟨rfl,hS⟩)|(go_at_call 227;(with_reducible refine (St.call hS fun hl=>zi _ h1 h2 _).mono ?_);rintro e w ⟨rfl,hS⟩)|((with_reducible refine jU ?_);(first|(refine eG rfl rfl rfl rfl (by first|(simp only [List.length_append,List.length_cons,List.length_nil];omega)|fail) ?_));(try simp only [ah,ak,au,ay,aA]))|((with_reducible refine bI ?_);(first|(refine aG rfl hS rfl rfl ?_;intro g w hS));(try simp only [ah,ak,au,ay,aA]))|((with_reducible refine aC ?_);(first|(refine fD rfl hS rfl rfl (by repeat constructor) ?_)|(refine jY rfl hS rfl rfl (by repeat constructor) ?_)|(refine ug rfl hS rfl rfl (by repeat constructor) ?_));(try simp only [ah,ak,au,ay,aA])))
  all_goals go_ret
  all_goals exact ⟨dL rfl,hS.below⟩
 |KW s hs|KX s hs=>
  obtain ⟨p,rfl⟩:∃p,s=B p:=⟨L s,(qY s).symm⟩
  have h3:=tN hs
  rw [cO] at h3
  have hS:=St.start hl bJ
  go_enter Tryz.uU,Tryz.rV
  go_wp2_with (first|(go_at_call 133;(with_reducible refine (St.call hS fun hl=>ny _ _ HV _ hl).mono ?_);rintro e w ⟨rfl,hS⟩)|((with_reducible refine jU ?_);(first|(refine eG rfl rfl rfl rfl (by first|(simp only [List.length_append,List.length_cons,List.length_nil];omega)|fail) ?_));(try simp only [ah,ak,au,ay,aA]))|((with_reducible refine bI ?_);(first|(refine aG rfl hS rfl rfl ?_;intro g w hS));(try simp only [ah,ak,au,ay,aA]))|((with_reducible refine aC ?_);(first|(refine fD rfl hS rfl rfl (by repeat constructor) ?_)|(refine jY rfl hS rfl rfl (by repeat constructor) ?_)|(refine J4 rfl hS rfl rfl (by repeat constructor) ?_));(try simp only [ah,ak,au,ay,aA])))
  all_goals go_ret
  all_goals exact ⟨dL rfl,hS.below⟩
 |wI k h1=>
  have h3:=uN ⟨k,by omega⟩
  simp only at h3
  have hS:=St.start hl bJ
  go_enter Tryz.uU,Tryz.rV
  go_wp2_with (first|(go_at_call 133;(with_reducible refine (St.call hS fun hl=>ny _ _ HV _ hl).mono ?_);rintro e w ⟨rfl,hS⟩)|(go_at_call 228;(with_reducible refine (St.call hS fun hl=>EW _ (by omega) _ hl).mono ?_);rintro e w ⟨rfl,hS⟩)|((with_reducible refine jU ?_);(first|(refine eG rfl rfl rfl rfl (by first|(simp only [List.length_append,List.length_cons,List.length_nil];omega)|fail) ?_));(try simp only [ah,ak,au,ay,aA]))|((with_reducible refine bI ?_);(first|(refine aG rfl hS rfl rfl ?_;intro g w hS));(try simp only [ah,ak,au,ay,aA]))|((with_reducible refine aC ?_);(first|(refine fD rfl hS rfl rfl (by repeat constructor) ?_)|(refine jY rfl hS rfl rfl (by repeat constructor) ?_)|(refine ug rfl hS rfl rfl (by repeat constructor) ?_));(try simp only [ah,ak,au,ay,aA])))
  all_goals go_ret
  all_goals exact ⟨dL rfl,hS.below⟩
 |wJ k h1 h2=>
  have h3:=uN ⟨k,by omega⟩
  simp only at h3
  have hS:=St.start hl bJ
  go_enter Tryz.uU,Tryz.rV
  go_wp2_with (first|(go_at_call 133;(with_reducible refine (St.call hS fun hl=>ny _ _ HV _ hl).mono ?_);rintro e w ⟨rfl,hS⟩)|(go_at_call 228;(with_reducible refine (St.call hS fun hl=>EW _ (by omega) _ hl).mono ?_);rintro e w ⟨rfl,hS⟩)|((with_reducible refine jU ?_);(first|(refine eG rfl rfl rfl rfl (by first|(simp only [List.length_append,List.length_cons,List.length_nil];omega)|fail) ?_));(try simp only [ah,ak,au,ay,aA]))|((with_reducible refine bI ?_);(first|(refine aG rfl hS rfl rfl ?_;intro g w hS));(try simp only [ah,ak,au,ay,aA]))|((with_reducible refine aC ?_);(first|(refine fD rfl hS rfl rfl (by repeat constructor) ?_)|(refine jY rfl hS rfl rfl (by repeat constructor) ?_)|(refine ug rfl hS rfl rfl (by repeat constructor) ?_));(try simp only [ah,ak,au,ay,aA])))
  all_goals go_ret
  all_goals exact ⟨dL rfl,hS.below⟩
 |keys8 k h1 h2|Ec k h1 h2=>
  have h3:=AX (m:=k)
  have hS:=St.start hl bJ
  go_enter Tryz.uU,Tryz.rV
  go_wp2_with (first|(go_at_call 133;(with_reducible refine (St.call hS fun hl=>ny _ _ HV _ hl).mono ?_);rintro e w ⟨rfl,hS⟩)|(go_at_call 229;(with_reducible refine (St.call hS fun hl=>Nz _ (by omega) _ hl).mono ?_);rintro e w ⟨rfl,hS⟩)|((with_reducible refine jU ?_);(first|(refine eG rfl rfl rfl rfl (by first|(simp only [List.length_append,List.length_cons,List.length_nil];omega)|fail) ?_));(try simp only [ah,ak,au,ay,aA]))|((with_reducible refine bI ?_);(first|(refine aG rfl hS rfl rfl ?_;intro g w hS));(try simp only [ah,ak,au,ay,aA]))|((with_reducible refine aC ?_);(first|(refine fD rfl hS rfl rfl (by repeat constructor) ?_)|(refine jY rfl hS rfl rfl (by repeat constructor) ?_)|(refine ug rfl hS rfl rfl (by repeat constructor) ?_));(try simp only [ah,ak,au,ay,aA])))
  all_goals go_ret
  all_goals exact ⟨dL rfl,hS.below⟩
 |count f hf=>
  have h3:=oJ (f:=f)
  have hS:=St.start hl bJ
  go_enter Tryz.uU,Tryz.rV
  go_wp2_with (first|(go_at_call 133;(with_reducible refine (St.call hS fun hl=>ny _ _ HV _ hl).mono ?_);rintro e w ⟨rfl,hS⟩)|(go_at_call 66;(with_reducible refine (St.call hS fun hl=>uq _ _).mono ?_);rintro e w ⟨rfl,hS⟩)|((with_reducible refine jU ?_);(first|(refine eG rfl rfl rfl rfl (by first|(simp only [List.length_append,List.length_cons,List.length_nil];omega)|fail) ?_));(try simp only [ah,ak,au,ay,aA]))|((with_reducible refine bI ?_);(first|(refine aG rfl hS rfl rfl ?_;intro g w hS));(try simp only [ah,ak,au,ay,aA]))|((with_reducible refine aC ?_);(first|(refine fD rfl hS rfl rfl (by repeat constructor) ?_)|(refine jY rfl hS rfl rfl (by repeat constructor) ?_)|(refine J5 rfl hS rfl rfl (by repeat constructor) ?_));(try simp only [ah,ak,au,ay,aA])))
  all_goals go_ret
  all_goals (refine ⟨dL ?_,hS.below⟩;simp [nM,vC,iq])
 |Et n m h1 h2 h3 h4=>
  have h5:=kW n (by omega) h2
  have h6:=kW m (by omega) h4
  have hS:=St.start hl bJ
  go_enter Tryz.uU,Tryz.rV
  go_wp2_with (first|(go_at_call 133;(with_reducible refine (St.call hS fun hl=>ny _ _ HV _ hl).mono ?_);rintro e w ⟨rfl,hS⟩)|((with_reducible refine bI ?_);(first|(refine aG rfl hS rfl rfl ?_;intro g w hS));(try simp only [ah,ak,au,ay,aA]))|((with_reducible refine aC ?_);(first|(refine fD rfl hS rfl rfl (by repeat constructor) ?_)|(refine jY rfl hS rfl rfl (by repeat constructor) ?_));(try simp only [ah,ak,au,ay,aA]))|((with_reducible refine aT ?_);refine bY hS (by kernel_rfl) (by kernel_rfl) ?_)|((with_reducible refine fG ?_);intro w hS)|((with_reducible refine FV ?_);(first|(refine DC rfl rfl rfl rfl (by first|(simp only [List.length_append,List.length_cons,List.length_nil];omega)|fail) (fun _ _ _ h=>h) ?_));(try simp only [ah,ak,au,ay,aA]))|((with_reducible refine gZ ?_);(first|(refine Qo rfl rfl rfl (by repeat constructor) (fun _ _ _ h=>h) ?_)|(refine Qp rfl rfl rfl (by repeat constructor) (fun _ _ _ h=>h) ?_));(try simp only [ah,ak,au,ay,aA]))|((with_reducible refine iI ?_);(first|(refine eu (v:= ?_) (args:= ?_) 83 rfl (fun _ _ _ h=>h) ?_ ?_ ?_;rotate_left 2;(focus ((intro w;go_simp)<;>with_reducible rfl));(focus (intro w hS;refine St.jF hS (fun hl=>qA _ _ (by omega) (by omega)) ?_;with_reducible rfl))));(try simp only [ah,ak,au,ay,aA]))|((with_reducible refine dS ?_);(refine dn (v:= ?_) rfl (fun _ _ _ h=>h) ?_ ?_;rotate_left;(focus ((intro w hS;go_simp)<;>with_reducible rfl)));(try simp only [ah,ak,au,ay,aA])))
  all_goals go_ret
  all_goals (refine ⟨dL ?_,hS.below⟩;simp [nM,vC])
 |DW n m h1 h2 h3 h4=>
  have h5:=kW n h1 h2
  have h6:=kW m h3 h4
  have hS:=St.start hl bJ
  go_enter Tryz.uU,Tryz.rV
  go_wp2_with (first|(go_at_call 133;(with_reducible refine (St.call hS fun hl=>ny _ _ HV _ hl).mono ?_);rintro e w ⟨rfl,hS⟩)|((with_reducible refine bI ?_);(first|(refine aG rfl hS rfl rfl ?_;intro g w hS));(try simp only [ah,ak,au,ay,aA]))|((with_reducible refine aC ?_);(first|(refine fD rfl hS rfl rfl (by repeat constructor) ?_)|(refine jY rfl hS rfl rfl (by repeat constructor) ?_));(try simp only [ah,ak,au,ay,aA]))|((with_reducible refine aT ?_);refine bY hS (by kernel_rfl) (by kernel_rfl) ?_)|((with_reducible refine fG ?_);intro w hS)|((with_reducible refine FV ?_);(first|(refine DC rfl rfl rfl rfl (by first|(simp only [List.length_append,List.length_cons,List.length_nil];omega)|fail) (fun _ _ _ h=>h) ?_));(try simp only [ah,ak,au,ay,aA]))|((with_reducible refine gZ ?_);(first|(refine Qo rfl rfl rfl (by repeat constructor) (fun _ _ _ h=>h) ?_)|(refine Qp rfl rfl rfl (by repeat constructor) (fun _ _ _ h=>h) ?_));(try simp only [ah,ak,au,ay,aA]))|((with_reducible refine iI ?_);(first|(refine eu (v:= ?_) (args:= ?_) 83 rfl (fun _ _ _ h=>h) ?_ ?_ ?_;rotate_left 2;(focus ((intro w;go_simp)<;>with_reducible rfl));(focus (intro w hS;refine St.jF hS (fun hl=>qA _ _ (by omega) (by omega)) ?_;with_reducible rfl))));(try simp only [ah,ak,au,ay,aA]))|((with_reducible refine dS ?_);(refine dn (v:= ?_) rfl (fun _ _ _ h=>h) ?_ ?_;rotate_left;(focus ((intro w hS;go_simp)<;>with_reducible rfl)));(try simp only [ah,ak,au,ay,aA])))
  all_goals go_ret
  all_goals (refine ⟨dL ?_,hS.below⟩;simp [nM,Aq])
theorem aa3 (r:Md) (w:World) (hl:Laid w):Calls Tryz.prog 134 #[.agg r.cells] w fun e w'=>e= .returned (.string (B (cu r)))∧Below w.heap.size w w':=by
 cases hv:iM r with
 |false=>rw [Ee hv];exact Zm r (Lib.hid hv.symm) w hl
 |true=>rw [show cu r=nM r from if_pos hv];exact Zn r (wS hv) (Lib.hid hv.symm) w hl
theorem Bg (r:Md) (T:Str) (h:Hid (cu r=T)) (w:World) (hl:Laid w):Calls Tryz.prog 134 #[.agg r.cells] w fun e w'=>e= .returned (.string (B T))∧Below w.heap.size w w':=
 (aa3 r w hl).mono fun e w' h'=>⟨by rw [h'.1,h.out],h'.2⟩
theorem abk (s:Str):kR s 0=(0,s):=rfl
theorem ZH (s:Str):Dz s=if s=pO then some 0 else if dA (kR s 17).1=s then some (kR s 17).1 else none:=rfl
theorem acT:pO=[110,111,110,101]:=rfl
theorem arE (k:Nat) (hk:k≤17):2 ^ k≤131072:=Nat.pow_le_pow_right (n:=2) (by omega) hk
attribute [local irreducible] kR dA Dz
theorem KD (s:Str) (hs:s.length<100000000) (w0:World) (hl:Laid w0):Calls Tryz.prog 294 #[.string (B s)] w0 fun e w'=>e= .returned (.tuple #[.int .i64 (pF (Dz s)), .int .i64 (Kt (Dz s))])∧Below w0.heap.size w0 w':=by
 obtain ⟨R,hR⟩:∃R,Dz s=R:=⟨_,rfl⟩
 rw [hR]
 have HR:=Lib.hid hR
 clear hR
 have hS:=St.start hl bJ
 by_cases hn:s=[110,111,110,101]
 ·obtain rfl:R=some 0:=by
   have h:=HR.out;rw [ZH,acT,if_pos hn] at h;exact h.symm
  subst hn
  clear HR
  go_enter Tryz.ani,Tryz.akb
  go_wp2_with (first|fail)
  go_ret2
  exact ⟨rfl,hS.below⟩
 ·have HR2:Hid ((if dA (kR s 17).1=s then some (kR s 17).1 else none)=R):=by
   have h:=HR.out;rw [ZH,acT,if_neg hn] at h;exact Lib.hid h
  have hn1:(s==[110,111,110,101])=false:=by simpa using hn
  clear HR hn
  go_enter Tryz.ani,Tryz.akb
  go_wp2_with (first|fail)
  go_loopw [4,5,6,7] (fun mv bv rv iv wr=>∃(k M b:Nat) (r:Str),k≤17∧M≤131072∧b≤131072∧r.length<100000000∧mv= .int .i64 M∧bv= .int .i64 b∧rv= .string (B r)∧iv= .int .i64 k∧Hid (b=2 ^ k)∧Hid (kR s k=(M,r))∧Hid (St Laid w0 [] wr)) (fun _ _ _ iv _=>17 - (intOf iv).toNat)
  case atStart=>exact ⟨0,0,1,s,by omega,by omega,by omega,hs,rfl,rfl,rfl,rfl,Lib.hid rfl,Lib.hid (abk s),Lib.hid hS⟩
  case round=>
   clear hS
   obtain ⟨k,M,b,r,hk,hM,hb,hr,rfl,rfl,rfl,rfl,HB,HF,HS⟩:=hrel
   have hS:=HS.out
   clear HS
   by_cases hlt:k<17
   ·have hst:=EY s k
    rw [HF.out] at hst
    have hw:=alG ⟨k,hlt⟩
    simp only at hw
    have hh:Es r k=(Lib.hasPrefix r (wd bK k)&&(r.length==(wd bK k).length || r.getD (wd bK k).length 0==43)):=rfl
    unfold KJ at hst
    simp only at hst
    rw [hh] at hst
    clear hh
    generalize hW:wd bK k=W at *
    have HW:=Lib.hid hW
    clear hW
    have HB2:Hid (b * 2=2 ^ (k+1)):=Lib.hid (by rw [HB.out,Nat.pow_succ])
    have hbk:b≤65536:=by rw [HB.out];exact Nat.pow_le_pow_right (n:=2) (by omega) (by omega:k≤16)
    have hMb:M+b≤131072:=by
     have:=(ZI s k).1
     rw [HF.out] at this
     simp only at this
     have h2:2 ^ k+2 ^ k≤131072:=by rw [←Nat.two_mul,Nat.mul_comm,←Nat.pow_succ];exact arE _ (by omega)
     rw [HB.out];omega
    have hx1:(B r).extract 0 W.length=B (r.take W.length):=lD (by rw [dM,cO,cO];simp)
    have hx2:(B r).extract W.length r.length=B (r.drop W.length):=lD (by rw [dM,cO,cO,List.take_of_length_le (Nat.le_refl _)])
    have hsz:(B r).size=r.length:=bC r
    by_cases hn1:W.length≤r.length
    ·by_cases hp:r.take W.length=W
     ·have hpre:Lib.hasPrefix r W=true:=by unfold Lib.hasPrefix;exact List.isPrefixOf_iff_prefix.2 ⟨r.drop W.length,by conv=>rhs;rw [←List.take_append_drop W.length r,hp]⟩
      have hp1:(r.take W.length==W)=true:=by simpa using hp
      rw [hpre,Bool.true_and] at hst
      by_cases hl1:r.length=W.length
      ·have hl2:((r.length:Int)==(W.length:Int))=true:=by simp [hl1]
       have HN:Hid (kR s (k+1)=(M+b,[])):=by
        refine Lib.hid ?_
        rw [hst,if_pos (by simp [hl1]),HB.out,List.drop_eq_nil_of_le (show r.length≤W.length by omega)];rfl
       have hd:r.drop W.length=[]:=List.drop_eq_nil_of_le (by omega)
       rw [hd] at hx2
       clear hst hpre hp hd HB HF
       go_wp2_with (first|(go_at_call 159;(with_reducible refine (St.call hS fun hl=>qU k hlt _ HW _).mono ?_);rintro e w ⟨rfl,hS⟩)|((with_reducible refine aT ?_);refine bY hS (by kernel_rfl) (by kernel_rfl) ?_)|((with_reducible refine fG ?_);intro w hS)|((with_reducible refine wW ?_);(first|(refine uw rfl (fun _ _ _ h=>h) ?_));(try simp only [ah,ak,au,ay,aA]))|((with_reducible refine iI ?_);(first|(refine eu (v:= ?_) (args:= ?_) 159 rfl (fun _ _ _ h=>h) ?_ ?_ ?_;rotate_left 2;(focus ((intro w;go_simp)<;>with_reducible rfl));(focus (intro w hS;refine St.jF hS (fun hl=>qU k hlt _ HW _) ?_;with_reducible rfl))));(try simp only [ah,ak,au,ay,aA]))|((with_reducible refine dS ?_);(refine dn (v:= ?_) rfl (fun _ _ _ h=>h) ?_ ?_;rotate_left;(focus ((intro w hS;go_simp)<;>with_reducible rfl)));(try simp only [ah,ak,au,ay,aA])))
       go_roundw
       case rel=>exact ⟨k+1,M+b,b * 2,[],by omega,by omega,by omega,by simp,by go_num,by go_num,rfl,by go_num,HB2,HN,Lib.hid hS⟩
       case measure=>simp [intOf];omega
      ·have hlt2:W.length<r.length:=by omega
       have hl2:((r.length:Int)==(W.length:Int))=false:=by simp;omega
       have hg:=jo (B r)
       rw [cO] at hg
       have hby:aI r W.length=(r.getD W.length 0).toNat:=rfl
       by_cases hc:r.getD W.length 0=43
       ·rw [hc] at hby hst
        have aua:aI r W.length=43:=hby
        have hdl:(r.drop W.length).length=r.length - W.length:=List.length_drop
        have hd0:(r.drop W.length==[])=false:=by
         rw [beq_eq_false_iff_ne];intro e;rw [e] at hdl;simp at hdl;omega
        have hx3:(B (r.drop W.length)).extract 1 (r.drop W.length).length=B ((r.drop W.length).drop 1):=lD (by rw [dM,cO,cO,List.take_of_length_le (Nat.le_refl _)])
        have hsz2:(B (r.drop W.length)).size=(r.drop W.length).length:=bC _
        have HN:Hid (kR s (k+1)=(M+b,(r.drop W.length).drop 1)):=by
         refine Lib.hid ?_
         rw [hst,if_pos (by simp),HB.out]
        clear hst hpre hp hby HB HF
        generalize r.drop W.length=q at *
        have hx4:(B q).extract 1 (r.length - W.length)=B (q.drop 1):=by rw [←hdl];exact hx3
        go_wp2_with (first|(go_at_call 159;(with_reducible refine (St.call hS fun hl=>qU k hlt _ HW _).mono ?_);rintro e w ⟨rfl,hS⟩)|((with_reducible refine aT ?_);refine bY hS (by kernel_rfl) (by kernel_rfl) ?_)|((with_reducible refine fG ?_);intro w hS)|((with_reducible refine iI ?_);(first|(refine eu (v:= ?_) (args:= ?_) 159 rfl (fun _ _ _ h=>h) ?_ ?_ ?_;rotate_left 2;(focus ((intro w;go_simp)<;>with_reducible rfl));(focus (intro w hS;refine St.jF hS (fun hl=>qU k hlt _ HW _) ?_;with_reducible rfl))));(try simp only [ah,ak,au,ay,aA]))|((with_reducible refine dS ?_);(refine dn (v:= ?_) rfl (fun _ _ _ h=>h) ?_ ?_;rotate_left;(focus ((intro w hS;go_simp)<;>with_reducible rfl)));(try simp only [ah,ak,au,ay,aA])))
        go_roundw
        case rel=>exact ⟨k+1,M+b,b * 2,q.drop 1,by omega,by omega,by omega,by simp;omega,by go_num,by go_num,by simp,by go_num,HB2,HN,Lib.hid hS⟩
        case measure=>simp [intOf];omega
       ·have aua:¬aI r W.length=43:=by
         rw [hby];intro e;exact hc (UInt8.toNat_inj.1 e)
        have HN:Hid (kR s (k+1)=(M,r)):=by
         refine Lib.hid ?_
         have e1:(r.length==W.length)=false:=by simpa using hl1
         have e2:(r.getD W.length 0==43)=false:=by simpa using hc
         rw [hst,e1,e2,if_neg (by decide)]
        clear hst hpre hp hby hc HB HF
        go_wp2_with (first|(go_at_call 159;(with_reducible refine (St.call hS fun hl=>qU k hlt _ HW _).mono ?_);rintro e w ⟨rfl,hS⟩)|((with_reducible refine aT ?_);refine bY hS (by kernel_rfl) (by kernel_rfl) ?_)|((with_reducible refine fG ?_);intro w hS)|((with_reducible refine iI ?_);(first|(refine eu (v:= ?_) (args:= ?_) 159 rfl (fun _ _ _ h=>h) ?_ ?_ ?_;rotate_left 2;(focus ((intro w;go_simp)<;>with_reducible rfl));(focus (intro w hS;refine St.jF hS (fun hl=>qU k hlt _ HW _) ?_;with_reducible rfl))));(try simp only [ah,ak,au,ay,aA]))|((with_reducible refine dS ?_);(refine dn (v:= ?_) rfl (fun _ _ _ h=>h) ?_ ?_;rotate_left;(focus ((intro w hS;go_simp)<;>with_reducible rfl)));(try simp only [ah,ak,au,ay,aA])))
        go_roundw
        case rel=>exact ⟨k+1,M,b * 2,r,by omega,by omega,by omega,hr,rfl,by go_num,rfl,by go_num,HB2,HN,Lib.hid hS⟩
        case measure=>simp [intOf];omega
     ·have hp1:(r.take W.length==W)=false:=by simpa using hp
      have hpre:Lib.hasPrefix r W=false:=by
       cases hb:Lib.hasPrefix r W with
       |false=>rfl
       |true=>
        unfold Lib.hasPrefix at hb
        obtain ⟨t,ht⟩:=List.isPrefixOf_iff_prefix.1 hb
        exact absurd (by rw [←ht];simp) hp
      have HN:Hid (kR s (k+1)=(M,r)):=by
       refine Lib.hid ?_
       rw [hst,hpre,Bool.false_and,if_neg (by decide)]
      clear hst hpre hp HB HF
      go_wp2_with (first|(go_at_call 159;(with_reducible refine (St.call hS fun hl=>qU k hlt _ HW _).mono ?_);rintro e w ⟨rfl,hS⟩)|((with_reducible refine aT ?_);refine bY hS (by kernel_rfl) (by kernel_rfl) ?_)|((with_reducible refine fG ?_);intro w hS)|((with_reducible refine wW ?_);(first|(refine uw rfl (fun _ _ _ h=>h) ?_));(try simp only [ah,ak,au,ay,aA]))|((with_reducible refine iI ?_);(first|(refine eu (v:= ?_) (args:= ?_) 159 rfl (fun _ _ _ h=>h) ?_ ?_ ?_;rotate_left 2;(focus ((intro w;go_simp)<;>with_reducible rfl));(focus (intro w hS;refine St.jF hS (fun hl=>qU k hlt _ HW _) ?_;with_reducible rfl))));(try simp only [ah,ak,au,ay,aA]))|((with_reducible refine dS ?_);(refine dn (v:= ?_) rfl (fun _ _ _ h=>h) ?_ ?_;rotate_left;(focus ((intro w hS;go_simp)<;>with_reducible rfl)));(try simp only [ah,ak,au,ay,aA])))
      go_roundw
      case rel=>exact ⟨k+1,M,b * 2,r,by omega,by omega,by omega,hr,rfl,by go_num,rfl,by go_num,HB2,HN,Lib.hid hS⟩
      case measure=>simp [intOf];omega
    ·have hpre:Lib.hasPrefix r W=false:=by
      cases hb:Lib.hasPrefix r W with
      |false=>rfl
      |true=>
       unfold Lib.hasPrefix at hb
       obtain ⟨t,ht⟩:=List.isPrefixOf_iff_prefix.1 hb
       exact absurd (by rw [←ht];simp) hn1
     have HN:Hid (kR s (k+1)=(M,r)):=by
      refine Lib.hid ?_
      rw [hst,hpre,Bool.false_and,if_neg (by decide)]
     have hn2:r.length<W.length:=by omega
     clear hst hpre HB HF
     go_wp2_with (first|(go_at_call 159;(with_reducible refine (St.call hS fun hl=>qU k hlt _ HW _).mono ?_);rintro e w ⟨rfl,hS⟩)|((with_reducible refine aT ?_);refine bY hS (by kernel_rfl) (by kernel_rfl) ?_)|((with_reducible refine fG ?_);intro w hS)|((with_reducible refine wW ?_);(first|(refine uw rfl (fun _ _ _ h=>h) ?_));(try simp only [ah,ak,au,ay,aA]))|((with_reducible refine dS ?_);(refine dn (v:= ?_) rfl (fun _ _ _ h=>h) ?_ ?_;rotate_left;(focus ((intro w hS;go_simp)<;>with_reducible rfl)));(try simp only [ah,ak,au,ay,aA])))
     go_roundw
     case rel=>exact ⟨k+1,M,b * 2,r,by omega,by omega,by omega,hr,rfl,by go_num,rfl,by go_num,HB2,HN,Lib.hid hS⟩
     case measure=>simp [intOf];omega
   ·obtain rfl:k=17:=by omega
    have hlen:=(ZI s 17).1
    rw [HF.out] at hlen HR2
    simp only at hlen HR2
    obtain ⟨T,hT⟩:∃T,dA M=T:=⟨_,rfl⟩
    rw [hT] at HR2
    have HT:=Lib.hid hT
    clear hT HF HB
    by_cases hx:T=s
    ·subst hx
     obtain rfl:some M=R:=by rw [←HR2.out,if_pos rfl]
     clear HR2
     have ht:(T==T)=true:=by simp
     go_wp2_with (first|(go_at_call 229;(with_reducible refine (St.call hS fun hl=>Zx M hlen _ HT _ hl).mono ?_);rintro e w ⟨rfl,hS⟩))
     go_ret2
     exact ⟨rfl,hS.below⟩
    ·obtain rfl:none=R:=by rw [←HR2.out,if_neg hx]
     have ht:(T==s)=false:=by simpa using hx
     clear HR2 hx
     go_wp2_with (first|(go_at_call 229;(with_reducible refine (St.call hS fun hl=>Zx M hlen _ HT _ hl).mono ?_);rintro e w ⟨rfl,hS⟩))
     go_ret2
     exact ⟨rfl,hS.below⟩
end Go.Proofs.YtdnnkgkondkhfaaGreatDoor
namespace Go.Proofs.YtdnnkgkondkhfaaGreatDoor
attribute [local irreducible] wpList Code.wp Calls
open Go.ChangeShapes Go.WideShapes Go.RowKit
theorem Zj (s b:ByteArray) (w:World) (hs:s.size<1000000000) (hb:b.size<1000000000):
 Calls Tryz.prog 291 #[.string s, .string b] w fun e w'=>e= .returned (aff (iF (L s) (L b)))∧w=w':=by
 have hq:=Vp s b
 generalize iF (L s) (L b)=R at *
 by_cases h1:b.size≤s.size
 ·rw [decide_eq_true h1,Bool.true_and] at hq
  have h1':¬s.size<b.size:=by omega
  cases h2:((s.extract 0 b.size).toList==b.toList)
  ·rw [h2] at hq
   have HQ:Hid (R=none):=Lib.hid hq
   have t2:(!(s.extract 0 b.size).toList==b.toList)=true:=by rw [h2];rfl
   clear hq
   go_enter Tryz.acg,Tryz.YK
   go_wp2
   go_ret2
   exact ⟨ret_val (by rw [HQ.out];rfl),rfl⟩
  ·rw [h2] at hq
   have HQ:Hid (R=some ((L s).drop b.size)):=Lib.hid hq
   have t2:(!(s.extract 0 b.size).toList==b.toList)=false:=by rw [h2];rfl
   have HX:Hid (s.extract b.size s.size=B ((L s).drop b.size)):=Lib.hid (lD (by rw [dM,cO,List.take_of_length_le (by rw [dN];exact Nat.le_refl _)]))
   clear hq
   go_enter Tryz.acg,Tryz.YK
   go_wp2
   go_ret2
   exact ⟨ret_val (by rw [HQ.out,HX.out];rfl),rfl⟩
 ·have HQ:Hid (R=none):=Lib.hid (by rw [hq,decide_eq_false h1];rfl)
  have h1':s.size<b.size:=by omega
  clear hq
  go_enter Tryz.acg,Tryz.YK
  go_wp2
  go_ret2
  exact ⟨ret_val (by rw [HQ.out];rfl),rfl⟩
def tu (s p:Str):Str:=if Lib.hasPrefix s p=true then s.drop p.length else []
theorem uo (s p:Str) (hs:s.length<1000000000) (hp:p.length<1000000000) (w:World):Calls Tryz.prog 291 #[.string (B s), .string (B p)] w fun e w'=>e= .returned (.tuple #[.string (B (tu s p)), .bool (Lib.hasPrefix s p)])∧w=w':=
 (Zj (B s) (B p) w (by rw [bC];exact hs) (by rw [bC];exact hp)).mono fun e w' h=>⟨h.1.trans (by
  rw [cO,cO];unfold iF tu;cases Lib.hasPrefix s p<;>rfl),h.2⟩
theorem vU (s p:Str):(tu s p).length≤s.length:=by unfold tu;split<;>simp
theorem alR (s:Str) (hs:s.length<1000000000) (w:World):Calls Tryz.prog 291 #[.string (B s), .string ⟨#[116,121,112,101,115,61]⟩] w fun e w'=>e= .returned (.tuple #[.string (B (tu s pTypes)), .bool (Lib.hasPrefix s pTypes)])∧w=w':=uo s pTypes hs (by decide) w
theorem alS (s:Str) (hs:s.length<1000000000) (w:World):Calls Tryz.prog 291 #[.string (B s), .string ⟨#[116,121,112,101,115,43,61]⟩] w fun e w'=>e= .returned (.tuple #[.string (B (tu s wV)), .bool (Lib.hasPrefix s wV)])∧w=w':=uo s wV hs (by decide) w
theorem alT (s:Str) (hs:s.length<1000000000) (w:World):Calls Tryz.prog 291 #[.string (B s), .string ⟨#[115,117,98,61]⟩] w fun e w'=>e= .returned (.tuple #[.string (B (tu s Tm)), .bool (Lib.hasPrefix s Tm)])∧w=w':=uo s Tm hs (by decide) w
theorem alU (s:Str) (hs:s.length<1000000000) (w:World):Calls Tryz.prog 291 #[.string (B s), .string ⟨#[115,117,98,43,61]⟩] w fun e w'=>e= .returned (.tuple #[.string (B (tu s LY)), .bool (Lib.hasPrefix s LY)])∧w=w':=uo s LY hs (by decide) w
theorem alV (s:Str) (hs:s.length<1000000000) (w:World):Calls Tryz.prog 291 #[.string (B s), .string ⟨#[99,111,108,111,114,115,61]⟩] w fun e w'=>e= .returned (.tuple #[.string (B (tu s yU)), .bool (Lib.hasPrefix s yU)])∧w=w':=uo s yU hs (by decide) w
theorem alW (s:Str) (hs:s.length<1000000000) (w:World):Calls Tryz.prog 291 #[.string (B s), .string ⟨#[99,111,108,111,114,115,43,61]⟩] w fun e w'=>e= .returned (.tuple #[.string (B (tu s wB)), .bool (Lib.hasPrefix s wB)])∧w=w':=uo s wB hs (by decide) w
theorem alX (s:Str) (hs:s.length<1000000000) (w:World):Calls Tryz.prog 291 #[.string (B s), .string ⟨#[107,101,121,115,43,61]⟩] w fun e w'=>e= .returned (.tuple #[.string (B (tu s Ag)), .bool (Lib.hasPrefix s Ag)])∧w=w':=uo s Ag hs (by decide) w
theorem alY (s:Str) (hs:s.length<1000000000) (w:World):Calls Tryz.prog 291 #[.string (B s), .string ⟨#[107,101,121,115,45,61]⟩] w fun e w'=>e= .returned (.tuple #[.string (B (tu s Af)), .bool (Lib.hasPrefix s Af)])∧w=w':=uo s Af hs (by decide) w
theorem alZ (s:Str) (hs:s.length<1000000000) (w:World) (x:Str) (hx:Hid (tu s qR=x)):Calls Tryz.prog 291 #[.string (B s), .string ⟨#[112,116,61,99,111,117,110,116,40]⟩] w fun e w'=>e= .returned (.tuple #[.string (B x), .bool (Lib.hasPrefix s qR)])∧w=w':=hx.out ▸ uo s qR hs (by decide) w
theorem ahL (s:Str) (hs:s.length<1000000000) (w:World):Calls Tryz.prog 291 #[.string (B s), .string ⟨#[112,116,61]⟩] w fun e w'=>e= .returned (.tuple #[.string (B (tu s Ei)), .bool (Lib.hasPrefix s Ei)])∧w=w':=uo s Ei hs (by decide) w
theorem ahM (s:Str) (hs:s.length<1000000000) (w:World):Calls Tryz.prog 291 #[.string (B s), .string ⟨#[112,116,43,61]⟩] w fun e w'=>e= .returned (.tuple #[.string (B (tu s OA)), .bool (Lib.hasPrefix s OA)])∧w=w':=uo s OA hs (by decide) w
theorem ahQ (x:Str) (hx:x.length<100000000) (w:World):Calls Tryz.prog 202 #[.string (B x)] w fun e w'=>e= .returned (.tuple #[.int .i64 ((rdNum x).getD 0), .bool (rdNum x).isSome])∧Below w.heap.size w w':=
 (zL (B x) w (by rw [bC];exact hx)).mono fun e w' ⟨he,hb⟩=>⟨he.trans (by rw [cO,Vf]),hb⟩
theorem akv (x:Str) (hx:x.length<100000000) (w:World):Calls Tryz.prog 72 #[.string (B x)] w fun e w'=>e= .returned (.tuple #[.agg (aH.cells ((bW x).getD zeroF)), .int .i64 (JK (bW x))])∧Below w.heap.size w w':=
 (Ih (B x) w (by rw [bC];exact hx)).mono fun e w' ⟨he,hb⟩=>⟨he.trans (by rw [cO,KA,UR]),hb⟩
theorem QD:pTypes.length=6:=rfl
theorem Ns:wV.length=7:=rfl
theorem YT:Tm.length=4:=rfl
theorem Vl:LY.length=5:=rfl
theorem Nr:yU.length=7:=rfl
theorem Kw:wB.length=8:=rfl
theorem QC:Ag.length=6:=rfl
theorem QB:Af.length=6:=rfl
theorem QA:qR.length=9:=rfl
theorem acM:Ei.length=3:=rfl
theorem YS:OA.length=4:=rfl
theorem af8 (s:Str) (k:Nat) (hk:k<s.length) (hn:(47:UInt8)∉s.take k) (hc:aI s k=47):(47:UInt8)∈s∧cutAt 47 s=(s.take k,s.drop (k+1)):=by
 have hg:s[k]=47:=by
  have:aI s k=(s[k]).toNat:=by simp [aI,List.getD,hk]
  rw [this] at hc
  exact UInt8.toNat_inj.1 hc
 have e:s=s.take k++47::s.drop (k+1):=by
  rw [←hg,←List.drop_eq_getElem_cons hk,List.take_append_drop]
 refine ⟨by rw [e];simp,?_⟩
 conv=>lhs;rw [e]
 exact Cj 47 _ _ hn
theorem aoK (s:Str) (k:Nat) (hk:k<s.length) (hn:(47:UInt8)∉s.take k) (hc:¬aI s k=47):(47:UInt8)∉s.take (k+1):=by
 have hb:aI s k=(s[k]).toNat:=by simp [aI,List.getD,hk]
 rw [List.take_succ,List.getElem?_eq_getElem hk]
 intro h
 rcases List.mem_append.1 h with h|h
 ·exact hn h
 ·simp at h;exact hc (by rw [hb,←h];rfl)
theorem zK (K:Int) (s:Str) (hs:s.length<100000000) (w0:World) (hl:Laid w0):Calls Tryz.prog 295 #[.agg (Md.cells ⟨K,dO.n,dO.m,dO.sub,dO.f⟩), .string (B s)] w0 fun e w'=>e= .returned (.agg (Md.cells (zI K s)))∧Below w0.heap.size w0 w':=by
 obtain ⟨R,hR⟩:∃R,zI K s=R:=⟨_,rfl⟩
 rw [hR]
 have HR:=Lib.hid hR
 clear hR
 have hS:=St.start hl bJ
 go_enter Tryz.awJ,Tryz.avm
 go_wp2_with (first|((with_reducible refine bI ?_);(first|(refine aG rfl hS rfl rfl ?_;intro g w hS));(try simp only [ah,ak,au,ay,aA]))|((with_reducible refine aW ?_);(first|(refine aJ 84 rfl hS rfl _ jg ?_;intro g w hS));(try simp only [ah,ak,au,ay,aA])))
 obtain ⟨rows,hrows,hS⟩:∃rows,rows=[(g,dO.cells,iy),(_,Md.cells ⟨K,dO.n,dO.m,dO.sub,dO.f⟩,iy)]∧St Laid w0 rows w:=⟨_,rfl,hS⟩
 have HRW:=Lib.hid hrows
 clear hrows
 have hsz:(B s).size=s.length:=bC s
 have hgt:=jo (B s)
 rw [cO] at hgt
 go_loopw [5] (fun iv wr=>∃k:Nat,k≤s.length∧iv= .int .i64 k∧Hid ((47:UInt8)∉s.take k)∧Hid (St Laid w0 rows wr)) (fun iv _=>s.length - (intOf iv).toNat)
 case atStart=>exact ⟨0,by omega,rfl,Lib.hid (by simp),Lib.hid hS⟩
 case round=>
  clear hS
  obtain ⟨k,hk,rfl,HN,HS⟩:=hrel
  have hS:=HS.out
  rw [HRW.out] at hS
  clear HS
  by_cases hlt:k<s.length
  ·by_cases hc:aI s k=47
   ·obtain ⟨h1,h2⟩:=af8 s k hlt HN.out hc
    have HE:Hid (R=⟨K,(rdNum (s.take k)).getD 0,(rdNum (s.drop (k+1))).getD 0,⟨#[]⟩,zeroF⟩):=Lib.hid (by rw [←HR.out];unfold zI;rw [if_pos h1,h2])
    clear h1 h2 HN
    have hx1:(B s).extract 0 k=B (s.take k):=lD (by rw [dM,cO,cO];simp)
    have hx2:(B s).extract (k+1) s.length=B (s.drop (k+1)):=lD (by rw [dM,cO,cO,List.take_of_length_le (Nat.le_refl _)])
    go_wp2_with (first|(go_at_call 202;(with_reducible refine (St.call hS fun hl=>ahQ _ (by simp;omega) _).mono ?_);rintro e w ⟨rfl,hS⟩)|((with_reducible refine aC ?_);(first|(refine fD rfl hS rfl rfl (by repeat constructor) ?_));(try simp only [ah,ak,au,ay,aA]))|((with_reducible refine aN ?_);(first|(refine jO rfl hS rfl rfl rfl (by repeat constructor) ?_;intro w hS)|(refine Qq rfl hS rfl rfl rfl (by repeat constructor) ?_;intro w hS)|(refine ag3 rfl hS rfl rfl rfl (by repeat constructor) ?_;intro w hS));(try simp only [ah,ak,au,ay,aA])))
    all_goals (refine Ad hS rfl rfl (by repeat constructor) rfl (fun hb=>⟨kX (f:=Md.cells) ?_,hb⟩))
    all_goals (rw [HE.out];rfl)
   ·have Ji:=Lib.hid (aoK s k hlt HN.out hc)
    clear HN
    go_wp2_with (first|fail)
    go_roundw
    case rel=>exact ⟨k+1,by omega,by go_num,Ji,Lib.hid (by rw [HRW.out];exact hS)⟩
    case measure=>simp [intOf];omega
  ·obtain rfl:k=s.length:=by omega
   have HE:Hid (R=⟨K,0,0,⟨#[]⟩,zeroF⟩):=Lib.hid (by
    have:=HN.out
    rw [List.take_length] at this
    rw [←HR.out];unfold zI;rw [if_neg this])
   go_wp2_with (first|((with_reducible refine aC ?_);(first|(refine fD rfl hS rfl rfl (by repeat constructor) ?_));(try simp only [ah,ak,au,ay,aA]))|((with_reducible refine aN ?_);(first|(refine jO rfl hS rfl rfl rfl (by repeat constructor) ?_;intro w hS));(try simp only [ah,ak,au,ay,aA])))
   all_goals (refine Ad hS rfl rfl (by repeat constructor) rfl (fun hb=>⟨kX (f:=Md.cells) ?_,hb⟩))
   all_goals (rw [HE.out];rfl)
theorem Zi (x:Str) (w:World) (hl:Laid w):Calls Tryz.prog 292 #[.string (B x)] w fun e w'=>e= .returned (.tuple #[.int .i64 (pF (Nv x)), .int .i64 (Kt (Nv x))])∧Below w.heap.size w w':=MC x w hl
theorem Zk (s:Str) (hs:s.length<100000000) (w:World) (hl:Laid w):Calls Tryz.prog 248 #[.string (B s)] w fun e w'=>e= .returned (.agg (Md.cells (jf s)))∧Below w.heap.size w w':=by
 have hl1:=vU s pTypes
 have hl2:=vU s wV
 have hl3:=vU s Ag
 have hl4:=vU s Af
 have hl5:=vU s Ei
 have hl6:=vU s OA
 have hl7:=vU s qR
 obtain ⟨X,hX⟩:∃X,tu s qR=X:=⟨_,rfl⟩
 rw [hX] at hl7
 have HX:=Lib.hid hX
 clear hX
 have hS:=St.start hl bJ
 by_cases hX0:X=[]
 ·subst hX0
  go_enter Tryz.anf,Tryz.aj7
  go_wp2_with (first|((first|(with_reducible refine aB ?_)|(with_reducible refine aT ?_));(have hq:=str_eq (by assumption);subst hq))|(go_at_call 291;(with_reducible refine (St.still hS fun hl=>alR s (by omega) _).mono ?_);rintro e w ⟨rfl,hS⟩)|(go_at_call 291;(with_reducible refine (St.still hS fun hl=>alS s (by omega) _).mono ?_);rintro e w ⟨rfl,hS⟩)|(go_at_call 291;(with_reducible refine (St.still hS fun hl=>alT s (by omega) _).mono ?_);rintro e w ⟨rfl,hS⟩)|(go_at_call 291;(with_reducible refine (St.still hS fun hl=>alU s (by omega) _).mono ?_);rintro e w ⟨rfl,hS⟩)|(go_at_call 291;(with_reducible refine (St.still hS fun hl=>alV s (by omega) _).mono ?_);rintro e w ⟨rfl,hS⟩)|(go_at_call 291;(with_reducible refine (St.still hS fun hl=>alW s (by omega) _).mono ?_);rintro e w ⟨rfl,hS⟩)|(go_at_call 291;(with_reducible refine (St.still hS fun hl=>alX s (by omega) _).mono ?_);rintro e w ⟨rfl,hS⟩)|(go_at_call 291;(with_reducible refine (St.still hS fun hl=>alY s (by omega) _).mono ?_);rintro e w ⟨rfl,hS⟩)|(go_at_call 291;(with_reducible refine (St.still hS fun hl=>alZ s (by omega) _ _ HX).mono ?_);rintro e w ⟨rfl,hS⟩)|(go_at_call 291;(with_reducible refine (St.still hS fun hl=>ahL s (by omega) _).mono ?_);rintro e w ⟨rfl,hS⟩)|(go_at_call 291;(with_reducible refine (St.still hS fun hl=>ahM s (by omega) _).mono ?_);rintro e w ⟨rfl,hS⟩)|(go_at_call 292;(with_reducible refine (St.call hS fun hl=>Zi _ _ hl).mono ?_);rintro e w ⟨rfl,hS⟩)|(go_at_call 293;(with_reducible refine (St.call hS fun hl=>KC _ _ hl).mono ?_);rintro e w ⟨rfl,hS⟩)|(go_at_call 294;(with_reducible refine (St.call hS fun hl=>KD _ (by omega) _ hl).mono ?_);rintro e w ⟨rfl,hS⟩)|(go_at_call 295;(with_reducible refine (St.call hS fun hl=>zK 12 _ (by omega) _ hl).mono ?_);rintro e w ⟨rfl,hS⟩)|(go_at_call 295;(with_reducible refine (St.call hS fun hl=>zK 13 _ (by omega) _ hl).mono ?_);rintro e w ⟨rfl,hS⟩)|((with_reducible refine bG ?_);(first|(refine aS rfl ?_));(try simp only [ah,ak,au,ay,aA]))|((with_reducible refine aW ?_);(first|(refine aJ 84 rfl hS rfl _ jg ?_;intro g w hS));(try simp only [ah,ak,au,ay,aA]))|((with_reducible refine uh ?_);refine yQ rfl ?_;(try simp only [ah,ak,au,ay,aA]))|((with_reducible refine AY ?_);refine Ho rfl rfl ?_;(try simp only [ah,ak,au,ay,aA]))|((with_reducible refine J6 ?_);refine Ql rfl rfl rfl ?_;(try simp only [ah,ak,au,ay,aA]))|((with_reducible refine J7 ?_);refine Qm rfl rfl rfl ?_;(try simp only [ah,ak,au,ay,aA]))|((with_reducible refine aN ?_);(first|(refine jO rfl hS rfl rfl rfl (by repeat constructor) ?_;intro w hS));(try simp only [ah,ak,au,ay,aA])))
  all_goals (refine Ad hS rfl rfl (by repeat constructor) rfl (fun hb=>⟨kX (f:=Md.cells) ?_,hb⟩))
  all_goals (have hx:=HX.out;clear hS hl;simp_all [jf,tu,dO,vV,Cb,zq,QD,Ns,YT,Vl,Nr,Kw,QC,QB,QA,acM,YS])
 ·have hX1:(X==[])=false:=by simpa using hX0
  have hX2:1≤X.length:=List.length_pos_iff.2 hX0
  have hx9:(B X).extract 0 (X.length - 1)=B (X.take (X.length - 1)):=lD (by rw [dM,cO,cO];simp)
  have ax5:(B X).size=X.length:=bC X
  go_enter Tryz.anf,Tryz.aj7
  go_wp2_with (first|((first|(with_reducible refine aB ?_)|(with_reducible refine aT ?_));(have hq:=str_eq (by assumption);subst hq))|(go_at_call 291;(with_reducible refine (St.still hS fun hl=>alR s (by omega) _).mono ?_);rintro e w ⟨rfl,hS⟩)|(go_at_call 291;(with_reducible refine (St.still hS fun hl=>alS s (by omega) _).mono ?_);rintro e w ⟨rfl,hS⟩)|(go_at_call 291;(with_reducible refine (St.still hS fun hl=>alT s (by omega) _).mono ?_);rintro e w ⟨rfl,hS⟩)|(go_at_call 291;(with_reducible refine (St.still hS fun hl=>alU s (by omega) _).mono ?_);rintro e w ⟨rfl,hS⟩)|(go_at_call 291;(with_reducible refine (St.still hS fun hl=>alV s (by omega) _).mono ?_);rintro e w ⟨rfl,hS⟩)|(go_at_call 291;(with_reducible refine (St.still hS fun hl=>alW s (by omega) _).mono ?_);rintro e w ⟨rfl,hS⟩)|(go_at_call 291;(with_reducible refine (St.still hS fun hl=>alX s (by omega) _).mono ?_);rintro e w ⟨rfl,hS⟩)|(go_at_call 291;(with_reducible refine (St.still hS fun hl=>alY s (by omega) _).mono ?_);rintro e w ⟨rfl,hS⟩)|(go_at_call 291;(with_reducible refine (St.still hS fun hl=>alZ s (by omega) _ _ HX).mono ?_);rintro e w ⟨rfl,hS⟩)|(go_at_call 291;(with_reducible refine (St.still hS fun hl=>ahL s (by omega) _).mono ?_);rintro e w ⟨rfl,hS⟩)|(go_at_call 291;(with_reducible refine (St.still hS fun hl=>ahM s (by omega) _).mono ?_);rintro e w ⟨rfl,hS⟩)|(go_at_call 292;(with_reducible refine (St.call hS fun hl=>Zi _ _ hl).mono ?_);rintro e w ⟨rfl,hS⟩)|(go_at_call 293;(with_reducible refine (St.call hS fun hl=>KC _ _ hl).mono ?_);rintro e w ⟨rfl,hS⟩)|(go_at_call 294;(with_reducible refine (St.call hS fun hl=>KD _ (by omega) _ hl).mono ?_);rintro e w ⟨rfl,hS⟩)|(go_at_call 72;(with_reducible refine (St.call hS fun hl=>akv _ (by simp;omega) _).mono ?_);rintro e w ⟨rfl,hS⟩)|(go_at_call 295;(with_reducible refine (St.call hS fun hl=>zK 12 _ (by omega) _ hl).mono ?_);rintro e w ⟨rfl,hS⟩)|(go_at_call 295;(with_reducible refine (St.call hS fun hl=>zK 13 _ (by omega) _ hl).mono ?_);rintro e w ⟨rfl,hS⟩)|((with_reducible refine bG ?_);(first|(refine aS rfl ?_));(try simp only [ah,ak,au,ay,aA]))|((with_reducible refine aW ?_);(first|(refine aJ 84 rfl hS rfl _ jg ?_;intro g w hS)|(refine aJ 26 rfl hS rfl _ Sj ?_;intro g w hS));(try simp only [ah,ak,au,ay,aA]))|((with_reducible refine uh ?_);refine yQ rfl ?_;(try simp only [ah,ak,au,ay,aA]))|((with_reducible refine AY ?_);refine Ho rfl rfl ?_;(try simp only [ah,ak,au,ay,aA]))|((with_reducible refine J8 ?_);refine Qn rfl rfl rfl ?_;(try simp only [ah,ak,au,ay,aA]))|((with_reducible refine J6 ?_);refine Ql rfl rfl rfl ?_;(try simp only [ah,ak,au,ay,aA]))|((with_reducible refine J7 ?_);refine Qm rfl rfl rfl ?_;(try simp only [ah,ak,au,ay,aA]))|((with_reducible refine aC ?_);(first|(refine Fz rfl hS rfl rfl (by repeat constructor) ?_));(try simp only [ah,ak,au,ay,aA]))|((with_reducible refine aN ?_);(first|(refine jO rfl hS rfl rfl rfl (by repeat constructor) ?_;intro w hS)|(refine Sr rfl hS rfl rfl rfl (by repeat constructor) ?_;intro w hS));(try simp only [ah,ak,au,ay,aA])))
  all_goals (refine Ad hS rfl rfl (by repeat constructor) rfl (fun hb=>⟨kX (f:=Md.cells) ?_,hb⟩))
  all_goals (have hx:=HX.out;clear hS hl;simp_all [jf,tu,dO,vV,Cb,zq,QD,Ns,YT,Vl,Nr,Kw,QC,QB,QA,acM,YS])
end Go.Proofs.YtdnnkgkondkhfaaGreatDoor
