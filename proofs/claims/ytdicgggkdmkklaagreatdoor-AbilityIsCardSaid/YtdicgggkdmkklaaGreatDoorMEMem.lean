/- Plain words: a slice's value. Conditions: none. Plain words on memory: costs and pools. Conditions: none. Plain words on memory: effects' rows; modifications that an effect points to. Conditions: n -/
import Derived.Test.YtdicgggkdmkklaaGreatDoorQ1
import Derived.Test.YtdicgggkdmkklaaGreatDoorQ5
import Derived.Test.YtdicgggkdmkklaaGreatDoorQ7
import Derived.Laws.CopyOwn
import Derived.ChangeKeysEq
set_option linter.all false
set_option maxRecDepth 100000
set_option maxHeartbeats 16000000
namespace Go.Proofs.YtdicgggkdmkklaaGreatDoor
open Go.ChangeShapes Go.WideShapes Go.RowKit
structure Sl where
 a:Option Addr
 n:Nat
 c:Nat
theorem akQ (r:Co):r.cells.all (·.oneCell')=true:=by simp [Co.cells,Value.oneCell']
theorem yt:(Tryz.prog.info? 29).map (·.size)=some 7:=by kernel_rfl
theorem nM:∀w:World,(zeroValue 29).run Tryz.prog w= .ok (.agg (Co.cells dQ)) w:=fun _=>by kernel_rfl
theorem ab7:∀w:World,(Instr.build 29 ([]:List (Nat × Value)).toArray).run Tryz.prog w= .ok (.agg (Co.cells ⟨(dQ).g,(dQ).x,(dQ).c0,(dQ).c1,(dQ).c2,(dQ).c3,(dQ).c4⟩)) w:=fun _=>by kernel_rfl
def oq {ops rest a w Q dst ty pos af gd} (h:wpList Tryz.prog ops Q ((⟨dst, .build 29 #[],ty,pos,af,gd⟩:Oper)::rest) a w):=h
def rF {ops rest} {a:Act} {w Q dst ty pos af gd} hw h:=
 @gQ w ops rest (⟨dst, .build 29 #[],ty,pos,af,gd⟩:Oper) a Q 29 [] rfl hw [] (by simp only [List.map_cons,List.map_nil]) _ (ab7) h
theorem Zj (x0:Int):∀w:World,(Instr.build 29 ([(0, .int .i64 x0)]:List (Nat × Value)).toArray).run Tryz.prog w= .ok (.agg (Co.cells ⟨x0,(dQ).x,(dQ).c0,(dQ).c1,(dQ).c2,(dQ).c3,(dQ).c4⟩)) w:=fun _=>by kernel_rfl
def LH {ops rest a w Q dst ty pos af gd y0} (h:wpList Tryz.prog ops Q ((⟨dst, .build 29 #[(0,y0)],ty,pos,af,gd⟩:Oper)::rest) a w):=h
def Ti {x0:Int} {ops rest} {a:Act} {w Q dst ty pos af gd y0} hw (h0:a.eval y0= .int .i64 x0) h:=
 @gQ w ops rest (⟨dst, .build 29 #[(0,y0)],ty,pos,af,gd⟩:Oper) a Q 29 [(0,y0)] rfl hw [(0, .int .i64 x0)] (by simp only [List.map_cons,List.map_nil,h0]) _ (Zj x0) h
theorem akJ (r:Co):(Co.cells r)[0]? =some (.int .i64 r.g):=rfl
theorem ahN (r:Co) (x:Int):(Co.cells r).toList.take 0++(Value.cells (.int .i64 x)).toList++(Co.cells r).toList.drop (0+(Value.cells (.int .i64 x)).size)=(Co.cells ⟨x,r.x,r.c0,r.c1,r.c2,r.c3,r.c4⟩).toList:=rfl
theorem akK (r:Co):(Co.cells r)[1]? =some (.int .i64 r.x):=rfl
theorem ahO (r:Co) (x:Int):(Co.cells r).toList.take 1++(Value.cells (.int .i64 x)).toList++(Co.cells r).toList.drop (1+(Value.cells (.int .i64 x)).size)=(Co.cells ⟨r.g,x,r.c0,r.c1,r.c2,r.c3,r.c4⟩).toList:=rfl
theorem akL (r:Co):(Co.cells r)[2]? =some (.int .i64 r.c0):=rfl
theorem Wx (r:Co) (x:Int):(Co.cells r).toList.take 2++(Value.cells (.int .i64 x)).toList++(Co.cells r).toList.drop (2+(Value.cells (.int .i64 x)).size)=(Co.cells ⟨r.g,r.x,x,r.c1,r.c2,r.c3,r.c4⟩).toList:=rfl
theorem akM (r:Co):(Co.cells r)[3]? =some (.int .i64 r.c1):=rfl
theorem Wy (r:Co) (x:Int):(Co.cells r).toList.take 3++(Value.cells (.int .i64 x)).toList++(Co.cells r).toList.drop (3+(Value.cells (.int .i64 x)).size)=(Co.cells ⟨r.g,r.x,r.c0,x,r.c2,r.c3,r.c4⟩).toList:=rfl
theorem akN (r:Co):(Co.cells r)[4]? =some (.int .i64 r.c2):=rfl
theorem WA (r:Co) (x:Int):(Co.cells r).toList.take 4++(Value.cells (.int .i64 x)).toList++(Co.cells r).toList.drop (4+(Value.cells (.int .i64 x)).size)=(Co.cells ⟨r.g,r.x,r.c0,r.c1,x,r.c3,r.c4⟩).toList:=rfl
theorem akO (r:Co):(Co.cells r)[5]? =some (.int .i64 r.c3):=rfl
theorem WB (r:Co) (x:Int):(Co.cells r).toList.take 5++(Value.cells (.int .i64 x)).toList++(Co.cells r).toList.drop (5+(Value.cells (.int .i64 x)).size)=(Co.cells ⟨r.g,r.x,r.c0,r.c1,r.c2,x,r.c4⟩).toList:=rfl
theorem akP (r:Co):(Co.cells r)[6]? =some (.int .i64 r.c4):=rfl
theorem WC (r:Co) (x:Int):(Co.cells r).toList.take 6++(Value.cells (.int .i64 x)).toList++(Co.cells r).toList.drop (6+(Value.cells (.int .i64 x)).size)=(Co.cells ⟨r.g,r.x,r.c0,r.c1,r.c2,r.c3,x⟩).toList:=rfl
theorem akR (r x:Co):(Co.cells r).toList.take 0++(Value.cells (.agg (Co.cells x))).toList++(Co.cells r).toList.drop (0+(Value.cells (.agg (Co.cells x))).size)=(Co.cells x).toList:=rfl
def akS {L w0 w rows ops rest o a Q x y} ho hS hw {g} hx {v} hy {r T' rows'} hm h:=
 @bF L w0 w rows ops rest o a Q 3 x y ho hS hw g 0 hx _ hy _ _ T' rows' hm (by exact Nat.le_of_ble_eq_true rfl) (ahN r v) gI (by simp [Value.cells,Value.oneCell']) h
def akT {L w0 w rows ops rest o a Q x y} ho hS hw {g} hx {v} hy {r T' rows'} hm h:=
 @bF L w0 w rows ops rest o a Q 3 x y ho hS hw g 1 hx _ hy _ _ T' rows' hm (by exact Nat.le_of_ble_eq_true rfl) (ahO r v) gI (by simp [Value.cells,Value.oneCell']) h
def akU {L w0 w rows ops rest o a Q x y} ho hS hw {g} hx {v} hy {r T' rows'} hm h:=
 @bF L w0 w rows ops rest o a Q 3 x y ho hS hw g 2 hx _ hy _ _ T' rows' hm (by exact Nat.le_of_ble_eq_true rfl) (Wx r v) gI (by simp [Value.cells,Value.oneCell']) h
def akV {L w0 w rows ops rest o a Q x y} ho hS hw {g} hx {v} hy {r T' rows'} hm h:=
 @bF L w0 w rows ops rest o a Q 3 x y ho hS hw g 3 hx _ hy _ _ T' rows' hm (by exact Nat.le_of_ble_eq_true rfl) (Wy r v) gI (by simp [Value.cells,Value.oneCell']) h
def akW {L w0 w rows ops rest o a Q x y} ho hS hw {g} hx {v} hy {r T' rows'} hm h:=
 @bF L w0 w rows ops rest o a Q 3 x y ho hS hw g 4 hx _ hy _ _ T' rows' hm (by exact Nat.le_of_ble_eq_true rfl) (WA r v) gI (by simp [Value.cells,Value.oneCell']) h
def akX {L w0 w rows ops rest o a Q x y} ho hS hw {g} hx {v} hy {r T' rows'} hm h:=
 @bF L w0 w rows ops rest o a Q 3 x y ho hS hw g 5 hx _ hy _ _ T' rows' hm (by exact Nat.le_of_ble_eq_true rfl) (WB r v) gI (by simp [Value.cells,Value.oneCell']) h
def akY {L w0 w rows ops rest o a Q x y} ho hS hw {g} hx {v} hy {r T' rows'} hm h:=
 @bF L w0 w rows ops rest o a Q 3 x y ho hS hw g 6 hx _ hy _ _ T' rows' hm (by exact Nat.le_of_ble_eq_true rfl) (WC r v) gI (by simp [Value.cells,Value.oneCell']) h
def kG {L w0 w rows ops rest o a Q x y} ho hS hw {g} hx {v} hy {r T' rows'} hm h:=
 @bF L w0 w rows ops rest o a Q 29 x y ho hS hw g 0 hx _ hy _ _ T' rows' hm (by exact Nat.le_of_ble_eq_true rfl) (akR r v) yt (akQ v) h
def uG {L w0 w rows ops rest o a Q x} ho hS hw {g} hx {r T'} hm h:=
 @aQ L w0 w rows ops rest o a Q 3 x ho hS hw g 0 hx _ T' hm kJ _ (akJ r) h
def AY {L w0 w rows ops rest o a Q x} ho hS hw {g} hx {r T'} hm h:=
 @aQ L w0 w rows ops rest o a Q 3 x ho hS hw g 1 hx _ T' hm kJ _ (akK r) h
def QM {L w0 w rows ops rest o a Q x} ho hS hw {g} hx {r T'} hm h:=
 @aQ L w0 w rows ops rest o a Q 3 x ho hS hw g 2 hx _ T' hm kJ _ (akL r) h
def QN {L w0 w rows ops rest o a Q x} ho hS hw {g} hx {r T'} hm h:=
 @aQ L w0 w rows ops rest o a Q 3 x ho hS hw g 3 hx _ T' hm kJ _ (akM r) h
def QO {L w0 w rows ops rest o a Q x} ho hS hw {g} hx {r T'} hm h:=
 @aQ L w0 w rows ops rest o a Q 3 x ho hS hw g 4 hx _ T' hm kJ _ (akN r) h
def QS {L w0 w rows ops rest o a Q x} ho hS hw {g} hx {r T'} hm h:=
 @aQ L w0 w rows ops rest o a Q 3 x ho hS hw g 5 hx _ T' hm kJ _ (akO r) h
def QT {L w0 w rows ops rest o a Q x} ho hS hw {g} hx {r T'} hm h:=
 @aQ L w0 w rows ops rest o a Q 3 x ho hS hw g 6 hx _ T' hm kJ _ (akP r) h
def qK {L w0 w rows ops rest o a Q x} ho hS hw {g} hx {r T'} hm h:=
 @mM L w0 w rows ops rest o a Q 29 x ho hS hw g hx (Co.cells r) T' hm _ Tryz.underlying29 rfl yt h
def aaM {L w0 rows ops rest o a Q x} ho hw {g} hx {r:Co} {T'} hm hq h:=
 @dn L w0 rows ops Q o rest a (.agg (Co.cells r)) hw hq (fun w hS=> @kF L w0 w rows o a hS 29 x ho g 0 hx _ _ T' hm (fun j v hj=>by simpa using hj) _ Tryz.underlying29 rfl yt) h
theorem qB {L:World→Prop} {w0 w:World} {rows:List Row} {a:Act} (hS:St L w0 rows w) {fn:Func} {p q:Tmp} (hf:fn.results= #[.cell p 29, .tmp q]) {g:Nat} (hp:a.tmps.getD p undef= .pointer (some ⟨g,0,none⟩)) {r:Co} {T':Nat} (hm:cZ g (Co.cells r) T' rows) {v:Value} (hq:a.tmps.getD q undef=v) (hdef:a.defers=[]) {R:Ending→World→Prop} (hR:Below w0.heap.size w0 w→R (.returned (.tuple #[.agg (Co.cells r),v])) w):bodyPost Tryz.prog fn R .ret a w:=
 bodyPost_ret ((gV hf a.tmps w g T' (Co.cells r) (0,0) _ hp (hS.row hm) Tryz.underlying29 rfl yt).trans (by rw [hq])) hdef (hR hS.below)
theorem aaL {L:World→Prop} {w0 w:World} {rows:List Row} {a:Act} (hS:St L w0 rows w) {fn:Func} {p:Tmp} (hf:fn.results= #[.cell p 29]) {g:Nat} (hp:a.tmps.getD p undef= .pointer (some ⟨g,0,none⟩)) {r:Co} {T':Nat} (hm:cZ g (Co.cells r) T' rows) (hdef:a.defers=[]) {R:Ending→World→Prop} (hR:Below w0.heap.size w0 w→R (.returned (.agg (Co.cells r))) w):bodyPost Tryz.prog fn R .ret a w:=
 St.result hS hf hp hm Tryz.underlying29 rfl yt hdef hR
theorem abu (r:Po):r.cells.all (·.oneCell')=true:=by simp [Po.cells,Value.oneCell']
theorem vT:(Tryz.prog.info? 65).map (·.size)=some 6:=by kernel_rfl
theorem yI:∀w:World,(zeroValue 65).run Tryz.prog w= .ok (.agg (Po.cells bn)) w:=fun _=>by kernel_rfl
theorem ac9:∀w:World,(Instr.build 65 ([]:List (Nat × Value)).toArray).run Tryz.prog w= .ok (.agg (Po.cells ⟨(bn).g,(bn).c0,(bn).c1,(bn).c2,(bn).c3,(bn).c4⟩)) w:=fun _=>by kernel_rfl
def rO {ops rest a w Q dst ty pos af gd} (h:wpList Tryz.prog ops Q ((⟨dst, .build 65 #[],ty,pos,af,gd⟩:Oper)::rest) a w):=h
def vS {ops rest} {a:Act} {w Q dst ty pos af gd} hw h:=
 @gQ w ops rest (⟨dst, .build 65 #[],ty,pos,af,gd⟩:Oper) a Q 65 [] rfl hw [] (by simp only [List.map_cons,List.map_nil]) _ (ac9) h
theorem ZV (x0:Int):∀w:World,(Instr.build 65 ([(0, .int .i64 x0)]:List (Nat × Value)).toArray).run Tryz.prog w= .ok (.agg (Po.cells ⟨x0,(bn).c0,(bn).c1,(bn).c2,(bn).c3,(bn).c4⟩)) w:=fun _=>by kernel_rfl
def zi {ops rest a w Q dst ty pos af gd y0} (h:wpList Tryz.prog ops Q ((⟨dst, .build 65 #[(0,y0)],ty,pos,af,gd⟩:Oper)::rest) a w):=h
def DV {x0:Int} {ops rest} {a:Act} {w Q dst ty pos af gd y0} hw (h0:a.eval y0= .int .i64 x0) h:=
 @gQ w ops rest (⟨dst, .build 65 #[(0,y0)],ty,pos,af,gd⟩:Oper) a Q 65 [(0,y0)] rfl hw [(0, .int .i64 x0)] (by simp only [List.map_cons,List.map_nil,h0]) _ (ZV x0) h
theorem al2 (r:Po):(Po.cells r)[0]? =some (.int .i64 r.g):=rfl
theorem al3 (r:Po):(Po.cells r)[1]? =some (.int .i64 r.c0):=rfl
theorem al4 (r:Po):(Po.cells r)[2]? =some (.int .i64 r.c1):=rfl
theorem al5 (r:Po):(Po.cells r)[3]? =some (.int .i64 r.c2):=rfl
theorem al6 (r:Po):(Po.cells r)[4]? =some (.int .i64 r.c3):=rfl
theorem al7 (r:Po):(Po.cells r)[5]? =some (.int .i64 r.c4):=rfl
theorem amd (r x:Po):(Po.cells r).toList.take 0++(Value.cells (.agg (Po.cells x))).toList++(Po.cells r).toList.drop (0+(Value.cells (.agg (Po.cells x))).size)=(Po.cells x).toList:=rfl
def yK {L w0 w rows ops rest o a Q x y} ho hS hw {g} hx {v} hy {r T' rows'} hm h:=
 @bF L w0 w rows ops rest o a Q 65 x y ho hS hw g 0 hx _ hy _ _ T' rows' hm (by exact Nat.le_of_ble_eq_true rfl) (amd r v) vT (abu v) h
def abt {L w0 w rows ops rest o a Q x} ho hS hw {g} hx {r T'} hm h:=
 @aQ L w0 w rows ops rest o a Q 3 x ho hS hw g 0 hx _ T' hm kJ _ (al2 r) h
def al8 {L w0 w rows ops rest o a Q x} ho hS hw {g} hx {r T'} hm h:=
 @aQ L w0 w rows ops rest o a Q 3 x ho hS hw g 1 hx _ T' hm kJ _ (al3 r) h
def al9 {L w0 w rows ops rest o a Q x} ho hS hw {g} hx {r T'} hm h:=
 @aQ L w0 w rows ops rest o a Q 3 x ho hS hw g 2 hx _ T' hm kJ _ (al4 r) h
def ama {L w0 w rows ops rest o a Q x} ho hS hw {g} hx {r T'} hm h:=
 @aQ L w0 w rows ops rest o a Q 3 x ho hS hw g 3 hx _ T' hm kJ _ (al5 r) h
def amb {L w0 w rows ops rest o a Q x} ho hS hw {g} hx {r T'} hm h:=
 @aQ L w0 w rows ops rest o a Q 3 x ho hS hw g 4 hx _ T' hm kJ _ (al6 r) h
def amc {L w0 w rows ops rest o a Q x} ho hS hw {g} hx {r T'} hm h:=
 @aQ L w0 w rows ops rest o a Q 3 x ho hS hw g 5 hx _ T' hm kJ _ (al7 r) h
def Lc {L w0 w rows ops rest o a Q x} ho hS hw {g} hx {r T'} hm h:=
 @mM L w0 w rows ops rest o a Q 65 x ho hS hw g hx (Po.cells r) T' hm _ Tryz.underlying65 rfl vT h
def abv {L w0 rows ops rest o a Q x} ho hw {g} hx {r:Po} {T'} hm hq h:=
 @dn L w0 rows ops Q o rest a (.agg (Po.cells r)) hw hq (fun w hS=> @kF L w0 w rows o a hS 65 x ho g 0 hx _ _ T' hm (fun j v hj=>by simpa using hj) _ Tryz.underlying65 rfl vT) h
theorem yJ {L:World→Prop} {w0 w:World} {rows:List Row} {a:Act} (hS:St L w0 rows w) {fn:Func} {p q:Tmp} (hf:fn.results= #[.cell p 65, .tmp q]) {g:Nat} (hp:a.tmps.getD p undef= .pointer (some ⟨g,0,none⟩)) {r:Po} {T':Nat} (hm:cZ g (Po.cells r) T' rows) {v:Value} (hq:a.tmps.getD q undef=v) (hdef:a.defers=[]) {R:Ending→World→Prop} (hR:Below w0.heap.size w0 w→R (.returned (.tuple #[.agg (Po.cells r),v])) w):bodyPost Tryz.prog fn R .ret a w:=
 bodyPost_ret ((gV hf a.tmps w g T' (Po.cells r) (0,0) _ hp (hS.row hm) Tryz.underlying65 rfl vT).trans (by rw [hq])) hdef (hR hS.below)
def Co.col (c:Co):Array Value:=#[.int .i64 c.c0, .int .i64 c.c1, .int .i64 c.c2, .int .i64 c.c3, .int .i64 c.c4]
theorem info5:(Tryz.prog.info? 27).map (·.size)=some 5:=by kernel_rfl
theorem anV (c:Co):∀j v,(Co.col c)[j]? =some v→(Co.cells c)[2+j]? =some v:=by
 intro j v h
 match j,h with
 |0,h=>exact h
 |1,h=>exact h
 |2,h=>exact h
 |3,h=>exact h
 |4,h=>exact h
 |j+5,h=>rw [Array.getElem?_eq_none (by simp [Co.col])] at h;cases h
theorem aeR {L:World→Prop} {w0 w:World} {rows:List Row} {ops:Array Oper} {rest:List Oper} {o:Oper} {a:Act} {Q:Exit→Act→World→Prop} {x:Operand} (ho:o.op= .load 27 x) (hS:St L w0 rows w) (hw:Region.wanted o (yielded ops a.tmps)=true) {g:Nat} (hx:a.eval x= .pointer (some ⟨g,2,none⟩)) {r:Co} {T':Nat} (hm:cZ g (Co.cells r) T' rows) (h:wpList Tryz.prog ops Q rest (a.put o.dst (.agg #[.int .i64 r.c0, .int .i64 r.c1, .int .i64 r.c2, .int .i64 r.c3, .int .i64 r.c4])) w):wpList Tryz.prog ops Q (o::rest) a w:=
 ny 27 ho hS hw 2 hx hm (anV r) Tryz.underlying27 rfl info5 h
theorem Ea {L:World→Prop} {w0 w:World} {rows:List Row} {ops:Array Oper} {rest:List Oper} {o:Oper} {a:Act} {Q:Exit→Act→World→Prop} (d s:Operand) (hgd:o.guard=none) (ho:o.op= .call { callee:= .builtin .copy,args:=#[d,s],argTypes:=#[161,161] }) (hS:St L w0 rows w)
 {g g2 off off2 n1 c1 n2 c2:Nat} (hd:a.eval d= .slice (some ⟨g,off,none⟩) n1 c1) (hs:a.eval s= .slice (some ⟨g2,off2,none⟩) n2 c2) (cs:List Value) (hn:cs.length=Nat.min n2 n1) {anW:Array Value} {T2:Nat} (h2:cZ g2 anW T2 rows) (hp:∀j v,cs[j]? =some v→anW[off2+j]? =some v)
 {cur new:Array Value} {T:Nat} {rows':List Row} (hm:jq g cur new T rows rows') (hfit:off+cs.length≤cur.size) (hnew:new=(cur.toList.take off++cs++cur.toList.drop (off+cs.length)).toArray) (h1:∀v∈cs,v.oneCell'=true)
 (h:∀w',St L w0 rows' w'→wpList Tryz.prog ops Q rest (a.put o.dst (goInt cs.length)) w'):wpList Tryz.prog ops Q (o::rest) a w:=
 wpList_copy_own hgd d s 161 161 ho 3 Tryz.underlying161 gI g off n1 c1 ⟨g2,off2,none⟩ n2 c2 hd hs cur T (hS.has _ hm.mem).1 cs hn
  (fun j v hj=>by
   have e:(⟨g2,off2,none⟩:Addr).add j=⟨g2,off2+j,none⟩:=by unfold Addr.add;split<;>simp_all
   rw [e];exact hS.uz h2 _ (hp j v hj)) hfit h1 (h _ (by have:=hS.set hm;rw [hnew] at this;simpa using this))

theorem SY:Tryz.prog.cellsOf 3=1:=by kernel_rfl
theorem KP {w:World} {ops:Array Oper} {rest:List Oper} {a:Act} {Q:Exit→Act→World→Prop} {dst:Option Tmp} {ty:TypeId} {pos:String} {af:Array Edge} {gd:Option (Nat × Bool)} {d s:Operand} {t1 t2:TypeId} (h:wpList Tryz.prog ops Q ((⟨dst, .call { callee:= .builtin .copy,args:=#[d,s],argTypes:=#[t1,t2] },ty,pos,af,gd⟩:Oper)::rest) a w):wpList Tryz.prog ops Q ((⟨dst, .call { callee:= .builtin .copy,args:=#[d,s],argTypes:=#[t1,t2] },ty,pos,af,gd⟩:Oper)::rest) a w:=h
theorem aft:∃i,Tryz.prog.info? 3=some i:=by
 have h:=gI
 cases hq:Tryz.prog.info? 3 with
 |none=>rw [hq] at h;cases h
 |some i=>exact ⟨i,rfl⟩
theorem aia (d:Nat) (a0 a1 a2 a3 a4 b0 b1 b2 b3 b4:Int) (w:World):(Op.equalIn (d+2) 27 (.agg #[.int .i64 a0, .int .i64 a1, .int .i64 a2, .int .i64 a3, .int .i64 a4]) (.agg #[.int .i64 b0, .int .i64 b1, .int .i64 b2, .int .i64 b3, .int .i64 b4])).run Tryz.prog w= .ok (a0==b0&&(a1==b1&&(a2==b2&&(a3==b3&&a4==b4)))) w:=by
 obtain ⟨i,hi⟩:=aft
 rw [run_equalIn_array w (d+1) _ _ Tryz.underlying27 hi,SY]
 simp [Op.eqItems,List.range,List.range.loop,part,go_sem,Tryz.underlying3,Sem.run_bind]
 repeat' split
 all_goals simp_all
theorem VF (r q:Co) (w:World):(binOp .eql 29 (.agg r.cells) (.agg q.cells)).run Tryz.prog w= .ok (.bool (uU r q)) w:=by
 rw [run_eql_struct,run_equalIn_agg w 9999 29 _ _ (by kernel_rfl) (by kernel_rfl)]
 simp [uU,Co.cells,go_sem,Tryz.underlying29,Tryz.underlying3,aia 9997]
 repeat' split
 all_goals simp_all
theorem aoG (r q:Co) (w:World):(binOp .neq 29 (.agg r.cells) (.agg q.cells)).run Tryz.prog w= .ok (.bool (!uU r q)) w:=by
 have h:=VF r q w
 rw [run_eql_struct] at h
 rw [run_neq_struct]
 generalize (Op.equalIn 10000 29 (.agg r.cells) (.agg q.cells)).run Tryz.prog w=x at *
 cases x<;>simp_all [Result.andThen]
theorem OV (r q:Po) (w:World):(binOp .eql 65 (.agg r.cells) (.agg q.cells)).run Tryz.prog w= .ok (.bool (uV r q)) w:=by
 obtain ⟨i,hi⟩:=aft
 rw [run_eql_struct,run_equalIn_array w 9999 _ _ Tryz.underlying65 hi,SY]
 simp [uV,Po.cells,Op.eqItems,List.range,List.range.loop,part,go_sem,Tryz.underlying3,Sem.run_bind]
 repeat' split
 all_goals simp_all
theorem aoI (r q:Po) (w:World):(binOp .neq 65 (.agg r.cells) (.agg q.cells)).run Tryz.prog w= .ok (.bool (!uV r q)) w:=by
 have h:=OV r q w
 rw [run_eql_struct] at h
 rw [run_neq_struct]
 generalize (Op.equalIn 10000 65 (.agg r.cells) (.agg q.cells)).run Tryz.prog w=x at *
 cases x<;>simp_all [Result.andThen]
theorem aeM (c0 c1 c2 c3 c4:Int):∀w:World,(Instr.index 27 (.agg #[.int .i64 c0, .int .i64 c1, .int .i64 c2, .int .i64 c3, .int .i64 c4]) (.int .i64 0)).run Tryz.prog w= .ok (.int .i64 c0) w:=fun _=>by kernel_rfl
theorem aeN (c0 c1 c2 c3 c4:Int):∀w:World,(Instr.index 27 (.agg #[.int .i64 c0, .int .i64 c1, .int .i64 c2, .int .i64 c3, .int .i64 c4]) (.int .i64 1)).run Tryz.prog w= .ok (.int .i64 c1) w:=fun _=>by kernel_rfl
theorem aeO (c0 c1 c2 c3 c4:Int):∀w:World,(Instr.index 27 (.agg #[.int .i64 c0, .int .i64 c1, .int .i64 c2, .int .i64 c3, .int .i64 c4]) (.int .i64 2)).run Tryz.prog w= .ok (.int .i64 c2) w:=fun _=>by kernel_rfl
theorem aeP (c0 c1 c2 c3 c4:Int):∀w:World,(Instr.index 27 (.agg #[.int .i64 c0, .int .i64 c1, .int .i64 c2, .int .i64 c3, .int .i64 c4]) (.int .i64 3)).run Tryz.prog w= .ok (.int .i64 c3) w:=fun _=>by kernel_rfl
theorem aeQ (c0 c1 c2 c3 c4:Int):∀w:World,(Instr.index 27 (.agg #[.int .i64 c0, .int .i64 c1, .int .i64 c2, .int .i64 c3, .int .i64 c4]) (.int .i64 4)).run Tryz.prog w= .ok (.int .i64 c4) w:=fun _=>by kernel_rfl
structure Em where
 op:Int
 ref:Rf
 amt:Am
 ctr:Int
 zone:Int
 card:ByteArray
 flt:aH
 pool:Po
 mods:Sl
def Em.cells (r:Em):Array Value:=#[.int .i64 r.op, .int .i64 r.ref.kind, .int .i64 r.ref.n, .int .i64 r.ref.f.zone, .int .i64 r.ref.f.who, .int .i64 r.ref.f.self, .int .i64 r.ref.f.types, .int .i64 r.ref.f.aV, .int .i64 r.ref.f.colors, .int .i64 r.ref.f.aP, .string r.ref.f.sub, .int .i64 r.ref.f.keys, .int .i64 r.ref.f.dJ, .int .i64 r.ref.f.pk, .int .i64 r.ref.f.pn, .int .i64 r.ref.f.tk, .int .i64 r.ref.f.tn, .int .i64 r.ref.f.vk, .int .i64 r.ref.f.vn, .int .i64 r.amt.k, .int .i64 r.amt.n, .int .i64 r.amt.c, .int .i64 r.amt.f.zone, .int .i64 r.amt.f.who, .int .i64 r.amt.f.self, .int .i64 r.amt.f.types, .int .i64 r.amt.f.aV, .int .i64 r.amt.f.colors, .int .i64 r.amt.f.aP, .string r.amt.f.sub, .int .i64 r.amt.f.keys, .int .i64 r.amt.f.dJ, .int .i64 r.amt.f.pk, .int .i64 r.amt.f.pn, .int .i64 r.amt.f.tk, .int .i64 r.amt.f.tn, .int .i64 r.amt.f.vk, .int .i64 r.amt.f.vn, .int .i64 r.ctr, .int .i64 r.zone, .string r.card, .int .i64 r.flt.zone, .int .i64 r.flt.who, .int .i64 r.flt.self, .int .i64 r.flt.types, .int .i64 r.flt.aV, .int .i64 r.flt.colors, .int .i64 r.flt.aP, .string r.flt.sub, .int .i64 r.flt.keys, .int .i64 r.flt.dJ, .int .i64 r.flt.pk, .int .i64 r.flt.pn, .int .i64 r.flt.tk, .int .i64 r.flt.tn, .int .i64 r.flt.vk, .int .i64 r.flt.vn, .int .i64 r.pool.g, .int .i64 r.pool.c0, .int .i64 r.pool.c1, .int .i64 r.pool.c2, .int .i64 r.pool.c3, .int .i64 r.pool.c4, .slice r.mods.a r.mods.n r.mods.c]
def kC:Em:=⟨0,dY,dG,0,0,⟨#[]⟩,aaB,bn,⟨none,0,0⟩⟩
def Ef.at (e:Ef) (v:Sl):Em:=⟨e.op,e.ref,e.amt,e.ctr,e.zone,e.card,e.flt,e.pool,v⟩
theorem aoq:(Tryz.prog.info? 26).map (·.size)=some 1:=by kernel_rfl
theorem azF:∃d,Tryz.prog.underlying 26=some d∧d.isRow=false:=⟨_,Tryz.underlying26,rfl⟩
theorem abw (r:Rf):r.cells.all (·.oneCell')=true:=by simp [Rf.cells,aH.cells,Value.oneCell']
theorem CY:(Tryz.prog.info? 61).map (·.size)=some 18:=by kernel_rfl
theorem adr:∀w:World,(Instr.build 61 ([]:List (Nat × Value)).toArray).run Tryz.prog w= .ok (.agg (Rf.cells ⟨(dY).kind,(dY).n,(dY).f⟩)) w:=fun _=>by kernel_rfl
def Qr {ops rest a w Q dst ty pos af gd} (h:wpList Tryz.prog ops Q ((⟨dst, .build 61 #[],ty,pos,af,gd⟩:Oper)::rest) a w):=h
def YA {ops rest} {a:Act} {w Q dst ty pos af gd} hw h:=
 @gQ w ops rest (⟨dst, .build 61 #[],ty,pos,af,gd⟩:Oper) a Q 61 [] rfl hw [] (by simp only [List.map_cons,List.map_nil]) _ (adr) h
theorem aaI (r:Am):r.cells.all (·.oneCell')=true:=by simp [Am.cells,aH.cells,Value.oneCell']
theorem Bv:(Tryz.prog.info? 63).map (·.size)=some 19:=by kernel_rfl
theorem abP:∀w:World,(Instr.build 63 ([]:List (Nat × Value)).toArray).run Tryz.prog w= .ok (.agg (Am.cells ⟨(dG).k,(dG).n,(dG).c,(dG).f⟩)) w:=fun _=>by kernel_rfl
def Oq {ops rest a w Q dst ty pos af gd} (h:wpList Tryz.prog ops Q ((⟨dst, .build 63 #[],ty,pos,af,gd⟩:Oper)::rest) a w):=h
def V8 {ops rest} {a:Act} {w Q dst ty pos af gd} hw h:=
 @gQ w ops rest (⟨dst, .build 63 #[],ty,pos,af,gd⟩:Oper) a Q 63 [] rfl hw [] (by simp only [List.map_cons,List.map_nil]) _ (abP) h
theorem anY (r:Em):r.cells.all (·.oneCell')=true:=by simp [Em.cells,Am.cells,aH.cells,Po.cells,Rf.cells,Value.oneCell']
theorem kY:(Tryz.prog.info? 67).map (·.size)=some 64:=by kernel_rfl
theorem jd:∀w:World,(zeroValue 67).run Tryz.prog w= .ok (.agg (Em.cells kC)) w:=fun _=>by kernel_rfl
theorem ae3:∀w:World,(Instr.build 67 ([]:List (Nat × Value)).toArray).run Tryz.prog w= .ok (.agg (Em.cells ⟨(kC).op,(kC).ref,(kC).amt,(kC).ctr,(kC).zone,(kC).card,(kC).flt,(kC).pool,(kC).mods⟩)) w:=fun _=>by kernel_rfl
def qX {ops rest a w Q dst ty pos af gd} (h:wpList Tryz.prog ops Q ((⟨dst, .build 67 #[],ty,pos,af,gd⟩:Oper)::rest) a w):=h
def wu {ops rest} {a:Act} {w Q dst ty pos af gd} hw h:=
 @gQ w ops rest (⟨dst, .build 67 #[],ty,pos,af,gd⟩:Oper) a Q 67 [] rfl hw [] (by simp only [List.map_cons,List.map_nil]) _ (ae3) h
theorem ae1 (r:Em):(Em.cells r)[0]? =some (.int .i64 r.op):=rfl
theorem alb (r:Em) (x:Int):(Em.cells r).toList.take 0++(Value.cells (.int .i64 x)).toList++(Em.cells r).toList.drop (0+(Value.cells (.int .i64 x)).size)=(Em.cells ⟨x,r.ref,r.amt,r.ctr,r.zone,r.card,r.flt,r.pool,r.mods⟩).toList:=rfl
theorem WV (r:Em):∀j v,(Rf.cells r.ref)[j]? =some v→(Em.cells r)[1+j]? =some v:=by
 intro j v h
 have hj:j<18:=by
  rcases Nat.lt_or_ge j 18 with h1|h1
  ·exact h1
  ·rw [Array.getElem?_eq_none (by exact h1)] at h;cases h
 match j,hj,h with
 |0,_,h=>exact h
 |1,_,h=>exact h
 |2,_,h=>exact h
 |3,_,h=>exact h
 |4,_,h=>exact h
 |5,_,h=>exact h
 |6,_,h=>exact h
 |7,_,h=>exact h
 |8,_,h=>exact h
 |9,_,h=>exact h
 |10,_,h=>exact h
 |11,_,h=>exact h
 |12,_,h=>exact h
 |13,_,h=>exact h
 |14,_,h=>exact h
 |15,_,h=>exact h
 |16,_,h=>exact h
 |17,_,h=>exact h
theorem alc (r:Em) (x:Rf):(Em.cells r).toList.take 1++(Value.cells (.agg (Rf.cells x))).toList++(Em.cells r).toList.drop (1+(Value.cells (.agg (Rf.cells x))).size)=(Em.cells ⟨r.op,x,r.amt,r.ctr,r.zone,r.card,r.flt,r.pool,r.mods⟩).toList:=rfl
theorem TM (r:Em):∀j v,(Am.cells r.amt)[j]? =some v→(Em.cells r)[19+j]? =some v:=by
 intro j v h
 have hj:j<19:=by
  rcases Nat.lt_or_ge j 19 with h1|h1
  ·exact h1
  ·rw [Array.getElem?_eq_none (by exact h1)] at h;cases h
 match j,hj,h with
 |0,_,h=>exact h
 |1,_,h=>exact h
 |2,_,h=>exact h
 |3,_,h=>exact h
 |4,_,h=>exact h
 |5,_,h=>exact h
 |6,_,h=>exact h
 |7,_,h=>exact h
 |8,_,h=>exact h
 |9,_,h=>exact h
 |10,_,h=>exact h
 |11,_,h=>exact h
 |12,_,h=>exact h
 |13,_,h=>exact h
 |14,_,h=>exact h
 |15,_,h=>exact h
 |16,_,h=>exact h
 |17,_,h=>exact h
 |18,_,h=>exact h
theorem ah3 (r:Em) (x:Am):(Em.cells r).toList.take 19++(Value.cells (.agg (Am.cells x))).toList++(Em.cells r).toList.drop (19+(Value.cells (.agg (Am.cells x))).size)=(Em.cells ⟨r.op,r.ref,x,r.ctr,r.zone,r.card,r.flt,r.pool,r.mods⟩).toList:=rfl
theorem aaR (r:Em):(Em.cells r)[38]? =some (.int .i64 r.ctr):=rfl
theorem ah4 (r:Em) (x:Int):(Em.cells r).toList.take 38++(Value.cells (.int .i64 x)).toList++(Em.cells r).toList.drop (38+(Value.cells (.int .i64 x)).size)=(Em.cells ⟨r.op,r.ref,r.amt,x,r.zone,r.card,r.flt,r.pool,r.mods⟩).toList:=rfl
theorem aaS (r:Em):(Em.cells r)[39]? =some (.int .i64 r.zone):=rfl
theorem ah5 (r:Em) (x:Int):(Em.cells r).toList.take 39++(Value.cells (.int .i64 x)).toList++(Em.cells r).toList.drop (39+(Value.cells (.int .i64 x)).size)=(Em.cells ⟨r.op,r.ref,r.amt,r.ctr,x,r.card,r.flt,r.pool,r.mods⟩).toList:=rfl
theorem ak6 (r:Em):(Em.cells r)[40]? =some (.string r.card):=rfl
theorem ah6 (r:Em) (x:ByteArray):(Em.cells r).toList.take 40++(Value.cells (.string x)).toList++(Em.cells r).toList.drop (40+(Value.cells (.string x)).size)=(Em.cells ⟨r.op,r.ref,r.amt,r.ctr,r.zone,x,r.flt,r.pool,r.mods⟩).toList:=rfl
theorem TN (r:Em):∀j v,(aH.cells r.flt)[j]? =some v→(Em.cells r)[41+j]? =some v:=by
 intro j v h
 have hj:j<16:=by
  rcases Nat.lt_or_ge j 16 with h1|h1
  ·exact h1
  ·rw [Array.getElem?_eq_none (by exact h1)] at h;cases h
 match j,hj,h with
 |0,_,h=>exact h
 |1,_,h=>exact h
 |2,_,h=>exact h
 |3,_,h=>exact h
 |4,_,h=>exact h
 |5,_,h=>exact h
 |6,_,h=>exact h
 |7,_,h=>exact h
 |8,_,h=>exact h
 |9,_,h=>exact h
 |10,_,h=>exact h
 |11,_,h=>exact h
 |12,_,h=>exact h
 |13,_,h=>exact h
 |14,_,h=>exact h
 |15,_,h=>exact h
theorem ah7 (r:Em) (x:aH):(Em.cells r).toList.take 41++(Value.cells (.agg (aH.cells x))).toList++(Em.cells r).toList.drop (41+(Value.cells (.agg (aH.cells x))).size)=(Em.cells ⟨r.op,r.ref,r.amt,r.ctr,r.zone,r.card,x,r.pool,r.mods⟩).toList:=rfl
theorem TP (r:Em):∀j v,(Po.cells r.pool)[j]? =some v→(Em.cells r)[57+j]? =some v:=by
 intro j v h
 have hj:j<6:=by
  rcases Nat.lt_or_ge j 6 with h1|h1
  ·exact h1
  ·rw [Array.getElem?_eq_none (by exact h1)] at h;cases h
 match j,hj,h with
 |0,_,h=>exact h
 |1,_,h=>exact h
 |2,_,h=>exact h
 |3,_,h=>exact h
 |4,_,h=>exact h
 |5,_,h=>exact h
theorem ah8 (r:Em) (x:Po):(Em.cells r).toList.take 57++(Value.cells (.agg (Po.cells x))).toList++(Em.cells r).toList.drop (57+(Value.cells (.agg (Po.cells x))).size)=(Em.cells ⟨r.op,r.ref,r.amt,r.ctr,r.zone,r.card,r.flt,x,r.mods⟩).toList:=rfl
theorem aaT (r:Em):(Em.cells r)[63]? =some (.slice r.mods.a r.mods.n r.mods.c):=rfl
theorem ah9 (r:Em) (x:Sl):(Em.cells r).toList.take 63++(Value.cells (.slice x.a x.n x.c)).toList++(Em.cells r).toList.drop (63+(Value.cells (.slice x.a x.n x.c)).size)=(Em.cells ⟨r.op,r.ref,r.amt,r.ctr,r.zone,r.card,r.flt,r.pool,x⟩).toList:=rfl
theorem anZ (r x:Em):(Em.cells r).toList.take 0++(Value.cells (.agg (Em.cells x))).toList++(Em.cells r).toList.drop (0+(Value.cells (.agg (Em.cells x))).size)=(Em.cells x).toList:=rfl
def ae8 {L w0 w rows ops rest o a Q x y} ho hS hw {g} hx {v} hy {r T' rows'} hm h:=
 @bF L w0 w rows ops rest o a Q 3 x y ho hS hw g 0 hx _ hy _ _ T' rows' hm (by exact Nat.le_of_ble_eq_true rfl) (alb r v) gI (by simp [Value.cells,Value.oneCell']) h
def ae9 {L w0 w rows ops rest o a Q x y} ho hS hw {g} hx {v} hy {r T' rows'} hm h:=
 @bF L w0 w rows ops rest o a Q 61 x y ho hS hw g 1 hx _ hy _ _ T' rows' hm (by exact Nat.le_of_ble_eq_true rfl) (alc r v) CY (abw v) h
def aaU {L w0 w rows ops rest o a Q x y} ho hS hw {g} hx {v} hy {r T' rows'} hm h:=
 @bF L w0 w rows ops rest o a Q 63 x y ho hS hw g 19 hx _ hy _ _ T' rows' hm (by exact Nat.le_of_ble_eq_true rfl) (ah3 r v) Bv (aaI v) h
def aaV {L w0 w rows ops rest o a Q x y} ho hS hw {g} hx {v} hy {r T' rows'} hm h:=
 @bF L w0 w rows ops rest o a Q 3 x y ho hS hw g 38 hx _ hy _ _ T' rows' hm (by exact Nat.le_of_ble_eq_true rfl) (ah4 r v) gI (by simp [Value.cells,Value.oneCell']) h
def aaW {L w0 w rows ops rest o a Q x y} ho hS hw {g} hx {v} hy {r T' rows'} hm h:=
 @bF L w0 w rows ops rest o a Q 3 x y ho hS hw g 39 hx _ hy _ _ T' rows' hm (by exact Nat.le_of_ble_eq_true rfl) (ah5 r v) gI (by simp [Value.cells,Value.oneCell']) h
def aaX {L w0 w rows ops rest o a Q x y} ho hS hw {g} hx {v} hy {r T' rows'} hm h:=
 @bF L w0 w rows ops rest o a Q 9 x y ho hS hw g 40 hx _ hy _ _ T' rows' hm (by exact Nat.le_of_ble_eq_true rfl) (ah6 r v) Xf (by simp [Value.cells,Value.oneCell']) h
def aaY {L w0 w rows ops rest o a Q x y} ho hS hw {g} hx {v} hy {r T' rows'} hm h:=
 @bF L w0 w rows ops rest o a Q 25 x y ho hS hw g 41 hx _ hy _ _ T' rows' hm (by exact Nat.le_of_ble_eq_true rfl) (ah7 r v) vM (Q9 v) h
def aaZ {L w0 w rows ops rest o a Q x y} ho hS hw {g} hx {v} hy {r T' rows'} hm h:=
 @bF L w0 w rows ops rest o a Q 65 x y ho hS hw g 57 hx _ hy _ _ T' rows' hm (by exact Nat.le_of_ble_eq_true rfl) (ah8 r v) vT (abu v) h
def KU {L w0 w rows ops rest o a Q x y} ho hS hw {g} hx {v1 v2 v3} hy {r T' rows'} hm h:=
 @bF L w0 w rows ops rest o a Q 26 x y ho hS hw g 63 hx _ hy _ _ T' rows' hm (by exact Nat.le_of_ble_eq_true rfl) (ah9 r ⟨v1,v2,v3⟩) aoq (by simp [Value.cells,Value.oneCell']) h
def gJ {L w0 w rows ops rest o a Q x y} ho hS hw {g} hx {v} hy {r T' rows'} hm h:=
 @bF L w0 w rows ops rest o a Q 67 x y ho hS hw g 0 hx _ hy _ _ T' rows' hm (by exact Nat.le_of_ble_eq_true rfl) (anZ r v) kY (anY v) h
theorem ahV (r:Em):(Em.cells r)[10]? =some (.string r.ref.f.sub):=rfl
def ahZ {L w0 w rows ops rest o a Q x} ho hS hw {g} hx {r T'} hm h:=
 @aQ L w0 w rows ops rest o a Q 9 x ho hS hw g 10 hx _ T' hm GY _ (ahV r) h
theorem ahW (r:Em):(Em.cells r)[29]? =some (.string r.amt.f.sub):=rfl
def ah0 {L w0 w rows ops rest o a Q x} ho hS hw {g} hx {r T'} hm h:=
 @aQ L w0 w rows ops rest o a Q 9 x ho hS hw g 29 hx _ T' hm GY _ (ahW r) h
theorem ahX (r:Em):(Em.cells r)[41]? =some (.int .i64 r.flt.zone):=rfl
def ah1 {L w0 w rows ops rest o a Q x} ho hS hw {g} hx {r T'} hm h:=
 @aQ L w0 w rows ops rest o a Q 3 x ho hS hw g 41 hx _ T' hm kJ _ (ahX r) h
theorem ahY (r:Em):(Em.cells r)[48]? =some (.string r.flt.sub):=rfl
def ah2 {L w0 w rows ops rest o a Q x} ho hS hw {g} hx {r T'} hm h:=
 @aQ L w0 w rows ops rest o a Q 9 x ho hS hw g 48 hx _ T' hm GY _ (ahY r) h
def lq {L w0 w rows ops rest o a Q x} ho hS hw {g} hx {r T'} hm h:=
 @aQ L w0 w rows ops rest o a Q 3 x ho hS hw g 0 hx _ T' hm kJ _ (ae1 r) h
def EP {L w0 w rows ops rest o a Q x} ho hS hw {g} hx {r T'} hm h:=
 @ny L w0 w rows ops rest o a Q 61 x ho hS hw g 1 hx _ _ T' hm (WV r) _ Tryz.underlying61 rfl CY h
def Bc {L w0 w rows ops rest o a Q x} ho hS hw {g} hx {r T'} hm h:=
 @ny L w0 w rows ops rest o a Q 63 x ho hS hw g 19 hx _ _ T' hm (TM r) _ Tryz.underlying63 rfl Bv h
def yu {L w0 w rows ops rest o a Q x} ho hS hw {g} hx {r T'} hm h:=
 @aQ L w0 w rows ops rest o a Q 3 x ho hS hw g 38 hx _ T' hm kJ _ (aaR r) h
def wB {L w0 w rows ops rest o a Q x} ho hS hw {g} hx {r T'} hm h:=
 @aQ L w0 w rows ops rest o a Q 3 x ho hS hw g 39 hx _ T' hm kJ _ (aaS r) h
def wC {L w0 w rows ops rest o a Q x} ho hS hw {g} hx {r T'} hm h:=
 @aQ L w0 w rows ops rest o a Q 9 x ho hS hw g 40 hx _ T' hm GY _ (ak6 r) h
def Bd {L w0 w rows ops rest o a Q x} ho hS hw {g} hx {r T'} hm h:=
 @ny L w0 w rows ops rest o a Q 25 x ho hS hw g 41 hx _ _ T' hm (TN r) _ Tryz.underlying25 rfl vM h
def Bf {L w0 w rows ops rest o a Q x} ho hS hw {g} hx {r T'} hm h:=
 @ny L w0 w rows ops rest o a Q 65 x ho hS hw g 57 hx _ _ T' hm (TP r) _ Tryz.underlying65 rfl vT h
def sH {L w0 w rows ops rest o a Q x} ho hS hw {g} hx {r T'} hm h:=
 @aQ L w0 w rows ops rest o a Q 26 x ho hS hw g 63 hx _ T' hm azF _ (aaT r) h
def iC {L w0 w rows ops rest o a Q x} ho hS hw {g} hx {r T'} hm h:=
 @mM L w0 w rows ops rest o a Q 67 x ho hS hw g hx (Em.cells r) T' hm _ Tryz.underlying67 rfl kY h
def an0 {L w0 rows ops rest o a Q x} ho hw {g} hx {r:Em} {T'} hm hq h:=
 @dn L w0 rows ops Q o rest a (.int .i64 r.op) hw hq (fun w hS=> @gB L w0 w rows o a hS 3 x ho g 0 hx _ T' hm kJ _ (ae1 r)) h
def ae7 {L w0 rows ops rest o a Q x} ho hw {g} hx {r:Em} {T'} hm hq h:=
 @dn L w0 rows ops Q o rest a (.agg (Em.cells r)) hw hq (fun w hS=> @kF L w0 w rows o a hS 67 x ho g 0 hx _ _ T' hm (fun j v hj=>by simpa using hj) _ Tryz.underlying67 rfl kY) h
theorem jy {L:World→Prop} {w0 w:World} {rows:List Row} {a:Act} (hS:St L w0 rows w) {fn:Func} {p q:Tmp} (hf:fn.results= #[.cell p 67, .tmp q]) {g:Nat} (hp:a.tmps.getD p undef= .pointer (some ⟨g,0,none⟩)) {r:Em} {T':Nat} (hm:cZ g (Em.cells r) T' rows) {v:Value} (hq:a.tmps.getD q undef=v) (hdef:a.defers=[]) {R:Ending→World→Prop} (hR:Below w0.heap.size w0 w→R (.returned (.tuple #[.agg (Em.cells r),v])) w):bodyPost Tryz.prog fn R .ret a w:=
 bodyPost_ret ((gV hf a.tmps w g T' (Em.cells r) (0,0) _ hp (hS.row hm) Tryz.underlying67 rfl kY).trans (by rw [hq])) hdef (hR hS.below)
theorem ae6 {L:World→Prop} {w0 w:World} {rows:List Row} {a:Act} (hS:St L w0 rows w) {fn:Func} {p:Tmp} (hf:fn.results= #[.cell p 67]) {g:Nat} (hp:a.tmps.getD p undef= .pointer (some ⟨g,0,none⟩)) {r:Em} {T':Nat} (hm:cZ g (Em.cells r) T' rows) (hdef:a.defers=[]) {R:Ending→World→Prop} (hR:Below w0.heap.size w0 w→R (.returned (.agg (Em.cells r))) w):bodyPost Tryz.prog fn R .ret a w:=
 St.result hS hf hp hm Tryz.underlying67 rfl kY hdef hR
end Go.Proofs.YtdicgggkdmkklaaGreatDoor
namespace Go.Proofs.YtdicgggkdmkklaaGreatDoor
attribute [local irreducible] wpList Code.wp Calls
open Go.ChangeShapes Go.WideShapes Go.RowKit
structure Us where
 ref:Bool
 amt:Bool
 ctr:Bool
 zone:Bool
 card:Bool
 flt:Bool
 pool:Bool
 mods:Bool
def Us.cells (u:Us):Array Value:=#[.bool u.ref, .bool u.amt, .bool u.ctr, .bool u.zone, .bool u.card, .bool u.flt, .bool u.pool, .bool u.mods]
def ahr:Us:=⟨false,false,false,false,false,false,false,false⟩
def Dk (op:Int):Us:=⟨uR op,uA op,uK op,uZ op,uC op,uF op,uP op,uM op⟩
theorem apT (r:Us):r.cells.all (·.oneCell')=true:=by simp [Us.cells,Value.oneCell']
theorem SB:(Tryz.prog.info? 112).map (·.size)=some 8:=by kernel_rfl
theorem YT:∀w:World,(zeroValue 112).run Tryz.prog w= .ok (.agg (Us.cells ahr)) w:=fun _=>by kernel_rfl
theorem aha (r:Us):(Us.cells r)[0]? =some (.bool r.ref):=rfl
theorem amW (r:Us) (x:Bool):(Us.cells r).toList.take 0++(Value.cells (.bool x)).toList++(Us.cells r).toList.drop (0+(Value.cells (.bool x)).size)=(Us.cells ⟨x,r.amt,r.ctr,r.zone,r.card,r.flt,r.pool,r.mods⟩).toList:=rfl
theorem ahb (r:Us):(Us.cells r)[1]? =some (.bool r.amt):=rfl
theorem amX (r:Us) (x:Bool):(Us.cells r).toList.take 1++(Value.cells (.bool x)).toList++(Us.cells r).toList.drop (1+(Value.cells (.bool x)).size)=(Us.cells ⟨r.ref,x,r.ctr,r.zone,r.card,r.flt,r.pool,r.mods⟩).toList:=rfl
theorem ahc (r:Us):(Us.cells r)[2]? =some (.bool r.ctr):=rfl
theorem amY (r:Us) (x:Bool):(Us.cells r).toList.take 2++(Value.cells (.bool x)).toList++(Us.cells r).toList.drop (2+(Value.cells (.bool x)).size)=(Us.cells ⟨r.ref,r.amt,x,r.zone,r.card,r.flt,r.pool,r.mods⟩).toList:=rfl
theorem ahd (r:Us):(Us.cells r)[3]? =some (.bool r.zone):=rfl
theorem amZ (r:Us) (x:Bool):(Us.cells r).toList.take 3++(Value.cells (.bool x)).toList++(Us.cells r).toList.drop (3+(Value.cells (.bool x)).size)=(Us.cells ⟨r.ref,r.amt,r.ctr,x,r.card,r.flt,r.pool,r.mods⟩).toList:=rfl
theorem apR (r:Us):(Us.cells r)[4]? =some (.bool r.card):=rfl
theorem am0 (r:Us) (x:Bool):(Us.cells r).toList.take 4++(Value.cells (.bool x)).toList++(Us.cells r).toList.drop (4+(Value.cells (.bool x)).size)=(Us.cells ⟨r.ref,r.amt,r.ctr,r.zone,x,r.flt,r.pool,r.mods⟩).toList:=rfl
theorem ahe (r:Us):(Us.cells r)[5]? =some (.bool r.flt):=rfl
theorem am1 (r:Us) (x:Bool):(Us.cells r).toList.take 5++(Value.cells (.bool x)).toList++(Us.cells r).toList.drop (5+(Value.cells (.bool x)).size)=(Us.cells ⟨r.ref,r.amt,r.ctr,r.zone,r.card,x,r.pool,r.mods⟩).toList:=rfl
theorem ahf (r:Us):(Us.cells r)[6]? =some (.bool r.pool):=rfl
theorem am2 (r:Us) (x:Bool):(Us.cells r).toList.take 6++(Value.cells (.bool x)).toList++(Us.cells r).toList.drop (6+(Value.cells (.bool x)).size)=(Us.cells ⟨r.ref,r.amt,r.ctr,r.zone,r.card,r.flt,x,r.mods⟩).toList:=rfl
theorem ahg (r:Us):(Us.cells r)[7]? =some (.bool r.mods):=rfl
theorem am3 (r:Us) (x:Bool):(Us.cells r).toList.take 7++(Value.cells (.bool x)).toList++(Us.cells r).toList.drop (7+(Value.cells (.bool x)).size)=(Us.cells ⟨r.ref,r.amt,r.ctr,r.zone,r.card,r.flt,r.pool,x⟩).toList:=rfl
theorem apU (r x:Us):(Us.cells r).toList.take 0++(Value.cells (.agg (Us.cells x))).toList++(Us.cells r).toList.drop (0+(Value.cells (.agg (Us.cells x))).size)=(Us.cells x).toList:=rfl
def apW {L w0 w rows ops rest o a Q x y} ho hS hw {g} hx {v} hy {r T' rows'} hm h:=
 @bF L w0 w rows ops rest o a Q 4 x y ho hS hw g 0 hx _ hy _ _ T' rows' hm (by exact Nat.le_of_ble_eq_true rfl) (amW r v) qZ (by simp [Value.cells,Value.oneCell']) h
def apX {L w0 w rows ops rest o a Q x y} ho hS hw {g} hx {v} hy {r T' rows'} hm h:=
 @bF L w0 w rows ops rest o a Q 4 x y ho hS hw g 1 hx _ hy _ _ T' rows' hm (by exact Nat.le_of_ble_eq_true rfl) (amX r v) qZ (by simp [Value.cells,Value.oneCell']) h
def apY {L w0 w rows ops rest o a Q x y} ho hS hw {g} hx {v} hy {r T' rows'} hm h:=
 @bF L w0 w rows ops rest o a Q 4 x y ho hS hw g 2 hx _ hy _ _ T' rows' hm (by exact Nat.le_of_ble_eq_true rfl) (amY r v) qZ (by simp [Value.cells,Value.oneCell']) h
def apZ {L w0 w rows ops rest o a Q x y} ho hS hw {g} hx {v} hy {r T' rows'} hm h:=
 @bF L w0 w rows ops rest o a Q 4 x y ho hS hw g 3 hx _ hy _ _ T' rows' hm (by exact Nat.le_of_ble_eq_true rfl) (amZ r v) qZ (by simp [Value.cells,Value.oneCell']) h
def ap0 {L w0 w rows ops rest o a Q x y} ho hS hw {g} hx {v} hy {r T' rows'} hm h:=
 @bF L w0 w rows ops rest o a Q 4 x y ho hS hw g 4 hx _ hy _ _ T' rows' hm (by exact Nat.le_of_ble_eq_true rfl) (am0 r v) qZ (by simp [Value.cells,Value.oneCell']) h
def ap1 {L w0 w rows ops rest o a Q x y} ho hS hw {g} hx {v} hy {r T' rows'} hm h:=
 @bF L w0 w rows ops rest o a Q 4 x y ho hS hw g 5 hx _ hy _ _ T' rows' hm (by exact Nat.le_of_ble_eq_true rfl) (am1 r v) qZ (by simp [Value.cells,Value.oneCell']) h
def ap2 {L w0 w rows ops rest o a Q x y} ho hS hw {g} hx {v} hy {r T' rows'} hm h:=
 @bF L w0 w rows ops rest o a Q 4 x y ho hS hw g 6 hx _ hy _ _ T' rows' hm (by exact Nat.le_of_ble_eq_true rfl) (am2 r v) qZ (by simp [Value.cells,Value.oneCell']) h
def ap3 {L w0 w rows ops rest o a Q x y} ho hS hw {g} hx {v} hy {r T' rows'} hm h:=
 @bF L w0 w rows ops rest o a Q 4 x y ho hS hw g 7 hx _ hy _ _ T' rows' hm (by exact Nat.le_of_ble_eq_true rfl) (am3 r v) qZ (by simp [Value.cells,Value.oneCell']) h
def YU {L w0 w rows ops rest o a Q x y} ho hS hw {g} hx {v} hy {r T' rows'} hm h:=
 @bF L w0 w rows ops rest o a Q 112 x y ho hS hw g 0 hx _ hy _ _ T' rows' hm (by exact Nat.le_of_ble_eq_true rfl) (apU r v) SB (apT v) h
def Kz {L w0 w rows ops rest o a Q x} ho hS hw {g} hx {r T'} hm h:=
 @aQ L w0 w rows ops rest o a Q 4 x ho hS hw g 0 hx _ T' hm rQ _ (aha r) h
def KA {L w0 w rows ops rest o a Q x} ho hS hw {g} hx {r T'} hm h:=
 @aQ L w0 w rows ops rest o a Q 4 x ho hS hw g 1 hx _ T' hm rQ _ (ahb r) h
def KC {L w0 w rows ops rest o a Q x} ho hS hw {g} hx {r T'} hm h:=
 @aQ L w0 w rows ops rest o a Q 4 x ho hS hw g 2 hx _ T' hm rQ _ (ahc r) h
def KD {L w0 w rows ops rest o a Q x} ho hS hw {g} hx {r T'} hm h:=
 @aQ L w0 w rows ops rest o a Q 4 x ho hS hw g 3 hx _ T' hm rQ _ (ahd r) h
def Fp {L w0 w rows ops rest o a Q x} ho hS hw {g} hx {r T'} hm h:=
 @aQ L w0 w rows ops rest o a Q 4 x ho hS hw g 4 hx _ T' hm rQ _ (apR r) h
def KE {L w0 w rows ops rest o a Q x} ho hS hw {g} hx {r T'} hm h:=
 @aQ L w0 w rows ops rest o a Q 4 x ho hS hw g 5 hx _ T' hm rQ _ (ahe r) h
def KF {L w0 w rows ops rest o a Q x} ho hS hw {g} hx {r T'} hm h:=
 @aQ L w0 w rows ops rest o a Q 4 x ho hS hw g 6 hx _ T' hm rQ _ (ahf r) h
def KG {L w0 w rows ops rest o a Q x} ho hS hw {g} hx {r T'} hm h:=
 @aQ L w0 w rows ops rest o a Q 4 x ho hS hw g 7 hx _ T' hm rQ _ (ahg r) h
def apS {L w0 w rows ops rest o a Q x} ho hS hw {g} hx {r T'} hm h:=
 @mM L w0 w rows ops rest o a Q 112 x ho hS hw g hx (Us.cells r) T' hm _ Tryz.underlying112 rfl SB h
theorem apV {L:World→Prop} {w0 w:World} {rows:List Row} {a:Act} (hS:St L w0 rows w) {fn:Func} {p:Tmp} (hf:fn.results= #[.cell p 112]) {g:Nat} (hp:a.tmps.getD p undef= .pointer (some ⟨g,0,none⟩)) {r:Us} {T':Nat} (hm:cZ g (Us.cells r) T' rows) (hdef:a.defers=[]) {R:Ending→World→Prop} (hR:Below w0.heap.size w0 w→R (.returned (.agg (Us.cells r))) w):bodyPost Tryz.prog fn R .ret a w:=
 St.result hS hf hp hm Tryz.underlying112 rfl SB hdef hR
theorem aaQ (op:Int) (w:World) (hl:Laid w):Calls Tryz.prog 78 #[.int .i64 op] w fun e w'=>e= .returned (.agg (Us.cells (Dk op)))∧Below w.heap.size w w':=by
 have hS:=St.start hl bJ
 go_enter Tryz.func78,Tryz.ntmps78
 go_wp2_with (first|((first|(with_reducible refine aB ?_)|(with_reducible refine aT ?_));(have hq:=int_eq (by assumption);subst hq))|((with_reducible refine aW ?_);(first|(refine aJ 112 rfl hS rfl _ YT ?_;intro g w hS));(try simp only [ah,ak,au,ay,aA]))|((with_reducible refine aC ?_);(first|(refine apS rfl hS rfl rfl (by repeat constructor) ?_));(try simp only [ah,ak,au,ay,aA]))|((with_reducible refine aN ?_);(first|(refine YU rfl hS rfl rfl rfl (by repeat constructor) ?_;intro w hS)|(refine apW rfl hS rfl rfl rfl (by repeat constructor) ?_;intro w hS)|(refine apX rfl hS rfl rfl rfl (by repeat constructor) ?_;intro w hS)|(refine apY rfl hS rfl rfl rfl (by repeat constructor) ?_;intro w hS)|(refine apZ rfl hS rfl rfl rfl (by repeat constructor) ?_;intro w hS)|(refine ap0 rfl hS rfl rfl rfl (by repeat constructor) ?_;intro w hS)|(refine ap1 rfl hS rfl rfl rfl (by repeat constructor) ?_;intro w hS)|(refine ap2 rfl hS rfl rfl rfl (by repeat constructor) ?_;intro w hS)|(refine ap3 rfl hS rfl rfl rfl (by repeat constructor) ?_;intro w hS));(try simp only [ah,ak,au,ay,aA])))
 all_goals (refine apV hS rfl rfl (by repeat constructor) rfl (fun hb=>⟨kW (f:=Us.cells) ?_,hb⟩))
 all_goals first|rfl|(simp_all [Dk,ahr,uR,uA,uK,uZ,uC,uF,uP,uM])
end Go.Proofs.YtdicgggkdmkklaaGreatDoor
namespace Go.Proofs.YtdicgggkdmkklaaGreatDoor
open Go.ChangeShapes Go.WideShapes Go.RowKit
theorem cZ.app {g:Nat} {cs:Array Value} {T:Nat} {rows:List Row} (h:cZ g cs T rows) (X:List Row):cZ g cs T (rows++X):=by
 induction h with
 |head=>exact .head
 |tail _ ih=>exact .tail ih
theorem St.rot {L:World→Prop} {w0 w:World} {rows:List Row} {x:Row} (h:St L w0 (rows++[x]) w):St L w0 (x::rows) w:=
 ⟨h.base,h.keeps,h.below,fun y hy=>h.has y (by rcases List.mem_cons.1 hy with rfl|hy<;>simp_all),by
  have:=h.apart
  rw [List.map_append,List.nodup_append] at this
  simp only [List.map_cons,List.map_nil,List.nodup_cons,List.mem_singleton] at this ⊢
  exact ⟨fun hm=>this.2.2 _ hm _ rfl rfl,this.1⟩⟩
theorem St.adJ {L:World→Prop} {w0 w:World} {rows:List Row} {x:Row} (h:St L w0 (x::rows) w):St L w0 (rows++[x]) w:=
 ⟨h.base,h.keeps,h.below,fun y hy=>h.has y (by rcases List.mem_append.1 hy with hy|hy<;>simp_all),by
  have:=h.apart
  rw [List.map_append,List.nodup_append]
  simp only [List.map_cons,List.map_nil,List.nodup_cons,List.mem_singleton] at this ⊢
  exact ⟨this.2,by simp,fun a ha b hb e=>this.1 (by rw [←hb,←e];exact ha)⟩⟩
section
variable {P:Program} {ops:Array Oper} {Q:Exit→Act→World→Prop} {md:Region.Mode}
def WF (P:Program) (md:Region.Mode) (ops:Array Oper) (Q:Exit→Act→World→Prop) (F:Array Bool→Act→World→Prop) (q:Nat):Nat→Array Bool→Act→World→Prop
 |0,listed,a,w=>Region.ready md ops listed=[]∧Q .normal a w
 |k+1,listed,a,w=>(Region.ready md ops listed=[]→Q .normal a w)∧∀i∈Region.ready md ops listed,wpOp P ops Q i (fun a' w'=>
   ((listed.setIfInBounds i true).getD q true=true→WF P md ops Q F q k (listed.setIfInBounds i true) a' w')∧
   ((listed.setIfInBounds i true).getD q true=false→F (listed.setIfInBounds i true) a' w'∧∀w'',F (listed.setIfInBounds i true) a' w''→WF P md ops Q F q k (listed.setIfInBounds i true) a' w'')) a w
variable {F:Array Bool→Act→World→Prop} {q:Nat}
theorem qF:∀(k:Nat) (listed:Array Bool) (a:Act) (w:World),WF P md ops Q F q k listed a w→wpAny P md ops Q k listed a w
 |0,_,_,w,h=>h
 |k+1,listed,_,w,h=>⟨h.1,fun i hi=>wpOp_mono (fun a' w' h'=>by
   cases hq:(listed.setIfInBounds i true).getD q true with
   |true=>exact qF k _ a' w' (h'.1 hq)
   |false=>exact qF k _ a' w' ((h'.2 hq).2 w' (h'.2 hq).1)) (h.2 i hi)⟩
def yS (P:Program) (ops:Array Oper) (o:Oper) (v:Value) (a:Act):Prop:=(Region.wanted o (yielded ops a.tmps)=true∧∀w,(execOp a.eval o).run P w= .ok (.value v) w)∨(Region.wanted o (yielded ops a.tmps)=false∧v=undef)
theorem yS.y {o:Oper} {v:Value} {a:Act} (h:yS P ops o v a):zF P ops (fun _=>True) o v a:=h.imp (fun h=>⟨h.1,fun w _=>by rw [h.2 w];exact ⟨rfl,trivial⟩⟩) id
theorem yS.op {i:Nat} {o:Oper} {v:Value} {a:Act} (hi:ops[i]? =some o) (hy:yS P ops o v a) {K:Act→World→Prop} {w:World} (h:K (a.put o.dst v) w):wpOp P ops Q i K a w:=by
 unfold Go.wpOp
 rw [hi]
 simp only
 rcases hy with hy|⟨h1,rfl⟩
 ·rw [if_pos hy.1]
  left
  unfold Oper.wp
  rw [hy.2 w]
  exact h
 ·rw [if_neg (by rw [h1];decide)];exact h
theorem yS.same {o:Oper} {v:Value} {a a':Act} (hy:yS P ops o v a) (he:execOp a'.eval o=execOp a.eval o) (hw:Region.wanted o (yielded ops a'.tmps)=Region.wanted o (yielded ops a.tmps)):yS P ops o v a':=
 hy.imp (fun h=>⟨hw.trans h.1,fun w=>by rw [he];exact h.2 w⟩) (fun h=>⟨hw.trans h.1,h.2⟩)
theorem Ul {j:Nat} {oi oj:Oper} {v:Value} (hj:ops[j]? =some oj) (hap:oi.apart ops oj=true) (hsi:∀cs b,oi.op≠ .select cs b) (hsj:∀cs b,oj.op≠ .select cs b)
 (hQ:∀c a w,Q (.panic c) (a.put oi.dst v) w→Q (.panic c) a w) (Y:Act→Prop) (hsame:∀a a',execOp a'.eval oi=execOp a.eval oi→Region.wanted oi (yielded ops a'.tmps)=Region.wanted oi (yielded ops a.tmps)→Y a→Y a')
 {S:World→Prop} {K:Act→World→Prop} {a:Act} {w:World} (hy:zF P ops S oi v a) (hY:Y a) (h:wpOp P ops Q j K (a.put oi.dst v) w):
 wpOp P ops Q j (fun a' w'=>Y a'∧K (a'.put oi.dst v) w') a w:=by
 obtain ⟨p1,p2,p3⟩:=Oper.apart_spec hap
 have h2:=XJ hj hap hsi hsj hQ hy h
 have kp:∀u,Y (a.put oj.dst u):=fun u=>hsame _ _ (execOp_put oi hsi a oj.dst u p3) (wanted_put oi a oj.dst u p3) hY
 have kd:∀(d:Deferred) u,Y (({ a with defers:=d::a.defers } :Act).put oj.dst u):=fun d u=>
  hsame _ _ (execOp_put oi hsi _ oj.dst u p3) (wanted_put oi _ oj.dst u p3) (hsame a ({ a with defers:=d::a.defers } :Act) rfl rfl hY)
 clear h
 unfold wpOp at h2 ⊢
 rw [hj] at h2 ⊢
 simp only at h2 ⊢
 by_cases hw:Region.wanted oj (yielded ops a.tmps)=true
 ·rw [if_pos hw] at h2 ⊢
  rcases h2 with h|h
  ·left
   unfold Oper.wp at h ⊢
   revert h
   generalize (execOp a.eval oj).run P w=r
   intro h
   match r,h with
   | .ok (.value u) w',h=>exact ⟨kp u,h.2⟩
   | .ok .skip w',h=>exact ⟨kp undef,h.2⟩
   | .ok (.defer d) w',h=>exact ⟨kd d undef,h.2⟩
   | .ok (.enter f args) w',h=>
     refine Calls.mono (show Calls P f args w' _ from h) fun e w'' he=> ?_
     cases e with
     |returned u=>exact ⟨kp u,he.2⟩
     |panicked c=>exact he
     |outgrown=>exact he
   | .ok (.row row args) w',h=>exact Rows.mono (show Rows P row args w' _ from h) fun u w'' he=>⟨kp u,he.2⟩
   | .halt (.panic u) w',h=>exact h
  ·exact .inr h
 ·rw [if_neg hw] at h2 ⊢
  exact ⟨kp undef,h2.2⟩
end
section
variable {P:Program} {ops:Array Oper} {Q:Exit→Act→World→Prop} {md:Region.Mode} {F:Array Bool→Act→World→Prop} {q:Nat}
def abG (F:Array Bool→Act→World→Prop) (q:Nat) (i:Nat) (d:Option Tmp) (v:Value):Prop:=∀listed a w,F (listed.setIfInBounds i true) (a.put d v) w↔F listed a w
theorem Qq {i:Nat} {oj:Oper} {listed:Array Bool} (hr:i∈Region.ready md ops listed) (haft:∀x∈oj.after,Region.binds md x=true→listed.getD x.on false=true):∀x∈oj.after,Region.binds md x=true→x.on≠i:=fun x hx hb hq=>by
 have h1:=haft x hx hb
 have h0:=(mem_ready.1 hr).1
 rw [hq] at h1
 rcases Nat.lt_or_ge i listed.size with h'|h'
 ·simp [h'] at h0 h1;rw [h0] at h1;cases h1
 ·simp [Array.getElem?_eq_none h'] at h1
theorem ag4 {i:Nat} {oi:Oper} {v:Value} (hi:ops[i]? =some oi) (hiq:i≠q) (hsel:∀(j:Nat) (o:Oper) cs b,ops[j]? =some o→o.op≠ .select cs b) (hQ:∀c a w,Q (.panic c) (a.put oi.dst v) w→Q (.panic c) a w) (hF:abG F q i oi.dst v):
 ∀(k:Nat) (listed:Array Bool) (a:Act) (w:World),
  (∀j oj,ops[j]? =some oj→j≠i→listed.getD j true=false→(∀e∈oj.after,Region.binds md e=true→e.on≠i)→oi.apart ops oj=true)→
  i∈Region.ready md ops listed→yS P ops oi v a→(listed.getD q true=false→F listed a w)→
  WF P md ops Q F q k (listed.setIfInBounds i true) (a.put oi.dst v) w→(listed.getD q true=false→∀w',F (listed.setIfInBounds i true) (a.put oi.dst v) w'→WF P md ops Q F q k (listed.setIfInBounds i true) (a.put oi.dst v) w')→WF P md ops Q F q (k+1) listed a w:=by
 intro k
 have yc:∀listed:Array Bool,(listed.setIfInBounds i true).getD q true=listed.getD q true:=fun listed=>getD_set_ne true hiq
 induction k with
 |zero=>
  intro listed a w _ hr hy hf H H2
  refine ⟨fun h=>(by rw [h] at hr;cases hr),fun j hj=> ?_⟩
  by_cases e:j=i
  ·subst e
   exact hy.op hi ⟨fun _=>H,fun hq=>⟨(hF listed a w).2 (hf (by rw [←yc];exact hq)),H2 (by rw [←yc];exact hq)⟩⟩
  ·have:=ready_mono hj e
   rw [H.1] at this
   cases this
 |succ k ih=>
  intro listed a w hfree hr hy hf H H2
  refine ⟨fun h=>(by rw [h] at hr;cases hr),fun j hj=> ?_⟩
  by_cases e:j=i
  ·subst e
   exact hy.op hi ⟨fun _=>H,fun hq=>⟨(hF listed a w).2 (hf (by rw [←yc];exact hq)),H2 (by rw [←yc];exact hq)⟩⟩
  ·obtain ⟨hjn,oj,hoj,haft⟩:=mem_ready.1 hj
   have hno:=Qq hr haft
   have h2:=Ul hoj (hfree j oj hoj e hjn hno) (fun cs b=>hsel i oi cs b hi) (fun cs b=>hsel j oj cs b hoj) hQ (fun a=>yS P ops oi v a) (fun _ _ h1 h2 h=>h.same h1 h2) hy.y hy (H.2 j (ready_mono hj e))
   have hfree':∀k' ok,ops[k']? =some ok→k'≠i→(listed.setIfInBounds j true).getD k' true=false→(∀e∈ok.after,Region.binds md e=true→e.on≠i)→oi.apart ops ok=true:=by
    intro k' ok hk hki hun hn
    refine hfree k' ok hk hki ?_ hn
    by_cases hjk:j=k'
    ·subst hjk;exact hjn
    ·rw [getD_set_ne true hjk] at hun;exact hun
   have hcm:(listed.setIfInBounds i true).setIfInBounds j true=(listed.setIfInBounds j true).setIfInBounds i true:=Array.setIfInBounds_comm _ _ (Ne.symm e)
   refine wpOp_mono (fun a' w' h3=> ?_) h2
   obtain ⟨hy',h4,h5⟩:=h3
   rw [hcm] at h4 h5
   have hqj:((listed.setIfInBounds j true).setIfInBounds i true).getD q true=(listed.setIfInBounds j true).getD q true:=yc _
   rw [hqj] at h4 h5
   refine ⟨fun hq=> ?_,fun hq=> ?_⟩
   ·exact ih _ a' w' hfree' (ready_mono hr (Ne.symm e)) hy' (fun h=>by rw [hq] at h;cases h) (h4 hq) (fun h=>by rw [hq] at h;cases h)
   ·obtain ⟨hf',hw'⟩:=h5 hq
    have hb:=hF (listed.setIfInBounds j true) a'
    refine ⟨(hb w').1 hf',fun w'' xq=> ?_⟩
    exact ih _ a' w'' hfree' (ready_mono hr (Ne.symm e)) hy' (fun _=>xq) (hw' w'' ((hb w'').2 xq)) (fun _ w3 h3=>hw' w3 h3)
def Closed (md:Region.Mode) (ops:Array Oper) (listed:Array Bool):Prop:=∀j o,listed.getD j false=true→ops[j]? =some o→∀e∈o.after,Region.binds md e=true→listed.getD e.on false=true
theorem Closed.set {listed:Array Bool} (h:Closed md ops listed) {j:Nat} (hj:j∈Region.ready md ops listed):Closed md ops (listed.setIfInBounds j true):=by
 intro k o hk ho e he hb
 have hmono:∀x,listed.getD x false=true→(listed.setIfInBounds j true).getD x false=true:=fun x hx=>getD_set_true hx
 by_cases hkj:k=j
 ·subst hkj
  obtain ⟨_,o',ho',hall⟩:=mem_ready.1 hj
  rw [ho] at ho';cases ho'
  exact hmono _ (hall e he hb)
 ·have:listed.getD k false=true:=by rwa [getD_set_ne false (Ne.symm hkj)] at hk
  exact hmono _ (h k o this ho e he hb)
theorem adD {i:Nat} {oi:Oper} {v:Value} (hi:ops[i]? =some oi) (hiq:i≠q) (hsel:∀(j:Nat) (o:Oper) cs b,ops[j]? =some o→o.op≠ .select cs b) (hQ:∀c a w,Q (.panic c) (a.put oi.dst v) w→Q (.panic c) a w) (hF:abG F q i oi.dst v)
 (aqv:∀listed:Array Bool,Closed md ops listed→listed.getD i true=false→q∉Region.ready md ops listed) {ι:Type} (S:ι→World→Prop) (hS:∀listed a w,listed.getD q true=false→F listed a w→∃x,S x w∧∀w',S x w'→F listed a w'):
 ∀(k:Nat) (listed:Array Bool) (a:Act),Closed md ops listed→
  (∀j oj,ops[j]? =some oj→j≠i→listed.getD j true=false→(∀e∈oj.after,Region.binds md e=true→e.on≠i)→oi.apart ops oj=true)→
  i∈Region.ready md ops listed→(∀x,zF P ops (S x) oi v a)→listed.getD q true=false→
  (∀w',F (listed.setIfInBounds i true) (a.put oi.dst v) w'→WF P md ops Q F q k (listed.setIfInBounds i true) (a.put oi.dst v) w')→∀w,F listed a w→WF P md ops Q F q (k+1) listed a w:=by
 intro k
 have yc:∀listed:Array Bool,(listed.setIfInBounds i true).getD q true=listed.getD q true:=fun listed=>getD_set_ne true hiq
 induction k with
 |zero=>
  intro listed a _ _ hr hy hq0 H w hf
  refine ⟨fun h=>(by rw [h] at hr;cases hr),fun j hj=> ?_⟩
  by_cases e:j=i
  ·subst e
   obtain ⟨x,hx,hk⟩:=hS listed a w hq0 hf
   refine (hy x).op hi hx fun w' hs'=>⟨fun hq=>(by rw [yc,hq0] at hq;cases hq),fun _=>⟨(hF listed a w').2 (hk w' hs'),H⟩⟩
  ·have:=ready_mono hj e
   rw [(H w ((hF listed a w).2 hf)).1] at this
   cases this
 |succ k ih=>
  intro listed a hcl hfree hr hy hq0 H w hf
  refine ⟨fun h=>(by rw [h] at hr;cases hr),fun j hj=> ?_⟩
  by_cases e:j=i
  ·subst e
   obtain ⟨x,hx,hk⟩:=hS listed a w hq0 hf
   refine (hy x).op hi hx fun w' hs'=>⟨fun hq=>(by rw [yc,hq0] at hq;cases hq),fun _=>⟨(hF listed a w').2 (hk w' hs'),H⟩⟩
  ·obtain ⟨hjn,oj,hoj,haft⟩:=mem_ready.1 hj
   have hno:=Qq hr haft
   have hjq:j≠q:=fun h=>aqv listed hcl (mem_ready.1 hr).1 (h ▸ hj)
   obtain ⟨x,hx,hk⟩:=hS listed a w hq0 hf
   have hw1:=(H w ((hF listed a w).2 hf)).2 j (ready_mono hj e)
   have h2:=Ul hoj (hfree j oj hoj e hjn hno) (fun cs b=>hsel i oi cs b hi) (fun cs b=>hsel j oj cs b hoj) hQ (fun a=>∀x,zF P ops (S x) oi v a) (fun _ _ h1 h2 h x=>(h x).same h1 h2) (hy x) hy hw1
   have hfree':∀k' ok,ops[k']? =some ok→k'≠i→(listed.setIfInBounds j true).getD k' true=false→(∀e∈ok.after,Region.binds md e=true→e.on≠i)→oi.apart ops ok=true:=by
    intro k' ok hk hki hun hn
    refine hfree k' ok hk hki ?_ hn
    by_cases hjk:j=k'
    ·subst hjk;exact hjn
    ·rw [getD_set_ne true hjk] at hun;exact hun
   have hcm:(listed.setIfInBounds i true).setIfInBounds j true=(listed.setIfInBounds j true).setIfInBounds i true:=Array.setIfInBounds_comm _ _ (Ne.symm e)
   refine wpOp_mono (fun a' w' h3=> ?_) h2
   obtain ⟨hy',h4,h5⟩:=h3
   rw [hcm] at h4 h5
   have hqj:(listed.setIfInBounds j true).getD q true=false:=by rw [getD_set_ne true hjq];exact hq0
   have hqi:((listed.setIfInBounds j true).setIfInBounds i true).getD q true=false:=(yc _).trans hqj
   obtain ⟨hf',hw'⟩:=h5 hqi
   refine ⟨fun hq=>(by rw [hqj] at hq;cases hq),fun _=>⟨(hF _ a' w').1 hf',?_⟩⟩
   exact ih _ a' (hcl.set hj) hfree' (ready_mono hr (Ne.symm e)) hy' hqj hw'

def waits (ops:Array Oper) (q i:Nat):Bool:=match ops[q]? with
 |some o=>o.after.any fun e=>Region.binds .any e&&e.on==i
 |none=>false
def reach (ops:Array Oper):Nat→Nat→Nat→Bool
 |0,j,i=>waits ops j i
 |k+1,j,i=>waits ops j i || (match ops[j]? with
  |some o=>o.after.any fun e=>Region.binds .any e&&reach ops k e.on i
  |none=>false)
theorem KI {j i:Nat} (h:waits ops j i=true) {listed:Array Bool} (hall:∀o,ops[j]? =some o→∀e∈o.after,Region.binds .any e=true→listed.getD e.on false=true):listed.getD i false=true:=by
 unfold waits at h
 cases ho:ops[j]? with
 |none=>rw [ho] at h;cases h
 |some o=>
  rw [ho] at h
  simp only at h
  obtain ⟨k,hk,he⟩:=Array.any_eq_true.1 h
  simp only [Bool.and_eq_true,beq_iff_eq] at he
  rw [←he.2]
  exact hall o ho _ (Array.getElem_mem hk) he.1
theorem Ux {listed:Array Bool} (hc:Closed .any ops listed) {i:Nat} :∀(k j:Nat),reach ops k j i=true→(∀o,ops[j]? =some o→∀e∈o.after,Region.binds .any e=true→listed.getD e.on false=true)→listed.getD i false=true
 |0,j,h,hall=>KI h hall
 |k+1,j,h,hall=>by
  unfold reach at h
  rcases Bool.or_eq_true_iff.1 h with h|h
  ·exact KI h hall
  ·cases ho:ops[j]? with
   |none=>rw [ho] at h;cases h
   |some o=>
    rw [ho] at h
    simp only at h
    obtain ⟨x,hx,he⟩:=Array.any_eq_true.1 h
    simp only [Bool.and_eq_true] at he
    have hl:=hall o ho _ (Array.getElem_mem hx) he.1
    exact Ux hc k _ he.2 (fun o' ho' e' he' hb'=>hc _ o' hl ho' e' he' hb')
theorem ado {k i:Nat} (h:reach ops k q i=true) (listed:Array Bool) (hc:Closed .any ops listed) (hl:listed.getD i true=false):q∉Region.ready .any ops listed:=by
 intro hr
 obtain ⟨_,o,ho,hall⟩:=mem_ready.1 hr
 have h2:=Ux hc k q h (fun o' ho' e he hb=>by rw [ho] at ho';cases ho';exact hall e he hb)
 rcases Nat.lt_or_ge i listed.size with h'|h'
 ·simp [h'] at h2 hl;rw [hl] at h2;cases h2
 ·simp [Array.getElem?_eq_none h'] at h2
inductive kS (P:Program) (ops:Array Oper) (Q:Exit→Act→World→Prop) {ι:Type} (S:ι→World→Prop) (q:Nat) (E:Act→Prop):Nat→List Oper→Act→Prop
 |nil {i a} :E a→kS P ops Q S q E i [] a
 |pure {i o rest a} (v:Value):(∀c a w,Q (.panic c) (a.put o.dst v) w→Q (.panic c) a w)→yS P ops o v a→kS P ops Q S q E (i+1) rest (a.put o.dst v)→kS P ops Q S q E i (o::rest) a
 |read {i o rest a} (v:Value):(∀c a w,Q (.panic c) (a.put o.dst v) w→Q (.panic c) a w)→reach ops 6 q i=true→(∀x,zF P ops (S x) o v a)→kS P ops Q S q E (i+1) rest (a.put o.dst v)→kS P ops Q S q E i (o::rest) a
def pz (ops:Array Oper) (p q:Nat) (dp:Option Tmp):Nat→Nat→Array Bool→Bool
 |0,_,_=>true
 |k+1,i,listed=>i != p&&(i != q&&((match ops[i]? with|some o=>o.dst != dp || dp==none|none=>false)&&(Region.free .any ops listed i&&((Region.ready .any ops listed).contains i&&pz ops p q dp k (i+1) (listed.setIfInBounds i true)))))
def lX:Nat→Nat→Array Bool→Array Bool
 |0,_,listed=>listed
 |k+1,i,listed=>lX k (i+1) (listed.setIfInBounds i true)
theorem yO {ι:Type} {S:ι→World→Prop} {E:Act→Prop} {p:Nat} {dp:Option Tmp} {F:Array Bool→Act→World→Prop} (hs:Region.noSelect ops=true) (hS:∀listed a w,listed.getD q true=false→F listed a w→∃x,S x w∧∀w',S x w'→F listed a w')
 (hB:∀i d v,i≠p→i≠q→(d≠dp∨dp=none)→abG F q i d v) (k0:Nat):∀(l:List Oper) (i:Nat) (listed:Array Bool) (a:Act),Closed .any ops listed→listed.getD q true=false→(∀j,j<l.length→l[j]? =ops[i+j]?)→pz ops p q dp l.length i listed=true→
  (∀a,E a→∀w,F (lX l.length i listed) a w→WF P .any ops Q F q k0 (lX l.length i listed) a w)→kS P ops Q S q E i l a→∀w,F listed a w→WF P .any ops Q F q (k0+l.length) listed a w
 |[],i,listed,a,_,_,_,_,hE,h=>by
  cases h with
  |nil h=>exact hE a h
 |o::rest,i,listed,a,hcl,hq0,hl,ho,hE,h=>by
  simp only [List.length_cons,pz,Bool.and_eq_true,bne_iff_ne,ne_eq] at ho
  obtain ⟨hp,hq,hd,hf,hr,ho⟩:=ho
  have hi:ops[i]? =some o:=by simpa using (hl 0 (by simp)).symm
  rw [hi] at hd
  simp only [Bool.or_eq_true,bne_iff_ne,ne_eq,beq_iff_eq] at hd
  have hl':∀j,j<rest.length→rest[j]? =ops[i+1+j]? :=fun j hj=>by have:=hl (j+1) (by simp;omega);simpa [Nat.add_assoc,Nat.add_comm 1 j] using this
  have hq1:(listed.setIfInBounds i true).getD q true=false:=by rw [getD_set_ne true hq];exact hq0
  have aoc:Closed .any ops (listed.setIfInBounds i true):=hcl.set (by simpa using hr)
  cases h with
  |pure v hQ hy h=>
   have ih:=yO hs hS hB k0 rest (i+1) (listed.setIfInBounds i true) (a.put o.dst v) aoc hq1 hl' ho hE h
   intro w hw
   exact ag4 hi hq (Region.noSelect_spec hs) hQ (hB i o.dst v hp hq hd) (k0+rest.length) listed a w (Region.free_spec hi hf) (by simpa using hr) hy (fun _=>hw) (ih w ((hB i o.dst v hp hq hd listed a w).2 hw)) (fun _ w' hw'=>ih w' hw')
  |read v hQ hwt hy h=>
   have ih:=yO hs hS hB k0 rest (i+1) (listed.setIfInBounds i true) (a.put o.dst v) aoc hq1 hl' ho hE h
   exact adD hi hq (Region.noSelect_spec hs) hQ (hB i o.dst v hp hq hd) (fun listed hc hl=>ado hwt listed hc hl) S hS (k0+rest.length) listed a hcl (Region.free_spec hi hf) (by simpa using hr) hy hq0 ih
theorem Ed (md:Region.Mode) (n:Nat):Closed md ops (Array.replicate n false):=fun j o h=>by
 rcases Nat.lt_or_ge j n with h'|h'<;>simp [h'] at h
def qJ (ops:Array Oper):Nat→Nat→Array Bool→Bool
 |0,_,listed=>(Region.ready .any ops listed).isEmpty
 |k+1,i,listed=>Region.ready .any ops listed==[i]&&(decide (i<listed.size)&&qJ ops k (i+1) (listed.setIfInBounds i true))
theorem Fh {F:Array Bool→Act→World→Prop} :∀(l:List Oper) (i:Nat) (listed:Array Bool) (a:Act) (w:World),(∀j,l[j]? =ops[i+j]?)→(i=q∨listed.getD q true=true)→qJ ops l.length i listed=true→wpList P ops Q l a w→WF P .any ops Q F q l.length listed a w
 |[],i,listed,a,w,_,_,hc,h=>by
  refine ⟨by simpa [qJ] using hc,?_⟩
  unfold wpList at h;exact h
 |o::rest,i,listed,a,w,hl,hq,hc,h=>by
  simp only [List.length_cons,qJ,Bool.and_eq_true,beq_iff_eq,decide_eq_true_eq] at hc
  obtain ⟨h1,hsz,h2⟩:=hc
  have hi:ops[i]? =some o:=by simpa using (hl 0).symm
  have hl':∀j,rest[j]? =ops[i+1+j]? :=fun j=>by have:=hl (j+1);simpa [Nat.add_assoc,Nat.add_comm 1 j] using this
  have hq1:(listed.setIfInBounds i true).getD q true=true:=by
   rcases hq with rfl|hq
   ·simp [hsz]
   ·by_cases e:i=q
    ·subst e;simp [hsz]
    ·rw [getD_set_ne true e];exact hq
  refine ⟨fun e=>(by rw [h1] at e;cases e),fun j hj=> ?_⟩
  rw [h1] at hj
  obtain rfl:j=i:=by simpa using hj
  have h3:wpOp P ops Q j (fun a' w'=>wpList P ops Q rest a' w') a w:=by
   unfold wpOp
   rw [hi]
   simp only
   unfold wpList at h
   exact h
  exact wpOp_mono (fun a' w' h'=>⟨fun _=>Fh rest (j+1) _ a' w' hl' (.inr hq1) h2 h',fun e=>by rw [hq1] at e;cases e⟩) h3
end
section
variable {L:World→Prop} {w0 w:World} {rows:List Row} {Q:Exit→Act→World→Prop} {a:Act}
def SX (L:World→Prop) (w0:World) (rows:List Row) (e:Option (Array Value × Nat)):Option Nat→World→Prop
 |none=>St L w0 rows
 |some g=>match e with
  |some (z,T)=>St L w0 (rows++[(g,z,T)])
  |none=>St L w0 rows
theorem SX.get {e:Option (Array Value × Nat)} {x:Option Nat} {w:World} (h:SX L w0 rows e x w):∃X,St L w0 (rows++X) w∧∀w',St L w0 (rows++X) w'→SX L w0 rows e x w':=by
 cases x with
 |none=>exact ⟨[],by simpa using (show St L w0 rows w from h),fun w' h'=>by rw [List.append_nil] at h';exact h'⟩
 |some g=>
  cases e with
  |none=>exact ⟨[],by simpa using (show St L w0 rows w from h),fun w' h'=>by rw [List.append_nil] at h';exact h'⟩
  |some e=>exact ⟨[(g,e.1,e.2)],h,fun w' h'=>h'⟩
theorem YX {id:Nat} {l:List Oper} (n:Nat) (hS:St L w0 rows w) (hs:Region.noSelect l.toArray=true) (ho:pz l.toArray n n none (l.take n).length 0 (Array.replicate l.length false)=true)
 (hq:(lX (l.take n).length 0 (Array.replicate l.length false)).getD n true=false) (hc:qJ l.toArray (l.drop n).length n (lX (l.take n).length 0 (Array.replicate l.length false))=true) (hq0:(Array.replicate l.length false).getD n true=false)
 (h:kS Tryz.prog l.toArray Q (SX L w0 rows none) n (fun a=>∀w,St L w0 rows w→wpList Tryz.prog l.toArray Q (l.drop n) a w) 0 (l.take n) a):(Code.region id l.toArray true).wp Tryz.prog Q a w:=by
 have hlen:(l.drop n).length+(l.take n).length=l.length:=by simp;omega
 have h1:=yO (p:=n) (dp:=none) (F:=fun listed _ w=>if listed.getD n true=true then True else St L w0 rows w) hs
  (fun listed a w hq hf=>⟨none,show St L w0 rows w by simpa only [hq,Bool.false_eq_true,if_false] using hf,fun w' (hw':St L w0 rows w')=>by simpa only [hq,Bool.false_eq_true,if_false] using hw'⟩)
  (fun i d v hp hq _ listed a w=>by simp only [getD_set_ne true hq]) (l.drop n).length (l.take n) 0 (Array.replicate l.length false) a (Ed _ _) hq0
  (fun j hj=>by rw [Nat.zero_add,List.getElem?_take,if_pos (by simp at hj;omega)];simp) ho
  (fun a he w hf=>Fh (l.drop n) n _ a w (fun j=>by simp [List.getElem?_drop]) (.inl rfl) hc (he w (by simpa only [hq,Bool.false_eq_true,if_false] using hf))) h
 refine wp_region_any Tryz.follows_mixed ?_
 rw [hlen] at h1
 have:=qF _ _ _ _ (h1 w.drew (by simpa only [hq0,Bool.false_eq_true,if_false] using hS.drew))
 simpa using this
theorem qU {id:Nat} {l:List Oper} (n:Nat) (hn:l.length=n+1) (hS:St L w0 rows w) (hs:Region.noSelect l.toArray=true) (ho:pz l.toArray n n none (l.take n).length 0 (Array.replicate l.length false)=true)
 (hq:(lX (l.take n).length 0 (Array.replicate l.length false)).getD n true=false) (hc:qJ l.toArray (l.drop n).length n (lX (l.take n).length 0 (Array.replicate l.length false))=true) (hq0:(Array.replicate l.length false).getD n true=false)
 (h:kS Tryz.prog l.toArray Q (SX L w0 rows none) n (fun a=>∀w,St L w0 rows w→wpList Tryz.prog l.toArray Q (l.drop n) a w) 0 (l.take n) a):(Code.region id l.toArray true).wp Tryz.prog Q a w:=YX n hS hs ho hq hc hq0 h
variable {ops:Array Oper} {e:Option (Array Value × Nat)} {q:Nat} {E:Act→Prop} {o:Oper} {rest:List Oper} {i:Nat}
theorem ku {v:Value} (hw:Region.wanted o (yielded ops a.tmps)=true) (hq:∀c a w,Q (.panic c) (a.put o.dst v) w→Q (.panic c) a w) (hwt:reach ops 6 q i=true) (hy:∀X w,St L w0 (rows++X) w→(execOp a.eval o).run Tryz.prog w= .ok (.value v) w)
 (h:kS Tryz.prog ops Q (SX L w0 rows e) q E (i+1) rest (a.put o.dst v)):kS Tryz.prog ops Q (SX L w0 rows e) q E i (o::rest) a:=
 .read v hq hwt (fun x=> .inl ⟨hw,fun w hS=>by
  obtain ⟨X,h1,h2⟩:=hS.get
  rw [hy X w h1];exact ⟨rfl,hS⟩⟩) h
theorem oO (k:Nat) {args:Array Value} {v:Value} (hw:Region.wanted o (yielded ops a.tmps)=true) (hq:∀c a w,Q (.panic c) (a.put o.dst v) w→Q (.panic c) a w) (hwt:reach ops 6 q i=true) (hy:∀w,(execOp a.eval o).run Tryz.prog w= .ok (.enter k args) w)
 (hc:∀X w,St L w0 (rows++X) w→Calls Tryz.prog k args w fun e w'=>e= .returned v∧St L w0 (rows++X) w') (h:kS Tryz.prog ops Q (SX L w0 rows e) q E (i+1) rest (a.put o.dst v)):kS Tryz.prog ops Q (SX L w0 rows e) q E i (o::rest) a:=
 .read v hq hwt (fun x=> .inl ⟨hw,fun w hS=>by
  obtain ⟨X,h1,h2⟩:=hS.get
  rw [hy w];exact (hc X w h1).mono fun _ _ h'=>⟨h'.1,h2 _ h'.2⟩⟩) h
theorem lQ {S:Option Nat→World→Prop} {v:Value} (hw:Region.wanted o (yielded ops a.tmps)=true) (hq:∀c a w,Q (.panic c) (a.put o.dst v) w→Q (.panic c) a w) (hy:∀w,(execOp a.eval o).run Tryz.prog w= .ok (.value v) w)
 (h:kS Tryz.prog ops Q S q E (i+1) rest (a.put o.dst v)):kS Tryz.prog ops Q S q E i (o::rest) a:= .pure v hq (.inl ⟨hw,hy⟩) h
theorem ajf {S:Option Nat→World→Prop} {x y:Operand} {ty:TypeId} (ho:o.op= .binOp .add 9 x y ty) (hw:Region.wanted o (yielded ops a.tmps)=true) {p r:Str} (hx:a.eval x= .string (B p)) (hy:a.eval y= .string (B r)) (hb:p.length+r.length≤9223372036854775807)
 (hq:∀c a w,Q (.panic c) (a.put o.dst (.string (B (p++r)))) w→Q (.panic c) a w) (h:kS Tryz.prog ops Q S q E (i+1) rest (a.put o.dst (.string (B (p++r))))):kS Tryz.prog ops Q S q E i (o::rest) a:=
 lQ hw hq (fun w=>RU ho hx hy hb w) h
theorem pF {S:Option Nat→World→Prop} (h:E a):kS Tryz.prog ops Q S q E i [] a:= .nil h
variable {S:Option Nat→World→Prop} {dst:Option Tmp} {ty:TypeId} {pos:String} {af:Array Edge} {gd:Option (Nat × Bool)}
theorem yR {T:Nat} {x:Operand} (h:kS Tryz.prog ops Q S q E i ((⟨dst, .load T x,ty,pos,af,gd⟩:Oper)::rest) a):kS Tryz.prog ops Q S q E i ((⟨dst, .load T x,ty,pos,af,gd⟩:Oper)::rest) a:=h
theorem Ia {c:Call} (h:kS Tryz.prog ops Q S q E i ((⟨dst, .call c,ty,pos,af,gd⟩:Oper)::rest) a):kS Tryz.prog ops Q S q E i ((⟨dst, .call c,ty,pos,af,gd⟩:Oper)::rest) a:=h
theorem am6 {x y:Operand} {t:TypeId} (h:kS Tryz.prog ops Q S q E i ((⟨dst, .binOp .add 9 x y t,ty,pos,af,gd⟩:Oper)::rest) a):kS Tryz.prog ops Q S q E i ((⟨dst, .binOp .add 9 x y t,ty,pos,af,gd⟩:Oper)::rest) a:=h
theorem pX (h:kS Tryz.prog ops Q S q E i (o::rest) a):kS Tryz.prog ops Q S q E i (o::rest) a:=h
theorem sS (h:kS Tryz.prog ops Q S q E i [] a):kS Tryz.prog ops Q S q E i [] a:=h
end
end Go.Proofs.YtdicgggkdmkklaaGreatDoor
namespace Go.Proofs.YtdicgggkdmkklaaGreatDoor
open Go.ChangeShapes Go.WideShapes Go.RowKit
def an1 {L w0 rows ops rest o a Q e q i E x} ho hw hwt {g} hx {r:Em} {T'} hm hq h:=
 @ku L w0 rows Q a ops e q E o rest i (.agg (Rf.cells r.ref)) hw hq hwt (fun X w hS=> @kF L w0 w (rows++X) o a hS 61 x ho g 1 hx _ _ T' (cZ.app hm X) (WV r) _ Tryz.underlying61 rfl CY) h
def ald {L w0 rows ops rest o a Q e q i E x} ho hw hwt {g} hx {r:Em} {T'} hm hq h:=
 @ku L w0 rows Q a ops e q E o rest i (.agg (Am.cells r.amt)) hw hq hwt (fun X w hS=> @kF L w0 w (rows++X) o a hS 63 x ho g 19 hx _ _ T' (cZ.app hm X) (TM r) _ Tryz.underlying63 rfl Bv) h
def ale {L w0 rows ops rest o a Q e q i E x} ho hw hwt {g} hx {r:Em} {T'} hm hq h:=
 @ku L w0 rows Q a ops e q E o rest i (.int .i64 r.ctr) hw hq hwt (fun X w hS=> @gB L w0 w (rows++X) o a hS 3 x ho g 38 hx _ T' (cZ.app hm X) kJ _ (aaR r)) h
def alf {L w0 rows ops rest o a Q e q i E x} ho hw hwt {g} hx {r:Em} {T'} hm hq h:=
 @ku L w0 rows Q a ops e q E o rest i (.int .i64 r.zone) hw hq hwt (fun X w hS=> @gB L w0 w (rows++X) o a hS 3 x ho g 39 hx _ T' (cZ.app hm X) kJ _ (aaS r)) h
def alg {L w0 rows ops rest o a Q e q i E x} ho hw hwt {g} hx {r:Em} {T'} hm hq h:=
 @ku L w0 rows Q a ops e q E o rest i (.agg (aH.cells r.flt)) hw hq hwt (fun X w hS=> @kF L w0 w (rows++X) o a hS 25 x ho g 41 hx _ _ T' (cZ.app hm X) (TN r) _ Tryz.underlying25 rfl vM) h
def alh {L w0 rows ops rest o a Q e q i E x} ho hw hwt {g} hx {r:Em} {T'} hm hq h:=
 @ku L w0 rows Q a ops e q E o rest i (.agg (Po.cells r.pool)) hw hq hwt (fun X w hS=> @kF L w0 w (rows++X) o a hS 65 x ho g 57 hx _ _ T' (cZ.app hm X) (TP r) _ Tryz.underlying65 rfl vT) h
def ali {L w0 rows ops rest o a Q e q i E x} ho hw hwt {g} hx {r:Em} {T'} hm hq h:=
 @ku L w0 rows Q a ops e q E o rest i (.slice r.mods.a r.mods.n r.mods.c) hw hq hwt (fun X w hS=> @gB L w0 w (rows++X) o a hS 26 x ho g 63 hx _ T' (cZ.app hm X) azF _ (aaT r)) h
def ap4 {L w0 rows ops rest o a Q e q i E x} ho hw hwt {g} hx {r:Us} {T'} hm hq h:=
 @ku L w0 rows Q a ops e q E o rest i (.bool r.ref) hw hq hwt (fun X w hS=> @gB L w0 w (rows++X) o a hS 4 x ho g 0 hx _ T' (cZ.app hm X) rQ _ (aha r)) h
def ap5 {L w0 rows ops rest o a Q e q i E x} ho hw hwt {g} hx {r:Us} {T'} hm hq h:=
 @ku L w0 rows Q a ops e q E o rest i (.bool r.amt) hw hq hwt (fun X w hS=> @gB L w0 w (rows++X) o a hS 4 x ho g 1 hx _ T' (cZ.app hm X) rQ _ (ahb r)) h
def ap6 {L w0 rows ops rest o a Q e q i E x} ho hw hwt {g} hx {r:Us} {T'} hm hq h:=
 @ku L w0 rows Q a ops e q E o rest i (.bool r.ctr) hw hq hwt (fun X w hS=> @gB L w0 w (rows++X) o a hS 4 x ho g 2 hx _ T' (cZ.app hm X) rQ _ (ahc r)) h
def ap7 {L w0 rows ops rest o a Q e q i E x} ho hw hwt {g} hx {r:Us} {T'} hm hq h:=
 @ku L w0 rows Q a ops e q E o rest i (.bool r.zone) hw hq hwt (fun X w hS=> @gB L w0 w (rows++X) o a hS 4 x ho g 3 hx _ T' (cZ.app hm X) rQ _ (ahd r)) h
def ap8 {L w0 rows ops rest o a Q e q i E x} ho hw hwt {g} hx {r:Us} {T'} hm hq h:=
 @ku L w0 rows Q a ops e q E o rest i (.bool r.flt) hw hq hwt (fun X w hS=> @gB L w0 w (rows++X) o a hS 4 x ho g 5 hx _ T' (cZ.app hm X) rQ _ (ahe r)) h
def ap9 {L w0 rows ops rest o a Q e q i E x} ho hw hwt {g} hx {r:Us} {T'} hm hq h:=
 @ku L w0 rows Q a ops e q E o rest i (.bool r.pool) hw hq hwt (fun X w hS=> @gB L w0 w (rows++X) o a hS 4 x ho g 6 hx _ T' (cZ.app hm X) rQ _ (ahf r)) h
def aqa {L w0 rows ops rest o a Q e q i E x} ho hw hwt {g} hx {r:Us} {T'} hm hq h:=
 @ku L w0 rows Q a ops e q E o rest i (.bool r.mods) hw hq hwt (fun X w hS=> @gB L w0 w (rows++X) o a hS 4 x ho g 7 hx _ T' (cZ.app hm X) rQ _ (ahg r)) h
end Go.Proofs.YtdicgggkdmkklaaGreatDoor
