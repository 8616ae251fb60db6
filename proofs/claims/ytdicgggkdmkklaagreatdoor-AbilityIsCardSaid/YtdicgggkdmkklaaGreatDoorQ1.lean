/- Plain words on texts (lists of bytes): no program in sight. Conditions: none. Plain words on memory: slices that the call owns, lists of texts and numbers in memory. No program in sight. Conditions -/
import Derived.Lib.Strings
import Derived.Lib.IndexMore
import Derived.WalkKit
import Derived.Lib.Hide
import Derived.Below
import Derived.Laws.OwnMore
import Derived.Deep.Draws
import Derived.WalkSpells
import Derived.OneCell
import Derived.Lib.SplitLaws
import Derived.Lib.Join
import Derived.Lib.IndexBytes
import Derived.Lib.ItoaLen
import Derived.Test.YtdicgggkdmkklaaGreatDoorProg
import Derived.Outline
import Derived.Laws.StructEq
import Derived.Laws.CopyRow
import Derived.Test.YtdicgggkdmkklaaGreatDoorShelf
import Derived.WalkLawsBesides
import Derived.Lib.ConvBytes
import Derived.ChangeAgain
import Derived.Lib.AppendIntMem
import Derived.Lib.ItoaMem
set_option linter.all false
set_option maxRecDepth 100000
set_option maxHeartbeats 16000000
namespace Go.Proofs.YtdicgggkdmkklaaGreatDoor
open Go.RowKit
abbrev Str:=List UInt8
def B (l:Str):ByteArray:=⟨l.toArray⟩
def L (s:ByteArray):Str:=s.data.toList
@[simp] theorem cO (l:Str):L (B l)=l:=rfl
@[simp] theorem qV (s:ByteArray):B (L s)=s:=rfl
theorem dZ (s:ByteArray):s.toList=L s:=Lib.toList_data s
theorem lC {a b:ByteArray} (h:L a=L b):a=b:=by rw [←qV a,h,qV]
@[simp] theorem asb (l:Str):(B l).data.toList=l:=rfl
@[simp] theorem Fz (l:Str):(B l).toList=l:=by unfold B;simp
@[simp] theorem bC (l:Str):(B l).size=l.length:=by unfold B;simp [ByteArray.size]
theorem ru (l m:Str):B l++B m=B (l++m):=by
 apply ByteArray.ext;simp [B,ByteArray.data_append]
theorem dV {a b:ByteArray} (h:a=b):Ending.returned (.string a)= .returned (.string b):=by rw [h]
theorem aX {a b:Bool} (h:a=b):Ending.returned (.bool a)= .returned (.bool b):=by rw [h]
theorem jg {k:IntKind} {a b:Int} (h:a=b):Ending.returned (.int k a)= .returned (.int k b):=by rw [h]
theorem ret_val {a b:Value} (h:a=b):Ending.returned a= .returned b:=by rw [h]
def jJ (n m:Int):Bool:=decide (0≤n)&&decide (n≤m)
def gq:List Str→Nat→Str→Nat
 |[],_,_=>0
 |x::r,k,s=>if x==s then 2 ^ k else gq r (k+1) s
theorem LC {T:List Str} {k:Nat} {s:Str} (hk:k<T.length) (h:(T.getD k []==s)=true):gq (T.drop k) k s=2 ^ k:=by
 have:T.drop k=T.getD k []::T.drop (k+1):=by rw [List.drop_eq_getElem_cons hk];simp [List.getD,hk]
 rw [this,gq,if_pos h]
theorem IQ {T:List Str} {k:Nat} {s:Str} (hk:k<T.length) (h:(T.getD k []==s)=false):gq (T.drop k) k s=gq (T.drop (k+1)) (k+1) s:=by
 have:T.drop k=T.getD k []::T.drop (k+1):=by rw [List.drop_eq_getElem_cons hk];simp [List.getD,hk]
 rw [this,gq,if_neg (by rw [h];simp)]
theorem Dp {k:Nat} (h:k<31):wrap64 ((2:Int) ^ k)=((2 ^ k:Nat):Int):=by
 have h1:(2:Nat) ^ k≤2 ^ 31:=Nat.pow_le_pow_right (by omega) (by omega)
 have:((2:Int) ^ k)=((2 ^ k:Nat):Int):=by norm_cast
 rw [this];generalize (2:Nat) ^ k=m at *
 exact IntWalk.i64_left (m:Int) ▸ IntWalk.i64_in _ ⟨by omega,by omega⟩
def pG:List Str:=[[98,97,115,105,99],[117,110,105,113,117,101]]
def aO:List Str:=[[99,114,101,97,116,117,114,101],[105,110,115,116,97,110,116],[114,105,116,117,97,108],[114,101,108,105,99],[99,104,97,114,109],[108,97,110,100]]
def aI (l:Str) (k:Nat):Nat:=(l.getD k 0).toNat
def tZ (l:Str):Bool:=decide (0<l.length)&&(decide (l.length≤32)&&(decide (97≤aI l 0)&&(decide (aI l 0≤122)&&(!(aI l (l.length - 1)==45)&& !Lib.contains l [45,45]))))
def okb (n:Nat):Bool:=(decide (97≤n)&&decide (n≤122)) || ((decide (48≤n)&&decide (n≤57)) || n==45)
def XI (c:UInt8):Bool:=okb c.toNat
def wR (l:Str):Bool:=l.all XI
theorem abO {l:Str} {k:Nat} (h:k<l.length):wR (l.drop k)=(okb (aI l k)&&wR (l.drop (k+1))):=by
 unfold wR;rw [List.drop_eq_getElem_cons h,List.all_cons];simp [aI,XI,List.getD,h]
theorem afQ {n:Nat} (h:okb n=false):((n:Int)<97∨122<(n:Int))∧((n:Int)<48∨57<(n:Int))∧((n:Int) != 45)=true:=by
 simp only [okb,Bool.or_eq_false_iff,Bool.and_eq_false_iff,decide_eq_false_iff_not,beq_eq_false_iff_ne,bne_iff_ne,ne_eq] at h ⊢;omega
theorem alV {n:Nat} (h:okb n=true):(97≤(n:Int)∧(n:Int)≤122)∨(48≤(n:Int)∧(n:Int)≤57∧(n:Int)<97)∨((n:Int)<97∧(n:Int)<48∧((n:Int) != 45)=false):=by
 simp only [okb,Bool.or_eq_true,Bool.and_eq_true,decide_eq_true_eq,beq_iff_eq,bne_eq_false_iff_eq] at h ⊢;omega
def isName (l:Str):Bool:=tZ l&&wR l
theorem jm (s:ByteArray):∀(n:Nat) (h:n<s.size),(s[n]'h).toNat=aI (L s) n:=fun n h=>by
 have h':n<s.data.size:=h
 simp [aI,L,List.getD,ByteArray.getElem_eq_getElem_data,Array.getElem?_eq_getElem h']
theorem dN (s:ByteArray):(L s).length=s.size:=(Lib.size_eq s).symm
theorem BZ (n:Int) (h₀:0≤n) (h₁:n<2 ^ 63):IntKind.i64.wrap n=n:=IntWalk.i64_in n ⟨by omega,by omega⟩
theorem LW (a b:Nat) (ha:a<2 ^ 63) (hb:b<2 ^ 63):bits .and .i64 (a:Int) (b:Int)=((a&&& b:Nat):Int):=(bits_nat .i64 63 (by decide) BZ a b ha hb).1
theorem Gi (a b:Nat) (ha:a<2 ^ 63) (hb:b<2 ^ 63):bits .or .i64 (a:Int) (b:Int)=((a |||b:Nat):Int):=(bits_nat .i64 63 (by decide) BZ a b ha hb).2
theorem FD (m k:Nat) (h:m<2 ^ 31):(bits .and .i64 ((m:Int) / 2 ^ k) 1==1)=m.testBit k:=by
 have e:((m:Int) / 2 ^ k)=((m / 2 ^ k:Nat):Int):=by norm_cast
 have hd:m / 2 ^ k<2 ^ 63:=Nat.lt_of_le_of_lt (Nat.div_le_self _ _) (by omega)
 rw [e,show (1:Int)=((1:Nat):Int) from rfl,LW _ _ hd (by decide),Nat.and_one_is_mod,Nat.testBit_eq_decide_div_mod_eq]
 rw [Bool.eq_iff_iff];simp;norm_cast
def aK (m k:Nat):List Nat:=(List.range k).filter (fun i=>m.testBit i)
theorem qI {m k:Nat} (h:m.testBit k=true):aK m (k+1)=aK m k++[k]:=by
 unfold aK;rw [List.range_succ,List.filter_append];simp [h]
theorem oL {m k:Nat} (h:m.testBit k=false):aK m (k+1)=aK m k:=by
 unfold aK;rw [List.range_succ,List.filter_append];simp [h]
theorem nD (m k:Nat):(aK m k).length≤k:=by
 unfold aK;exact Nat.le_trans (List.length_filter_le _ _) (by simp)
theorem Zd {m k i:Nat} (h:i∈aK m k):i<k:=by
 unfold aK at h;simp at h;exact h.1
def bV (T:List Str) (m:Nat):List Str:=(aK m 31).map fun i=>T.getD i []
theorem uw {m k i n:Nat} (hm:m<2 ^ n) (h:i∈aK m k):i<n:=by
 unfold aK at h;simp at h
 rcases Nat.lt_or_ge i n with h'|h'
 ·exact h'
 ·have:=Nat.testBit_lt_two_pow (Nat.lt_of_lt_of_le hm (Nat.pow_le_pow_right (by omega) h'));rw [this] at h;exact absurd h.2 (by decide)
theorem Aa {α β:Type} (f:α→β) (l:List α) (k:Nat) (h:k<l.length):(l.take (k+1)).map f=(l.take k).map f++[f l[k]]:=by
 rw [List.take_succ_eq_append_getElem h,List.map_append];rfl
def intCells (l:List Nat):List Value:=l.map fun i=> .int .i64 ((i:Nat):Int)
def strCells (l:List Str):List Value:=l.map fun s=> .string (B s)
theorem Ve (l:List Nat) (i:Nat):intCells l++[.int .i64 ((i:Nat):Int)]=intCells (l++[i]):=by simp [intCells]
theorem IB (l:List Str) (s:ByteArray):strCells l++[.string s]=strCells (l++[L s]):=by simp [strCells]
theorem strCells_length (l:List Str):(strCells l).length=l.length:=by simp [strCells]
def aY:List Str:=[[97,109,98,101,114],[99,111,98,97,108,116],[106,101,116],[114,117,98,121],[101,109,101,114,97,108,100]]
def bK:List Str:=[[102,108,121,105,110,103],[114,101,97,99,104],[104,97,115,116,101],[118,105,103,105,108,97,110,116],[116,114,97,109,112,108,101],[102,105,114,115,116,45,115,116,114,105,107,101],[100,111,117,98,108,101,45,115,116,114,105,107,101],[100,101,97,100,108,121],[108,105,102,101,108,105,110,107],[109,101,110,97,99,101],[100,101,102,101,110,100,101,114],[119,97,114,100,101,100],[115,116,117,114,100,121],[101,108,117,115,105,118,101],[110,111,45,97,116,116,97,99,107],[110,111,45,98,108,111,99,107],[109,117,115,116,45,97,116,116,97,99,107]]
def pJ:Str:=[110,111,110,101]
theorem XK {w:World} {base e n:Nat} {v:Value} {xs:List Value} (h:w.ownsRow base e 1 v n xs):∃A c,v= .slice A n c∧n≤c:=by
 rcases h.2 with ⟨rfl,rfl⟩|⟨g,cap,cur,rfl,_,_,hn,_⟩
 ·exact ⟨none,0,rfl,Nat.le_refl _⟩
 ·exact ⟨_,cap,rfl,hn⟩
theorem JM {w:World} {base e n c k:Nat} {A:Option Addr} {xs:List Value} (h:w.ownsRow base e 1 (.slice A n c) n xs) (hk:k<n):
 ∃g,A=some ⟨g,0,none⟩∧base≤g∧g<w.heap.size∧∀j,j<n→w.cell? ⟨g,j,none⟩=xs[j]? :=by
 rcases h.2 with ⟨_,rfl⟩|⟨g,cap,cur,hv,hg,hh,hn,_⟩
 ·omega
 ·have hA:A=some ⟨g,0,none⟩:=by injection hv
  have hlt:=(h.lt g (by simp [Value.ownBlock,hA])).2
  subst hA
  refine ⟨g,rfl,hg,hlt,fun j hj=>h.cellAt j (by omega)⟩
theorem own_base {w:World} {base base' e size n:Nat} {v:Value} {xs:List Value} (h:w.ownsRow base e size v n xs) (hb:base'≤base):w.ownsRow base' e size v n xs:=by
 obtain ⟨h1,h2⟩:=h
 exact ⟨h1,h2.imp id fun ⟨g,cap,cur,hv,hg,r⟩=>⟨g,cap,cur,hv,by omega,r⟩⟩
theorem own_below {w w':World} {base e size n:Nat} {v:Value} {xs:List Value} (h:w.ownsRow base e size v n xs) (hb:Below w.heap.size w w'):w'.ownsRow base e size v n xs:=by
 obtain ⟨h1,h2⟩:=h
 refine ⟨h1,h2.imp id fun ⟨g,cap,cur,hv,hg,hh,r⟩=>⟨g,cap,cur,hv,hg,?_,r⟩⟩
 rw [hb.block g (Array.getElem?_eq_some_iff.1 hh).1];exact hh
theorem oK {B:Nat} {a b c:World} (h:Below B a b) (k:Below b.heap.size b c) (hB:B≤b.heap.size):Below B a c:=h.trans (k.mono hB)
theorem aaC {a b c:World} (h:Below a.heap.size a b) (k:Below b.heap.size b c):Below a.heap.size a c:=h.trans (k.mono h.size)
theorem below_drewN {B:Nat} {a w:World} (h:Below B a w) (n:Nat):Below B a (w.drewN n):=⟨h.os,h.tape,h.output,h.size,h.block⟩
theorem cell_below {w w':World} (h:Below w.heap.size w w') {g j:Nat} {v:Value} (hc:w.cell? ⟨g,j,none⟩=some v):w'.cell? ⟨g,j,none⟩=some v:=
 (h.cell (World.block_lt_of_cell? w _ hc)).trans hc
theorem ZF {l:List Nat} {k:Nat} (h:k<l.length):(intCells l)[k]? =some (.int .i64 ((l[k]:Nat):Int)):=by simp [intCells,h]
theorem sO {l:List Str} {k:Nat} (h:k<l.length):(strCells l)[k]? =some (.string (B l[k])):=by simp [strCells,h]
def Texts (w:World) (base:Nat) (l:List Str) (v:Value):Prop:=w.ownsRow base 9 1 v l.length (strCells l)
def Nums (w:World) (base:Nat) (l:List Nat) (v:Value):Prop:=w.ownsRow base 3 1 v l.length (intCells l)
theorem Texts.nil (w:World) (base:Nat):Texts w base [] (.slice none 0 0):=World.ownsRow_nil _ _ _ _
theorem Texts.form {w:World} {base:Nat} {l:List Str} {v:Value} (h:Texts w base l v):∃A c,v= .slice A l.length c∧l.length≤c:=XK h
theorem Nums.form {w:World} {base:Nat} {l:List Nat} {v:Value} (h:Nums w base l v):∃A c,v= .slice A l.length c∧l.length≤c:=XK h
theorem Texts.base {w:World} {base base':Nat} {l:List Str} {v:Value} (h:Texts w base l v) (hb:base'≤base):Texts w base' l v:=own_base h hb
theorem Texts.below {w w':World} {base:Nat} {l:List Str} {v:Value} (h:Texts w base l v) (hb:Below w.heap.size w w'):Texts w' base l v:=own_below h hb
theorem Nums.below {w w':World} {base:Nat} {l:List Nat} {v:Value} (h:Nums w base l v) (hb:Below w.heap.size w w'):Nums w' base l v:=own_below h hb
theorem Nums.at_ {w:World} {base c k:Nat} {A:Option Addr} {l:List Nat} (h:Nums w base l (.slice A l.length c)) (hk:k<l.length):
 ∃g,A=some ⟨g,0,none⟩∧g<w.heap.size∧w.cell? ⟨g,k,none⟩=some (.int .i64 ((l[k]:Nat):Int)):=by
 obtain ⟨g,hA,_,hg,hc⟩:=JM h hk
 exact ⟨g,hA,hg,(hc k hk).trans (ZF hk)⟩
theorem Texts.at_ {w:World} {base c k:Nat} {A:Option Addr} {l:List Str} (h:Texts w base l (.slice A l.length c)) (hk:k<l.length):
 ∃g,A=some ⟨g,0,none⟩∧g<w.heap.size∧w.cell? ⟨g,k,none⟩=some (.string (B l[k])):=by
 obtain ⟨g,hA,_,hg,hc⟩:=JM h hk
 exact ⟨g,hA,hg,(hc k hk).trans (sO hk)⟩
theorem yT {W w':World} {b:Nat} (h:Below b W w') {g j:Nat} {v:Value} (hg:g<b) (hc:W.cell? ⟨g,j,none⟩=some v):w'.cell? ⟨g,j,none⟩=some v:=
 (h.cell (p:=⟨g,j,none⟩) hg).trans hc
end Go.Proofs.YtdicgggkdmkklaaGreatDoor
namespace Go.Proofs.YtdicgggkdmkklaaGreatDoor
open Go.ChangeShapes Go.WideShapes Go.RowKit
theorem dH {P:Program} {ops:Array Oper} {rest:List Oper} {o:Oper} {a:Act} {Q:Exit→Act→World→Prop} {w:World} (hgd:o.guard=none) (s x:Operand) (t:TypeId)
 (ho:o.op= .call { callee:= .builtin .append,args:=#[s,x],argTypes:=#[t,t] }) (ht:P.underlying t=some (.slice 9))
 (Xa:(P.info? 9).map (fun i=>(i.zero,i.size,i.bytes))=some (some (.string ByteArray.empty),1,16))
 {base:Nat} {l:List Str} {v:Value} {n:ByteArray} (hs:a.eval s=v) (hx:a.eval x= .slice (some ⟨w.heap.size,0,none⟩) 1 1) (hown:Texts w base l v)
 (hlen:l.length<1000000000) (hb:base≤w.heap.size)
 (h:∀v' w',Texts w' base (l++[L n]) v'→Below base w w'→wpList P ops Q rest (a.put o.dst v') w'):
 wpList P ops Q (o::rest) a (w.alloc (.cells #[.string n] 9)):=by
 obtain ⟨i0,hi,hz0,hz1,hz2⟩:=info_parts Xa
 refine wpList_append_own _ hgd s x t ho base 9 i0 (.string ByteArray.empty) 1 16 ht hi hz0 hz1 hz2 rfl (by decide) v l.length (strCells l) hs (hown.alloc _) ⟨w.heap.size,0,none⟩ 1 1 [.string n] hx rfl (cell_one_new _ _ _) ?_ (by unfold maxLen;omega) (by omega) (by simp;omega) ?_
 ·intro u hu;simp at hu;subst hu;rfl
 ·intro v' w' h1 h2 _
  refine h v' w' ?_ (((Below.refl base w).alloc hb _).grown h2 (by simp;omega) (fun g hg=>(hown.lt g hg).1))
  unfold Texts
  rw [IB] at h1
  simpa using h1
theorem Lr {P:Program} {ops:Array Oper} {rest:List Oper} {o:Oper} {a:Act} {Q:Exit→Act→World→Prop} {w:World} (hgd:o.guard=none) (s x:Operand) (t:TypeId)
 (ho:o.op= .call { callee:= .builtin .append,args:=#[s,x],argTypes:=#[t,t] }) (ht:P.underlying t=some (.slice 9))
 (Xa:(P.info? 9).map (fun i=>(i.zero,i.size,i.bytes))=some (some (.string ByteArray.empty),1,16))
 {base:Nat} {l:List Str} {v:Value} {n:ByteArray} (hs:a.eval s=v) (hx:a.eval x= .slice (some ⟨w.heap.size,0,none⟩) 1 1) (hown:Texts w base l v)
 (hlen:l.length<1000000000) (hb:base≤w.heap.size)
 (h:∀v' w',Texts w' base (l++[L n]) v'→Below base w w'→(∀k,k<w.heap.size→some k≠v.ownBlock→w'.heap[k]? =w.heap[k]?)→wpList P ops Q rest (a.put o.dst v') w'):
 wpList P ops Q (o::rest) a (w.alloc (.cells #[.string n] 9)):=by
 obtain ⟨i0,hi,hz0,hz1,hz2⟩:=info_parts Xa
 refine wpList_append_own _ hgd s x t ho base 9 i0 (.string ByteArray.empty) 1 16 ht hi hz0 hz1 hz2 rfl (by decide) v l.length (strCells l) hs (hown.alloc _) ⟨w.heap.size,0,none⟩ 1 1 [.string n] hx rfl (cell_one_new _ _ _) ?_ (by unfold maxLen;omega) (by omega) (by simp;omega) ?_
 ·intro u hu;simp at hu;subst hu;rfl
 ·intro v' w' h1 h2 _
  refine h v' w' ?_ (((Below.refl base w).alloc hb _).grown h2 (by simp;omega) (fun g hg=>(hown.lt g hg).1)) (fun k hk hne=>(h2.block k (by simp;omega) hne).trans (Below.heap_alloc w _ k hk))
  unfold Texts
  rw [IB] at h1
  simpa using h1
def Wr (t:Nat) (w:World) (b g:Nat) (l:List Str):Prop:=∃v,w.heap[g]? =some (.cells #[v] t (0,0))∧b≤g∧Texts w b l v
theorem Wr.below {t:Nat} {w w':World} {b g:Nat} {l:List Str} (h:Wr t w b g l) (hb:Below w.heap.size w w'):Wr t w' b g l:=by
 obtain ⟨v,h1,h2,h3⟩:=h
 exact ⟨v,(hb.block g (Array.getElem?_eq_some_iff.1 h1).1).trans h1,h2,h3.below hb⟩
theorem Nj {w:World} {b:Nat} {l:List Str} {v:Value} (h:Texts w b l v) {k:Nat} (hk:v.ownBlock=some k):∃cs,w.heap[k]? =some (.cells cs 9 (0,0)):=by
 rcases h.2 with ⟨rfl,_⟩|⟨g,cap,cur,rfl,_,hg,_⟩
 ·cases hk
 ·simp [Value.ownBlock] at hk
  subst hk;exact ⟨cur,hg⟩
theorem Wr.lt {t:Nat} {w:World} {b g:Nat} {l:List Str} (h:Wr t w b g l):g<w.heap.size∧b≤g:=by
 obtain ⟨v,h1,h2,_⟩:=h
 exact ⟨(Array.getElem?_eq_some_iff.1 h1).1,h2⟩
theorem Vx {w:World} {b g:Nat} {t:Nat} {l:List Str} {v u:Value} {x:Value} (ht:t≠9) (hg:w.heap[g]? =some (.cells #[x] t (0,0))) (h:Texts w b l v):Texts (w.setCell ⟨g,0,none⟩ u) b l v:=by
 obtain ⟨h1,h2⟩:=h
 refine ⟨h1,h2.imp id fun ⟨k,cap,cur,hv,hk,hh,r⟩=>⟨k,cap,cur,hv,hk,?_,r⟩⟩
 rw [Below.heap_setCell _ _ _ _ (fun e=>by subst e;rw [hg] at hh;injection hh with hh;injection hh with _ h9 _;exact ht h9)];exact hh
theorem Wr.stored {t:Nat} {w:World} {b g:Nat} {l:List Str} {v x:Value} (ht:t≠9) (hg:w.heap[g]? =some (.cells #[x] t (0,0))) (hb:b≤g) (h:Texts w b l v):Wr t (w.setCell ⟨g,0,none⟩ v) b g l:=by
 refine ⟨v,?_,hb,Vx ht hg h⟩
 simp [World.setCell,Array.getElem?_modify,hg]
theorem one_cell {w:World} {g t:Nat} {x:Value} (hg:w.heap[g]? =some (.cells #[x] t (0,0))):w.cell? ⟨g,0,none⟩=some x:=by rw [cell_of_row w g 0 _ t _ hg];rfl
theorem aiH {w:World} {g t:Nat} {x:Value} (hg:w.heap[g]? =some (.cells #[x] t (0,0))):w.frozen? ⟨g,0,none⟩=false:=by simp [World.frozen?,hg]
def Keep (g:Nat) (w w':World):Prop:=w.heap.size≤w'.heap.size∧∀k o,w.heap[k]? =some o→k≠g→(∀cs fr,o≠ .cells cs 9 fr)→w'.heap[k]? =some o
theorem Keep.refl (g:Nat) (w:World):Keep g w w:=⟨Nat.le_refl _,fun _ _ h _ _=>h⟩
theorem Keep.trans {g:Nat} {a b c:World} (h:Keep g a b) (k:Keep g b c):Keep g a c:=⟨Nat.le_trans h.1 k.1,fun i o ho hi hn=>k.2 i o (h.2 i o ho hi hn) hi hn⟩
theorem Keep.of_below {g:Nat} {w w':World} (h:Below w.heap.size w w'):Keep g w w':=⟨h.size,fun k o ho _ _=>(h.block k (Array.getElem?_eq_some_iff.1 ho).1).trans ho⟩
theorem Nums.keep {g t:Nat} {w w':World} {base:Nat} {l:List Nat} {v x:Value} (h:Nums w base l v) (hk:Keep g w w') (hg:w.heap[g]? =some (.cells #[x] t (0,0))) (ht:t≠3):Nums w' base l v:=by
 obtain ⟨h1,h2⟩:=h
 refine ⟨h1,h2.imp id fun ⟨k,cap,cur,hv,hb,hh,r⟩=>⟨k,cap,cur,hv,hb,?_,r⟩⟩
 exact hk.2 k _ hh (fun e=>by subst e;rw [hg] at hh;injection hh with hh;injection hh with _ h9 _;exact ht h9) (fun cs fr e=>by injection e with _ h9 _;exact absurd h9 (by decide))
theorem Wr.block {t:Nat} {w:World} {b g:Nat} {l:List Str} (h:Wr t w b g l):∃v,w.heap[g]? =some (.cells #[v] t (0,0)):=by
 obtain ⟨v,h1,_⟩:=h;exact ⟨v,h1⟩
theorem Fv {P:Program} {ops:Array Oper} {rest:List Oper} {o:Oper} {a:Act} {Q:Exit→Act→World→Prop} {w:World} (hgd:o.guard=none) (s x:Operand) (t:TypeId)
 (ho:o.op= .call { callee:= .builtin .append,args:=#[s,x],argTypes:=#[t,t] }) (ht:P.underlying t=some (.slice 9))
 (Xa:(P.info? 9).map (fun i=>(i.zero,i.size,i.bytes))=some (some (.string ByteArray.empty),1,16))
 {base g tw:Nat} {l:List Str} {v:Value} {n:ByteArray} (htw:tw≠9) (hs:a.eval s=v) (hx:a.eval x= .slice (some ⟨w.heap.size,0,none⟩) 1 1)
 (hg:Hid (w.heap[g]? =some (.cells #[v] tw (0,0)))) (hbg:base≤g) (hown:Texts w base l v)
 (hlen:l.length<1000000000)
 (h:∀A2 c2 w',w'.cell? ⟨g,0,none⟩=some v→w'.frozen? ⟨g,0,none⟩=false→
  Hid (Wr tw (w'.setCell ⟨g,0,none⟩ (.slice A2 (l.length+1) c2)) base g (l++[L n])∧Below base w (w'.setCell ⟨g,0,none⟩ (.slice A2 (l.length+1) c2))∧Keep g w (w'.setCell ⟨g,0,none⟩ (.slice A2 (l.length+1) c2)))→
  wpList P ops Q rest (a.put o.dst (.slice A2 (l.length+1) c2)) w'):
 wpList P ops Q (o::rest) a (w.alloc (.cells #[.string n] 9)):=by
 have hg:=hg.out
 have hgl:g<w.heap.size:=(Array.getElem?_eq_some_iff.1 hg).1
 refine Lr hgd s x t ho ht Xa hs hx hown hlen (by omega) ?_
 intro v' w2 hown2 hb2 hk2
 obtain ⟨A2,c2,hv2,atc⟩:=hown2.form
 rw [show (l++[L n]).length=l.length+1 by simp] at hv2
 subst hv2
 have hg2:w2.heap[g]? =some (.cells #[v] tw (0,0)):=(hk2 g hgl (fun e=>by
  obtain ⟨cs,hcs⟩:=Nj hown e.symm
  rw [hg] at hcs;injection hcs with hcs;injection hcs with _ h9 _;exact htw h9)).trans hg
 refine h A2 c2 w2 (one_cell hg2) (aiH hg2) (Lib.hid ⟨Wr.stored htw hg2 hbg hown2,hb2.setCell hbg _,?_⟩)
 refine ⟨by simp [World.setCell];exact hb2.size,fun k o ho hkg hn=> ?_⟩
 rw [Below.heap_setCell _ _ _ _ hkg]
 refine (hk2 k (Array.getElem?_eq_some_iff.1 ho).1 (fun e=> ?_)).trans ho
 obtain ⟨cs,hcs⟩:=Nj hown e.symm
 rw [ho] at hcs;injection hcs with hcs;exact hn _ _ hcs
def bf (l:List Str) (s:Str):List Str:=if s=[] then l else l++[s]
theorem iG (l:List Str) (s:Str):(bf l s).length≤l.length+1:=by unfold bf;split<;>simp
end Go.Proofs.YtdicgggkdmkklaaGreatDoor
namespace Go.Proofs.YtdicgggkdmkklaaGreatDoor
def splitOn (c:UInt8):Str→List Str
 |[]=>[[]]
 |x::r=>if x==c then []::splitOn c r else match splitOn c r with
  |[]=>[[x]]
  |h::t=>(x::h)::t
theorem zq (c:UInt8):∀s,(splitOn c s).length≤s.length+1
 |[]=>by simp [splitOn]
 |x::r=>by
  have:=zq c r
  unfold splitOn;split
  ·simp;omega
  ·split
   ·simp
   ·rename_i h;rw [h] at this;simp at this ⊢;omega
theorem fA (x y:Str) (r:List Str) (sep:Str):Lib.join (x::y::r) sep=x++sep++Lib.join (y::r) sep:=by
 rw [Lib.join_cons,Lib.join_cons];simp [Lib.joinTail]
theorem Qv (c:UInt8):∀s:Str,Lib.splitK [c] 0 (Lib.count s [c]) s=splitOn c s
 |[]=>by rw [Lib.count_one];rfl
 |x::r=>by
  have ih:=Qv c r
  by_cases hx:x=c
  ·subst hx
   have hix:Lib.index (x::r) [x]=((0:Nat):Int):=by rw [Lib.index];simp [List.isPrefixOf]
   rw [Lib.count_cons_eq,Nat.add_comm,Lib.splitK,hix]
   simp [splitOn,ih]
  ·rw [Lib.count_cons_ne x c r hx]
   have hxb:(x==c)=false:=by simpa using hx
   rw [splitOn,if_neg (by rw [hxb];decide),←ih]
   have hp:([c]:List UInt8).isPrefixOf (x::r)=false:=by simp [List.isPrefixOf,Ne.symm hx]
   have hix:Lib.index (x::r) [c]=if Lib.index r [c]== -1 then -1 else Lib.index r [c]+1:=by rw [Lib.index,hp];simp
   cases hk:Lib.count r [c] with
   |zero=>rfl
   |succ k=>
    have hge:=Lib.index_ge r [c]
    have hne:Lib.index r [c]≠ -1:=fun e=>by rw [Lib.count_miss e] at hk;omega
    obtain ⟨j,hj⟩:∃j:Nat,Lib.index r [c]=j:=⟨(Lib.index r [c]).toNat,by omega⟩
    have hj1:((j:Int)== -1)=false:=by rw [beq_eq_false_iff_ne];omega
    have hj2:(((j:Int)+1)== -1)=false:=by rw [beq_eq_false_iff_ne];omega
    rw [hj,hj1] at hix
    have hix':Lib.index (x::r) [c]=(j:Int)+1:=by simpa using hix
    rw [Lib.splitK,Lib.splitK,hix',hj,hj1,hj2]
    have e1:((j:Int)+1).toNat=j+1:=by omega
    simp [e1]
theorem ajl (c:UInt8) (s:ByteArray):(Lib.splitB ⟨#[c]⟩ 0 (Lib.countB s ⟨#[c]⟩) s).map L=splitOn c (L s):=by
 have h:=Lib.splitB_data ⟨#[c]⟩ 0 (Lib.countB s ⟨#[c]⟩) s
 exact h.trans (Qv c (L s))
theorem join_le (sep:Str) (K:Nat):∀(l:List Str),(∀x∈l,x.length≤K)→(Lib.join l sep).length≤l.length * (K+sep.length)
 |[],_=>by simp [Lib.join_nil]
 |[x],h=>by rw [Lib.join_one];have:=h x (by simp);simp;omega
 |x::y::r,h=>by
  have ih:=join_le sep K (y::r) (fun z hz=>h z (List.mem_cons_of_mem _ hz))
  have hx:=h x (by simp)
  rw [fA];simp only [List.length_append,List.length_cons] at ih ⊢
  rw [Nat.add_mul (r.length+1) 1];omega
def bU:List Str:=[[],[105,110,45,104,97,110,100],[105,110,45,108,105,98,114,97,114,121],[105,110,45,103,114,97,118,101,121,97,114,100],[105,110,45,101,120,105,108,101],[111,110,45,115,116,97,99,107]]
def iQ:List Str:=[[],[121,111,117,114,115],[116,104,101,105,114,115]]
def fU:List Str:=[[],[115,101,108,102],[111,116,104,101,114]]
def iP:List Str:=[[],[116,97,112,112,101,100],[117,110,116,97,112,112,101,100]]
def fV:List Str:=[[],[62,61],[60,61],[61]]
def dD:Str:=[110,111,110,45]
def fZ:Str:=[119,105,116,104,58]
def iM:Str:=[115,117,98,58]
def nP:Str:=[97,110,121]
def eP:Str:=[112,111,119,101,114]
def fE:Str:=[116,111,117,103,104]
def fH:Str:=[118,97,108,117,101]
def wd (T:List Str) (i:Nat):Str:=T.getD i []
theorem l7 {T:List Str} {K:Nat} (h:∀x∈T,x.length≤K) (i:Nat):(wd T i).length≤K:=by
 unfold wd
 rcases Nat.lt_or_ge i T.length with h'|h'
 ·simp only [List.getD,List.getElem?_eq_getElem h',Option.getD_some];exact h _ (List.getElem_mem h')
 ·simp [List.getD,List.getElem?_eq_none h']
def aZ (l:List Str) (p:Str) (T:List Str) (m:Nat):List Str:=((aK m 31).map (fun i=>p++wd T i)).foldl bf l
theorem uI (ss l:List Str):(ss.foldl bf l).length≤l.length+ss.length:=by
 induction ss generalizing l with
 |nil=>simp
 |cons x r ih=>have h1:=ih (bf l x);have h2:=iG l x;simp only [List.foldl_cons,List.length_cons];omega
theorem oJ (l:List Str) (p:Str) (T:List Str) (m:Nat):(aZ l p T m).length≤l.length+31:=by
 have h1:=uI ((aK m 31).map (fun i=>p++wd T i)) l
 have h2:=nD m 31
 rw [List.length_map] at h1;unfold aZ;omega
def bH (name:Str) (k n:Nat):Str:=if k=0 then [] else name++wd fV k++Lib.itoa n
structure FN where
 zone:Nat
 who:Nat
 self:Nat
 types:Nat
 aV:Nat
 colors:Nat
 aP:Nat
 sub:Str
 keys:Nat
 dJ:Nat
 pk:Nat
 pn:Nat
 tk:Nat
 tn:Nat
 vk:Nat
 vn:Nat
def iV (b:Bool) (f:FN):List Str:=
 bf (bf (bf (bf (aZ (bif b then aZ (aZ (aZ (aZ (bf (bf (bf [] (wd bU f.zone)) (wd iQ f.who)) (wd fU f.self)) [] aO f.types) dD aO f.aV) [] aY f.colors) dD aY f.aP
  else bf (aZ (aZ (aZ (aZ (bf (bf (bf [] (wd bU f.zone)) (wd iQ f.who)) (wd fU f.self)) [] aO f.types) dD aO f.aV) [] aY f.colors) dD aY f.aP) (iM++f.sub)) fZ bK f.keys) (wd iP f.dJ)) (bH eP f.pk f.pn)) (bH fE f.tk f.tn)) (bH fH f.vk f.vn)
def gG (f:FN):List Str:=iV (f.sub==[]) f
def iI (f:FN):Str:=if gG f=[] then nP else Lib.join (gG f) [32]
end Go.Proofs.YtdicgggkdmkklaaGreatDoor
namespace Go.Proofs.YtdicgggkdmkklaaGreatDoor
open Go.ChangeShapes Go.WideShapes Go.RowKit
def QB (i:Nat):ByteArray:=B (pG.getD i [])
def VI (i:Nat):ByteArray:=B (aO.getD i [])
theorem Vw (i:Nat) (hi:i<2) (w:World):
 Calls Tryz.prog 151 #[.int .i64 i] w fun e w'=>e= .returned (.string (QB i))∧w=w':=by
 have i0:∀w,(Instr.index 203 (.agg #[.string ⟨#[98,97,115,105,99]⟩, .string ⟨#[117,110,105,113,117,101]⟩]) (.int .i64 i)).run Tryz.prog w= .ok (.string (QB i)) w:=by
  intro w;rcases i with _|_|i
  ·kernel_rfl
  ·kernel_rfl
  ·omega
 go_enter Tryz.func151,Tryz.ntmps151
 go_wp2
 go_ret
 exact ⟨rfl,rfl⟩
theorem Ky (i:Nat) (hi:i<6) (w:World):
 Calls Tryz.prog 152 #[.int .i64 i] w fun e w'=>e= .returned (.string (VI i))∧w=w':=by
 have i0:∀w,(Instr.index 204 (.agg #[.string ⟨#[99,114,101,97,116,117,114,101]⟩, .string ⟨#[105,110,115,116,97,110,116]⟩, .string ⟨#[114,105,116,117,97,108]⟩, .string ⟨#[114,101,108,105,99]⟩, .string ⟨#[99,104,97,114,109]⟩, .string ⟨#[108,97,110,100]⟩]) (.int .i64 i)).run Tryz.prog w= .ok (.string (VI i)) w:=by
  intro w;rcases i with _|_|_|_|_|_|i
  ·kernel_rfl
  ·kernel_rfl
  ·kernel_rfl
  ·kernel_rfl
  ·kernel_rfl
  ·kernel_rfl
  ·omega
 go_enter Tryz.func152,Tryz.ntmps152
 go_wp2
 go_ret
 exact ⟨rfl,rfl⟩
theorem Wi (s:ByteArray) (w:World):
 Calls Tryz.prog 150 #[.string s, .int .i64 2, .func (.func 151) #[] #[]] w fun e w'=>e= .returned (.int .i64 (gq pG 0 (L s):Nat))∧w=w':=by
 go_enter Tryz.func150,Tryz.ntmps150
 go_wp2
 go_step3
 go_wp2
 go_step3
 go_wp2
 go_loop [9] (fun i=>∃k:Nat,k≤2∧i= .int .i64 k∧Hid (gq (pG.drop k) k (L s)=gq pG 0 (L s))) (fun i=>2 - (intOf i).toNat)
 case atStart=>exact ⟨0,by omega,rfl,rfl⟩
 case round=>
  obtain ⟨k,hk,rfl,hb⟩:=hrel
  by_cases hlt:k<2
  ·go_wp2_with (go_at_call 151;refine (Vw _ hlt _).mono ?_;rintro e w' ⟨rfl,rfl⟩)
   ·rename_i ht
    have hb':Hid (gq (pG.drop (k+1)) (k+1) (L s)=gq pG 0 (L s)):=by
     exact (IQ (T:=pG) (k:=k) hlt (by simpa [QB,dZ] using ht)).symm.trans hb.out
    go_round
    case rel=>exact ⟨k+1,by omega,by go_num,hb'⟩
    case measure=>simp [intOf];omega
   ·rename_i ht
    rw [Exit.noGoto_ret]
    go_ret
    refine ⟨jg ?_,rfl⟩
    rw [Dp (by omega),←hb.out,LC (T:=pG) (k:=k) hlt (by simpa [QB,dZ] using ht)]
  ·go_wp2
   go_ret
   obtain rfl:k=2:=by omega
   exact ⟨jg (by rw [←hb.out];rfl),rfl⟩
theorem LD (s:ByteArray) (w:World):
 Calls Tryz.prog 150 #[.string s, .int .i64 6, .func (.func 152) #[] #[]] w fun e w'=>e= .returned (.int .i64 (gq aO 0 (L s):Nat))∧w=w':=by
 go_enter Tryz.func150,Tryz.ntmps150
 go_wp2
 go_step3
 go_wp2
 go_step3
 go_wp2
 go_loop [9] (fun i=>∃k:Nat,k≤6∧i= .int .i64 k∧Hid (gq (aO.drop k) k (L s)=gq aO 0 (L s))) (fun i=>6 - (intOf i).toNat)
 case atStart=>exact ⟨0,by omega,rfl,rfl⟩
 case round=>
  obtain ⟨k,hk,rfl,hb⟩:=hrel
  by_cases hlt:k<6
  ·go_wp2_with (go_at_call 152;refine (Ky _ hlt _).mono ?_;rintro e w' ⟨rfl,rfl⟩)
   ·rename_i ht
    have hb':Hid (gq (aO.drop (k+1)) (k+1) (L s)=gq aO 0 (L s)):=by
     exact (IQ (T:=aO) (k:=k) hlt (by simpa [VI,dZ] using ht)).symm.trans hb.out
    go_round
    case rel=>exact ⟨k+1,by omega,by go_num,hb'⟩
    case measure=>simp [intOf];omega
   ·rename_i ht
    rw [Exit.noGoto_ret]
    go_ret
    refine ⟨jg ?_,rfl⟩
    rw [Dp (by omega),←hb.out,LC (T:=aO) (k:=k) hlt (by simpa [VI,dZ] using ht)]
  ·go_wp2
   go_ret
   obtain rfl:k=6:=by omega
   exact ⟨jg (by rw [←hb.out];rfl),rfl⟩
theorem oV {w:World} {g t:Nat} {old cs:Array Value} (hg:w.heap[g]? =some (.cells old t (0,0))):(w.setRow g cs).heap[g]? =some (.cells cs t (0,0)):=setRow_heap w g old cs t (0,0) hg
theorem below_setRow {B:Nat} {a w:World} (h:Below B a w) {g:Nat} (hg:B≤g) (cs:Array Value):Below B a (w.setRow g cs):=
 h.trans ⟨rfl,rfl,rfl,by simp [World.setRow],fun k hk=>setRow_other w g k cs (by omega)⟩
theorem yX {p:Prop} [Decidable p] {b c:Bool} {X:Result Value} {w:World} (hb:b=true↔p) (h:X= .ok (.bool c) w):(if p then X else .ok (.bool false) w)= .ok (.bool (b&&c)) w:=by
 by_cases hp:p
 ·rw [if_pos hp,hb.2 hp,h];rfl
 ·rw [if_neg hp];cases hbb:b
  ·rfl
  ·exact absurd (hb.1 hbb) hp
theorem aaD {w w2:World} {k:Nat} {p:Obj} (hb:Below w.heap.size w w2) (h:w.heap[k]? =some p):w2.heap[k]? =some p:=(hb.block k (Array.getElem?_eq_some_iff.1 h).1).trans h
def stored (w:World) (t:Nat) (o cs:Array Value):World:=(w.alloc (.cells o t)).setRow w.heap.size cs
theorem gV {P:Program} {fn:Func} {p q:Tmp} {ty:TypeId} (h:fn.results= #[.cell p ty, .tmp q]) (tmps:Array Value) (w:World) (g:Nat) (t:TypeId) (cs:Array Value) (fr:Nat × Nat) (d:TypeDesc)
 (hp:tmps.getD p undef= .pointer (some ⟨g,0,none⟩)) (hg:w.heap[g]? =some (.cells cs t fr))
 (hu:P.underlying ty=some d) (hd:(match d with| .struct _| .array _ _=>true|_=>false)=true) (hi:(P.info? ty).map (·.size)=some cs.size):
 (results fn tmps).run P w= .ok (.tuple #[.agg cs,tmps.getD q undef]) w:=by
 have hp':tmps[p]?.getD undef= .pointer (some ⟨g,0,none⟩):=by simpa using hp
 simp [results,h,hp',asAddr,run_loadVar_row w g t ty cs fr d hg hu hd hi]
def kR (w:World) (l:List Str) (e:Ending) (w':World):Prop:=∃A c,e= .returned (.slice A l.length c)∧Texts w' w.heap.size l (.slice A l.length c)∧Below w.heap.size w w'
theorem Jc (s sub:ByteArray) (w:World) (h:w.ShapedOpen Tryz.prog) (hs:s.size<4294967281) (l:Str) (hsub:L sub=l):
 Calls Tryz.prog 222 #[.string s, .string sub] w fun e w'=>e= .returned (.bool (Lib.contains (L s) l))∧w=w':=
 (Tryz.strings_Contains_shaped s sub w h hs).mono fun _ _ h=>⟨hsub ▸ h.1,h.2.symm⟩
theorem aiE (s:ByteArray) (h:tZ (L s)=false) (q:((((((s.size:Int)==0)=false∧(s.size:Int)≤32)∧(97:Int)≤(aI (L s) 0:Nat))∧((aI (L s) 0:Nat):Int)≤122)∧(((aI (L s) (s.size - 1):Nat):Int)==45)=false)∧Lib.contains (L s) [45,45]=false):False:=by
 rw [tZ,dN,q.2] at h;have:=q.1
 simp only [Bool.and_eq_false_iff,decide_eq_false_iff_not,Bool.not_eq_false',beq_iff_eq,Bool.not_false,Bool.true_eq_false,or_false] at h
 simp only [beq_eq_false_iff_ne,ne_eq] at this;omega
theorem alP {s:ByteArray} (h:tZ (L s)=true):Lib.contains (L s) [45,45]=false∧(s.size:Int)≤32∧(97:Int)≤(aI (L s) 0:Nat)∧((aI (L s) 0:Nat):Int)≤122∧(((aI (L s) (s.size - 1):Nat):Int)==45)=false:=by
 rw [tZ,dN] at h
 simp only [Bool.and_eq_true,decide_eq_true_eq,Bool.not_eq_true',beq_eq_false_iff_ne] at h ⊢
 exact ⟨h.2.2.2.2.2,by omega,by omega,by omega,by simp;omega⟩
theorem ahn (s:ByteArray) (w:World) (hl:w.ShapedOpen Tryz.prog) (hn:tZ (L s)=false):
 Calls Tryz.prog 149 #[.string s] w fun e w'=>e= .returned (.bool false)∧w=w':=by
 have HN:=Lib.hid hn;clear hn
 rcases Nat.eq_zero_or_pos s.size with h0|h0
 ·obtain rfl:s=ByteArray.empty:=ByteArray.size_eq_zero_iff.1 h0
  go_enter Tryz.func149,Tryz.ntmps149
  go_wp2
  go_ret
  exact ⟨rfl,rfl⟩
 have hg:=jm s
 go_enter Tryz.func149,Tryz.ntmps149
 go_wp2_with (go_at_call 222;refine (Jc _ _ _ hl (by omega) [45,45] rfl).mono ?_;rintro e w' ⟨rfl,rfl⟩)
 all_goals first
  |(go_ret;exact ⟨rfl,rfl⟩)
  |(exfalso;exact aiE s HN.out (by assumption))
theorem Ig (w:World) (e:TypeId) (s:ByteArray) (j:Nat) (hj:j<s.size):(Lib.bytesWorld w e s).cell? ⟨w.heap.size,j,none⟩=some (.int .u8 (aI (L s) j:Nat)):=Lib.bytesWorld_cell w e s j hj
theorem bytesWorld_below (w:World) (e:TypeId) (s:ByteArray):Below w.heap.size w (Lib.bytesWorld w e s):=
 ⟨rfl,rfl,rfl,by rw [Lib.bytesWorld_size];omega,fun k hk=>Lib.bytesWorld_at_old w e s k hk⟩
theorem adM (s:ByteArray) (w:World) (hl:w.ShapedOpen Tryz.prog) (hn:tZ (L s)=true):
 Calls Tryz.prog 149 #[.string s] w fun e w'=>e= .returned (.bool ((wR (L s))))∧Below w.heap.size w w':=by
 have hs:0<s.size:=by rw [tZ,dN] at hn;simp at hn;omega
 have hne:¬s=ByteArray.empty:=fun e=>by subst e;simp at hs
 obtain ⟨hc,t1,t2,t3,t4⟩:=alP hn
 have e0:((s.size:Int)==0)=false:=by simp only [beq_eq_false_iff_ne,ne_eq];omega
 have hc2:=fun wx=>Lib.run_convert_string_bytes (P:=Tryz.prog) wx 9 167 5 s Tryz.underlying9 Tryz.underlying167 Tryz.underlying5
 have hg:=jm s
 go_enter Tryz.func149,Tryz.ntmps149
 go_wp2_with (go_at_call 222;refine (Jc _ _ _ hl (by omega) [45,45] rfl).mono ?_;rintro e w' ⟨rfl,rfl⟩)
 all_goals try (exfalso;omega)
 have hb:=bytesWorld_below w 5 s
 have hcell:=fun j hj=>Ig w 5 s j hj
 clear hc2
 generalize grownCap w s.size 0 5=cap
 generalize Lib.bytesWorld w 5 s=W at *
 go_loop [38] (fun i=>∃k:Nat,k≤s.size∧i= .int .i64 k∧Hid (wR ((L s).drop k)=wR (L s))) (fun i=>s.size - (intOf i).toNat)
 case atStart=>exact ⟨0,by omega,rfl,rfl⟩
 case round=>
  obtain ⟨k,hk,rfl,hal⟩:=hrel
  by_cases hlt:k<s.size
  ·have hck:=hcell k hlt
   have hst:=Lib.hid (abO (l:=L s) (k:=k) (by rw [dN];exact hlt))
   cases hok:okb (aI (L s) k)
   ·obtain ⟨x1,x2,x3⟩:=afQ hok
    have hK:=Lib.hid hok;clear hok
    go_wp2
    all_goals (go_ret;exact ⟨aX (by rw [←hal.out,hst.out,hK.out];rfl),hb⟩)
   ·have hnext:Hid (wR ((L s).drop (k+1))=wR (L s)):=by
     have:=hst.out;rw [hok,Bool.true_and] at this;exact this.symm.trans hal.out
    rcases alV hok with ⟨x1,x2⟩|⟨x1,x2,x3⟩|⟨x1,x2,x3⟩
    all_goals
     clear hok
     go_wp2
     go_round
     case rel=>exact ⟨k+1,by omega,by go_num,hnext⟩
     case measure=>simp [intOf];omega
  ·go_wp2
   go_ret
   obtain rfl:k=s.size:=by omega
   exact ⟨aX (by rw [←hal.out,←dN,List.drop_length];rfl),hb⟩
theorem QD (s:ByteArray) (w:World) (hl:w.ShapedOpen Tryz.prog):
 Calls Tryz.prog 149 #[.string s] w fun e w'=>e= .returned (.bool (isName (L s)))∧Below w.heap.size w w':=by
 unfold isName
 cases h:tZ (L s)
 ·exact (ahn s w hl h).mono fun _ _ ⟨a,b⟩=>⟨a,b ▸ Below.refl _ _⟩
 ·exact (adM s w hl h).mono fun _ _ ⟨a,b⟩=>⟨a,b⟩
def BH:Array Value:=#[.string ⟨#[97,109,98,101,114]⟩, .string ⟨#[99,111,98,97,108,116]⟩, .string ⟨#[106,101,116]⟩, .string ⟨#[114,117,98,121]⟩, .string ⟨#[101,109,101,114,97,108,100]⟩]
structure Laid (w:World):Prop where
 shaped:w.ShapedOpen Tryz.prog
 tab:Lib.TabIs Tryz.prog w "internal/strconv.uint64pow10" .u64 Lib.pow10Tab
 syn:∃te pe,w.cell? ⟨7,0,none⟩=some (.iface te pe)
 rng:∃te pe,w.cell? ⟨8,0,none⟩=some (.iface te pe)
 names:∃ty fr,w.heap[(2:Nat)]? =some (.cells BH ty fr)
 size:(2:Nat)<w.heap.size
theorem UE (s:ByteArray) (c:UInt8) (w:World) (h:w.ShapedOpen Tryz.prog) (hs:s.size<4294967281):
 Calls Tryz.prog 198 #[.string s, .string ⟨#[c]⟩] w (kR w (splitOn c (L s))):=
 (Tryz.strings_Split_shaped s ⟨#[c]⟩ w h hs (Nat.le_refl 1)).mono fun e w' ⟨he,hw⟩=>by
  have hL:=ajl c s
  have hlen:(Lib.splitB ⟨#[c]⟩ 0 (Lib.countB s ⟨#[c]⟩) s).length=Lib.countB s ⟨#[c]⟩+1:=Lib.splitB_all ⟨#[c]⟩ (Nat.le_refl 1) 0 _ s rfl
  have hl2:(splitOn c (L s)).length=Lib.countB s ⟨#[c]⟩+1:=by rw [←hL,List.length_map,hlen]
  have hle:=zq c (L s)
  rw [dN] at hle
  rw [←hl2] at he
  refine ⟨_,_,he,?_,hw ▸ (Below.refl _ _).alloc (Nat.le_refl _) _⟩
  subst hw
  refine ⟨by rw [strCells_length];omega, .inr ⟨w.heap.size,_,_,rfl,Nat.le_refl _,heap_alloc_new w _,Nat.le_refl _,by unfold maxLen;omega,?_,?_⟩⟩
  ·simp [hlen,hl2]
  ·simp only [List.toList_toArray,Nat.mul_one]
   rw [List.take_of_length_le (by simp [hlen,hl2]),←hL,strCells,List.map_map]
   rfl
theorem tH (l:List Str) (A:Option Addr) (c base:Nat) (sep:ByteArray) (w:World) (h:Texts w base l (.slice A l.length c)) (hN:l.length≤100000000) (sl:Str) (hs:L sep=sl) (hlen:(Lib.join l sl).length≤140737488355328):
 Calls Tryz.prog 101 #[.slice A l.length c, .string sep] w fun e w'=>e= .returned (.string (B (Lib.join l sl)))∧Below w.heap.size w w':=by
 subst hs
 cases l with
 |nil=>exact (Tryz.strings_Join_none A c sep w).mono fun e w' ⟨he,hw⟩=>⟨he,hw ▸ Below.refl _ _⟩
 |cons x r=>
  obtain ⟨A',c',hv,hc⟩:=Texts.form h
  have hcc:c'=c:=by injection hv with _ _ h3;exact h3.symm
  subst hcc
  obtain ⟨g,rfl,hb,hg,hcell⟩:=JM h (k:=0) (by simp)
  have hm:((x::r).map B).map (·.data.toList)=x::r:=by rw [List.map_map];exact List.map_id _
  have hcl:∀(j:Nat) y,((x::r).map B)[j]? =some y→w.cell? ⟨g,0+j,none⟩=some (.string y):=by
   intro j y hj
   have hj':j<(x::r).length:=by
    rcases Nat.lt_or_ge j (x::r).length with h'|h'
    ·exact h'
    ·rw [List.getElem?_eq_none (by simpa using h')] at hj;cases hj
   rw [Nat.zero_add,hcell j hj',sO hj']
   rw [List.getElem?_map,List.getElem?_eq_getElem hj'] at hj
   simpa using hj
  have hJ:=Tryz.strings_Join g 0 c' ((x::r).map B) sep w hcl hg (by simp at hN ⊢;omega) (by simpa using hc) (by rw [hm];exact hlen)
  rw [hm,List.length_map] at hJ
  exact hJ
theorem rW (s p:ByteArray) (w:World) (pl:Str) (hp:L p=pl):
 Calls Tryz.prog 120 #[.string s, .string p] w fun e w'=>e= .returned (.tuple #[.string (B (Lib.trimPrefix (L s) pl)), .bool (Lib.hasPrefix (L s) pl)])∧w=w':=by
 subst hp
 exact (Tryz.strings_CutPrefix s p w).mono fun _ _ h=>⟨h.1,h.2.symm⟩
theorem pV (s:ByteArray) (c:UInt8) (w:World):
 Calls Tryz.prog 205 #[.string s, .int .u8 c.toNat] w fun e w'=>e= .returned (.int .i64 (Lib.indexByte (L s) c))∧w=w':=
 (Tryz.strings_IndexByte s c.toNat w).mono fun _ _ h=>⟨by have:=h.1;rwa [Int.toNat_natCast,show c.toNat.toUInt8=c from by simp [Nat.toUInt8]] at this,h.2.symm⟩
theorem aiu (n:Int) (h0: -9223372036854775808≤n) (h1:n≤9223372036854775807) (w:World) (hl:Laid w):
 Calls Tryz.prog 147 #[.int .i64 n] w fun e w'=>e= .returned (.string (B (Lib.itoa n)))∧Below w.heap.size w w':=
 (Tryz.strconv_Itoa n h0 h1 w hl.tab).mono fun e w' ⟨he,k,os,hw⟩=>⟨he,by
  subst hw
  exact ⟨rfl,rfl,rfl,by simp [Sort.grow],fun i hi=>by simp [Sort.grow,Array.getElem?_append,show i<w.heap.size from hi]⟩⟩
theorem Wh (s:ByteArray) (w:World) (hl:Laid w) (hs:s.size<4294967281):
 Calls Tryz.prog 259 #[.string s] w fun e w'=>Below w.heap.size w w'∧((∃v,Lib.atoiAll (L s)= .ok v∧e= .returned (.tuple #[.int .i64 v, .nilIface]))∨((∀v,Lib.atoiAll (L s)≠ .ok v)∧∃v t p,e= .returned (.tuple #[.int .i64 v, .iface t p]))):=by
 cases h:Lib.atoiAll (L s) with
 |ok v=>exact (Tryz.strconv_Atoi_ok s (by omega) v h w).mono fun e w' ⟨he,hw⟩=>⟨by
  rcases hw with rfl|⟨t,rfl⟩
  ·exact Below.refl _ _
  ·exact bytesWorld_below w _ t, .inl ⟨v,rfl,he⟩⟩
 |range=>
  obtain ⟨te,pe,hv⟩:=hl.rng
  exact (Tryz.strconv_Atoi_range s (by omega) h _ w hv (.inr ⟨te,pe,rfl⟩)).mono fun e w' ⟨N,he,_,_,hb⟩=>⟨hb, .inr ⟨(fun v hv=>by cases hv),_,_,_,he⟩⟩
 |_=>
  obtain ⟨te,pe,hv⟩:=hl.syn
  exact (Any.strconv_Atoi_syntax Tryz.laysC172 s (by omega) h _ w hv (.inr ⟨te,pe,rfl⟩)).mono fun e w' ⟨N,he,_,_,hb⟩=>⟨hb, .inr ⟨(fun v hv=>by cases hv),_,_,_,he⟩⟩
theorem ait:(Tryz.prog.info? 3).map (fun i=>(i.zero,i.size,i.bytes))=some (some (.int .i64 0),1,8):=by kernel_rfl
theorem jB:(Tryz.prog.info? 9).map (fun i=>(i.zero,i.size,i.bytes))=some (some (.string ByteArray.empty),1,16):=by kernel_rfl
theorem ahB (m:Nat) (w:World) (hm:m<2 ^ 31):
 Calls Tryz.prog 178 #[.int .i64 m] w fun e w'=>∃v,e= .returned v∧w'.ownsRow w.heap.size 3 1 v (aK m 31).length (intCells (aK m 31))∧Below w.heap.size w w':=by
 obtain ⟨i0,hi,hz0,hz1,hz2⟩:=info_parts ait
 go_enter Tryz.func178,Tryz.ntmps178
 go_wp2
 go_loopw [3,8] (fun v i wr=>∃k:Nat,k≤31∧i= .int .i64 k∧wr.ownsRow w.heap.size 3 1 v (aK m k).length (intCells (aK m k))∧Below w.heap.size w wr) (fun _ i _=>31 - (intOf i).toNat)
 case atStart=>exact ⟨0,by omega,rfl,World.ownsRow_nil _ _ _ _,Below.refl _ _⟩
 case round=>
  obtain ⟨k,hk,rfl,hown,hb⟩:=hrel
  have hle:=nD m k
  have hsz:=hb.size
  by_cases hlt:k<31
  ·cases hbit:m.testBit k
   ·have ht:(bits .and .i64 ((m:Int) / 2 ^ k) 1==1)=false:=(FD m k hm).trans hbit
    have HX:=Lib.hid (oL hbit);clear hbit
    go_wp2
    go_roundw
    case rel=>exact ⟨k+1,by omega,by go_num,by rw [HX.out];exact hown,hb⟩
    case measure=>simp [intOf];omega
   ·have ht:(bits .and .i64 ((m:Int) / 2 ^ k) 1==1)=true:=(FD m k hm).trans hbit
    have HX:=Lib.hid (qI hbit);clear hbit
    have hm1:(aK m k).length+1≤maxLen:=by unfold maxLen;omega
    have hm2:((aK m k).length+1) * 8≤140737488355328:=by omega
    go_wp2_with (at_builtin;refine wpList_append_own _ rfl (.tmp 16) (.tmp 18) 161 rfl w.heap.size 3 i0 (.int .i64 0) 1 8 Tryz.underlying161 hi hz0 hz1 hz2 rfl (by decide) _ _ _ rfl (hown.alloc _) ⟨_,0,none⟩ 1 1 [.int .i64 k] rfl rfl (cell_one_new _ _ _) ?c2 hm1 hm2 ?c5 ?_)
    case c2=>intro u hu;simp at hu;subst hu;rfl
    case c5=>simp;omega
    intro v' w1 hown1 hgrow1 _
    have hlen:(aK m k).length+1=(aK m (k+1)).length:=by rw [HX.out];simp
    rw [Ve,←HX.out,hlen] at hown1
    have hb1:Below w.heap.size w w1:=(hb.alloc (by omega) _).grown hgrow1 (by simp;omega) (fun g hg=>(hown.lt g hg).1)
    clear hm1 hm2 hlen ht hgrow1
    go_wp2
    go_roundw
    case rel=>exact ⟨k+1,by omega,by go_num,hown1,hb1⟩
    case measure=>simp [intOf];omega
  ·go_wp2
   go_ret
   obtain rfl:k=31:=by omega
   exact ⟨_,rfl,hown,hb⟩
theorem IU (m:Nat) (w:World) (hm:m<2 ^ 31):
 Calls Tryz.prog 178 #[.int .i64 m] w fun e w'=>∃A c,e= .returned (.slice A (aK m 31).length c)∧(aK m 31).length≤c∧Nums w' w.heap.size (aK m 31) (.slice A (aK m 31).length c)∧Below w.heap.size w w':=
 (ahB m w hm).mono fun e w' ⟨v,he,hn,hb⟩=>by
  obtain ⟨A,c,rfl,hc⟩:=Nums.form hn
  exact ⟨A,c,he,hc,hn,hb⟩
theorem VA (m:Nat) (w:World) (hm:m<2 ^ 6):
 Calls Tryz.prog 223 #[.int .i64 m, .func (.func 152) #[] #[]] w fun e w'=>∃v,e= .returned v∧Texts w' w.heap.size (bV aO m) v∧Below w.heap.size w w':=by
 have hall:∀k (h:k<(aK m 31).length),(aK m 31)[k]<6:=fun k h=>uw hm (List.getElem_mem h)
 have hle:=nD m 31
 have HD:Hid (bV aO m=(aK m 31).map (fun i=>aO.getD i [])):=rfl
 generalize bV aO m=R at *
 go_enter Tryz.func223,Tryz.ntmps223
 go_wp2_with (go_at_call 178;refine (IU _ _ (by omega)).mono ?_;rintro e w1 ⟨A,c,rfl,hc,hn1,hb1⟩)
 generalize aK m 31=bl at *
 have hsz1:=hb1.size
 go_loopw [5,11] (fun v i wr=>∃k:Nat,k≤bl.length∧i= .int .i64 k∧Texts wr w1.heap.size ((bl.take k).map (fun i=>aO.getD i [])) v∧Below w1.heap.size w1 wr) (fun _ i _=>bl.length - (intOf i).toNat)
 case atStart=>exact ⟨0,by omega,rfl,Texts.nil _ _,Below.refl _ _⟩
 case round=>
  obtain ⟨k,hk,rfl,hown,hb⟩:=hrel
  have hsz:=hb.size
  by_cases hlt:k<bl.length
  ·obtain ⟨g,rfl,hg,hcl⟩:=hn1.at_ hlt
   have hcell:=yT hb hg hcl
   have O5:=hall k hlt
   have HX:=Lib.hid (Aa (fun i=>aO.getD i []) bl k hlt)
   have hln:((bl.take k).map (fun i=>aO.getD i [])).length<1000000000:=by simp;omega
   clear hcl hall
   generalize bl[k]=j at *
   go_wp2_with (first|(go_at_call 152;refine (Ky _ O5 _).mono ?_;rintro e w' ⟨rfl,rfl⟩)|(at_builtin;refine dH rfl (.tmp 15) (.tmp 19) 73 rfl Tryz.underlying73 jB rfl rfl hown hln hsz ?_;intro v' w2 hown2 hb2))
   have hown3:Texts w2 w1.heap.size ((bl.take (k+1)).map (fun i=>aO.getD i [])) v':=by rw [HX.out];exact hown2
   have hb3:Below w1.heap.size w1 w2:=hb.trans hb2
   go_roundw
   case rel=>exact ⟨k+1,by omega,by go_num,hown3,hb3⟩
   case measure=>simp [intOf];omega
  ·go_wp2
   go_ret
   obtain rfl:k=bl.length:=by omega
   rw [List.take_length] at hown
   exact ⟨_,rfl,by rw [HD.out];exact hown.base hsz1,oK hb1 hb hsz1⟩
theorem Laid.below {w w':World} (h:Laid w) (hb:Below w.heap.size w w'):Laid w':=
 ⟨h.shaped.keptBut (hb.frame (fun _=>False)) (fun _ h=>h.elim),Lib.tabBelow_of_tabIs h.tab w' hb,
  h.syn.imp fun _ ⟨p,hp⟩=>⟨p,cell_below hb hp⟩,h.rng.imp fun _ ⟨p,hp⟩=>⟨p,cell_below hb hp⟩,
  h.names.imp fun _ ⟨f,hf⟩=>⟨f,(hb.block _ (by have:=h.size;omega)).trans hf⟩,Nat.lt_of_lt_of_le h.size hb.size⟩
theorem ahA (n:Nat):(((n:Nat):Int)==0)=(n==0):=by
 rw [Bool.eq_iff_iff];simp
def nG (l:Str):Bool:=isName l&&(gq pG 0 l==0&&gq aO 0 l==0)
theorem Ua (s:ByteArray) (w:World) (hl:Laid w):
 Calls Tryz.prog 69 #[.string s] w fun e w'=>e= .returned (.bool (nG (L s)))∧Below w.heap.size w w':=by
 have HD:Hid (nG (L s)=(isName (L s)&&(gq pG 0 (L s)==0&&gq aO 0 (L s)==0))):=rfl
 generalize nG (L s)=R at *
 go_enter Tryz.func69,Tryz.ntmps69
 go_wp2_with (first|(go_at_call 149;(with_reducible refine (QD _ _ hl.shaped).mono ?_);rintro e w1 ⟨rfl,hb⟩)|(go_at_call 150;(with_reducible refine (Wi _ _).mono ?_);rintro e w2 ⟨rfl,rfl⟩)|(go_at_call 150;(with_reducible refine (LD _ _).mono ?_);rintro e w2 ⟨rfl,rfl⟩))
 all_goals
  go_ret
  refine ⟨aX ?_,hb⟩
  rw [HD.out];simp only [←ahA];simp [*]
def bD (m:Nat):Str:=if 1≤m∧m≤63 then Lib.join (bV aO m) [43] else []
theorem pW (T:List Str) (m:Nat):(bV T m).length≤31:=by
 unfold bV;rw [List.length_map];exact nD m 31
theorem xC {T:List Str} {K m:Nat} (hK:∀x∈T,x.length≤K):∀x∈bV T m,x.length≤K:=by
 intro x hx
 unfold bV at hx
 rw [List.mem_map] at hx
 obtain ⟨i,_,rfl⟩:=hx
 rcases Nat.lt_or_ge i T.length with h|h
 ·simp only [List.getD,List.getElem?_eq_getElem h,Option.getD_some];exact hK _ (List.getElem_mem h)
 ·simp [List.getD,List.getElem?_eq_none h]
theorem aau (m:Nat) (w:World) (hm:m<2 ^ 6):
 Calls Tryz.prog 223 #[.int .i64 m, .func (.func 152) #[] #[]] w (kR w (bV aO m)):=
 (VA m w hm).mono fun e w' ⟨v,he,ht,hb⟩=>by
  obtain ⟨A,c,rfl,_⟩:=ht.form
  exact ⟨A,c,he,ht,hb⟩
theorem vH (m:Nat) (w:World):
 Calls Tryz.prog 155 #[.int .i64 m] w fun e w'=>e= .returned (.string (B (bD m)))∧Below w.heap.size w w':=by
 by_cases h:1≤m∧m≤63
 ·have HD:Hid (bD m=Lib.join (bV aO m) [43]):=if_pos h
  have hle:(Lib.join (bV aO m) [43]).length≤140737488355328:=by
   have h1:=join_le [43] 8 _ (xC (m:=m) (show ∀x∈aO,x.length≤8 by decide))
   have h2:=pW aO m
   simp only [List.length_cons,List.length_nil] at h1;omega
  have hN:(bV aO m).length≤100000000:=by have:=pW aO m;omega
  generalize bD m=R at *
  go_enter Tryz.func155,Tryz.ntmps155
  go_wp2_with (first|(go_at_call 223;(with_reducible refine (aau _ _ (by omega)).mono ?_);rintro e w1 ⟨A,c,rfl,ht,hb⟩)|(go_at_call 101;(with_reducible refine (tH _ _ _ _ _ _ ht hN [43] rfl hle).mono ?_);rintro e w2 ⟨rfl,hb2⟩))
  ·go_ret
   exact ⟨dV (by rw [HD.out]),aaC hb hb2⟩
  all_goals (exfalso;omega)
 ·have HD:Hid (bD m=[]):=if_neg h
  generalize bD m=R at *
  go_enter Tryz.func155,Tryz.ntmps155
  go_wp2
  all_goals first
   |(go_ret;exact ⟨dV (by rw [HD.out];rfl),Below.refl _ _⟩)
   |(exfalso;omega)
def mX (l:List Str):Nat:=l.foldl (fun m x=>m |||gq aO 0 x) 0
theorem ZT (l:List Str) (k:Nat) (h:k<l.length):mX (l.take (k+1))=mX (l.take k) |||gq aO 0 l[k]:=by
 unfold mX;rw [List.take_succ_eq_append_getElem h,List.foldl_append];rfl
theorem Ox (T:List Str) (s:Str):∀k n,k+T.length≤n→gq T k s<2 ^ n:=by
 induction T with
 |nil=>intro k n _;simp [gq,Nat.two_pow_pos]
 |cons x r ih=>
  intro k n h
  unfold gq;split
  ·exact Nat.pow_lt_pow_right (by omega) (by simp at h;omega)
  ·exact ih _ _ (by simp at h;omega)
theorem afR (l:List Str):mX l<2 ^ 6:=by
 have:∀(l:List Str) (a:Nat),a<2 ^ 6→l.foldl (fun m x=>m |||gq aO 0 x) a<2 ^ 6:=by
  intro l
  induction l with
  |nil=>intro a h;exact h
  |cons x r ih=>intro a h;exact ih _ (Nat.or_lt_two_pow h (Ox aO x 0 6 (by decide)))
 exact this l 0 (by decide)
def xM (s:Str):Option Nat:=if mX (splitOn 43 s)=0 then none else if bD (mX (splitOn 43 s))=s then some (mX (splitOn 43 s)) else none
def PY (o:Option Nat):Value:=match o with|some m=> .tuple #[.int .i64 (m:Nat), .int .i64 0]|none=> .tuple #[.int .i64 0, .int .i64 3]
theorem iO {a:Str} {s:ByteArray} (h:a=L s):(a==s.toList)=true:=by rw [dZ];simpa using h
theorem jH {a:Str} {s:ByteArray} (h:¬a=L s):(a==s.toList)=false:=by rw [dZ];simpa using h
theorem yH (s:ByteArray) (w:World) (hl:Laid w) (hs:s.size<4294967281):
 Calls Tryz.prog 287 #[.string s] w fun e w'=>e= .returned (PY (xM (L s)))∧Below w.heap.size w w':=by
 have hlen:=zq 43 (L s)
 rw [dN] at hlen
 have HD:Hid (xM (L s)=if mX (splitOn 43 (L s))=0 then none else if bD (mX (splitOn 43 (L s)))=L s then some (mX (splitOn 43 (L s))) else none):=rfl
 generalize xM (L s)=R at *
 go_enter Tryz.func287,Tryz.ntmps287
 go_wp2_with (go_at_call 198;(with_reducible refine (UE _ _ _ hl.shaped hs).mono ?_);rintro e w1 ⟨A,c,rfl,ht,hb1⟩)
 generalize splitOn 43 (L s)=ws at *
 have hsz1:=hb1.size
 go_loop [4,10] (fun m i=>∃k:Nat,k≤ws.length∧i= .int .i64 k∧m= .int .i64 (mX (ws.take k):Nat)) (fun _ i=>ws.length - (intOf i).toNat)
 case atStart=>exact ⟨0,by omega,rfl,rfl⟩
 case round=>
  obtain ⟨k,hk,rfl,rfl⟩:=hrel
  by_cases hlt:k<ws.length
  ·obtain ⟨g,rfl,hg,hcl⟩:=ht.at_ hlt
   have HX:=Lib.hid (ZT ws k hlt)
   have hor:=Gi (mX (ws.take k)) (gq aO 0 ws[k]) (Nat.lt_trans (afR _) (by decide)) (Nat.lt_trans (Ox aO _ 0 6 (by decide)) (by decide))
   have DF:Hid (L (B ws[k])=ws[k]):=rfl
   generalize ws[k]=x at *
   go_wp2_with (go_at_call 150;(with_reducible refine (LD _ _).mono ?_);rintro e w2 ⟨rfl,rfl⟩)
   go_round
   case rel=>exact ⟨k+1,by omega,by go_num,by rw [HX.out]⟩
   case measure=>simp [intOf];omega
  ·obtain rfl:k=ws.length:=by omega
   have hE:ws.take ws.length=ws:=List.take_length
   rw [hE];clear hE
   by_cases h0:mX ws=0
   ·have t0:((mX ws:Nat):Int)=0:=by omega
    clear h0
    go_wp2
    go_ret2
    exact ⟨ret_val (by rw [HD.out,if_pos (by omega)];rfl),hb1⟩
   ·have t0:(((mX ws:Nat):Int)==0)=false:=by simp only [beq_eq_false_iff_ne,ne_eq];omega
    have H0:=Lib.hid h0;clear h0
    by_cases h1:bD (mX ws)=L s
    ·have t1:=iO h1
     have H1:=Lib.hid h1;clear h1
     go_wp2_with (go_at_call 155;(with_reducible refine (vH _ _).mono ?_);rintro e w2 ⟨rfl,hb2⟩)
     go_ret2
     exact ⟨ret_val (by rw [HD.out,if_neg H0.out,if_pos H1.out];rfl),aaC hb1 hb2⟩
    ·have t1:=jH h1
     have H1:=Lib.hid h1;clear h1
     go_wp2_with (go_at_call 155;(with_reducible refine (vH _ _).mono ?_);rintro e w2 ⟨rfl,hb2⟩)
     go_ret2
     exact ⟨ret_val (by rw [HD.out,if_neg H0.out,if_neg H1.out];rfl),aaC hb1 hb2⟩
def bM (m:Nat):Str:=if m=0 then pJ else Lib.join (bV aY m) [43]
def pO (s:Str):Option Nat:=(List.range 32).find? fun m=>bM m==s
theorem Ec {m k n:Nat} (hm:m<2 ^ n) (hk:n≤k):aK m k=aK m n:=by
 induction k with
 |zero=>obtain rfl:n=0:=by omega
        rfl
 |succ k ih=>
  rcases Nat.lt_or_ge k n with h|h
  ·obtain rfl:n=k+1:=by omega
   rfl
  ·rw [oL (Nat.testBit_lt_two_pow (Nat.lt_of_lt_of_le hm (Nat.pow_le_pow_right (by omega) h))),ih h]
theorem UW (i:Nat) (hi:i<5) (w:World) (hl:Laid w):
 Calls Tryz.prog 98 #[.int .i64 i] w fun e w'=>e= .returned (.string (B (aY.getD i [])))∧w=w':=by
 obtain ⟨ty,fr,hh⟩:=hl.names
 have hc:w.cell? ⟨2,i,none⟩=some (.string (B (aY.getD i []))):=by
  rw [cell_of_row w _ i BH ty fr hh]
  rcases i with _|_|_|_|_|i
  ·rfl
  ·rfl
  ·rfl
  ·rfl
  ·rfl
  ·omega
 clear hh
 generalize aY.getD i []=R at *
 go_enter Tryz.func98,Tryz.ntmps98
 go_wp2
 go_ret
 exact ⟨rfl,rfl⟩
theorem Zg (m:Nat) (hm:m<32) (w:World):
 Calls Tryz.prog 224 #[.int .i64 m] w fun e w'=>e= .returned (.bool true)∧w=w':=by
 have h1:((m:Nat):Int)≤31:=by omega
 go_enter Tryz.func224,Tryz.ntmps224
 go_wp2
 go_ret
 exact ⟨rfl,rfl⟩
theorem vF (m:Nat) (hm:m<32) (w:World) (hl:Laid w):
 Calls Tryz.prog 156 #[.int .i64 m] w fun e w'=>e= .returned (.string (B (bM m)))∧Below w.heap.size w w':=by
 obtain ⟨ty,fr,hh⟩:=hl.names
 by_cases h0:m=0
 ·subst h0
  go_enter Tryz.func156,Tryz.ntmps156
  go_wp2
  go_ret
  exact ⟨rfl,Below.refl _ _⟩
 ·have HD:Hid (bM m=Lib.join (bV aY m) [43]):=if_neg h0
  have ht0:(((m:Nat):Int)==0)=false:=by simp only [beq_eq_false_iff_ne,ne_eq];omega
  generalize bM m=R at *
  go_enter Tryz.func156,Tryz.ntmps156
  go_wp2_with (first|(go_at_call 224;(with_reducible refine (Zg _ hm _).mono ?_);rintro e w2 ⟨rfl,rfl⟩)|refine wpList_load_row rfl 163 _ rfl 2 rfl ty BH fr _ hh Tryz.underlying163 rfl (by kernel_rfl) ?_)
  clear hh hl
  go_loopw [3,12] (fun v i wr=>∃k:Nat,k≤5∧i= .int .i64 k∧Texts wr w.heap.size ((aK m k).map (fun i=>aY.getD i [])) v∧Below w.heap.size w wr) (fun _ i _=>5 - (intOf i).toNat)
  case atStart=>exact ⟨0,by omega,rfl,Texts.nil _ _,Below.refl _ _⟩
  case round=>
   obtain ⟨k,hk,rfl,hown,hb⟩:=hrel
   have hle:=nD m k
   have hsz:=hb.size
   by_cases hlt:k<5
   ·have i0:∀w,(Instr.index 163 (.agg BH) (.int .i64 k)).run Tryz.prog w= .ok (.string (B (aY.getD k []))) w:=by
     intro w;rcases k with _|_|_|_|_|k
     ·kernel_rfl
     ·kernel_rfl
     ·kernel_rfl
     ·kernel_rfl
     ·kernel_rfl
     ·omega
    cases hbit:m.testBit k
    ·have ht:(bits .and .i64 ((m:Int) / 2 ^ k) 1==1)=false:=(FD m k (by omega)).trans hbit
     have HX:=Lib.hid (oL hbit);clear hbit
     go_wp2
     go_roundw
     case rel=>exact ⟨k+1,by omega,by go_num,by rw [HX.out];exact hown,hb⟩
     case measure=>simp [intOf];omega
    ·have ht:(bits .and .i64 ((m:Int) / 2 ^ k) 1==1)=true:=(FD m k (by omega)).trans hbit
     have HX:=Lib.hid (qI hbit);clear hbit
     have hln:((aK m k).map (fun i=>aY.getD i [])).length<1000000000:=by simp;omega
     go_wp2_with (at_builtin;refine dH rfl (.tmp 21) (.tmp 23) 73 rfl Tryz.underlying73 jB rfl rfl hown hln hsz ?_;intro v' w2 hown2 hb2)
     have hown3:Texts w2 w.heap.size ((aK m (k+1)).map (fun i=>aY.getD i [])) v':=by rw [HX.out,List.map_append];exact hown2
     have hb3:Below w.heap.size w w2:=hb.trans hb2
     go_roundw
     case rel=>exact ⟨k+1,by omega,by go_num,hown3,hb3⟩
     case measure=>simp [intOf];omega
   ·obtain rfl:k=5:=by omega
    have hE:(aK m 5).map (fun i=>aY.getD i [])=bV aY m:=by rw [bV,Ec (k:=31) (n:=5) (by omega) (by omega)]
    rw [hE] at hown
    have hlen:(Lib.join (bV aY m) [43]).length≤140737488355328:=by
     have h1:=join_le [43] 8 _ (xC (m:=m) (show ∀x∈aY,x.length≤8 by decide))
     have h2:=pW aY m
     simp only [List.length_cons,List.length_nil] at h1;omega
    have hN:(bV aY m).length≤100000000:=by have:=pW aY m;omega
    obtain ⟨A,c,rfl,hc⟩:=hown.form
    clear hE
    go_wp2_with (go_at_call 101;(with_reducible refine (tH _ _ _ _ _ _ hown hN [43] rfl hlen).mono ?_);rintro e w2 ⟨rfl,hb2⟩)
    go_ret
    exact ⟨dV (by rw [HD.out]),aaC hb hb2⟩
theorem yj (s:ByteArray) (w:World) (hl:Laid w):
 Calls Tryz.prog 288 #[.string s] w fun e w'=>e= .returned (PY (pO (L s)))∧Below w.heap.size w w':=by
 have HD:Hid (pO (L s)=(List.range' 0 32).find? fun m=>bM m==L s):=by rw [←List.range_eq_range'];rfl
 generalize pO (L s)=R at *
 go_enter Tryz.func288,Tryz.ntmps288
 go_wp2
 go_loopw [5] (fun i wr=>∃k:Nat,k≤32∧i= .int .i64 k∧Below w.heap.size w wr∧Hid ((List.range' 0 32).find? (fun m=>bM m==L s)=(List.range' k (32 - k)).find? (fun m=>bM m==L s))) (fun i _=>32 - (intOf i).toNat)
 case atStart=>exact ⟨0,by omega,rfl,Below.refl _ _,rfl⟩
 case round=>
  obtain ⟨k,hk,rfl,hb,HF⟩:=hrel
  by_cases hlt:k<32
  ·have hlr:=hl.below hb
   have hr:List.range' k (32 - k)=k::List.range' (k+1) (32 - (k+1)):=by
    rw [show 32 - k=(32 - (k+1))+1 by omega,List.range'_succ]
   by_cases hc:bM k=L s
   ·have t1:=iO hc
    have HX:Hid ((List.range' k (32 - k)).find? (fun m=>bM m==L s)=some k):=by rw [hr,List.find?_cons,show (bM k==L s)=true by simpa using hc];rfl
    clear hr hc
    go_wp2_with (go_at_call 156;(with_reducible refine (vF _ hlt _ hlr).mono ?_);rintro e w2 ⟨rfl,hb2⟩)
    go_ret2
    exact ⟨ret_val (by rw [HD.out,HF.out,HX.out];rfl),oK hb hb2 hb.size⟩
   ·have t1:=jH hc
    have HX:Hid ((List.range' 0 32).find? (fun m=>bM m==L s)=(List.range' (k+1) (32 - (k+1))).find? (fun m=>bM m==L s)):=by
     rw [HF.out,hr,List.find?_cons,show (bM k==L s)=false by simpa using hc];rfl
    clear hr hc
    go_wp2_with (go_at_call 156;(with_reducible refine (vF _ hlt _ hlr).mono ?_);rintro e w2 ⟨rfl,hb2⟩)
    have hb3:=oK hb hb2 hb.size
    go_roundw
    case rel=>exact ⟨k+1,by omega,by go_num,hb3,HX⟩
    case measure=>simp [intOf];omega
  ·obtain rfl:k=32:=by omega
   go_wp2
   go_ret2
   exact ⟨ret_val (by rw [HD.out,HF.out];rfl),hb⟩
end Go.Proofs.YtdicgggkdmkklaaGreatDoor
namespace Go.Proofs.YtdicgggkdmkklaaGreatDoor
def jU (n:Int):Int:=if n< -1000000 then -1000000 else if 1000000<n then 1000000 else n
theorem Ba {k:Nat} (h:k<10):(UInt8.ofNat (48+k)).toNat=48+k:=by
 rw [UInt8.toNat_ofNat'];omega
theorem nS:∀(u:Nat),∀x∈Lib.decDigits u,48≤x.toNat∧x.toNat≤57:=by
 intro u
 induction u using Nat.strongRecOn with
 |_ u ih=>
  intro x hx
  by_cases h:u<10
  ·rw [Lib.decDigits,dif_pos h] at hx
   obtain rfl:=List.mem_singleton.1 hx
   rw [Ba h];omega
  ·rw [Lib.decDigits,dif_neg h] at hx
   rcases List.mem_append.1 hx with hx|hx
   ·exact ih _ (by omega) x hx
   ·obtain rfl:=List.mem_singleton.1 hx
    rw [Ba (Nat.mod_lt _ (by omega))];omega
theorem QW:∀(k u:Nat),u<10 ^ (k+1)→(Lib.decDigits u).length≤k+1
 |0,u,h=>by rw [Lib.decDigits,dif_pos (by omega)];simp
 |k+1,u,h=>by
  by_cases h':u<10
  ·rw [Lib.decDigits,dif_pos h'];simp
  ·rw [Lib.decDigits,dif_neg h',List.length_append]
   have:=QW k (u / 10) (by rw [Nat.pow_succ] at h;omega)
   simp;omega
end Go.Proofs.YtdicgggkdmkklaaGreatDoor
