/- Small laws on whole numbers that wrap, on strings as lists of bytes, and on answers that may be none. No condition. And what follows it: see the remarks. -/
import Derived.Test.YtleofghbkfpdaaaGreatDoorTW4
import Derived.Lib.ItoaNum
import Derived.Lib.IndexMore
import Derived.Laws.BitsLemmas
import Derived.Test.YtleofghbkfpdaaaGreatDoorTALd
import Derived.Test.YtleofghbkfpdaaaGreatDoorTP1
import Derived.Lib.AtoiAllCases
namespace Go.Proofs.YtleofghbkfpdaaaGreatDoor
namespace AM
open Go
set_option linter.unusedSimpArgs false
set_option linter.unusedVariables false
theorem strRoom_of {a b:ByteArray} (h:a.size + b.size ≤ 4611686018427387904):strRoom a b = true := decide_eq_true h
theorem strEq_self (a:ByteArray):strEq a a = true := decide_eq_true rfl
theorem bt_eq {s:ByteArray} {i:Nat} (h:i < s.data.toList.length):bt s (i:Int) = ((s.data.toList[i]).toNat:Int) := by
 unfold bt
 rw [Int.toNat_natCast,List.getD_eq_getElem?_getD,List.getElem?_eq_getElem h]; rfl
end AM
end Go.Proofs.YtleofghbkfpdaaaGreatDoor
namespace Go.Proofs.YtleofghbkfpdaaaGreatDoor
namespace AM
open Go
set_option linter.unusedVariables false
set_option linter.unusedSimpArgs false
abbrev N0:Nat := 1000000000000000000000000000000
theorem wrap_ok {n:Int} (h1:-9223372036854775808 ≤ n) (h2:n ≤ 9223372036854775807):IntKind.i64.wrap n = n := by
 rw [IntKind.wrap_i64]; omega
theorem getD_of {α:Type} {l:List α} {i:Nat} (h:i < l.length) (d:α):l.getD i d = l[i] := by
 rw [List.getD_eq_getElem?_getD,List.getElem?_eq_getElem h]; rfl
theorem inb_nat {i n:Nat} (h:i < n):inb (i:Int) n = true := by
 unfold inb
 exact decide_eq_true ⟨Int.natCast_nonneg _,by omega⟩
theorem step_wrap {i n:Nat} (hi:i < n) (hn:n ≤ 4294967296):IntKind.i64.wrap ((i:Int) + (1:Int)) = ((i + 1:Nat):Int) := by
 rw [wrap_ok (by omega) (by omega)]; omega
theorem copy_set {α:Type} {xs ys:List α} {i:Nat} (hi:i < xs.length) (hl:ys.length = xs.length) (h:∀ j,j < i → ys[j]? = xs[j]?):(ys.set i xs[i]).length = xs.length ∧ ∀ j,j < i + 1 → (ys.set i xs[i])[j]? = xs[j]? := by
 refine ⟨by simp [hl],fun j hj => ?_⟩
 rw [List.getElem?_set]
 by_cases q:i = j
 ·subst q
  rw [if_pos rfl,if_pos (by omega),List.getElem?_eq_getElem hi]
 ·rw [if_neg q]; exact h j (by omega)
theorem copy_done {α:Type} {xs ys:List α} {i:Nat} (hi:xs.length ≤ i) (hl:ys.length = xs.length) (h:∀ j,j < i → ys[j]? = xs[j]?):ys = xs := by
 apply List.ext_getElem?
 intro j
 rcases Nat.lt_or_ge j i with q | q
 ·exact h j q
 ·rw [List.getElem?_eq_none (by omega),List.getElem?_eq_none (by omega)]
theorem toNodeS_loop (n:Nat) {xs:List (Int×Int×Int)} (hx:xs.length ≤ 4294967296):∀ (m i:Nat) (ys:List (Int×Int×Int)),i ≤ xs.length → ys.length = xs.length → (∀ j,j < i → ys[j]? = xs[j]?) → xs.length < m + i → laws_toNodeS_L3 n m (xs,ys,(i:Int)) = some xs
 | 0,i,ys,hi,hl,h,hm => by omega
 | m + 1,i,ys,hi,hl,h,hm => by
  show (cond (decide ((i:Int) < (xs.length:Int))) _ _) = _
  by_cases q:i < xs.length
  ·rw [decide_eq_true (by omega:(i:Int) < (xs.length:Int)),cond_true]
   show (cond (inb (i:Int) xs.length) _ none) = _
   rw [inb_nat q,cond_true]
   show (cond (inb (i:Int) ys.length) (laws_toNodeS_L3 n m (xs,ys.set ((i:Int)).toNat (xs.getD ((i:Int)).toNat ((0:Int),((0:Int),(0:Int)))),IntKind.i64.wrap ((i:Int) + (1:Int)))) none) = _
   rw [inb_nat (by omega),cond_true,step_wrap q hx,Int.toNat_natCast,getD_of q]
   obtain ⟨h1,h2⟩ := copy_set q hl h
   exact toNodeS_loop n hx m (i + 1) _ q h1 h2 (by omega)
  ·rw [decide_eq_false (by omega:¬ (i:Int) < (xs.length:Int)),cond_false]
   rw [copy_done (by omega) hl h]
theorem toIntS_loop (n:Nat) {xs:List Int} (hx:xs.length ≤ 4294967296):∀ (m i:Nat) (ys:List Int),i ≤ xs.length → ys.length = xs.length → (∀ j,j < i → ys[j]? = xs[j]?) → xs.length < m + i → laws_toIntS_L3 n m (xs,ys,(i:Int)) = some xs
 | 0,i,ys,hi,hl,h,hm => by omega
 | m + 1,i,ys,hi,hl,h,hm => by
  show (cond (decide ((i:Int) < (xs.length:Int))) _ _) = _
  by_cases q:i < xs.length
  ·rw [decide_eq_true (by omega:(i:Int) < (xs.length:Int)),cond_true]
   show (cond (inb (i:Int) xs.length) (cond (inb (i:Int) ys.length) (laws_toIntS_L3 n m (xs,ys.set ((i:Int)).toNat (xs.getD ((i:Int)).toNat (0:Int)),IntKind.i64.wrap ((i:Int) + (1:Int)))) none) none) = _
   rw [inb_nat q,inb_nat (by omega),cond_true,cond_true,step_wrap q hx,Int.toNat_natCast,getD_of q]
   obtain ⟨h1,h2⟩ := copy_set q hl h
   exact toIntS_loop n hx m (i + 1) _ q h1 h2 (by omega)
  ·rw [decide_eq_false (by omega:¬ (i:Int) < (xs.length:Int)),cond_false]
   rw [copy_done (by omega) hl h]
theorem toNodeS_eq (n:Nat) (hn:4294967296 < n) {xs:List (Int×Int×Int)} (hx:xs.length ≤ 4294967296):laws_toNodeS n xs = some xs := by
 unfold laws_toNodeS
 rw [decide_eq_true (by omega:0 ≤ (xs.length:Int) ∧ (xs.length:Int) ≤ (xs.length:Int) ∧ (xs.length:Int) ≤ 4294967296),cond_true]
 have := toNodeS_loop n hx n 0 (List.replicate ((xs.length:Int)).toNat ((0:Int),((0:Int),(0:Int)))) (Nat.zero_le _) (by simp) (fun j hj => by omega) (by omega)
 rw [show ((0:Nat):Int) = (0:Int) from rfl] at this
 rw [this]; rfl
theorem toIntS_eq (n:Nat) (hn:4294967296 < n) {xs:List Int} (hx:xs.length ≤ 4294967296):laws_toIntS n xs = some xs := by
 unfold laws_toIntS
 rw [decide_eq_true (by omega:0 ≤ (xs.length:Int) ∧ (xs.length:Int) ≤ (xs.length:Int) ∧ (xs.length:Int) ≤ 4294967296),cond_true]
 have := toIntS_loop n hx n 0 (List.replicate ((xs.length:Int)).toNat (0:Int)) (Nat.zero_le _) (by simp) (fun j hj => by omega) (by omega)
 rw [show ((0:Nat):Int) = (0:Int) from rfl] at this
 rw [this]; rfl
theorem toPool_eq (n:Nat) (hn:4294967296 < n) {xs:List (Int×Int×Int)} (hx:xs.length ≤ 4294967296):laws_toPool n xs = some xs := by
 unfold laws_toPool
 rw [toNodeS_eq n hn hx]; rfl
theorem eqNodeS_loop (n:Nat) {xs:List (Int×Int×Int)} (hx:xs.length ≤ 4294967296):∀ (m i:Nat),i ≤ xs.length → xs.length < m + i → laws_eqNodeS_L4 n m (xs,xs,(i:Int)) = some (Sum.inr ())
 | 0,i,hi,hm => by omega
 | m + 1,i,hi,hm => by
  show (cond (decide ((i:Int) < (xs.length:Int))) _ _) = _
  by_cases q:i < xs.length
  ·rw [decide_eq_true (by omega:(i:Int) < (xs.length:Int)),cond_true]
   show (cond (inb (i:Int) xs.length) (cond (inb (i:Int) xs.length) ((laws_eqNode n _).bind fun r1 => (cond (!r1) (some (Sum.inl false)) (laws_eqNodeS_L4 n m (xs,xs,IntKind.i64.wrap ((i:Int) + (1:Int)))))) none) none) = _
   rw [inb_nat q,cond_true,cond_true]
   generalize xs.getD ((i:Int)).toNat ((0:Int),((0:Int),(0:Int))) = p
   have:laws_eqNode n (p.1,p.2.1,p.2.2,p.1,p.2.1,p.2.2) = some true := by simp [laws_eqNode]
   rw [this,step_wrap q hx]
   exact eqNodeS_loop n hx m (i + 1) q (by omega)
  ·rw [decide_eq_false (by omega:¬ (i:Int) < (xs.length:Int)),cond_false]
theorem eqIntS_loop (n:Nat) {xs:List Int} (hx:xs.length ≤ 4294967296):∀ (m i:Nat),i ≤ xs.length → xs.length < m + i → laws_eqIntS_L4 n m (xs,xs,(i:Int)) = some (Sum.inr ())
 | 0,i,hi,hm => by omega
 | m + 1,i,hi,hm => by
  show (cond (decide ((i:Int) < (xs.length:Int))) _ _) = _
  by_cases q:i < xs.length
  ·rw [decide_eq_true (by omega:(i:Int) < (xs.length:Int)),cond_true]
   show (cond (inb (i:Int) xs.length) (cond (inb (i:Int) xs.length) (cond (xs.getD ((i:Int)).toNat (0:Int) != xs.getD ((i:Int)).toNat (0:Int)) (some (Sum.inl false)) (laws_eqIntS_L4 n m (xs,xs,IntKind.i64.wrap ((i:Int) + (1:Int))))) none) none) = _
   rw [inb_nat q,cond_true,cond_true,bne_self_eq_false,cond_false,step_wrap q hx]
   exact eqIntS_loop n hx m (i + 1) q (by omega)
  ·rw [decide_eq_false (by omega:¬ (i:Int) < (xs.length:Int)),cond_false]
theorem eqPool_self (n:Nat) (hn:4294967296 < n) {xs:List (Int×Int×Int)} (hx:xs.length ≤ 4294967296):laws_eqPool n (xs,xs) = some true := by
 unfold laws_eqPool laws_eqNodeS
 have := eqNodeS_loop n hx n 0 (Nat.zero_le _) (by omega)
 rw [show ((0:Nat):Int) = (0:Int) from rfl] at this
 simp only [bne_self_eq_false,cond_false,this]; rfl
theorem eqv_self:∀ (t:Ty),t.hasSl = false → ∀ x:t.den,t.eqv x x = true
 | .int _,_,x => by simp [Ty.eqv]
 | .bool,_,x => by simp [Ty.eqv]
 | .str,_,x => decide_eq_true rfl
 | .sl _,h,_ => by cases h
 | .pr a b,h,x => by
  have h:(a.hasSl || b.hasSl) = false := h
  rw [Bool.or_eq_false_iff] at h
  show (a.eqv x.1 x.1 && b.eqv x.2 x.2) = true
  rw [eqv_self a h.1,eqv_self b h.2]; rfl
theorem mfind_len {kt:Ty} {k:kt.den} {m:List (kt.den×Int)} {j:Nat} {v:Int} (h:mfind kt k m 0 = some (j,v)):j < m.length := by
 obtain ⟨_,h2⟩ := mfind_spec h
 exact (List.getElem?_eq_some_iff.1 h2).1
theorem mset_set {α:Type} {y:Int} {k:α} {c:Int}:∀ {m:List (α×Int)} {j:Nat},j < m.length → msetG y (m.set j (k,c)) j = m.set j (k,y)
 | [],_,h => by simp at h
 | p :: r,0,_ => rfl
 | p :: r,j + 1,h => by
  show p :: msetG y (r.set j (k,c)) j = p :: r.set j (k,y)
  rw [mset_set (by simpa using h)]
theorem mset_push {α:Type} {y:Int} {k:α} {c:Int}:∀ {m:List (α×Int)},msetG y (m ++ [(k,c)]) m.length = m ++ [(k,y)]
 | [] => rfl
 | p :: r => by
  show p :: msetG y (r ++ [(k,c)]) r.length = p :: (r ++ [(k,y)])
  rw [mset_push]
theorem mset_mput {kt:Ty} {k:kt.den} {c y:Int} {m:List (kt.den×Int)}:mset (mpos kt k m) y (mput kt k c m) = mput kt k y m := by
 unfold mset mpos mput
 cases h:mfind kt k m 0 with
 | some p =>
  obtain ⟨j,v⟩ := p
  dsimp only
  rw [Int.toNat_natCast]
  exact mset_set (mfind_len h)
 | none =>
  dsimp only
  rw [Int.toNat_natCast]
  exact mset_push
theorem mpos_in {kt:Ty} {k:kt.den} {c:Int} {m:List (kt.den×Int)}:inb (mpos kt k m) (mput kt k c m).length = true := by
 unfold mpos mput
 cases h:mfind kt k m 0 with
 | some p =>
  obtain ⟨j,v⟩ := p
  dsimp only
  rw [List.length_set]
  exact inb_nat (mfind_len h)
 | none =>
  dsimp only
  rw [List.length_append]
  exact inb_nat (by simp)
theorem mfind_set_ne {kt:Ty} {k k':kt.den} {x:Int} (hne:kt.eqv k' k = false):∀ {m:List (kt.den×Int)} {i j:Nat} {v:Int},mfind kt k m i = some (j,v) → mfind kt k' (m.set (j - i) (k,x)) i = mfind kt k' m i
 | [],_,_,_,h => by cases h
 | p :: r,i,j,v,h => by
  unfold mfind at h
  cases q:kt.eqv k p.1 with
  | true =>
   rw [q] at h
   obtain ⟨rfl,rfl⟩ := Prod.mk.inj (Option.some.inj h)
   rw [Nat.sub_self,List.set_cons_zero]
   have := eqv_eq kt q
   unfold mfind
   rw [hne, ← this,hne]
   rfl
  | false =>
   rw [q] at h
   have h:mfind kt k r (i + 1) = some (j,v) := h
   obtain ⟨h1,_⟩ := mfind_spec h
   rw [show j - i = (j - (i + 1)) + 1 by omega,List.set_cons_succ]
   unfold mfind
   rw [mfind_set_ne hne h]
theorem mfind_push_ne {kt:Ty} {k k':kt.den} {x:Int} (hne:kt.eqv k' k = false):∀ {m:List (kt.den×Int)} {i:Nat},mfind kt k' (m ++ [(k,x)]) i = mfind kt k' m i
 | [],i => by
  show mfind kt k' [(k,x)] i = _
  unfold mfind
  rw [hne]; rfl
 | p :: r,i => by
  show mfind kt k' (p :: (r ++ [(k,x)])) i = _
  unfold mfind
  rw [mfind_push_ne hne]
theorem mget_mput_ne {kt:Ty} {k k':kt.den} {x:Int} {m:List (kt.den×Int)} (hne:kt.eqv k' k = false):mget kt k' (mput kt k x m) = mget kt k' m := by
 unfold mget mput
 cases h:mfind kt k m 0 with
 | some p =>
  obtain ⟨j,v⟩ := p
  have := mfind_set_ne (x := x) hne h
  rw [Nat.sub_zero] at this
  simp only [this]
 | none => simp only [mfind_push_ne hne]
abbrev Node3 := Int×(Int×Int)
abbrev kN:Ty := .pr (.int .i64) (.pr (.int .i64) (.int .i64))
theorem inRange_eq (n:Nat) (a b c:Int):impl_inRange n (a,b,c) = some (decide (a ≥ b) && decide (a ≤ c)) := by
 unfold impl_inRange
 cases decide (a ≥ b) <;> rfl
theorem in_eq (n:Nat) (a b c:Int):spec_l1In n (a,b,c) = some (decide (a ≥ b) && decide (a ≤ c)) := inRange_eq n a b c
theorem count_some (n:Nat) (x:Int):∃ v,impl_count n x = some v := by
 unfold impl_count
 simp only [cond_eq_ite]
 repeat' split
 all_goals exact ⟨_,rfl⟩
theorem nodeOk_some (n:Nat) (x:Int×Int×Int×Int):∃ v,impl_nodeOk n x = some v := by
 unfold impl_nodeOk
 obtain ⟨v,hv⟩ := count_some n x.1
 rw [hv]
 simp only [Option.bind_some,inRange_eq,cond_eq_ite]
 repeat' split
 all_goals exact ⟨_,rfl⟩
def nodeV (n:Nat) (x:Int×Int×Int×Int):Bool := (impl_nodeOk n x).getD false
theorem nodeOk_eq (n:Nat) (x):impl_nodeOk n x = some (nodeV n x) := by
 obtain ⟨v,hv⟩ := nodeOk_some n x
 unfold nodeV
 rw [hv]; rfl
theorem right_eq (n:Nat) (x):spec_l1Right n x = some (nodeV n x) := nodeOk_eq n x
def okFrom (n:Nat) (pre:List Node3):List Node3 → Bool
 | [] => true
 | k :: r => (!pre.contains k && nodeV n (k.1,k.2.1,k.2.2,(pre.length:Int))) && okFrom n (pre ++ [k]) r
theorem find_loop (n:Nat) {pre r:List Node3} {k:Node3} (hx:(pre ++ k :: r).length ≤ 4294967296):∀ (m j:Nat),j ≤ pre.length → pre.length < m + j →
  ∃ q:Nat,spec_l1Find_L2 n m (pre ++ k :: r,k.1,k.2.1,k.2.2,(j:Int)) = some (Sum.inl (q:Int)) ∧ q ≤ pre.length ∧ (q = pre.length ↔ k ∉ pre.drop j)
 | 0,j,h1,h2 => by omega
 | m + 1,j,h1,h2 => by
  have hlt:j < (pre ++ k :: r).length := by simp; omega
  have e0:spec_l1Find_L2 n (m + 1) (pre ++ k :: r,k.1,k.2.1,k.2.2,(j:Int)) = (cond (decide ((j:Int) < ((pre ++ k :: r).length:Int))) (cond (inb (j:Int) (pre ++ k :: r).length) (cond (((pre ++ k :: r).getD ((j:Int)).toNat ((0:Int),((0:Int),(0:Int)))).1 == k.1 && (((pre ++ k :: r).getD ((j:Int)).toNat ((0:Int),((0:Int),(0:Int)))).2.1 == k.2.1 && (((pre ++ k :: r).getD ((j:Int)).toNat ((0:Int),((0:Int),(0:Int)))).2.2 == k.2.2 && true))) (some (Sum.inl (j:Int))) (spec_l1Find_L2 n m (pre ++ k :: r,k.1,k.2.1,k.2.2,IntKind.i64.wrap ((j:Int) + (1:Int))))) none) (some (Sum.inr ()))) := rfl
  rw [e0,decide_eq_true (by omega:(j:Int) < ((pre ++ k :: r).length:Int)),cond_true,inb_nat hlt,cond_true,Int.toNat_natCast,getD_of hlt]
  have heq:∀ p:Node3,(p.1 == k.1 && (p.2.1 == k.2.1 && (p.2.2 == k.2.2 && true))) = decide (p = k) := by
   intro p
   obtain ⟨p1,p2,p3⟩ := p
   obtain ⟨k1,k2,k3⟩ := k
   rw [Bool.eq_iff_iff]
   simp
  rw [heq]
  rcases Nat.lt_or_ge j pre.length with q | q
  ·have hg:(pre ++ k :: r)[j] = pre[j] := List.getElem_append_left q
   rw [hg]
   have hd:pre.drop j = pre[j] :: pre.drop (j + 1) := List.drop_eq_getElem_cons q
   by_cases hk:pre[j] = k
   ·rw [decide_eq_true hk,cond_true]
    exact ⟨j,rfl,by omega,by rw [hd,hk]; simp; omega⟩
   ·rw [decide_eq_false hk,cond_false,step_wrap hlt hx]
    obtain ⟨z,g1,g2,g3⟩ := find_loop n hx m (j + 1) q (by omega)
    refine ⟨z,g1,g2,g3.trans ?_⟩
    rw [hd,List.mem_cons]
    constructor
    ·intro h h2
     rcases h2 with h2 | h2
     ·exact hk h2.symm
     ·exact h h2
    ·exact fun h h2 => h (.inr h2)
  ·have hj:j = pre.length := by omega
   subst hj
   rw [show (pre ++ k :: r)[pre.length] = k by simp,decide_eq_true rfl,cond_true]
   exact ⟨pre.length,rfl,Nat.le_refl _,by simp⟩
theorem find_eq (n:Nat) (hn:4294967296 < n) {pre r:List Node3} {k:Node3} (hx:(pre ++ k :: r).length ≤ 4294967296):∃ q:Int,spec_l1Find n (pre ++ k :: r,k.1,k.2.1,k.2.2) = some q ∧ (q != (pre.length:Int)) = pre.contains k := by
  have hlen : pre.length < n := by have : pre.length ≤ (pre ++ k :: r).length := by simp
                                   omega
  obtain ⟨z,g1,g2,g3⟩ := find_loop n hx n 0 (Nat.zero_le _) (by omega)
  refine ⟨(z:Int), ?_, ?_⟩
  · show ((spec_l1Find_L2 n n (pre ++ k :: r,k.1,k.2.1,k.2.2,((0:Nat):Int))).bind _) = _
    rw [g1]; rfl
  · rw [List.drop_zero] at g3
    rw [Bool.eq_iff_iff]
    simp only [bne_iff_ne,ne_eq,List.contains_iff_mem]
    constructor
    · intro h
      exact Classical.byContradiction fun h2 => h (by rw [g3.2 h2])
    · intro h h2
      exact (g3.1 (by omega)) h
theorem specPool_loop (n:Nat) (hn:4294967296 < n):∀ (m:Nat) (pre r:List Node3),(pre ++ r).length ≤ 4294967296 → r.length < m → spec_PoolOk_L4 n m (pre ++ r,(pre.length:Int)) = some (bif okFrom n pre r then Sum.inr () else Sum.inl false)
 | 0,pre,r,hx,hm => by omega
 | m + 1,pre,[],hx,hm => by
  show (cond (decide ((pre.length:Int) < ((pre ++ []).length:Int))) _ _) = _
  rw [decide_eq_false (by simp),cond_false]; rfl
 | m + 1,pre,k :: r,hx,hm => by
  have hlt:pre.length < (pre ++ k :: r).length := by simp
  have e0:spec_PoolOk_L4 n (m + 1) (pre ++ k :: r,(pre.length:Int)) = (cond (decide ((pre.length:Int) < ((pre ++ k :: r).length:Int))) (cond (inb (pre.length:Int) (pre ++ k :: r).length) ((spec_l1Right n (((pre ++ k :: r).getD ((pre.length:Int)).toNat ((0:Int),((0:Int),(0:Int)))).1,((pre ++ k :: r).getD ((pre.length:Int)).toNat ((0:Int),((0:Int),(0:Int)))).2.1,((pre ++ k :: r).getD ((pre.length:Int)).toNat ((0:Int),((0:Int),(0:Int)))).2.2,(pre.length:Int))).bind fun r1 => (cond (!r1) (some (Sum.inl false)) (cond (inb (pre.length:Int) (pre ++ k :: r).length) ((spec_l1Find n (pre ++ k :: r,((pre ++ k :: r).getD ((pre.length:Int)).toNat ((0:Int),((0:Int),(0:Int)))).1,((pre ++ k :: r).getD ((pre.length:Int)).toNat ((0:Int),((0:Int),(0:Int)))).2.1,((pre ++ k :: r).getD ((pre.length:Int)).toNat ((0:Int),((0:Int),(0:Int)))).2.2)).bind fun r2 => (cond (r2 != (pre.length:Int)) (some (Sum.inl false)) (spec_PoolOk_L4 n m (pre ++ k :: r,IntKind.i64.wrap ((pre.length:Int) + (1:Int)))))) none))) none) (some (Sum.inr ()))) := rfl
  obtain ⟨q,g1,g2⟩ := find_eq n hn (pre := pre) (r := r) (k := k) hx
  rw [e0,decide_eq_true (by omega:(pre.length:Int) < ((pre ++ k :: r).length:Int)),cond_true,inb_nat hlt,cond_true,Int.toNat_natCast,getD_of hlt,show (pre ++ k :: r)[pre.length] = k by simp,right_eq,g1]
  simp only [Option.bind_some,cond_true]
  rw [g2,step_wrap hlt hx]
  have ih := specPool_loop n hn m (pre ++ [k]) r (by simpa using hx) (by simp at hm; omega)
  rw [show pre ++ [k] ++ r = pre ++ k :: r by simp,show (pre ++ [k]).length = pre.length + 1 by simp] at ih
  rw [ih]
  rw [show okFrom n pre (k :: r) = ((!pre.contains k && nodeV n (k.1,k.2.1,k.2.2,(pre.length:Int))) && okFrom n (pre ++ [k]) r) from rfl]
  cases nodeV n (k.1,k.2.1,k.2.2,(pre.length:Int)) <;> cases pre.contains k <;> cases okFrom n (pre ++ [k]) r <;> rfl
theorem specPool_eq (n:Nat) (hn:4294967296 < n) {xs:List Node3} (hx:xs.length ≤ 4294967296):spec_PoolOk n xs = some (decide (xs.length ≤ 500) && okFrom n [] xs) := by
 unfold spec_PoolOk
 by_cases q:xs.length ≤ 500
 ·rw [decide_eq_false (by omega:¬ (xs.length:Int) > (500:Int)),cond_false,decide_eq_true q,Bool.true_and]
  have := specPool_loop n hn n [] xs (by simpa using hx) (by omega)
  rw [List.nil_append,show (([]:List Node3).length:Int) = (0:Int) from rfl] at this
  rw [this]
  cases okFrom n [] xs <;> rfl
 ·rw [decide_eq_true (by omega:(xs.length:Int) > (500:Int)),cond_true,decide_eq_false q]; rfl
def Cnt (kvs:List (Node3×Int)) (pre:List Node3):Prop := ∀ k:Node3,mget kN k kvs = if k ∈ pre then 1 else 0
theorem eqv_N {a b:Node3}:kN.eqv a b = decide (a = b) := by
 rw [Bool.eq_iff_iff,decide_eq_true_iff]
 exact ⟨eqv_eq kN,fun h => h ▸ eqv_self kN rfl a⟩
theorem region_eq (n:Nat) (kvs:List (Node3×Int)) (i a b c:Int) (xs:List Node3) (l j:Int):impl_PoolOk_R7 n (kvs,i,a,b,c,xs,l,j) = some (mput kN (a,b,c) (IntKind.i64.wrap (mget kN (a,b,c) kvs + (1:Int))) kvs,i,a,b,c,xs,l,j) := by
 unfold impl_PoolOk_R7
 rw [mpos_in,cond_true,mset_mput]
theorem implPool_loop (n:Nat) {xs:List Node3} (hx:xs.length ≤ 4294967296):∀ (m:Nat) (pre r:List Node3) (kvs:List (Node3×Int)),xs = pre ++ r → Cnt kvs pre → r.length < m → impl_PoolOk_L5 n m (kvs,xs,(xs.length:Int),(pre.length:Int)) = some (bif okFrom n pre r then Sum.inr () else Sum.inl false)
 | 0,pre,r,kvs,he,hc,hm => by omega
 | m + 1,pre,[],kvs,he,hc,hm => by
  show (cond (decide ((pre.length:Int) < (xs.length:Int))) _ _) = _
  rw [decide_eq_false (by rw [he]; simp),cond_false]; rfl
 | m + 1,pre,k :: r,kvs,he,hc,hm => by
  have hlt:pre.length < xs.length := by rw [he]; simp
  have hk:xs[pre.length] = k := by simp [he]
  have e0:impl_PoolOk_L5 n (m + 1) (kvs,xs,(xs.length:Int),(pre.length:Int)) = (cond (decide ((pre.length:Int) < (xs.length:Int))) (cond (inb (pre.length:Int) xs.length) ((impl_PoolOk_R7 n (kvs,(pre.length:Int),(xs.getD ((pre.length:Int)).toNat ((0:Int),((0:Int),(0:Int)))).1,(xs.getD ((pre.length:Int)).toNat ((0:Int),((0:Int),(0:Int)))).2.1,(xs.getD ((pre.length:Int)).toNat ((0:Int),((0:Int),(0:Int)))).2.2,xs,(xs.length:Int),(pre.length:Int))).bind fun g1 => (cond (decide ((mget kN (g1.2.2.1,(g1.2.2.2.1,g1.2.2.2.2.1)) g1.1) > (1:Int))) (some (Sum.inl false)) ((impl_nodeOk n (g1.2.2.1,g1.2.2.2.1,g1.2.2.2.2.1,g1.2.1)).bind fun r2 => (cond (!r2) (some (Sum.inl false)) (impl_PoolOk_L5 n m (g1.1,g1.2.2.2.2.2.1,g1.2.2.2.2.2.2.1,(IntKind.i64.wrap (g1.2.2.2.2.2.2.2 + (1:Int))))))))) none) (some (Sum.inr ()))) := rfl
  rw [e0,decide_eq_true (by omega:(pre.length:Int) < (xs.length:Int)),cond_true,inb_nat hlt,cond_true,Int.toNat_natCast,getD_of hlt,hk,region_eq]
  simp only [Option.bind_some]
  have hself:kN.eqv (k.1,k.2.1,k.2.2) (k.1,k.2.1,k.2.2) = true := eqv_self kN rfl _
  have hke:((k.1,k.2.1,k.2.2):Node3) = k := rfl
  rw [mget_mput hself,nodeOk_eq,step_wrap hlt hx]
  rw [show okFrom n pre (k :: r) = ((!pre.contains k && nodeV n (k.1,k.2.1,k.2.2,(pre.length:Int))) && okFrom n (pre ++ [k]) r) from rfl]
  have hck := hc k
  by_cases hin:k ∈ pre
  ·rw [if_pos hin] at hck
   have:pre.contains k = true := by simpa using hin
   rw [this,show mget kN (k.1,k.2.1,k.2.2) kvs = 1 from hck]
   rfl
  ·rw [if_neg hin] at hck
   have hcf:pre.contains k = false := by simpa using hin
   rw [hcf,show mget kN (k.1,k.2.1,k.2.2) kvs = 0 from hck]
   rw [show decide (IntKind.i64.wrap ((0:Int) + (1:Int)) > (1:Int)) = false from rfl,cond_false]
   have ih := implPool_loop n hx m (pre ++ [k]) r (mput kN k (IntKind.i64.wrap ((0:Int) + (1:Int))) kvs) (by simpa using he) (by
    intro k'
    by_cases q:k' = k
    ·subst q
     rw [mget_mput (eqv_self kN rfl k')]
     simp; rfl
    ·rw [mget_mput_ne (by rw [eqv_N]; exact decide_eq_false q),hc k']
     simp [q]) (by simp at hm; omega)
   rw [show (pre ++ [k]).length = pre.length + 1 by simp] at ih
   simp only [Option.bind_some]
   rw [show mput kN (k.1,k.2.1,k.2.2) (IntKind.i64.wrap ((0:Int) + (1:Int))) kvs = mput kN k (IntKind.i64.wrap ((0:Int) + (1:Int))) kvs from rfl,ih]
   cases nodeV n (k.1,k.2.1,k.2.2,(pre.length:Int)) <;> cases okFrom n (pre ++ [k]) r <;> rfl
theorem implPool_eq (n:Nat) (hn:4294967296 < n) {xs:List Node3} (hx:xs.length ≤ 4294967296):impl_PoolOk n xs = some (decide (xs.length ≤ 500) && okFrom n [] xs) := by
 unfold impl_PoolOk
 by_cases q:xs.length ≤ 500
 ·rw [decide_eq_false (by omega:¬ (xs.length:Int) > (500:Int)),cond_false,decide_eq_true q,Bool.true_and]
  have := implPool_loop n hx n [] xs [] rfl (fun k => by simp [mget,mfind]) (by omega)
  rw [show (([]:List Node3).length:Int) = (0:Int) from rfl] at this
  rw [this]
  cases okFrom n [] xs <;> rfl
 ·rw [decide_eq_true (by omega:(xs.length:Int) > (500:Int)),cond_true,decide_eq_false q]; rfl
def hasB (xs:List Node3) (v:Int):Bool := decide (v ≥ 0) && decide (v ≤ (xs.length:Int) - 1)
theorem has_eq (n:Nat) {xs:List Node3} (hx:xs.length ≤ 4294967296) (v:Int):spec_l1Has n (xs,v) = some (hasB xs v) := by
 show ((spec_l1In n (v,(0:Int),IntKind.i64.wrap ((xs.length:Int) - (1:Int)))).bind fun r1 => some r1) = _
 rw [wrap_ok (by omega) (by omega),in_eq]; rfl
theorem isTerm_eq (n:Nat) {xs:List Node3} (hx:xs.length ≤ 4294967296) (v:Int):impl_Pool_isTerm n (xs,v) = some (xs,hasB xs v) := by
 show ((impl_inRange n (v,(0:Int),IntKind.i64.wrap ((xs.length:Int) - (1:Int)))).bind fun r1 => some (xs,r1)) = _
 rw [wrap_ok (by omega) (by omega),inRange_eq]; rfl
theorem n0:4294967296 < N0 := by decide
theorem szPool_eq (n:Nat) {xs:List Node3} (hx:xs.length ≤ 9223372036854775807):laws_szPool n (xs,(1048576:Int)) = some (if xs.length ≤ 1048576 then (1048576:Int) - (xs.length:Int) else -1) := by
 unfold laws_szPool laws_szNodeS
 simp only [wrap_ok (show -9223372036854775808 ≤ (1048576:Int) - (xs.length:Int) by omega) (show (1048576:Int) - (xs.length:Int) ≤ 9223372036854775807 by omega)]
 by_cases q:xs.length ≤ 1048576
 ·rw [if_pos q,decide_eq_false (by omega:¬ (1048576:Int) - (xs.length:Int) < (0:Int))]
  simp only [cond_false,Option.bind_some]
  rw [decide_eq_false (by omega:¬ (1048576:Int) - (xs.length:Int) < (0:Int))]; rfl
 ·rw [if_neg q,decide_eq_true (by omega:(1048576:Int) - (xs.length:Int) < (0:Int))]; rfl
theorem maxLen_eq:maxLen = 9223372036854775807 := by decide
def allN (g:Nat → Bool):Nat → Nat → Bool
 | _,0 => true
 | i,k + 1 => g i && allN g (i + 1) k
theorem allN_iff {g:Nat → Bool}:∀ {k i:Nat},allN g i k = true ↔ ∀ j,i ≤ j → j < i + k → g j = true
 | 0,i => ⟨fun _ j h1 h2 => by omega,fun _ => rfl⟩
 | k + 1,i => by
  show (g i && allN g (i + 1) k) = true ↔ _
  rw [Bool.and_eq_true,allN_iff]
  constructor
  ·rintro ⟨h1,h2⟩ j g1 g2
   rcases Nat.eq_or_lt_of_le g1 with q | q
   ·subst q; exact h1
   ·exact h2 j q (by omega)
  ·exact fun h => ⟨h i (Nat.le_refl _) (by omega),fun j g1 g2 => h j (by omega) (by omega)⟩
def places (d:Nat → Bool) (n:Nat):List Nat := (List.range n).filter d
abbrev Inst9 := Int×(Int×(Int×(Int×(Int×((List Int)×(Bool×(Bool×Int)))))))
abbrev Claim3 := Int×(Bool×Bool)
abbrev zI:Inst9 := ((0:Int),((0:Int),((0:Int),((0:Int),((0:Int),([],(false,(false,(0:Int)))))))))
abbrev zC:Claim3 := ((0:Int),(false,false))
theorem test_loop {X A B:Type} (L:Nat → X → Option (A ⊕ B)) (st:Nat → X) (g:Nat → Bool) (bad:A) (fin:B) (len:Nat)
  (step:∀ m i,i < len → L (m + 1) (st i) = bif g i then L m (st (i + 1)) else some (.inl bad)) (stop:∀ m,L (m + 1) (st len) = some (.inr fin)) :
  ∀ m i,i ≤ len → len < m + i → L m (st i) = some (bif allN g i (len - i) then .inr fin else .inl bad)
 | 0,i,h1,h2 => by omega
 | m + 1,i,h1,h2 => by
  rcases Nat.eq_or_lt_of_le h1 with q | q
  ·subst q
   rw [stop,Nat.sub_self]; rfl
  ·rw [step m i q,show len - i = (len - (i + 1)) + 1 by omega]
   show (bif g i then _ else _) = some (bif g i && allN g (i + 1) (len - (i + 1)) then _ else _)
   cases g i with
   | false => rfl
   | true => exact test_loop L st g bad fin len step stop m (i + 1) q (by omega)
theorem prev_wrap {i:Nat} (h:0 < i) (hi:i ≤ 4294967296):IntKind.i64.wrap ((i:Int) - (1:Int)) = ((i - 1:Nat):Int) := by
 rw [wrap_ok (by omega) (by omega)]; omega
theorem lt_nat (i n:Nat):decide ((i:Int) < (n:Int)) = decide (i < n) := by
 rw [Bool.eq_iff_iff]; simp
theorem lt_t {i n:Nat} (h:i < n):decide ((i:Int) < (n:Int)) = true := decide_eq_true (by omega)
theorem lt_f (n:Nat):decide ((n:Int) < (n:Int)) = false := decide_eq_false (by omega)
def ascAt (l:List Int) (j:Nat):Bool := decide (j = 0) || decide (l.getD (j - 1) 0 < l.getD j 0)
def knowAt (xs:List Node3) (k:List Int) (j:Nat):Bool := hasB xs (k.getD j 0) && ascAt k j
theorem gt0_t {i:Nat} (h:0 < i):decide ((i:Int) > (0:Int)) = true := decide_eq_true (by omega)
theorem le_not_lt (a b:Int):decide (a ≤ b) = !decide (b < a) := by
 rw [Bool.eq_iff_iff]; simp
theorem ge_not_lt (a b:Int):decide (a ≥ b) = !decide (a < b) := by
 rw [Bool.eq_iff_iff]; simp
theorem implKnow_step {xs:List Node3} (hx:xs.length ≤ 4294967296) {k:List Int} (hk:k.length ≤ 4294967296) (m i:Nat) (hi:i < k.length) :
  impl_KnowOk_L2 N0 (m + 1) (k,xs,k,(k.length:Int),(i:Int)) = bif knowAt xs k i then impl_KnowOk_L2 N0 m (k,xs,k,(k.length:Int),((i + 1:Nat):Int)) else some (.inl false) := by
 rw [impl_KnowOk_L2]
 dsimp only
 rw [lt_t hi,cond_true,inb_nat hi,cond_true,isTerm_eq N0 hx]
 simp only [Option.bind_some,Int.toNat_natCast,step_wrap hi hk]
 unfold knowAt ascAt
 cases hasB xs (k.getD i 0) with
 | false => rfl
 | true =>
  rcases Nat.eq_zero_or_pos i with q | q
  ·subst q; rfl
  ·rw [gt0_t q,cond_true,prev_wrap q (by omega),inb_nat (by omega),cond_true,Int.toNat_natCast,le_not_lt,decide_eq_false (by omega:¬ i = 0)]
   cases decide (k.getD (i - 1) 0 < k.getD i 0) <;> rfl
theorem implKnow_eq {xs:List Node3} (hx:xs.length ≤ 4294967296) {k:List Int} (hk:k.length ≤ 4294967296) :
  impl_KnowOk N0 (xs,k) = some (allN (knowAt xs k) 0 k.length && (decide (k.length ≤ 200) && (decide (xs.length ≤ 500) && okFrom N0 [] xs))) := by
 have := test_loop (impl_KnowOk_L2 N0) (fun i => (k,xs,k,(k.length:Int),(i:Int))) (knowAt xs k) false (k,xs) k.length (implKnow_step hx hk) (fun m => by
  rw [impl_KnowOk_L2]; dsimp only; rw [lt_f]; rfl) N0 0 (Nat.zero_le _) (by have := n0; omega)
 rw [Nat.sub_zero] at this
 show ((impl_KnowOk_L2 N0 N0 (k,xs,k,(k.length:Int),(0:Int))).bind _) = _
 rw [show impl_KnowOk_L2 N0 N0 (k,xs,k,(k.length:Int),(0:Int)) = _ from this]
 cases allN (knowAt xs k) 0 k.length with
 | false => rfl
 | true =>
  show (cond (decide ((k.length:Int) ≤ (200:Int))) ((impl_PoolOk N0 xs).bind fun r5 => some r5) (some false)) = _
  rw [implPool_eq N0 n0 hx]
  by_cases q:k.length ≤ 200
  ·rw [decide_eq_true (by omega:(k.length:Int) ≤ (200:Int)),decide_eq_true q]; rfl
  ·rw [decide_eq_false (by omega:¬ (k.length:Int) ≤ (200:Int)),decide_eq_false q]; rfl
theorem specKnow_step {xs:List Node3} (hx:xs.length ≤ 4294967296) {k:List Int} (hk:k.length ≤ 4294967296) (m i:Nat) (hi:i < k.length) :
  spec_l6Know_L4 N0 (m + 1) (k,xs,(i:Int)) = bif knowAt xs k i then spec_l6Know_L4 N0 m (k,xs,((i + 1:Nat):Int)) else some (.inl false) := by
 rw [spec_l6Know_L4]
 dsimp only
 rw [lt_t hi,cond_true,inb_nat hi,cond_true,has_eq N0 hx]
 simp only [Option.bind_some,Int.toNat_natCast,step_wrap hi hk]
 unfold knowAt ascAt
 cases hasB xs (k.getD i 0) with
 | false => rfl
 | true =>
  rcases Nat.eq_zero_or_pos i with q | q
  ·subst q; rfl
  ·rw [gt0_t q,cond_true,prev_wrap q (by omega),inb_nat (by omega),cond_true,Int.toNat_natCast,ge_not_lt,decide_eq_false (by omega:¬ i = 0)]
   cases decide (k.getD (i - 1) 0 < k.getD i 0) <;> rfl
theorem specKnow_eq {xs:List Node3} (hx:xs.length ≤ 4294967296) {k:List Int} (hk:k.length ≤ 4294967296) :
  spec_KnowOk N0 (xs,k) = some (allN (knowAt xs k) 0 k.length && (decide (k.length ≤ 200) && (decide (xs.length ≤ 500) && okFrom N0 [] xs))) := by
 have := test_loop (spec_l6Know_L4 N0) (fun i => (k,xs,(i:Int))) (knowAt xs k) false () k.length (specKnow_step hx hk) (fun m => by
  rw [spec_l6Know_L4]; dsimp only; rw [lt_f]; rfl) N0 0 (Nat.zero_le _) (by have := n0; omega)
 rw [Nat.sub_zero] at this
 have e:spec_l6Know N0 (xs,k) = some (decide (k.length ≤ 200) && allN (knowAt xs k) 0 k.length) := by
  show (cond (decide ((k.length:Int) > (200:Int))) (some false) ((spec_l6Know_L4 N0 N0 (k,xs,(0:Int))).bind _)) = _
  rw [show spec_l6Know_L4 N0 N0 (k,xs,(0:Int)) = _ from this]
  by_cases q:k.length ≤ 200
  ·rw [decide_eq_false (by omega:¬ (k.length:Int) > (200:Int)),decide_eq_true q]
   cases allN (knowAt xs k) 0 k.length <;> rfl
  ·rw [decide_eq_true (by omega:(k.length:Int) > (200:Int)),decide_eq_false q]; rfl
 show ((spec_PoolOk N0 xs).bind fun r1 => (cond r1 ((spec_l6Know N0 (xs,k)).bind fun r2 => (some r2)) (some false))) = _
 rw [specPool_eq N0 n0 hx,e]
 generalize (decide (xs.length ≤ 500) && okFrom N0 [] xs) = P
 generalize allN (knowAt xs k) 0 k.length = Q
 generalize decide (k.length ≤ 200) = R
 cases P <;> cases Q <;> cases R <;> rfl
def hasAt (l:List Int) (v:Int):Bool := !allN (fun j => !(l.getD j 0 == v)) 0 l.length
theorem knowHas_eq {k:List Int} (hk:k.length ≤ 4294967296) (v:Int):spec_KnowHas N0 (k,v) = some (hasAt k v) := by
 have := test_loop (spec_KnowHas_L2 N0) (fun i => (k,v,(i:Int))) (fun j => !(k.getD j 0 == v)) true () k.length (fun m i hi => by
  rw [spec_KnowHas_L2]; dsimp only
  rw [lt_t hi,cond_true,inb_nat hi,cond_true,Int.toNat_natCast,step_wrap hi hk]
  cases (k.getD i 0 == v) <;> rfl) (fun m => by
  rw [spec_KnowHas_L2]; dsimp only; rw [lt_f]; rfl) N0 0 (Nat.zero_le _) (by have := n0; omega)
 rw [Nat.sub_zero] at this
 show ((spec_KnowHas_L2 N0 N0 (k,v,(0:Int))).bind _) = _
 rw [show spec_KnowHas_L2 N0 N0 (k,v,(0:Int)) = _ from this]
 unfold hasAt
 cases allN (fun j => !(k.getD j 0 == v)) 0 k.length <;> rfl
theorem hasAt_iff {l:List Int} {v:Int}:hasAt l v = true ↔ ∃ j,j < l.length ∧ l.getD j 0 = v := by
 unfold hasAt
 rw [Bool.not_eq_true',Bool.eq_false_iff,ne_eq,allN_iff]
 constructor
 ·intro h
  refine Classical.byContradiction fun h2 => h fun j _ hj => ?_
  have:¬ l.getD j 0 = v := fun e => h2 ⟨j,by omega,e⟩
  simpa using this
 ·rintro ⟨j,h1,h2⟩ h
  have := h j (Nat.zero_le _) (by omega)
  rw [h2] at this
  simp at this
abbrev envL (x:Inst9):List Int := x.2.2.2.2.2.1
structure Small (xs:List Node3) (kn:List Int) (li:List Inst9) (gv sh:List Int) (lg:List Claim3):Prop where
 fx:xs.length ≤ 4294967296
 fk:kn.length ≤ 4294967296
 fl:li.length ≤ 4294967296
 fg:gv.length ≤ 4294967296
 fs:sh.length ≤ 4294967296
 fo:lg.length ≤ 4294967296
 fe:∀ i,i < li.length → (envL (li.getD i zI)).length ≤ 4294967296
def poolB (xs:List Node3):Bool := decide (xs.length ≤ 500) && okFrom N0 [] xs
section
variable {xs:List Node3} {kn:List Int} {li:List Inst9} {fr:Int} {gv sh:List Int} {lg:List Claim3}
def lk (lg:List Claim3) (j:Nat):Int := (lg.getD j zC).1
end
section
variable {xs:List Node3} {kn:List Int} {li:List Inst9} {fr:Int} {gv sh:List Int} {lg:List Claim3}
end
section
variable {xs:List Node3} {kn:List Int} {li:List Inst9} {fr:Int} {gv sh:List Int} {lg:List Claim3}
theorem getD_set_copy {α:Type} (d:α) {xs ys:List α} {i:Nat} (hi:i < xs.length) (hl:ys.length = xs.length) (h:∀ j,j < i → ys[j]? = xs[j]?):(ys.set i (xs.getD i d)).length = xs.length ∧ ∀ j,j < i + 1 → (ys.set i (xs.getD i d))[j]? = xs[j]? := by
 rw [getD_of hi]; exact copy_set hi hl h
theorem eqIntS_self {l:List Int} (hl:l.length ≤ 4294967296):laws_eqIntS N0 (l,l) = some true := by
 unfold laws_eqIntS
 have := eqIntS_loop N0 hl N0 0 (Nat.zero_le _) (by have := n0; omega)
 rw [show ((0:Nat):Int) = (0:Int) from rfl] at this
 simp only [bne_self_eq_false,cond_false,this]; rfl
end
section
variable {xs:List Node3} {kn:List Int} {li:List Inst9} {fr:Int} {gv sh:List Int} {lg:List Claim3} {k:Int}
end
abbrev zN3:Node3 := ((0:Int),((0:Int),(0:Int)))
def pf (xs:List Node3) (k:Node3):Nat → Nat → Option Nat
 | _,0 => none
 | i,m + 1 => if xs.getD i zN3 = k then some i else pf xs k (i + 1) m
abbrev pfind (xs:List Node3) (k:Node3):Option Nat := pf xs k 0 xs.length
theorem pf_some {xs:List Node3} {k:Node3}:∀ {m i j:Nat},pf xs k i m = some j → i ≤ j ∧ j < i + m ∧ xs.getD j zN3 = k
 | 0,_,_,h => by cases h
 | m + 1,i,j,h => by
  unfold pf at h
  by_cases hk:xs.getD i zN3 = k
  ·rw [if_pos hk] at h
   obtain rfl := Option.some.inj h
   exact ⟨Nat.le_refl _,by omega,hk⟩
  ·rw [if_neg hk] at h
   obtain ⟨h1,h2,h3⟩ := pf_some h
   exact ⟨by omega,by omega,h3⟩
theorem pf_none {xs:List Node3} {k:Node3}:∀ {m i:Nat},pf xs k i m = none → ∀ q,i ≤ q → q < i + m → xs.getD q zN3 ≠ k
 | 0,i,_,q,h1,h2 => by omega
 | m + 1,i,h,q,h1,h2 => by
  unfold pf at h
  by_cases hk:xs.getD i zN3 = k
  ·rw [if_pos hk] at h; cases h
  ·rw [if_neg hk] at h
   rcases Nat.eq_or_lt_of_le h1 with e | e
   ·subst e; exact hk
   ·exact pf_none h q e (by omega)
theorem node_beq (p k:Node3):(p.1 == k.1 && (p.2.1 == k.2.1 && (p.2.2 == k.2.2 && true))) = decide (p = k) := by
 obtain ⟨p1,p2,p3⟩ := p
 obtain ⟨k1,k2,k3⟩ := k
 rw [Bool.eq_iff_iff]
 simp
theorem node_beq' (p k:Node3):(k.1 == p.1 && (k.2.1 == p.2.1 && (k.2.2 == p.2.2 && true))) = decide (p = k) := by
 rw [node_beq k p,Bool.eq_iff_iff]
 simp [eq_comm]
theorem pf_step {xs:List Node3} {k:Node3} {i:Nat} (h:i < xs.length):pf xs k i (xs.length - i) = if xs.getD i zN3 = k then some i else pf xs k (i + 1) (xs.length - (i + 1)) := by
 have e:xs.length - i = (xs.length - (i + 1)) + 1 := by omega
 rw [e]; rfl
theorem pf_end {xs:List Node3} {k:Node3} {i:Nat} (h:xs.length ≤ i):pf xs k i (xs.length - i) = none := by
 have e:xs.length - i = 0 := by omega
 rw [e]; rfl
theorem index_loop (n:Nat) {xs:List Node3} (hx:xs.length ≤ 4294967296) (k:Node3):∀ (m i:Nat),i ≤ xs.length → xs.length < m + i → slices_Index___impl_Node_impl_Node__L2 n m (xs,k.1,k.2.1,k.2.2,(xs.length:Int),(i:Int)) =
  some (match pf xs k i (xs.length - i) with | some j => Sum.inl (j:Int) | none => Sum.inr ())
 | 0,i,h1,h2 => by omega
 | m + 1,i,h1,h2 => by
  have e0:slices_Index___impl_Node_impl_Node__L2 n (m + 1) (xs,k.1,k.2.1,k.2.2,(xs.length:Int),(i:Int)) = (cond (decide ((i:Int) < (xs.length:Int))) (cond (inb (i:Int) xs.length) (cond (k.1 == (xs.getD ((i:Int)).toNat zN3).1 && (k.2.1 == (xs.getD ((i:Int)).toNat zN3).2.1 && (k.2.2 == (xs.getD ((i:Int)).toNat zN3).2.2 && true))) (some (Sum.inl (i:Int))) (slices_Index___impl_Node_impl_Node__L2 n m (xs,k.1,k.2.1,k.2.2,(xs.length:Int),IntKind.i64.wrap ((i:Int) + (1:Int))))) none) (some (Sum.inr ()))) := rfl
  rw [e0,lt_nat]
  by_cases hlt:i < xs.length
  ·rw [decide_eq_true hlt,cond_true,inb_nat hlt,cond_true,Int.toNat_natCast,step_wrap hlt hx,node_beq',pf_step hlt]
   by_cases hk:xs.getD i zN3 = k
   ·rw [decide_eq_true hk,cond_true,if_pos hk]
   ·rw [decide_eq_false hk,cond_false,if_neg hk,index_loop n hx k m (i + 1) hlt (by omega)]
  ·rw [decide_eq_false hlt,cond_false,pf_end (by omega)]
theorem find_loop2 (n:Nat) {xs:List Node3} (hx:xs.length ≤ 4294967296) (k:Node3):∀ (m i:Nat),i ≤ xs.length → xs.length < m + i → spec_l1Find_L2 n m (xs,k.1,k.2.1,k.2.2,(i:Int)) =
  some (match pf xs k i (xs.length - i) with | some j => Sum.inl (j:Int) | none => Sum.inr ())
 | 0,i,h1,h2 => by omega
 | m + 1,i,h1,h2 => by
  have e0:spec_l1Find_L2 n (m + 1) (xs,k.1,k.2.1,k.2.2,(i:Int)) = (cond (decide ((i:Int) < (xs.length:Int))) (cond (inb (i:Int) xs.length) (cond ((xs.getD ((i:Int)).toNat zN3).1 == k.1 && ((xs.getD ((i:Int)).toNat zN3).2.1 == k.2.1 && ((xs.getD ((i:Int)).toNat zN3).2.2 == k.2.2 && true))) (some (Sum.inl (i:Int))) (spec_l1Find_L2 n m (xs,k.1,k.2.1,k.2.2,IntKind.i64.wrap ((i:Int) + (1:Int))))) none) (some (Sum.inr ()))) := rfl
  rw [e0,lt_nat]
  by_cases hlt:i < xs.length
  ·rw [decide_eq_true hlt,cond_true,inb_nat hlt,cond_true,Int.toNat_natCast,step_wrap hlt hx,node_beq,pf_step hlt]
   by_cases hk:xs.getD i zN3 = k
   ·rw [decide_eq_true hk,cond_true,if_pos hk]
   ·rw [decide_eq_false hk,cond_false,if_neg hk,find_loop2 n hx k m (i + 1) hlt (by omega)]
  ·rw [decide_eq_false hlt,cond_false,pf_end (by omega)]
def pfI (xs:List Node3) (k:Node3):Int := match pfind xs k with
 | some j => (j:Int)
 | none => -1
theorem index_eq {xs:List Node3} (hx:xs.length ≤ 4294967296) (k:Node3):slices_Index___impl_Node_impl_Node_ N0 (xs,k.1,k.2.1,k.2.2) = some (pfI xs k) := by
 unfold slices_Index___impl_Node_impl_Node_
 dsimp only
 have h := index_loop N0 hx k N0 0 (Nat.zero_le _) (by have := n0; omega)
 rw [Nat.sub_zero] at h
 rw [show (0:Int) = ((0:Nat):Int) from rfl,h]
 unfold pfI pfind
 cases pf xs k 0 xs.length <;> rfl
theorem l1Find_eq {xs:List Node3} (hx:xs.length ≤ 4294967296) (k:Node3):spec_l1Find N0 (xs,k.1,k.2.1,k.2.2) = some (pfI xs k) := by
 unfold spec_l1Find
 dsimp only
 have h := find_loop2 N0 hx k N0 0 (Nat.zero_le _) (by have := n0; omega)
 rw [Nat.sub_zero] at h
 rw [show (0:Int) = ((0:Nat):Int) from rfl,h]
 unfold pfI pfind
 cases pf xs k 0 xs.length <;> rfl
theorem room_500 {α:Type} {xs:List Node3} (h:xs.length ≤ 500) {k:α}:room (xs.length + [k].length) = true := by
 unfold room
 rw [List.length_singleton]
 simp
 omega
theorem nodeV_up {c a b:Int} {i j:Nat} (hj:j ≤ 4294967296) (hij:i ≤ j) (h:nodeV N0 (c,a,b,(i:Int)) = true):nodeV N0 (c,a,b,(j:Int)) = true := by
 have wi:IntKind.i64.wrap ((i:Int) - (1:Int)) = (i:Int) - 1 := wrap_ok (by omega) (by omega)
 have wj:IntKind.i64.wrap ((j:Int) - (1:Int)) = (j:Int) - 1 := wrap_ok (by omega) (by omega)
 have up:∀ v:Int,(decide (v ≥ 0) && decide (v ≤ (i:Int) - 1)) = true → (decide (v ≥ 0) && decide (v ≤ (j:Int) - 1)) = true := fun v hv => by
  rw [Bool.and_eq_true,decide_eq_true_iff,decide_eq_true_iff] at hv ⊢
  omega
 have ha := up a
 have hb := up b
 revert h
 unfold nodeV impl_nodeOk
 dsimp only
 obtain ⟨v,hv⟩ := count_some N0 c
 rw [hv]
 simp only [Option.bind_some,inRange_eq,wi,wj]
 generalize (decide (a ≥ 0) && decide (a ≤ (i:Int) - 1)) = A1 at ha ⊢
 generalize (decide (a ≥ 0) && decide (a ≤ (j:Int) - 1)) = A2 at ha ⊢
 generalize (decide (b ≥ 0) && decide (b ≤ (i:Int) - 1)) = B1 at hb ⊢
 generalize (decide (b ≥ 0) && decide (b ≤ (j:Int) - 1)) = B2 at hb ⊢
 cases (v == (0:Int))
 ·cases (v == (1:Int))
  ·cases (v == (2:Int))
   ·exact id
   ·cases A1
    ·exact fun h => Bool.noConfusion h
    ·cases B1
     ·exact fun h => (by cases A2 <;> exact Bool.noConfusion h)
     ·rw [ha rfl,hb rfl]; exact id
  ·cases A1
   ·exact fun h => Bool.noConfusion h
   ·rw [ha rfl]; exact id
 ·exact id
theorem okFrom_nd {n:Nat}:∀ {r pre:List Node3},okFrom n pre r = true → ∀ j,j < r.length → nodeV n ((r.getD j zN3).1,(r.getD j zN3).2.1,(r.getD j zN3).2.2,((pre.length + j:Nat):Int)) = true
 | [],pre,_,j,hj => absurd hj (Nat.not_lt_zero _)
 | k :: r,pre,h,j,hj => by
  have h:((!pre.contains k && nodeV n (k.1,k.2.1,k.2.2,(pre.length:Int))) && okFrom n (pre ++ [k]) r) = true := h
  rw [Bool.and_eq_true,Bool.and_eq_true] at h
  match j with
  | 0 => exact h.1.2
  | j + 1 =>
   have := okFrom_nd h.2 j (by simpa using hj)
   rw [List.length_append] at this
   have e:pre.length + (j + 1) = pre.length + [k].length + j := by simp; omega
   rw [e]
   exact this
theorem okFrom_app {n:Nat}:∀ {r pre s:List Node3},okFrom n pre (r ++ s) = (okFrom n pre r && okFrom n (pre ++ r) s)
 | [],pre,s => by simp [okFrom]
 | k :: r,pre,s => by
  show ((!pre.contains k && nodeV n (k.1,k.2.1,k.2.2,(pre.length:Int))) && okFrom n (pre ++ [k]) (r ++ s)) = (((!pre.contains k && nodeV n (k.1,k.2.1,k.2.2,(pre.length:Int))) && okFrom n (pre ++ [k]) r) && okFrom n (pre ++ (k :: r)) s)
  rw [okFrom_app]
  simp only [Bool.and_assoc,List.append_assoc,List.singleton_append]
theorem poolB_len {xs:List Node3} (h:poolB xs = true):xs.length ≤ 500 := by
 unfold poolB at h
 rw [Bool.and_eq_true,decide_eq_true_iff] at h
 exact h.1
theorem poolB_nd {xs:List Node3} (h:poolB xs = true) {j:Nat} (hj:j < xs.length):nodeV N0 ((xs.getD j zN3).1,(xs.getD j zN3).2.1,(xs.getD j zN3).2.2,(j:Int)) = true := by
 unfold poolB at h
 rw [Bool.and_eq_true] at h
 have := okFrom_nd h.2 j hj
 simpa using this
theorem poolB_push {xs:List Node3} (h:poolB xs = true) (hl:xs.length < 500) {k:Node3} (hk:nodeV N0 (k.1,k.2.1,k.2.2,(xs.length:Int)) = true) (hn:pfind xs k = none):poolB (xs ++ [k]) = true := by
 unfold poolB at h ⊢
 rw [Bool.and_eq_true] at h ⊢
 refine ⟨decide_eq_true (by simp; omega), ?_⟩
 rw [okFrom_app,h.2,Bool.true_and,List.nil_append]
 show ((!xs.contains k && nodeV N0 (k.1,k.2.1,k.2.2,(xs.length:Int))) && true) = true
 rw [hk,Bool.and_true,Bool.and_true,Bool.not_eq_true']
 rw [← Bool.not_eq_true]
 intro hc
 have hm:k ∈ xs := by simpa using hc
 obtain ⟨j,hj,e⟩ := List.mem_iff_getElem.1 hm
 refine pf_none hn j (Nat.zero_le _) (by omega) ?_
 rw [getD_of hj]
 exact e
def addK (xs:List Node3) (k:Node3):Option (List Node3×Int) :=
 bif nodeV N0 (k.1,k.2.1,k.2.2,(xs.length:Int)) then (match pfind xs k with
  | some j => some (xs,(j:Int))
  | none => if 500 ≤ xs.length then none else some (xs ++ [k],(xs.length:Int))) else none
def norm (kd a b:Int):Node3 := bif kd == 8 then (kd,mn a b,mx a b) else (kd,a,b)
def addP (xs:List Node3) (kd a b:Int):Option (List Node3×Int) := addK xs (norm kd a b)
def outI (xs:List Node3):Option (List Node3×Int) → List Node3×Int
 | some r => r
 | none => (xs, -1)
theorem addK_pool {xs ys:List Node3} {k:Node3} {t:Int} (hp:poolB xs = true) (h:addK xs k = some (ys,t)):poolB ys = true ∧ 0 ≤ t ∧ t < (ys.length:Int) ∧ (∃ zs,ys = xs ++ zs) ∧ ys.getD t.toNat zN3 = k := by
 unfold addK at h
 cases hk:nodeV N0 (k.1,k.2.1,k.2.2,(xs.length:Int)) with
 | false => rw [hk] at h; cases h
 | true =>
  rw [hk,cond_true] at h
  cases hf:pfind xs k with
  | some j =>
   rw [hf] at h
   obtain ⟨rfl,rfl⟩ := Prod.mk.inj (Option.some.inj h)
   obtain ⟨h1,h2,h3⟩ := pf_some hf
   exact ⟨hp,by omega,by omega,⟨[],by simp⟩,by rw [Int.toNat_natCast]; exact h3⟩
  | none =>
   rw [hf] at h
   dsimp only at h
   by_cases hl:500 ≤ xs.length
   ·rw [if_pos hl] at h; cases h
   ·rw [if_neg hl] at h
    obtain ⟨rfl,rfl⟩ := Prod.mk.inj (Option.some.inj h)
    exact ⟨poolB_push hp (by omega) hk hf,by omega,by simp; omega,⟨[k],rfl⟩,by rw [Int.toNat_natCast]; simp [List.getD_eq_getElem?_getD]⟩
theorem isTermO_eq {xs:List Node3} (hx:xs.length ≤ 4294967296) (v:Int):impl_Pool_isTerm_o N0 (xs,v) = some (xs,hasB xs v) := isTerm_eq N0 hx v
theorem implAddK {xs:List Node3} (hx:xs.length ≤ 500) (k:Node3):((impl_nodeOk N0 (k.1,k.2.1,k.2.2,((xs).length:Int))).bind fun r1 => (cond (!r1) (some (xs,(-1:Int))) ((impl_Pool_find_o N0 (xs,k.1,k.2.1,k.2.2)).bind fun r2 => (cond (decide (r2.2 ≥ (0:Int))) (some (r2.1,r2.2)) (cond (decide (((r2.1).length:Int) ≥ (500:Int))) (some (r2.1,(-1:Int))) ((impl_Pool_add_R11 N0 (r2.1,k.1,k.2.1,k.2.2)).bind fun g3 => (some (g3,(IntKind.i64.wrap (((g3).length:Int) - (1:Int)))))))))))
  = some (outI xs (addK xs k)) := by
 rw [nodeOk_eq,Option.bind_some]
 unfold addK
 cases nodeV N0 (k.1,k.2.1,k.2.2,(xs.length:Int)) with
 | false => rfl
 | true =>
  rw [cond_true,Bool.not_true,cond_false]
  have e1:impl_Pool_find_o N0 (xs,k.1,k.2.1,k.2.2) = some (xs,pfI xs k) := by
   unfold impl_Pool_find_o
   dsimp only
   rw [index_eq (by omega)]; rfl
  rw [e1,Option.bind_some]
  dsimp only
  unfold pfI
  cases hf:pfind xs k with
  | some j =>
   dsimp only
   rw [decide_eq_true (by omega:(j:Int) ≥ (0:Int)),cond_true]; rfl
  | none =>
   dsimp only
   rw [decide_eq_false (by omega:¬ ((-1:Int) ≥ (0:Int))),cond_false]
   by_cases hl:500 ≤ xs.length
   ·rw [decide_eq_true (by omega:(xs.length:Int) ≥ (500:Int)),cond_true,if_pos hl]; rfl
   ·rw [decide_eq_false (by omega:¬ ((xs.length:Int) ≥ (500:Int))),cond_false,if_neg hl]
    have e2:impl_Pool_add_R11 N0 (xs,k.1,k.2.1,k.2.2) = some (xs ++ [k]) := by
     unfold impl_Pool_add_R11
     dsimp only
     have:room (xs.length + [(k.1,(k.2.1,k.2.2))].length) = true := room_500 hx
     rw [this]; rfl
    rw [e2,Option.bind_some]
    have e3:IntKind.i64.wrap (((xs ++ [k]).length:Int) - (1:Int)) = (xs.length:Int) := by
     have hl:(xs ++ [k]).length = xs.length + 1 := by rw [List.length_append,List.length_singleton]
     rw [hl,wrap_ok (by omega) (by omega)]
     omega
    rw [e3]; rfl
theorem implAdd_eq {xs:List Node3} (hx:xs.length ≤ 500) (kd a b:Int):impl_Pool_add N0 (xs,kd,a,b) = some (outI xs (addP xs kd a b)) := by
 unfold impl_Pool_add addP norm
 dsimp only
 cases hk:(kd == (8:Int)) with
 | true => rw [cond_true,cond_true]; exact implAddK hx (kd,mn a b,mx a b)
 | false => rw [cond_false,cond_false]; exact implAddK hx (kd,a,b)
theorem implName_eq {xs:List Node3} (hx:xs.length ≤ 500) (c:Int):impl_Pool_name N0 (xs,c) = some (outI xs (addP xs 1 c 0)) := by
 unfold impl_Pool_name
 dsimp only
 rw [implAdd_eq hx]; rfl
theorem specAddK {xs:List Node3} (hp:poolB xs = true) (k:Node3):((spec_l1Find N0 (xs,k.1,k.2.1,k.2.2)).bind fun r9 => (cond (decide (r9 ≥ (0:Int))) (some (xs,r9)) ((spec_l1Right N0 (k.1,k.2.1,k.2.2,((xs).length:Int))).bind fun r10 => (cond (!r10) (some (xs,(-1:Int))) (cond (((xs).length:Int) == (500:Int)) (some (xs,(-1:Int))) ((spec_l1Copy N0 xs).bind fun r11 => (cond (room ((r11).length + ([(k.1,(k.2.1,k.2.2))]).length)) ((spec_l1Add_R10 N0 (xs,[],(r11 ++ [(k.1,(k.2.1,k.2.2))]))).bind fun g12 => (some (g12.1,g12.2))) none)))))))
  = some (outI xs (addK xs k)) := by
 have hx := poolB_len hp
 rw [l1Find_eq (by omega),Option.bind_some]
 unfold pfI addK
 cases hf:pfind xs k with
 | some j =>
  obtain ⟨h1,h2,h3⟩ := pf_some hf
  have hj:j < xs.length := by omega
  have hnd := poolB_nd hp hj
  rw [h3] at hnd
  rw [nodeV_up (by omega) (Nat.le_of_lt hj) hnd]
  dsimp only
  rw [decide_eq_true (by omega:(j:Int) ≥ (0:Int)),cond_true]; rfl
 | none =>
  dsimp only
  rw [decide_eq_false (by omega:¬ ((-1:Int) ≥ (0:Int))),cond_false,right_eq,Option.bind_some]
  cases nodeV N0 (k.1,k.2.1,k.2.2,(xs.length:Int)) with
  | false => rfl
  | true =>
   rw [cond_true,Bool.not_true,cond_false]
   by_cases hl:500 ≤ xs.length
   ·have:((xs.length:Int) == (500:Int)) = true := by simp; omega
    rw [this,cond_true,if_pos hl]; rfl
   ·have:((xs.length:Int) == (500:Int)) = false := by simp; omega
    rw [this,cond_false,if_neg hl]
    have e1:spec_l1Copy N0 xs = some xs := by
     unfold spec_l1Copy
     have:room (([]:List Node3).length + xs.length) = true := by
      unfold room
      simp
      omega
     rw [this]; rfl
    rw [e1,Option.bind_some]
    have:room (xs.length + [(k.1,(k.2.1,k.2.2))].length) = true := room_500 hx
    rw [this,cond_true]; rfl
theorem specAdd_eq {xs:List Node3} (hp:poolB xs = true) (kd a b:Int):spec_l1Add N0 (xs,kd,a,b) = some (outI xs (addP xs kd a b)) := by
 unfold spec_l1Add addP norm mn mx
 dsimp only
 cases hk:(kd == (8:Int)) with
 | true =>
  rw [cond_true,cond_true]
  by_cases hab:a > b
  ·rw [decide_eq_true hab,cond_true,if_pos (by omega:b < a),if_neg (by omega:¬ b > a)]
   exact specAddK hp (kd,b,a)
  ·rw [decide_eq_false hab,cond_false,if_neg (by omega:¬ b < a)]
   have:(if b > a then b else a) = b := by split <;> omega
   rw [this]
   exact specAddK hp (kd,a,b)
 | false => rw [cond_false,cond_false]; exact specAddK hp (kd,a,b)
theorem specName_eq {xs:List Node3} (hp:poolB xs = true) (c:Int):spec_l2Name N0 (xs,c) = some (outI xs (addP xs 1 c 0)) := by
 unfold spec_l2Name
 dsimp only
 rw [specAdd_eq hp]; rfl
def raiseP (xs:List Node3) (a e:Int):Option (List Node3×Int) :=
 bif hasB xs a then (bif hasB xs e then (bif (xs.getD a.toNat zN3).1 == 7 then addP xs 8 e (xs.getD a.toNat zN3).2.1 else none) else none) else none
theorem hasB_inb {xs:List Node3} {a:Int} (h:hasB xs a = true):inb a xs.length = true := by
 unfold hasB at h
 rw [Bool.and_eq_true,decide_eq_true_iff,decide_eq_true_iff] at h
 have e:a = ((a.toNat:Nat):Int) := by omega
 rw [e]
 exact inb_nat (by omega)
theorem implRaise_eq {xs:List Node3} (hx:xs.length ≤ 500) (a e:Int):impl_Pool_raise N0 (xs,a,e) = some (outI xs (raiseP xs a e)) := by
 unfold impl_Pool_raise raiseP
 dsimp only
 rw [isTermO_eq (by omega),Option.bind_some]
 dsimp only
 cases ha:hasB xs a with
 | false => rfl
 | true =>
  rw [Bool.not_true,cond_false,cond_true,isTermO_eq (by omega),Option.bind_some]
  dsimp only
  cases hasB xs e with
  | false => rfl
  | true =>
   rw [Bool.not_true,cond_false,cond_true,hasB_inb ha,cond_true,cond_true]
   show (cond (!((xs.getD a.toNat zN3).1 == (7:Int))) _ _) = _
   cases ((xs.getD a.toNat zN3).1 == (7:Int)) with
   | false => rfl
   | true =>
    rw [Bool.not_true,cond_false,cond_true,implAdd_eq hx]; rfl
theorem specRaise_eq {xs:List Node3} (hp:poolB xs = true) (a e:Int):spec_l3Raise N0 (xs,a,e) = some (outI xs (raiseP xs a e)) := by
 have hx := poolB_len hp
 unfold spec_l3Raise raiseP
 dsimp only
 rw [has_eq N0 (by omega),Option.bind_some]
 cases ha:hasB xs a with
 | false => rfl
 | true =>
  rw [Bool.not_true,cond_false,cond_true,has_eq N0 (by omega),Option.bind_some]
  cases hasB xs e with
  | false => rfl
  | true =>
   rw [Bool.not_true,cond_false,cond_true,hasB_inb ha,cond_true,cond_true]
   show (cond (!((xs.getD a.toNat zN3).1 == (7:Int))) _ _) = _
   cases ((xs.getD a.toNat zN3).1 == (7:Int)) with
   | false => rfl
   | true =>
    rw [Bool.not_true,cond_false,cond_true,specAdd_eq hp]; rfl
inductive Pat where
 | name (c:Int)
 | var (i:Int)
 | ask (i:Int)
 | un (k:Int) (p:Pat)
 | bin (k:Int) (p q:Pat)
 | exp (p q:Pat)
def mk (env:List Int):Pat → List Node3 → Option (List Node3×Int)
 | .name c,xs => addP xs 1 c 0
 | .var i,xs => bif decide (env.getD i.toNat 0 < 0) then none else some (xs,env.getD i.toNat 0)
 | .ask _,xs => none
 | .un k p,xs => (mk env p xs).bind fun r => addP r.1 k r.2 0
 | .bin k p q,xs => (mk env p xs).bind fun r => (mk env q r.1).bind fun s => addP s.1 k r.2 s.2
 | .exp p q,xs => (mk env p xs).bind fun r => (mk env q r.1).bind fun s => raiseP s.1 s.2 r.2
def Grown (xs ys:List Node3) (t:Int):Prop := poolB ys = true ∧ 0 ≤ t ∧ (∃ zs,ys = xs ++ zs)
theorem Grown.trans {xs ys zs:List Node3} {t u:Int} (h1:Grown xs ys t) (h2:Grown ys zs u):Grown xs zs u := by
 obtain ⟨a1,a2,v,rfl⟩ := h1
 obtain ⟨b1,b2,w,rfl⟩ := h2
 exact ⟨b1,b2,v ++ w,by rw [List.append_assoc]⟩
theorem raiseP_add {xs ys:List Node3} {a e t:Int} (h:raiseP xs a e = some (ys,t)):addP xs 8 e (xs.getD a.toNat zN3).2.1 = some (ys,t) := by
 unfold raiseP at h
 cases h1:hasB xs a with
 | false => rw [h1] at h; cases h
 | true =>
  cases h2:hasB xs e with
  | false => rw [h1,h2] at h; cases h
  | true =>
   cases h3:((xs.getD a.toNat zN3).1 == 7) with
   | false => rw [h1,h2,h3] at h; cases h
   | true => rw [h1,h2,h3] at h; exact h
theorem copy_eq {xs:List Node3} (hx:xs.length ≤ 4294967296):impl_copyPool N0 xs = some xs := by
 unfold impl_copyPool lib_cloneNode
 rw [decide_eq_true hx]; rfl
theorem copyS_eq {xs:List Node3} (hx:xs.length ≤ 4294967296):spec_l1Copy N0 xs = some xs := by
 unfold spec_l1Copy
 have:room (([]:List Node3).length + xs.length) = true := by
  unfold room
  simp
  omega
 rw [this]; rfl
section
variable {xs:List Node3} {kn:List Int} {li:List Inst9} {fr:Int} {gv sh:List Int} {lg:List Claim3} {k:Int}
end
def EnvG (env:List Int):Prop := env.length = 26 ∧ ∀ i:Nat,env.getD i 0 < 0 → env.getD i 0 = -1
theorem set_get {env:List Int} {i:Nat} (h:i < env.length) (t:Int):(env.set i t).getD i 0 = t := by
 rw [List.getD_eq_getElem?_getD,List.getElem?_set_self h]; rfl
theorem EnvG.set {env:List Int} (h:EnvG env) {i:Nat} (hi:i < env.length) {t:Int} (ht:0 ≤ t):EnvG (env.set i t) := by
 refine ⟨by rw [List.length_set]; exact h.1,fun j hj => ?_⟩
 by_cases e:i = j
 ·subst e
  rw [set_get hi] at hj
  omega
 ·have e2:(env.set i t).getD j 0 = env.getD j 0 := by rw [List.getD_eq_getElem?_getD,List.getD_eq_getElem?_getD,List.getElem?_set_ne e]
  rw [e2] at hj ⊢
  exact h.2 _ hj
abbrev nd (xs:List Node3) (t:Int):Node3 := xs.getD t.toNat zN3
def mkN:Int → Nat → List Node3
 | _,0 => []
 | k,n + 1 => (k,k + 1,k + 2) :: mkN (k + 3) n
def mkI:Int → Nat → List Int
 | _,0 => []
 | k,n + 1 => k :: mkI (k + 1) n
theorem set_pre {α:Type} (pre r:List α) (a b:α):(pre ++ a :: r).set pre.length b = pre ++ b :: r := by
 rw [List.set_append_right _ _ (Nat.le_refl _),Nat.sub_self]; rfl
theorem get_pre {α:Type} (pre r:List α) (a d:α):(pre ++ a :: r).getD pre.length d = a := by
 rw [List.getD_eq_getElem?_getD,List.getElem?_append_right (Nat.le_refl _),Nat.sub_self]; rfl
theorem in_pre {α:Type} (pre r:List α) (a:α):inb (pre.length:Int) (pre ++ a :: r).length = true := inb_nat (by simp)
theorem lt_pre {α:Type} (pre r:List α) (a:α):decide ((pre.length:Int) < ((pre ++ a :: r).length:Int)) = true := decide_eq_true (by simp; omega)
theorem lt_end {α:Type} (pre:List α):decide ((pre.length:Int) < ((pre ++ ([]:List α)).length:Int)) = false := decide_eq_false (by simp)
theorem app_one {α:Type} (pre r:List α) (a:α):pre ++ a :: r = (pre ++ [a]) ++ r := by rw [List.append_assoc]; rfl
theorem len_one {α:Type} (pre:List α) (a:α):((pre ++ [a]).length:Int) = (pre.length:Int) + 1 := by rw [List.length_append,List.length_singleton]; omega
theorem markN_loop:∀ (r pre:List Node3) (k:Int) (m:Nat),r.length < m → 0 ≤ k → k + 3 * (r.length:Int) ≤ 4611686018427387904 → pre.length + r.length ≤ 4294967296 → laws_markNodeS_L2 N0 m (pre ++ r,k,(pre.length:Int)) = some (pre ++ mkN k r.length,k + 3 * (r.length:Int))
 | r,pre,k,0,h,_,_,_ => by omega
 | [],pre,k,m + 1,h,h0,h1,h2 => by
  rw [laws_markNodeS_L2]; dsimp only
  rw [lt_end,cond_false]
  simp [mkN]
 | a :: r,pre,k,m + 1,h,h0,h1,h2 => by
  rw [List.length_cons] at h h1 h2
  have w1:IntKind.i64.wrap (k + 1) = k + 1 := wrap_ok (by omega) (by omega)
  have w2:IntKind.i64.wrap (k + 1 + 1) = k + 2 := by rw [wrap_ok (by omega) (by omega)]; omega
  have w3:IntKind.i64.wrap (k + 2 + 1) = k + 3 := by rw [wrap_ok (by omega) (by omega)]; omega
  have w4:IntKind.i64.wrap ((pre.length:Int) + 1) = (pre.length:Int) + 1 := wrap_ok (by omega) (by omega)
  have ih := markN_loop r (pre ++ [(k,k + 1,k + 2)]) (k + 3) m (by omega) (by omega) (by omega) (by simp; omega)
  rw [← app_one,len_one] at ih
  rw [laws_markNodeS_L2]; dsimp only
  simp only [lt_pre,in_pre,cond_true,Int.toNat_natCast,get_pre,set_pre,w1,w2,w3,w4,ih]
  show some (pre ++ [(k,k + 1,k + 2)] ++ mkN (k + 3) r.length,_) = some (pre ++ (k,k + 1,k + 2) :: mkN (k + 3) r.length,_)
  rw [← app_one,List.length_cons]
  congr 2
  omega
theorem heldN_loop:∀ (n:Nat) (pre:List Node3) (k:Int) (m:Nat),n < m → 0 ≤ k → k + 3 * (n:Int) ≤ 4611686018427387904 → pre.length + n ≤ 4294967296 → laws_heldNodeS_L2 N0 m (pre ++ mkN k n,k,(pre.length:Int)) = some (Sum.inr (k + 3 * (n:Int)))
 | n,pre,k,0,h,_,_,_ => by omega
 | 0,pre,k,m + 1,h,h0,h1,h2 => by
  rw [laws_heldNodeS_L2]; dsimp only
  rw [show mkN k 0 = [] from rfl,lt_end,cond_false]
  simp
 | n + 1,pre,k,m + 1,h,h0,h1,h2 => by
  have w1:IntKind.i64.wrap (k + 1) = k + 1 := wrap_ok (by omega) (by omega)
  have w2:IntKind.i64.wrap (k + 1 + 1) = k + 2 := by rw [wrap_ok (by omega) (by omega)]; omega
  have w3:IntKind.i64.wrap (k + 2 + 1) = k + 3 := by rw [wrap_ok (by omega) (by omega)]; omega
  have w4:IntKind.i64.wrap ((pre.length:Int) + 1) = (pre.length:Int) + 1 := wrap_ok (by omega) (by omega)
  have ih := heldN_loop n (pre ++ [(k,k + 1,k + 2)]) (k + 3) m (by omega) (by omega) (by omega) (by simp; omega)
  rw [← app_one,len_one] at ih
  rw [laws_heldNodeS_L2]; dsimp only
  rw [show mkN k (n + 1) = (k,k + 1,k + 2) :: mkN (k + 3) n from rfl]
  simp only [lt_pre,in_pre,cond_true,Int.toNat_natCast,get_pre,w1,w2,w3,w4,bne_self_eq_false,cond_false,ih]
  congr 2
  omega
theorem markPool_eq {xs:List Node3} {k:Int} (hx:xs.length ≤ 4294967296) (h0:0 ≤ k) (h1:k ≤ 4294967296):laws_markPool N0 (xs,k) = some (mkN k xs.length,k + 3 * (xs.length:Int)) := by
 have h := markN_loop xs [] k N0 (by have := n0; omega) h0 (by omega) (by simpa using hx)
 unfold laws_markPool laws_markNodeS
 dsimp only
 rw [show laws_markNodeS_L2 N0 N0 (xs,k,(0:Int)) = _ from h]; rfl
theorem heldPool_eq {n:Nat} {k:Int} (hx:n ≤ 4294967296) (h0:0 ≤ k) (h1:k ≤ 4294967296):laws_heldPool N0 (mkN k n,k) = some (k + 3 * (n:Int)) := by
 have h := heldN_loop n [] k N0 (by have := n0; omega) h0 (by omega) (by simpa using hx)
 unfold laws_heldPool laws_heldNodeS
 dsimp only
 rw [show laws_heldNodeS_L2 N0 N0 (mkN k n,k,(0:Int)) = _ from h]
 simp only [Option.bind_some]
 rw [decide_eq_false (by omega)]; rfl
theorem markI_loop:∀ (r pre:List Int) (k:Int) (m:Nat),r.length < m → 0 ≤ k → k + (r.length:Int) ≤ 4611686018427387904 → pre.length + r.length ≤ 4294967296 → laws_markIntS_L2 N0 m (pre ++ r,k,(pre.length:Int)) = some (pre ++ mkI k r.length,k + (r.length:Int))
 | r,pre,k,0,h,_,_,_ => by omega
 | [],pre,k,m + 1,h,h0,h1,h2 => by
  rw [laws_markIntS_L2]; dsimp only
  rw [lt_end,cond_false]
  simp [mkI]
 | a :: r,pre,k,m + 1,h,h0,h1,h2 => by
  rw [List.length_cons] at h h1 h2
  have w1:IntKind.i64.wrap (k + 1) = k + 1 := wrap_ok (by omega) (by omega)
  have w4:IntKind.i64.wrap ((pre.length:Int) + 1) = (pre.length:Int) + 1 := wrap_ok (by omega) (by omega)
  have ih := markI_loop r (pre ++ [k]) (k + 1) m (by omega) (by omega) (by omega) (by simp; omega)
  rw [← app_one,len_one] at ih
  rw [laws_markIntS_L2]; dsimp only
  simp only [lt_pre,in_pre,cond_true,Int.toNat_natCast,set_pre,w1,w4,ih]
  show some (pre ++ [k] ++ mkI (k + 1) r.length,_) = some (pre ++ k :: mkI (k + 1) r.length,_)
  rw [← app_one,List.length_cons]
  congr 2
  omega
theorem heldI_loop:∀ (n:Nat) (pre:List Int) (k:Int) (m:Nat),n < m → 0 ≤ k → k + (n:Int) ≤ 4611686018427387904 → pre.length + n ≤ 4294967296 → laws_heldIntS_L2 N0 m (pre ++ mkI k n,k,(pre.length:Int)) = some (Sum.inr (k + (n:Int)))
 | n,pre,k,0,h,_,_,_ => by omega
 | 0,pre,k,m + 1,h,h0,h1,h2 => by
  rw [laws_heldIntS_L2]; dsimp only
  rw [show mkI k 0 = [] from rfl,lt_end,cond_false]
  simp
 | n + 1,pre,k,m + 1,h,h0,h1,h2 => by
  have w1:IntKind.i64.wrap (k + 1) = k + 1 := wrap_ok (by omega) (by omega)
  have w4:IntKind.i64.wrap ((pre.length:Int) + 1) = (pre.length:Int) + 1 := wrap_ok (by omega) (by omega)
  have ih := heldI_loop n (pre ++ [k]) (k + 1) m (by omega) (by omega) (by omega) (by simp; omega)
  rw [← app_one,len_one] at ih
  rw [laws_heldIntS_L2]; dsimp only
  rw [show mkI k (n + 1) = k :: mkI (k + 1) n from rfl]
  simp only [lt_pre,in_pre,cond_true,Int.toNat_natCast,get_pre,w1,w4,bne_self_eq_false,cond_false,ih]
  congr 2
  omega
theorem markIntS_eq {v:List Int} {k:Int} (hx:v.length ≤ 4294967296) (h0:0 ≤ k) (h1:k ≤ 68719476736):laws_markIntS N0 (v,k) = some (mkI k v.length,k + (v.length:Int)) := by
 have h := markI_loop v [] k N0 (by have := n0; omega) h0 (by omega) (by simpa using hx)
 unfold laws_markIntS
 dsimp only
 rw [show laws_markIntS_L2 N0 N0 (v,k,(0:Int)) = _ from h]; rfl
theorem heldIntS_eq {n:Nat} {k:Int} (hx:n ≤ 4294967296) (h0:0 ≤ k) (h1:k ≤ 68719476736):laws_heldIntS N0 (mkI k n,k) = some (k + (n:Int)) := by
 have h := heldI_loop n [] k N0 (by have := n0; omega) h0 (by omega) (by simpa using hx)
 unfold laws_heldIntS
 dsimp only
 rw [show laws_heldIntS_L2 N0 N0 (mkI k n,k,(0:Int)) = _ from h]; rfl
theorem cloneInt_eq {v:List Int} (he:v.length ≤ 4294967296):lib_cloneInt v = some v := by
 unfold lib_cloneInt
 rw [decide_eq_true he]; rfl
def Keeps (env e:List Int):Prop := ∀ i:Nat,env.getD i 0 ≠ -1 → e.getD i 0 = env.getD i 0
theorem Keeps.refl (env:List Int):Keeps env env := fun _ _ => rfl
theorem Keeps.trans {a b c:List Int} (h1:Keeps a b) (h2:Keeps b c):Keeps a c := fun i h => (h2 i (by rw [h1 i h]; exact h)).trans (h1 i h)
def dg (k:Nat):UInt8 := UInt8.ofNat (48 + k)
def it3 (u:Nat):List UInt8 := if u < 10 then [dg u] else if u < 100 then [dg (u / 10),dg (u % 10)] else [dg (u / 100),dg (u / 10 % 10),dg (u % 10)]
theorem digits3 {u:Nat} (h:u < 1000):Lib.decDigits u = it3 u := by
 unfold it3 dg
 by_cases h1:u < 10
 ·rw [if_pos h1,Lib.decDigits,dif_pos h1]
 ·rw [if_neg h1,Lib.decDigits,dif_neg h1]
  by_cases h2:u < 100
  ·rw [if_pos h2,Lib.decDigits,dif_pos (by omega)]; rfl
  ·rw [if_neg h2,Lib.decDigits,dif_neg (by omega),Lib.decDigits,dif_pos (by omega)]
   rw [show u / 10 / 10 = u / 100 by omega]; rfl
theorem itoa3 {u:Nat} (h:u < 1000):Lib.itoa (u:Int) = it3 u := by
 unfold Lib.itoa
 rw [if_neg (by omega),Int.toNat_natCast,digits3 h]
set_option maxRecDepth 100000 in
theorem atoi_all3:∀ u:Fin 1000,Lib.atoiAll (it3 u.val) = .ok (u.val:Int) := by decide +kernel
theorem it3_len (u:Nat):(it3 u).length ≤ 3 := by
 unfold it3
 split
 ·simp
 ·split <;> simp
def isD (c:UInt8):Bool := decide (48 ≤ c.toNat) && decide (c.toNat ≤ 57)
abbrev bs (T:ByteArray):List UInt8 := T.data.toList
theorem bs_len (T:ByteArray):(bs T).length = T.size := by
 rw [bs,Array.length_toList]; rfl
theorem drop_cons {T:ByteArray} {a:Nat} {c:UInt8} {r:List UInt8} (h:(bs T).drop a = c :: r):a < T.size ∧ bt T (a:Int) = (c.toNat:Int) ∧ (bs T).drop (a + 1) = r := by
 have hl:a < (bs T).length := by
  refine Nat.lt_of_not_le fun q => ?_
  rw [List.drop_eq_nil_of_le q] at h
  cases h
 rw [List.drop_eq_getElem_cons hl] at h
 injection h with h1 h2
 refine ⟨by rw [← bs_len]; exact hl, ?_,h2⟩
 rw [bt_eq hl,h1]
theorem drop_nil {T:ByteArray} {a:Nat} (h:(bs T).drop a = []):T.size ≤ a := by
 rw [← bs_len]
 exact List.drop_eq_nil_iff.1 h
theorem peek_cons {T:ByteArray} {a:Nat} {c:UInt8} {r:List UInt8} (h:(bs T).drop a = c :: r) (k:Int) (M:ByteArray):impl_reader_peek N0 (T,(a:Int),k,M) = some (T,(a:Int),k,M,(c.toNat:Int)) := by
 obtain ⟨h1,h2,_⟩ := drop_cons h
 unfold impl_reader_peek
 dsimp only
 rw [decide_eq_false (by omega:¬ (a:Int) ≥ (T.size:Int)),cond_false,inb_nat h1,cond_true,h2]
theorem peek_nil {T:ByteArray} {a:Nat} (h:(bs T).drop a = []) (k:Int) (M:ByteArray):impl_reader_peek N0 (T,(a:Int),k,M) = some (T,(a:Int),k,M,(0:Int)) := by
 have h1 := drop_nil h
 unfold impl_reader_peek
 dsimp only
 rw [decide_eq_true (by omega:(a:Int) ≥ (T.size:Int)),cond_true]
theorem isFig_eq (c:UInt8):impl_isFigure N0 (c.toNat:Int) = some (isD c) := by
 unfold impl_isFigure isD
 by_cases h:48 ≤ c.toNat
 ·rw [decide_eq_true (by omega:(c.toNat:Int) ≥ 48),decide_eq_true h,cond_true,Bool.true_and]
  congr 1
  by_cases h2:c.toNat ≤ 57
  ·rw [decide_eq_true h2,decide_eq_true (by omega)]
  ·rw [decide_eq_false h2,decide_eq_false (by omega)]
 ·rw [decide_eq_false (by omega:¬ (c.toNat:Int) ≥ 48),decide_eq_false h]; rfl
theorem figs_loop {T:ByteArray} (hT:T.size ≤ 100000) (k most from_:Int) (M:ByteArray):∀ (l:List UInt8) (a m:Nat),(bs T).drop a = l → a ≤ T.size → l.length < m → impl_reader_figures_L2 N0 m (T,(a:Int),k,M,most,from_) = some (T,((a + (l.takeWhile isD).length:Nat):Int),k,M,most,from_)
 | l,a,0,h,_,hm => by omega
 | [],a,m + 1,h,ha,hm => by
  rw [impl_reader_figures_L2]; dsimp only
  rw [peek_nil h,Option.bind_some]
  dsimp only
  rw [show impl_isFigure N0 (0:Int) = some false from rfl,Option.bind_some,cond_false]; rfl
 | c :: r,a,m + 1,h,ha,hm => by
  obtain ⟨h1,h2,h3⟩ := drop_cons h
  rw [impl_reader_figures_L2]; dsimp only
  rw [peek_cons h,Option.bind_some]
  dsimp only
  rw [isFig_eq,Option.bind_some]
  cases hc:isD c with
  | false =>
   rw [cond_false,List.takeWhile_cons_of_neg (by rw [hc]; decide)]; rfl
  | true =>
   have w:IntKind.i64.wrap ((a:Int) + 1) = ((a + 1:Nat):Int) := by rw [wrap_ok (by omega) (by omega)]; omega
   rw [cond_true,w,figs_loop hT k most from_ M r (a + 1) m h3 (by omega) (by simp at hm; omega),List.takeWhile_cons_of_pos hc,List.length_cons]
   congr 4
   omega
theorem sub_list {T:ByteArray} {a b:Nat}:(sub T (a:Int) (b:Int)).data.toList = ((bs T).drop a).take (b - a) := by
 unfold sub
 rw [Int.toNat_natCast,Int.toNat_natCast,ByteArray.data_extract,Array.toList_extract,List.extract_eq_take_drop]
theorem take_while (l:List UInt8):l.take (l.takeWhile isD).length = l.takeWhile isD := (List.prefix_iff_eq_take.1 (List.takeWhile_prefix isD)).symm
def figM (most:Nat) (L:List UInt8):Int := match Lib.atoiAll L with
 | .ok v => if L.length ≤ most ∧ Lib.itoa v = L then v else -1
 | _ => -1
def figV (L:List UInt8):Int := figM 9 L
theorem figs_eqM {T:ByteArray} (hT:T.size ≤ 100000) {most:Nat} (hm:most ≤ 100) {a:Nat} (ha:a ≤ T.size) (k:Int) (M:ByteArray):impl_reader_figures N0 (T,(a:Int),k,M,(most:Int)) = some (T,((a + (((bs T).drop a).takeWhile isD).length:Nat):Int),k,M,figM most (((bs T).drop a).takeWhile isD)) := by
 have hl:((bs T).drop a).length ≤ 100000 := by rw [List.length_drop,bs_len]; omega
 have hw:(((bs T).drop a).takeWhile isD).length ≤ ((bs T).drop a).length := (List.takeWhile_prefix isD).length_le
 unfold impl_reader_figures
 dsimp only
 rw [figs_loop hT k most (a:Int) M _ a N0 rfl ha (by have := n0; omega),Option.bind_some]
 dsimp only
 have hr:rng (a:Int) ((a + (((bs T).drop a).takeWhile isD).length:Nat):Int) T.size = true := by
  unfold rng
  rw [decide_eq_true_iff]
  rw [List.length_drop,bs_len] at hw
  omega
 rw [hr,cond_true]
 have hs:(sub T (a:Int) ((a + (((bs T).drop a).takeWhile isD).length:Nat):Int)).data.toList = ((bs T).drop a).takeWhile isD := by
  rw [sub_list,Nat.add_sub_cancel_left,take_while]
 generalize sub T (a:Int) ((a + (((bs T).drop a).takeWhile isD).length:Nat):Int) = s at hs ⊢
 have hz:s.size = (((bs T).drop a).takeWhile isD).length := by rw [← hs,Array.length_toList]; rfl
 generalize hL:((bs T).drop a).takeWhile isD = L at hs hz hw ⊢
 unfold lib_atoi figM
 rw [if_pos (by omega),hs]
 cases he:Lib.atoiAll L with
 | ok v =>
  dsimp only
  rw [Option.bind_some]
  dsimp only
  rw [Bool.not_false,Bool.not_true,cond_false]
  by_cases h9:L.length ≤ most
  ·obtain ⟨b1,b2⟩ := Lib.atoiAll_bounds he
   rw [decide_eq_false (by omega:¬ (s.size:Int) > (most:Int)),cond_false]
   unfold lib_itoa
   rw [if_pos ⟨b1,b2⟩,Option.bind_some]
   have hq:strEq (⟨(Lib.itoa v).toArray⟩:ByteArray) s = decide (Lib.itoa v = L) := by
    unfold strEq
    rw [decide_eq_decide]
    constructor
    ·intro h
     rw [← hs, ← h]
    ·intro h
     apply ByteArray.ext
     apply Array.ext'
     rw [hs, ← h]
   rw [hq]
   by_cases h2:Lib.itoa v = L
   ·rw [decide_eq_true h2,if_pos ⟨h9,h2⟩]; rfl
   ·rw [decide_eq_false h2,if_neg (fun q => h2 q.2)]; rfl
  ·rw [decide_eq_true (by omega:(s.size:Int) > (most:Int)),cond_true,if_neg (fun q => h9 q.1)]
 | _ => rfl
theorem figs_eq {T:ByteArray} (hT:T.size ≤ 100000) {a:Nat} (ha:a ≤ T.size) (k:Int) (M:ByteArray):impl_reader_figures N0 (T,(a:Int),k,M,(9:Int)) = some (T,((a + (((bs T).drop a).takeWhile isD).length:Nat):Int),k,M,figV (((bs T).drop a).takeWhile isD)) := figs_eqM hT (most := 9) (by decide) ha k M
theorem figV_iff (L:List UInt8):(∃ u:Nat,u < 200 ∧ L = it3 u ∧ figV L = (u:Int)) ∨ ((∀ u:Nat,u < 200 → L ≠ it3 u) ∧ (decide (figV L ≥ 0) && decide (figV L ≤ 199)) = false) := by
 by_cases h:∃ u:Nat,u < 200 ∧ L = it3 u
 ·obtain ⟨u,h1,rfl⟩ := h
  refine .inl ⟨u,h1,rfl, ?_⟩
  unfold figV figM
  rw [show Lib.atoiAll (it3 u) = .ok (u:Int) from atoi_all3 ⟨u,by omega⟩]
  dsimp only
  rw [if_pos ⟨by have := it3_len u; omega,itoa3 (by omega)⟩]
 ·refine .inr ⟨fun u h1 h2 => h ⟨u,h1,h2⟩, ?_⟩
  rw [Bool.and_eq_false_iff,decide_eq_false_iff_not,decide_eq_false_iff_not]
  refine Classical.byContradiction fun q => ?_
  have q1:figV L ≥ 0 := Classical.byContradiction fun w => q (.inl w)
  have q2:figV L ≤ 199 := Classical.byContradiction fun w => q (.inr w)
  unfold figV figM at q1 q2
  cases he:Lib.atoiAll L with
  | ok v =>
   rw [he] at q1 q2
   dsimp only at q1 q2
   by_cases h2:L.length ≤ 9 ∧ Lib.itoa v = L
   ·rw [if_pos h2] at q1 q2
    obtain ⟨u,rfl⟩ := Int.eq_ofNat_of_zero_le q1
    exact h ⟨u,by omega,by rw [← h2.2,itoa3 (by omega)]⟩
   ·rw [if_neg h2] at q1
    omega
  | _ => rw [he] at q1; exact absurd (show (-1:Int) ≥ 0 from q1) (by decide)
def valD:Int → List UInt8 → Int
 | x,[] => x
 | x,c :: r => valD (10 * x + (c.toNat:Int) - 48) r
theorem isD_iff {c:UInt8}:isD c = true ↔ 48 ≤ c.toNat ∧ c.toNat ≤ 57 := by
 unfold isD
 rw [Bool.and_eq_true,decide_eq_true_iff,decide_eq_true_iff]
theorem name_loop {T:ByteArray} (hT:T.size ≤ 100000) (f:Nat):∀ (l:List UInt8) (a m:Nat) (x:Int),(bs T).drop a = l → a ≤ T.size → f ≤ a → a - f ≤ 4 → l.length < m → 0 ≤ x → x < 10 ^ (a - f) → spec_l4Name_L3 N0 m (T,(a:Int),(f:Int),x) = some (T,((a + ((l.takeWhile isD).take (4 - (a - f))).length:Nat):Int),(f:Int),valD x ((l.takeWhile isD).take (4 - (a - f))))
 | l,a,0,x,h,_,_,_,hm,_,_ => by omega
 | [],a,m + 1,x,h,ha,hf,hk,hm,hx,hx2 => by
  have h1 := drop_nil h
  rw [spec_l4Name_L3]; dsimp only
  rw [decide_eq_false (by omega:¬ (a:Int) < (T.size:Int)),cond_false,List.takeWhile_nil,List.take_nil]; rfl
 | c :: r,a,m + 1,x,h,ha,hf,hk,hm,hx,hx2 => by
  obtain ⟨h1,h2,h3⟩ := drop_cons h
  rw [spec_l4Name_L3]; dsimp only
  rw [decide_eq_true (by omega:(a:Int) < (T.size:Int)),cond_true,inb_nat h1,h2]
  simp only [cond_true]
  have stop:isD c = false → ((c :: r).takeWhile isD) = [] := fun q => List.takeWhile_cons_of_neg (by rw [q]; decide)
  by_cases g1:48 ≤ c.toNat
  ·by_cases g2:c.toNat ≤ 57
   ·have gc:isD c = true := isD_iff.2 ⟨g1,g2⟩
    have ws:IntKind.i64.wrap ((a:Int) - (f:Int)) = ((a - f:Nat):Int) := by rw [wrap_ok (by omega) (by omega)]; omega
    rw [decide_eq_true (by omega:(c.toNat:Int) ≥ 48),decide_eq_true (by omega:(c.toNat:Int) ≤ 57),cond_true,cond_true,ws,List.takeWhile_cons_of_pos gc]
    by_cases g3:a - f < 4
    ·have w1:IntKind.i64.wrap ((a:Int) + 1) = ((a + 1:Nat):Int) := by rw [wrap_ok (by omega) (by omega)]; omega
     have hb:x < 10000 := by
      have q:(10:Int) ^ 0 = 1 ∧ (10:Int) ^ 1 = 10 ∧ (10:Int) ^ 2 = 100 ∧ (10:Int) ^ 3 = 1000 := by decide
      have q2:a - f = 0 ∨ a - f = 1 ∨ a - f = 2 ∨ a - f = 3 := by omega
      rcases q2 with e | e | e | e <;> rw [e] at hx2 <;> omega
     have w2:IntKind.i64.wrap (10 * x) = 10 * x := wrap_ok (by omega) (by omega)
     have w3:IntKind.i64.wrap (c.toNat:Int) = (c.toNat:Int) := wrap_ok (by omega) (by omega)
     have w4:IntKind.i64.wrap (10 * x + (c.toNat:Int)) = 10 * x + (c.toNat:Int) := wrap_ok (by omega) (by omega)
     have w5:IntKind.i64.wrap (10 * x + (c.toNat:Int) - 48) = 10 * x + (c.toNat:Int) - 48 := wrap_ok (by omega) (by omega)
     have e4:4 - (a - f) = (4 - (a + 1 - f)) + 1 := by omega
     have hp:(10:Int) ^ (a + 1 - f) = 10 * 10 ^ (a - f) := by
      rw [show a + 1 - f = (a - f) + 1 by omega,Int.pow_succ,Int.mul_comm]
     rw [decide_eq_true (by omega:((a - f:Nat):Int) < 4),cond_true,w1,w2,w3,w4,w5,name_loop hT f r (a + 1) m (10 * x + (c.toNat:Int) - 48) h3 (by omega) (by omega) (by omega) (by simp at hm; omega) (by omega) (by rw [hp]; omega),e4,List.take_succ_cons,List.length_cons]
     congr 3
     omega
    ·rw [decide_eq_false (by omega:¬ ((a - f:Nat):Int) < 4),cond_false,show 4 - (a - f) = 0 by omega]
     rfl
   ·rw [decide_eq_true (by omega:(c.toNat:Int) ≥ 48),decide_eq_false (by omega:¬ (c.toNat:Int) ≤ 57),stop (by rw [← Bool.not_eq_true,isD_iff]; omega),List.take_nil]; rfl
  ·rw [decide_eq_false (by omega:¬ (c.toNat:Int) ≥ 48),stop (by rw [← Bool.not_eq_true,isD_iff]; omega),List.take_nil]; rfl
theorem isD_dg {c:UInt8} (h:isD c = true):∃ k:Nat,k < 10 ∧ c.toNat = 48 + k ∧ c = dg k := by
 obtain ⟨h1,h2⟩ := isD_iff.1 h
 refine ⟨c.toNat - 48,by omega,by omega, ?_⟩
 unfold dg
 rw [show 48 + (c.toNat - 48) = c.toNat by omega,UInt8.ofNat_toNat]
theorem it3_inj {u v:Nat} (hu:u < 1000) (hv:v < 1000) (h:it3 u = it3 v):u = v := by
 have h1 := atoi_all3 ⟨u,hu⟩
 have h2 := atoi_all3 ⟨v,hv⟩
 dsimp only at h1 h2
 rw [h,h2] at h1
 injection h1 with h1
 omega
set_option maxRecDepth 100000 in
theorem it3_no0:∀ u:Fin 200,2 ≤ (it3 u.val).length → (it3 u.val).head? ≠ some (dg 0) := by decide +kernel
theorem it3_1:∀ i:Fin 10,it3 i.val = [dg i.val] := by decide +kernel
theorem it3_2:∀ i j:Fin 10,i.val ≠ 0 → it3 (10 * i.val + j.val) = [dg i.val,dg j.val] := by decide +kernel
set_option maxRecDepth 100000 in
theorem it3_3:∀ i j k:Fin 10,i.val ≠ 0 → it3 (10 * (10 * i.val + j.val) + k.val) = [dg i.val,dg j.val,dg k.val] := by decide +kernel
theorem it3_ne (u:Nat):it3 u ≠ [] := by
 unfold it3
 split
 ·simp
 ·split <;> simp
theorem name_eq {T:ByteArray} (hT:T.size ≤ 100000) {a:Nat} (ha:a ≤ T.size):(∃ u:Nat,u < 200 ∧ ((bs T).drop a).takeWhile isD = it3 u ∧ spec_l4Name N0 (T,(a:Int)) = some ((u:Int),((a + (it3 u).length:Nat):Int),true)) ∨
  ((∀ u:Nat,u < 200 → ((bs T).drop a).takeWhile isD ≠ it3 u) ∧ spec_l4Name N0 (T,(a:Int)) = some ((0:Int),(0:Int),false)) := by
 have hl:((bs T).drop a).length ≤ 100000 := by rw [List.length_drop,bs_len]; omega
 have h := name_loop hT a _ a N0 0 rfl ha (Nat.le_refl _) (by omega) (by have := n0; omega) (by omega) (by rw [Nat.sub_self]; decide)
 rw [Nat.sub_self,Nat.sub_zero] at h
 unfold spec_l4Name
 dsimp only
 rw [h,Option.bind_some]
 dsimp only
 have hall:∀ c ∈ ((bs T).drop a).takeWhile isD,isD c = true := fun c hc => by
  have := List.all_eq_true.1 (List.all_takeWhile (p := isD) (l := (bs T).drop a)) c hc
  exact this
 have hhead:∀ c r,((bs T).drop a).takeWhile isD = c :: r → ∃ r',(bs T).drop a = c :: r' := fun c r q => by
  cases hd:(bs T).drop a with
  | nil => rw [hd] at q; cases q
  | cons c' r' =>
   rw [hd] at q
   cases hc:isD c' with
   | false => rw [List.takeWhile_cons_of_neg (by rw [hc]; decide)] at q; cases q
   | true =>
    rw [List.takeWhile_cons_of_pos hc] at q
    injection q with q1 q2
    exact ⟨r',by rw [q1]⟩
 have hlen:(((bs T).drop a).takeWhile isD).length ≤ T.size - a := by
  have := (List.takeWhile_prefix (l := (bs T).drop a) isD).length_le
  rw [List.length_drop,bs_len] at this
  exact this
 generalize hD:((bs T).drop a).takeWhile isD = D at h hall hhead hlen ⊢
 match D,hall,hhead,hlen with
 | [],_,_,_ =>
  refine .inr ⟨fun u _ q => it3_ne u q.symm, ?_⟩
  rw [show ((a + (([]:List UInt8).take 4).length:Nat):Int) = (a:Int) from rfl,beq_self_eq_true,cond_true]
 | [c],hall,hhead,hlen =>
  obtain ⟨i,i1,i2,rfl⟩ := isD_dg (hall c (by simp))
  obtain ⟨r',hr⟩ := hhead _ _ rfl
  obtain ⟨b1,b2,_⟩ := drop_cons hr
  refine .inl ⟨i,by omega,(it3_1 ⟨i,i1⟩).symm, ?_⟩
  have e1:(([dg i]:List UInt8).take 4).length = 1 := rfl
  have e2:valD 0 (([dg i]:List UInt8).take 4) = (i:Int) := by show 10 * 0 + ((dg i).toNat:Int) - 48 = _; omega
  have e3:IntKind.i64.wrap (((a + 1:Nat):Int) - (a:Int)) = 1 := by rw [wrap_ok (by omega) (by omega)]; omega
  rw [e1,e2,e3,show (((a + 1:Nat):Int) == (a:Int)) = false from by rw [beq_eq_false_iff_ne]; omega,cond_false,inb_nat b1,show (it3 i).length = 1 from by rw [it3_1 ⟨i,i1⟩]; rfl,decide_eq_false (by omega:¬ (i:Int) ≥ 200)]
  cases (bt T (a:Int) == 48) <;> rfl
 | [c,d],hall,hhead,hlen =>
  obtain ⟨i,i1,i2,rfl⟩ := isD_dg (hall c (by simp))
  obtain ⟨j,j1,j2,rfl⟩ := isD_dg (hall d (by simp))
  obtain ⟨r',hr⟩ := hhead _ _ rfl
  obtain ⟨b1,b2,_⟩ := drop_cons hr
  have e1:(([dg i,dg j]:List UInt8).take 4).length = 2 := rfl
  have e2:valD 0 (([dg i,dg j]:List UInt8).take 4) = ((10 * i + j:Nat):Int) := by show 10 * (10 * 0 + ((dg i).toNat:Int) - 48) + ((dg j).toNat:Int) - 48 = _; omega
  have e3:IntKind.i64.wrap (((a + 2:Nat):Int) - (a:Int)) = 2 := by rw [wrap_ok (by omega) (by omega)]; omega
  rw [e1,e2,e3,show (((a + 2:Nat):Int) == (a:Int)) = false from by rw [beq_eq_false_iff_ne]; omega,cond_false,inb_nat b1,decide_eq_false (by omega:¬ ((10 * i + j:Nat):Int) ≥ 200)]
  by_cases h0:i = 0
  ·subst h0
   refine .inr ⟨fun u hu q => it3_no0 ⟨u,hu⟩ (by rw [← q]; simp) (by rw [← q]; rfl), ?_⟩
   rw [show (bt T (a:Int) == 48) = true from by rw [beq_iff_eq,b2]; omega]; rfl
  ·have e := it3_2 ⟨i,i1⟩ ⟨j,j1⟩ h0
   dsimp only at e
   refine .inl ⟨10 * i + j,by omega,e.symm, ?_⟩
   rw [show (bt T (a:Int) == 48) = false from by rw [beq_eq_false_iff_ne,b2]; omega,e]; rfl
 | [c,d,e],hall,hhead,hlen =>
  obtain ⟨i,i1,i2,rfl⟩ := isD_dg (hall c (by simp))
  obtain ⟨j,j1,j2,rfl⟩ := isD_dg (hall d (by simp))
  obtain ⟨k,k1,k2,rfl⟩ := isD_dg (hall e (by simp))
  obtain ⟨r',hr⟩ := hhead _ _ rfl
  obtain ⟨b1,b2,_⟩ := drop_cons hr
  have e1:(([dg i,dg j,dg k]:List UInt8).take 4).length = 3 := rfl
  have e2:valD 0 (([dg i,dg j,dg k]:List UInt8).take 4) = ((10 * (10 * i + j) + k:Nat):Int) := by show 10 * (10 * (10 * 0 + ((dg i).toNat:Int) - 48) + ((dg j).toNat:Int) - 48) + ((dg k).toNat:Int) - 48 = _; omega
  have e3:IntKind.i64.wrap (((a + 3:Nat):Int) - (a:Int)) = 3 := by rw [wrap_ok (by omega) (by omega)]; omega
  rw [e1,e2,e3,show (((a + 3:Nat):Int) == (a:Int)) = false from by rw [beq_eq_false_iff_ne]; omega,cond_false,inb_nat b1]
  by_cases h0:i = 0
  ·subst h0
   refine .inr ⟨fun u hu q => it3_no0 ⟨u,hu⟩ (by rw [← q]; simp) (by rw [← q]; rfl), ?_⟩
   rw [show (bt T (a:Int) == 48) = true from by rw [beq_iff_eq,b2]; omega]; rfl
  ·have e := it3_3 ⟨i,i1⟩ ⟨j,j1⟩ ⟨k,k1⟩ h0
   dsimp only at e
   by_cases h2:10 * (10 * i + j) + k < 200
   ·refine .inl ⟨10 * (10 * i + j) + k,h2,e.symm, ?_⟩
    rw [show (bt T (a:Int) == 48) = false from by rw [beq_eq_false_iff_ne,b2]; omega,e,decide_eq_false (by omega:¬ ((10 * (10 * i + j) + k:Nat):Int) ≥ 200)]; rfl
   ·refine .inr ⟨fun u hu q => ?_, ?_⟩
    ·rw [← e] at q
     have := it3_inj (by omega) (by omega) q
     omega
    ·rw [show (bt T (a:Int) == 48) = false from by rw [beq_eq_false_iff_ne,b2]; omega,decide_eq_true (by omega:((10 * (10 * i + j) + k:Nat):Int) ≥ 200)]; rfl
 | c :: d :: e :: f :: r,hall,hhead,hlen =>
  refine .inr ⟨fun u hu q => ?_, ?_⟩
  ·have := it3_len u
   rw [← q] at this
   simp at this
  ·have e1:((c :: d :: e :: f :: r).take 4).length = 4 := rfl
   simp only [List.length_cons] at hlen
   have e3:IntKind.i64.wrap (((a + 4:Nat):Int) - (a:Int)) = 4 := by rw [wrap_ok (by omega) (by omega)]; omega
   rw [e1,e3,show (((a + 4:Nat):Int) == (a:Int)) = false from by rw [beq_eq_false_iff_ne]; omega]; rfl
theorem getD_app {α:Type} {l x:List α} {i:Nat} (h:i < l.length) (d:α):(l ++ x).getD i d = l.getD i d := by
 rw [List.getD_eq_getElem?_getD,List.getD_eq_getElem?_getD,List.getElem?_append_left h]
theorem one_loop {S:ByteArray} (hS:S.size ≤ 200) (b:Int):∀ (l:List UInt8) (a m:Nat),(bs S).drop a = l → a ≤ S.size → l.length < m → impl_isOneOf_L2 N0 m (b,S,(a:Int)) = some (bif l.any (fun c => (c.toNat:Int) == b) then Sum.inl true else Sum.inr ())
 | l,a,0,h,_,hm => by omega
 | [],a,m + 1,h,ha,hm => by
  have h1 := drop_nil h
  rw [impl_isOneOf_L2]; dsimp only
  rw [decide_eq_false (by omega:¬ (a:Int) < (S.size:Int)),cond_false]; rfl
 | c :: r,a,m + 1,h,ha,hm => by
  obtain ⟨h1,h2,h3⟩ := drop_cons h
  rw [impl_isOneOf_L2]; dsimp only
  have w:IntKind.i64.wrap ((a:Int) + 1) = ((a + 1:Nat):Int) := by rw [wrap_ok (by omega) (by omega)]; omega
  rw [decide_eq_true (by omega:(a:Int) < (S.size:Int)),cond_true,inb_nat h1,cond_true,h2,w,one_loop hS b r (a + 1) m h3 (by omega) (by simp at hm; omega),List.any_cons]
  cases ((c.toNat:Int) == b) <;> rfl
theorem isOne_eq {S:ByteArray} (hS:S.size ≤ 200) (b:Int):impl_isOneOf N0 (b,S) = some ((bs S).any (fun c => (c.toNat:Int) == b)) := by
 have h := one_loop hS b (bs S) 0 N0 rfl (Nat.zero_le _) (by rw [bs_len]; have := n0; omega)
 unfold impl_isOneOf
 dsimp only
 rw [show ((0:Nat):Int) = (0:Int) from rfl] at h
 rw [h,Option.bind_some]
 cases (bs S).any (fun c => (c.toNat:Int) == b) <;> rfl
def it4 (u:Nat):List UInt8 := if u < 1000 then it3 u else [dg (u / 1000),dg (u / 100 % 10),dg (u / 10 % 10),dg (u % 10)]
theorem itoa4 {u:Nat} (h:u < 10000):Lib.itoa (u:Int) = it4 u := by
 unfold it4
 by_cases h1:u < 1000
 ·rw [if_pos h1,itoa3 h1]
 ·rw [if_neg h1]
  unfold Lib.itoa
  rw [if_neg (by omega),Int.toNat_natCast,Lib.decDigits,dif_neg (by omega),digits3 (by omega)]
  unfold it3 dg
  rw [if_neg (by omega),if_neg (by omega),show u / 10 / 100 = u / 1000 by omega,show u / 10 / 10 = u / 100 by omega]; rfl
theorem dgN:∀ {k:Nat},k < 10 → (dg k).toNat = 48 + k := by
 have h:∀ k:Fin 10,(dg k.val).toNat = 48 + k.val := by decide +kernel
 exact fun {k} hk => h ⟨k,hk⟩
theorem pu_dg {k acc:Nat} (h:k < 10) (ha:acc < 1000000000) (r:List UInt8):Lib.parseUint10 acc (dg k :: r) = Lib.parseUint10 (acc * 10 + k) r := by
 rw [Lib.parseUint10,dgN h,if_pos (by omega),if_neg (by omega),if_neg (by omega)]
 congr 1
 omega
theorem atoi_all4 {u:Nat} (hu:u < 10000):Lib.atoiAll (it4 u) = .ok (u:Int) := by
 unfold it4
 by_cases h:u < 1000
 ·rw [if_pos h]; exact atoi_all3 ⟨u,h⟩
 ·rw [if_neg h]
  have hd := dgN (k := u / 1000) (by omega)
  unfold Lib.atoiAll
  dsimp only
  rw [hd,if_neg (by omega)]
  unfold Lib.parseMag
  rw [if_neg (by simp),pu_dg (by omega) (by omega),pu_dg (by omega) (by omega),pu_dg (by omega) (by omega),pu_dg (by omega) (by omega)]
  have e:(((0 * 10 + u / 1000) * 10 + u / 100 % 10) * 10 + u / 10 % 10) * 10 + u % 10 = u := by omega
  rw [e]
  unfold Lib.parseUint10
  dsimp only
  rw [if_neg (by omega),if_neg (by omega),if_neg (by omega)]
theorem it4_len (u:Nat):(it4 u).length ≤ 4 := by
 unfold it4
 split
 ·have := it3_len u; omega
 ·simp
theorem it4_ne (u:Nat):it4 u ≠ [] := by
 unfold it4
 split
 ·exact it3_ne u
 ·simp
theorem it4_inj {u v:Nat} (hu:u < 10000) (hv:v < 10000) (h:it4 u = it4 v):u = v := by
 have h1 := atoi_all4 hu
 have h2 := atoi_all4 hv
 rw [h,h2] at h1
 injection h1 with h1
 omega
theorem dg_pos {k:Nat} (h0:0 < k) (h:k < 10):dg k ≠ dg 0 := fun q => by
 have := congrArg UInt8.toNat q
 rw [dgN h,dgN (by decide)] at this
 omega
theorem it4_no0 {u:Nat} (hu:u < 10000) (h2:2 ≤ (it4 u).length):(it4 u).head? ≠ some (dg 0) := by
 unfold it4 at h2 ⊢
 by_cases h:u < 1000
 ·rw [if_pos h] at h2 ⊢
  unfold it3 at h2 ⊢
  by_cases h1:u < 10
  ·rw [if_pos h1] at h2; simp at h2
  ·rw [if_neg h1] at h2 ⊢
   by_cases h3:u < 100
   ·rw [if_pos h3]
    exact fun q => dg_pos (by omega) (by omega) (Option.some.inj q)
   ·rw [if_neg h3]
    exact fun q => dg_pos (by omega) (by omega) (Option.some.inj q)
 ·rw [if_neg h]
  exact fun q => dg_pos (by omega) (by omega) (Option.some.inj q)
theorem it4_1:∀ i:Fin 10,it4 i.val = [dg i.val] := by decide +kernel
theorem it4_2:∀ i j:Fin 10,i.val ≠ 0 → it4 (10 * i.val + j.val) = [dg i.val,dg j.val] := by decide +kernel
theorem it4_3 (i j k:Fin 10) (h:i.val ≠ 0):it4 (10 * (10 * i.val + j.val) + k.val) = [dg i.val,dg j.val,dg k.val] := by
 unfold it4
 rw [if_pos (by omega)]
 exact it3_3 i j k h
theorem it4_4 (i j k l:Fin 10) (h:i.val ≠ 0):it4 (10 * (10 * (10 * i.val + j.val) + k.val) + l.val) = [dg i.val,dg j.val,dg k.val,dg l.val] := by
 unfold it4
 rw [if_neg (by omega),show (10 * (10 * (10 * i.val + j.val) + k.val) + l.val) / 1000 = i.val by omega,show (10 * (10 * (10 * i.val + j.val) + k.val) + l.val) / 100 % 10 = j.val by omega,show (10 * (10 * (10 * i.val + j.val) + k.val) + l.val) / 10 % 10 = k.val by omega,show (10 * (10 * (10 * i.val + j.val) + k.val) + l.val) % 10 = l.val by omega]
theorem figM_iff {L:List UInt8} (hall:∀ c ∈ L,isD c = true):(∃ u:Nat,u < 10000 ∧ L = it4 u ∧ figM 4 L = (u:Int)) ∨ ((∀ u:Nat,u < 10000 → L ≠ it4 u) ∧ figM 4 L = -1) := by
 by_cases h:∃ u:Nat,u < 10000 ∧ L = it4 u
 ·obtain ⟨u,h1,rfl⟩ := h
  refine .inl ⟨u,h1,rfl, ?_⟩
  unfold figM
  rw [show Lib.atoiAll (it4 u) = .ok (u:Int) from atoi_all4 (by omega)]
  dsimp only
  rw [if_pos ⟨it4_len u,itoa4 (by omega)⟩]
 ·refine .inr ⟨fun u h1 h2 => h ⟨u,h1,h2⟩, ?_⟩
  unfold figM
  cases he:Lib.atoiAll L with
  | ok v =>
   dsimp only
   rw [if_neg]
   rintro ⟨q1,q2⟩
   by_cases hv:0 ≤ v
   ·obtain ⟨u,rfl⟩ := Int.eq_ofNat_of_zero_le hv
    have hd:Lib.itoa (u:Int) = Lib.decDigits u := Lib.itoa_nonneg u
    have hn:Lib.nDigits u ≤ 4 := by rw [← Lib.decDigits_length, ← hd,q2]; exact q1
    have hu:u < 10000 := by
     have h3 := Lib.lt_pow_nDigits u
     have h4:10 ^ Lib.nDigits u ≤ 10 ^ 4 := Nat.pow_le_pow_right (by decide) hn
     omega
    exact h ⟨u,hu,by rw [← q2,itoa4 hu]⟩
   ·obtain ⟨u,hu⟩ := Int.eq_ofNat_of_zero_le (show 0 ≤ -v by omega)
    have hv2:v = -(u:Int) := by omega
    rw [hv2,Lib.itoa_neg u (by omega)] at q2
    have := hall 45 (by rw [← q2]; exact List.mem_cons_self ..)
    exact absurd this (by decide)
  | _ => rfl
theorem num_loop {T:ByteArray} (hT:T.size ≤ 100000) (f:Nat):∀ (l:List UInt8) (a m:Nat) (x:Int),(bs T).drop a = l → a ≤ T.size → f ≤ a → a - f ≤ 5 → l.length < m → 0 ≤ x → x < 10 ^ (a - f) → spec_l10Num_L3 N0 m (T,(a:Int),(f:Int),x) = some (T,((a + ((l.takeWhile isD).take (5 - (a - f))).length:Nat):Int),(f:Int),valD x ((l.takeWhile isD).take (5 - (a - f))))
 | l,a,0,x,h,_,_,_,hm,_,_ => by omega
 | [],a,m + 1,x,h,ha,hf,hk,hm,hx,hx2 => by
  have h1 := drop_nil h
  rw [spec_l10Num_L3]; dsimp only
  rw [decide_eq_false (by omega:¬ (a:Int) < (T.size:Int)),cond_false,List.takeWhile_nil,List.take_nil]; rfl
 | c :: r,a,m + 1,x,h,ha,hf,hk,hm,hx,hx2 => by
  obtain ⟨h1,h2,h3⟩ := drop_cons h
  rw [spec_l10Num_L3]; dsimp only
  rw [decide_eq_true (by omega:(a:Int) < (T.size:Int)),cond_true,inb_nat h1,h2]
  simp only [cond_true]
  have stop:isD c = false → ((c :: r).takeWhile isD) = [] := fun q => List.takeWhile_cons_of_neg (by rw [q]; decide)
  by_cases g1:48 ≤ c.toNat
  ·by_cases g2:c.toNat ≤ 57
   ·have gc:isD c = true := isD_iff.2 ⟨g1,g2⟩
    have ws:IntKind.i64.wrap ((a:Int) - (f:Int)) = ((a - f:Nat):Int) := by rw [wrap_ok (by omega) (by omega)]; omega
    rw [decide_eq_true (by omega:(c.toNat:Int) ≥ 48),decide_eq_true (by omega:(c.toNat:Int) ≤ 57),cond_true,cond_true,ws,List.takeWhile_cons_of_pos gc]
    by_cases g3:a - f < 5
    ·have w1:IntKind.i64.wrap ((a:Int) + 1) = ((a + 1:Nat):Int) := by rw [wrap_ok (by omega) (by omega)]; omega
     have hb:x < 100000 := by
      have q:(10:Int) ^ 0 = 1 ∧ (10:Int) ^ 1 = 10 ∧ (10:Int) ^ 2 = 100 ∧ (10:Int) ^ 3 = 1000 ∧ (10:Int) ^ 4 = 10000 := by decide
      have q2:a - f = 0 ∨ a - f = 1 ∨ a - f = 2 ∨ a - f = 3 ∨ a - f = 4 := by omega
      rcases q2 with e | e | e | e | e <;> rw [e] at hx2 <;> omega
     have w2:IntKind.i64.wrap (10 * x) = 10 * x := wrap_ok (by omega) (by omega)
     have w3:IntKind.i64.wrap (c.toNat:Int) = (c.toNat:Int) := wrap_ok (by omega) (by omega)
     have w4:IntKind.i64.wrap (10 * x + (c.toNat:Int)) = 10 * x + (c.toNat:Int) := wrap_ok (by omega) (by omega)
     have w5:IntKind.i64.wrap (10 * x + (c.toNat:Int) - 48) = 10 * x + (c.toNat:Int) - 48 := wrap_ok (by omega) (by omega)
     have e4:5 - (a - f) = (5 - (a + 1 - f)) + 1 := by omega
     have hp:(10:Int) ^ (a + 1 - f) = 10 * 10 ^ (a - f) := by
      rw [show a + 1 - f = (a - f) + 1 by omega,Int.pow_succ,Int.mul_comm]
     rw [decide_eq_true (by omega:((a - f:Nat):Int) < 5),cond_true,w1,w2,w3,w4,w5,num_loop hT f r (a + 1) m (10 * x + (c.toNat:Int) - 48) h3 (by omega) (by omega) (by omega) (by simp at hm; omega) (by omega) (by rw [hp]; omega),e4,List.take_succ_cons,List.length_cons]
     congr 3
     omega
    ·rw [decide_eq_false (by omega:¬ ((a - f:Nat):Int) < 5),cond_false,show 5 - (a - f) = 0 by omega]
     rfl
   ·rw [decide_eq_true (by omega:(c.toNat:Int) ≥ 48),decide_eq_false (by omega:¬ (c.toNat:Int) ≤ 57),stop (by rw [← Bool.not_eq_true,isD_iff]; omega),List.take_nil]; rfl
  ·rw [decide_eq_false (by omega:¬ (c.toNat:Int) ≥ 48),stop (by rw [← Bool.not_eq_true,isD_iff]; omega),List.take_nil]; rfl
theorem num_eq {T:ByteArray} (hT:T.size ≤ 100000) {a:Nat} (ha:a ≤ T.size):(∃ u:Nat,u < 10000 ∧ ((bs T).drop a).takeWhile isD = it4 u ∧ spec_l10Num N0 (T,(a:Int)) = some ((u:Int),((a + (it4 u).length:Nat):Int),true)) ∨
  ((∀ u:Nat,u < 10000 → ((bs T).drop a).takeWhile isD ≠ it4 u) ∧ spec_l10Num N0 (T,(a:Int)) = some ((0:Int),(0:Int),false)) := by
 have hl:((bs T).drop a).length ≤ 100000 := by rw [List.length_drop,bs_len]; omega
 have h := num_loop hT a _ a N0 0 rfl ha (Nat.le_refl _) (by omega) (by have := n0; omega) (by omega) (by rw [Nat.sub_self]; decide)
 rw [Nat.sub_self,Nat.sub_zero] at h
 unfold spec_l10Num
 dsimp only
 rw [h,Option.bind_some]
 dsimp only
 have hall:∀ c ∈ ((bs T).drop a).takeWhile isD,isD c = true := fun c hc => by
  have := List.all_eq_true.1 (List.all_takeWhile (p := isD) (l := (bs T).drop a)) c hc
  exact this
 have hhead:∀ c r,((bs T).drop a).takeWhile isD = c :: r → ∃ r',(bs T).drop a = c :: r' := fun c r q => by
  cases hd:(bs T).drop a with
  | nil => rw [hd] at q; cases q
  | cons c' r' =>
   rw [hd] at q
   cases hc:isD c' with
   | false => rw [List.takeWhile_cons_of_neg (by rw [hc]; decide)] at q; cases q
   | true =>
    rw [List.takeWhile_cons_of_pos hc] at q
    injection q with q1 q2
    exact ⟨r',by rw [q1]⟩
 have hlen:(((bs T).drop a).takeWhile isD).length ≤ T.size - a := by
  have := (List.takeWhile_prefix (l := (bs T).drop a) isD).length_le
  rw [List.length_drop,bs_len] at this
  exact this
 generalize hD:((bs T).drop a).takeWhile isD = D at h hall hhead hlen ⊢
 match D,hall,hhead,hlen with
 | [],_,_,_ =>
  refine .inr ⟨fun u _ q => it4_ne u q.symm, ?_⟩
  rw [show ((a + (([]:List UInt8).take 5).length:Nat):Int) = (a:Int) from rfl,beq_self_eq_true,cond_true]
 | [c],hall,hhead,hlen =>
  obtain ⟨i,i1,i2,rfl⟩ := isD_dg (hall c (by simp))
  obtain ⟨r',hr⟩ := hhead _ _ rfl
  obtain ⟨b1,b2,_⟩ := drop_cons hr
  have e1:(([dg i]:List UInt8).take 5).length = 1 := rfl
  have e2:valD 0 (([dg i]:List UInt8).take 5) = ((i:Nat):Int) := by show 10 * 0 + ((dg i).toNat:Int) - 48 = _; omega
  have e3:IntKind.i64.wrap (((a + 1:Nat):Int) - (a:Int)) = 1 := by rw [wrap_ok (by omega) (by omega)]; omega
  rw [e1,e2,e3,show (((a + 1:Nat):Int) == (a:Int)) = false from by rw [beq_eq_false_iff_ne]; omega,cond_false,inb_nat b1]
  have e:it4 i = [dg i] := it4_1 ⟨i,i1⟩
  refine .inl ⟨i,by omega,e.symm, ?_⟩
  rw [e]
  cases (bt T (a:Int) == 48) <;> rfl
 | [c,d],hall,hhead,hlen =>
  obtain ⟨i,i1,i2,rfl⟩ := isD_dg (hall c (by simp))
  obtain ⟨j,j1,j2,rfl⟩ := isD_dg (hall d (by simp))
  obtain ⟨r',hr⟩ := hhead _ _ rfl
  obtain ⟨b1,b2,_⟩ := drop_cons hr
  have e1:(([dg i,dg j]:List UInt8).take 5).length = 2 := rfl
  have e2:valD 0 (([dg i,dg j]:List UInt8).take 5) = ((10 * i + j:Nat):Int) := by show 10 * (10 * 0 + ((dg i).toNat:Int) - 48) + ((dg j).toNat:Int) - 48 = _; omega
  have e3:IntKind.i64.wrap (((a + 2:Nat):Int) - (a:Int)) = 2 := by rw [wrap_ok (by omega) (by omega)]; omega
  rw [e1,e2,e3,show (((a + 2:Nat):Int) == (a:Int)) = false from by rw [beq_eq_false_iff_ne]; omega,cond_false,inb_nat b1]
  by_cases h0:i = 0
  ·subst h0
   refine .inr ⟨fun u hu q => it4_no0 hu (by rw [← q]; simp) (by rw [← q]; rfl), ?_⟩
   rw [show (bt T (a:Int) == 48) = true from by rw [beq_iff_eq,b2]; omega]; rfl
  ·have e:it4 (10 * i + j) = [dg i,dg j] := it4_2 ⟨i,i1⟩ ⟨j,j1⟩ h0
   refine .inl ⟨10 * i + j,by omega,e.symm, ?_⟩
   rw [show (bt T (a:Int) == 48) = false from by rw [beq_eq_false_iff_ne,b2]; omega,e]; rfl
 | [c,d,e],hall,hhead,hlen =>
  obtain ⟨i,i1,i2,rfl⟩ := isD_dg (hall c (by simp))
  obtain ⟨j,j1,j2,rfl⟩ := isD_dg (hall d (by simp))
  obtain ⟨k,k1,k2,rfl⟩ := isD_dg (hall e (by simp))
  obtain ⟨r',hr⟩ := hhead _ _ rfl
  obtain ⟨b1,b2,_⟩ := drop_cons hr
  have e1:(([dg i,dg j,dg k]:List UInt8).take 5).length = 3 := rfl
  have e2:valD 0 (([dg i,dg j,dg k]:List UInt8).take 5) = ((10 * (10 * i + j) + k:Nat):Int) := by show 10 * (10 * (10 * 0 + ((dg i).toNat:Int) - 48) + ((dg j).toNat:Int) - 48) + ((dg k).toNat:Int) - 48 = _; omega
  have e3:IntKind.i64.wrap (((a + 3:Nat):Int) - (a:Int)) = 3 := by rw [wrap_ok (by omega) (by omega)]; omega
  rw [e1,e2,e3,show (((a + 3:Nat):Int) == (a:Int)) = false from by rw [beq_eq_false_iff_ne]; omega,cond_false,inb_nat b1]
  by_cases h0:i = 0
  ·subst h0
   refine .inr ⟨fun u hu q => it4_no0 hu (by rw [← q]; simp) (by rw [← q]; rfl), ?_⟩
   rw [show (bt T (a:Int) == 48) = true from by rw [beq_iff_eq,b2]; omega]; rfl
  ·have e:it4 (10 * (10 * i + j) + k) = [dg i,dg j,dg k] := it4_3 ⟨i,i1⟩ ⟨j,j1⟩ ⟨k,k1⟩ h0
   refine .inl ⟨10 * (10 * i + j) + k,by omega,e.symm, ?_⟩
   rw [show (bt T (a:Int) == 48) = false from by rw [beq_eq_false_iff_ne,b2]; omega,e]; rfl
 | [c,d,e,f],hall,hhead,hlen =>
  obtain ⟨i,i1,i2,rfl⟩ := isD_dg (hall c (by simp))
  obtain ⟨j,j1,j2,rfl⟩ := isD_dg (hall d (by simp))
  obtain ⟨k,k1,k2,rfl⟩ := isD_dg (hall e (by simp))
  obtain ⟨l,l1,l2,rfl⟩ := isD_dg (hall f (by simp))
  obtain ⟨r',hr⟩ := hhead _ _ rfl
  obtain ⟨b1,b2,_⟩ := drop_cons hr
  have e1:(([dg i,dg j,dg k,dg l]:List UInt8).take 5).length = 4 := rfl
  have e2:valD 0 (([dg i,dg j,dg k,dg l]:List UInt8).take 5) = ((10 * (10 * (10 * i + j) + k) + l:Nat):Int) := by show 10 * (10 * (10 * (10 * 0 + ((dg i).toNat:Int) - 48) + ((dg j).toNat:Int) - 48) + ((dg k).toNat:Int) - 48) + ((dg l).toNat:Int) - 48 = _; omega
  have e3:IntKind.i64.wrap (((a + 4:Nat):Int) - (a:Int)) = 4 := by rw [wrap_ok (by omega) (by omega)]; omega
  rw [e1,e2,e3,show (((a + 4:Nat):Int) == (a:Int)) = false from by rw [beq_eq_false_iff_ne]; omega,cond_false,inb_nat b1]
  by_cases h0:i = 0
  ·subst h0
   refine .inr ⟨fun u hu q => it4_no0 hu (by rw [← q]; simp) (by rw [← q]; rfl), ?_⟩
   rw [show (bt T (a:Int) == 48) = true from by rw [beq_iff_eq,b2]; omega]; rfl
  ·have e:it4 (10 * (10 * (10 * i + j) + k) + l) = [dg i,dg j,dg k,dg l] := it4_4 ⟨i,i1⟩ ⟨j,j1⟩ ⟨k,k1⟩ ⟨l,l1⟩ h0
   refine .inl ⟨10 * (10 * (10 * i + j) + k) + l,by omega,e.symm, ?_⟩
   rw [show (bt T (a:Int) == 48) = false from by rw [beq_eq_false_iff_ne,b2]; omega,e]; rfl
 | c :: d :: e :: f :: g :: r,hall,hhead,hlen =>
  refine .inr ⟨fun u hu q => ?_, ?_⟩
  ·have := it4_len u
   rw [← q] at this
   simp at this
  ·have e1:((c :: d :: e :: f :: g :: r).take 5).length = 5 := rfl
   simp only [List.length_cons] at hlen
   have e3:IntKind.i64.wrap (((a + 5:Nat):Int) - (a:Int)) = 5 := by rw [wrap_ok (by omega) (by omega)]; omega
   rw [e1,e3,show (((a + 5:Nat):Int) == (a:Int)) = false from by rw [beq_eq_false_iff_ne]; omega]; rfl
def RS:ByteArray := ⟨#[64,60,62,33,111,120]⟩
abbrev RdR := ByteArray×Int×Int×ByteArray×Bool×Bool×List Int×List Node3×Int
abbrev SpR := List Node3×Int×Int×Int
def KnB (kn:List Int) (xs:List Node3):Prop := kn.length ≤ 4294967296 ∧ ∀ u,u < kn.length → hasB xs (kn.getD u 0) = true
inductive Drv (kn:List Int) (xs:List Node3):Int → Prop
 | know {t:Int} (u:Nat) (h:u < kn.length) (e:kn.getD u 0 = t):Drv kn xs t
 | pub {t:Int} (h:hasB xs t = true) (k:(xs.getD t.toNat zN3).1 = 1) (a:0 ≤ (xs.getD t.toNat zN3).2.1) (b:(xs.getD t.toNat zN3).2.1 ≤ 49):Drv kn xs t
 | one {t:Int} (h:hasB xs t = true) (k:(xs.getD t.toNat zN3).1 = 5 ∨ (xs.getD t.toNat zN3).1 = 7) (a:Drv kn xs (xs.getD t.toNat zN3).2.1):Drv kn xs t
 | two {t:Int} (h:hasB xs t = true) (k:(xs.getD t.toNat zN3).1 = 2 ∨ (xs.getD t.toNat zN3).1 = 3 ∨ (xs.getD t.toNat zN3).1 = 4 ∨ (xs.getD t.toNat zN3).1 = 6 ∨ (xs.getD t.toNat zN3).1 = 8) (a:Drv kn xs (xs.getD t.toNat zN3).2.1) (b:Drv kn xs (xs.getD t.toNat zN3).2.2):Drv kn xs t
 | share {t x p:Int} (h:hasB xs t = true) (hp:hasB xs p = true) (k:(xs.getD t.toNat zN3).1 = 8) (kp:(xs.getD p.toNat zN3).1 = 7) (e:((xs.getD t.toNat zN3).2.1 = x ∧ (xs.getD t.toNat zN3).2.2 = (xs.getD p.toNat zN3).2.1) ∨ ((xs.getD t.toNat zN3).2.2 = x ∧ (xs.getD t.toNat zN3).2.1 = (xs.getD p.toNat zN3).2.1)) (a:Drv kn xs x) (b:Drv kn xs p):Drv kn xs t
 | left {p:Int} (h:hasB xs p = true) (k:(xs.getD p.toNat zN3).1 = 2) (a:Drv kn xs p):Drv kn xs (xs.getD p.toNat zN3).2.1
 | right {p:Int} (h:hasB xs p = true) (k:(xs.getD p.toNat zN3).1 = 2) (a:Drv kn xs p):Drv kn xs (xs.getD p.toNat zN3).2.2
 | sign {p:Int} (h:hasB xs p = true) (k:(xs.getD p.toNat zN3).1 = 4) (a:Drv kn xs p):Drv kn xs (xs.getD p.toNat zN3).2.1
 | open_ {p:Int} (h:hasB xs p = true) (k:(xs.getD p.toNat zN3).1 = 3) (a:Drv kn xs p) (b:Drv kn xs (xs.getD p.toNat zN3).2.2):Drv kn xs (xs.getD p.toNat zN3).2.1
theorem hasB_iff2 {xs:List Node3} {v:Int}:hasB xs v = true ↔ 0 ≤ v ∧ v < (xs.length:Int) := by
 unfold hasB
 rw [Bool.and_eq_true,decide_eq_true_iff,decide_eq_true_iff]
 omega
theorem hasB_app {xs zs:List Node3} {v:Int} (h:hasB xs v = true):hasB (xs ++ zs) v = true := by
 rw [hasB_iff2] at h ⊢
 rw [List.length_append]
 omega
theorem get_app {xs zs:List Node3} {v:Int} (h:hasB xs v = true):(xs ++ zs).getD v.toNat zN3 = xs.getD v.toNat zN3 := by
 rw [hasB_iff2] at h
 exact getD_app (by omega) zN3
theorem Drv.mono {kn:List Int} {xs:List Node3} (zs:List Node3) {t:Int} (h:Drv kn xs t):Drv kn (xs ++ zs) t := by
 induction h with
 | know u h e => exact .know u h e
 | pub h k a b => rw [← get_app (zs := zs) h] at k a b; exact .pub (hasB_app h) k a b
 | one h k a ih => rw [← get_app (zs := zs) h] at k ih; exact .one (hasB_app h) k ih
 | two h k a b ia ib => rw [← get_app (zs := zs) h] at k ia ib; exact .two (hasB_app h) k ia ib
 | share h hp k kp e a b ia ib => rw [← get_app (zs := zs) h] at k e; rw [← get_app (zs := zs) hp] at kp e; exact .share (hasB_app h) (hasB_app hp) k kp e ia ib
 | left h k a ih => rw [← get_app (zs := zs) h] at k ⊢; exact .left (hasB_app h) k ih
 | right h k a ih => rw [← get_app (zs := zs) h] at k ⊢; exact .right (hasB_app h) k ih
 | sign h k a ih => rw [← get_app (zs := zs) h] at k ⊢; exact .sign (hasB_app h) k ih
 | open_ h k a b ia ib => rw [← get_app (zs := zs) h] at k ib ⊢; exact .open_ (hasB_app h) k ia ib
theorem KnB.mono {kn:List Int} {xs:List Node3} (zs:List Node3) (h:KnB kn xs):KnB kn (xs ++ zs) := ⟨h.1,fun u hu => hasB_app (h.2 u hu)⟩
theorem addP_facts {xs ys:List Node3} {kd a b t:Int} (hp:poolB xs = true) (h:addP xs kd a b = some (ys,t)):poolB ys = true ∧ 0 ≤ t ∧ t < (ys.length:Int) ∧ (∃ zs,ys = xs ++ zs) ∧ ys.getD t.toNat zN3 = norm kd a b := addK_pool hp h
theorem nodeV_kind2 {k a b:Int} {i:Nat} (hi:i ≤ 4294967296) (h:nodeV N0 (k,a,b,(i:Int)) = true):(k = 1 ∧ 0 ≤ a ∧ a ≤ 199) ∨ ((k = 5 ∨ k = 7) ∧ 0 ≤ a ∧ a < (i:Int)) ∨ ((k = 2 ∨ k = 3 ∨ k = 4 ∨ k = 6 ∨ k = 8) ∧ 0 ≤ a ∧ a < (i:Int) ∧ 0 ≤ b ∧ b < (i:Int)) := by
 have w:IntKind.i64.wrap ((i:Int) - (1:Int)) = (i:Int) - 1 := wrap_ok (by omega) (by omega)
 have hr:∀ v lo hi:Int,impl_inRange N0 (v,lo,hi) = some (decide (v ≥ lo) && decide (v ≤ hi)) := fun v lo hi => by
  unfold impl_inRange
  cases q:decide (v ≥ lo) <;> (simp [q])
 have hk:nodeV N0 (k,a,b,(i:Int)) = (impl_nodeOk N0 (k,a,b,(i:Int))).getD false := rfl
 rw [hk] at h
 unfold impl_nodeOk at h
 dsimp only at h
 rw [w,hr,hr,hr] at h
 by_cases h1:k = 1
 ·subst h1
  rw [show impl_count N0 1 = some 0 from rfl] at h
  left
  cases q:(decide (a ≥ 0) && decide (a ≤ 199)) with
  | false => simp only [Option.bind_some,beq_self_eq_true,cond_true,q] at h; cases h
  | true =>
   rw [Bool.and_eq_true,decide_eq_true_iff,decide_eq_true_iff] at q
   exact ⟨rfl,q.1,q.2⟩
 by_cases h5:k = 5 ∨ k = 7
 ·right; left
  have hc:impl_count N0 k = some 1 := by rcases h5 with rfl | rfl <;> rfl
  rw [hc] at h
  cases q:(decide (a ≥ 0) && decide (a ≤ (i:Int) - 1)) with
  | false => simp only [Option.bind_some,show ((1:Int) == 0) = false from rfl,beq_self_eq_true,cond_true,cond_false,q] at h; cases h
  | true =>
   rw [Bool.and_eq_true,decide_eq_true_iff,decide_eq_true_iff] at q
   exact ⟨h5,q.1,by omega⟩
 by_cases h2:k = 2 ∨ k = 3 ∨ k = 4 ∨ k = 6 ∨ k = 8
 ·right; right
  have hc:impl_count N0 k = some 2 := by rcases h2 with rfl | rfl | rfl | rfl | rfl <;> rfl
  rw [hc] at h
  cases q:(decide (a ≥ 0) && decide (a ≤ (i:Int) - 1)) with
  | false => simp only [Option.bind_some,show ((2:Int) == 0) = false from rfl,show ((2:Int) == 1) = false from rfl,beq_self_eq_true,cond_true,cond_false,q] at h; cases h
  | true =>
   cases q2:(decide (b ≥ 0) && decide (b ≤ (i:Int) - 1)) with
   | false => simp only [Option.bind_some,show ((2:Int) == 0) = false from rfl,show ((2:Int) == 1) = false from rfl,beq_self_eq_true,cond_true,cond_false,q,q2] at h; cases h
   | true =>
    rw [Bool.and_eq_true,decide_eq_true_iff,decide_eq_true_iff] at q q2
    exact ⟨h2,q.1,by omega,q2.1,by omega⟩
 exfalso
 have hc:∃ c,impl_count N0 k = some c ∧ c ≠ 0 ∧ c ≠ 1 ∧ c ≠ 2 := by
  unfold impl_count
  simp only [show (k == 1) = false from by rw [beq_eq_false_iff_ne]; exact h1,show (k == 2) = false from by rw [beq_eq_false_iff_ne]; omega,show (k == 3) = false from by rw [beq_eq_false_iff_ne]; omega,show (k == 4) = false from by rw [beq_eq_false_iff_ne]; omega,show (k == 5) = false from by rw [beq_eq_false_iff_ne]; omega,show (k == 6) = false from by rw [beq_eq_false_iff_ne]; omega,show (k == 7) = false from by rw [beq_eq_false_iff_ne]; omega,show (k == 8) = false from by rw [beq_eq_false_iff_ne]; omega,cond_false]
  exact ⟨_,rfl,by decide,by decide,by decide⟩
 obtain ⟨c,hc,c0,c1,c2⟩ := hc
 rw [hc] at h
 simp only [Option.bind_some,show (c == 0) = false from by rw [beq_eq_false_iff_ne]; exact c0,show (c == 1) = false from by rw [beq_eq_false_iff_ne]; exact c1,show (c == 2) = false from by rw [beq_eq_false_iff_ne]; exact c2,cond_false] at h
 cases h
theorem opened_in {m:List Node3} {p:Int} (hp:poolB m = true) (h:hasB m p = true) (hk:(m.getD p.toNat zN3).1 = 2 ∨ (m.getD p.toNat zN3).1 = 3 ∨ (m.getD p.toNat zN3).1 = 4 ∨ (m.getD p.toNat zN3).1 = 6 ∨ (m.getD p.toNat zN3).1 = 8):hasB m (m.getD p.toNat zN3).2.1 = true ∧ hasB m (m.getD p.toNat zN3).2.2 = true := by
 have h2 := hasB_iff2.1 h
 have hl := poolB_len hp
 have := nodeV_kind2 (by omega) (poolB_nd hp (j := p.toNat) (by omega))
 rw [hasB_iff2,hasB_iff2]
 rcases this with ⟨q,_⟩ | ⟨q,_⟩ | ⟨_,q1,q2,q3,q4⟩
 ·rw [q] at hk; omega
 ·rcases q with q | q <;> (rw [q] at hk; omega)
 ·omega
theorem drv_shared {kn:List Int} {ys:List Node3} {p q t:Int} (ht:hasB ys t = true) (g:ys.getD t.toNat zN3 = norm 8 p q) (dp:Drv kn ys p) (dq:Drv kn ys q):Drv kn ys t := by
 have hn:norm 8 p q = (8,(mn p q,mx p q)) := rfl
 rw [hn] at g
 refine .two ht (by rw [g]; exact .inr (.inr (.inr (.inr rfl)))) ?_ ?_
 ·rw [g]
  show Drv kn ys (mn p q)
  unfold mn
  split <;> assumption
 ·rw [g]
  show Drv kn ys (mx p q)
  unfold mx
  split <;> assumption
theorem drv_raise {kn:List Int} {m ys z:List Node3} {p q t:Int} (hm:poolB m = true) (ht:hasB ys t = true) (g:ys.getD t.toNat zN3 = norm 8 p (m.getD q.toNat zN3).2.1) (e:ys = m ++ z) (hk:(m.getD q.toNat zN3).1 = 7) (hq:hasB m q = true) (dp:Drv kn m p) (dq:Drv kn m q):Drv kn ys t := by
 subst e
 have eq := get_app (zs := z) hq
 have hn:norm 8 p (m.getD q.toNat zN3).2.1 = (8,(mn p (m.getD q.toNat zN3).2.1,mx p (m.getD q.toNat zN3).2.1)) := rfl
 rw [hn] at g
 refine .share (x := p) (p := q) ht (hasB_app hq) (by rw [g]) (by rw [eq]; exact hk) ?_ (dp.mono z) (dq.mono z)
 rw [g,eq]
 show (mn p _ = p ∧ mx p _ = _) ∨ (mx p _ = p ∧ mn p _ = _)
 unfold mn mx
 split
 ·split
  ·omega
  ·exact .inr ⟨rfl,rfl⟩
 ·split
  ·exact .inl ⟨rfl,rfl⟩
  ·left; omega
def RB (T:ByteArray) (a:Nat) (kn:List Int) (xs:List Node3) (ri:Option RdR) (rs:Option SpR):Prop :=
 (∃ (a':Nat) (ys:List Node3) (t:Int),ri = some (T,(a':Int),(0:Int),RS,false,false,kn,ys,t) ∧ rs = some (ys,t,(a':Int),(0:Int)) ∧ a < a' ∧ a' ≤ T.size ∧ poolB ys = true ∧ hasB ys t = true ∧ (∃ zs,ys = xs ++ zs) ∧ Drv kn ys t) ∨
 (∃ (a':Nat) (c:Int) (m1 m2:List Node3),c ≠ 0 ∧ a' ≤ T.size ∧ ri = some (T,(a':Int),c,RS,false,false,kn,m1,(-1:Int)) ∧ rs = some (m2,(-1:Int),(a':Int),c))
theorem rread_bad {T:ByteArray} {a c:Int} (hc:c ≠ 0) (kn:List Int) (xs:List Node3) {j:Nat} (hj:0 < j):impl_reader_read N0 j (T,a,c,RS,false,false,kn,xs) = some (T,a,c,RS,false,false,kn,xs,(-1:Int)) := by
 obtain ⟨i,rfl⟩:∃ i,j = i + 1 := ⟨j - 1,by omega⟩
 show impl_reader_read_body N0 (impl_reader_read N0 i) (T,a,c,RS,false,false,kn,xs) = _
 unfold impl_reader_read_body
 dsimp only
 rw [show (c != 0) = true from by rw [bne_iff_ne]; exact hc,cond_true]
theorem rtake_bad {T:ByteArray} {a k:Int} (h:k ≠ 0) (M:ByteArray) (e:Int):impl_reader_take N0 (T,a,k,M,e) = some (T,a,k,M) := by
 unfold impl_reader_take
 dsimp only
 rw [show (k != 0) = true from by rw [bne_iff_ne]; exact h]; rfl
theorem rtwo_bad {T:ByteArray} {a c:Int} (hc:c ≠ 0) (kn:List Int) (xs:List Node3) {j:Nat} (hj:0 < j) {e:Int}:impl_reader_two N0 (impl_reader_read N0 j) (T,a,c,RS,false,false,e,kn,xs) = some (T,a,c,RS,false,false,kn,xs,[(-1:Int),(-1:Int)]) := by
 unfold impl_reader_two
 dsimp only
 simp only [rread_bad hc kn xs hj,rtake_bad hc,Option.bind_some]
theorem want_same {T:ByteArray} (hT:T.size ≤ 100000) {a:Nat} (ha:a ≤ T.size) (M:ByteArray) (e:Int):(impl_reader_take N0 (T,(a:Int),(0:Int),M,e) = some (T,((a + 1:Nat):Int),(0:Int),M) ∧ spec_l4Want N0 (T,(a:Int),e) = some (((a + 1:Nat):Int),(0:Int)) ∧ a + 1 ≤ T.size ∧ bt T (a:Int) = e) ∨
  (∃ (b:Nat) (c:Int),c ≠ 0 ∧ b ≤ T.size ∧ impl_reader_take N0 (T,(a:Int),(0:Int),M,e) = some (T,(b:Int),c,M) ∧ spec_l4Want N0 (T,(a:Int),e) = some ((b:Int),c)) := by
 have z0:((0:Int) != 0) = false := rfl
 unfold impl_reader_take spec_l4Want
 dsimp only
 cases hd:(bs T).drop a with
 | nil =>
  have h1 := drop_nil hd
  have hz:decide ((a:Int) ≥ (T.size:Int)) = true := decide_eq_true (by omega)
  right
  refine ⟨T.size,2,by decide,Nat.le_refl _, ?_, ?_⟩
  ·simp only [z0,hz,cond_true,cond_false,impl_reader_fail,beq_self_eq_true,Option.bind_some]
  ·rw [hz,cond_true]
 | cons c r =>
  obtain ⟨h1,h2,h3⟩ := drop_cons hd
  have hz:decide ((a:Int) ≥ (T.size:Int)) = false := decide_eq_false (by omega)
  have hin := inb_nat h1
  have w1:IntKind.i64.wrap ((a:Int) + 1) = ((a + 1:Nat):Int) := by rw [wrap_ok (by omega) (by omega)]; omega
  by_cases he:bt T (a:Int) = e
  ·left
   have hb:(bt T (a:Int) != e) = false := by rw [he]; exact bne_self_eq_false' e
   refine ⟨?_, ?_,by omega,he⟩
   ·simp only [z0,hz,hin,hb,w1,cond_true,cond_false]
   ·simp only [hz,hin,hb,w1,cond_true,cond_false]
  ·right
   have hb:(bt T (a:Int) != e) = true := by rw [bne_iff_ne]; exact he
   refine ⟨a,3,by decide,ha, ?_, ?_⟩
   ·simp only [z0,hz,hin,hb,cond_true,cond_false,impl_reader_fail,beq_self_eq_true,Option.bind_some]
   ·simp only [hz,hin,hb,cond_true,cond_false]
theorem rread_two {T:ByteArray} (hT:T.size ≤ 100000) {kn:List Int} {j1 j2:Nat} (hj:0 < j1) {n:Nat} (ih:∀ (a:Nat) (xs:List Node3),T.size - a ≤ n → a ≤ T.size → poolB xs = true → KnB kn xs → RB T a kn xs (impl_reader_read N0 j1 (T,(a:Int),(0:Int),RS,false,false,kn,xs)) (spec_l10Run N0 j2 (xs,kn,T,(a:Int))))
  (e:Int) {a:Nat} {xs:List Node3} (hn:T.size - a ≤ n) (ha:a ≤ T.size) (hp:poolB xs = true) (hk:KnB kn xs) :
  (∃ (a':Nat) (ys:List Node3) (p q:Int),impl_reader_two N0 (impl_reader_read N0 j1) (T,(a:Int),(0:Int),RS,false,false,e,kn,xs) = some (T,(a':Int),(0:Int),RS,false,false,kn,ys,[p,q]) ∧ spec_l10Two N0 (spec_l10Run N0 j2) (xs,kn,T,(a:Int),false,e) = some (ys,p,q,(a':Int),(0:Int)) ∧
   a < a' ∧ a' ≤ T.size ∧ poolB ys = true ∧ hasB ys p = true ∧ hasB ys q = true ∧ (∃ zs,ys = xs ++ zs) ∧ Drv kn ys p ∧ Drv kn ys q) ∨
  (∃ (a':Nat) (c:Int) (m1:List Node3) (ps:List Int) (m2:List Node3) (x y:Int),c ≠ 0 ∧ a' ≤ T.size ∧ impl_reader_two N0 (impl_reader_read N0 j1) (T,(a:Int),(0:Int),RS,false,false,e,kn,xs) = some (T,(a':Int),c,RS,false,false,kn,m1,ps) ∧ spec_l10Two N0 (spec_l10Run N0 j2) (xs,kn,T,(a:Int),false,e) = some (m2,x,y,(a':Int),c)) := by
 unfold impl_reader_two spec_l10Two
 dsimp only
 simp only [cond_false,show ((0:Int) == 0) = true from rfl,cond_true]
 rcases ih a xs hn ha hp hk with ⟨b,ys,p,r1,r2,r3,r4,r5,r6,⟨z,rfl⟩,r8⟩ | ⟨b,c,m1,m2,r0,r1,r2,r3⟩
 ·rw [r1,r2]
  simp only [Option.bind_some,show ((0:Int) == 0) = true from rfl,cond_true]
  rcases want_same hT r4 RS 44 with ⟨t1,t2,t3,_⟩ | ⟨b2,c2,t0,t1,t2,t3⟩
  ·rw [t1,t2]
   simp only [Option.bind_some,show ((0:Int) == 0) = true from rfl,cond_true]
   rcases ih (b + 1) (xs ++ z) (by omega) t3 r5 (hk.mono z) with ⟨b',ys',q,s1,s2,s3,s4,s5,s6,⟨z',rfl⟩,s8⟩ | ⟨b',c,m1,m2,s0,s1,s2,s3⟩
   ·rw [s1,s2]
    simp only [Option.bind_some,show ((0:Int) == 0) = true from rfl,cond_true]
    rcases want_same hT s4 RS e with ⟨u1,u2,u3,_⟩ | ⟨b2,c2,u0,u1,u2,u3⟩
    ·rw [u1,u2]
     exact .inl ⟨b' + 1,_,p,q,rfl,rfl,by omega,u3,s5,hasB_app r6,s6,⟨z ++ z',by rw [List.append_assoc]⟩,r8.mono z',s8⟩
    ·rw [u2,u3]
     exact .inr ⟨b2,c2,_,_,_,_,_,u0,u1,rfl,rfl⟩
   ·rw [s2,s3]
    simp only [Option.bind_some,rtake_bad s0,show (c == 0) = false from by rw [beq_eq_false_iff_ne]; exact s0,cond_false]
    exact .inr ⟨b',c,_,_,_,_,_,s0,s1,rfl,rfl⟩
  ·rw [t2,t3]
   simp only [Option.bind_some,rread_bad t0 kn (xs ++ z) hj,rtake_bad t0,show (c2 == 0) = false from by rw [beq_eq_false_iff_ne]; exact t0,cond_false]
   exact .inr ⟨b2,c2,_,_,_,_,_,t0,t1,rfl,rfl⟩
 ·rw [r2,r3]
  simp only [Option.bind_some,rtake_bad r0,rread_bad r0 kn m1 hj,show (c == 0) = false from by rw [beq_eq_false_iff_ne]; exact r0,cond_false]
  exact .inr ⟨b,c,_,_,_,_,_,r0,r1,rfl,rfl⟩
theorem two_open2 {T:ByteArray} {a b e:Int} {kn:List Int} {xs:List Node3} {rec_:List Node3×List Int×ByteArray×Int → Option SpR} (h:spec_l4Want N0 (T,a,40) = some (b,0)):spec_l10Two N0 rec_ (xs,kn,T,a,true,e) = spec_l10Two N0 rec_ (xs,kn,T,b,false,e) := by
 unfold spec_l10Two
 dsimp only
 rw [h]
 rfl
theorem two_shut2 {T:ByteArray} {a b e c:Int} {kn:List Int} {xs:List Node3} {rec_:List Node3×List Int×ByteArray×Int → Option SpR} (h:spec_l4Want N0 (T,a,40) = some (b,c)) (hc:c ≠ 0):spec_l10Two N0 rec_ (xs,kn,T,a,true,e) = some (xs, -1, -1,b,c) := by
 unfold spec_l10Two
 dsimp only
 rw [h,cond_true,Option.bind_some]
 dsimp only
 rw [show (c == 0) = false from by rw [beq_eq_false_iff_ne]; exact hc]
 rfl
theorem pubI_eq (x:Int):impl_IsPublic N0 x = some (decide (x ≥ 0) && decide (x ≤ 49)) := by
 unfold impl_IsPublic impl_inRange
 cases decide (x ≥ 0) <;> cases decide (x ≤ 49) <;> rfl
theorem pubS_eq (x:Int):spec_IsPublic N0 x = some (decide (x ≥ 0) && decide (x ≤ 49)) := by
 unfold spec_IsPublic spec_l1In
 cases decide (x ≥ 0) <;> cases decide (x ≤ 49) <;> rfl
theorem one8 (b:Int):impl_isOneOf N0 (b,RS) = some ((64 == b) || ((60 == b) || ((62 == b) || ((33 == b) || ((111 == b) || (120 == b)))))) := by
 rw [isOne_eq (by decide)]
 show some ([64,60,62,33,111,120].any _) = _
 simp [List.any_cons,Bool.or_false]
theorem number_eq2 {T:ByteArray} (hT:T.size ≤ 100000) {a:Nat} (ha:a ≤ T.size) (M:ByteArray) (from_:Int):(∃ u:Nat,u < 200 ∧ ((bs T).drop a).takeWhile isD = it3 u ∧ impl_reader_number N0 (T,(a:Int),(0:Int),M,from_) = some (T,((a + (it3 u).length:Nat):Int),(0:Int),M,(u:Int))) ∨
  ((∀ u:Nat,u < 200 → ((bs T).drop a).takeWhile isD ≠ it3 u) ∧ impl_reader_number N0 (T,(a:Int),(0:Int),M,from_) = some (T,from_,(4:Int),M,(-1:Int))) := by
 have h := figs_eq hT ha (0:Int) M
 unfold impl_reader_number
 dsimp only
 rw [h,Option.bind_some]
 dsimp only
 rw [inRange_eq,Option.bind_some]
 rcases figV_iff (((bs T).drop a).takeWhile isD) with ⟨u,h1,h2,h3⟩ | ⟨h1,h2⟩
 ·refine .inl ⟨u,h1,h2, ?_⟩
  have:(decide (figV (((bs T).drop a).takeWhile isD) ≥ 0) && decide (figV (((bs T).drop a).takeWhile isD) ≤ 199)) = true := by
   rw [h3,Bool.and_eq_true,decide_eq_true_iff,decide_eq_true_iff]
   omega
  rw [this,h3,h2]; rfl
 ·refine .inr ⟨h1, ?_⟩
  rw [h2]; rfl
theorem tw_all2 {p:UInt8 → Bool}:∀ {l:List UInt8} {c:UInt8},c ∈ l.takeWhile p → p c = true
 | [],c,h => by cases h
 | d :: l,c,h => by
  rw [List.takeWhile_cons] at h
  cases q:p d with
  | false => rw [q] at h; cases h
  | true =>
   rw [q] at h
   rcases List.mem_cons.1 h with e | e
   ·rw [e]; exact q
   ·exact tw_all2 e
theorem kne1 (b:Int):impl_isOneOf N0 (b,(⟨#[64,36,63]⟩:ByteArray)) = some ((64 == b) || ((36 == b) || (63 == b))) := by
 rw [isOne_eq (by decide)]
 show some ((64 == b) || ((36 == b) || ((63 == b) || false))) = _
 rw [Bool.or_false]
theorem kne2 (b:Int):impl_isOneOf N0 (b,(⟨#[40,123,91]⟩:ByteArray)) = some ((40 == b) || ((123 == b) || (91 == b))) := by
 rw [isOne_eq (by decide)]
 show some ((40 == b) || ((123 == b) || ((91 == b) || false))) = _
 rw [Bool.or_false]
theorem kne3 (b:Int):impl_isOneOf N0 (b,(⟨#[35,94]⟩:ByteArray)) = some ((35 == b) || (94 == b)) := by
 rw [isOne_eq (by decide)]
 show some ((35 == b) || ((94 == b) || false)) = _
 rw [Bool.or_false]
theorem kne4 (b:Int):impl_isOneOf N0 (b,(⟨#[60,62,33]⟩:ByteArray)) = some ((60 == b) || ((62 == b) || (33 == b))) := by
 rw [isOne_eq (by decide)]
 show some ((60 == b) || ((62 == b) || ((33 == b) || false))) = _
 rw [Bool.or_false]
theorem kne5 (b:Int):impl_isOneOf N0 (b,(⟨#[107,42]⟩:ByteArray)) = some ((107 == b) || (42 == b)) := by
 rw [isOne_eq (by decide)]
 show some ((107 == b) || ((42 == b) || false)) = _
 rw [Bool.or_false]
theorem kne6 (b:Int):impl_isOneOf N0 (b,(⟨#[111,120]⟩:ByteArray)) = some ((111 == b) || (120 == b)) := by
 rw [isOne_eq (by decide)]
 show some ((111 == b) || ((120 == b) || false)) = _
 rw [Bool.or_false]
theorem rread_nil {T:ByteArray} {a:Nat} (h:(bs T).drop a = []) (kn:List Int) (xs:List Node3) {j1 j2:Nat} (h1:0 < j1) (h2:0 < j2):RB T a kn xs (impl_reader_read N0 j1 (T,(a:Int),(0:Int),RS,false,false,kn,xs)) (spec_l10Run N0 j2 (xs,kn,T,(a:Int))) := by
 obtain ⟨i1,rfl⟩:∃ i,j1 = i + 1 := ⟨j1 - 1,by omega⟩
 obtain ⟨i2,rfl⟩:∃ i,j2 = i + 1 := ⟨j2 - 1,by omega⟩
 have hs := drop_nil h
 have hd:decide ((a:Int) ≥ (T.size:Int)) = true := decide_eq_true (by omega)
 refine .inr ⟨T.size,2,xs,xs,by decide,Nat.le_refl _, ?_, ?_⟩
 ·show impl_reader_read_body N0 (impl_reader_read N0 i1) _ = _
  unfold impl_reader_read_body
  dsimp only
  rw [show ((0:Int) != 0) = false from rfl,cond_false,peek_nil h,Option.bind_some]
  dsimp only
  rw [hd,cond_true]; rfl
 ·show spec_l10Run_body N0 (spec_l10Run N0 i2) _ = _
  unfold spec_l10Run_body
  dsimp only
  rw [hd,cond_true]
section
variable {T:ByteArray} {a:Nat} {c:UInt8} {r:List UInt8} {kn:List Int} {xs:List Node3} {i1 i2 n:Nat}
theorem rread_64 (hT:T.size ≤ 100000) (hd:(bs T).drop a = c :: r) (hp:poolB xs = true) (hk:KnB kn xs) (hv:(c.toNat:Int) = 64):RB T a kn xs (impl_reader_read N0 (i1 + 1) (T,(a:Int),(0:Int),RS,false,false,kn,xs)) (spec_l10Run N0 (i2 + 1) (xs,kn,T,(a:Int))) := by
 obtain ⟨h1,h2,h3⟩ := drop_cons hd
 have z0:((0:Int) != 0) = false := rfl
 have hz:decide ((a:Int) ≥ (T.size:Int)) = false := decide_eq_false (by omega)
 have hin := inb_nat h1
 have w1:IntKind.i64.wrap ((a:Int) + 1) = ((a + 1:Nat):Int) := by rw [wrap_ok (by omega) (by omega)]; omega
 rw [hv] at h2
 have pk := peek_cons hd 0 RS
 rw [hv] at pk
 have hl := poolB_len hp
 show RB T a kn xs (impl_reader_read_body N0 (impl_reader_read N0 i1) (T,(a:Int),(0:Int),RS,false,false,kn,xs)) (spec_l10Run_body N0 (spec_l10Run N0 i2) (xs,kn,T,(a:Int)))
 unfold impl_reader_read_body spec_l10Run_body
 simp only [z0,hz,pk,h2,hin,w1,kne1,kne2,kne3,kne4,kne5,kne6,one8,Option.bind_some,Int.reduceBEq,Int.reduceBNe,Bool.or_true,Bool.or_false,Bool.true_or,Bool.false_or,Bool.or_self,cond_true,cond_false,impl_RecipeRun_1,impl_reader_place]
 have hfg := figs_eqM hT (most := 4) (by decide) (a := a + 1) h1 (0:Int) RS
 have e4:((4:Nat):Int) = (4:Int) := rfl
 rw [e4] at hfg
 have hall:∀ c ∈ ((bs T).drop (a + 1)).takeWhile isD,isD c = true := fun c hc => tw_all2 hc
 rw [hfg]
 simp only [Option.bind_some,inRange_eq]
 have hkl := hk.1
 have wk:IntKind.i64.wrap ((kn.length:Int) - 1) = (kn.length:Int) - 1 := wrap_ok (by omega) (by omega)
 rw [wk]
 rcases figM_iff hall with ⟨u,u1,u2,u3⟩ | ⟨u1,u3⟩
 ·rcases num_eq hT (a := a + 1) h1 with ⟨u',v1,v2,v3⟩ | ⟨v1,v3⟩
  ·obtain rfl:u = u' := it4_inj (by omega) (by omega) (u2.symm.trans v2)
   have hlen:a + 1 + (it4 u).length ≤ T.size := by
    have := (List.takeWhile_prefix (l := (bs T).drop (a + 1)) isD).length_le
    rw [u2,List.length_drop,bs_len] at this
    omega
   by_cases hku:u < kn.length
   ·have hA:(decide ((u:Int) ≥ 0) && decide ((u:Int) ≤ (kn.length:Int) - 1)) = true := by
     rw [Bool.and_eq_true,decide_eq_true_iff,decide_eq_true_iff]; omega
    simp only [u3]
    simp only [v3,hA,u2,inb_nat hku,(show decide ((u:Int) ≥ (kn.length:Int)) = false from decide_eq_false (by omega)),spec_l10Run_R9,Int.toNat_natCast,Option.bind_some,Bool.not_true,cond_true,cond_false]
    refine .inl ⟨a + 1 + (it4 u).length,xs,kn.getD u 0,rfl,rfl,by omega,hlen,hp,hk.2 u hku,⟨[],by simp⟩, .know u hku rfl⟩
   ·have hA:(decide ((u:Int) ≥ 0) && decide ((u:Int) ≤ (kn.length:Int) - 1)) = false := by
     rw [Bool.and_eq_false_iff,decide_eq_false_iff_not,decide_eq_false_iff_not]; omega
    simp only [u3,v3,hA,impl_reader_fail,(show decide ((u:Int) ≥ (kn.length:Int)) = true from decide_eq_true (by omega)),Option.bind_some,Bool.not_false,Bool.not_true,beq_self_eq_true,cond_true,cond_false]
    exact .inr ⟨a,4,_,_,by decide,by omega,rfl,rfl⟩
  ·exact absurd u2 (v1 u u1)
 ·rcases num_eq hT (a := a + 1) h1 with ⟨u',v1,v2,v3⟩ | ⟨v1,v3⟩
  ·exact absurd v2 (u1 u' v1)
  ·have hA:(decide ((-1:Int) ≥ 0) && decide ((-1:Int) ≤ (kn.length:Int) - 1)) = false := rfl
   simp only [u3,v3,hA,impl_reader_fail,Option.bind_some,Bool.not_false,beq_self_eq_true,cond_true,cond_false]
   exact .inr ⟨a,4,_,_,by decide,by omega,rfl,rfl⟩
theorem rread_110 (hT:T.size ≤ 100000) (hd:(bs T).drop a = c :: r) (hp:poolB xs = true) (hk:KnB kn xs) (hv:(c.toNat:Int) = 110):RB T a kn xs (impl_reader_read N0 (i1 + 1) (T,(a:Int),(0:Int),RS,false,false,kn,xs)) (spec_l10Run N0 (i2 + 1) (xs,kn,T,(a:Int))) := by
 obtain ⟨h1,h2,h3⟩ := drop_cons hd
 have z0:((0:Int) != 0) = false := rfl
 have hz:decide ((a:Int) ≥ (T.size:Int)) = false := decide_eq_false (by omega)
 have hin := inb_nat h1
 have w1:IntKind.i64.wrap ((a:Int) + 1) = ((a + 1:Nat):Int) := by rw [wrap_ok (by omega) (by omega)]; omega
 rw [hv] at h2
 have pk := peek_cons hd 0 RS
 rw [hv] at pk
 have hl := poolB_len hp
 show RB T a kn xs (impl_reader_read_body N0 (impl_reader_read N0 i1) (T,(a:Int),(0:Int),RS,false,false,kn,xs)) (spec_l10Run_body N0 (spec_l10Run N0 i2) (xs,kn,T,(a:Int)))
 unfold impl_reader_read_body spec_l10Run_body
 simp only [z0,hz,pk,h2,hin,w1,kne1,kne2,kne3,kne4,kne5,kne6,one8,Option.bind_some,Int.reduceBEq,Int.reduceBNe,Bool.or_true,Bool.or_false,Bool.true_or,Bool.false_or,Bool.or_self,cond_true,cond_false,impl_RecipeRun_1,impl_reader_public]
 rcases number_eq2 hT (a := a + 1) h1 RS (a:Int) with ⟨u,u1,u2,u3⟩ | ⟨u1,u3⟩
 ·rcases name_eq hT (a := a + 1) h1 with ⟨u',v1,v2,v3⟩ | ⟨v1,v3⟩
  ·obtain rfl:u = u' := it3_inj (by omega) (by omega) (u2.symm.trans v2)
   have hlen:a + 1 + (it3 u).length ≤ T.size := by
    have := (List.takeWhile_prefix (l := (bs T).drop (a + 1)) isD).length_le
    rw [u2,List.length_drop,bs_len] at this
    omega
   simp only [u3,v3,z0,pubI_eq,pubS_eq,Option.bind_some,Bool.not_true,cond_false]
   cases hpu:(decide ((u:Int) ≥ 0) && decide ((u:Int) ≤ 49)) with
   | false =>
    simp only [hpu,impl_reader_fail,Option.bind_some,Bool.not_false,beq_self_eq_true,cond_true]
    exact .inr ⟨a,4,_,_,by decide,by omega,rfl,rfl⟩
   | true =>
    simp only [hpu,implName_eq hl,specName_eq hp,Option.bind_some,Bool.not_true,cond_false,impl_reader_orFull]
    cases hA:addP xs 1 (u:Int) 0 with
    | none =>
     simp only [outI,impl_reader_fail,Option.bind_some,beq_self_eq_true,show decide ((-1:Int) < 0) = true from rfl,cond_true]
     exact .inr ⟨a + 1 + (it3 u).length,5,_,_,by decide,hlen,rfl,rfl⟩
    | some p =>
     obtain ⟨ys,t⟩ := p
     obtain ⟨g1,g2,g3,g4,g5⟩ := addP_facts hp hA
     rw [show outI xs (some (ys,t)) = (ys,t) from rfl]
     dsimp only
     simp only [(show decide (t < (0:Int)) = false from decide_eq_false (by omega)),Option.bind_some,cond_false]
     rw [Bool.and_eq_true,decide_eq_true_iff,decide_eq_true_iff] at hpu
     refine .inl ⟨a + 1 + (it3 u).length,ys,t,rfl,rfl,by omega,hlen,g1,hasB_iff2.2 ⟨g2,by omega⟩,g4, ?_⟩
     exact .pub (hasB_iff2.2 ⟨g2,by omega⟩) (by rw [g5]; rfl) (by rw [g5]; exact hpu.1) (by rw [g5]; exact hpu.2)
  ·exact absurd u2 (v1 u u1)
 ·rcases name_eq hT (a := a + 1) h1 with ⟨u',v1,v2,v3⟩ | ⟨v1,v3⟩
  ·exact absurd v2 (u1 u' v1)
  ·simp only [u3,v3,Option.bind_some,Bool.not_false,Int.reduceBNe,cond_true]
   exact .inr ⟨a,4,_,_,by decide,by omega,rfl,rfl⟩
theorem rread_40 (hT:T.size ≤ 100000) (hd:(bs T).drop a = c :: r) (hp:poolB xs = true) (hk:KnB kn xs) (hv:(c.toNat:Int) = 40) (hi:0 < i1) (ih:∀ (a:Nat) (xs:List Node3),T.size - a ≤ n → a ≤ T.size → poolB xs = true → KnB kn xs → RB T a kn xs (impl_reader_read N0 i1 (T,(a:Int),(0:Int),RS,false,false,kn,xs)) (spec_l10Run N0 i2 (xs,kn,T,(a:Int)))) (hn:T.size - (a + 1) ≤ n):RB T a kn xs (impl_reader_read N0 (i1 + 1) (T,(a:Int),(0:Int),RS,false,false,kn,xs)) (spec_l10Run N0 (i2 + 1) (xs,kn,T,(a:Int))) := by
 obtain ⟨h1,h2,h3⟩ := drop_cons hd
 have z0:((0:Int) != 0) = false := rfl
 have hz:decide ((a:Int) ≥ (T.size:Int)) = false := decide_eq_false (by omega)
 have hin := inb_nat h1
 have w1:IntKind.i64.wrap ((a:Int) + 1) = ((a + 1:Nat):Int) := by rw [wrap_ok (by omega) (by omega)]; omega
 rw [hv] at h2
 have pk := peek_cons hd 0 RS
 rw [hv] at pk
 have hl := poolB_len hp
 show RB T a kn xs (impl_reader_read_body N0 (impl_reader_read N0 i1) (T,(a:Int),(0:Int),RS,false,false,kn,xs)) (spec_l10Run_body N0 (spec_l10Run N0 i2) (xs,kn,T,(a:Int)))
 unfold impl_reader_read_body spec_l10Run_body
 have hkd:spec_l4Kind N0 (T,(a:Int)) = some ((2:Int),(1:Int),(41:Int)) := by
  unfold spec_l4Kind
  simp only [hin,h2,Int.reduceBEq,cond_true,cond_false]
 have hc:impl_closing N0 (40:Int) = some (41:Int) := rfl
 have hko:impl_kindOf N0 (40:Int) = some (2:Int) := rfl
 simp only [z0,hz,pk,h2,hin,w1,kne1,kne2,kne3,kne4,kne5,kne6,one8,Option.bind_some,Int.reduceBEq,Int.reduceBNe,Bool.or_true,Bool.or_false,Bool.true_or,Bool.false_or,Bool.or_self,cond_true,cond_false,hkd,hc,show decide ((2:Int) > 0) = true from rfl,show decide ((41:Int) > 0) = true from rfl,show ((1:Int) == 2) = false from rfl]
 rcases rread_two hT hi ih 41 (a := a + 1) hn h1 hp hk with ⟨b,m,p,q,q1,q2,q3,q4,q5,q6,q6',q7,q8,q9⟩ | ⟨b,c2,m1,ps,m2,x,y,q0,q1,q2,q3⟩
 ·rw [q1,q2]
  simp only [z0,impl_RecipeRun_2,one8,Int.reduceBEq,Bool.or_false,Bool.or_self,cond_false,impl_reader_added,impl_reader_added_R4,show decide ((([p,q]:List Int).length:Int) > (1:Int)) = true from rfl,show inb (1:Int) ([p,q]:List Int).length = true from rfl,show inb (0:Int) ([p,q]:List Int).length = true from rfl,hko,implAdd_eq (poolB_len q5),specAdd_eq q5,show ([p,q]:List Int).getD (1:Int).toNat 0 = q from rfl,show ([p,q]:List Int).getD (0:Int).toNat 0 = p from rfl,Option.bind_some,cond_true,impl_reader_orFull]
  cases hA:addP m 2 p q with
  | none =>
   simp only [outI,impl_reader_fail,Option.bind_some,beq_self_eq_true,show decide ((-1:Int) < 0) = true from rfl,cond_true]
   exact .inr ⟨b,5,_,_,by decide,q4,rfl,rfl⟩
  | some s =>
   obtain ⟨ys,t⟩ := s
   obtain ⟨g1,g2,g3,⟨z,g4⟩,g5⟩ := addP_facts q5 hA
   rw [show outI m (some (ys,t)) = (ys,t) from rfl]
   dsimp only
   simp only [(show decide (t < (0:Int)) = false from decide_eq_false (by omega)),Option.bind_some,cond_false]
   obtain ⟨z',q7'⟩ := q7
   refine .inl ⟨b,ys,t,rfl,rfl,by omega,q4,g1,hasB_iff2.2 ⟨g2,by omega⟩,⟨z' ++ z,by rw [g4,q7',List.append_assoc]⟩, ?_⟩
   have hne:norm 2 p q = (2,(p,q)) := rfl
   rw [hne] at g5
   exact .two (hasB_iff2.2 ⟨g2,by omega⟩) (by rw [g5]; simp only [Int.reduceEq,or_false,or_true,true_or,false_or]) (by rw [g5,g4]; exact q8.mono _) (by rw [g5,g4]; exact q9.mono _)
 ·rw [q2,q3]
  simp only [Option.bind_some,show (c2 != 0) = true from by rw [bne_iff_ne]; exact q0,cond_true]
  exact .inr ⟨b,c2,_,_,q0,q1,rfl,rfl⟩
theorem rread_123 (hT:T.size ≤ 100000) (hd:(bs T).drop a = c :: r) (hp:poolB xs = true) (hk:KnB kn xs) (hv:(c.toNat:Int) = 123) (hi:0 < i1) (ih:∀ (a:Nat) (xs:List Node3),T.size - a ≤ n → a ≤ T.size → poolB xs = true → KnB kn xs → RB T a kn xs (impl_reader_read N0 i1 (T,(a:Int),(0:Int),RS,false,false,kn,xs)) (spec_l10Run N0 i2 (xs,kn,T,(a:Int)))) (hn:T.size - (a + 1) ≤ n):RB T a kn xs (impl_reader_read N0 (i1 + 1) (T,(a:Int),(0:Int),RS,false,false,kn,xs)) (spec_l10Run N0 (i2 + 1) (xs,kn,T,(a:Int))) := by
 obtain ⟨h1,h2,h3⟩ := drop_cons hd
 have z0:((0:Int) != 0) = false := rfl
 have hz:decide ((a:Int) ≥ (T.size:Int)) = false := decide_eq_false (by omega)
 have hin := inb_nat h1
 have w1:IntKind.i64.wrap ((a:Int) + 1) = ((a + 1:Nat):Int) := by rw [wrap_ok (by omega) (by omega)]; omega
 rw [hv] at h2
 have pk := peek_cons hd 0 RS
 rw [hv] at pk
 have hl := poolB_len hp
 show RB T a kn xs (impl_reader_read_body N0 (impl_reader_read N0 i1) (T,(a:Int),(0:Int),RS,false,false,kn,xs)) (spec_l10Run_body N0 (spec_l10Run N0 i2) (xs,kn,T,(a:Int)))
 unfold impl_reader_read_body spec_l10Run_body
 have hkd:spec_l4Kind N0 (T,(a:Int)) = some ((3:Int),(1:Int),(125:Int)) := by
  unfold spec_l4Kind
  simp only [hin,h2,Int.reduceBEq,cond_true,cond_false]
 have hc:impl_closing N0 (123:Int) = some (125:Int) := rfl
 have hko:impl_kindOf N0 (123:Int) = some (3:Int) := rfl
 simp only [z0,hz,pk,h2,hin,w1,kne1,kne2,kne3,kne4,kne5,kne6,one8,Option.bind_some,Int.reduceBEq,Int.reduceBNe,Bool.or_true,Bool.or_false,Bool.true_or,Bool.false_or,Bool.or_self,cond_true,cond_false,hkd,hc,show decide ((3:Int) > 0) = true from rfl,show decide ((125:Int) > 0) = true from rfl,show ((1:Int) == 2) = false from rfl]
 rcases rread_two hT hi ih 125 (a := a + 1) hn h1 hp hk with ⟨b,m,p,q,q1,q2,q3,q4,q5,q6,q6',q7,q8,q9⟩ | ⟨b,c2,m1,ps,m2,x,y,q0,q1,q2,q3⟩
 ·rw [q1,q2]
  simp only [z0,impl_RecipeRun_2,one8,Int.reduceBEq,Bool.or_false,Bool.or_self,cond_false,impl_reader_added,impl_reader_added_R4,show decide ((([p,q]:List Int).length:Int) > (1:Int)) = true from rfl,show inb (1:Int) ([p,q]:List Int).length = true from rfl,show inb (0:Int) ([p,q]:List Int).length = true from rfl,hko,implAdd_eq (poolB_len q5),specAdd_eq q5,show ([p,q]:List Int).getD (1:Int).toNat 0 = q from rfl,show ([p,q]:List Int).getD (0:Int).toNat 0 = p from rfl,Option.bind_some,cond_true,impl_reader_orFull]
  cases hA:addP m 3 p q with
  | none =>
   simp only [outI,impl_reader_fail,Option.bind_some,beq_self_eq_true,show decide ((-1:Int) < 0) = true from rfl,cond_true]
   exact .inr ⟨b,5,_,_,by decide,q4,rfl,rfl⟩
  | some s =>
   obtain ⟨ys,t⟩ := s
   obtain ⟨g1,g2,g3,⟨z,g4⟩,g5⟩ := addP_facts q5 hA
   rw [show outI m (some (ys,t)) = (ys,t) from rfl]
   dsimp only
   simp only [(show decide (t < (0:Int)) = false from decide_eq_false (by omega)),Option.bind_some,cond_false]
   obtain ⟨z',q7'⟩ := q7
   refine .inl ⟨b,ys,t,rfl,rfl,by omega,q4,g1,hasB_iff2.2 ⟨g2,by omega⟩,⟨z' ++ z,by rw [g4,q7',List.append_assoc]⟩, ?_⟩
   have hne:norm 3 p q = (3,(p,q)) := rfl
   rw [hne] at g5
   exact .two (hasB_iff2.2 ⟨g2,by omega⟩) (by rw [g5]; simp only [Int.reduceEq,or_false,or_true,true_or,false_or]) (by rw [g5,g4]; exact q8.mono _) (by rw [g5,g4]; exact q9.mono _)
 ·rw [q2,q3]
  simp only [Option.bind_some,show (c2 != 0) = true from by rw [bne_iff_ne]; exact q0,cond_true]
  exact .inr ⟨b,c2,_,_,q0,q1,rfl,rfl⟩
theorem rread_91 (hT:T.size ≤ 100000) (hd:(bs T).drop a = c :: r) (hp:poolB xs = true) (hk:KnB kn xs) (hv:(c.toNat:Int) = 91) (hi:0 < i1) (ih:∀ (a:Nat) (xs:List Node3),T.size - a ≤ n → a ≤ T.size → poolB xs = true → KnB kn xs → RB T a kn xs (impl_reader_read N0 i1 (T,(a:Int),(0:Int),RS,false,false,kn,xs)) (spec_l10Run N0 i2 (xs,kn,T,(a:Int)))) (hn:T.size - (a + 1) ≤ n):RB T a kn xs (impl_reader_read N0 (i1 + 1) (T,(a:Int),(0:Int),RS,false,false,kn,xs)) (spec_l10Run N0 (i2 + 1) (xs,kn,T,(a:Int))) := by
 obtain ⟨h1,h2,h3⟩ := drop_cons hd
 have z0:((0:Int) != 0) = false := rfl
 have hz:decide ((a:Int) ≥ (T.size:Int)) = false := decide_eq_false (by omega)
 have hin := inb_nat h1
 have w1:IntKind.i64.wrap ((a:Int) + 1) = ((a + 1:Nat):Int) := by rw [wrap_ok (by omega) (by omega)]; omega
 rw [hv] at h2
 have pk := peek_cons hd 0 RS
 rw [hv] at pk
 have hl := poolB_len hp
 show RB T a kn xs (impl_reader_read_body N0 (impl_reader_read N0 i1) (T,(a:Int),(0:Int),RS,false,false,kn,xs)) (spec_l10Run_body N0 (spec_l10Run N0 i2) (xs,kn,T,(a:Int)))
 unfold impl_reader_read_body spec_l10Run_body
 have hkd:spec_l4Kind N0 (T,(a:Int)) = some ((4:Int),(1:Int),(93:Int)) := by
  unfold spec_l4Kind
  simp only [hin,h2,Int.reduceBEq,cond_true,cond_false]
 have hc:impl_closing N0 (91:Int) = some (93:Int) := rfl
 have hko:impl_kindOf N0 (91:Int) = some (4:Int) := rfl
 simp only [z0,hz,pk,h2,hin,w1,kne1,kne2,kne3,kne4,kne5,kne6,one8,Option.bind_some,Int.reduceBEq,Int.reduceBNe,Bool.or_true,Bool.or_false,Bool.true_or,Bool.false_or,Bool.or_self,cond_true,cond_false,hkd,hc,show decide ((4:Int) > 0) = true from rfl,show decide ((93:Int) > 0) = true from rfl,show ((1:Int) == 2) = false from rfl]
 rcases rread_two hT hi ih 93 (a := a + 1) hn h1 hp hk with ⟨b,m,p,q,q1,q2,q3,q4,q5,q6,q6',q7,q8,q9⟩ | ⟨b,c2,m1,ps,m2,x,y,q0,q1,q2,q3⟩
 ·rw [q1,q2]
  simp only [z0,impl_RecipeRun_2,one8,Int.reduceBEq,Bool.or_false,Bool.or_self,cond_false,impl_reader_added,impl_reader_added_R4,show decide ((([p,q]:List Int).length:Int) > (1:Int)) = true from rfl,show inb (1:Int) ([p,q]:List Int).length = true from rfl,show inb (0:Int) ([p,q]:List Int).length = true from rfl,hko,implAdd_eq (poolB_len q5),specAdd_eq q5,show ([p,q]:List Int).getD (1:Int).toNat 0 = q from rfl,show ([p,q]:List Int).getD (0:Int).toNat 0 = p from rfl,Option.bind_some,cond_true,impl_reader_orFull]
  cases hA:addP m 4 p q with
  | none =>
   simp only [outI,impl_reader_fail,Option.bind_some,beq_self_eq_true,show decide ((-1:Int) < 0) = true from rfl,cond_true]
   exact .inr ⟨b,5,_,_,by decide,q4,rfl,rfl⟩
  | some s =>
   obtain ⟨ys,t⟩ := s
   obtain ⟨g1,g2,g3,⟨z,g4⟩,g5⟩ := addP_facts q5 hA
   rw [show outI m (some (ys,t)) = (ys,t) from rfl]
   dsimp only
   simp only [(show decide (t < (0:Int)) = false from decide_eq_false (by omega)),Option.bind_some,cond_false]
   obtain ⟨z',q7'⟩ := q7
   refine .inl ⟨b,ys,t,rfl,rfl,by omega,q4,g1,hasB_iff2.2 ⟨g2,by omega⟩,⟨z' ++ z,by rw [g4,q7',List.append_assoc]⟩, ?_⟩
   have hne:norm 4 p q = (4,(p,q)) := rfl
   rw [hne] at g5
   exact .two (hasB_iff2.2 ⟨g2,by omega⟩) (by rw [g5]; simp only [Int.reduceEq,or_false,or_true,true_or,false_or]) (by rw [g5,g4]; exact q8.mono _) (by rw [g5,g4]; exact q9.mono _)
 ·rw [q2,q3]
  simp only [Option.bind_some,show (c2 != 0) = true from by rw [bne_iff_ne]; exact q0,cond_true]
  exact .inr ⟨b,c2,_,_,q0,q1,rfl,rfl⟩
theorem rread_35 (hT:T.size ≤ 100000) (hd:(bs T).drop a = c :: r) (hp:poolB xs = true) (hk:KnB kn xs) (hv:(c.toNat:Int) = 35) (hi:0 < i1) (ih:∀ (a:Nat) (xs:List Node3),T.size - a ≤ n → a ≤ T.size → poolB xs = true → KnB kn xs → RB T a kn xs (impl_reader_read N0 i1 (T,(a:Int),(0:Int),RS,false,false,kn,xs)) (spec_l10Run N0 i2 (xs,kn,T,(a:Int)))) (hn:T.size - (a + 1) ≤ n):RB T a kn xs (impl_reader_read N0 (i1 + 1) (T,(a:Int),(0:Int),RS,false,false,kn,xs)) (spec_l10Run N0 (i2 + 1) (xs,kn,T,(a:Int))) := by
 obtain ⟨h1,h2,h3⟩ := drop_cons hd
 have z0:((0:Int) != 0) = false := rfl
 have hz:decide ((a:Int) ≥ (T.size:Int)) = false := decide_eq_false (by omega)
 have hin := inb_nat h1
 have w1:IntKind.i64.wrap ((a:Int) + 1) = ((a + 1:Nat):Int) := by rw [wrap_ok (by omega) (by omega)]; omega
 rw [hv] at h2
 have pk := peek_cons hd 0 RS
 rw [hv] at pk
 have hl := poolB_len hp
 show RB T a kn xs (impl_reader_read_body N0 (impl_reader_read N0 i1) (T,(a:Int),(0:Int),RS,false,false,kn,xs)) (spec_l10Run_body N0 (spec_l10Run N0 i2) (xs,kn,T,(a:Int)))
 unfold impl_reader_read_body spec_l10Run_body
 have hkd:spec_l4Kind N0 (T,(a:Int)) = some ((5:Int),(1:Int),(0:Int)) := by
  unfold spec_l4Kind
  simp only [hin,h2,Int.reduceBEq,cond_true,cond_false]
 have hko:impl_kindOf N0 (35:Int) = some (5:Int) := rfl
 simp only [z0,hz,pk,h2,hin,w1,kne1,kne2,kne3,kne4,kne5,kne6,one8,Option.bind_some,Int.reduceBEq,Int.reduceBNe,Bool.or_true,Bool.or_false,Bool.true_or,Bool.false_or,Bool.or_self,cond_true,cond_false,hkd,show decide ((5:Int) > 0) = true from rfl,show decide ((0:Int) > 0) = false from rfl]
 rcases ih (a + 1) xs hn h1 hp hk with ⟨b,m,p,q1,q2,q3,q4,q5,q6,q7,q8⟩ | ⟨b,c2,m1,m2,q0,q1,q2,q3⟩
 ·rw [q1,q2]
  simp only [z0,impl_RecipeRun_2,one8,Int.reduceBEq,Bool.or_false,Bool.or_self,cond_false,impl_reader_added,impl_reader_added_R4,show decide ((([p]:List Int).length:Int) > (1:Int)) = false from rfl,show inb (0:Int) ([p]:List Int).length = true from rfl,hko,implAdd_eq (poolB_len q5),specAdd_eq q5,show ([p]:List Int).getD (0:Int).toNat 0 = p from rfl,Option.bind_some,cond_true,impl_reader_orFull]
  cases hA:addP m 5 p 0 with
  | none =>
   simp only [outI,impl_reader_fail,Option.bind_some,beq_self_eq_true,show decide ((-1:Int) < 0) = true from rfl,cond_true]
   exact .inr ⟨b,5,_,_,by decide,q4,rfl,rfl⟩
  | some s =>
   obtain ⟨ys,t⟩ := s
   obtain ⟨g1,g2,g3,⟨z,g4⟩,g5⟩ := addP_facts q5 hA
   rw [show outI m (some (ys,t)) = (ys,t) from rfl]
   dsimp only
   simp only [(show decide (t < (0:Int)) = false from decide_eq_false (by omega)),Option.bind_some,cond_false]
   obtain ⟨z',q7'⟩ := q7
   refine .inl ⟨b,ys,t,rfl,rfl,by omega,q4,g1,hasB_iff2.2 ⟨g2,by omega⟩,⟨z' ++ z,by rw [g4,q7',List.append_assoc]⟩, ?_⟩
   have hne:norm 5 p 0 = (5,(p,0)) := rfl
   rw [hne] at g5
   exact .one (hasB_iff2.2 ⟨g2,by omega⟩) (by rw [g5]; simp only [Int.reduceEq,or_false,or_true,true_or,false_or]) (by rw [g5,g4]; exact q8.mono _)
 ·rw [q2,q3]
  simp only [Option.bind_some,show (c2 != 0) = true from by rw [bne_iff_ne]; exact q0,cond_true]
  exact .inr ⟨b,c2,_,_,q0,q1,rfl,rfl⟩
theorem rread_94 (hT:T.size ≤ 100000) (hd:(bs T).drop a = c :: r) (hp:poolB xs = true) (hk:KnB kn xs) (hv:(c.toNat:Int) = 94) (hi:0 < i1) (ih:∀ (a:Nat) (xs:List Node3),T.size - a ≤ n → a ≤ T.size → poolB xs = true → KnB kn xs → RB T a kn xs (impl_reader_read N0 i1 (T,(a:Int),(0:Int),RS,false,false,kn,xs)) (spec_l10Run N0 i2 (xs,kn,T,(a:Int)))) (hn:T.size - (a + 1) ≤ n):RB T a kn xs (impl_reader_read N0 (i1 + 1) (T,(a:Int),(0:Int),RS,false,false,kn,xs)) (spec_l10Run N0 (i2 + 1) (xs,kn,T,(a:Int))) := by
 obtain ⟨h1,h2,h3⟩ := drop_cons hd
 have z0:((0:Int) != 0) = false := rfl
 have hz:decide ((a:Int) ≥ (T.size:Int)) = false := decide_eq_false (by omega)
 have hin := inb_nat h1
 have w1:IntKind.i64.wrap ((a:Int) + 1) = ((a + 1:Nat):Int) := by rw [wrap_ok (by omega) (by omega)]; omega
 rw [hv] at h2
 have pk := peek_cons hd 0 RS
 rw [hv] at pk
 have hl := poolB_len hp
 show RB T a kn xs (impl_reader_read_body N0 (impl_reader_read N0 i1) (T,(a:Int),(0:Int),RS,false,false,kn,xs)) (spec_l10Run_body N0 (spec_l10Run N0 i2) (xs,kn,T,(a:Int)))
 unfold impl_reader_read_body spec_l10Run_body
 have hkd:spec_l4Kind N0 (T,(a:Int)) = some ((7:Int),(1:Int),(0:Int)) := by
  unfold spec_l4Kind
  simp only [hin,h2,Int.reduceBEq,cond_true,cond_false]
 have hko:impl_kindOf N0 (94:Int) = some (7:Int) := rfl
 simp only [z0,hz,pk,h2,hin,w1,kne1,kne2,kne3,kne4,kne5,kne6,one8,Option.bind_some,Int.reduceBEq,Int.reduceBNe,Bool.or_true,Bool.or_false,Bool.true_or,Bool.false_or,Bool.or_self,cond_true,cond_false,hkd,show decide ((7:Int) > 0) = true from rfl,show decide ((0:Int) > 0) = false from rfl]
 rcases ih (a + 1) xs hn h1 hp hk with ⟨b,m,p,q1,q2,q3,q4,q5,q6,q7,q8⟩ | ⟨b,c2,m1,m2,q0,q1,q2,q3⟩
 ·rw [q1,q2]
  simp only [z0,impl_RecipeRun_2,one8,Int.reduceBEq,Bool.or_false,Bool.or_self,cond_false,impl_reader_added,impl_reader_added_R4,show decide ((([p]:List Int).length:Int) > (1:Int)) = false from rfl,show inb (0:Int) ([p]:List Int).length = true from rfl,hko,implAdd_eq (poolB_len q5),specAdd_eq q5,show ([p]:List Int).getD (0:Int).toNat 0 = p from rfl,Option.bind_some,cond_true,impl_reader_orFull]
  cases hA:addP m 7 p 0 with
  | none =>
   simp only [outI,impl_reader_fail,Option.bind_some,beq_self_eq_true,show decide ((-1:Int) < 0) = true from rfl,cond_true]
   exact .inr ⟨b,5,_,_,by decide,q4,rfl,rfl⟩
  | some s =>
   obtain ⟨ys,t⟩ := s
   obtain ⟨g1,g2,g3,⟨z,g4⟩,g5⟩ := addP_facts q5 hA
   rw [show outI m (some (ys,t)) = (ys,t) from rfl]
   dsimp only
   simp only [(show decide (t < (0:Int)) = false from decide_eq_false (by omega)),Option.bind_some,cond_false]
   obtain ⟨z',q7'⟩ := q7
   refine .inl ⟨b,ys,t,rfl,rfl,by omega,q4,g1,hasB_iff2.2 ⟨g2,by omega⟩,⟨z' ++ z,by rw [g4,q7',List.append_assoc]⟩, ?_⟩
   have hne:norm 7 p 0 = (7,(p,0)) := rfl
   rw [hne] at g5
   exact .one (hasB_iff2.2 ⟨g2,by omega⟩) (by rw [g5]; simp only [Int.reduceEq,or_false,or_true,true_or,false_or]) (by rw [g5,g4]; exact q8.mono _)
 ·rw [q2,q3]
  simp only [Option.bind_some,show (c2 != 0) = true from by rw [bne_iff_ne]; exact q0,cond_true]
  exact .inr ⟨b,c2,_,_,q0,q1,rfl,rfl⟩
theorem rread_60 (hT:T.size ≤ 100000) (hd:(bs T).drop a = c :: r) (hp:poolB xs = true) (hk:KnB kn xs) (hv:(c.toNat:Int) = 60) (hi:0 < i1) (ih:∀ (a:Nat) (xs:List Node3),T.size - a ≤ n → a ≤ T.size → poolB xs = true → KnB kn xs → RB T a kn xs (impl_reader_read N0 i1 (T,(a:Int),(0:Int),RS,false,false,kn,xs)) (spec_l10Run N0 i2 (xs,kn,T,(a:Int)))) (hn:T.size - (a + 1) ≤ n):RB T a kn xs (impl_reader_read N0 (i1 + 1) (T,(a:Int),(0:Int),RS,false,false,kn,xs)) (spec_l10Run N0 (i2 + 1) (xs,kn,T,(a:Int))) := by
 obtain ⟨h1,h2,h3⟩ := drop_cons hd
 have z0:((0:Int) != 0) = false := rfl
 have hz:decide ((a:Int) ≥ (T.size:Int)) = false := decide_eq_false (by omega)
 have hin := inb_nat h1
 have w1:IntKind.i64.wrap ((a:Int) + 1) = ((a + 1:Nat):Int) := by rw [wrap_ok (by omega) (by omega)]; omega
 rw [hv] at h2
 have pk := peek_cons hd 0 RS
 rw [hv] at pk
 have hl := poolB_len hp
 show RB T a kn xs (impl_reader_read_body N0 (impl_reader_read N0 i1) (T,(a:Int),(0:Int),RS,false,false,kn,xs)) (spec_l10Run_body N0 (spec_l10Run N0 i2) (xs,kn,T,(a:Int)))
 unfold impl_reader_read_body spec_l10Run_body
 simp only [z0,hz,pk,h2,hin,w1,kne1,kne2,kne3,kne4,kne5,kne6,one8,Option.bind_some,Int.reduceBEq,Int.reduceBNe,Bool.or_true,Bool.or_false,Bool.true_or,Bool.false_or,Bool.or_self,cond_true,cond_false]
 rcases ih (a + 1) xs hn h1 hp hk with ⟨b,m,p,q1,q2,q3,q4,q5,q6,q7,q8⟩ | ⟨b,c2,m1,m2,q0,q1,q2,q3⟩
 ·rw [q1,q2]
  have hib := hasB_inb q6
  simp only [z0,hib,impl_RecipeRun_2,one8,Int.reduceBEq,Bool.or_false,Bool.false_or,Bool.true_or,Bool.or_true,Bool.or_self,cond_false,impl_reader_opened,impl_reader_opened_R1,spec_l10Apply,show inb (0:Int) ([p]:List Int).length = true from rfl,show ([p]:List Int).getD (0:Int).toNat 0 = p from rfl,Option.bind_some,cond_true]
  cases hq:((m.getD p.toNat zN3).1 == (2:Int)) with
  | false =>
   simp only [hq,impl_reader_fail,Option.bind_some,beq_self_eq_true,show decide ((-1:Int) < 0) = true from rfl,cond_true,cond_false]
   exact .inr ⟨b,7,_,_,by decide,q4,rfl,rfl⟩
  | true =>
   have hk2:(m.getD p.toNat zN3).1 = 2 := by simpa using hq
   obtain ⟨o1,o2⟩ := opened_in q5 q6 (by rw [hk2]; decide)
   simp only [hq,Option.bind_some,cond_true,cond_false,(show decide ((m.getD p.toNat zN3).2.1 < (0:Int)) = false from decide_eq_false (by have := hasB_iff2.1 o1; omega))]
   refine .inl ⟨b,m,_,rfl,rfl,by omega,q4,q5,o1,q7, .left q6 hk2 q8⟩
 ·rw [q2,q3]
  simp only [Option.bind_some,show (c2 != 0) = true from by rw [bne_iff_ne]; exact q0,cond_true]
  exact .inr ⟨b,c2,_,_,q0,q1,rfl,rfl⟩
theorem rread_62 (hT:T.size ≤ 100000) (hd:(bs T).drop a = c :: r) (hp:poolB xs = true) (hk:KnB kn xs) (hv:(c.toNat:Int) = 62) (hi:0 < i1) (ih:∀ (a:Nat) (xs:List Node3),T.size - a ≤ n → a ≤ T.size → poolB xs = true → KnB kn xs → RB T a kn xs (impl_reader_read N0 i1 (T,(a:Int),(0:Int),RS,false,false,kn,xs)) (spec_l10Run N0 i2 (xs,kn,T,(a:Int)))) (hn:T.size - (a + 1) ≤ n):RB T a kn xs (impl_reader_read N0 (i1 + 1) (T,(a:Int),(0:Int),RS,false,false,kn,xs)) (spec_l10Run N0 (i2 + 1) (xs,kn,T,(a:Int))) := by
 obtain ⟨h1,h2,h3⟩ := drop_cons hd
 have z0:((0:Int) != 0) = false := rfl
 have hz:decide ((a:Int) ≥ (T.size:Int)) = false := decide_eq_false (by omega)
 have hin := inb_nat h1
 have w1:IntKind.i64.wrap ((a:Int) + 1) = ((a + 1:Nat):Int) := by rw [wrap_ok (by omega) (by omega)]; omega
 rw [hv] at h2
 have pk := peek_cons hd 0 RS
 rw [hv] at pk
 have hl := poolB_len hp
 show RB T a kn xs (impl_reader_read_body N0 (impl_reader_read N0 i1) (T,(a:Int),(0:Int),RS,false,false,kn,xs)) (spec_l10Run_body N0 (spec_l10Run N0 i2) (xs,kn,T,(a:Int)))
 unfold impl_reader_read_body spec_l10Run_body
 simp only [z0,hz,pk,h2,hin,w1,kne1,kne2,kne3,kne4,kne5,kne6,one8,Option.bind_some,Int.reduceBEq,Int.reduceBNe,Bool.or_true,Bool.or_false,Bool.true_or,Bool.false_or,Bool.or_self,cond_true,cond_false]
 rcases ih (a + 1) xs hn h1 hp hk with ⟨b,m,p,q1,q2,q3,q4,q5,q6,q7,q8⟩ | ⟨b,c2,m1,m2,q0,q1,q2,q3⟩
 ·rw [q1,q2]
  have hib := hasB_inb q6
  simp only [z0,hib,impl_RecipeRun_2,one8,Int.reduceBEq,Bool.or_false,Bool.false_or,Bool.true_or,Bool.or_true,Bool.or_self,cond_false,impl_reader_opened,impl_reader_opened_R1,spec_l10Apply,show inb (0:Int) ([p]:List Int).length = true from rfl,show ([p]:List Int).getD (0:Int).toNat 0 = p from rfl,Option.bind_some,cond_true]
  cases hq:((m.getD p.toNat zN3).1 == (2:Int)) with
  | false =>
   simp only [hq,impl_reader_fail,Option.bind_some,beq_self_eq_true,show decide ((-1:Int) < 0) = true from rfl,cond_true,cond_false]
   exact .inr ⟨b,7,_,_,by decide,q4,rfl,rfl⟩
  | true =>
   have hk2:(m.getD p.toNat zN3).1 = 2 := by simpa using hq
   obtain ⟨o1,o2⟩ := opened_in q5 q6 (by rw [hk2]; decide)
   simp only [hq,Option.bind_some,cond_true,cond_false,(show decide ((m.getD p.toNat zN3).2.2 < (0:Int)) = false from decide_eq_false (by have := hasB_iff2.1 o2; omega))]
   refine .inl ⟨b,m,_,rfl,rfl,by omega,q4,q5,o2,q7, .right q6 hk2 q8⟩
 ·rw [q2,q3]
  simp only [Option.bind_some,show (c2 != 0) = true from by rw [bne_iff_ne]; exact q0,cond_true]
  exact .inr ⟨b,c2,_,_,q0,q1,rfl,rfl⟩
theorem rread_33 (hT:T.size ≤ 100000) (hd:(bs T).drop a = c :: r) (hp:poolB xs = true) (hk:KnB kn xs) (hv:(c.toNat:Int) = 33) (hi:0 < i1) (ih:∀ (a:Nat) (xs:List Node3),T.size - a ≤ n → a ≤ T.size → poolB xs = true → KnB kn xs → RB T a kn xs (impl_reader_read N0 i1 (T,(a:Int),(0:Int),RS,false,false,kn,xs)) (spec_l10Run N0 i2 (xs,kn,T,(a:Int)))) (hn:T.size - (a + 1) ≤ n):RB T a kn xs (impl_reader_read N0 (i1 + 1) (T,(a:Int),(0:Int),RS,false,false,kn,xs)) (spec_l10Run N0 (i2 + 1) (xs,kn,T,(a:Int))) := by
 obtain ⟨h1,h2,h3⟩ := drop_cons hd
 have z0:((0:Int) != 0) = false := rfl
 have hz:decide ((a:Int) ≥ (T.size:Int)) = false := decide_eq_false (by omega)
 have hin := inb_nat h1
 have w1:IntKind.i64.wrap ((a:Int) + 1) = ((a + 1:Nat):Int) := by rw [wrap_ok (by omega) (by omega)]; omega
 rw [hv] at h2
 have pk := peek_cons hd 0 RS
 rw [hv] at pk
 have hl := poolB_len hp
 show RB T a kn xs (impl_reader_read_body N0 (impl_reader_read N0 i1) (T,(a:Int),(0:Int),RS,false,false,kn,xs)) (spec_l10Run_body N0 (spec_l10Run N0 i2) (xs,kn,T,(a:Int)))
 unfold impl_reader_read_body spec_l10Run_body
 simp only [z0,hz,pk,h2,hin,w1,kne1,kne2,kne3,kne4,kne5,kne6,one8,Option.bind_some,Int.reduceBEq,Int.reduceBNe,Bool.or_true,Bool.or_false,Bool.true_or,Bool.false_or,Bool.or_self,cond_true,cond_false]
 rcases ih (a + 1) xs hn h1 hp hk with ⟨b,m,p,q1,q2,q3,q4,q5,q6,q7,q8⟩ | ⟨b,c2,m1,m2,q0,q1,q2,q3⟩
 ·rw [q1,q2]
  have hib := hasB_inb q6
  simp only [z0,hib,impl_RecipeRun_2,one8,Int.reduceBEq,Bool.or_false,Bool.false_or,Bool.true_or,Bool.or_true,Bool.or_self,cond_false,impl_reader_opened,impl_reader_opened_R1,spec_l10Apply,show inb (0:Int) ([p]:List Int).length = true from rfl,show ([p]:List Int).getD (0:Int).toNat 0 = p from rfl,Option.bind_some,cond_true]
  cases hq:((m.getD p.toNat zN3).1 == (4:Int)) with
  | false =>
   simp only [hq,impl_reader_fail,Option.bind_some,beq_self_eq_true,show decide ((-1:Int) < 0) = true from rfl,cond_true,cond_false]
   exact .inr ⟨b,7,_,_,by decide,q4,rfl,rfl⟩
  | true =>
   have hk2:(m.getD p.toNat zN3).1 = 4 := by simpa using hq
   obtain ⟨o1,o2⟩ := opened_in q5 q6 (by rw [hk2]; decide)
   simp only [hq,Option.bind_some,cond_true,cond_false,(show decide ((m.getD p.toNat zN3).2.1 < (0:Int)) = false from decide_eq_false (by have := hasB_iff2.1 o1; omega))]
   refine .inl ⟨b,m,_,rfl,rfl,by omega,q4,q5,o1,q7, .sign q6 hk2 q8⟩
 ·rw [q2,q3]
  simp only [Option.bind_some,show (c2 != 0) = true from by rw [bne_iff_ne]; exact q0,cond_true]
  exact .inr ⟨b,c2,_,_,q0,q1,rfl,rfl⟩
theorem rread_107 (hT:T.size ≤ 100000) (hd:(bs T).drop a = c :: r) (hp:poolB xs = true) (hk:KnB kn xs) (hv:(c.toNat:Int) = 107) (hi:0 < i1) (ih:∀ (a:Nat) (xs:List Node3),T.size - a ≤ n → a ≤ T.size → poolB xs = true → KnB kn xs → RB T a kn xs (impl_reader_read N0 i1 (T,(a:Int),(0:Int),RS,false,false,kn,xs)) (spec_l10Run N0 i2 (xs,kn,T,(a:Int)))) (hn:T.size - (a + 1) ≤ n):RB T a kn xs (impl_reader_read N0 (i1 + 1) (T,(a:Int),(0:Int),RS,false,false,kn,xs)) (spec_l10Run N0 (i2 + 1) (xs,kn,T,(a:Int))) := by
 obtain ⟨h1,h2,h3⟩ := drop_cons hd
 have z0:((0:Int) != 0) = false := rfl
 have hz:decide ((a:Int) ≥ (T.size:Int)) = false := decide_eq_false (by omega)
 have hin := inb_nat h1
 have w1:IntKind.i64.wrap ((a:Int) + 1) = ((a + 1:Nat):Int) := by rw [wrap_ok (by omega) (by omega)]; omega
 rw [hv] at h2
 have pk := peek_cons hd 0 RS
 rw [hv] at pk
 have hl := poolB_len hp
 show RB T a kn xs (impl_reader_read_body N0 (impl_reader_read N0 i1) (T,(a:Int),(0:Int),RS,false,false,kn,xs)) (spec_l10Run_body N0 (spec_l10Run N0 i2) (xs,kn,T,(a:Int)))
 unfold impl_reader_read_body spec_l10Run_body
 have hkd:spec_l4Kind N0 (T,(a:Int)) = some ((6:Int),(2:Int),(41:Int)) := by
  unfold spec_l4Kind
  simp only [hin,h2,Int.reduceBEq,cond_true,cond_false]
 have hko:impl_kindOf N0 (107:Int) = some (6:Int) := rfl
 simp only [z0,hz,pk,h2,hin,w1,kne1,kne2,kne3,kne4,kne5,kne6,one8,Option.bind_some,Int.reduceBEq,Int.reduceBNe,Bool.or_true,Bool.or_false,Bool.true_or,Bool.false_or,Bool.or_self,cond_true,cond_false,hkd,show decide ((6:Int) > 0) = true from rfl,show decide ((41:Int) > 0) = true from rfl,show ((2:Int) == 2) = true from rfl]
 rcases want_same hT (a := a + 1) h1 RS 40 with ⟨t1,t2,t3,t4⟩ | ⟨b0,c0,t0,t1,t2,t3⟩
 ·rw [t1]
  simp only [Option.bind_some]
  rw [two_open2 t2]
  rcases rread_two hT hi ih 41 (a := a + 2) (by omega) t3 hp hk with ⟨b,m,p,q,q1,q2,q3,q4,q5,q6,q6',q7,q8,q9⟩ | ⟨b,c2,m1,ps,m2,x,y,q0,q1,q2,q3⟩
  ·rw [q1,q2]
   simp only [z0,impl_RecipeRun_2,one8,Int.reduceBEq,Bool.or_false,Bool.or_self,cond_false,impl_reader_added,impl_reader_added_R4,show decide ((([p,q]:List Int).length:Int) > (1:Int)) = true from rfl,show inb (1:Int) ([p,q]:List Int).length = true from rfl,show inb (0:Int) ([p,q]:List Int).length = true from rfl,hko,implAdd_eq (poolB_len q5),specAdd_eq q5,show ([p,q]:List Int).getD (1:Int).toNat 0 = q from rfl,show ([p,q]:List Int).getD (0:Int).toNat 0 = p from rfl,Option.bind_some,cond_true,impl_reader_orFull]
   cases hA:addP m 6 p q with
   | none =>
    simp only [outI,impl_reader_fail,Option.bind_some,beq_self_eq_true,show decide ((-1:Int) < 0) = true from rfl,cond_true]
    exact .inr ⟨b,5,_,_,by decide,q4,rfl,rfl⟩
   | some s =>
    obtain ⟨ys,t⟩ := s
    obtain ⟨g1,g2,g3,⟨z,g4⟩,g5⟩ := addP_facts q5 hA
    rw [show outI m (some (ys,t)) = (ys,t) from rfl]
    dsimp only
    simp only [(show decide (t < (0:Int)) = false from decide_eq_false (by omega)),Option.bind_some,cond_false]
    obtain ⟨z',q7'⟩ := q7
    refine .inl ⟨b,ys,t,rfl,rfl,by omega,q4,g1,hasB_iff2.2 ⟨g2,by omega⟩,⟨z' ++ z,by rw [g4,q7',List.append_assoc]⟩, ?_⟩
    have hne:norm 6 p q = (6,(p,q)) := rfl
    rw [hne] at g5
    exact .two (hasB_iff2.2 ⟨g2,by omega⟩) (by rw [g5]; simp only [Int.reduceEq,or_false,or_true,true_or,false_or]) (by rw [g5,g4]; exact q8.mono _) (by rw [g5,g4]; exact q9.mono _)
  ·rw [q2,q3]
   simp only [Option.bind_some,show (c2 != 0) = true from by rw [bne_iff_ne]; exact q0,cond_true]
   exact .inr ⟨b,c2,_,_,q0,q1,rfl,rfl⟩
 ·rw [t2]
  simp only [Option.bind_some]
  rw [two_shut2 t3 t0,rtwo_bad t0 kn xs hi]
  simp only [Option.bind_some,show (c0 != 0) = true from by rw [bne_iff_ne]; exact t0,cond_true]
  exact .inr ⟨b0,c0,_,_,t0,t1,rfl,rfl⟩
theorem rread_42 (hT:T.size ≤ 100000) (hd:(bs T).drop a = c :: r) (hp:poolB xs = true) (hk:KnB kn xs) (hv:(c.toNat:Int) = 42) (hi:0 < i1) (ih:∀ (a:Nat) (xs:List Node3),T.size - a ≤ n → a ≤ T.size → poolB xs = true → KnB kn xs → RB T a kn xs (impl_reader_read N0 i1 (T,(a:Int),(0:Int),RS,false,false,kn,xs)) (spec_l10Run N0 i2 (xs,kn,T,(a:Int)))) (hn:T.size - (a + 1) ≤ n):RB T a kn xs (impl_reader_read N0 (i1 + 1) (T,(a:Int),(0:Int),RS,false,false,kn,xs)) (spec_l10Run N0 (i2 + 1) (xs,kn,T,(a:Int))) := by
 obtain ⟨h1,h2,h3⟩ := drop_cons hd
 have z0:((0:Int) != 0) = false := rfl
 have hz:decide ((a:Int) ≥ (T.size:Int)) = false := decide_eq_false (by omega)
 have hin := inb_nat h1
 have w1:IntKind.i64.wrap ((a:Int) + 1) = ((a + 1:Nat):Int) := by rw [wrap_ok (by omega) (by omega)]; omega
 rw [hv] at h2
 have pk := peek_cons hd 0 RS
 rw [hv] at pk
 have hl := poolB_len hp
 show RB T a kn xs (impl_reader_read_body N0 (impl_reader_read N0 i1) (T,(a:Int),(0:Int),RS,false,false,kn,xs)) (spec_l10Run_body N0 (spec_l10Run N0 i2) (xs,kn,T,(a:Int)))
 unfold impl_reader_read_body spec_l10Run_body
 have hkd:spec_l4Kind N0 (T,(a:Int)) = some ((8:Int),(2:Int),(41:Int)) := by
  unfold spec_l4Kind
  simp only [hin,h2,Int.reduceBEq,cond_true,cond_false]
 have hko:impl_kindOf N0 (42:Int) = some (8:Int) := rfl
 simp only [z0,hz,pk,h2,hin,w1,kne1,kne2,kne3,kne4,kne5,kne6,one8,Option.bind_some,Int.reduceBEq,Int.reduceBNe,Bool.or_true,Bool.or_false,Bool.true_or,Bool.false_or,Bool.or_self,cond_true,cond_false,hkd,show decide ((8:Int) > 0) = true from rfl,show decide ((41:Int) > 0) = true from rfl,show ((2:Int) == 2) = true from rfl]
 rcases want_same hT (a := a + 1) h1 RS 40 with ⟨t1,t2,t3,t4⟩ | ⟨b0,c0,t0,t1,t2,t3⟩
 ·rw [t1]
  simp only [Option.bind_some]
  rw [two_open2 t2]
  rcases rread_two hT hi ih 41 (a := a + 2) (by omega) t3 hp hk with ⟨b,m,p,q,q1,q2,q3,q4,q5,q6,q6',q7,q8,q9⟩ | ⟨b,c2,m1,ps,m2,x,y,q0,q1,q2,q3⟩
  ·rw [q1,q2]
   simp only [z0,impl_RecipeRun_2,one8,Int.reduceBEq,Bool.or_false,Bool.or_self,cond_false,impl_reader_added,impl_reader_added_R4,show decide ((([p,q]:List Int).length:Int) > (1:Int)) = true from rfl,show inb (1:Int) ([p,q]:List Int).length = true from rfl,show inb (0:Int) ([p,q]:List Int).length = true from rfl,hko,implAdd_eq (poolB_len q5),specAdd_eq q5,show ([p,q]:List Int).getD (1:Int).toNat 0 = q from rfl,show ([p,q]:List Int).getD (0:Int).toNat 0 = p from rfl,Option.bind_some,cond_true,impl_reader_orFull]
   cases hA:addP m 8 p q with
   | none =>
    simp only [outI,impl_reader_fail,Option.bind_some,beq_self_eq_true,show decide ((-1:Int) < 0) = true from rfl,cond_true]
    exact .inr ⟨b,5,_,_,by decide,q4,rfl,rfl⟩
   | some s =>
    obtain ⟨ys,t⟩ := s
    obtain ⟨g1,g2,g3,⟨z,g4⟩,g5⟩ := addP_facts q5 hA
    rw [show outI m (some (ys,t)) = (ys,t) from rfl]
    dsimp only
    simp only [(show decide (t < (0:Int)) = false from decide_eq_false (by omega)),Option.bind_some,cond_false]
    obtain ⟨z',q7'⟩ := q7
    refine .inl ⟨b,ys,t,rfl,rfl,by omega,q4,g1,hasB_iff2.2 ⟨g2,by omega⟩,⟨z' ++ z,by rw [g4,q7',List.append_assoc]⟩, ?_⟩
    exact drv_shared (hasB_iff2.2 ⟨g2,by omega⟩) g5 (by rw [g4]; exact q8.mono _) (by rw [g4]; exact q9.mono _)
  ·rw [q2,q3]
   simp only [Option.bind_some,show (c2 != 0) = true from by rw [bne_iff_ne]; exact q0,cond_true]
   exact .inr ⟨b,c2,_,_,q0,q1,rfl,rfl⟩
 ·rw [t2]
  simp only [Option.bind_some]
  rw [two_shut2 t3 t0,rtwo_bad t0 kn xs hi]
  simp only [Option.bind_some,show (c0 != 0) = true from by rw [bne_iff_ne]; exact t0,cond_true]
  exact .inr ⟨b0,c0,_,_,t0,t1,rfl,rfl⟩
theorem rread_111 (hT:T.size ≤ 100000) (hd:(bs T).drop a = c :: r) (hp:poolB xs = true) (hk:KnB kn xs) (hv:(c.toNat:Int) = 111) (hi:0 < i1) (ih:∀ (a:Nat) (xs:List Node3),T.size - a ≤ n → a ≤ T.size → poolB xs = true → KnB kn xs → RB T a kn xs (impl_reader_read N0 i1 (T,(a:Int),(0:Int),RS,false,false,kn,xs)) (spec_l10Run N0 i2 (xs,kn,T,(a:Int)))) (hn:T.size - (a + 1) ≤ n):RB T a kn xs (impl_reader_read N0 (i1 + 1) (T,(a:Int),(0:Int),RS,false,false,kn,xs)) (spec_l10Run N0 (i2 + 1) (xs,kn,T,(a:Int))) := by
 obtain ⟨h1,h2,h3⟩ := drop_cons hd
 have z0:((0:Int) != 0) = false := rfl
 have hz:decide ((a:Int) ≥ (T.size:Int)) = false := decide_eq_false (by omega)
 have hin := inb_nat h1
 have w1:IntKind.i64.wrap ((a:Int) + 1) = ((a + 1:Nat):Int) := by rw [wrap_ok (by omega) (by omega)]; omega
 rw [hv] at h2
 have pk := peek_cons hd 0 RS
 rw [hv] at pk
 have hl := poolB_len hp
 show RB T a kn xs (impl_reader_read_body N0 (impl_reader_read N0 i1) (T,(a:Int),(0:Int),RS,false,false,kn,xs)) (spec_l10Run_body N0 (spec_l10Run N0 i2) (xs,kn,T,(a:Int)))
 unfold impl_reader_read_body spec_l10Run_body
 simp only [z0,hz,pk,h2,hin,w1,kne1,kne2,kne3,kne4,kne5,kne6,one8,Option.bind_some,Int.reduceBEq,Int.reduceBNe,Bool.or_true,Bool.or_false,Bool.true_or,Bool.false_or,Bool.or_self,cond_true,cond_false]
 rcases want_same hT (a := a + 1) h1 RS 40 with ⟨t1,t2,t3,t4⟩ | ⟨b0,c0,t0,t1,t2,t3⟩
 ·rw [t1]
  simp only [Option.bind_some]
  rw [two_open2 t2]
  rcases rread_two hT hi ih 41 (a := a + 2) (by omega) t3 hp hk with ⟨b,m,p,q,q1,q2,q3,q4,q5,q6,q6',q7,q8,q9⟩ | ⟨b,c2,m1,ps,m2,x,y,q0,q1,q2,q3⟩
  ·rw [q1,q2]
   have hib := hasB_inb q6
   simp only [z0,hib,impl_RecipeRun_2,one8,Int.reduceBEq,Bool.or_false,Bool.false_or,Bool.true_or,Bool.or_true,Bool.or_self,cond_false,impl_reader_opened,impl_reader_opened_R1,spec_l10Both,spec_l10Both_R5,show inb (1:Int) ([p,q]:List Int).length = true from rfl,show inb (0:Int) ([p,q]:List Int).length = true from rfl,show ([p,q]:List Int).getD (1:Int).toNat 0 = q from rfl,show ([p,q]:List Int).getD (0:Int).toNat 0 = p from rfl,Option.bind_some,cond_true]
   cases hq:((m.getD p.toNat zN3).1 == (3:Int)) with
   | false =>
    have hq2:((m.getD p.toNat zN3).1 != (3:Int)) = true := by rw [bne,hq]; rfl
    simp only [hq,hq2,impl_reader_fail,Option.bind_some,beq_self_eq_true,cond_true,cond_false]
    exact .inr ⟨b,7,_,_,by decide,q4,rfl,rfl⟩
   | true =>
    have hk2:(m.getD p.toNat zN3).1 = 3 := by simpa using hq
    have hq2:((m.getD p.toNat zN3).1 != (3:Int)) = false := by rw [bne,hq]; rfl
    obtain ⟨o1,o2⟩ := opened_in q5 q6 (by rw [hk2]; decide)
    cases he:((m.getD p.toNat zN3).2.2 == q) with
    | false =>
     have he2:((m.getD p.toNat zN3).2.2 != q) = true := by rw [bne,he]; rfl
     simp only [hq,hq2,he,he2,impl_reader_fail,Option.bind_some,beq_self_eq_true,cond_true,cond_false]
     exact .inr ⟨b,7,_,_,by decide,q4,rfl,rfl⟩
    | true =>
     have he3:(m.getD p.toNat zN3).2.2 = q := by simpa using he
     have he2:((m.getD p.toNat zN3).2.2 != q) = false := by rw [bne,he]; rfl
     simp only [hq,hq2,he,he2,Option.bind_some,cond_true,cond_false]
     refine .inl ⟨b,m,_,rfl,rfl,by omega,q4,q5,o1,q7, .open_ q6 hk2 q8 (by rw [he3]; exact q9)⟩
  ·rw [q2,q3]
   simp only [Option.bind_some,show (c2 != 0) = true from by rw [bne_iff_ne]; exact q0,cond_true]
   exact .inr ⟨b,c2,_,_,q0,q1,rfl,rfl⟩
 ·rw [t2]
  simp only [Option.bind_some]
  rw [two_shut2 t3 t0,rtwo_bad t0 kn xs hi]
  simp only [Option.bind_some,show (c0 != 0) = true from by rw [bne_iff_ne]; exact t0,cond_true]
  exact .inr ⟨b0,c0,_,_,t0,t1,rfl,rfl⟩
theorem rread_120 (hT:T.size ≤ 100000) (hd:(bs T).drop a = c :: r) (hp:poolB xs = true) (hk:KnB kn xs) (hv:(c.toNat:Int) = 120) (hi:0 < i1) (ih:∀ (a:Nat) (xs:List Node3),T.size - a ≤ n → a ≤ T.size → poolB xs = true → KnB kn xs → RB T a kn xs (impl_reader_read N0 i1 (T,(a:Int),(0:Int),RS,false,false,kn,xs)) (spec_l10Run N0 i2 (xs,kn,T,(a:Int)))) (hn:T.size - (a + 1) ≤ n):RB T a kn xs (impl_reader_read N0 (i1 + 1) (T,(a:Int),(0:Int),RS,false,false,kn,xs)) (spec_l10Run N0 (i2 + 1) (xs,kn,T,(a:Int))) := by
 obtain ⟨h1,h2,h3⟩ := drop_cons hd
 have z0:((0:Int) != 0) = false := rfl
 have hz:decide ((a:Int) ≥ (T.size:Int)) = false := decide_eq_false (by omega)
 have hin := inb_nat h1
 have w1:IntKind.i64.wrap ((a:Int) + 1) = ((a + 1:Nat):Int) := by rw [wrap_ok (by omega) (by omega)]; omega
 rw [hv] at h2
 have pk := peek_cons hd 0 RS
 rw [hv] at pk
 have hl := poolB_len hp
 show RB T a kn xs (impl_reader_read_body N0 (impl_reader_read N0 i1) (T,(a:Int),(0:Int),RS,false,false,kn,xs)) (spec_l10Run_body N0 (spec_l10Run N0 i2) (xs,kn,T,(a:Int)))
 unfold impl_reader_read_body spec_l10Run_body
 simp only [z0,hz,pk,h2,hin,w1,kne1,kne2,kne3,kne4,kne5,kne6,one8,Option.bind_some,Int.reduceBEq,Int.reduceBNe,Bool.or_true,Bool.or_false,Bool.true_or,Bool.false_or,Bool.or_self,cond_true,cond_false]
 rcases want_same hT (a := a + 1) h1 RS 40 with ⟨t1,t2,t3,t4⟩ | ⟨b0,c0,t0,t1,t2,t3⟩
 ·rw [t1]
  simp only [Option.bind_some]
  rw [two_open2 t2]
  rcases rread_two hT hi ih 41 (a := a + 2) (by omega) t3 hp hk with ⟨b,m,p,q,q1,q2,q3,q4,q5,q6,q6',q7,q8,q9⟩ | ⟨b,c2,m1,ps,m2,x,y,q0,q1,q2,q3⟩
  ·rw [q1,q2]
   have hib := hasB_inb q6
   have hib' := hasB_inb q6'
   simp only [z0,hib,hib',impl_RecipeRun_2,one8,Int.reduceBEq,Bool.or_false,Bool.false_or,Bool.true_or,Bool.or_true,Bool.or_self,cond_false,impl_reader_opened,impl_reader_opened_R1,impl_reader_opened_R11,spec_l10Both,show inb (1:Int) ([p,q]:List Int).length = true from rfl,show inb (0:Int) ([p,q]:List Int).length = true from rfl,show ([p,q]:List Int).getD (1:Int).toNat 0 = q from rfl,show ([p,q]:List Int).getD (0:Int).toNat 0 = p from rfl,implRaise_eq (poolB_len q5),specRaise_eq q5,Option.bind_some,cond_true]
   cases hq:((m.getD q.toNat zN3).1 == (7:Int)) with
   | false =>
    have hq2:((m.getD q.toNat zN3).1 != (7:Int)) = true := by rw [bne,hq]; rfl
    simp only [hq,hq2,impl_reader_fail,Option.bind_some,beq_self_eq_true,cond_true,cond_false]
    exact .inr ⟨b,7,_,_,by decide,q4,rfl,rfl⟩
   | true =>
    have hk2:(m.getD q.toNat zN3).1 = 7 := by simpa using hq
    have hq2:((m.getD q.toNat zN3).1 != (7:Int)) = false := by rw [bne,hq]; rfl
    simp only [hq,hq2,Option.bind_some,cond_true,cond_false,impl_reader_orFull]
    cases hA:raiseP m q p with
    | none =>
     simp only [outI,impl_reader_fail,Option.bind_some,beq_self_eq_true,show decide ((-1:Int) < 0) = true from rfl,cond_true]
     exact .inr ⟨b,5,_,_,by decide,q4,rfl,rfl⟩
    | some s =>
     obtain ⟨ys,t⟩ := s
     have hA2 := raiseP_add hA
     obtain ⟨g1,g2,g3,⟨z,g4⟩,g5⟩ := addP_facts q5 hA2
     rw [show outI m (some (ys,t)) = (ys,t) from rfl]
     dsimp only
     simp only [(show decide (t < (0:Int)) = false from decide_eq_false (by omega)),Option.bind_some,cond_false]
     obtain ⟨z',q7'⟩ := q7
     refine .inl ⟨b,ys,t,rfl,rfl,by omega,q4,g1,hasB_iff2.2 ⟨g2,by omega⟩,⟨z' ++ z,by rw [g4,q7',List.append_assoc]⟩, ?_⟩
     exact drv_raise q5 (hasB_iff2.2 ⟨g2,by omega⟩) g5 g4 hk2 q6' q8 q9
  ·rw [q2,q3]
   simp only [Option.bind_some,show (c2 != 0) = true from by rw [bne_iff_ne]; exact q0,cond_true]
   exact .inr ⟨b,c2,_,_,q0,q1,rfl,rfl⟩
 ·rw [t2]
  simp only [Option.bind_some]
  rw [two_shut2 t3 t0,rtwo_bad t0 kn xs hi]
  simp only [Option.bind_some,show (c0 != 0) = true from by rw [bne_iff_ne]; exact t0,cond_true]
  exact .inr ⟨b0,c0,_,_,t0,t1,rfl,rfl⟩
theorem rread_else (hT:T.size ≤ 100000) (hd:(bs T).drop a = c :: r) (hp:poolB xs = true) (hk:KnB kn xs) (k110:(c.toNat:Int) ≠ 110) (k64:(c.toNat:Int) ≠ 64) (k40:(c.toNat:Int) ≠ 40) (k123:(c.toNat:Int) ≠ 123) (k91:(c.toNat:Int) ≠ 91) (k35:(c.toNat:Int) ≠ 35) (k94:(c.toNat:Int) ≠ 94) (k60:(c.toNat:Int) ≠ 60) (k62:(c.toNat:Int) ≠ 62) (k33:(c.toNat:Int) ≠ 33) (k107:(c.toNat:Int) ≠ 107) (k42:(c.toNat:Int) ≠ 42) (k111:(c.toNat:Int) ≠ 111) (k120:(c.toNat:Int) ≠ 120):RB T a kn xs (impl_reader_read N0 (i1 + 1) (T,(a:Int),(0:Int),RS,false,false,kn,xs)) (spec_l10Run N0 (i2 + 1) (xs,kn,T,(a:Int))) := by
 obtain ⟨h1,h2,h3⟩ := drop_cons hd
 have z0:((0:Int) != 0) = false := rfl
 have hz:decide ((a:Int) ≥ (T.size:Int)) = false := decide_eq_false (by omega)
 have hin := inb_nat h1
 have w1:IntKind.i64.wrap ((a:Int) + 1) = ((a + 1:Nat):Int) := by rw [wrap_ok (by omega) (by omega)]; omega
 have pk := peek_cons hd 0 RS
 have hl := poolB_len hp
 show RB T a kn xs (impl_reader_read_body N0 (impl_reader_read N0 i1) (T,(a:Int),(0:Int),RS,false,false,kn,xs)) (spec_l10Run_body N0 (spec_l10Run N0 i2) (xs,kn,T,(a:Int)))
 unfold impl_reader_read_body spec_l10Run_body
 have e110:((110:Int) == (c.toNat:Int)) = false := by rw [beq_eq_false_iff_ne]; omega
 have f110:((c.toNat:Int) == (110:Int)) = false := by rw [beq_eq_false_iff_ne]; omega
 have e64:((64:Int) == (c.toNat:Int)) = false := by rw [beq_eq_false_iff_ne]; omega
 have f64:((c.toNat:Int) == (64:Int)) = false := by rw [beq_eq_false_iff_ne]; omega
 have e40:((40:Int) == (c.toNat:Int)) = false := by rw [beq_eq_false_iff_ne]; omega
 have f40:((c.toNat:Int) == (40:Int)) = false := by rw [beq_eq_false_iff_ne]; omega
 have e123:((123:Int) == (c.toNat:Int)) = false := by rw [beq_eq_false_iff_ne]; omega
 have f123:((c.toNat:Int) == (123:Int)) = false := by rw [beq_eq_false_iff_ne]; omega
 have e91:((91:Int) == (c.toNat:Int)) = false := by rw [beq_eq_false_iff_ne]; omega
 have f91:((c.toNat:Int) == (91:Int)) = false := by rw [beq_eq_false_iff_ne]; omega
 have e35:((35:Int) == (c.toNat:Int)) = false := by rw [beq_eq_false_iff_ne]; omega
 have f35:((c.toNat:Int) == (35:Int)) = false := by rw [beq_eq_false_iff_ne]; omega
 have e94:((94:Int) == (c.toNat:Int)) = false := by rw [beq_eq_false_iff_ne]; omega
 have f94:((c.toNat:Int) == (94:Int)) = false := by rw [beq_eq_false_iff_ne]; omega
 have e60:((60:Int) == (c.toNat:Int)) = false := by rw [beq_eq_false_iff_ne]; omega
 have f60:((c.toNat:Int) == (60:Int)) = false := by rw [beq_eq_false_iff_ne]; omega
 have e62:((62:Int) == (c.toNat:Int)) = false := by rw [beq_eq_false_iff_ne]; omega
 have f62:((c.toNat:Int) == (62:Int)) = false := by rw [beq_eq_false_iff_ne]; omega
 have e33:((33:Int) == (c.toNat:Int)) = false := by rw [beq_eq_false_iff_ne]; omega
 have f33:((c.toNat:Int) == (33:Int)) = false := by rw [beq_eq_false_iff_ne]; omega
 have e107:((107:Int) == (c.toNat:Int)) = false := by rw [beq_eq_false_iff_ne]; omega
 have f107:((c.toNat:Int) == (107:Int)) = false := by rw [beq_eq_false_iff_ne]; omega
 have e42:((42:Int) == (c.toNat:Int)) = false := by rw [beq_eq_false_iff_ne]; omega
 have f42:((c.toNat:Int) == (42:Int)) = false := by rw [beq_eq_false_iff_ne]; omega
 have e111:((111:Int) == (c.toNat:Int)) = false := by rw [beq_eq_false_iff_ne]; omega
 have f111:((c.toNat:Int) == (111:Int)) = false := by rw [beq_eq_false_iff_ne]; omega
 have e120:((120:Int) == (c.toNat:Int)) = false := by rw [beq_eq_false_iff_ne]; omega
 have f120:((c.toNat:Int) == (120:Int)) = false := by rw [beq_eq_false_iff_ne]; omega
 have hkd:spec_l4Kind N0 (T,(a:Int)) = some ((0:Int),(0:Int),(0:Int)) := by
  unfold spec_l4Kind
  simp only [hin,h2,e110,f110,e64,f64,e40,f40,e123,f123,e91,f91,e35,f35,e94,f94,e60,f60,e62,f62,e33,f33,e107,f107,e42,f42,e111,f111,e120,f120,cond_true,cond_false]
 refine .inr ⟨a,3,xs,xs,by decide,by omega, ?_, ?_⟩
 ·dsimp only
  simp only [z0,hz,pk,kne1,kne2,kne3,kne4,kne5,kne6,one8,e110,f110,e64,f64,e40,f40,e123,f123,e91,f91,e35,f35,e94,f94,e60,f60,e62,f62,e33,f33,e107,f107,e42,f42,e111,f111,e120,f120,Option.bind_some,Bool.or_false,Bool.or_self,cond_false,impl_reader_fail,beq_self_eq_true,cond_true]
  cases ((36:Int) == (c.toNat:Int)) <;> cases ((63:Int) == (c.toNat:Int)) <;> rfl
 ·dsimp only
  simp only [hz,hin,h2,e110,f110,e64,f64,e40,f40,e123,f123,e91,f91,e35,f35,e94,f94,e60,f60,e62,f62,e33,f33,e107,f107,e42,f42,e111,f111,e120,f120,hkd,Option.bind_some,Int.reduceBEq,beq_self_eq_true,cond_true,cond_false,show decide ((0:Int) > 0) = false from rfl]
  try rfl
end
theorem rread_both {T:ByteArray} (hT:T.size ≤ 100000) {kn:List Int}:∀ (n a:Nat) (xs:List Node3) (j1 j2:Nat),T.size - a ≤ n → n < j1 → n < j2 → a ≤ T.size → poolB xs = true → KnB kn xs → RB T a kn xs (impl_reader_read N0 j1 (T,(a:Int),(0:Int),RS,false,false,kn,xs)) (spec_l10Run N0 j2 (xs,kn,T,(a:Int)))
 | 0,a,xs,j1,j2,hn,h1,h2,ha,hp,hk => rread_nil (List.drop_eq_nil_of_le (by rw [bs_len]; omega)) kn xs h1 h2
 | n + 1,a,xs,j1,j2,hn,h1,h2,ha,hp,hk => by
  obtain ⟨i1,rfl⟩:∃ i,j1 = i + 1 := ⟨j1 - 1,by omega⟩
  obtain ⟨i2,rfl⟩:∃ i,j2 = i + 1 := ⟨j2 - 1,by omega⟩
  cases hd:(bs T).drop a with
  | nil => exact rread_nil hd kn xs (by omega) (by omega)
  | cons c r =>
   have hs := (drop_cons hd).1
   have ih:∀ (a:Nat) (xs:List Node3),T.size - a ≤ n → a ≤ T.size → poolB xs = true → KnB kn xs → RB T a kn xs (impl_reader_read N0 i1 (T,(a:Int),(0:Int),RS,false,false,kn,xs)) (spec_l10Run N0 i2 (xs,kn,T,(a:Int))) := fun a xs q1 q2 q3 q4 => rread_both hT n a xs i1 i2 q1 (by omega) (by omega) q2 q3 q4
   have hi:0 < i1 := by omega
   have hn':T.size - (a + 1) ≤ n := by omega
   by_cases h110:(c.toNat:Int) = 110
   ·exact rread_110 hT hd hp hk h110
   by_cases h64:(c.toNat:Int) = 64
   ·exact rread_64 hT hd hp hk h64
   by_cases h40:(c.toNat:Int) = 40
   ·exact rread_40 hT hd hp hk h40 hi ih hn'
   by_cases h123:(c.toNat:Int) = 123
   ·exact rread_123 hT hd hp hk h123 hi ih hn'
   by_cases h91:(c.toNat:Int) = 91
   ·exact rread_91 hT hd hp hk h91 hi ih hn'
   by_cases h35:(c.toNat:Int) = 35
   ·exact rread_35 hT hd hp hk h35 hi ih hn'
   by_cases h94:(c.toNat:Int) = 94
   ·exact rread_94 hT hd hp hk h94 hi ih hn'
   by_cases h60:(c.toNat:Int) = 60
   ·exact rread_60 hT hd hp hk h60 hi ih hn'
   by_cases h62:(c.toNat:Int) = 62
   ·exact rread_62 hT hd hp hk h62 hi ih hn'
   by_cases h33:(c.toNat:Int) = 33
   ·exact rread_33 hT hd hp hk h33 hi ih hn'
   by_cases h107:(c.toNat:Int) = 107
   ·exact rread_107 hT hd hp hk h107 hi ih hn'
   by_cases h42:(c.toNat:Int) = 42
   ·exact rread_42 hT hd hp hk h42 hi ih hn'
   by_cases h111:(c.toNat:Int) = 111
   ·exact rread_111 hT hd hp hk h111 hi ih hn'
   by_cases h120:(c.toNat:Int) = 120
   ·exact rread_120 hT hd hp hk h120 hi ih hn'
   exact rread_else hT hd hp hk h110 h64 h40 h123 h91 h35 h94 h60 h62 h33 h107 h42 h111 h120
def knowV (xs:List Node3) (k:List Int):Bool := allN (knowAt xs k) 0 k.length && (decide (k.length ≤ 200) && (decide (xs.length ≤ 500) && okFrom N0 [] xs))
theorem knowV_iff {xs:List Node3} {k:List Int}:knowV xs k = true ↔ (allN (knowAt xs k) 0 k.length = true ∧ k.length ≤ 200 ∧ poolB xs = true) := by
 unfold knowV poolB
 rw [Bool.and_eq_true,Bool.and_eq_true,decide_eq_true_iff]
theorem knowV_pool {xs:List Node3} {k:List Int} (h:knowV xs k = true):poolB xs = true := (knowV_iff.1 h).2.2
theorem knowV_all {xs:List Node3} {k:List Int} (h:knowV xs k = true) (u:Nat) (hu:u < k.length):knowAt xs k u = true := allN_iff.1 (knowV_iff.1 h).1 u (Nat.zero_le _) (by omega)
theorem knowV_kn {xs:List Node3} {k:List Int} (h:knowV xs k = true):KnB k xs := by
 refine ⟨by have := (knowV_iff.1 h).2.1; omega,fun u hu => ?_⟩
 have := knowV_all h u hu
 unfold knowAt at this
 exact (Bool.and_eq_true _ _ ▸ this).1
theorem read_all {T:ByteArray} (hT:T.size ≤ 2000) {kn:List Int} {xs:List Node3} (hp:poolB xs = true) (hk:KnB kn xs) :
  (∃ ys t,impl_reader_all N0 (T,(0:Int),(0:Int),RS,false,false,(2000:Int),kn,xs) = some (T,(T.size:Int),(0:Int),RS,false,false,kn,ys,t) ∧ spec_l10Run N0 N0 (xs,kn,T,(0:Int)) = some (ys,t,(T.size:Int),(0:Int)) ∧ poolB ys = true ∧ hasB ys t = true ∧ (∃ zs,ys = xs ++ zs) ∧ Drv kn ys t) ∨
  (∃ (b:Nat) (c:Int) (m1 m2:List Node3) (x y c':Int),c ≠ 0 ∧ impl_reader_all N0 (T,(0:Int),(0:Int),RS,false,false,(2000:Int),kn,xs) = some (T,(b:Int),c,RS,false,false,kn,m1,x) ∧ spec_l10Run N0 N0 (xs,kn,T,(0:Int)) = some (m2,y,(b:Int),c') ∧ (c' = c ∨ (c' = 0 ∧ c = 6 ∧ b < T.size))) := by
 have hr := rread_both (T := T) (by omega) (kn := kn) T.size 0 xs N0 N0 (by omega) (by have := n0; omega) (by have := n0; omega) (Nat.zero_le _) hp hk
 have h2:decide ((T.size:Int) > (2000:Int)) = false := decide_eq_false (by omega)
 unfold impl_reader_all
 dsimp only
 rw [h2,cond_false]
 rcases hr with ⟨b,ys,t,r1,r2,r3,r4,r5,r6,r7,r8⟩ | ⟨b,c,m1,m2,r0,r1,r2,r3⟩
 ·have r1':impl_reader_read N0 N0 (T,(0:Int),(0:Int),RS,false,false,kn,xs) = _ := r1
  have r2':spec_l10Run N0 N0 (xs,kn,T,(0:Int)) = _ := r2
  rw [r1',r2']
  simp only [Option.bind_some,beq_self_eq_true,cond_true]
  by_cases hb:b < T.size
  ·right
   refine ⟨b,6,ys,ys, -1,t,0,by decide, ?_,rfl, .inr ⟨rfl,rfl,hb⟩⟩
   rw [decide_eq_true (show (b:Int) < (T.size:Int) by omega),cond_true]
   rfl
  ·left
   obtain rfl:b = T.size := by omega
   refine ⟨ys,t, ?_,rfl,r5,r6,r7,r8⟩
   rw [decide_eq_false (show ¬ (T.size:Int) < (T.size:Int) by omega),cond_false]
 ·have r2':impl_reader_read N0 N0 (T,(0:Int),(0:Int),RS,false,false,kn,xs) = _ := r2
  have r3':spec_l10Run N0 N0 (xs,kn,T,(0:Int)) = _ := r3
  rw [r2',r3']
  right
  refine ⟨b,c,m1,m2, -1, -1,c,r0, ?_,rfl, .inl rfl⟩
  simp only [Option.bind_some,show (c == 0) = false from by rw [beq_eq_false_iff_ne]; exact r0,cond_false]
theorem recipe_same {xs:List Node3} (hx:xs.length ≤ 4294967296) {kn:List Int} (hk:kn.length ≤ 4294967296) (T:ByteArray) :
  ∃ ys t b c,impl_RecipeRun N0 (xs,kn,T) = some (ys,t,b,c) ∧ spec_RecipeRun N0 (xs,kn,T) = some (ys,t,b,c) ∧ ys.length ≤ 4294967296 ∧
   (poolB xs = true → poolB ys = true ∧ (∃ zs,ys = xs ++ zs) ∧ (c ≠ 0 → ys = xs)) ∧ (c = 0 → knowV xs kn = true ∧ hasB ys t = true ∧ Drv kn ys t) ∧ (knowV xs kn = false → c ≠ 0) := by
 have kIx := implKnow_eq hx hk
 have kSx := specKnow_eq hx hk
 have pIx := implPool_eq N0 n0 hx
 have pSx := specPool_eq N0 n0 hx
 have cp := copy_eq hx
 have cs := copyS_eq hx
 change impl_KnowOk N0 (xs,kn) = some (knowV xs kn) at kIx
 change spec_KnowOk N0 (xs,kn) = some (knowV xs kn) at kSx
 change impl_PoolOk N0 xs = some (poolB xs) at pIx
 change spec_PoolOk N0 xs = some (poolB xs) at pSx
 have eIx:impl_orEmpty N0 xs = some (bif poolB xs then xs else []) := by
  unfold impl_orEmpty
  rw [pIx,Option.bind_some]
  cases poolB xs with
  | false => rfl
  | true => simp only [Bool.not_true,cond_false,cp,Option.bind_some,cond_true]
 by_cases hT:T.size ≤ 2000
 ·have h2:decide ((T.size:Int) > (2000:Int)) = false := decide_eq_false (by omega)
  cases hv:knowV xs kn with
  | false =>
   rw [hv] at kIx kSx
   refine ⟨bif poolB xs then xs else [], -1,0,5, ?_, ?_, ?_, ?_,(fun q => by cases q),(fun _ => by decide)⟩
   ·unfold impl_RecipeRun
    simp only [h2,cond_false,kIx,Option.bind_some,Bool.not_false,cond_true,eIx]
   ·unfold spec_RecipeRun
    simp only [pSx,Option.bind_some]
    cases poolB xs with
    | false => simp only [cond_false,h2,kSx,Option.bind_some,Bool.not_false,cond_true]
    | true => simp only [cond_true,cs,h2,cond_false,kSx,Option.bind_some,Bool.not_false]
   ·cases poolB xs with
    | false => exact Nat.zero_le _
    | true => exact hx
   ·intro q
    rw [q]
    exact ⟨q,⟨[],by simp⟩,fun _ => rfl⟩
  | true =>
   rw [hv] at kIx kSx
   have hp := knowV_pool hv
   rw [hp] at pIx pSx
   have hl := poolB_len hp
   rcases read_all hT hp (knowV_kn hv) with ⟨ys,t,r1,r2,r3,r4,r5,r6⟩ | ⟨b,c,m1,m2,x,y,c',r0,r1,r2,r3⟩
   ·have hl2 := poolB_len r3
    refine ⟨ys,t,T.size,0, ?_, ?_,by omega,fun _ => ⟨r3,r5,fun q => absurd rfl q⟩,fun _ => ⟨rfl,r4,r6⟩,fun q => by cases q⟩
    ·unfold impl_RecipeRun
     have r1':impl_reader_all N0 (T,(0:Int),(0:Int),(⟨#[64,60,62,33,111,120]⟩:ByteArray),false,false,(2000:Int),kn,xs) = _ := r1
     simp only [h2,cond_false,kIx,Option.bind_some,Bool.not_true,cp,r1',bne_self_eq_false]
    ·unfold spec_RecipeRun
     simp only [pSx,Option.bind_some,cond_true,cs,h2,cond_false,kSx,Bool.not_true,r2,bne_self_eq_false,decide_eq_false (show ¬ (T.size:Int) < (T.size:Int) by omega),copyS_eq (show ys.length ≤ 4294967296 by omega)]
   ·refine ⟨xs, -1,b,c, ?_, ?_,hx,fun q => ⟨q,⟨[],by simp⟩,fun _ => rfl⟩,fun q => absurd q r0,fun q => by cases q⟩
    ·unfold impl_RecipeRun
     have r1':impl_reader_all N0 (T,(0:Int),(0:Int),(⟨#[64,60,62,33,111,120]⟩:ByteArray),false,false,(2000:Int),kn,xs) = _ := r1
     simp only [h2,cond_false,kIx,Option.bind_some,Bool.not_true,cp,r1',show (c != 0) = true from by rw [bne_iff_ne]; exact r0,cond_true,impl_RecipeRun_R11]
    ·unfold spec_RecipeRun
     simp only [pSx,Option.bind_some,cond_true,cs,h2,cond_false,kSx,Bool.not_true,r2]
     rcases r3 with rfl | ⟨rfl,rfl,q⟩
     ·rw [show (c' != 0) = true from by rw [bne_iff_ne]; exact r0,cond_true]
     ·simp only [bne_self_eq_false,cond_false,decide_eq_true (show (b:Int) < (T.size:Int) by omega),cond_true]
 ·have h2:decide ((T.size:Int) > (2000:Int)) = true := decide_eq_true (by omega)
  refine ⟨bif poolB xs then xs else [], -1,0,1, ?_, ?_, ?_, ?_,(fun q => by cases q),(fun _ => by decide)⟩
  ·unfold impl_RecipeRun
   simp only [h2,cond_true,Option.bind_some,eIx]
  ·unfold spec_RecipeRun
   simp only [pSx,Option.bind_some]
   cases poolB xs with
   | false => simp only [cond_false,h2,cond_true]
   | true => simp only [cond_true,cs,h2,Option.bind_some]
  ·cases poolB xs with
   | false => exact Nat.zero_le _
   | true => exact hx
  ·intro q
   rw [q]
   exact ⟨q,⟨[],by simp⟩,fun _ => rfl⟩
section
variable {xs ys:List Node3} {c t:Int}
theorem nmI_some (hx:xs.length ≤ 500) (h:addP xs 1 c 0 = some (ys,t)):impl_Pool_name N0 (xs,c) = some (ys,t) := by rw [implName_eq hx,h]; rfl
theorem nmI_none (hx:xs.length ≤ 500) (h:addP xs 1 c 0 = none):impl_Pool_name N0 (xs,c) = some (xs, -1) := by rw [implName_eq hx,h]; rfl
theorem nmS_some (hp:poolB xs = true) (h:addP xs 1 c 0 = some (ys,t)):spec_l2Name N0 (xs,c) = some (ys,t) := by rw [specName_eq hp,h]; rfl
theorem nmS_none (hp:poolB xs = true) (h:addP xs 1 c 0 = none):spec_l2Name N0 (xs,c) = some (xs, -1) := by rw [specName_eq hp,h]; rfl
variable {k a b:Int}
theorem adI_some (hx:xs.length ≤ 500) (h:addP xs k a b = some (ys,t)):impl_Pool_add N0 (xs,k,a,b) = some (ys,t) := by rw [implAdd_eq hx,h]; rfl
theorem adI_none (hx:xs.length ≤ 500) (h:addP xs k a b = none):impl_Pool_add N0 (xs,k,a,b) = some (xs, -1) := by rw [implAdd_eq hx,h]; rfl
theorem adS_some (hp:poolB xs = true) (h:addP xs k a b = some (ys,t)):spec_l1Add N0 (xs,k,a,b) = some (ys,t) := by rw [specAdd_eq hp,h]; rfl
theorem adS_none (hp:poolB xs = true) (h:addP xs k a b = none):spec_l1Add N0 (xs,k,a,b) = some (xs, -1) := by rw [specAdd_eq hp,h]; rfl
theorem addP_bad (hp:poolB xs = true) (hk:k = 2 ∨ k = 3 ∨ k = 6) (h:a < 0 ∨ b < 0):addP xs k a b = none := by
 cases hA:addP xs k a b with
 | none => rfl
 | some p =>
  obtain ⟨ys,t⟩ := p
  obtain ⟨g1,g2,g3,g4,g5⟩ := addP_facts hp hA
  have hl := poolB_len g1
  have hn := poolB_nd g1 (j := t.toNat) (by omega)
  have hne:norm k a b = (k,(a,b)) := by
   unfold norm
   rw [show (k == 8) = false from by rw [beq_eq_false_iff_ne]; omega]; rfl
  have hz:ys.getD t.toNat zN3 = (k,(a,b)) := g5.trans hne
  rcases nodeV_kind2 (by omega) hn with ⟨q,_⟩ | ⟨q,_⟩ | ⟨_,q1,q2,q3,q4⟩
  ·rw [hz] at q; dsimp only at q; omega
  ·rw [hz] at q; dsimp only at q; omega
  ·rw [hz] at q1 q3; dsimp only at q1 q3; omega
end
theorem orEmpty_eq {xs:List Node3} (hp:poolB xs = true):impl_orEmpty N0 xs = some xs := by
 have hl := poolB_len hp
 have pIx := implPool_eq N0 n0 (xs := xs) (by omega)
 change impl_PoolOk N0 xs = some (poolB xs) at pIx
 unfold impl_orEmpty
 rw [pIx,hp,Option.bind_some,Bool.not_true,cond_false,copy_eq (by omega),Option.bind_some]
def sealP (xs:List Node3) (k s v:Int):Option (List Node3×Int) :=
 match addP xs 1 (20 + s) 0 with
 | none => none
 | some (m1,a) => match addP m1 2 a v with
  | none => none
  | some (m2,b) => addP m2 3 b k
theorem sealP_facts {xs ys:List Node3} {k s v t:Int} (hp:poolB xs = true) (h:sealP xs k s v = some (ys,t)):poolB ys = true ∧ hasB ys t = true ∧ ∃ zs,ys = xs ++ zs := by
 unfold sealP at h
 cases h1:addP xs 1 (20 + s) 0 with
 | none => rw [h1] at h; cases h
 | some p1 =>
  obtain ⟨m1,a⟩ := p1
  rw [h1] at h
  dsimp only at h
  obtain ⟨g1,g2,g3,⟨z1,g4⟩,g5⟩ := addP_facts hp h1
  cases h2:addP m1 2 a v with
  | none => rw [h2] at h; cases h
  | some p2 =>
   obtain ⟨m2,b⟩ := p2
   rw [h2] at h
   dsimp only at h
   obtain ⟨e1,e2,e3,⟨z2,e4⟩,e5⟩ := addP_facts g1 h2
   obtain ⟨f1,f2,f3,⟨z3,f4⟩,f5⟩ := addP_facts e1 h
   exact ⟨f1,hasB_iff2.2 ⟨f2,f3⟩,⟨z1 ++ (z2 ++ z3),by rw [f4,e4,g4]; simp⟩⟩
theorem seal_eq {xs:List Node3} {k t s v:Int} {d:Bool} (hp:poolB xs = true) (hs:0 ≤ s ∧ s ≤ 20) :
  (∃ ys u,sealP xs k s v = some (ys,u) ∧ impl_Link_seal N0 (k,t,s,d,xs,v) = some (k,t,s,d,ys,u) ∧ spec_l18Word N0 (xs,k,t,s,d,v) = some (ys,u) ∧ 0 ≤ u) ∨
  (∃ m,sealP xs k s v = none ∧ impl_Link_seal N0 (k,t,s,d,xs,v) = some (k,t,s,d,m, -1) ∧ spec_l18Word N0 (xs,k,t,s,d,v) = some (xs, -1)) := by
 have hl := poolB_len hp
 have w1:IntKind.i64.wrap ((20:Int) + s) = 20 + s := wrap_ok (by omega) (by omega)
 have hm1:decide ((-1:Int) < 0) = true := rfl
 unfold sealP impl_Link_seal impl_Link_seal_R1 spec_l18Word
 dsimp only
 rw [w1]
 cases h1:addP xs 1 (20 + s) 0 with
 | none =>
  right
  have b1 := addP_bad (xs := xs) (k := 2) (a := -1) (b := v) hp (by omega) (by omega)
  have b2 := addP_bad (xs := xs) (k := 3) (a := -1) (b := k) hp (by omega) (by omega)
  refine ⟨xs,rfl, ?_, ?_⟩
  ·simp only [nmI_none hl h1,adI_none hl b1,adI_none hl b2,Option.bind_some]
  ·simp only [nmS_none hp h1,Option.bind_some,hm1,cond_true]
 | some p1 =>
  obtain ⟨m1,a⟩ := p1
  obtain ⟨g1,g2,g3,⟨z1,g4⟩,g5⟩ := addP_facts hp h1
  have hl1 := poolB_len g1
  have ha:decide (a < (0:Int)) = false := decide_eq_false (by omega)
  dsimp only
  cases h2:addP m1 2 a v with
  | none =>
   right
   have b2 := addP_bad (xs := m1) (k := 3) (a := -1) (b := k) g1 (by omega) (by omega)
   refine ⟨m1,rfl, ?_, ?_⟩
   ·simp only [nmI_some hl h1,adI_none hl1 h2,adI_none hl1 b2,Option.bind_some]
   ·simp only [nmS_some hp h1,adS_none g1 h2,Option.bind_some,hm1,ha,cond_true,cond_false]
  | some p2 =>
   obtain ⟨m2,b⟩ := p2
   obtain ⟨e1,e2,e3,⟨z2,e4⟩,e5⟩ := addP_facts g1 h2
   have hl2 := poolB_len e1
   have hb:decide (b < (0:Int)) = false := decide_eq_false (by omega)
   dsimp only
   cases h3:addP m2 3 b k with
   | none =>
    right
    refine ⟨m2,rfl, ?_, ?_⟩
    ·simp only [nmI_some hl h1,adI_some hl1 h2,adI_none hl2 h3,Option.bind_some]
    ·simp only [nmS_some hp h1,adS_some g1 h2,adS_none e1 h3,Option.bind_some,hm1,ha,hb,cond_true,cond_false]
   | some p3 =>
    obtain ⟨m3,u⟩ := p3
    obtain ⟨f1,f2,f3,⟨z3,f4⟩,f5⟩ := addP_facts e1 h3
    have hu:decide (u < (0:Int)) = false := decide_eq_false (by omega)
    left
    refine ⟨m3,u,rfl, ?_, ?_,f2⟩
    ·simp only [nmI_some hl h1,adI_some hl1 h2,adI_some hl2 h3,Option.bind_some]
    ·simp only [nmS_some hp h1,adS_some g1 h2,adS_some e1 h3,Option.bind_some,ha,hb,hu,cond_false]
def inB20 (t:Int):Bool := decide (t ≥ 0) && decide (t ≤ 20)
theorem inB20_iff {t:Int}:inB20 t = true ↔ 0 ≤ t ∧ t ≤ 20 := by
 unfold inB20
 rw [Bool.and_eq_true,decide_eq_true_iff,decide_eq_true_iff]
def linkV (xs:List Node3) (k t s:Int):Bool := hasB xs k && (inB20 t && inB20 s)
theorem linkV_iff {xs:List Node3} {k t s:Int}:linkV xs k t s = true ↔ hasB xs k = true ∧ (0 ≤ t ∧ t ≤ 20) ∧ (0 ≤ s ∧ s ≤ 20) := by
 unfold linkV
 rw [Bool.and_eq_true,Bool.and_eq_true,inB20_iff,inB20_iff]
theorem l18Link_eq {xs:List Node3} (hx:xs.length ≤ 4294967296) (k t s:Int) (d:Bool):spec_l18Link N0 (xs,k,t,s,d) = some (linkV xs k t s) := by
 unfold spec_l18Link linkV inB20
 dsimp only
 simp only [has_eq N0 hx,in_eq,Option.bind_some]
 cases hasB xs k <;> cases (decide (t ≥ 0) && decide (t ≤ 20)) <;> rfl
theorem implLink_eq {xs:List Node3} (hx:xs.length ≤ 4294967296) (k t s:Int) (d:Bool):impl_LinkOk N0 (xs,k,t,s,d) = some (linkV xs k t s && poolB xs) := by
 have pIx := implPool_eq N0 n0 hx
 change impl_PoolOk N0 xs = some (poolB xs) at pIx
 unfold impl_LinkOk linkV inB20
 dsimp only
 simp only [isTerm_eq N0 hx,inRange_eq,pIx,Option.bind_some]
 cases hasB xs k <;> cases (decide (t ≥ 0) && decide (t ≤ 20)) <;> cases (decide (s ≥ 0) && decide (s ≤ 20)) <;> rfl
theorem specLink_eq {xs:List Node3} (hx:xs.length ≤ 4294967296) (k t s:Int) (d:Bool):spec_LinkOk N0 (xs,k,t,s,d) = some (poolB xs && linkV xs k t s) := by
 have pSx := specPool_eq N0 n0 hx
 change spec_PoolOk N0 xs = some (poolB xs) at pSx
 unfold spec_LinkOk
 dsimp only
 simp only [l18Link_eq hx,pSx,Option.bind_some]
 cases poolB xs <;> rfl
theorem send_same {xs:List Node3} {k t s v:Int} {d:Bool} (hp:poolB xs = true) (hk:linkV xs k t s = true) :
  (∃ ys u,impl_LinkSend N0 (xs,k,t,s,d,v) = some (ys,k,t,s + 1,d,u) ∧ spec_l18Send N0 (xs,k,t,s,d,v) = some (ys,k,t,s + 1,d,u) ∧ poolB ys = true ∧ hasB ys u = true ∧ s < 20 ∧ hasB xs v = true ∧ ∃ zs,ys = xs ++ zs) ∨
  (impl_LinkSend N0 (xs,k,t,s,d,v) = some (xs,k,t,s,d, -1) ∧ spec_l18Send N0 (xs,k,t,s,d,v) = some (xs,k,t,s,d, -1)) := by
 have hl := poolB_len hp
 obtain ⟨h1,h2,h3⟩ := linkV_iff.1 hk
 have w1:IntKind.i64.wrap (s + (1:Int)) = s + 1 := wrap_ok (by omega) (by omega)
 have hm1:decide ((-1:Int) < 0) = true := rfl
 have oe := orEmpty_eq hp
 have ht := isTerm_eq N0 (xs := xs) (by omega) v
 have hh := has_eq N0 (xs := xs) (by omega) v
 have lk := implLink_eq (xs := xs) (by omega) k t s d
 rw [hk,hp] at lk
 unfold impl_LinkSend spec_l18Send
 dsimp only
 rw [ht,hh]
 cases hv:hasB xs v with
 | false =>
  right
  simp only [Option.bind_some,Bool.not_false,cond_true,impl_LinkSend_R2,spec_l18Send_R2,oe,and_self]
 | true =>
  have hib := hasB_inb hv
  simp only [Option.bind_some,Bool.not_true,cond_false,spec_l18End,hib,cond_true,impl_Pool_isName,lk,Bool.and_self]
  generalize hN:((xs.getD v.toNat zN3).1 == (1:Int) && ((xs.getD v.toNat zN3).2.1 == (8:Int) && ((xs.getD v.toNat zN3).2.2 == (0:Int) && true))) = nm
  cases nm with
  | true =>
   right
   simp only [cond_true,impl_LinkSend_R2,spec_l18Send_R2,oe,Option.bind_some,and_true]
   cases d <;> cases (s == (20:Int)) <;> rfl
  | false =>
   simp only [cond_false]
   cases d with
   | true =>
    right
    simp only [cond_true,impl_LinkSend_R2,spec_l18Send_R2,oe,Option.bind_some,and_self]
   | false =>
    simp only [cond_false]
    cases hs:(s == (20:Int)) with
    | true =>
     right
     simp only [cond_true,impl_LinkSend_R2,spec_l18Send_R2,oe,Option.bind_some,and_self]
    | false =>
     have hs20:s ≠ 20 := by rw [beq_eq_false_iff_ne] at hs; exact hs
     simp only [cond_false,copy_eq (show xs.length ≤ 4294967296 by omega),Option.bind_some]
     rcases seal_eq (xs := xs) (k := k) (t := t) (s := s) (v := v) (d := false) hp h3 with ⟨ys,u,q0,q1,q2,q3⟩ | ⟨m,q0,q1,q2⟩
     ·left
      obtain ⟨f1,f2,f3⟩ := sealP_facts hp q0
      refine ⟨ys,u, ?_, ?_,f1,f2,by omega,by first | rfl | trivial,f3⟩
      ·simp only [q1,Option.bind_some,decide_eq_false (show ¬ u < 0 by omega),(show decide (u < (0:Int)) = false from decide_eq_false (by omega)),cond_false,impl_LinkSend_R8,w1]
      ·simp only [q2,Option.bind_some,(show decide (u < (0:Int)) = false from decide_eq_false (by omega)),cond_false,spec_l18Send_R7,w1]
     ·right
      refine ⟨?_, ?_⟩
      ·simp only [q1,Option.bind_some,hm1,cond_true,impl_LinkSend_R6,copy_eq (show xs.length ≤ 4294967296 by omega)]
      ·simp only [q2,Option.bind_some,hm1,cond_true,spec_l18Send_R5]
theorem close_same {xs:List Node3} {k t s:Int} {d:Bool} (hp:poolB xs = true) (hk:linkV xs k t s = true) :
  (∃ ys u,impl_LinkEnd N0 (xs,k,t,s,d) = some (ys,k,t,s,true,u) ∧ spec_l18Close N0 (xs,k,t,s,d) = some (ys,k,t,s,true,u) ∧ poolB ys = true ∧ hasB ys u = true ∧ ∃ zs,ys = xs ++ zs) ∨
  (impl_LinkEnd N0 (xs,k,t,s,d) = some (xs,k,t,s,d, -1) ∧ spec_l18Close N0 (xs,k,t,s,d) = some (xs,k,t,s,d, -1)) := by
 have hl := poolB_len hp
 obtain ⟨h1,h2,h3⟩ := linkV_iff.1 hk
 have hm1:decide ((-1:Int) < 0) = true := rfl
 have oe := orEmpty_eq hp
 have lk := implLink_eq (xs := xs) (by omega) k t s d
 rw [hk,hp] at lk
 unfold impl_LinkEnd spec_l18Close impl_Link_end
 dsimp only
 rw [lk]
 cases d with
 | true =>
  right
  simp only [cond_true,impl_LinkEnd_R2,spec_l18Close_R2,oe,Option.bind_some,and_self]
 | false =>
  simp only [cond_false]
  cases hs:(s == (20:Int)) with
  | true =>
   right
   simp only [cond_true,impl_LinkEnd_R2,spec_l18Close_R2,oe,Option.bind_some,and_self]
  | false =>
   simp only [cond_false,copy_eq (show xs.length ≤ 4294967296 by omega),Option.bind_some,Bool.and_self,Bool.not_true]
   cases hN:addP xs 1 8 0 with
   | none =>
    right
    have b1:∀ a,addP xs 2 a (-1) = none := fun a => addP_bad hp (by omega) (by omega)
    refine ⟨?_, ?_⟩
    ·rcases seal_eq (xs := xs) (k := k) (t := t) (s := s) (v := -1) (d := false) hp h3 with ⟨ys,u,q0,q1,q2,q3⟩ | ⟨m,q0,q1,q2⟩
     ·exfalso
      unfold sealP at q0
      cases z1:addP xs 1 (20 + s) 0 with
      | none => rw [z1] at q0; cases q0
      | some p1 =>
       obtain ⟨m1,a⟩ := p1
       rw [z1] at q0
       dsimp only at q0
       rw [addP_bad (addP_facts hp z1).1 (by omega) (by omega)] at q0
       cases q0
     ·simp only [nmI_none hl hN,q1,Option.bind_some,hm1,cond_true,impl_LinkEnd_R6,copy_eq (show xs.length ≤ 4294967296 by omega)]
    ·simp only [nmS_none hp hN,Option.bind_some,hm1,cond_true,spec_l18Close_R5]
   | some p =>
    obtain ⟨m0,v⟩ := p
    obtain ⟨g1,g2,g3,⟨z1,g4⟩,g5⟩ := addP_facts hp hN
    have hv0:decide (v < (0:Int)) = false := decide_eq_false (by omega)
    rcases seal_eq (xs := m0) (k := k) (t := t) (s := s) (v := v) (d := false) g1 h3 with ⟨ys,u,q0,q1,q2,q3⟩ | ⟨m,q0,q1,q2⟩
    ·left
     obtain ⟨f1,f2,⟨z2,f3⟩⟩ := sealP_facts g1 q0
     refine ⟨ys,u, ?_, ?_,f1,f2,⟨z1 ++ z2,by rw [f3,g4]; simp⟩⟩
     ·simp only [nmI_some hl hN,q1,Option.bind_some,(show decide (u < (0:Int)) = false from decide_eq_false (by omega)),cond_false,impl_LinkEnd_R8]
     ·simp only [nmS_some hp hN,q2,hv0,Option.bind_some,(show decide (u < (0:Int)) = false from decide_eq_false (by omega)),cond_false,spec_l18Close_R10]
    ·right
     refine ⟨?_, ?_⟩
     ·simp only [nmI_some hl hN,q1,Option.bind_some,hm1,cond_true,impl_LinkEnd_R6,copy_eq (show xs.length ≤ 4294967296 by omega)]
     ·simp only [nmS_some hp hN,q2,hv0,Option.bind_some,hm1,cond_true,cond_false,spec_l18Close_R8]
theorem turn_same {xs:List Node3} {k t s:Int} {d:Bool} (hp:poolB xs = true) (hk:linkV xs k t s = true) :
  (∃ ys u,impl_LinkTurn N0 (xs,k,t,s,d) = some (ys,u,t + 1,0,false,true) ∧ spec_l18Turn N0 (xs,k,t,s,d) = some (ys,u,t + 1,0,false,true) ∧ poolB ys = true ∧ hasB ys u = true ∧ t < 20 ∧ ∃ zs,ys = xs ++ zs) ∨
  (impl_LinkTurn N0 (xs,k,t,s,d) = some (xs,k,t,s,d,false) ∧ spec_l18Turn N0 (xs,k,t,s,d) = some (xs,k,t,s,d,false)) := by
 have hl := poolB_len hp
 obtain ⟨h1,h2,h3⟩ := linkV_iff.1 hk
 have w1:IntKind.i64.wrap (t + (1:Int)) = t + 1 := wrap_ok (by omega) (by omega)
 have hm1:decide ((-1:Int) < 0) = true := rfl
 have oe := orEmpty_eq hp
 have lk := implLink_eq (xs := xs) (by omega) k t s d
 rw [hk,hp] at lk
 unfold impl_LinkTurn spec_l18Turn
 dsimp only
 rw [lk]
 cases d with
 | true =>
  right
  simp only [cond_true,impl_LinkTurn_R2,spec_l18Turn_R2,oe,Option.bind_some,and_self]
 | false =>
  simp only [cond_false]
  cases hs:(t == (20:Int)) with
  | true =>
   right
   simp only [cond_true,impl_LinkTurn_R2,spec_l18Turn_R2,oe,Option.bind_some,and_self]
  | false =>
   have ht20:t ≠ 20 := by rw [beq_eq_false_iff_ne] at hs; exact hs
   simp only [cond_false,copy_eq (show xs.length ≤ 4294967296 by omega),Option.bind_some,Bool.and_self,Bool.not_true,impl_LinkTurn_R4]
   cases hN:addP xs 1 7 0 with
   | none =>
    right
    have b1 := addP_bad (xs := xs) (k := 6) (a := k) (b := -1) hp (by omega) (by omega)
    refine ⟨?_, ?_⟩
    ·simp only [nmI_none hl hN,adI_none hl b1,Option.bind_some,hm1,cond_true,impl_LinkTurn_R6,copy_eq (show xs.length ≤ 4294967296 by omega)]
    ·simp only [nmS_none hp hN,Option.bind_some,hm1,cond_true,spec_l18Turn_R5]
   | some p =>
    obtain ⟨m0,v⟩ := p
    obtain ⟨g1,g2,g3,⟨z1,g4⟩,g5⟩ := addP_facts hp hN
    have hl0 := poolB_len g1
    have hv0:decide (v < (0:Int)) = false := decide_eq_false (by omega)
    cases hA:addP m0 6 k v with
    | none =>
     right
     refine ⟨?_, ?_⟩
     ·simp only [nmI_some hl hN,adI_none hl0 hA,Option.bind_some,hm1,cond_true,impl_LinkTurn_R6,copy_eq (show xs.length ≤ 4294967296 by omega)]
     ·simp only [nmS_some hp hN,adS_none g1 hA,hv0,Option.bind_some,hm1,cond_true,cond_false,spec_l18Turn_R8]
    | some p2 =>
     obtain ⟨ys,u⟩ := p2
     obtain ⟨f1,f2,f3,⟨z2,f4⟩,f5⟩ := addP_facts g1 hA
     left
     refine ⟨ys,u, ?_, ?_,f1,hasB_iff2.2 ⟨f2,f3⟩,by omega,⟨z1 ++ z2,by rw [f4,g4]; simp⟩⟩
     ·simp only [nmI_some hl hN,adI_some hl0 hA,Option.bind_some,(show decide (u < (0:Int)) = false from decide_eq_false (by omega)),cond_false,impl_LinkTurn_R7,w1]
     ·simp only [nmS_some hp hN,adS_some g1 hA,hv0,Option.bind_some,(show decide (u < (0:Int)) = false from decide_eq_false (by omega)),cond_false,spec_l18Turn_R9,w1]
theorem hasB_of2 {xs:List Node3} (hp:poolB xs = true) {p:Int} (h:hasB xs p = true) {k:Int} (hk:(xs.getD p.toNat zN3).1 = k) (h2:k = 2 ∨ k = 3):hasB xs (xs.getD p.toNat zN3).2.1 = true ∧ hasB xs (xs.getD p.toNat zN3).2.2 = true := opened_in hp h (by omega)
theorem linkTake_same {xs:List Node3} {k t s v:Int} {d:Bool} (hp:poolB xs = true) (hk:linkV xs k t s = true) :
  ∃ s' d' u c,impl_LinkTake N0 (xs,k,t,s,d,v) = some (k,t,s',d',u,c) ∧ spec_LinkTake N0 (xs,k,t,s,d,v) = some (k,t,s',d',u,c) ∧ 0 ≤ s' ∧ s' ≤ 20 ∧ (0 ≤ u → hasB xs u = true ∧ c = 0) := by
 have hl := poolB_len hp
 obtain ⟨h1,h2,h3⟩ := linkV_iff.1 hk
 have ht := isTerm_eq N0 (xs := xs) (by omega) v
 have hh := has_eq N0 (xs := xs) (by omega) v
 have lk := implLink_eq (xs := xs) (by omega) k t s d
 have lk2 := specLink_eq (xs := xs) (by omega) k t s d
 rw [hk,hp] at lk lk2
 unfold impl_LinkTake spec_LinkTake
 dsimp only
 simp only [ht,hh,lk,lk2,Option.bind_some,Bool.and_self,Bool.not_true,cond_false]
 cases hv:hasB xs v with
 | false =>
  exact ⟨s,d, -1,4,rfl,rfl,h3.1,h3.2,fun q => by omega⟩
 | true =>
  have hib := hasB_inb hv
  simp only [Bool.not_true,cond_false,hib,cond_true,Option.bind_some,impl_Pool_isName,impl_LinkTake_R15,spec_LinkTake_R16,spec_l18End]
  cases d with
  | true => exact ⟨s,true, -1,3,rfl,rfl,h3.1,h3.2,fun q => by omega⟩
  | false =>
   simp only [cond_false]
   cases q3:((xs.getD v.toNat zN3).1 != (3:Int)) with
   | true => exact ⟨s,false, -1,1,rfl,rfl,h3.1,h3.2,fun q => by omega⟩
   | false =>
    have e3:(xs.getD v.toNat zN3).1 = 3 := by simpa using q3
    obtain ⟨o1,o2⟩ := hasB_of2 hp hv e3 (.inr rfl)
    have ib1 := hasB_inb o1
    simp only [cond_false]
    cases qk:((xs.getD v.toNat zN3).2.2 != k) with
    | true => exact ⟨s,false, -1,1,rfl,rfl,h3.1,h3.2,fun q => by omega⟩
    | false =>
     simp only [cond_false,ib1,cond_true]
     cases q2:((xs.getD ((xs.getD v.toNat zN3).2.1).toNat zN3).1 != (2:Int)) with
     | true => exact ⟨s,false, -1,1,rfl,rfl,h3.1,h3.2,fun q => by omega⟩
     | false =>
      have e2:(xs.getD ((xs.getD v.toNat zN3).2.1).toNat zN3).1 = 2 := by simpa using q2
      obtain ⟨o3,o4⟩ := hasB_of2 hp o1 e2 (.inl rfl)
      have ib3 := hasB_inb o3
      have ib4 := hasB_inb o4
      simp only [cond_false,ib3,ib4,cond_true,Option.bind_some]
      generalize hG:((xs.getD ((xs.getD ((xs.getD v.toNat zN3).2.1).toNat zN3).2.1).toNat zN3).1 == (1:Int) && ((xs.getD ((xs.getD ((xs.getD v.toNat zN3).2.1).toNat zN3).2.1).toNat zN3).2.1 == (IntKind.i64.wrap ((20:Int) + s)) && ((xs.getD ((xs.getD ((xs.getD v.toNat zN3).2.1).toNat zN3).2.1).toNat zN3).2.2 == (0:Int) && true))) = g
      generalize hE:((xs.getD ((xs.getD ((xs.getD v.toNat zN3).2.1).toNat zN3).2.2).toNat zN3).1 == (1:Int) && ((xs.getD ((xs.getD ((xs.getD v.toNat zN3).2.1).toNat zN3).2.2).toNat zN3).2.1 == (8:Int) && ((xs.getD ((xs.getD ((xs.getD v.toNat zN3).2.1).toNat zN3).2.2).toNat zN3).2.2 == (0:Int) && true))) = e
      cases hs:(s == (20:Int)) with
      | true =>
       refine ⟨s,false, -1,2,rfl, ?_,h3.1,h3.2,fun q => by omega⟩
       cases g <;> rfl
      | false =>
       have hs20:s ≠ 20 := by rw [beq_eq_false_iff_ne] at hs; exact hs
       have w1:IntKind.i64.wrap (s + (1:Int)) = s + 1 := wrap_ok (by omega) (by omega)
       cases g with
       | false => exact ⟨s,false, -1,2,rfl,rfl,h3.1,h3.2,fun q => by omega⟩
       | true =>
        cases e with
        | true => exact ⟨s,true, -1,0,rfl,rfl,h3.1,h3.2,fun q => by omega⟩
        | false =>
         refine ⟨s + 1,false,(xs.getD ((xs.getD v.toNat zN3).2.1).toNat zN3).2.2,0, ?_, ?_,by omega,by omega,fun _ => ⟨o4,rfl⟩⟩
         ·simp only [Bool.not_true,cond_false,w1]
         ·simp only [Bool.not_true,cond_false,w1]
theorem room_s {α:Type} {xs:List α} (h:xs.length ≤ 1000000) {k:α}:room (xs.length + [k].length) = true := by
 unfold room
 simp
 omega
def putG (v:Int):Bool → List Int → List Int×Bool
 | b,[] => ([],b)
 | true,x :: r => (x :: r,true)
 | false,x :: r => if v < x then (v :: x :: r,true) else (x :: (putG v false r).1,(putG v false r).2)
theorem putG_t (v:Int) (r:List Int):putG v true r = (r,true) := by cases r <;> rfl
theorem put_loop (v:Int):∀ (r pre out:List Int) (b:Bool) (m:Nat),r.length < m → pre.length + r.length ≤ 1000 → out.length + 2 * r.length ≤ 100000 → spec_l6Put_L4 N0 m (pre ++ r,v,out,b,(pre.length:Int)) = some (v,out ++ (putG v b r).1,(putG v b r).2)
 | [],pre,out,b,m,hm,hl,ho => by
  obtain ⟨i,rfl⟩:∃ i,m = i + 1 := ⟨m - 1,by omega⟩
  rw [spec_l6Put_L4]
  dsimp only
  rw [lt_end,cond_false]
  cases b <;> simp [putG]
 | x :: r,pre,out,b,m,hm,hl,ho => by
  obtain ⟨i,rfl⟩:∃ i,m = i + 1 := ⟨m - 1,by omega⟩
  have hl':pre.length + (r.length + 1) ≤ 1000 := hl
  have hm':r.length + 1 < i + 1 := hm
  have w:IntKind.i64.wrap ((pre.length:Int) + 1) = ((pre ++ [x]).length:Int) := by rw [wrap_ok (by omega) (by omega),len_one]
  have ho2:out.length + 2 * (r.length + 1) ≤ 100000 := ho
  have go:∀ out' b',out'.length + 2 * r.length ≤ 100000 → spec_l6Put_L4 N0 i (pre ++ x :: r,v,out',b',((pre ++ [x]).length:Int)) = some (v,out' ++ (putG v b' r).1,(putG v b' r).2) := fun out' b' ho' => by
   rw [app_one]
   exact put_loop v r (pre ++ [x]) out' b' i (by omega) (by simp; omega) ho'
  rw [spec_l6Put_L4]
  dsimp only
  rw [lt_pre,cond_true,in_pre,Int.toNat_natCast,get_pre]
  simp only [cond_true,w]
  cases b with
  | true =>
   simp only [Bool.not_true,cond_false,room_s (show out.length ≤ 1000000 by omega),cond_true]
   rw [go _ _ (by simp; omega)]
   simp [putG,putG_t]
  | false =>
   simp only [Bool.not_false,cond_true]
   by_cases hx:v < x
   ·simp only [decide_eq_true (show x > v from hx),cond_true,room_s (show out.length ≤ 1000000 by omega),room_s (show (out ++ [v]).length ≤ 1000000 by simp; omega)]
    rw [go _ _ (by simp; omega),putG,if_pos hx,putG_t]
    simp
   ·simp only [decide_eq_false (show ¬ x > v from hx),cond_false,cond_true,room_s (show out.length ≤ 1000000 by omega)]
    rw [go _ _ (by simp; omega),putG,if_neg hx]
    simp
theorem putG_ins (v:Int):∀ {r:List Int},v ∉ r → (bif (putG v false r).2 then (putG v false r).1 else (putG v false r).1 ++ [v]) = insL v r
 | [],_ => rfl
 | x :: r,h => by
  rw [putG,insL]
  by_cases hx:v < x
  ·rw [if_pos hx,if_neg (by omega)]; rfl
  ·have hne:v ≠ x := fun q => h (q ▸ List.mem_cons_self ..)
   rw [if_neg hx,if_pos (by omega), ← putG_ins v (fun q => h (List.mem_cons_of_mem _ q))]
   dsimp only
   cases (putG v false r).2 <;> rfl
theorem insL_len (v:Int):∀ (r:List Int),(insL v r).length = r.length + 1
 | [] => rfl
 | x :: r => by
  rw [insL]
  split
  ·rw [List.length_cons,insL_len v r,List.length_cons]
  ·rfl
theorem hasAt_contains {l:List Int} {v:Int}:hasAt l v = l.contains v := by
 rw [Bool.eq_iff_iff,List.contains_iff_mem,hasAt_iff,List.mem_iff_getElem]
 constructor
 ·rintro ⟨j,hj,e⟩
  exact ⟨j,hj,by rw [← e]; simp [List.getD_eq_getElem?_getD,hj]⟩
 ·rintro ⟨j,hj,e⟩
  exact ⟨j,hj,by rw [← e]; simp [List.getD_eq_getElem?_getD,hj]⟩
theorem asc_pw {l:List Int} (h:∀ u,u < l.length → ascAt l u = true):l.Pairwise (· < ·) := by
 rw [List.pairwise_iff_getElem]
 intro i j hi hj hij
 have step:∀ k,i + 1 + k < l.length → l.getD i 0 < l.getD (i + 1 + k) 0 := by
  intro k
  induction k with
  | zero =>
   intro hk
   have := h (i + 1) hk
   unfold ascAt at this
   rw [decide_eq_false (by omega:¬ i + 1 = 0),Bool.false_or,decide_eq_true_iff] at this
   exact this
  | succ k ih =>
   intro hk
   have h1 := ih (by omega)
   have := h (i + 1 + (k + 1)) hk
   unfold ascAt at this
   rw [decide_eq_false (by omega:¬ i + 1 + (k + 1) = 0),Bool.false_or,decide_eq_true_iff] at this
   have e:i + 1 + (k + 1) - 1 = i + 1 + k := by omega
   rw [e] at this
   omega
 have := step (j - (i + 1)) (by omega)
 have e:i + 1 + (j - (i + 1)) = j := by omega
 rw [e] at this
 have e1:l.getD i 0 = l[i] := by simp [List.getD_eq_getElem?_getD,hi]
 have e2:l.getD j 0 = l[j] := by simp [List.getD_eq_getElem?_getD,hj]
 rw [e1,e2] at this
 exact this
theorem knowV_pw {xs:List Node3} {k:List Int} (h:knowV xs k = true):k.Pairwise (· < ·) := asc_pw (fun u hu => by
 have := knowV_all h u hu
 unfold knowAt at this
 exact (Bool.and_eq_true _ _ ▸ this).2)
def putL (kn:List Int) (v:Int):List Int := bif kn.contains v then kn else insL v kn
theorem put_same {xs:List Node3} {kn:List Int} (h:knowV xs kn = true) (v:Int) :
  spec_l6Put N0 (kn,v) = some (putL kn v) ∧ lib_knowPut (kn,v) = some (bif decide ((putL kn v).length ≤ 200) then (putL kn v,true) else (kn,false)) ∧ (putL kn v).length ≤ 201 := by
 have hl := (knowV_iff.1 h).2.1
 have pw := knowV_pw h
 have pw':kn.Pairwise (· ≤ ·) := pw.imp (fun q => by omega)
 unfold putL spec_l6Put lib_knowPut
 dsimp only
 rw [knowHas_eq (by omega),Option.bind_some,hasAt_contains,if_pos ⟨by omega,pw'⟩]
 have hlp := put_loop v kn [] [] (kn.contains v) N0 (by have := n0; omega) (by simp; omega) (by simp; omega)
 have hlp':spec_l6Put_L4 N0 N0 (kn,v,([]:List Int),kn.contains v,(0:Int)) = _ := hlp
 rw [hlp',Option.bind_some]
 dsimp only
 cases hc:kn.contains v with
 | true =>
  rw [putG_t]
  refine ⟨rfl, ?_,by simpa using (by omega:kn.length ≤ 201)⟩
  rw [if_pos rfl,cond_true,decide_eq_true hl]; rfl
 | false =>
  have hnm:v ∉ kn := fun q => by rw [List.contains_iff_mem.2 q] at hc; cases hc
  have hi := putG_ins v hnm
  have hil := insL_len v kn
  rw [if_neg (by simp),cond_false]
  refine ⟨?_, ?_,by omega⟩
  ·cases hb:(putG v false kn).2 with
   | true =>
    rw [hb,cond_true] at hi
    rw [← hi]; rfl
   | false =>
    rw [hb,cond_false] at hi
    have:(putG v false kn).1.length ≤ 1000000 := by
     have := congrArg List.length hi
     simp at this
     omega
    simp only [List.nil_append,Bool.not_false,cond_true,room_s this,hi]
  ·by_cases q:200 ≤ kn.length
   ·rw [if_pos q,decide_eq_false (by omega:¬ (insL v kn).length ≤ 200)]; rfl
   ·rw [if_neg q,decide_eq_true (by omega:(insL v kn).length ≤ 200)]; rfl
def termsV (xs:List Node3) (l:List Int):Bool := allN (fun j => hasB xs (l.getD j 0)) 0 l.length && decide (l.length ≤ 60)
theorem specTerms_eq {xs:List Node3} (hx:xs.length ≤ 4294967296) {l:List Int} (hl:l.length ≤ 4294967296):spec_l19Terms N0 (xs,l) = some (termsV xs l) := by
 have := test_loop (spec_l19Terms_L2 N0) (fun i => (l,xs,(i:Int))) (fun j => hasB xs (l.getD j 0)) false l l.length (fun m i hi => by
  rw [spec_l19Terms_L2]; dsimp only
  rw [lt_t hi,cond_true,inb_nat hi,cond_true,has_eq N0 hx,Option.bind_some,Int.toNat_natCast,step_wrap hi hl]
  cases hasB xs (l.getD i 0) <;> rfl) (fun m => by
  rw [spec_l19Terms_L2]; dsimp only; rw [lt_f]; rfl) N0 0 (Nat.zero_le _) (by have := n0; omega)
 rw [Nat.sub_zero] at this
 show ((spec_l19Terms_L2 N0 N0 (l,xs,(0:Int))).bind _) = _
 rw [show spec_l19Terms_L2 N0 N0 (l,xs,(0:Int)) = _ from this]
 unfold termsV
 cases allN (fun j => hasB xs (l.getD j 0)) 0 l.length with
 | false => rfl
 | true =>
  have e:decide ((l.length:Int) ≤ (60:Int)) = decide (l.length ≤ 60) := by
   rw [Bool.eq_iff_iff,decide_eq_true_iff,decide_eq_true_iff]; omega
  simp only [cond_true,Option.bind_some,e,Bool.true_and]
theorem implTerms_eq {xs:List Node3} (hx:xs.length ≤ 4294967296) {l:List Int} (hl:l.length ≤ 4294967296) (kn:List Int) (k t s:Int) (d:Bool) (k2 t2 s2:Int) (d2:Bool) (se go:List Int):impl_Stream_termsOk N0 (xs,kn,k,t,s,d,k2,t2,s2,d2,se,go,l) = some (xs,kn,k,t,s,d,k2,t2,s2,d2,se,go,termsV xs l) := by
 have := test_loop (impl_Stream_termsOk_L2 N0) (fun i => (xs,kn,k,t,s,d,k2,t2,s2,d2,se,go,l,l,(l.length:Int),(i:Int))) (fun j => hasB xs (l.getD j 0)) (xs,kn,k,t,s,d,k2,t2,s2,d2,se,go,false) (xs,kn,k,t,s,d,k2,t2,s2,d2,se,go,l) l.length (fun m i hi => by
  rw [impl_Stream_termsOk_L2]; dsimp only
  rw [lt_t hi,cond_true,inb_nat hi,cond_true,isTerm_eq N0 hx,Option.bind_some,Int.toNat_natCast,step_wrap hi hl]
  cases hasB xs (l.getD i 0) <;> rfl) (fun m => by
  rw [impl_Stream_termsOk_L2]; dsimp only; rw [lt_f]; rfl) N0 0 (Nat.zero_le _) (by have := n0; omega)
 rw [Nat.sub_zero] at this
 show ((impl_Stream_termsOk_L2 N0 N0 (xs,kn,k,t,s,d,k2,t2,s2,d2,se,go,l,l,(l.length:Int),(0:Int))).bind _) = _
 rw [show impl_Stream_termsOk_L2 N0 N0 (xs,kn,k,t,s,d,k2,t2,s2,d2,se,go,l,l,(l.length:Int),(0:Int)) = _ from this]
 unfold termsV
 cases allN (fun j => hasB xs (l.getD j 0)) 0 l.length with
 | false => rfl
 | true =>
  have e:decide ((l.length:Int) ≤ (60:Int)) = decide (l.length ≤ 60) := by
   rw [Bool.eq_iff_iff,decide_eq_true_iff,decide_eq_true_iff]; omega
  simp only [cond_true,Option.bind_some,e,Bool.true_and]
def streamV (xs:List Node3) (kn:List Int) (k t s k2 t2 s2:Int) (se go:List Int):Bool := knowV xs kn && (linkV xs k t s && (linkV xs k2 t2 s2 && (termsV xs se && termsV xs go)))
section
variable {xs:List Node3} {kn:List Int} {k t s k2 t2 s2:Int} {d d2:Bool} {se go:List Int}
theorem specStream_eq (hx:xs.length ≤ 4294967296) (hk:kn.length ≤ 4294967296) (hs:se.length ≤ 4294967296) (hg:go.length ≤ 4294967296):spec_StreamOk N0 (xs,kn,k,t,s,d,k2,t2,s2,d2,se,go) = some (streamV xs kn k t s k2 t2 s2 se go) := by
 have kSx := specKnow_eq hx hk
 change spec_KnowOk N0 (xs,kn) = some (knowV xs kn) at kSx
 unfold spec_StreamOk streamV
 dsimp only
 simp only [kSx,l18Link_eq hx,specTerms_eq hx hs,specTerms_eq hx hg,Option.bind_some]
 cases knowV xs kn <;> cases linkV xs k t s <;> cases linkV xs k2 t2 s2 <;> cases termsV xs se <;> rfl
theorem implStream_eq (hx:xs.length ≤ 4294967296) (hk:kn.length ≤ 4294967296) (hs:se.length ≤ 4294967296) (hg:go.length ≤ 4294967296):impl_StreamOk N0 (xs,kn,k,t,s,d,k2,t2,s2,d2,se,go) = some (streamV xs kn k t s k2 t2 s2 se go) := by
 have kIx := implKnow_eq hx hk
 change impl_KnowOk N0 (xs,kn) = some (knowV xs kn) at kIx
 unfold impl_StreamOk streamV
 dsimp only
 simp only [kIx,implLink_eq hx,implTerms_eq hx hs,implTerms_eq hx hg,Option.bind_some]
 cases hv:knowV xs kn with
 | false => rfl
 | true =>
  rw [knowV_pool hv]
  cases linkV xs k t s <;> cases linkV xs k2 t2 s2 <;> cases termsV xs se <;> rfl
theorem implCopy_eq (hx:xs.length ≤ 4294967296) (hk:kn.length ≤ 4294967296) (hs:se.length ≤ 4294967296) (hg:go.length ≤ 4294967296):impl_copyStream N0 (xs,kn,k,t,s,d,k2,t2,s2,d2,se,go) = some (xs,kn,k,t,s,d,k2,t2,s2,d2,se,go) := by
 unfold impl_copyStream
 dsimp only
 simp only [copy_eq hx,cloneInt_eq hk,cloneInt_eq hs,cloneInt_eq hg,Option.bind_some]
theorem room_int {l:List Int} (h:l.length ≤ 4294967296):room (([]:List Int).length + l.length) = true := by
 unfold room
 simp
 omega
theorem specCopy_eq (hx:xs.length ≤ 4294967296) (hk:kn.length ≤ 4294967296) (hs:se.length ≤ 4294967296) (hg:go.length ≤ 4294967296):spec_l19Copy N0 (xs,kn,k,t,s,d,k2,t2,s2,d2,se,go) = some (xs,kn,k,t,s,d,k2,t2,s2,d2,se,go) := by
 unfold spec_l19Copy spec_l19Copy_R1
 dsimp only
 simp only [copyS_eq hx,room_int hk,room_int hs,room_int hg,Option.bind_some,cond_true,List.nil_append]
end
theorem knowV_len {xs:List Node3} {k:List Int} (h:knowV xs k = true):k.length ≤ 200 := (knowV_iff.1 h).2.1
theorem hasB_pre {xs ys:List Node3} {v:Int} (h:hasB xs v = true) (e:∃ zs,ys = xs ++ zs):hasB ys v = true := by
 obtain ⟨z,rfl⟩ := e
 exact hasB_app h
theorem linkV_pre {xs ys:List Node3} {k t s:Int} (h:linkV xs k t s = true) (e:∃ zs,ys = xs ++ zs):linkV ys k t s = true := by
 obtain ⟨h1,h2,h3⟩ := linkV_iff.1 h
 exact linkV_iff.2 ⟨hasB_pre h1 e,h2,h3⟩
theorem termsV_iff {xs:List Node3} {l:List Int}:termsV xs l = true ↔ (∀ j,j < l.length → hasB xs (l.getD j 0) = true) ∧ l.length ≤ 60 := by
 unfold termsV
 rw [Bool.and_eq_true,decide_eq_true_iff,allN_iff]
 constructor
 ·rintro ⟨a,b⟩
  exact ⟨fun j hj => a j (Nat.zero_le _) (by omega),b⟩
 ·rintro ⟨a,b⟩
  exact ⟨fun j _ hj => a j (by omega),b⟩
theorem streamV_iff {xs:List Node3} {kn:List Int} {k t s k2 t2 s2:Int} {se go:List Int}:streamV xs kn k t s k2 t2 s2 se go = true ↔ knowV xs kn = true ∧ linkV xs k t s = true ∧ linkV xs k2 t2 s2 = true ∧ termsV xs se = true ∧ termsV xs go = true := by
 unfold streamV
 rw [Bool.and_eq_true,Bool.and_eq_true,Bool.and_eq_true,Bool.and_eq_true]
def Deed (xs:List Node3) (kn:List Int) (k t s k2 t2 s2:Int) (se go:List Int) (ys:List Node3) (kn':List Int) (k' t' s' k2' t2' s2':Int) (se' go':List Int):Prop :=
 poolB ys = true ∧ (∃ zs,ys = xs ++ zs) ∧ linkV ys k' t' s' = true ∧ linkV ys k2' t2' s2' = true ∧
 (kn' = kn ∨ ∃ u,kn' = putL kn u ∧ hasB ys u = true ∧ kn'.length ≤ 200) ∧ (se' = se ∨ ∃ u,se' = se ++ [u] ∧ hasB ys u = true) ∧ (go' = go ∨ ∃ u,go' = go ++ [u] ∧ hasB ys u = true)
section
variable {xs:List Node3} {kn:List Int} {k t s k2 t2 s2:Int} {d d2:Bool} {se go:List Int} {act v:Int} {T:ByteArray}
def Both (xs:List Node3) (kn:List Int) (k t s:Int) (d:Bool) (k2 t2 s2:Int) (d2:Bool) (se go:List Int) (ri rs:Option (List Node3×List Int×Int×Int×Int×Bool×Int×Int×Int×Bool×List Int×List Int×Bool)):Prop :=
 (∃ ys kn' k' t' s' d' k2' t2' s2' d2' se' go',ri = some (ys,kn',k',t',s',d',k2',t2',s2',d2',se',go',true) ∧ rs = some (ys,kn',k',t',s',d',k2',t2',s2',d2',se',go',true) ∧ Deed xs kn k t s k2 t2 s2 se go ys kn' k' t' s' k2' t2' s2' se' go') ∨
 (∃ y z:List Node3×List Int×Int×Int×Int×Bool×Int×Int×Int×Bool×List Int×List Int,ri = some (y.1,y.2.1,y.2.2.1,y.2.2.2.1,y.2.2.2.2.1,y.2.2.2.2.2.1,y.2.2.2.2.2.2.1,y.2.2.2.2.2.2.2.1,y.2.2.2.2.2.2.2.2.1,y.2.2.2.2.2.2.2.2.2.1,y.2.2.2.2.2.2.2.2.2.2.1,y.2.2.2.2.2.2.2.2.2.2.2,false) ∧ rs = some (z.1,z.2.1,z.2.2.1,z.2.2.2.1,z.2.2.2.2.1,z.2.2.2.2.2.1,z.2.2.2.2.2.2.1,z.2.2.2.2.2.2.2.1,z.2.2.2.2.2.2.2.2.1,z.2.2.2.2.2.2.2.2.2.1,z.2.2.2.2.2.2.2.2.2.2.1,z.2.2.2.2.2.2.2.2.2.2.2,false))
theorem both_send (h:streamV xs kn k t s k2 t2 s2 se go = true):Both xs kn k t s d k2 t2 s2 d2 se go (impl_Stream_send N0 (xs,kn,k,t,s,d,k2,t2,s2,d2,se,go,v)) (spec_l19Do N0 (xs,kn,k,t,s,d,k2,t2,s2,d2,se,go,(1:Int),v,T)) := by
 obtain ⟨hk,h1,h2,h3,h4⟩ := streamV_iff.1 h
 have hp := knowV_pool hk
 have hl := poolB_len hp
 have hse := (termsV_iff.1 h3).2
 have hgo := (termsV_iff.1 h4).2
 have hm1:decide ((-1:Int) < 0) = true := rfl
 unfold impl_Stream_send impl_Stream_send_R1 impl_Stream_send_R2 spec_l19Do
 dsimp only
 simp only [beq_self_eq_true,cond_true,room_s (show se.length ≤ 1000000 by omega)]
 rcases send_same (v := v) (d := d) hp h1 with ⟨ys,u,q1,q2,q3,q4,q5,q6,q7⟩ | ⟨q1,q2⟩
 ·obtain ⟨p1,p2,p3⟩ := put_same hk u
  have hu := (hasB_iff2.1 q4).1
  have hun:decide (u < (0:Int)) = false := decide_eq_false (by omega)
  simp only [q1,q2,Option.bind_some,impl_Stream_heard,spec_l19Hear,spec_l19Hear_R4,hun,cond_false,p1,p2]
  by_cases hc:(putL kn u).length ≤ 200
  ·left
   have e:decide (((putL kn u).length:Int) ≤ (200:Int)) = true := decide_eq_true (by omega)
   refine ⟨ys,putL kn u,k,t,s + 1,d,k2,t2,s2,d2,se ++ [v],go, ?_, ?_,q3,q7, ?_,linkV_pre h2 q7, .inr ⟨u,rfl,q4,hc⟩, .inr ⟨v,rfl,hasB_pre q6 q7⟩, .inl rfl⟩
   ·simp only [decide_eq_true hc,cond_true,Bool.not_true,cond_false,room_s (show se.length ≤ 1000000 by omega)]
   ·simp only [e]
   ·obtain ⟨l1,l2,l3⟩ := linkV_iff.1 h1
    exact linkV_iff.2 ⟨hasB_pre l1 q7,l2,by omega,by omega⟩
  ·have e:decide (((putL kn u).length:Int) ≤ (200:Int)) = false := decide_eq_false (by omega)
   refine .inr ⟨(ys,kn,k,t,s + 1,d,k2,t2,s2,d2,se,go),(ys,putL kn u,k,t,s + 1,d,k2,t2,s2,d2,se ++ [v],go), ?_, ?_⟩
   ·simp only [decide_eq_false hc,cond_true,Bool.not_false,cond_false]
   ·simp only [e]
 ·refine .inr ⟨(xs,kn,k,t,s,d,k2,t2,s2,d2,se,go),(xs,kn,k,t,s,d,k2,t2,s2,d2,se ++ [v],go), ?_, ?_⟩
  ·simp only [q1,Option.bind_some,impl_Stream_heard,hm1,cond_true,Bool.not_false]
  ·simp only [q2,Option.bind_some,spec_l19Hear,hm1,cond_true]
theorem both_end (h:streamV xs kn k t s k2 t2 s2 se go = true):Both xs kn k t s d k2 t2 s2 d2 se go (impl_Stream_end N0 (xs,kn,k,t,s,d,k2,t2,s2,d2,se,go)) (spec_l19Do N0 (xs,kn,k,t,s,d,k2,t2,s2,d2,se,go,(3:Int),v,T)) := by
 obtain ⟨hk,h1,h2,h3,h4⟩ := streamV_iff.1 h
 have hp := knowV_pool hk
 have hl := poolB_len hp
 have hse := (termsV_iff.1 h3).2
 have hgo := (termsV_iff.1 h4).2
 have hm1:decide ((-1:Int) < 0) = true := rfl
 unfold impl_Stream_end impl_Stream_end_R1 impl_Stream_end_R2 spec_l19Do
 dsimp only
 simp only [Int.reduceBEq,beq_self_eq_true,cond_true,cond_false]
 rcases close_same (d := d) hp h1 with ⟨ys,u,q1,q2,q3,q4,q7⟩ | ⟨q1,q2⟩
 ·obtain ⟨p1,p2,p3⟩ := put_same hk u
  have hu := (hasB_iff2.1 q4).1
  have hun:decide (u < (0:Int)) = false := decide_eq_false (by omega)
  simp only [q1,q2,Option.bind_some,impl_Stream_heard,spec_l19Hear,spec_l19Hear_R4,hun,cond_false,p1,p2]
  by_cases hc:(putL kn u).length ≤ 200
  ·left
   have e:decide (((putL kn u).length:Int) ≤ (200:Int)) = true := decide_eq_true (by omega)
   refine ⟨ys,putL kn u,k,t,s,true,k2,t2,s2,d2,se,go, ?_, ?_,q3,q7,linkV_pre h1 q7,linkV_pre h2 q7, .inr ⟨u,rfl,q4,hc⟩, .inl rfl, .inl rfl⟩
   ·simp only [decide_eq_true hc,cond_true]
   ·simp only [e]
  ·have e:decide (((putL kn u).length:Int) ≤ (200:Int)) = false := decide_eq_false (by omega)
   refine .inr ⟨(ys,kn,k,t,s,true,k2,t2,s2,d2,se,go),(ys,putL kn u,k,t,s,true,k2,t2,s2,d2,se,go), ?_, ?_⟩
   ·simp only [decide_eq_false hc,cond_false]
   ·simp only [e]
 ·refine .inr ⟨(xs,kn,k,t,s,d,k2,t2,s2,d2,se,go),(xs,kn,k,t,s,d,k2,t2,s2,d2,se,go), ?_, ?_⟩
  ·simp only [q1,Option.bind_some,impl_Stream_heard,hm1,cond_true]
  ·simp only [q2,Option.bind_some,spec_l19Hear,hm1,cond_true]
theorem both_turn (h:streamV xs kn k t s k2 t2 s2 se go = true) (bb:Bool):Both xs kn k t s d k2 t2 s2 d2 se go (impl_Stream_turn N0 (xs,kn,k,t,s,d,k2,t2,s2,d2,se,go,bb)) (spec_l19Do N0 (xs,kn,k,t,s,d,k2,t2,s2,d2,se,go,(2:Int),v,T)) := by
 obtain ⟨hk,h1,h2,h3,h4⟩ := streamV_iff.1 h
 have hp := knowV_pool hk
 have hl := poolB_len hp
 have hse := (termsV_iff.1 h3).2
 have hgo := (termsV_iff.1 h4).2
 have hm1:decide ((-1:Int) < 0) = true := rfl
 unfold impl_Stream_turn impl_Stream_turn_R1 impl_Stream_turn_R2 spec_l19Do
 dsimp only
 simp only [Int.reduceBEq,beq_self_eq_true,cond_true,cond_false]
 have lf := linkV_iff.1 h1
 rcases turn_same (d := d) hp h1 with ⟨ys,u,q1,q2,q3,q4,q5,q7⟩ | ⟨q1,q2⟩
 ·simp only [q1,q2,Option.bind_some]
  exact .inl ⟨ys,kn,u,t + 1,0,false,k2,t2,s2,d2,se,go,rfl,rfl,q3,q7,(linkV_iff.2 ⟨q4,by omega,by omega⟩),linkV_pre h2 q7, .inl rfl, .inl rfl, .inl rfl⟩
 ·simp only [q1,q2,Option.bind_some]
  exact .inr ⟨(xs,kn,k,t,s,d,k2,t2,s2,d2,se,go),(xs,kn,k,t,s,d,k2,t2,s2,d2,se,go),rfl,rfl⟩
theorem both_turn_o (h:streamV xs kn k t s k2 t2 s2 se go = true) (bb:Bool):Both xs kn k t s d k2 t2 s2 d2 se go (impl_Stream_turn_o N0 (xs,kn,k,t,s,d,k2,t2,s2,d2,se,go,bb)) (spec_l19Do N0 (xs,kn,k,t,s,d,k2,t2,s2,d2,se,go,(5:Int),v,T)) := by
 obtain ⟨hk,h1,h2,h3,h4⟩ := streamV_iff.1 h
 have hp := knowV_pool hk
 have hl := poolB_len hp
 have hse := (termsV_iff.1 h3).2
 have hgo := (termsV_iff.1 h4).2
 have hm1:decide ((-1:Int) < 0) = true := rfl
 unfold impl_Stream_turn_o impl_Stream_turn_o_R1 impl_Stream_turn_o_R2 spec_l19Do
 dsimp only
 simp only [Int.reduceBEq,beq_self_eq_true,cond_true,cond_false]
 have lf := linkV_iff.1 h2
 rcases turn_same (d := d2) hp h2 with ⟨ys,u,q1,q2,q3,q4,q5,q7⟩ | ⟨q1,q2⟩
 ·simp only [q1,q2,Option.bind_some]
  exact .inl ⟨ys,kn,k,t,s,d,u,t2 + 1,0,false,se,go,rfl,rfl,q3,q7,linkV_pre h1 q7,(linkV_iff.2 ⟨q4,by omega,by omega⟩), .inl rfl, .inl rfl, .inl rfl⟩
 ·simp only [q1,q2,Option.bind_some]
  exact .inr ⟨(xs,kn,k,t,s,d,k2,t2,s2,d2,se,go),(xs,kn,k,t,s,d,k2,t2,s2,d2,se,go),rfl,rfl⟩
theorem both_take (h:streamV xs kn k t s k2 t2 s2 se go = true):Both xs kn k t s d k2 t2 s2 d2 se go (impl_Stream_take N0 (xs,kn,k,t,s,d,k2,t2,s2,d2,se,go,T)) (spec_l19Do N0 (xs,kn,k,t,s,d,k2,t2,s2,d2,se,go,(4:Int),v,T)) := by
 obtain ⟨hk,h1,h2,h3,h4⟩ := streamV_iff.1 h
 have hp := knowV_pool hk
 have hl := poolB_len hp
 have hse := (termsV_iff.1 h3).2
 have hgo := (termsV_iff.1 h4).2
 have hm1:decide ((-1:Int) < 0) = true := rfl
 have hkl := knowV_len hk
 unfold impl_Stream_take impl_Stream_take_R1 impl_Stream_take_R4 impl_Stream_take_R7 spec_l19Do
 dsimp only
 simp only [Int.reduceBEq,beq_self_eq_true,cond_true,cond_false]
 obtain ⟨ys,u,b,c,r1,r2,r3,r4,r5,r6⟩ := recipe_same (xs := xs) (by omega) (kn := kn) (by omega) T
 simp only [r1,r2,Option.bind_some]
 cases hc:(c != (0:Int)) with
 | true =>
  simp only [cond_true]
  exact .inr ⟨(xs,kn,k,t,s,d,k2,t2,s2,d2,se,go),(xs,kn,k,t,s,d,k2,t2,s2,d2,se,go),rfl,rfl⟩
 | false =>
  have hc0:c = 0 := by simpa using hc
  obtain ⟨_,f2,f3⟩ := r5 hc0
  obtain ⟨f4,f5,_⟩ := r4 hp
  obtain ⟨s',d',w,e,g1,g2,g3,g4,g5⟩ := linkTake_same (v := u) (d := d2) f4 (linkV_pre h2 f5)
  simp only [cond_false,g1,g2,Option.bind_some]
  have lf := linkV_iff.1 (linkV_pre h2 f5)
  have hk2:linkV ys k2 t2 s' = true := linkV_iff.2 ⟨lf.1,lf.2.1,g3,g4⟩
  by_cases hw:0 ≤ w
  ·obtain ⟨w1,w2⟩ := g5 hw
   have hw':decide (w ≥ (0:Int)) = true := decide_eq_true hw
   subst w2
   simp only [hw',bne_self_eq_false,beq_self_eq_true,cond_true,cond_false,room_s (show go.length ≤ 1000000 by omega)]
   exact .inl ⟨ys,kn,k,t,s,d,k2,t2,s',d',se,go ++ [w],rfl,rfl,f4,f5,linkV_pre h1 f5,hk2, .inl rfl, .inl rfl, .inr ⟨w,rfl,w1⟩⟩
  ·have hw':decide (w ≥ (0:Int)) = false := decide_eq_false hw
   simp only [hw',cond_false]
   by_cases he:e = 0
   ·subst he
    simp only [bne_self_eq_false,beq_self_eq_true,cond_false]
    exact .inl ⟨ys,kn,k,t,s,d,k2,t2,s',d',se,go,rfl,rfl,f4,f5,linkV_pre h1 f5,hk2, .inl rfl, .inl rfl, .inl rfl⟩
   ·simp only [show (e != (0:Int)) = true from by rw [bne_iff_ne]; exact he,show (e == (0:Int)) = false from by rw [beq_eq_false_iff_ne]; exact he,cond_true]
    exact .inr ⟨(xs,kn,k,t,s,d,k2,t2,s2,d2,se,go),(ys,kn,k,t,s,d,k2,t2,s',d',se,go),rfl,rfl⟩
def actV (act v:Int) (T:ByteArray):Bool := (act == 4 && v == 0) || (strEq T (⟨#[]⟩:ByteArray) && (act == 1 || ((act == 2 || (act == 3 || act == 5)) && v == 0)))
theorem action_eq:spec_l19Action N0 (act,v,T) = some (actV act v T) := by
 unfold spec_l19Action actV
 dsimp only
 by_cases a1:act = 1
 ·subst a1; simp
 by_cases a4:act = 4
 ·subst a4; simp [strEq_self]
 by_cases a2:act = 2
 ·subst a2; simp [Bool.and_comm]
 by_cases a3:act = 3
 ·subst a3; simp [Bool.and_comm]
 by_cases a5:act = 5
 ·subst a5; simp [Bool.and_comm]
 have n1:(act == (1:Int)) = false := by rw [beq_eq_false_iff_ne]; exact a1
 have n2:(act == (2:Int)) = false := by rw [beq_eq_false_iff_ne]; exact a2
 have n3:(act == (3:Int)) = false := by rw [beq_eq_false_iff_ne]; exact a3
 have n4:(act == (4:Int)) = false := by rw [beq_eq_false_iff_ne]; exact a4
 have n5:(act == (5:Int)) = false := by rw [beq_eq_false_iff_ne]; exact a5
 simp only [n1,n2,n3,n4,n5,cond_false,Bool.false_and,Bool.or_false,Bool.and_false,Bool.false_or]
theorem do_both (h:streamV xs kn k t s k2 t2 s2 se go = true):(actV act v T = true ∧ Both xs kn k t s d k2 t2 s2 d2 se go (impl_Stream_do N0 (xs,kn,k,t,s,d,k2,t2,s2,d2,se,go,act,v,T)) (spec_l19Do N0 (xs,kn,k,t,s,d,k2,t2,s2,d2,se,go,act,v,T))) ∨ (actV act v T = false ∧ impl_Stream_do N0 (xs,kn,k,t,s,d,k2,t2,s2,d2,se,go,act,v,T) = some (xs,kn,k,t,s,d,k2,t2,s2,d2,se,go,false)) := by
 unfold impl_Stream_do
 dsimp only
 by_cases a1:act = 1
 ·subst a1
  simp only [beq_self_eq_true,cond_true]
  cases hT:strEq T (⟨#[]⟩:ByteArray) with
  | true =>
   left
   refine ⟨by simp [actV,hT], ?_⟩
   simp only [cond_true]
   rcases both_send (v := v) (T := T) (d := d) (d2 := d2) h with ⟨ys,kn',k',t',s',d',k2',t2',s2',d2',se',go',q1,q2,q3⟩ | ⟨y,z,q1,q2⟩
   ·simp only [q1,Option.bind_some]
    exact .inl ⟨ys,kn',k',t',s',d',k2',t2',s2',d2',se',go',rfl,q2,q3⟩
   ·simp only [q1,Option.bind_some]
    exact .inr ⟨y,z,rfl,q2⟩
  | false =>
   right
   refine ⟨by simp [actV,hT], ?_⟩
   cases hv:(v != (0:Int)) <;> simp [hv]
 by_cases a4:act = 4
 ·subst a4
  simp only [Int.reduceBEq,cond_false,beq_self_eq_true,cond_true]
  cases hv:(v == (0:Int)) with
  | true =>
   left
   refine ⟨by simp [actV,hv], ?_⟩
   simp only [cond_true]
   rcases both_take (v := v) (T := T) (d := d) (d2 := d2) h with ⟨ys,kn',k',t',s',d',k2',t2',s2',d2',se',go',q1,q2,q3⟩ | ⟨y,z,q1,q2⟩
   ·simp only [q1,Option.bind_some]
    exact .inl ⟨ys,kn',k',t',s',d',k2',t2',s2',d2',se',go',rfl,q2,q3⟩
   ·simp only [q1,Option.bind_some]
    exact .inr ⟨y,z,rfl,q2⟩
  | false =>
   right
   refine ⟨by simp [actV,hv], ?_⟩
   simp only [cond_false,show (v != (0:Int)) = true from by rw [bne,hv]; rfl,cond_true]
 have n1:(act == (1:Int)) = false := by rw [beq_eq_false_iff_ne]; exact a1
 have n4:(act == (4:Int)) = false := by rw [beq_eq_false_iff_ne]; exact a4
 simp only [n1,n4,cond_false]
 cases hv:(v == (0:Int)) with
 | false =>
  right
  have hv2:(v != (0:Int)) = true := by rw [bne,hv]; rfl
  refine ⟨by simp [actV,hv,n1], ?_⟩
  simp only [hv2,cond_true]
 | true =>
  have hv2:(v != (0:Int)) = false := by rw [bne,hv]; rfl
  simp only [hv2,cond_false]
  cases hT:strEq T (⟨#[]⟩:ByteArray) with
  | false =>
   right
   refine ⟨by simp [actV,hT,n4], ?_⟩
   simp only [Bool.not_false,cond_true]
  | true =>
   simp only [Bool.not_true,cond_false]
   by_cases a2:act = 2
   ·subst a2
    left
    refine ⟨by simp [actV,hT,hv], ?_⟩
    simp only [Int.reduceBEq,cond_false,beq_self_eq_true,cond_true]
    rcases both_turn (v := v) (T := T) (d := d) (d2 := d2) h false with ⟨ys,kn',k',t',s',d',k2',t2',s2',d2',se',go',q1,q2,q3⟩ | ⟨y,z,q1,q2⟩
    ·simp only [q1,Option.bind_some]
     exact .inl ⟨ys,kn',k',t',s',d',k2',t2',s2',d2',se',go',rfl,q2,q3⟩
    ·simp only [q1,Option.bind_some]
     exact .inr ⟨y,z,rfl,q2⟩
   by_cases a5:act = 5
   ·subst a5
    left
    refine ⟨by simp [actV,hT,hv], ?_⟩
    simp only [Int.reduceBEq,cond_false,beq_self_eq_true,cond_true]
    rcases both_turn_o (v := v) (T := T) (d := d) (d2 := d2) h false with ⟨ys,kn',k',t',s',d',k2',t2',s2',d2',se',go',q1,q2,q3⟩ | ⟨y,z,q1,q2⟩
    ·simp only [q1,Option.bind_some]
     exact .inl ⟨ys,kn',k',t',s',d',k2',t2',s2',d2',se',go',rfl,q2,q3⟩
    ·simp only [q1,Option.bind_some]
     exact .inr ⟨y,z,rfl,q2⟩
   by_cases a3:act = 3
   ·subst a3
    left
    refine ⟨by simp [actV,hT,hv], ?_⟩
    simp only [Int.reduceBEq,cond_false,beq_self_eq_true,cond_true]
    rcases both_end (v := v) (T := T) (d := d) (d2 := d2) h  with ⟨ys,kn',k',t',s',d',k2',t2',s2',d2',se',go',q1,q2,q3⟩ | ⟨y,z,q1,q2⟩
    ·simp only [q1,Option.bind_some]
     exact .inl ⟨ys,kn',k',t',s',d',k2',t2',s2',d2',se',go',rfl,q2,q3⟩
    ·simp only [q1,Option.bind_some]
     exact .inr ⟨y,z,rfl,q2⟩
   right
   have n2:(act == (2:Int)) = false := by rw [beq_eq_false_iff_ne]; exact a2
   have n3:(act == (3:Int)) = false := by rw [beq_eq_false_iff_ne]; exact a3
   have n5:(act == (5:Int)) = false := by rw [beq_eq_false_iff_ne]; exact a5
   refine ⟨by simp [actV,n1,n2,n3,n4,n5], ?_⟩
   simp only [n2,n3,n5,cond_false]
end
end AM
end Go.Proofs.YtleofghbkfpdaaaGreatDoor
