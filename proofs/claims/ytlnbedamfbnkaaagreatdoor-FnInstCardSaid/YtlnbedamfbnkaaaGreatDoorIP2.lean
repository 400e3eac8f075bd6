/- Small laws on whole numbers that wrap, on strings as lists of bytes, and on answers that may be none. No condition. And what follows it: see the remarks. -/
import Derived.Test.YtlnbedamfbnkaaaGreatDoorIW4
import Derived.Lib.ItoaNum
import Derived.Lib.IndexMore
import Derived.Laws.BitsLemmas
import Derived.Test.YtlnbedamfbnkaaaGreatDoorIALd
import Derived.Test.YtlnbedamfbnkaaaGreatDoorIP1
import Derived.Lib.AtoiAllCases
namespace Go.Proofs.YtlnbedamfbnkaaaGreatDoor
namespace AM
open Go
set_option linter.unusedSimpArgs false
set_option linter.unusedVariables false
theorem strEq_self (a:ByteArray):strEq a a = true := decide_eq_true rfl
end AM
end Go.Proofs.YtlnbedamfbnkaaaGreatDoor
namespace Go.Proofs.YtlnbedamfbnkaaaGreatDoor
namespace AM
open Go
set_option linter.unusedVariables false
set_option linter.unusedSimpArgs false
abbrev N0:Nat := 1000000000000000000000000000000
theorem wrap_ok {n:Int} (h1:-9223372036854775808 ≤ n) (h2:n ≤ 9223372036854775807):IntKind.i64.wrap n = n := by
 rw [IntKind.wrap_i64]; omega
theorem getD_of {α:Type} {l:List α} {i:Nat} (h:i < l.length) (d:α):l.getD i d = l[i] := by
 rw [List.getD_eq_getElem?_getD,List.getElem?_eq_getElem h]; rfl
theorem inb_nat {i n:Nat} (h:i < n):inb (i:Int) n = true := by
 unfold inb
 exact decide_eq_true ⟨Int.natCast_nonneg _,by omega⟩
theorem step_wrap {i n:Nat} (hi:i < n) (hn:n ≤ 4294967296):IntKind.i64.wrap ((i:Int) + (1:Int)) = ((i + 1:Nat):Int) := by
 rw [wrap_ok (by omega) (by omega)]; omega
theorem eqv_self:∀ (t:Ty),t.hasSl = false → ∀ x:t.den,t.eqv x x = true
 | .int _,_,x => by simp [Ty.eqv]
 | .bool,_,x => by simp [Ty.eqv]
 | .str,_,x => decide_eq_true rfl
 | .sl _,h,_ => by cases h
 | .pr a b,h,x => by
  have h:(a.hasSl || b.hasSl) = false := h
  rw [Bool.or_eq_false_iff] at h
  show (a.eqv x.1 x.1 && b.eqv x.2 x.2) = true
  rw [eqv_self a h.1,eqv_self b h.2]; rfl
theorem mfind_len {kt:Ty} {k:kt.den} {m:List (kt.den×Int)} {j:Nat} {v:Int} (h:mfind kt k m 0 = some (j,v)):j < m.length := by
 obtain ⟨_,h2⟩ := mfind_spec h
 exact (List.getElem?_eq_some_iff.1 h2).1
theorem mset_set {α:Type} {y:Int} {k:α} {c:Int}:∀ {m:List (α×Int)} {j:Nat},j < m.length → msetG y (m.set j (k,c)) j = m.set j (k,y)
 | [],_,h => by simp at h
 | p :: r,0,_ => rfl
 | p :: r,j + 1,h => by
  show p :: msetG y (r.set j (k,c)) j = p :: r.set j (k,y)
  rw [mset_set (by simpa using h)]
theorem mset_push {α:Type} {y:Int} {k:α} {c:Int}:∀ {m:List (α×Int)},msetG y (m ++ [(k,c)]) m.length = m ++ [(k,y)]
 | [] => rfl
 | p :: r => by
  show p :: msetG y (r ++ [(k,c)]) r.length = p :: (r ++ [(k,y)])
  rw [mset_push]
theorem mset_mput {kt:Ty} {k:kt.den} {c y:Int} {m:List (kt.den×Int)}:mset (mpos kt k m) y (mput kt k c m) = mput kt k y m := by
 unfold mset mpos mput
 cases h:mfind kt k m 0 with
 | some p =>
  obtain ⟨j,v⟩ := p
  dsimp only
  rw [Int.toNat_natCast]
  exact mset_set (mfind_len h)
 | none =>
  dsimp only
  rw [Int.toNat_natCast]
  exact mset_push
theorem mpos_in {kt:Ty} {k:kt.den} {c:Int} {m:List (kt.den×Int)}:inb (mpos kt k m) (mput kt k c m).length = true := by
 unfold mpos mput
 cases h:mfind kt k m 0 with
 | some p =>
  obtain ⟨j,v⟩ := p
  dsimp only
  rw [List.length_set]
  exact inb_nat (mfind_len h)
 | none =>
  dsimp only
  rw [List.length_append]
  exact inb_nat (by simp)
theorem mfind_set_ne {kt:Ty} {k k':kt.den} {x:Int} (hne:kt.eqv k' k = false):∀ {m:List (kt.den×Int)} {i j:Nat} {v:Int},mfind kt k m i = some (j,v) → mfind kt k' (m.set (j - i) (k,x)) i = mfind kt k' m i
 | [],_,_,_,h => by cases h
 | p :: r,i,j,v,h => by
  unfold mfind at h
  cases q:kt.eqv k p.1 with
  | true =>
   rw [q] at h
   obtain ⟨rfl,rfl⟩ := Prod.mk.inj (Option.some.inj h)
   rw [Nat.sub_self,List.set_cons_zero]
   have := eqv_eq kt q
   unfold mfind
   rw [hne, ← this,hne]
   rfl
  | false =>
   rw [q] at h
   have h:mfind kt k r (i + 1) = some (j,v) := h
   obtain ⟨h1,_⟩ := mfind_spec h
   rw [show j - i = (j - (i + 1)) + 1 by omega,List.set_cons_succ]
   unfold mfind
   rw [mfind_set_ne hne h]
theorem mfind_push_ne {kt:Ty} {k k':kt.den} {x:Int} (hne:kt.eqv k' k = false):∀ {m:List (kt.den×Int)} {i:Nat},mfind kt k' (m ++ [(k,x)]) i = mfind kt k' m i
 | [],i => by
  show mfind kt k' [(k,x)] i = _
  unfold mfind
  rw [hne]; rfl
 | p :: r,i => by
  show mfind kt k' (p :: (r ++ [(k,x)])) i = _
  unfold mfind
  rw [mfind_push_ne hne]
theorem mget_mput_ne {kt:Ty} {k k':kt.den} {x:Int} {m:List (kt.den×Int)} (hne:kt.eqv k' k = false):mget kt k' (mput kt k x m) = mget kt k' m := by
 unfold mget mput
 cases h:mfind kt k m 0 with
 | some p =>
  obtain ⟨j,v⟩ := p
  have := mfind_set_ne (x := x) hne h
  rw [Nat.sub_zero] at this
  simp only [this]
 | none => simp only [mfind_push_ne hne]
abbrev Node3 := Int×(Int×Int)
abbrev kN:Ty := .pr (.int .i64) (.pr (.int .i64) (.int .i64))
theorem inRange_eq (n:Nat) (a b c:Int):impl_inRange n (a,b,c) = some (decide (a ≥ b) && decide (a ≤ c)) := by
 unfold impl_inRange
 cases decide (a ≥ b) <;> rfl
theorem in_eq (n:Nat) (a b c:Int):spec_l1In n (a,b,c) = some (decide (a ≥ b) && decide (a ≤ c)) := inRange_eq n a b c
theorem count_some (n:Nat) (x:Int):∃ v,impl_count n x = some v := by
 unfold impl_count
 simp only [cond_eq_ite]
 repeat' split
 all_goals exact ⟨_,rfl⟩
theorem nodeOk_some (n:Nat) (x:Int×Int×Int×Int):∃ v,impl_nodeOk n x = some v := by
 unfold impl_nodeOk
 obtain ⟨v,hv⟩ := count_some n x.1
 rw [hv]
 simp only [Option.bind_some,inRange_eq,cond_eq_ite]
 repeat' split
 all_goals exact ⟨_,rfl⟩
def nodeV (n:Nat) (x:Int×Int×Int×Int):Bool := (impl_nodeOk n x).getD false
theorem nodeOk_eq (n:Nat) (x):impl_nodeOk n x = some (nodeV n x) := by
 obtain ⟨v,hv⟩ := nodeOk_some n x
 unfold nodeV
 rw [hv]; rfl
theorem right_eq (n:Nat) (x):spec_l1Right n x = some (nodeV n x) := nodeOk_eq n x
def okFrom (n:Nat) (pre:List Node3):List Node3 → Bool
 | [] => true
 | k :: r => (!pre.contains k && nodeV n (k.1,k.2.1,k.2.2,(pre.length:Int))) && okFrom n (pre ++ [k]) r
theorem find_loop (n:Nat) {pre r:List Node3} {k:Node3} (hx:(pre ++ k :: r).length ≤ 4294967296):∀ (m j:Nat),j ≤ pre.length → pre.length < m + j →
  ∃ q:Nat,spec_l1Find_L2 n m (pre ++ k :: r,k.1,k.2.1,k.2.2,(j:Int)) = some (Sum.inl (q:Int)) ∧ q ≤ pre.length ∧ (q = pre.length ↔ k ∉ pre.drop j)
 | 0,j,h1,h2 => by omega
 | m + 1,j,h1,h2 => by
  have hlt:j < (pre ++ k :: r).length := by simp; omega
  have e0:spec_l1Find_L2 n (m + 1) (pre ++ k :: r,k.1,k.2.1,k.2.2,(j:Int)) = (cond (decide ((j:Int) < ((pre ++ k :: r).length:Int))) (cond (inb (j:Int) (pre ++ k :: r).length) (cond (((pre ++ k :: r).getD ((j:Int)).toNat ((0:Int),((0:Int),(0:Int)))).1 == k.1 && (((pre ++ k :: r).getD ((j:Int)).toNat ((0:Int),((0:Int),(0:Int)))).2.1 == k.2.1 && (((pre ++ k :: r).getD ((j:Int)).toNat ((0:Int),((0:Int),(0:Int)))).2.2 == k.2.2 && true))) (some (Sum.inl (j:Int))) (spec_l1Find_L2 n m (pre ++ k :: r,k.1,k.2.1,k.2.2,IntKind.i64.wrap ((j:Int) + (1:Int))))) none) (some (Sum.inr ()))) := rfl
  rw [e0,decide_eq_true (by omega:(j:Int) < ((pre ++ k :: r).length:Int)),cond_true,inb_nat hlt,cond_true,Int.toNat_natCast,getD_of hlt]
  have heq:∀ p:Node3,(p.1 == k.1 && (p.2.1 == k.2.1 && (p.2.2 == k.2.2 && true))) = decide (p = k) := by
   intro p
   obtain ⟨p1,p2,p3⟩ := p
   obtain ⟨k1,k2,k3⟩ := k
   rw [Bool.eq_iff_iff]
   simp
  rw [heq]
  rcases Nat.lt_or_ge j pre.length with q | q
  ·have hg:(pre ++ k :: r)[j] = pre[j] := List.getElem_append_left q
   rw [hg]
   have hd:pre.drop j = pre[j] :: pre.drop (j + 1) := List.drop_eq_getElem_cons q
   by_cases hk:pre[j] = k
   ·rw [decide_eq_true hk,cond_true]
    exact ⟨j,rfl,by omega,by rw [hd,hk]; simp; omega⟩
   ·rw [decide_eq_false hk,cond_false,step_wrap hlt hx]
    obtain ⟨z,g1,g2,g3⟩ := find_loop n hx m (j + 1) q (by omega)
    refine ⟨z,g1,g2,g3.trans ?_⟩
    rw [hd,List.mem_cons]
    constructor
    ·intro h h2
     rcases h2 with h2 | h2
     ·exact hk h2.symm
     ·exact h h2
    ·exact fun h h2 => h (.inr h2)
  ·have hj:j = pre.length := by omega
   subst hj
   rw [show (pre ++ k :: r)[pre.length] = k by simp,decide_eq_true rfl,cond_true]
   exact ⟨pre.length,rfl,Nat.le_refl _,by simp⟩
theorem find_eq (n:Nat) (hn:4294967296 < n) {pre r:List Node3} {k:Node3} (hx:(pre ++ k :: r).length ≤ 4294967296):∃ q:Int,spec_l1Find n (pre ++ k :: r,k.1,k.2.1,k.2.2) = some q ∧ (q != (pre.length:Int)) = pre.contains k := by
  have hlen : pre.length < n := by have : pre.length ≤ (pre ++ k :: r).length := by simp
                                   omega
  obtain ⟨z,g1,g2,g3⟩ := find_loop n hx n 0 (Nat.zero_le _) (by omega)
  refine ⟨(z:Int), ?_, ?_⟩
  · show ((spec_l1Find_L2 n n (pre ++ k :: r,k.1,k.2.1,k.2.2,((0:Nat):Int))).bind _) = _
    rw [g1]; rfl
  · rw [List.drop_zero] at g3
    rw [Bool.eq_iff_iff]
    simp only [bne_iff_ne,ne_eq,List.contains_iff_mem]
    constructor
    · intro h
      exact Classical.byContradiction fun h2 => h (by rw [g3.2 h2])
    · intro h h2
      exact (g3.1 (by omega)) h
theorem specPool_loop (n:Nat) (hn:4294967296 < n):∀ (m:Nat) (pre r:List Node3),(pre ++ r).length ≤ 4294967296 → r.length < m → spec_PoolOk_L4 n m (pre ++ r,(pre.length:Int)) = some (bif okFrom n pre r then Sum.inr () else Sum.inl false)
 | 0,pre,r,hx,hm => by omega
 | m + 1,pre,[],hx,hm => by
  show (cond (decide ((pre.length:Int) < ((pre ++ []).length:Int))) _ _) = _
  rw [decide_eq_false (by simp),cond_false]; rfl
 | m + 1,pre,k :: r,hx,hm => by
  have hlt:pre.length < (pre ++ k :: r).length := by simp
  have e0:spec_PoolOk_L4 n (m + 1) (pre ++ k :: r,(pre.length:Int)) = (cond (decide ((pre.length:Int) < ((pre ++ k :: r).length:Int))) (cond (inb (pre.length:Int) (pre ++ k :: r).length) ((spec_l1Right n (((pre ++ k :: r).getD ((pre.length:Int)).toNat ((0:Int),((0:Int),(0:Int)))).1,((pre ++ k :: r).getD ((pre.length:Int)).toNat ((0:Int),((0:Int),(0:Int)))).2.1,((pre ++ k :: r).getD ((pre.length:Int)).toNat ((0:Int),((0:Int),(0:Int)))).2.2,(pre.length:Int))).bind fun r1 => (cond (!r1) (some (Sum.inl false)) (cond (inb (pre.length:Int) (pre ++ k :: r).length) ((spec_l1Find n (pre ++ k :: r,((pre ++ k :: r).getD ((pre.length:Int)).toNat ((0:Int),((0:Int),(0:Int)))).1,((pre ++ k :: r).getD ((pre.length:Int)).toNat ((0:Int),((0:Int),(0:Int)))).2.1,((pre ++ k :: r).getD ((pre.length:Int)).toNat ((0:Int),((0:Int),(0:Int)))).2.2)).bind fun r2 => (cond (r2 != (pre.length:Int)) (some (Sum.inl false)) (spec_PoolOk_L4 n m (pre ++ k :: r,IntKind.i64.wrap ((pre.length:Int) + (1:Int)))))) none))) none) (some (Sum.inr ()))) := rfl
  obtain ⟨q,g1,g2⟩ := find_eq n hn (pre := pre) (r := r) (k := k) hx
  rw [e0,decide_eq_true (by omega:(pre.length:Int) < ((pre ++ k :: r).length:Int)),cond_true,inb_nat hlt,cond_true,Int.toNat_natCast,getD_of hlt,show (pre ++ k :: r)[pre.length] = k by simp,right_eq,g1]
  simp only [Option.bind_some,cond_true]
  rw [g2,step_wrap hlt hx]
  have ih := specPool_loop n hn m (pre ++ [k]) r (by simpa using hx) (by simp at hm; omega)
  rw [show pre ++ [k] ++ r = pre ++ k :: r by simp,show (pre ++ [k]).length = pre.length + 1 by simp] at ih
  rw [ih]
  rw [show okFrom n pre (k :: r) = ((!pre.contains k && nodeV n (k.1,k.2.1,k.2.2,(pre.length:Int))) && okFrom n (pre ++ [k]) r) from rfl]
  cases nodeV n (k.1,k.2.1,k.2.2,(pre.length:Int)) <;> cases pre.contains k <;> cases okFrom n (pre ++ [k]) r <;> rfl
theorem specPool_eq (n:Nat) (hn:4294967296 < n) {xs:List Node3} (hx:xs.length ≤ 4294967296):spec_PoolOk n xs = some (decide (xs.length ≤ 500) && okFrom n [] xs) := by
 unfold spec_PoolOk
 by_cases q:xs.length ≤ 500
 ·rw [decide_eq_false (by omega:¬ (xs.length:Int) > (500:Int)),cond_false,decide_eq_true q,Bool.true_and]
  have := specPool_loop n hn n [] xs (by simpa using hx) (by omega)
  rw [List.nil_append,show (([]:List Node3).length:Int) = (0:Int) from rfl] at this
  rw [this]
  cases okFrom n [] xs <;> rfl
 ·rw [decide_eq_true (by omega:(xs.length:Int) > (500:Int)),cond_true,decide_eq_false q]; rfl
def Cnt (kvs:List (Node3×Int)) (pre:List Node3):Prop := ∀ k:Node3,mget kN k kvs = if k ∈ pre then 1 else 0
theorem eqv_N {a b:Node3}:kN.eqv a b = decide (a = b) := by
 rw [Bool.eq_iff_iff,decide_eq_true_iff]
 exact ⟨eqv_eq kN,fun h => h ▸ eqv_self kN rfl a⟩
theorem region_eq (n:Nat) (kvs:List (Node3×Int)) (i a b c:Int) (xs:List Node3) (l j:Int):impl_PoolOk_R7 n (kvs,i,a,b,c,xs,l,j) = some (mput kN (a,b,c) (IntKind.i64.wrap (mget kN (a,b,c) kvs + (1:Int))) kvs,i,a,b,c,xs,l,j) := by
 unfold impl_PoolOk_R7
 rw [mpos_in,cond_true,mset_mput]
theorem implPool_loop (n:Nat) {xs:List Node3} (hx:xs.length ≤ 4294967296):∀ (m:Nat) (pre r:List Node3) (kvs:List (Node3×Int)),xs = pre ++ r → Cnt kvs pre → r.length < m → impl_PoolOk_L5 n m (kvs,xs,(xs.length:Int),(pre.length:Int)) = some (bif okFrom n pre r then Sum.inr () else Sum.inl false)
 | 0,pre,r,kvs,he,hc,hm => by omega
 | m + 1,pre,[],kvs,he,hc,hm => by
  show (cond (decide ((pre.length:Int) < (xs.length:Int))) _ _) = _
  rw [decide_eq_false (by rw [he]; simp),cond_false]; rfl
 | m + 1,pre,k :: r,kvs,he,hc,hm => by
  have hlt:pre.length < xs.length := by rw [he]; simp
  have hk:xs[pre.length] = k := by simp [he]
  have e0:impl_PoolOk_L5 n (m + 1) (kvs,xs,(xs.length:Int),(pre.length:Int)) = (cond (decide ((pre.length:Int) < (xs.length:Int))) (cond (inb (pre.length:Int) xs.length) ((impl_PoolOk_R7 n (kvs,(pre.length:Int),(xs.getD ((pre.length:Int)).toNat ((0:Int),((0:Int),(0:Int)))).1,(xs.getD ((pre.length:Int)).toNat ((0:Int),((0:Int),(0:Int)))).2.1,(xs.getD ((pre.length:Int)).toNat ((0:Int),((0:Int),(0:Int)))).2.2,xs,(xs.length:Int),(pre.length:Int))).bind fun g1 => (cond (decide ((mget kN (g1.2.2.1,(g1.2.2.2.1,g1.2.2.2.2.1)) g1.1) > (1:Int))) (some (Sum.inl false)) ((impl_nodeOk n (g1.2.2.1,g1.2.2.2.1,g1.2.2.2.2.1,g1.2.1)).bind fun r2 => (cond (!r2) (some (Sum.inl false)) (impl_PoolOk_L5 n m (g1.1,g1.2.2.2.2.2.1,g1.2.2.2.2.2.2.1,(IntKind.i64.wrap (g1.2.2.2.2.2.2.2 + (1:Int))))))))) none) (some (Sum.inr ()))) := rfl
  rw [e0,decide_eq_true (by omega:(pre.length:Int) < (xs.length:Int)),cond_true,inb_nat hlt,cond_true,Int.toNat_natCast,getD_of hlt,hk,region_eq]
  simp only [Option.bind_some]
  have hself:kN.eqv (k.1,k.2.1,k.2.2) (k.1,k.2.1,k.2.2) = true := eqv_self kN rfl _
  have hke:((k.1,k.2.1,k.2.2):Node3) = k := rfl
  rw [mget_mput hself,nodeOk_eq,step_wrap hlt hx]
  rw [show okFrom n pre (k :: r) = ((!pre.contains k && nodeV n (k.1,k.2.1,k.2.2,(pre.length:Int))) && okFrom n (pre ++ [k]) r) from rfl]
  have hck := hc k
  by_cases hin:k ∈ pre
  ·rw [if_pos hin] at hck
   have:pre.contains k = true := by simpa using hin
   rw [this,show mget kN (k.1,k.2.1,k.2.2) kvs = 1 from hck]
   rfl
  ·rw [if_neg hin] at hck
   have hcf:pre.contains k = false := by simpa using hin
   rw [hcf,show mget kN (k.1,k.2.1,k.2.2) kvs = 0 from hck]
   rw [show decide (IntKind.i64.wrap ((0:Int) + (1:Int)) > (1:Int)) = false from rfl,cond_false]
   have ih := implPool_loop n hx m (pre ++ [k]) r (mput kN k (IntKind.i64.wrap ((0:Int) + (1:Int))) kvs) (by simpa using he) (by
    intro k'
    by_cases q:k' = k
    ·subst q
     rw [mget_mput (eqv_self kN rfl k')]
     simp; rfl
    ·rw [mget_mput_ne (by rw [eqv_N]; exact decide_eq_false q),hc k']
     simp [q]) (by simp at hm; omega)
   rw [show (pre ++ [k]).length = pre.length + 1 by simp] at ih
   simp only [Option.bind_some]
   rw [show mput kN (k.1,k.2.1,k.2.2) (IntKind.i64.wrap ((0:Int) + (1:Int))) kvs = mput kN k (IntKind.i64.wrap ((0:Int) + (1:Int))) kvs from rfl,ih]
   cases nodeV n (k.1,k.2.1,k.2.2,(pre.length:Int)) <;> cases okFrom n (pre ++ [k]) r <;> rfl
theorem implPool_eq (n:Nat) (hn:4294967296 < n) {xs:List Node3} (hx:xs.length ≤ 4294967296):impl_PoolOk n xs = some (decide (xs.length ≤ 500) && okFrom n [] xs) := by
 unfold impl_PoolOk
 by_cases q:xs.length ≤ 500
 ·rw [decide_eq_false (by omega:¬ (xs.length:Int) > (500:Int)),cond_false,decide_eq_true q,Bool.true_and]
  have := implPool_loop n hx n [] xs [] rfl (fun k => by simp [mget,mfind]) (by omega)
  rw [show (([]:List Node3).length:Int) = (0:Int) from rfl] at this
  rw [this]
  cases okFrom n [] xs <;> rfl
 ·rw [decide_eq_true (by omega:(xs.length:Int) > (500:Int)),cond_true,decide_eq_false q]; rfl
def hasB (xs:List Node3) (v:Int):Bool := decide (v ≥ 0) && decide (v ≤ (xs.length:Int) - 1)
theorem has_eq (n:Nat) {xs:List Node3} (hx:xs.length ≤ 4294967296) (v:Int):spec_l1Has n (xs,v) = some (hasB xs v) := by
 show ((spec_l1In n (v,(0:Int),IntKind.i64.wrap ((xs.length:Int) - (1:Int)))).bind fun r1 => some r1) = _
 rw [wrap_ok (by omega) (by omega),in_eq]; rfl
theorem isTerm_eq (n:Nat) {xs:List Node3} (hx:xs.length ≤ 4294967296) (v:Int):impl_Pool_isTerm n (xs,v) = some (xs,hasB xs v) := by
 show ((impl_inRange n (v,(0:Int),IntKind.i64.wrap ((xs.length:Int) - (1:Int)))).bind fun r1 => some (xs,r1)) = _
 rw [wrap_ok (by omega) (by omega),inRange_eq]; rfl
def envB (xs:List Node3):List Int → Bool
 | [] => true
 | v :: r => (v == -1 || hasB xs v) && envB xs r
theorem implEnv_loop (n:Nat) {xs:List Node3} (hx:xs.length ≤ 4294967296) {env:List Int} (he:env.length ≤ 4294967296):∀ (m:Nat) (pre r:List Int),env = pre ++ r → r.length < m →
  impl_EnvOk_L2 n m (env,xs,env,(env.length:Int),(pre.length:Int)) = some (bif envB xs r then Sum.inr (env,xs) else Sum.inl false)
 | 0,pre,r,h,hm => by omega
 | m + 1,pre,[],h,hm => by
  show (cond (decide ((pre.length:Int) < (env.length:Int))) _ _) = _
  rw [decide_eq_false (by rw [h]; simp),cond_false]; rfl
 | m + 1,pre,v :: r,h,hm => by
  have hlt:pre.length < env.length := by rw [h]; simp
  have hk:env[pre.length] = v := by simp [h]
  have e0:impl_EnvOk_L2 n (m + 1) (env,xs,env,(env.length:Int),(pre.length:Int)) = (cond (decide ((pre.length:Int) < (env.length:Int))) (cond (inb (pre.length:Int) env.length) (cond ((env.getD ((pre.length:Int)).toNat (0:Int)) != (-1:Int)) ((impl_Pool_isTerm n (xs,(env.getD ((pre.length:Int)).toNat (0:Int)))).bind fun r1 => (cond (!r1.2) (some (Sum.inl false)) (impl_EnvOk_L2 n m (env,r1.1,env,(env.length:Int),(IntKind.i64.wrap ((pre.length:Int) + (1:Int))))))) (impl_EnvOk_L2 n m (env,xs,env,(env.length:Int),(IntKind.i64.wrap ((pre.length:Int) + (1:Int)))))) none) (some (Sum.inr (env,xs)))) := rfl
  rw [e0,decide_eq_true (by omega:(pre.length:Int) < (env.length:Int)),cond_true,inb_nat hlt,cond_true,Int.toNat_natCast,getD_of hlt,hk,step_wrap hlt he,isTerm_eq n hx]
  have ih := implEnv_loop n hx he m (pre ++ [v]) r (by simpa using h) (by simp at hm; omega)
  rw [show (pre ++ [v]).length = pre.length + 1 by simp] at ih
  simp only [Option.bind_some,ih]
  rw [show envB xs (v :: r) = ((v == -1 || hasB xs v) && envB xs r) from rfl,show (v != -1) = !(v == -1) from rfl]
  cases v == -1 <;> cases hasB xs v <;> cases envB xs r <;> rfl
theorem implEnv_eq (n:Nat) (hn:4294967296 < n) {xs:List Node3} (hx:xs.length ≤ 4294967296) {env:List Int} (he:env.length ≤ 4294967296) :
  impl_EnvOk n (xs,env) = some (envB xs env && (decide (env.length = 26) && (decide (xs.length ≤ 500) && okFrom n [] xs))) := by
 have := implEnv_loop n hx he n [] env rfl (by omega)
 rw [show (([]:List Int).length:Int) = (0:Int) from rfl] at this
 show ((impl_EnvOk_L2 n n (env,xs,env,(env.length:Int),(0:Int))).bind _) = _
 rw [this]
 cases envB xs env with
 | false => rfl
 | true =>
  show (cond ((env.length:Int) == (26:Int)) ((impl_PoolOk n xs).bind fun r5 => some r5) (some false)) = _
  rw [implPool_eq n hn hx]
  by_cases q:env.length = 26
  ·rw [show ((env.length:Int) == (26:Int)) = true by rw [q]; rfl,decide_eq_true q]; rfl
  ·rw [show ((env.length:Int) == (26:Int)) = false by simp; omega,decide_eq_false q]; rfl
theorem specEnv_loop (n:Nat) {xs:List Node3} (hx:xs.length ≤ 4294967296) {env:List Int} (he:env.length = 26):∀ (m:Nat) (pre r:List Int),env = pre ++ r → r.length < m →
  spec_l11Env_L4 n m (env,xs,(pre.length:Int)) = some (bif envB xs r then Sum.inr () else Sum.inl false)
 | 0,pre,r,h,hm => by omega
 | m + 1,pre,[],h,hm => by
  show (cond (decide ((pre.length:Int) < (26:Int))) _ _) = _
  have:pre.length = 26 := by rw [h] at he; simpa using he
  rw [decide_eq_false (by omega),cond_false]; rfl
 | m + 1,pre,v :: r,h,hm => by
  have hlt:pre.length < env.length := by rw [h]; simp
  have hk:env[pre.length] = v := by simp [h]
  have e0:spec_l11Env_L4 n (m + 1) (env,xs,(pre.length:Int)) = (cond (decide ((pre.length:Int) < (26:Int))) (cond (inb (pre.length:Int) env.length) (cond ((env.getD ((pre.length:Int)).toNat (0:Int)) != (-1:Int)) (cond (inb (pre.length:Int) env.length) ((spec_l1Has n (xs,(env.getD ((pre.length:Int)).toNat (0:Int)))).bind fun r1 => (cond (!r1) (some (Sum.inl false)) (spec_l11Env_L4 n m (env,xs,(IntKind.i64.wrap ((pre.length:Int) + (1:Int))))))) none) (spec_l11Env_L4 n m (env,xs,(IntKind.i64.wrap ((pre.length:Int) + (1:Int)))))) none) (some (Sum.inr ()))) := rfl
  rw [e0,decide_eq_true (by omega:(pre.length:Int) < (26:Int)),cond_true,inb_nat hlt,cond_true,cond_true,Int.toNat_natCast,getD_of hlt,hk,step_wrap hlt (by omega),has_eq n hx]
  have ih := specEnv_loop n hx he m (pre ++ [v]) r (by simpa using h) (by simp at hm; omega)
  rw [show (pre ++ [v]).length = pre.length + 1 by simp] at ih
  simp only [Option.bind_some,ih]
  rw [show envB xs (v :: r) = ((v == -1 || hasB xs v) && envB xs r) from rfl,show (v != -1) = !(v == -1) from rfl]
  cases v == -1 <;> cases hasB xs v <;> cases envB xs r <;> rfl
theorem specEnv_eq (n:Nat) (hn:4294967296 < n) {xs:List Node3} (hx:xs.length ≤ 4294967296) {env:List Int}:spec_l11Env n (xs,env) = some (decide (env.length = 26) && envB xs env) := by
 show (cond ((env.length:Int) != (26:Int)) (some false) ((spec_l11Env_L4 n n (env,xs,(0:Int))).bind _)) = _
 by_cases q:env.length = 26
 ·have := specEnv_loop n hx q n [] env rfl (by omega)
  rw [show (([]:List Int).length:Int) = (0:Int) from rfl] at this
  rw [show ((env.length:Int) != (26:Int)) = false by rw [q]; rfl,cond_false,this,decide_eq_true q]
  cases envB xs env <;> rfl
 ·rw [show ((env.length:Int) != (26:Int)) = true by simp; omega,decide_eq_false q]; rfl
theorem role_of {w p:Int} {L:Nat} (h1:(impl_roleOf N0 (w,p)).map (fun r => (r.1.length,r.2)) = some (L,true)) (h2:(spec_l12Acts N0 (w,p)).map List.length = some L) (h3:spec_l13Role N0 (w,p) = some true) (h4:L ≤ 20) :
  ∃ a b,impl_roleOf N0 (w,p) = some (a,true) ∧ spec_l12Acts N0 (w,p) = some b ∧ a.length = b.length ∧ a.length ≤ 20 ∧ spec_l13Role N0 (w,p) = some true := by
 cases e1:impl_roleOf N0 (w,p) with
 | none => rw [e1] at h1; cases h1
 | some r =>
  cases e2:spec_l12Acts N0 (w,p) with
  | none => rw [e2] at h2; cases h2
  | some b =>
   rw [e1] at h1
   rw [e2] at h2
   obtain ⟨g1,g2⟩ := Prod.mk.inj (Option.some.inj h1)
   have g3:b.length = L := Option.some.inj h2
   obtain ⟨a,t⟩ := r
   have g2:t = true := g2
   subst g2
   exact ⟨a,b,rfl,rfl,by rw [g3]; exact g1,by have:a.length = L := g1; omega,h3⟩
theorem role_in (w p:Int) (hw:w = 1 ∨ w = 2 ∨ w = 3) (hp:p = 0 ∨ p = 1):∃ a b,impl_roleOf N0 (w,p) = some (a,true) ∧ spec_l12Acts N0 (w,p) = some b ∧ a.length = b.length ∧ a.length ≤ 20 ∧ spec_l13Role N0 (w,p) = some true := by
 rcases hw with rfl | rfl | rfl <;> rcases hp with rfl | rfl
 all_goals exact role_of (L := 5) (by kernel_rfl) (by kernel_rfl) (by kernel_rfl) (by omega)
theorem role_out (w p:Int) (h:¬ ((w = 1 ∨ w = 2 ∨ w = 3) ∧ (p = 0 ∨ p = 1))):impl_roleOf N0 (w,p) = some ([],false) ∧ spec_l13Role N0 (w,p) = some false := by
 constructor
 ·have e1:impl_RoleText N0 (w,p) = some (⟨#[]⟩:ByteArray) := by
   unfold impl_RoleText
   simp only [inRange_eq,Option.bind_some]
   by_cases h1:decide (w ≥ 1) && decide (w ≤ 3)
   ·rw [h1]
    have h2:(decide (p ≥ 0) && decide (p ≤ 1)) = false := by
     rw [Bool.eq_false_iff]
     intro h2
     simp at h1 h2
     omega
    rw [h2]; rfl
   ·rw [Bool.not_eq_true] at h1
    rw [h1]; rfl
  show ((impl_RoleText N0 (w,p)).bind _) = _
  rw [e1]
  show ((impl_RoleParse N0 (⟨#[]⟩:ByteArray)).bind fun r2 => some (r2.1,r2.2)) = _
  rw [show impl_RoleParse N0 (⟨#[]⟩:ByteArray) = some ([],false) by kernel_rfl]; rfl
 ·have e1:spec_RoleText N0 (w,p) = some (⟨#[]⟩:ByteArray) := by
   unfold spec_RoleText
   have q:∀ a b:Int,(w == a) = decide (w = a) := fun a b => rfl
   by_cases w1:w = 1
   ·subst w1
    have p0:(p == 0) = false := by simp; omega
    have p1:(p == 1) = false := by simp; omega
    simp only [p0,p1]; rfl
   ·by_cases w2:w = 2
    ·subst w2
     have p0:(p == 0) = false := by simp; omega
     have p1:(p == 1) = false := by simp; omega
     simp only [p0,p1]; rfl
    ·by_cases w3:w = 3
     ·subst w3
      have p0:(p == 0) = false := by simp; omega
      have p1:(p == 1) = false := by simp; omega
      simp only [p0,p1]; rfl
     ·have e1:(w == 1) = false := by simpa using w1
      have e2:(w == 2) = false := by simpa using w2
      have e3:(w == 3) = false := by simpa using w3
      simp only [e1,e2,e3]; rfl
  show ((spec_RoleText N0 (w,p)).bind fun r1 => some (!strEq r1 (⟨#[]⟩:ByteArray))) = _
  rw [e1]
  show some (!strEq (⟨#[]⟩:ByteArray) (⟨#[]⟩:ByteArray)) = _
  rw [show strEq (⟨#[]⟩:ByteArray) (⟨#[]⟩:ByteArray) = true from decide_eq_true rfl]; rfl
theorem agent_eq (n:Nat) (x:Int):impl_isAgent n x = some (decide (x ≥ 0) && decide (x ≤ 4)) := by
 show ((impl_inRange n (x,(0:Int),(4:Int))).bind fun r => some r) = _
 rw [inRange_eq]; rfl
theorem agent2_eq (n:Nat) (x:Int):spec_l2Agent n x = some (decide (x ≥ 0) && decide (x ≤ 4)) := agent_eq n x
theorem n0:4294967296 < N0 := by decide
theorem inst_same {xs:List Node3} (hx:xs.length ≤ 4294967296) {w p a b at_:Int} {env:List Int} (he:env.length ≤ 4294967296) {dn dd:Bool} {key:Int} :
  ∃ v,impl_InstOk N0 (xs,w,p,a,b,at_,env,dn,dd,key) = some v ∧ spec_InstOk N0 (xs,w,p,a,b,at_,env,dn,dd,key) = some v := by
 unfold impl_InstOk spec_InstOk spec_l13Inst
 simp only [specPool_eq N0 n0 hx,implEnv_eq N0 n0 hx he,specEnv_eq N0 n0 hx,agent_eq,agent2_eq,Option.bind_some]
 by_cases hr:(w = 1 ∨ w = 2 ∨ w = 3) ∧ (p = 0 ∨ p = 1)
 ·obtain ⟨ra,rb,r1,r2,r3,r4,r5⟩ := role_in w p hr.1 hr.2
  rw [r1,r2,r5]
  simp only [Option.bind_some,inRange_eq,in_eq,isTerm_eq N0 hx,has_eq N0 hx, ← r3,wrap_ok (show -9223372036854775808 ≤ (ra.length:Int) - 1 by omega) (show (ra.length:Int) - 1 ≤ 9223372036854775807 by omega)]
  generalize (decide (a ≥ 0) && decide (a ≤ 4)) = A
  generalize (decide (b ≥ 0) && decide (b ≤ 4)) = B
  generalize (a == b) = C
  generalize envB xs env = D
  generalize decide (env.length = 26) = F
  generalize (decide (xs.length ≤ 500) && okFrom N0 [] xs) = G
  generalize hasB xs key = H
  generalize (key == -1) = K
  have hq:(at_ == (ra.length:Int)) = true → (decide (at_ ≥ 0) && decide (at_ ≤ (ra.length:Int))) = true := by
   intro h
   have:at_ = (ra.length:Int) := by simpa using h
   simp; omega
  have hq2:(at_ == (ra.length:Int)) = false → (decide (at_ ≥ 0) && decide (at_ ≤ (ra.length:Int) - 1)) = (decide (at_ ≥ 0) && decide (at_ ≤ (ra.length:Int))) := by
   intro h
   have:at_ ≠ (ra.length:Int) := by simpa using h
   congr 1
   rw [Bool.eq_iff_iff]; simp; omega
  have hq3:(at_ == (ra.length:Int)) = true → (decide (at_ ≥ 0) && decide (at_ ≤ (ra.length:Int) - 1)) = false := by
   intro h
   have:at_ = (ra.length:Int) := by simpa using h
   rw [Bool.and_eq_false_iff]; right; simp; omega
  revert hq hq2 hq3
  generalize (at_ == (ra.length:Int)) = M
  generalize (decide (at_ ≥ 0) && decide (at_ ≤ (ra.length:Int))) = R
  generalize (decide (at_ ≥ 0) && decide (at_ ≤ (ra.length:Int) - 1)) = R2
  intro hq hq2 hq3
  cases M
  ·have := hq2 rfl
   subst this
   refine ⟨A && (B && (!C && (D && (F && (G && (R2 && (!dn && K))))))), ?_, ?_⟩ <;> clear hq hq2 hq3 <;> revert A B C D F G H K R2 dn dd <;> decide
  ·have h1 := hq rfl
   have h2 := hq3 rfl
   subst h1; subst h2
   refine ⟨A && (B && (!C && (D && (F && (G && (dn && (!dd && H))))))), ?_, ?_⟩ <;> clear hq hq2 hq3 <;> revert A B C D F G H K dn dd <;> decide
 ·obtain ⟨r1,r2⟩ := role_out w p hr
  rw [r1,r2]
  refine ⟨false,rfl, ?_⟩
  cases (decide (xs.length ≤ 500) && okFrom N0 [] xs) <;> rfl
theorem maxLen_eq:maxLen = 9223372036854775807 := by decide
def places (d:Nat → Bool) (n:Nat):List Nat := (List.range n).filter d
abbrev Inst9 := Int×(Int×(Int×(Int×(Int×((List Int)×(Bool×(Bool×Int)))))))
abbrev Claim3 := Int×(Bool×Bool)
abbrev zI:Inst9 := ((0:Int),((0:Int),((0:Int),((0:Int),((0:Int),([],(false,(false,(0:Int)))))))))
theorem lt_nat (i n:Nat):decide ((i:Int) < (n:Int)) = decide (i < n) := by
 rw [Bool.eq_iff_iff]; simp
abbrev envL (x:Inst9):List Int := x.2.2.2.2.2.1
def dn (x:Inst9):Bool := x.2.2.2.2.2.2.1
structure Small (xs:List Node3) (kn:List Int) (li:List Inst9) (gv sh:List Int) (lg:List Claim3):Prop where
 fx:xs.length ≤ 4294967296
 fk:kn.length ≤ 4294967296
 fl:li.length ≤ 4294967296
 fg:gv.length ≤ 4294967296
 fs:sh.length ≤ 4294967296
 fo:lg.length ≤ 4294967296
 fe:∀ i,i < li.length → (envL (li.getD i zI)).length ≤ 4294967296
def instV (xs:List Node3) (x:Inst9):Bool := (impl_InstOk N0 (xs,x.1,x.2.1,x.2.2.1,x.2.2.2.1,x.2.2.2.2.1,x.2.2.2.2.2.1,x.2.2.2.2.2.2.1,x.2.2.2.2.2.2.2.1,x.2.2.2.2.2.2.2.2)).getD false
theorem instV_eq {xs:List Node3} (hx:xs.length ≤ 4294967296) {x:Inst9} (he:(envL x).length ≤ 4294967296) :
  impl_InstOk N0 (xs,x.1,x.2.1,x.2.2.1,x.2.2.2.1,x.2.2.2.2.1,x.2.2.2.2.2.1,x.2.2.2.2.2.2.1,x.2.2.2.2.2.2.2.1,x.2.2.2.2.2.2.2.2) = some (instV xs x) ∧
  spec_InstOk N0 (xs,x.1,x.2.1,x.2.2.1,x.2.2.2.1,x.2.2.2.2.1,x.2.2.2.2.2.1,x.2.2.2.2.2.2.1,x.2.2.2.2.2.2.2.1,x.2.2.2.2.2.2.2.2) = some (instV xs x) := by
 obtain ⟨v,h1,h2⟩ := inst_same hx (w := x.1) (p := x.2.1) (a := x.2.2.1) (b := x.2.2.2.1) (at_ := x.2.2.2.2.1) (env := x.2.2.2.2.2.1) he (dn := x.2.2.2.2.2.2.1) (dd := x.2.2.2.2.2.2.2.1) (key := x.2.2.2.2.2.2.2.2)
 unfold instV
 rw [h1]
 exact ⟨rfl,h2⟩
def poolB (xs:List Node3):Bool := decide (xs.length ≤ 500) && okFrom N0 [] xs
section
variable {xs:List Node3} {kn:List Int} {li:List Inst9} {fr:Int} {gv sh:List Int} {lg:List Claim3}
end
section
variable {xs:List Node3} {kn:List Int} {li:List Inst9} {fr:Int} {gv sh:List Int} {lg:List Claim3}
end
section
variable {xs:List Node3} {kn:List Int} {li:List Inst9} {fr:Int} {gv sh:List Int} {lg:List Claim3}
end
section
variable {xs:List Node3} {kn:List Int} {li:List Inst9} {fr:Int} {gv sh:List Int} {lg:List Claim3} {k:Int}
end
abbrev zN3:Node3 := ((0:Int),((0:Int),(0:Int)))
def pf (xs:List Node3) (k:Node3):Nat → Nat → Option Nat
 | _,0 => none
 | i,m + 1 => if xs.getD i zN3 = k then some i else pf xs k (i + 1) m
abbrev pfind (xs:List Node3) (k:Node3):Option Nat := pf xs k 0 xs.length
theorem pf_some {xs:List Node3} {k:Node3}:∀ {m i j:Nat},pf xs k i m = some j → i ≤ j ∧ j < i + m ∧ xs.getD j zN3 = k
 | 0,_,_,h => by cases h
 | m + 1,i,j,h => by
  unfold pf at h
  by_cases hk:xs.getD i zN3 = k
  ·rw [if_pos hk] at h
   obtain rfl := Option.some.inj h
   exact ⟨Nat.le_refl _,by omega,hk⟩
  ·rw [if_neg hk] at h
   obtain ⟨h1,h2,h3⟩ := pf_some h
   exact ⟨by omega,by omega,h3⟩
theorem pf_none {xs:List Node3} {k:Node3}:∀ {m i:Nat},pf xs k i m = none → ∀ q,i ≤ q → q < i + m → xs.getD q zN3 ≠ k
 | 0,i,_,q,h1,h2 => by omega
 | m + 1,i,h,q,h1,h2 => by
  unfold pf at h
  by_cases hk:xs.getD i zN3 = k
  ·rw [if_pos hk] at h; cases h
  ·rw [if_neg hk] at h
   rcases Nat.eq_or_lt_of_le h1 with e | e
   ·subst e; exact hk
   ·exact pf_none h q e (by omega)
theorem node_beq (p k:Node3):(p.1 == k.1 && (p.2.1 == k.2.1 && (p.2.2 == k.2.2 && true))) = decide (p = k) := by
 obtain ⟨p1,p2,p3⟩ := p
 obtain ⟨k1,k2,k3⟩ := k
 rw [Bool.eq_iff_iff]
 simp
theorem node_beq' (p k:Node3):(k.1 == p.1 && (k.2.1 == p.2.1 && (k.2.2 == p.2.2 && true))) = decide (p = k) := by
 rw [node_beq k p,Bool.eq_iff_iff]
 simp [eq_comm]
theorem pf_step {xs:List Node3} {k:Node3} {i:Nat} (h:i < xs.length):pf xs k i (xs.length - i) = if xs.getD i zN3 = k then some i else pf xs k (i + 1) (xs.length - (i + 1)) := by
 have e:xs.length - i = (xs.length - (i + 1)) + 1 := by omega
 rw [e]; rfl
theorem pf_end {xs:List Node3} {k:Node3} {i:Nat} (h:xs.length ≤ i):pf xs k i (xs.length - i) = none := by
 have e:xs.length - i = 0 := by omega
 rw [e]; rfl
theorem index_loop (n:Nat) {xs:List Node3} (hx:xs.length ≤ 4294967296) (k:Node3):∀ (m i:Nat),i ≤ xs.length → xs.length < m + i → slices_Index___impl_Node_impl_Node__L2 n m (xs,k.1,k.2.1,k.2.2,(xs.length:Int),(i:Int)) =
  some (match pf xs k i (xs.length - i) with | some j => Sum.inl (j:Int) | none => Sum.inr ())
 | 0,i,h1,h2 => by omega
 | m + 1,i,h1,h2 => by
  have e0:slices_Index___impl_Node_impl_Node__L2 n (m + 1) (xs,k.1,k.2.1,k.2.2,(xs.length:Int),(i:Int)) = (cond (decide ((i:Int) < (xs.length:Int))) (cond (inb (i:Int) xs.length) (cond (k.1 == (xs.getD ((i:Int)).toNat zN3).1 && (k.2.1 == (xs.getD ((i:Int)).toNat zN3).2.1 && (k.2.2 == (xs.getD ((i:Int)).toNat zN3).2.2 && true))) (some (Sum.inl (i:Int))) (slices_Index___impl_Node_impl_Node__L2 n m (xs,k.1,k.2.1,k.2.2,(xs.length:Int),IntKind.i64.wrap ((i:Int) + (1:Int))))) none) (some (Sum.inr ()))) := rfl
  rw [e0,lt_nat]
  by_cases hlt:i < xs.length
  ·rw [decide_eq_true hlt,cond_true,inb_nat hlt,cond_true,Int.toNat_natCast,step_wrap hlt hx,node_beq',pf_step hlt]
   by_cases hk:xs.getD i zN3 = k
   ·rw [decide_eq_true hk,cond_true,if_pos hk]
   ·rw [decide_eq_false hk,cond_false,if_neg hk,index_loop n hx k m (i + 1) hlt (by omega)]
  ·rw [decide_eq_false hlt,cond_false,pf_end (by omega)]
theorem find_loop2 (n:Nat) {xs:List Node3} (hx:xs.length ≤ 4294967296) (k:Node3):∀ (m i:Nat),i ≤ xs.length → xs.length < m + i → spec_l1Find_L2 n m (xs,k.1,k.2.1,k.2.2,(i:Int)) =
  some (match pf xs k i (xs.length - i) with | some j => Sum.inl (j:Int) | none => Sum.inr ())
 | 0,i,h1,h2 => by omega
 | m + 1,i,h1,h2 => by
  have e0:spec_l1Find_L2 n (m + 1) (xs,k.1,k.2.1,k.2.2,(i:Int)) = (cond (decide ((i:Int) < (xs.length:Int))) (cond (inb (i:Int) xs.length) (cond ((xs.getD ((i:Int)).toNat zN3).1 == k.1 && ((xs.getD ((i:Int)).toNat zN3).2.1 == k.2.1 && ((xs.getD ((i:Int)).toNat zN3).2.2 == k.2.2 && true))) (some (Sum.inl (i:Int))) (spec_l1Find_L2 n m (xs,k.1,k.2.1,k.2.2,IntKind.i64.wrap ((i:Int) + (1:Int))))) none) (some (Sum.inr ()))) := rfl
  rw [e0,lt_nat]
  by_cases hlt:i < xs.length
  ·rw [decide_eq_true hlt,cond_true,inb_nat hlt,cond_true,Int.toNat_natCast,step_wrap hlt hx,node_beq,pf_step hlt]
   by_cases hk:xs.getD i zN3 = k
   ·rw [decide_eq_true hk,cond_true,if_pos hk]
   ·rw [decide_eq_false hk,cond_false,if_neg hk,find_loop2 n hx k m (i + 1) hlt (by omega)]
  ·rw [decide_eq_false hlt,cond_false,pf_end (by omega)]
def pfI (xs:List Node3) (k:Node3):Int := match pfind xs k with
 | some j => (j:Int)
 | none => -1
theorem index_eq {xs:List Node3} (hx:xs.length ≤ 4294967296) (k:Node3):slices_Index___impl_Node_impl_Node_ N0 (xs,k.1,k.2.1,k.2.2) = some (pfI xs k) := by
 unfold slices_Index___impl_Node_impl_Node_
 dsimp only
 have h := index_loop N0 hx k N0 0 (Nat.zero_le _) (by have := n0; omega)
 rw [Nat.sub_zero] at h
 rw [show (0:Int) = ((0:Nat):Int) from rfl,h]
 unfold pfI pfind
 cases pf xs k 0 xs.length <;> rfl
theorem l1Find_eq {xs:List Node3} (hx:xs.length ≤ 4294967296) (k:Node3):spec_l1Find N0 (xs,k.1,k.2.1,k.2.2) = some (pfI xs k) := by
 unfold spec_l1Find
 dsimp only
 have h := find_loop2 N0 hx k N0 0 (Nat.zero_le _) (by have := n0; omega)
 rw [Nat.sub_zero] at h
 rw [show (0:Int) = ((0:Nat):Int) from rfl,h]
 unfold pfI pfind
 cases pf xs k 0 xs.length <;> rfl
theorem room_500 {α:Type} {xs:List Node3} (h:xs.length ≤ 500) {k:α}:room (xs.length + [k].length) = true := by
 unfold room
 rw [List.length_singleton]
 simp
 omega
theorem nodeV_up {c a b:Int} {i j:Nat} (hj:j ≤ 4294967296) (hij:i ≤ j) (h:nodeV N0 (c,a,b,(i:Int)) = true):nodeV N0 (c,a,b,(j:Int)) = true := by
 have wi:IntKind.i64.wrap ((i:Int) - (1:Int)) = (i:Int) - 1 := wrap_ok (by omega) (by omega)
 have wj:IntKind.i64.wrap ((j:Int) - (1:Int)) = (j:Int) - 1 := wrap_ok (by omega) (by omega)
 have up:∀ v:Int,(decide (v ≥ 0) && decide (v ≤ (i:Int) - 1)) = true → (decide (v ≥ 0) && decide (v ≤ (j:Int) - 1)) = true := fun v hv => by
  rw [Bool.and_eq_true,decide_eq_true_iff,decide_eq_true_iff] at hv ⊢
  omega
 have ha := up a
 have hb := up b
 revert h
 unfold nodeV impl_nodeOk
 dsimp only
 obtain ⟨v,hv⟩ := count_some N0 c
 rw [hv]
 simp only [Option.bind_some,inRange_eq,wi,wj]
 generalize (decide (a ≥ 0) && decide (a ≤ (i:Int) - 1)) = A1 at ha ⊢
 generalize (decide (a ≥ 0) && decide (a ≤ (j:Int) - 1)) = A2 at ha ⊢
 generalize (decide (b ≥ 0) && decide (b ≤ (i:Int) - 1)) = B1 at hb ⊢
 generalize (decide (b ≥ 0) && decide (b ≤ (j:Int) - 1)) = B2 at hb ⊢
 cases (v == (0:Int))
 ·cases (v == (1:Int))
  ·cases (v == (2:Int))
   ·exact id
   ·cases A1
    ·exact fun h => Bool.noConfusion h
    ·cases B1
     ·exact fun h => (by cases A2 <;> exact Bool.noConfusion h)
     ·rw [ha rfl,hb rfl]; exact id
  ·cases A1
   ·exact fun h => Bool.noConfusion h
   ·rw [ha rfl]; exact id
 ·exact id
theorem okFrom_nd {n:Nat}:∀ {r pre:List Node3},okFrom n pre r = true → ∀ j,j < r.length → nodeV n ((r.getD j zN3).1,(r.getD j zN3).2.1,(r.getD j zN3).2.2,((pre.length + j:Nat):Int)) = true
 | [],pre,_,j,hj => absurd hj (Nat.not_lt_zero _)
 | k :: r,pre,h,j,hj => by
  have h:((!pre.contains k && nodeV n (k.1,k.2.1,k.2.2,(pre.length:Int))) && okFrom n (pre ++ [k]) r) = true := h
  rw [Bool.and_eq_true,Bool.and_eq_true] at h
  match j with
  | 0 => exact h.1.2
  | j + 1 =>
   have := okFrom_nd h.2 j (by simpa using hj)
   rw [List.length_append] at this
   have e:pre.length + (j + 1) = pre.length + [k].length + j := by simp; omega
   rw [e]
   exact this
theorem okFrom_app {n:Nat}:∀ {r pre s:List Node3},okFrom n pre (r ++ s) = (okFrom n pre r && okFrom n (pre ++ r) s)
 | [],pre,s => by simp [okFrom]
 | k :: r,pre,s => by
  show ((!pre.contains k && nodeV n (k.1,k.2.1,k.2.2,(pre.length:Int))) && okFrom n (pre ++ [k]) (r ++ s)) = (((!pre.contains k && nodeV n (k.1,k.2.1,k.2.2,(pre.length:Int))) && okFrom n (pre ++ [k]) r) && okFrom n (pre ++ (k :: r)) s)
  rw [okFrom_app]
  simp only [Bool.and_assoc,List.append_assoc,List.singleton_append]
theorem poolB_len {xs:List Node3} (h:poolB xs = true):xs.length ≤ 500 := by
 unfold poolB at h
 rw [Bool.and_eq_true,decide_eq_true_iff] at h
 exact h.1
theorem poolB_nd {xs:List Node3} (h:poolB xs = true) {j:Nat} (hj:j < xs.length):nodeV N0 ((xs.getD j zN3).1,(xs.getD j zN3).2.1,(xs.getD j zN3).2.2,(j:Int)) = true := by
 unfold poolB at h
 rw [Bool.and_eq_true] at h
 have := okFrom_nd h.2 j hj
 simpa using this
theorem poolB_push {xs:List Node3} (h:poolB xs = true) (hl:xs.length < 500) {k:Node3} (hk:nodeV N0 (k.1,k.2.1,k.2.2,(xs.length:Int)) = true) (hn:pfind xs k = none):poolB (xs ++ [k]) = true := by
 unfold poolB at h ⊢
 rw [Bool.and_eq_true] at h ⊢
 refine ⟨decide_eq_true (by simp; omega), ?_⟩
 rw [okFrom_app,h.2,Bool.true_and,List.nil_append]
 show ((!xs.contains k && nodeV N0 (k.1,k.2.1,k.2.2,(xs.length:Int))) && true) = true
 rw [hk,Bool.and_true,Bool.and_true,Bool.not_eq_true']
 rw [← Bool.not_eq_true]
 intro hc
 have hm:k ∈ xs := by simpa using hc
 obtain ⟨j,hj,e⟩ := List.mem_iff_getElem.1 hm
 refine pf_none hn j (Nat.zero_le _) (by omega) ?_
 rw [getD_of hj]
 exact e
def addK (xs:List Node3) (k:Node3):Option (List Node3×Int) :=
 bif nodeV N0 (k.1,k.2.1,k.2.2,(xs.length:Int)) then (match pfind xs k with
  | some j => some (xs,(j:Int))
  | none => if 500 ≤ xs.length then none else some (xs ++ [k],(xs.length:Int))) else none
def norm (kd a b:Int):Node3 := bif kd == 8 then (kd,mn a b,mx a b) else (kd,a,b)
def addP (xs:List Node3) (kd a b:Int):Option (List Node3×Int) := addK xs (norm kd a b)
def outI (xs:List Node3):Option (List Node3×Int) → List Node3×Int
 | some r => r
 | none => (xs, -1)
theorem addK_pool {xs ys:List Node3} {k:Node3} {t:Int} (hp:poolB xs = true) (h:addK xs k = some (ys,t)):poolB ys = true ∧ 0 ≤ t ∧ t < (ys.length:Int) ∧ (∃ zs,ys = xs ++ zs) ∧ ys.getD t.toNat zN3 = k := by
 unfold addK at h
 cases hk:nodeV N0 (k.1,k.2.1,k.2.2,(xs.length:Int)) with
 | false => rw [hk] at h; cases h
 | true =>
  rw [hk,cond_true] at h
  cases hf:pfind xs k with
  | some j =>
   rw [hf] at h
   obtain ⟨rfl,rfl⟩ := Prod.mk.inj (Option.some.inj h)
   obtain ⟨h1,h2,h3⟩ := pf_some hf
   exact ⟨hp,by omega,by omega,⟨[],by simp⟩,by rw [Int.toNat_natCast]; exact h3⟩
  | none =>
   rw [hf] at h
   dsimp only at h
   by_cases hl:500 ≤ xs.length
   ·rw [if_pos hl] at h; cases h
   ·rw [if_neg hl] at h
    obtain ⟨rfl,rfl⟩ := Prod.mk.inj (Option.some.inj h)
    exact ⟨poolB_push hp (by omega) hk hf,by omega,by simp; omega,⟨[k],rfl⟩,by rw [Int.toNat_natCast]; simp [List.getD_eq_getElem?_getD]⟩
theorem isTermO_eq {xs:List Node3} (hx:xs.length ≤ 4294967296) (v:Int):impl_Pool_isTerm_o N0 (xs,v) = some (xs,hasB xs v) := isTerm_eq N0 hx v
theorem implAddK {xs:List Node3} (hx:xs.length ≤ 500) (k:Node3):((impl_nodeOk N0 (k.1,k.2.1,k.2.2,((xs).length:Int))).bind fun r1 => (cond (!r1) (some (xs,(-1:Int))) ((impl_Pool_find_o N0 (xs,k.1,k.2.1,k.2.2)).bind fun r2 => (cond (decide (r2.2 ≥ (0:Int))) (some (r2.1,r2.2)) (cond (decide (((r2.1).length:Int) ≥ (500:Int))) (some (r2.1,(-1:Int))) ((impl_Pool_add_R11 N0 (r2.1,k.1,k.2.1,k.2.2)).bind fun g3 => (some (g3,(IntKind.i64.wrap (((g3).length:Int) - (1:Int)))))))))))
  = some (outI xs (addK xs k)) := by
 rw [nodeOk_eq,Option.bind_some]
 unfold addK
 cases nodeV N0 (k.1,k.2.1,k.2.2,(xs.length:Int)) with
 | false => rfl
 | true =>
  rw [cond_true,Bool.not_true,cond_false]
  have e1:impl_Pool_find_o N0 (xs,k.1,k.2.1,k.2.2) = some (xs,pfI xs k) := by
   unfold impl_Pool_find_o
   dsimp only
   rw [index_eq (by omega)]; rfl
  rw [e1,Option.bind_some]
  dsimp only
  unfold pfI
  cases hf:pfind xs k with
  | some j =>
   dsimp only
   rw [decide_eq_true (by omega:(j:Int) ≥ (0:Int)),cond_true]; rfl
  | none =>
   dsimp only
   rw [decide_eq_false (by omega:¬ ((-1:Int) ≥ (0:Int))),cond_false]
   by_cases hl:500 ≤ xs.length
   ·rw [decide_eq_true (by omega:(xs.length:Int) ≥ (500:Int)),cond_true,if_pos hl]; rfl
   ·rw [decide_eq_false (by omega:¬ ((xs.length:Int) ≥ (500:Int))),cond_false,if_neg hl]
    have e2:impl_Pool_add_R11 N0 (xs,k.1,k.2.1,k.2.2) = some (xs ++ [k]) := by
     unfold impl_Pool_add_R11
     dsimp only
     have:room (xs.length + [(k.1,(k.2.1,k.2.2))].length) = true := room_500 hx
     rw [this]; rfl
    rw [e2,Option.bind_some]
    have e3:IntKind.i64.wrap (((xs ++ [k]).length:Int) - (1:Int)) = (xs.length:Int) := by
     have hl:(xs ++ [k]).length = xs.length + 1 := by rw [List.length_append,List.length_singleton]
     rw [hl,wrap_ok (by omega) (by omega)]
     omega
    rw [e3]; rfl
theorem implAdd_eq {xs:List Node3} (hx:xs.length ≤ 500) (kd a b:Int):impl_Pool_add N0 (xs,kd,a,b) = some (outI xs (addP xs kd a b)) := by
 unfold impl_Pool_add addP norm
 dsimp only
 cases hk:(kd == (8:Int)) with
 | true => rw [cond_true,cond_true]; exact implAddK hx (kd,mn a b,mx a b)
 | false => rw [cond_false,cond_false]; exact implAddK hx (kd,a,b)
theorem implName_eq {xs:List Node3} (hx:xs.length ≤ 500) (c:Int):impl_Pool_name N0 (xs,c) = some (outI xs (addP xs 1 c 0)) := by
 unfold impl_Pool_name
 dsimp only
 rw [implAdd_eq hx]; rfl
theorem specAddK {xs:List Node3} (hp:poolB xs = true) (k:Node3):((spec_l1Find N0 (xs,k.1,k.2.1,k.2.2)).bind fun r9 => (cond (decide (r9 ≥ (0:Int))) (some (xs,r9)) ((spec_l1Right N0 (k.1,k.2.1,k.2.2,((xs).length:Int))).bind fun r10 => (cond (!r10) (some (xs,(-1:Int))) (cond (((xs).length:Int) == (500:Int)) (some (xs,(-1:Int))) ((spec_l1Copy N0 xs).bind fun r11 => (cond (room ((r11).length + ([(k.1,(k.2.1,k.2.2))]).length)) ((spec_l1Add_R10 N0 (xs,[],(r11 ++ [(k.1,(k.2.1,k.2.2))]))).bind fun g12 => (some (g12.1,g12.2))) none)))))))
  = some (outI xs (addK xs k)) := by
 have hx := poolB_len hp
 rw [l1Find_eq (by omega),Option.bind_some]
 unfold pfI addK
 cases hf:pfind xs k with
 | some j =>
  obtain ⟨h1,h2,h3⟩ := pf_some hf
  have hj:j < xs.length := by omega
  have hnd := poolB_nd hp hj
  rw [h3] at hnd
  rw [nodeV_up (by omega) (Nat.le_of_lt hj) hnd]
  dsimp only
  rw [decide_eq_true (by omega:(j:Int) ≥ (0:Int)),cond_true]; rfl
 | none =>
  dsimp only
  rw [decide_eq_false (by omega:¬ ((-1:Int) ≥ (0:Int))),cond_false,right_eq,Option.bind_some]
  cases nodeV N0 (k.1,k.2.1,k.2.2,(xs.length:Int)) with
  | false => rfl
  | true =>
   rw [cond_true,Bool.not_true,cond_false]
   by_cases hl:500 ≤ xs.length
   ·have:((xs.length:Int) == (500:Int)) = true := by simp; omega
    rw [this,cond_true,if_pos hl]; rfl
   ·have:((xs.length:Int) == (500:Int)) = false := by simp; omega
    rw [this,cond_false,if_neg hl]
    have e1:spec_l1Copy N0 xs = some xs := by
     unfold spec_l1Copy
     have:room (([]:List Node3).length + xs.length) = true := by
      unfold room
      simp
      omega
     rw [this]; rfl
    rw [e1,Option.bind_some]
    have:room (xs.length + [(k.1,(k.2.1,k.2.2))].length) = true := room_500 hx
    rw [this,cond_true]; rfl
theorem specAdd_eq {xs:List Node3} (hp:poolB xs = true) (kd a b:Int):spec_l1Add N0 (xs,kd,a,b) = some (outI xs (addP xs kd a b)) := by
 unfold spec_l1Add addP norm mn mx
 dsimp only
 cases hk:(kd == (8:Int)) with
 | true =>
  rw [cond_true,cond_true]
  by_cases hab:a > b
  ·rw [decide_eq_true hab,cond_true,if_pos (by omega:b < a),if_neg (by omega:¬ b > a)]
   exact specAddK hp (kd,b,a)
  ·rw [decide_eq_false hab,cond_false,if_neg (by omega:¬ b < a)]
   have:(if b > a then b else a) = b := by split <;> omega
   rw [this]
   exact specAddK hp (kd,a,b)
 | false => rw [cond_false,cond_false]; exact specAddK hp (kd,a,b)
theorem specName_eq {xs:List Node3} (hp:poolB xs = true) (c:Int):spec_l2Name N0 (xs,c) = some (outI xs (addP xs 1 c 0)) := by
 unfold spec_l2Name
 dsimp only
 rw [specAdd_eq hp]; rfl
def raiseP (xs:List Node3) (a e:Int):Option (List Node3×Int) :=
 bif hasB xs a then (bif hasB xs e then (bif (xs.getD a.toNat zN3).1 == 7 then addP xs 8 e (xs.getD a.toNat zN3).2.1 else none) else none) else none
theorem hasB_inb {xs:List Node3} {a:Int} (h:hasB xs a = true):inb a xs.length = true := by
 unfold hasB at h
 rw [Bool.and_eq_true,decide_eq_true_iff,decide_eq_true_iff] at h
 have e:a = ((a.toNat:Nat):Int) := by omega
 rw [e]
 exact inb_nat (by omega)
theorem implRaise_eq {xs:List Node3} (hx:xs.length ≤ 500) (a e:Int):impl_Pool_raise N0 (xs,a,e) = some (outI xs (raiseP xs a e)) := by
 unfold impl_Pool_raise raiseP
 dsimp only
 rw [isTermO_eq (by omega),Option.bind_some]
 dsimp only
 cases ha:hasB xs a with
 | false => rfl
 | true =>
  rw [Bool.not_true,cond_false,cond_true,isTermO_eq (by omega),Option.bind_some]
  dsimp only
  cases hasB xs e with
  | false => rfl
  | true =>
   rw [Bool.not_true,cond_false,cond_true,hasB_inb ha,cond_true,cond_true]
   show (cond (!((xs.getD a.toNat zN3).1 == (7:Int))) _ _) = _
   cases ((xs.getD a.toNat zN3).1 == (7:Int)) with
   | false => rfl
   | true =>
    rw [Bool.not_true,cond_false,cond_true,implAdd_eq hx]; rfl
theorem specRaise_eq {xs:List Node3} (hp:poolB xs = true) (a e:Int):spec_l3Raise N0 (xs,a,e) = some (outI xs (raiseP xs a e)) := by
 have hx := poolB_len hp
 unfold spec_l3Raise raiseP
 dsimp only
 rw [has_eq N0 (by omega),Option.bind_some]
 cases ha:hasB xs a with
 | false => rfl
 | true =>
  rw [Bool.not_true,cond_false,cond_true,has_eq N0 (by omega),Option.bind_some]
  cases hasB xs e with
  | false => rfl
  | true =>
   rw [Bool.not_true,cond_false,cond_true,hasB_inb ha,cond_true,cond_true]
   show (cond (!((xs.getD a.toNat zN3).1 == (7:Int))) _ _) = _
   cases ((xs.getD a.toNat zN3).1 == (7:Int)) with
   | false => rfl
   | true =>
    rw [Bool.not_true,cond_false,cond_true,specAdd_eq hp]; rfl
inductive Pat where
 | name (c:Int)
 | var (i:Int)
 | ask (i:Int)
 | un (k:Int) (p:Pat)
 | bin (k:Int) (p q:Pat)
 | exp (p q:Pat)
def Pat.asks:Pat → Bool
 | .ask _ => true
 | .un _ p => p.asks
 | .bin _ p q => p.asks || q.asks
 | .exp p q => p.asks || q.asks
 | _ => false
def mk (env:List Int):Pat → List Node3 → Option (List Node3×Int)
 | .name c,xs => addP xs 1 c 0
 | .var i,xs => bif decide (env.getD i.toNat 0 < 0) then none else some (xs,env.getD i.toNat 0)
 | .ask _,xs => none
 | .un k p,xs => (mk env p xs).bind fun r => addP r.1 k r.2 0
 | .bin k p q,xs => (mk env p xs).bind fun r => (mk env q r.1).bind fun s => addP s.1 k r.2 s.2
 | .exp p q,xs => (mk env p xs).bind fun r => (mk env q r.1).bind fun s => raiseP s.1 s.2 r.2
theorem mk_asks {env:List Int}:∀ {p:Pat} (xs:List Node3),p.asks = true → mk env p xs = none
 | .name c,xs,h => by cases h
 | .var i,xs,h => by cases h
 | .ask _,xs,_ => rfl
 | .un k p,xs,h => by
  show (mk env p xs).bind _ = none
  rw [mk_asks xs (show p.asks = true from h)]; rfl
 | .bin k p q,xs,h => by
  have h:(p.asks || q.asks) = true := h
  show (mk env p xs).bind _ = none
  cases hp:p.asks with
  | true => rw [mk_asks xs hp]; rfl
  | false =>
   rw [hp,Bool.false_or] at h
   cases mk env p xs with
   | none => rfl
   | some r => show (mk env q r.1).bind _ = none; rw [mk_asks r.1 h]; rfl
 | .exp p q,xs,h => by
  have h:(p.asks || q.asks) = true := h
  show (mk env p xs).bind _ = none
  cases hp:p.asks with
  | true => rw [mk_asks xs hp]; rfl
  | false =>
   rw [hp,Bool.false_or] at h
   cases mk env p xs with
   | none => rfl
   | some r => show (mk env q r.1).bind _ = none; rw [mk_asks r.1 h]; rfl
def Grown (xs ys:List Node3) (t:Int):Prop := poolB ys = true ∧ 0 ≤ t ∧ (∃ zs,ys = xs ++ zs)
theorem addP_grown {xs ys:List Node3} {kd a b t:Int} (hp:poolB xs = true) (h:addP xs kd a b = some (ys,t)):Grown xs ys t ∧ t < (ys.length:Int) := by
 obtain ⟨h1,h2,h3,h4,_⟩ := addK_pool hp h
 exact ⟨⟨h1,h2,h4⟩,h3⟩
theorem Grown.trans {xs ys zs:List Node3} {t u:Int} (h1:Grown xs ys t) (h2:Grown ys zs u):Grown xs zs u := by
 obtain ⟨a1,a2,v,rfl⟩ := h1
 obtain ⟨b1,b2,w,rfl⟩ := h2
 exact ⟨b1,b2,v ++ w,by rw [List.append_assoc]⟩
theorem raiseP_add {xs ys:List Node3} {a e t:Int} (h:raiseP xs a e = some (ys,t)):addP xs 8 e (xs.getD a.toNat zN3).2.1 = some (ys,t) := by
 unfold raiseP at h
 cases h1:hasB xs a with
 | false => rw [h1] at h; cases h
 | true =>
  cases h2:hasB xs e with
  | false => rw [h1,h2] at h; cases h
  | true =>
   cases h3:((xs.getD a.toNat zN3).1 == 7) with
   | false => rw [h1,h2,h3] at h; cases h
   | true => rw [h1,h2,h3] at h; exact h
theorem mk_grown {env:List Int}:∀ {p:Pat} {xs ys:List Node3} {t:Int},poolB xs = true → mk env p xs = some (ys,t) → Grown xs ys t
 | .name c,xs,ys,t,hp,h => (addP_grown hp h).1
 | .var i,xs,ys,t,hp,h => by
  have h:(bif decide (env.getD i.toNat 0 < 0) then none else some (xs,env.getD i.toNat 0)) = some (ys,t) := h
  by_cases hn:env.getD i.toNat 0 < 0
  ·rw [decide_eq_true hn] at h; cases h
  ·rw [decide_eq_false hn] at h
   obtain ⟨rfl,rfl⟩ := Prod.mk.inj (Option.some.inj h)
   exact ⟨hp,by omega,[],by simp⟩
 | .ask _,xs,ys,t,hp,h => by cases h
 | .un k p,xs,ys,t,hp,h => by
  obtain ⟨r,h1,h2⟩ := Option.bind_eq_some_iff.1 (show (mk env p xs).bind _ = some (ys,t) from h)
  have g1 := mk_grown hp (show mk env p xs = some (r.1,r.2) from h1)
  exact g1.trans (addP_grown g1.1 h2).1
 | .bin k p q,xs,ys,t,hp,h => by
  obtain ⟨r,h1,h2⟩ := Option.bind_eq_some_iff.1 (show (mk env p xs).bind _ = some (ys,t) from h)
  have g1 := mk_grown hp (show mk env p xs = some (r.1,r.2) from h1)
  obtain ⟨s,h3,h4⟩ := Option.bind_eq_some_iff.1 h2
  have g2 := mk_grown g1.1 (show mk env q r.1 = some (s.1,s.2) from h3)
  exact (g1.trans g2).trans (addP_grown g2.1 h4).1
 | .exp p q,xs,ys,t,hp,h => by
  obtain ⟨r,h1,h2⟩ := Option.bind_eq_some_iff.1 (show (mk env p xs).bind _ = some (ys,t) from h)
  have g1 := mk_grown hp (show mk env p xs = some (r.1,r.2) from h1)
  obtain ⟨s,h3,h4⟩ := Option.bind_eq_some_iff.1 h2
  have g2 := mk_grown g1.1 (show mk env q r.1 = some (s.1,s.2) from h3)
  exact (g1.trans g2).trans (addP_grown g2.1 (raiseP_add h4)).1
abbrev Piece := Int×(Int×List Int)
abbrev SNode := Int×(Int×(Int×Bool))
abbrev zP:Piece := ((0:Int),((0:Int),[]))
abbrev zS:SNode := ((0:Int),((0:Int),((0:Int),false)))
def kindV (s:Int):Int := if s = 40 then 2 else if s = 123 then 3 else if s = 91 then 4 else if s = 35 then 5 else if s = 107 then 6 else if s = 94 then 7 else if s = 42 then 8 else 0
def leaf2 (x:Piece) (y:SNode):Option Pat :=
 bif x.1 == 110 then (bif y.1 == 1 && (x.2.1 == y.2.1 && !y.2.2.2) then some (.name x.2.1) else none)
 else bif x.1 == 36 then (bif (y.1 == 9 && (x.2.1 == y.2.1 && !y.2.2.2)) && (decide (0 ≤ x.2.1) && decide (x.2.1 < 26)) then some (.var x.2.1) else none)
 else bif x.1 == 63 then (bif (y.1 == 9 && (x.2.1 == y.2.1 && y.2.2.2)) && (decide (0 ≤ x.2.1) && decide (x.2.1 < 26)) then some (.ask x.2.1) else none)
 else none
def isLeaf (s:Int):Bool := s == 110 || (s == 36 || s == 63)
def one2 (x:Piece) (y:SNode) (P:Pat):Option Pat :=
 bif !isLeaf x.1 && (!(x.1 == 120) && ((kindV x.1 == y.1) && ((y.1 == 5 || y.1 == 7) && (y.2.2.2 == P.asks)))) then some (.un y.1 P) else none
def two2 (x:Piece) (y:SNode) (P Q:Pat):Option Pat :=
 bif !isLeaf x.1 && (y.2.2.2 == (P.asks || Q.asks)) then (bif x.1 == 120 then (bif y.1 == 10 then some (.exp P Q) else none) else (bif (kindV x.1 == y.1) && (y.1 == 2 || (y.1 == 3 || (y.1 == 4 || (y.1 == 6 || y.1 == 8)))) then some (.bin y.1 P Q) else none)) else none
def dec2 (l1:List Piece) (l2:List SNode):Nat → Int → Int → Option Pat
 | 0,_,_ => none
 | k + 1,a,b => bif inb a l1.length && inb b l2.length then (match (l1.getD a.toNat zP).2.2 with
   | [] => leaf2 (l1.getD a.toNat zP) (l2.getD b.toNat zS)
   | [p] => (dec2 l1 l2 k p (l2.getD b.toNat zS).2.1).bind fun P => one2 (l1.getD a.toNat zP) (l2.getD b.toNat zS) P
   | [p,q] => (dec2 l1 l2 k p (l2.getD b.toNat zS).2.1).bind fun P => (dec2 l1 l2 k q (l2.getD b.toNat zS).2.2.1).bind fun Q => two2 (l1.getD a.toNat zP) (l2.getD b.toNat zS) P Q
   | _ => none) else none
theorem map_cond' {α β:Type} (f:α → β) (c:Bool) (a b:Option α):Option.map f (cond c a b) = cond c (Option.map f a) (Option.map f b) := by cases c <;> rfl
theorem map_bind' {α β γ:Type} (f:β → γ) (x:Option α) (g:α → Option β):Option.map f (x.bind g) = x.bind fun a => Option.map f (g a) := by cases x <;> rfl
theorem bind_map' {α β γ:Type} (f:α → β) (x:Option α) (g:β → Option γ):(Option.map f x).bind g = x.bind fun a => g (f a) := by cases x <;> rfl
theorem bind_cond' {α β:Type} (f:α → Option β) (c:Bool) (a b:Option α):(cond c a b).bind f = cond c (a.bind f) (b.bind f) := by cases c <;> rfl
theorem some_map' {α β:Type} (f:α → β) (a:α):Option.map f (some a) = some (f a) := rfl
theorem none_map' {α β:Type} (f:α → β):Option.map f (none:Option α) = none := rfl
theorem l11Make_o_map (n:Nat):∀ (k:Nat) (xs:List Node3) (env:List Int) (l:List SNode) (b:Int),spec_l11Make_o n k (xs,env,l,b) = (spec_l11Make n k (xs,env,l,b)).map (fun r => (env,r.1,r.2))
 | 0,xs,env,l,b => rfl
 | k + 1,xs,env,l,b => by
  have ih := l11Make_o_map n k
  show spec_l11Make_o_body n (spec_l11Make_o n k) (xs,env,l,b) = (spec_l11Make_body n (spec_l11Make n k) (xs,env,l,b)).map _
  simp only [spec_l11Make_o_body,spec_l11Make_body,spec_l11Make_o_R5,spec_l11Make_R5,ih,map_cond',map_bind',bind_map',some_map',none_map',bind_cond',Option.bind_some,Option.bind_none]
theorem leaf2_cases {x:Piece} {y:SNode} {P:Pat} (h:leaf2 x y = some P) :
  ((x.1 == 110) = true ∧ y.1 = 1 ∧ y.2.1 = x.2.1 ∧ y.2.2.2 = false ∧ P = .name x.2.1) ∨
  ((x.1 == 110) = false ∧ (x.1 == 36) = true ∧ y.1 = 9 ∧ y.2.1 = x.2.1 ∧ y.2.2.2 = false ∧ 0 ≤ x.2.1 ∧ x.2.1 < 26 ∧ P = .var x.2.1) ∨
  ((x.1 == 110) = false ∧ (x.1 == 36) = false ∧ (x.1 == 63) = true ∧ y.1 = 9 ∧ y.2.1 = x.2.1 ∧ y.2.2.2 = true ∧ 0 ≤ x.2.1 ∧ x.2.1 < 26 ∧ P = .ask x.2.1) := by
 unfold leaf2 at h
 cases h1:(x.1 == 110) with
 | true =>
  rw [h1,cond_true] at h
  cases hc:(y.1 == 1 && (x.2.1 == y.2.1 && !y.2.2.2)) with
  | false => rw [hc] at h; cases h
  | true =>
   rw [hc] at h
   simp only [Bool.and_eq_true,beq_iff_eq,Bool.not_eq_true'] at hc
   exact .inl ⟨rfl,hc.1,hc.2.1.symm,hc.2.2,(Option.some.inj h).symm⟩
 | false =>
  rw [h1,cond_false] at h
  cases h2:(x.1 == 36) with
  | true =>
   rw [h2,cond_true] at h
   cases hc:((y.1 == 9 && (x.2.1 == y.2.1 && !y.2.2.2)) && (decide (0 ≤ x.2.1) && decide (x.2.1 < 26))) with
   | false => rw [hc] at h; cases h
   | true =>
    rw [hc] at h
    simp only [Bool.and_eq_true,beq_iff_eq,Bool.not_eq_true',decide_eq_true_iff] at hc
    exact .inr (.inl ⟨rfl,rfl,hc.1.1,hc.1.2.1.symm,hc.1.2.2,hc.2.1,hc.2.2,(Option.some.inj h).symm⟩)
  | false =>
   rw [h2,cond_false] at h
   cases h3:(x.1 == 63) with
   | false => rw [h3] at h; cases h
   | true =>
    rw [h3,cond_true] at h
    cases hc:((y.1 == 9 && (x.2.1 == y.2.1 && y.2.2.2)) && (decide (0 ≤ x.2.1) && decide (x.2.1 < 26))) with
    | false => rw [hc] at h; cases h
    | true =>
     rw [hc] at h
     simp only [Bool.and_eq_true,beq_iff_eq,decide_eq_true_iff] at hc
     exact .inr (.inr ⟨rfl,rfl,rfl,hc.1.1,hc.1.2.1.symm,hc.1.2.2,hc.2.1,hc.2.2,(Option.some.inj h).symm⟩)
theorem isLeaf_no {s:Int} (h:(!isLeaf s) = true):(s == 110) = false ∧ (s == 36) = false ∧ (s == 63) = false := by
 unfold isLeaf at h
 simpa using h
theorem one2_cases {x:Piece} {y:SNode} {P R:Pat} (h:one2 x y P = some R) :
  ((x.1 == 110) = false ∧ (x.1 == 36) = false ∧ (x.1 == 63) = false) ∧ (x.1 == 120) = false ∧ kindV x.1 = y.1 ∧ (y.1 = 5 ∨ y.1 = 7) ∧ y.2.2.2 = P.asks ∧ R = .un y.1 P := by
 unfold one2 at h
 cases hc:(!isLeaf x.1 && (!(x.1 == 120) && ((kindV x.1 == y.1) && ((y.1 == 5 || y.1 == 7) && (y.2.2.2 == P.asks))))) with
 | false => rw [hc] at h; cases h
 | true =>
  rw [hc] at h
  rw [Bool.and_eq_true] at hc
  have h2 := hc.2
  simp only [Bool.and_eq_true,Bool.not_eq_true',beq_iff_eq,Bool.or_eq_true] at h2
  exact ⟨isLeaf_no hc.1,h2.1,h2.2.1,h2.2.2.1,h2.2.2.2,(Option.some.inj h).symm⟩
theorem two2_cases {x:Piece} {y:SNode} {P Q R:Pat} (h:two2 x y P Q = some R) :
  ((x.1 == 110) = false ∧ (x.1 == 36) = false ∧ (x.1 == 63) = false) ∧ y.2.2.2 = (P.asks || Q.asks) ∧
  (((x.1 == 120) = true ∧ y.1 = 10 ∧ R = .exp P Q) ∨ ((x.1 == 120) = false ∧ kindV x.1 = y.1 ∧ (y.1 = 2 ∨ y.1 = 3 ∨ y.1 = 4 ∨ y.1 = 6 ∨ y.1 = 8) ∧ R = .bin y.1 P Q)) := by
 unfold two2 at h
 cases hc:(!isLeaf x.1 && (y.2.2.2 == (P.asks || Q.asks))) with
 | false => rw [hc] at h; cases h
 | true =>
  rw [hc,cond_true] at h
  rw [Bool.and_eq_true] at hc
  refine ⟨isLeaf_no hc.1,by simpa using hc.2, ?_⟩
  cases h1:(x.1 == 120) with
  | true =>
   rw [h1,cond_true] at h
   cases h2:(y.1 == 10) with
   | false => rw [h2] at h; cases h
   | true => rw [h2] at h; exact .inl ⟨rfl,by simpa using h2,(Option.some.inj h).symm⟩
  | false =>
   rw [h1,cond_false] at h
   cases h2:((kindV x.1 == y.1) && (y.1 == 2 || (y.1 == 3 || (y.1 == 4 || (y.1 == 6 || y.1 == 8))))) with
   | false => rw [h2] at h; cases h
   | true =>
    rw [h2] at h
    simp only [Bool.and_eq_true,beq_iff_eq,Bool.or_eq_true] at h2
    exact .inr ⟨rfl,h2.1,h2.2,(Option.some.inj h).symm⟩
theorem kindOf_eq (n:Nat) {s:Int} (h:kindV s ≠ 0):impl_kindOf n s = some (kindV s) := by
 unfold impl_kindOf kindV
 unfold kindV at h
 by_cases h1:s = 40
 ·subst h1; rfl
 by_cases h2:s = 123
 ·subst h2; rfl
 by_cases h3:s = 91
 ·subst h3; rfl
 by_cases h4:s = 35
 ·subst h4; rfl
 by_cases h5:s = 107
 ·subst h5; rfl
 by_cases h6:s = 94
 ·subst h6; rfl
 by_cases h7:s = 42
 ·subst h7; rfl
 ·rw [if_neg h1,if_neg h2,if_neg h3,if_neg h4,if_neg h5,if_neg h6,if_neg h7] at h
  exact absurd rfl h
abbrev MkIn := List Piece×List Node3×List Int×Int
abbrev MkOut := List Piece×List Node3×Int
theorem make_loop1 (n:Nat) (rec_:MkIn → Option MkOut) (m:Nat) (l:List Piece) (xs:List Node3) (env:List Int) (s c:Int) (ps:List Int) (u v p:Int) :
  impl_pattern_make_L11 n rec_ (m + 2) (l,xs,env,s,c,ps,u,v,[p],(1:Int),(0:Int)) = (rec_ (l,xs,env,p)).bind fun r2 => cond (decide (r2.2.2 < (0:Int))) (some (Sum.inl (r2.1,r2.2.1,(-1:Int)))) (some (Sum.inr (r2.1,r2.2.1,s,c,ps,r2.2.2,v))) := by kernel_rfl
theorem make_loop2 (n:Nat) (rec_:MkIn → Option MkOut) (m:Nat) (l:List Piece) (xs:List Node3) (env:List Int) (s c:Int) (ps:List Int) (u v p q:Int) :
  impl_pattern_make_L11 n rec_ (m + 3) (l,xs,env,s,c,ps,u,v,[p,q],(2:Int),(0:Int)) = (rec_ (l,xs,env,p)).bind fun r2 => cond (decide (r2.2.2 < (0:Int))) (some (Sum.inl (r2.1,r2.2.1,(-1:Int)))) ((rec_ (r2.1,r2.2.1,env,q)).bind fun r3 => cond (decide (r3.2.2 < (0:Int))) (some (Sum.inl (r3.1,r3.2.1,(-1:Int)))) (some (Sum.inr (r3.1,r3.2.1,s,c,ps,r2.2.2,r3.2.2)))) := by kernel_rfl
def MadeI (l:List Piece) (res:Option MkOut) (m:Option (List Node3×Int)):Prop := ∃ ys t,res = some (l,ys,t) ∧ (match m with
 | some s => (ys,t) = s
 | none => t < 0)
theorem madeI_out {l:List Piece} {xs:List Node3} {m:Option (List Node3×Int)} (h:∀ r,m = some r → 0 ≤ r.2):MadeI l (some (l,(outI xs m).1,(outI xs m).2)) m := by
 refine ⟨_,_,rfl, ?_⟩
 cases m with
 | none => show (-1:Int) < 0; omega
 | some s => rfl
theorem addP_nn {xs:List Node3} {kd a b:Int} (hp:poolB xs = true):∀ r,addP xs kd a b = some r → 0 ≤ r.2 := fun r h => (addP_grown hp (show _ = some (r.1,r.2) from h)).1.2.1
theorem raiseP_nn {xs:List Node3} {a e:Int} (hp:poolB xs = true):∀ r,raiseP xs a e = some r → 0 ≤ r.2 := fun r h => (addP_grown hp (raiseP_add (show _ = some (r.1,r.2) from h))).1.2.1
theorem dec2_step {l1:List Piece} {l2:List SNode} {k:Nat} {a b:Int} {P:Pat} (h:dec2 l1 l2 (k + 1) a b = some P) :
    inb a l1.length = true ∧ inb b l2.length = true ∧
    (((l1.getD a.toNat zP).2.2 = [] ∧ leaf2 (l1.getD a.toNat zP) (l2.getD b.toNat zS) = some P) ∨
     (∃ p Q,(l1.getD a.toNat zP).2.2 = [p] ∧ dec2 l1 l2 k p (l2.getD b.toNat zS).2.1 = some Q ∧ one2 (l1.getD a.toNat zP) (l2.getD b.toNat zS) Q = some P) ∨
     (∃ p q Q R,(l1.getD a.toNat zP).2.2 = [p,q] ∧ dec2 l1 l2 k p (l2.getD b.toNat zS).2.1 = some Q ∧ dec2 l1 l2 k q (l2.getD b.toNat zS).2.2.1 = some R ∧ two2 (l1.getD a.toNat zP) (l2.getD b.toNat zS) Q R = some P)) := by
  unfold dec2 at h
  cases hb:(inb a l1.length && inb b l2.length) with
  | false => rw [hb] at h; cases h
  | true =>
    rw [hb,cond_true] at h
    rw [Bool.and_eq_true] at hb
    refine ⟨hb.1,hb.2, ?_⟩
    split at h
    · rename_i e; exact .inl ⟨e,h⟩
    · rename_i p e
      obtain ⟨Q,h1,h2⟩ := Option.bind_eq_some_iff.1 h
      exact .inr (.inl ⟨p,Q,e,h1,h2⟩)
    · rename_i p q e
      obtain ⟨Q,h1,h2⟩ := Option.bind_eq_some_iff.1 h
      obtain ⟨R,h3,h4⟩ := Option.bind_eq_some_iff.1 h2
      exact .inr (.inr ⟨p,q,Q,R,e,h1,h3,h4⟩)
    · cases h
theorem env_in {env:List Int} (he:env.length = 26) {i:Int} (h0:0 ≤ i) (h1:i < 26):inb i env.length = true := by
 have e:i = ((i.toNat:Nat):Int) := by omega
 rw [e]
 exact inb_nat (by omega)
theorem mk_var {env:List Int} (xs:List Node3) (i:Int):(match mk env (.var i) xs with
  | some s => (xs,env.getD i.toNat 0) = s
  | none => env.getD i.toNat 0 < 0) := by
 by_cases hn:env.getD i.toNat 0 < 0
 ·have:mk env (.var i) xs = none := by
   show (bif decide (env.getD i.toNat 0 < 0) then none else some (xs,env.getD i.toNat 0)) = none
   rw [decide_eq_true hn]; rfl
  rw [this]; exact hn
 ·have:mk env (.var i) xs = some (xs,env.getD i.toNat 0) := by
   show (bif decide (env.getD i.toNat 0 < 0) then none else some (xs,env.getD i.toNat 0)) = _
   rw [decide_eq_false hn]; rfl
  rw [this]
theorem implMake {l1:List Piece} {l2:List SNode} {env:List Int} (he:env.length = 26):∀ (k:Nat) (a b:Int) (P:Pat) (xs:List Node3) (j:Nat),dec2 l1 l2 k a b = some P → k ≤ j → poolB xs = true → MadeI l1 (impl_pattern_make N0 j (l1,xs,env,a)) (mk env P xs)
 | 0,a,b,P,xs,j,h,_,_ => by cases h
 | k + 1,a,b,P,xs,0,h,hj,_ => by omega
 | k + 1,a,b,P,xs,j + 1,h,hj,hp => by
  have hx := poolB_len hp
  obtain ⟨hb,_,hc⟩ := dec2_step h
  have e0:impl_pattern_make N0 (j + 1) (l1,xs,env,a) = cond (inb a l1.length) (cond ((l1.getD a.toNat zP).1 == (110:Int)) ((impl_Pool_name N0 (xs,(l1.getD a.toNat zP).2.1)).bind fun r1 => (some (l1,r1.1,r1.2))) (cond ((l1.getD a.toNat zP).1 == (36:Int)) (cond (inb (l1.getD a.toNat zP).2.1 env.length) (some (l1,xs,env.getD (l1.getD a.toNat zP).2.1.toNat (0:Int))) none) (cond ((l1.getD a.toNat zP).1 == (63:Int)) (some (l1,xs,(-1:Int))) ((impl_pattern_make_L11 N0 (impl_pattern_make N0 j) N0 (l1,xs,env,(l1.getD a.toNat zP).1,(l1.getD a.toNat zP).2.1,(l1.getD a.toNat zP).2.2,(0:Int),(0:Int),(l1.getD a.toNat zP).2.2,((l1.getD a.toNat zP).2.2.length:Int),(0:Int))).bind fun e3 => (match e3 with
   | Sum.inl a4 => (some (a4.1,a4.2.1,a4.2.2))
   | Sum.inr b5 => (cond (b5.2.2.1 == (120:Int)) ((impl_Pool_raise N0 (b5.2.1,b5.2.2.2.2.2.2,b5.2.2.2.2.2.1)).bind fun r6 => (some (b5.1,r6.1,r6.2))) ((impl_pattern_make_R19 N0 (impl_pattern_make N0 j) (b5.1,b5.2.1,b5.2.2.1,b5.2.2.2.1,b5.2.2.2.2.1,b5.2.2.2.2.2.1,b5.2.2.2.2.2.2)).bind fun g7 => (some (g7.1,g7.2.1,g7.2.2))))))))) none := rfl
  rw [e0,hb,cond_true]
  rcases hc with ⟨hps,hl⟩ | ⟨p,Q,hps,h1,h2⟩ | ⟨p,q,Q,R,hps,h1,h2,h3⟩
  ·rcases leaf2_cases hl with ⟨c1,_,_,_,rfl⟩ | ⟨c1,c2,_,_,_,c6,c7,rfl⟩ | ⟨c1,c2,c3,_,_,_,_,_,rfl⟩
   ·rw [c1,cond_true,implName_eq hx,Option.bind_some]
    exact madeI_out (addP_nn hp)
   ·rw [c1,c2,cond_false,cond_true,env_in he c6 c7,cond_true]
    exact ⟨_,_,rfl,mk_var xs _⟩
   ·rw [c1,c2,c3,cond_false,cond_false,cond_true]
    exact ⟨_,_,rfl,by show (-1:Int) < 0; omega⟩
  ·obtain ⟨⟨c1,c2,c3⟩,c4,c5,c6,c7,rfl⟩ := one2_cases h2
   rw [c1,c2,c3,cond_false,cond_false,cond_false,hps]
   have el:(([p]:List Int).length:Int) = 1 := rfl
   rw [el]
   obtain ⟨ys,t,g1,g2⟩ := implMake he k p _ Q xs j h1 (by omega) hp
   have lp := make_loop1 N0 (impl_pattern_make N0 j) 999999999999999999999999999998 l1 xs env (l1.getD a.toNat zP).1 (l1.getD a.toNat zP).2.1 [p] 0 0 p
   rw [show (999999999999999999999999999998 + 2:Nat) = N0 from by kernel_rfl,g1,Option.bind_some] at lp
   rw [lp]
   dsimp only
   show MadeI l1 _ ((mk env Q xs).bind fun r => addP r.1 (l2.getD b.toNat zS).1 r.2 0)
   cases hm:mk env Q xs with
   | none =>
    rw [hm] at g2
    have g2:t < 0 := g2
    rw [decide_eq_true g2,cond_true]
    exact ⟨ys, -1,rfl,by show (-1:Int) < 0; omega⟩
   | some s =>
    rw [hm] at g2
    have g2:(ys,t) = s := g2
    subst g2
    have gr := mk_grown hp hm
    rw [decide_eq_false (by have := gr.2.1; omega),cond_false,Option.bind_some,Option.bind_some]
    dsimp only
    have hk0:kindV (l1.getD a.toNat zP).1 ≠ 0 := by rw [c5]; omega
    rw [c4,cond_false]
    unfold impl_pattern_make_R19
    dsimp only
    rw [kindOf_eq N0 hk0,Option.bind_some,implAdd_eq (poolB_len gr.1),Option.bind_some,Option.bind_some,c5]
    exact madeI_out (addP_nn gr.1)
  ·obtain ⟨⟨c1,c2,c3⟩,c4,c5⟩ := two2_cases h3
   rw [c1,c2,c3,cond_false,cond_false,cond_false,hps]
   have el:(([p,q]:List Int).length:Int) = 2 := rfl
   rw [el]
   obtain ⟨ys,t,g1,g2⟩ := implMake he k p _ Q xs j h1 (by omega) hp
   have lp := make_loop2 N0 (impl_pattern_make N0 j) 999999999999999999999999999997 l1 xs env (l1.getD a.toNat zP).1 (l1.getD a.toNat zP).2.1 [p,q] 0 0 p q
   rw [show (999999999999999999999999999997 + 3:Nat) = N0 from by kernel_rfl,g1,Option.bind_some] at lp
   rw [lp]
   dsimp only
   have hmk:∀ u:Nat,(mk env Q xs = none → mk env P xs = none) ∧ (∀ s,mk env Q xs = some s → mk env R s.1 = none → mk env P xs = none) := by
    intro u
    rcases c5 with ⟨_,_,rfl⟩ | ⟨_,_,_,rfl⟩
    ·exact ⟨fun e => by show (mk env Q xs).bind _ = none; rw [e]; rfl,fun s e1 e2 => by show (mk env Q xs).bind _ = none; rw [e1]; show (mk env R s.1).bind _ = none; rw [e2]; rfl⟩
    ·exact ⟨fun e => by show (mk env Q xs).bind _ = none; rw [e]; rfl,fun s e1 e2 => by show (mk env Q xs).bind _ = none; rw [e1]; show (mk env R s.1).bind _ = none; rw [e2]; rfl⟩
   cases hm:mk env Q xs with
   | none =>
    rw [hm] at g2
    have g2:t < 0 := g2
    rw [decide_eq_true g2,cond_true,(hmk 0).1 hm]
    exact ⟨ys, -1,rfl,by show (-1:Int) < 0; omega⟩
   | some s =>
    rw [hm] at g2
    have g2:(ys,t) = s := g2
    subst g2
    have gr := mk_grown hp hm
    obtain ⟨zs,u,g3,g4⟩ := implMake he k q _ R ys j h2 (by omega) gr.1
    rw [decide_eq_false (by have := gr.2.1; omega),cond_false,g3,Option.bind_some]
    dsimp only
    cases hm2:mk env R ys with
    | none =>
     rw [hm2] at g4
     have g4:u < 0 := g4
     rw [decide_eq_true g4,cond_true,(hmk 0).2 _ hm hm2]
     exact ⟨zs, -1,rfl,by show (-1:Int) < 0; omega⟩
    | some s2 =>
     rw [hm2] at g4
     have g4:(zs,u) = s2 := g4
     subst g4
     have gr2 := mk_grown gr.1 hm2
     rw [decide_eq_false (by have := gr2.2.1; omega),cond_false,Option.bind_some]
     dsimp only
     rcases c5 with ⟨d1,d2,rfl⟩ | ⟨d1,d2,d3,rfl⟩
     ·rw [d1,cond_true,implRaise_eq (poolB_len gr2.1),Option.bind_some]
      have e:mk env (.exp Q R) xs = raiseP zs u t := by
       show (mk env Q xs).bind _ = _
       rw [hm]
       show (mk env R ys).bind _ = _
       rw [hm2]; rfl
      rw [e]
      exact madeI_out (raiseP_nn gr2.1)
     ·have hk0:kindV (l1.getD a.toNat zP).1 ≠ 0 := by rw [d2]; omega
      rw [d1,cond_false]
      unfold impl_pattern_make_R19
      dsimp only
      rw [kindOf_eq N0 hk0,Option.bind_some,implAdd_eq (poolB_len gr2.1),Option.bind_some,Option.bind_some,d2]
      have e:mk env (.bin (l2.getD b.toNat zS).1 Q R) xs = addP zs (l2.getD b.toNat zS).1 t u := by
       show (mk env Q xs).bind _ = _
       rw [hm]
       show (mk env R ys).bind _ = _
       rw [hm2]; rfl
      rw [e]
      exact madeI_out (addP_nn gr2.1)
abbrev HasIn := List Piece×Int×Int
abbrev HasOut := List Piece×Bool
theorem has_loop1 (n:Nat) (rec_:HasIn → Option HasOut) (m:Nat) (l:List Piece) (s c v p:Int) (ps:List Int) :
  impl_pattern_has_L3 n rec_ (m + 2) (l,v,s,c,ps,[p],(1:Int),(0:Int)) = (rec_ (l,p,v)).bind fun r1 => cond r1.2 (some (Sum.inl (r1.1,true))) (some (Sum.inr (r1.1,v,s,c,ps))) := by kernel_rfl
theorem has_loop2 (n:Nat) (rec_:HasIn → Option HasOut) (m:Nat) (l:List Piece) (s c v p q:Int) (ps:List Int) :
  impl_pattern_has_L3 n rec_ (m + 3) (l,v,s,c,ps,[p,q],(2:Int),(0:Int)) = (rec_ (l,p,v)).bind fun r1 => cond r1.2 (some (Sum.inl (r1.1,true))) ((rec_ (r1.1,q,v)).bind fun r2 => cond r2.2 (some (Sum.inl (r2.1,true))) (some (Sum.inr (r2.1,v,s,c,ps)))) := by kernel_rfl
theorem implHas {l1:List Piece} {l2:List SNode}:∀ (k:Nat) (a b:Int) (P:Pat) (j:Nat),dec2 l1 l2 k a b = some P → k ≤ j → impl_pattern_has N0 j (l1,a,(63:Int)) = some (l1,P.asks)
 | 0,a,b,P,j,h,_ => by cases h
 | k + 1,a,b,P,0,h,hj => by omega
 | k + 1,a,b,P,j + 1,h,hj => by
  obtain ⟨hb,_,hc⟩ := dec2_step h
  have e0:impl_pattern_has N0 (j + 1) (l1,a,(63:Int)) = cond (inb a l1.length) ((impl_pattern_has_L3 N0 (impl_pattern_has N0 j) N0 (l1,(63:Int),(l1.getD a.toNat zP).1,(l1.getD a.toNat zP).2.1,(l1.getD a.toNat zP).2.2,(l1.getD a.toNat zP).2.2,((l1.getD a.toNat zP).2.2.length:Int),(0:Int))).bind fun e2 => (match e2 with
   | Sum.inl a3 => (some (a3.1,a3.2))
   | Sum.inr b4 => (some (b4.1,(b4.2.2.1 == b4.2.1))))) none := rfl
  rw [e0,hb,cond_true]
  rcases hc with ⟨hps,hl⟩ | ⟨p,Q,hps,h1,h2⟩ | ⟨p,q,Q,R,hps,h1,h2,h3⟩
  ·rw [hps]
   have lp:impl_pattern_has_L3 N0 (impl_pattern_has N0 j) N0 (l1,(63:Int),(l1.getD a.toNat zP).1,(l1.getD a.toNat zP).2.1,[],[],(([]:List Int).length:Int),(0:Int)) = some (Sum.inr (l1,(63:Int),(l1.getD a.toNat zP).1,(l1.getD a.toNat zP).2.1,[])) := by
    rw [show N0 = 999999999999999999999999999999 + 1 from by kernel_rfl]; rfl
   rw [lp,Option.bind_some]
   show some (l1,((l1.getD a.toNat zP).1 == (63:Int))) = _
   rcases leaf2_cases hl with ⟨c1,_,_,_,rfl⟩ | ⟨c1,c2,_,_,_,c6,c7,rfl⟩ | ⟨c1,c2,c3,_,_,_,_,_,rfl⟩
   ·have:(l1.getD a.toNat zP).1 = 110 := by simpa using c1
    rw [this]; rfl
   ·have:(l1.getD a.toNat zP).1 = 36 := by simpa using c2
    rw [this]; rfl
   ·rw [c3]; rfl
  ·obtain ⟨⟨c1,c2,c3⟩,c4,c5,c6,c7,rfl⟩ := one2_cases h2
   rw [hps]
   have lp := has_loop1 N0 (impl_pattern_has N0 j) 999999999999999999999999999998 l1 (l1.getD a.toNat zP).1 (l1.getD a.toNat zP).2.1 63 p [p]
   rw [show (999999999999999999999999999998 + 2:Nat) = N0 from by kernel_rfl,implHas k p _ Q j h1 (by omega),Option.bind_some] at lp
   have el:(([p]:List Int).length:Int) = 1 := rfl
   rw [el,lp]
   show (cond Q.asks (some (Sum.inl (l1,true))) (some (Sum.inr (l1,(63:Int),(l1.getD a.toNat zP).1,(l1.getD a.toNat zP).2.1,[p])))).bind _ = some (l1,Q.asks)
   cases Q.asks with
   | true => rfl
   | false => rw [cond_false,Option.bind_some]; dsimp only; rw [c3]
  ·obtain ⟨⟨c1,c2,c3⟩,c4,c5⟩ := two2_cases h3
   rw [hps]
   have lp := has_loop2 N0 (impl_pattern_has N0 j) 999999999999999999999999999997 l1 (l1.getD a.toNat zP).1 (l1.getD a.toNat zP).2.1 63 p q [p,q]
   rw [show (999999999999999999999999999997 + 3:Nat) = N0 from by kernel_rfl,implHas k p _ Q j h1 (by omega),Option.bind_some] at lp
   dsimp only at lp
   rw [implHas k q _ R j h2 (by omega),Option.bind_some] at lp
   have el:(([p,q]:List Int).length:Int) = 2 := rfl
   rw [el,lp]
   have ha:P.asks = (Q.asks || R.asks) := by
    rcases c5 with ⟨_,_,rfl⟩ | ⟨_,_,_,rfl⟩ <;> rfl
   rw [ha]
   cases Q.asks with
   | true => rfl
   | false =>
    rw [cond_false]
    cases R.asks with
    | true => rfl
    | false => rw [cond_false,Option.bind_some]; dsimp only; rw [c3]; rfl
abbrev SMkOut := List Node3×Int
def MadeS (res:Option SMkOut) (m:Option (List Node3×Int)):Prop := ∃ ys t,res = some (ys,t) ∧ (match m with
 | some s => (ys,t) = s
 | none => t = -1)
theorem madeS_out {xs:List Node3} {m:Option (List Node3×Int)} (h:∀ r,m = some r → 0 ≤ r.2):MadeS (some ((outI xs m).1,(outI xs m).2)) m := by
 refine ⟨_,_,rfl, ?_⟩
 cases m with
 | none => rfl
 | some s => rfl
theorem mk_var1 {env:List Int} (hv:∀ i:Nat,env.getD i 0 < 0 → env.getD i 0 = -1) (xs:List Node3) (i:Int):(match mk env (.var i) xs with
  | some s => (xs,env.getD i.toNat 0) = s
  | none => env.getD i.toNat 0 = -1) := by
 have h := mk_var (env := env) xs i
 cases q:mk env (.var i) xs with
 | none => rw [q] at h; exact hv _ h
 | some s => rw [q] at h; exact h
theorem parts_eq (n:Nat) (y:SNode):spec_l11Parts n (y.1,y.2.1,y.2.2.1,y.2.2.2) = cond (y.1 == (9:Int)) (some (0:Int)) (cond (y.1 == (10:Int)) (some (2:Int)) ((spec_l1Parts n y.1).bind fun r1 => (some r1))) := rfl
theorem specMake {l1:List Piece} {l2:List SNode} {env:List Int} (he:env.length = 26) (hv:∀ i:Nat,env.getD i 0 < 0 → env.getD i 0 = -1):∀ (k:Nat) (a b:Int) (P:Pat) (xs:List Node3) (j:Nat),dec2 l1 l2 k a b = some P → k ≤ j → poolB xs = true → MadeS (spec_l11Make N0 j (xs,env,l2,b)) (mk env P xs)
 | 0,a,b,P,xs,j,h,_,_ => by cases h
 | k + 1,a,b,P,xs,0,h,hj,_ => by omega
 | k + 1,a,b,P,xs,j + 1,h,hj,hp => by
  have hx := poolB_len hp
  obtain ⟨_,hb,hc⟩ := dec2_step h
  have e0:spec_l11Make N0 (j + 1) (xs,env,l2,b) = cond (inb b l2.length) (cond (l2.getD b.toNat zS).2.2.2 (some (xs,(-1:Int))) (cond ((l2.getD b.toNat zS).1 == (9:Int)) ((spec_l11Make_R5 N0 (spec_l11Make N0 j) (env,xs,[],(l2.getD b.toNat zS).1,(l2.getD b.toNat zS).2.1,(l2.getD b.toNat zS).2.2.1,(l2.getD b.toNat zS).2.2.2)).bind fun g1 => (some (g1.1,g1.2))) (cond ((l2.getD b.toNat zS).1 == (1:Int)) ((spec_l2Name N0 (xs,(l2.getD b.toNat zS).2.1)).bind fun r2 => (some (r2.1,r2.2))) ((spec_l11Make N0 j (xs,env,l2,(l2.getD b.toNat zS).2.1)).bind fun r3 => (cond (decide (r3.2 < (0:Int))) (some (xs,(-1:Int))) ((spec_l11Parts N0 ((l2.getD b.toNat zS).1,(l2.getD b.toNat zS).2.1,(l2.getD b.toNat zS).2.2.1,(l2.getD b.toNat zS).2.2.2)).bind fun r4 => (cond (r4 == (1:Int)) ((spec_l1Add N0 (r3.1,(l2.getD b.toNat zS).1,r3.2,(0:Int))).bind fun r5 => (some (r5.1,r5.2))) ((spec_l11Make N0 j (r3.1,env,l2,(l2.getD b.toNat zS).2.2.1)).bind fun r6 => (cond (decide (r6.2 < (0:Int))) (some (xs,(-1:Int))) (cond ((l2.getD b.toNat zS).1 == (10:Int)) ((spec_l3Raise N0 (r6.1,r6.2,r3.2)).bind fun r7 => (some (r7.1,r7.2))) ((spec_l1Add N0 (r6.1,(l2.getD b.toNat zS).1,r3.2,r6.2)).bind fun r8 => (some (r8.1,r8.2))))))))))))) none := rfl
  rw [e0,hb,cond_true]
  have fin2:∀ (z:Option SMkOut),(l2.getD b.toNat zS).2.2.2 = P.asks → (P.asks = false → MadeS z (mk env P xs)) → MadeS (cond (l2.getD b.toNat zS).2.2.2 (some (xs,(-1:Int))) z) (mk env P xs) := fun z q1 q2 => by
   rw [q1]
   cases hA:P.asks with
   | true =>
    rw [cond_true,mk_asks xs hA]
    exact ⟨xs, -1,rfl,rfl⟩
   | false => rw [cond_false]; exact q2 hA
  rcases hc with ⟨hps,hl⟩ | ⟨p,Q,hps,h1,h2⟩ | ⟨p,q,Q,R,hps,h1,h2,h3⟩
  ·rcases leaf2_cases hl with ⟨c1,c2,c3,c4,rfl⟩ | ⟨_,c1,c2,c3,c4,c6,c7,rfl⟩ | ⟨_,_,c1,c2,c3,c4,c6,c7,rfl⟩
   ·rw [c4,c2,c3,cond_false]
    show MadeS ((spec_l2Name N0 (xs,(l1.getD a.toNat zP).2.1)).bind fun r2 => (some (r2.1,r2.2))) _
    rw [specName_eq hp,Option.bind_some]
    exact madeS_out (addP_nn hp)
   ·rw [c4,c2,c3,cond_false]
    show MadeS ((spec_l11Make_R5 N0 (spec_l11Make N0 j) (env,xs,[],_,(l1.getD a.toNat zP).2.1,_,_)).bind fun g1 => (some (g1.1,g1.2))) _
    unfold spec_l11Make_R5
    dsimp only
    rw [env_in he c6 c7,cond_true,Option.bind_some]
    exact ⟨_,_,rfl,mk_var1 hv xs _⟩
   ·rw [c4,cond_true]
    exact ⟨xs, -1,rfl,rfl⟩
  ·obtain ⟨_,c4,c5,c6,c7,rfl⟩ := one2_cases h2
   refine fin2 _ c7 fun hA => ?_
   have n9:((l2.getD b.toNat zS).1 == (9:Int)) = false := by rw [beq_eq_false_iff_ne]; omega
   have n1:((l2.getD b.toNat zS).1 == (1:Int)) = false := by rw [beq_eq_false_iff_ne]; omega
   have hpt:spec_l11Parts N0 ((l2.getD b.toNat zS).1,(l2.getD b.toNat zS).2.1,(l2.getD b.toNat zS).2.2.1,(l2.getD b.toNat zS).2.2.2) = some 1 := by
    rw [parts_eq]
    rcases c6 with e | e <;> rw [e] <;> rfl
   rw [n9,n1,cond_false,cond_false]
   obtain ⟨ys,t,g1,g2⟩ := specMake he hv k p _ Q xs j h1 (by omega) hp
   rw [g1,Option.bind_some]
   dsimp only
   show MadeS _ ((mk env Q xs).bind fun r => addP r.1 (l2.getD b.toNat zS).1 r.2 0)
   cases hm:mk env Q xs with
   | none =>
    rw [hm] at g2
    have g2:t = -1 := g2
    rw [decide_eq_true (by omega:t < 0),cond_true]
    exact ⟨xs, -1,rfl,rfl⟩
   | some s =>
    rw [hm] at g2
    have g2:(ys,t) = s := g2
    subst g2
    have gr := mk_grown hp hm
    rw [decide_eq_false (by have := gr.2.1; omega),cond_false,hpt,Option.bind_some,Option.bind_some]
    show MadeS ((spec_l1Add N0 (ys,(l2.getD b.toNat zS).1,t,(0:Int))).bind fun r5 => (some (r5.1,r5.2))) _
    rw [specAdd_eq gr.1,Option.bind_some]
    exact madeS_out (addP_nn gr.1)
  ·obtain ⟨_,c4,c5⟩ := two2_cases h3
   have hasks:P.asks = (Q.asks || R.asks) := by
    rcases c5 with ⟨_,_,rfl⟩ | ⟨_,_,_,rfl⟩ <;> rfl
   refine fin2 _ (c4.trans hasks.symm) fun hA => ?_
   have n9:((l2.getD b.toNat zS).1 == (9:Int)) = false := by
    rw [beq_eq_false_iff_ne]
    rcases c5 with ⟨_,e,_⟩ | ⟨_,_,e,_⟩ <;> omega
   have n1:((l2.getD b.toNat zS).1 == (1:Int)) = false := by
    rw [beq_eq_false_iff_ne]
    rcases c5 with ⟨_,e,_⟩ | ⟨_,_,e,_⟩ <;> omega
   have hpt:spec_l11Parts N0 ((l2.getD b.toNat zS).1,(l2.getD b.toNat zS).2.1,(l2.getD b.toNat zS).2.2.1,(l2.getD b.toNat zS).2.2.2) = some 2 := by
    rw [parts_eq]
    rcases c5 with ⟨_,e,_⟩ | ⟨_,_,e,_⟩
    ·rw [e]; rfl
    ·rcases e with e | e | e | e | e <;> rw [e] <;> rfl
   rw [n9,n1,cond_false,cond_false]
   have hmk:(mk env Q xs = none → mk env P xs = none) ∧ (∀ s,mk env Q xs = some s → mk env R s.1 = none → mk env P xs = none) := by
    rcases c5 with ⟨_,_,rfl⟩ | ⟨_,_,_,rfl⟩
    ·exact ⟨fun e => by show (mk env Q xs).bind _ = none; rw [e]; rfl,fun s e1 e2 => by show (mk env Q xs).bind _ = none; rw [e1]; show (mk env R s.1).bind _ = none; rw [e2]; rfl⟩
    ·exact ⟨fun e => by show (mk env Q xs).bind _ = none; rw [e]; rfl,fun s e1 e2 => by show (mk env Q xs).bind _ = none; rw [e1]; show (mk env R s.1).bind _ = none; rw [e2]; rfl⟩
   obtain ⟨ys,t,g1,g2⟩ := specMake he hv k p _ Q xs j h1 (by omega) hp
   rw [g1,Option.bind_some]
   dsimp only
   cases hm:mk env Q xs with
   | none =>
    rw [hm] at g2
    have g2:t = -1 := g2
    rw [decide_eq_true (by omega:t < 0),cond_true,hmk.1 hm]
    exact ⟨xs, -1,rfl,rfl⟩
   | some s =>
    rw [hm] at g2
    have g2:(ys,t) = s := g2
    subst g2
    have gr := mk_grown hp hm
    rw [decide_eq_false (by have := gr.2.1; omega),cond_false,hpt,Option.bind_some]
    show MadeS ((spec_l11Make N0 j (ys,env,l2,(l2.getD b.toNat zS).2.2.1)).bind fun r6 => (cond (decide (r6.2 < (0:Int))) (some (xs,(-1:Int))) (cond ((l2.getD b.toNat zS).1 == (10:Int)) ((spec_l3Raise N0 (r6.1,r6.2,t)).bind fun r7 => (some (r7.1,r7.2))) ((spec_l1Add N0 (r6.1,(l2.getD b.toNat zS).1,t,r6.2)).bind fun r8 => (some (r8.1,r8.2)))))) _
    obtain ⟨zs,u,g3,g4⟩ := specMake he hv k q _ R ys j h2 (by omega) gr.1
    rw [g3,Option.bind_some]
    dsimp only
    cases hm2:mk env R ys with
    | none =>
     rw [hm2] at g4
     have g4:u = -1 := g4
     rw [decide_eq_true (by omega:u < 0),cond_true,hmk.2 _ hm hm2]
     exact ⟨xs, -1,rfl,rfl⟩
    | some s2 =>
     rw [hm2] at g4
     have g4:(zs,u) = s2 := g4
     subst g4
     have gr2 := mk_grown gr.1 hm2
     rw [decide_eq_false (by have := gr2.2.1; omega),cond_false]
     rcases c5 with ⟨d1,d2,rfl⟩ | ⟨d1,d2,d3,rfl⟩
     ·rw [d2]
      show MadeS ((spec_l3Raise N0 (zs,u,t)).bind fun r7 => (some (r7.1,r7.2))) _
      rw [specRaise_eq gr2.1,Option.bind_some]
      have e:mk env (.exp Q R) xs = raiseP zs u t := by
       show (mk env Q xs).bind _ = _
       rw [hm]
       show (mk env R ys).bind _ = _
       rw [hm2]; rfl
      rw [e]
      exact madeS_out (raiseP_nn gr2.1)
     ·have n10:((l2.getD b.toNat zS).1 == (10:Int)) = false := by rw [beq_eq_false_iff_ne]; omega
      rw [n10,cond_false,specAdd_eq gr2.1,Option.bind_some]
      have e:mk env (.bin (l2.getD b.toNat zS).1 Q R) xs = addP zs (l2.getD b.toNat zS).1 t u := by
       show (mk env Q xs).bind _ = _
       rw [hm]
       show (mk env R ys).bind _ = _
       rw [hm2]; rfl
      rw [e]
      exact madeS_out (addP_nn gr2.1)
def roleL (w p:Int):List (Int×ByteArray) := (spec_l12Acts N0 (w,p)).getD []
theorem role_eq {w p:Int} (hw:w = 1 ∨ w = 2 ∨ w = 3) (hp:p = 0 ∨ p = 1):impl_roleOf N0 (w,p) = some (roleL w p,true) ∧ spec_l12Acts N0 (w,p) = some (roleL w p) ∧ (roleL w p).length = 5 := by
 rcases hw with rfl | rfl | rfl <;> rcases hp with rfl | rfl
 all_goals exact ⟨by kernel_rfl,by kernel_rfl,by kernel_rfl⟩
def PatIs (T:ByteArray) (P:Pat):Prop := ∃ b l1 l2 k,impl_patternOf N0 T = some (b,true,l1) ∧ spec_l11Read N0 T = some (l2,true) ∧ k ≤ N0 ∧ dec2 l1 l2 k ((l1.length:Int) - 1) ((l2.length:Int) - 1) = some P ∧ l1.length ≤ 4294967296 ∧ l2.length ≤ 4294967296
def patB (T:ByteArray) (f:Pat → Bool):Bool := match impl_patternOf N0 T,spec_l11Read N0 T with
 | some r,some q => r.2.1 && (q.2 && ((match dec2 r.2.2 q.1 40 ((r.2.2.length:Int) - 1) ((q.1.length:Int) - 1) with | some P => f P | none => false) && (Nat.ble r.2.2.length 300 && Nat.ble q.1.length 300)))
 | _,_ => false
theorem patB_ex {T:ByteArray} {f:Pat → Bool} (h:patB T f = true):∃ P,PatIs T P ∧ f P = true := by
 unfold patB at h
 split at h
 ·rename_i r q e1 e2
  rw [Bool.and_eq_true,Bool.and_eq_true,Bool.and_eq_true,Bool.and_eq_true] at h
  obtain ⟨h1,h2,h3,h4,h5⟩ := h
  obtain ⟨b,o,l1⟩ := r
  obtain ⟨l2,o2⟩ := q
  have h1:o = true := h1
  have h2:o2 = true := h2
  subst h1; subst h2
  split at h3
  ·rename_i P e3
   exact ⟨P,⟨b,l1,l2,40,e1,e2,by decide,e3,Nat.le_trans (show l1.length ≤ 300 from Nat.le_of_ble_eq_true h4) (by decide),Nat.le_trans (show l2.length ≤ 300 from Nat.le_of_ble_eq_true h5) (by decide)⟩,h3⟩
  ·cases h3
 ·cases h
def actB (a:Int×ByteArray):Bool := a.1 == 1 && (a.2.size == 1 && (decide (97 ≤ bt a.2 0) && decide (bt a.2 0 ≤ 122))) || (a.1 == 3 && patB a.2 (fun _ => true) || ((a.1 == 2 || a.1 == 4) && patB a.2 (fun P => !P.asks)))
def roleB (w p:Int):Bool := (roleL w p).all actB && (List.range 5).all (fun i => (((roleL w p).getD i ((0:Int),(⟨#[]⟩:ByteArray))).1 == 4) == Nat.beq i 4)
theorem role_good {w p:Int} (hw:w = 1 ∨ w = 2 ∨ w = 3) (hp:p = 0 ∨ p = 1):roleB w p = true := by
 rcases hw with rfl | rfl | rfl <;> rcases hp with rfl | rfl
 all_goals kernel_rfl
theorem no_ft (h:some false = some true):False := by cases h
structure Good9 (xs:List Node3) (x:Inst9):Prop where
 way:x.1 = 1 ∨ x.1 = 2 ∨ x.1 = 3
 side:x.2.1 = 0 ∨ x.2.1 = 1
 me:0 ≤ x.2.2.1 ∧ x.2.2.1 ≤ 4
 peer:0 ≤ x.2.2.2.1 ∧ x.2.2.2.1 ≤ 4
 ne:x.2.2.1 ≠ x.2.2.2.1
 env:envB xs (envL x) = true
 len:(envL x).length = 26
 pool:poolB xs = true
 at0:0 ≤ x.2.2.2.2.1 ∧ x.2.2.2.2.1 ≤ 5
 done:dn x = (x.2.2.2.2.1 == 5)
 live:dn x = true → x.2.2.2.2.2.2.2.1 = false
 key:dn x = true → hasB xs x.2.2.2.2.2.2.2.2 = true
 no:dn x = false → x.2.2.2.2.2.2.2.2 = -1
theorem good_of {xs:List Node3} (hx:xs.length ≤ 4294967296) {x:Inst9} (he:(envL x).length ≤ 4294967296) (h:instV xs x = true):Good9 xs x := by
 have h1 := (instV_eq hx he).1
 rw [h] at h1
 obtain ⟨w,p,a,b,at_,env,d,dd,key⟩ := x
 dsimp only at h1
 unfold impl_InstOk at h1
 simp only [implEnv_eq N0 n0 hx (show env.length ≤ 4294967296 from he),agent_eq,Option.bind_some] at h1
 by_cases hr:(w = 1 ∨ w = 2 ∨ w = 3) ∧ (p = 0 ∨ p = 1)
 ·obtain ⟨r1,r2,r3⟩ := role_eq hr.1 hr.2
  rw [r1] at h1
  simp only [Option.bind_some,inRange_eq,isTerm_eq N0 hx,r3,Bool.not_true,cond_false] at h1
  cases ha:(decide (a ≥ 0) && decide (a ≤ 4)) with
  | false => rw [ha] at h1; exact (no_ft h1).elim
  | true =>
   cases hb:(decide (b ≥ 0) && decide (b ≤ 4)) with
   | false => rw [ha,hb] at h1; exact (no_ft h1).elim
   | true =>
    cases hab:(a == b) with
    | true => rw [ha,hb,hab] at h1; exact (no_ft h1).elim
    | false =>
     cases h2:(envB xs env && (decide (env.length = 26) && (decide (xs.length ≤ 500) && okFrom N0 [] xs))) with
     | false => rw [ha,hb,hab,h2] at h1; exact (no_ft h1).elim
     | true =>
      cases h3:(decide (at_ ≥ 0) && decide (at_ ≤ ((5:Nat):Int))) with
      | false => rw [ha,hb,hab,h2,h3] at h1; exact (no_ft h1).elim
      | true =>
       rw [ha,hb,hab,h2,h3] at h1
       simp only [Bool.not_true,cond_false] at h1
       rw [Bool.and_eq_true,decide_eq_true_iff,decide_eq_true_iff] at ha hb h3
       rw [Bool.and_eq_true,Bool.and_eq_true] at h2
       have h5:(at_ == ((5:Nat):Int)) = (at_ == 5) := rfl
       rw [h5] at h1
       cases h4:((at_ == 5) != d) with
       | true => rw [h4] at h1; exact (no_ft h1).elim
       | false =>
        rw [h4,cond_false] at h1
        have h6:d = (at_ == 5) := by
         rw [bne_eq_false_iff_eq] at h4
         exact h4.symm
        refine ⟨hr.1,hr.2,⟨ha.1,ha.2⟩,⟨hb.1,hb.2⟩,by simpa using hab,h2.1,of_decide_eq_true h2.2.1,h2.2.2,⟨h3.1,h3.2⟩,h6,fun hd => ?_,fun hd => ?_,fun hd => ?_⟩
        ·have hd:d = true := hd
         subst hd
         show dd = false
         cases dd with
         | false => rfl
         | true => exact (no_ft h1).elim
        ·have hd:d = true := hd
         subst hd
         cases dd with
         | false => exact Option.some.inj h1
         | true => exact (no_ft h1).elim
        ·have hd:d = false := hd
         subst hd
         have:(key == -1) = true := Option.some.inj h1
         exact by simpa using this
 ·rw [(role_out w p hr).1] at h1
  exact (no_ft h1).elim
theorem envB_neg {xs:List Node3}:∀ {env:List Int},envB xs env = true → ∀ i:Nat,env.getD i 0 < 0 → env.getD i 0 = -1
 | [],_,i,h => by simp at h
 | v :: r,hb,i,h => by
  have hb:((v == -1 || hasB xs v) && envB xs r) = true := hb
  rw [Bool.and_eq_true,Bool.or_eq_true] at hb
  match i with
  | 0 =>
   have h:v < 0 := h
   rcases hb.1 with q | q
   ·exact by simpa using q
   ·unfold hasB at q
    simp at q
    omega
  | i + 1 => exact envB_neg hb.2 i h
theorem copy_eq {xs:List Node3} (hx:xs.length ≤ 4294967296):impl_copyPool N0 xs = some xs := by
 unfold impl_copyPool lib_cloneNode
 rw [decide_eq_true hx]; rfl
theorem copyS_eq {xs:List Node3} (hx:xs.length ≤ 4294967296):spec_l1Copy N0 xs = some xs := by
 unfold spec_l1Copy
 have:room (([]:List Node3).length + xs.length) = true := by
  unfold room
  simp
  omega
 rw [this]; rfl
theorem patMake_eq {T:ByteArray} {P:Pat} (hT:PatIs T P) {xs:List Node3} (hp:poolB xs = true) {env:List Int} (he:env.length = 26) (hv:envB xs env = true):impl_PatMake N0 (xs,env,T) = some (outI xs (mk env P xs)) := by
 obtain ⟨b,l1,l2,k,e1,e2,hk,hd,hl1,hl2⟩ := hT
 have hx := poolB_len hp
 have hP:(decide (xs.length ≤ 500) && okFrom N0 [] xs) = true := hp
 unfold impl_PatMake
 dsimp only
 rw [implPool_eq N0 n0 (by omega),hP]
 simp only [Option.bind_some,Bool.not_true,cond_false,e1]
 rw [implEnv_eq N0 n0 (by omega) (by omega),hv,decide_eq_true he,hP]
 simp only [Option.bind_some,Bool.and_true,Bool.not_true,cond_false]
 have ew:impl_pattern_whole N0 l1 = some (l1,(l1.length:Int) - 1) := by
  unfold impl_pattern_whole
  rw [wrap_ok (by omega) (by omega)]
 rw [ew]
 simp only [Option.bind_some]
 rw [implHas k _ _ P N0 hd hk]
 simp only [Option.bind_some]
 cases hA:P.asks with
 | true => rw [cond_true,copy_eq (by omega),mk_asks xs hA]; rfl
 | false =>
  rw [cond_false,copy_eq (by omega)]
  simp only [Option.bind_some,ew]
  obtain ⟨ys,t,g1,g2⟩ := implMake he k _ _ P xs N0 hd hk hp
  rw [g1]
  simp only [Option.bind_some]
  cases hm:mk env P xs with
  | none =>
   rw [hm] at g2
   have g2:t < 0 := g2
   rw [decide_eq_true g2,cond_true]; rfl
  | some s =>
   rw [hm] at g2
   have g2:(ys,t) = s := g2
   subst g2
   have gr := mk_grown hp hm
   rw [decide_eq_false (by have := gr.2.1; omega),cond_false]; rfl
theorem l11Make_eq {T:ByteArray} {P:Pat} (hT:PatIs T P) {xs:List Node3} (hp:poolB xs = true) {env:List Int} (he:env.length = 26) (hv:envB xs env = true):∃ l2 ys t,spec_l11Read N0 T = some (l2,true) ∧ l2.length ≤ 4294967296 ∧ spec_l11Make N0 N0 (xs,env,l2,(l2.length:Int) - 1) = some (ys,t) ∧ (match mk env P xs with
  | some s => (ys,t) = s
  | none => t = -1) := by
 obtain ⟨b,l1,l2,k,e1,e2,hk,hd,hl1,hl2⟩ := hT
 obtain ⟨ys,t,g1,g2⟩ := specMake he (envB_neg hv) k _ _ P xs N0 hd hk hp
 exact ⟨l2,ys,t,e2,hl2,g1,g2⟩
theorem role_at {w p:Int} (hw:w = 1 ∨ w = 2 ∨ w = 3) (hp:p = 0 ∨ p = 1) {i:Nat} (hi:i < 5) (a:Int×ByteArray) (ha:a = (roleL w p).getD i ((0:Int),(⟨#[]⟩:ByteArray))) :
  (a.1 = 4 ↔ i = 4) ∧ ((a.1 = 1 ∧ a.2.size = 1 ∧ 97 ≤ bt a.2 0 ∧ bt a.2 0 ≤ 122) ∨ (a.1 = 3 ∧ ∃ P,PatIs a.2 P) ∨ ((a.1 = 2 ∨ a.1 = 4) ∧ ∃ P,PatIs a.2 P ∧ P.asks = false)) := by
 have hb := role_good hw hp
 obtain ⟨_,_,hl⟩ := role_eq hw hp
 unfold roleB at hb
 rw [Bool.and_eq_true] at hb
 have h2 := List.all_eq_true.1 hb.2 i (List.mem_range.2 hi)
 rw [← ha] at h2
 have hm:a ∈ roleL w p := by
  rw [ha,List.getD_eq_getElem?_getD,List.getElem?_eq_getElem (by omega)]
  exact List.getElem_mem _
 have h1 := List.all_eq_true.1 hb.1 a hm
 refine ⟨?_, ?_⟩
 ·have h2:(a.1 == 4) = Nat.beq i 4 := by simpa using h2
  constructor
  ·intro h
   rw [h] at h2
   exact Nat.eq_of_beq_eq_true h2.symm
  ·intro h
   rw [h] at h2
   have:(a.1 == 4) = true := h2
   exact by simpa using this
 ·unfold actB at h1
  rw [Bool.or_eq_true,Bool.or_eq_true,Bool.and_eq_true,Bool.and_eq_true,Bool.and_eq_true,Bool.and_eq_true,Bool.and_eq_true,Bool.or_eq_true] at h1
  rcases h1 with ⟨h1,h3,h4,h5⟩ | ⟨h1,h3⟩ | ⟨h1,h3⟩
  ·exact .inl ⟨by simpa using h1,by simpa using h3,of_decide_eq_true h4,of_decide_eq_true h5⟩
  ·obtain ⟨P,hP,_⟩ := patB_ex h3
   exact .inr (.inl ⟨by simpa using h1,P,hP⟩)
  ·obtain ⟨P,hP,hA⟩ := patB_ex h3
   exact .inr (.inr ⟨by simpa using h1,P,hP,by simpa using hA⟩)
section
variable {xs:List Node3} {kn:List Int} {li:List Inst9} {fr:Int} {gv sh:List Int} {lg:List Claim3} {k:Int}
theorem hasB_iff {xs:List Node3} {t:Int}:hasB xs t = true ↔ 0 ≤ t ∧ t < (xs.length:Int) := by
 unfold hasB
 rw [Bool.and_eq_true,decide_eq_true_iff,decide_eq_true_iff]
 omega
end
def EnvG (env:List Int):Prop := env.length = 26 ∧ ∀ i:Nat,env.getD i 0 < 0 → env.getD i 0 = -1
theorem set_get {env:List Int} {i:Nat} (h:i < env.length) (t:Int):(env.set i t).getD i 0 = t := by
 rw [List.getD_eq_getElem?_getD,List.getElem?_set_self h]; rfl
theorem EnvG.set {env:List Int} (h:EnvG env) {i:Nat} (hi:i < env.length) {t:Int} (ht:0 ≤ t):EnvG (env.set i t) := by
 refine ⟨by rw [List.length_set]; exact h.1,fun j hj => ?_⟩
 by_cases e:i = j
 ·subst e
  rw [set_get hi] at hj
  omega
 ·have e2:(env.set i t).getD j 0 = env.getD j 0 := by rw [List.getD_eq_getElem?_getD,List.getD_eq_getElem?_getD,List.getElem?_set_ne e]
  rw [e2] at hj ⊢
  exact h.2 _ hj
theorem hasB_mono {xs zs:List Node3} {t:Int} (h:hasB xs t = true):hasB (xs ++ zs) t = true := by
 rw [hasB_iff] at h ⊢
 rw [List.length_append]
 omega
abbrev nd (xs:List Node3) (t:Int):Node3 := xs.getD t.toNat zN3
theorem get_pre {α:Type} (pre r:List α) (a d:α):(pre ++ a :: r).getD pre.length d = a := by
 rw [List.getD_eq_getElem?_getD,List.getElem?_append_right (Nat.le_refl _),Nat.sub_self]; rfl
theorem len_one {α:Type} (pre:List α) (a:α):((pre ++ [a]).length:Int) = (pre.length:Int) + 1 := by rw [List.length_append,List.length_singleton]; omega
theorem copyInst_eq {w p a b at_:Int} {env:List Int} {d dd:Bool} {key:Int} (he:env.length ≤ 4294967296):impl_copyInst N0 (w,p,a,b,at_,env,d,dd,key) = some (w,p,a,b,at_,env,d,dd,key) := by
 unfold impl_copyInst lib_cloneInt
 dsimp only
 rw [decide_eq_true he]; rfl
theorem l13Copy_eq {w p a b at_:Int} {env:List Int} {d dd:Bool} {key:Int} (he:env.length ≤ 4294967296):spec_l13Copy N0 (w,p,a,b,at_,env,d,dd,key) = some (w,p,a,b,at_,env,d,dd,key) := by
 unfold spec_l13Copy
 dsimp only
 have:room (([]:List Int).length + env.length) = true := by
  unfold room
  simp
  omega
 rw [this]; rfl
theorem envB_mono {xs zs:List Node3}:∀ {env:List Int},envB xs env = true → envB (xs ++ zs) env = true
 | [],_ => rfl
 | v :: r,h => by
  have h:((v == -1 || hasB xs v) && envB xs r) = true := h
  show ((v == -1 || hasB (xs ++ zs) v) && envB (xs ++ zs) r) = true
  rw [Bool.and_eq_true,Bool.or_eq_true] at h ⊢
  exact ⟨h.1.imp id hasB_mono,envB_mono h.2⟩
theorem envB_set {xs:List Node3} {t:Int} (ht:hasB xs t = true):∀ {env:List Int} (i:Nat),envB xs env = true → envB xs (env.set i t) = true
 | [],i,_ => rfl
 | v :: r,0,h => by
  have h:((v == -1 || hasB xs v) && envB xs r) = true := h
  show ((t == -1 || hasB xs t) && envB xs r) = true
  rw [Bool.and_eq_true] at h
  rw [ht,h.2,Bool.or_true]; rfl
 | v :: r,i + 1,h => by
  have h:((v == -1 || hasB xs v) && envB xs r) = true := h
  show ((v == -1 || hasB xs v) && envB xs (r.set i t)) = true
  rw [Bool.and_eq_true] at h
  rw [h.1,envB_set ht i h.2]; rfl
def freshV (n:Int):Int := (impl_FreshName N0 n).getD 0
theorem fresh_eq (n:Int):impl_FreshName N0 n = some (freshV n) ∧ spec_FreshName N0 n = some (freshV n) := by
 unfold freshV impl_FreshName spec_FreshName
 rw [inRange_eq,in_eq]
 simp only [Option.bind_some]
 cases (decide (n ≥ 0) && decide (n ≤ 99)) <;> exact ⟨rfl,rfl⟩
abbrev GoT := List Node3×Int×Int×Int×Int×Int×List Int×Bool×Bool×Int×List Int×Int
def goI:((Int×Int×Int×Int×Int×List Int×Bool×Bool×Int×List Node3×List Int×Int) ⊕ (Int×Int×Int×Int×Int×List Int×Bool×Bool×Int×List Node3×Int×List Int)) → GoT
 | .inl a => (a.2.2.2.2.2.2.2.2.2.1,a.1,a.2.1,a.2.2.1,a.2.2.2.1,a.2.2.2.2.1,a.2.2.2.2.2.1,a.2.2.2.2.2.2.1,a.2.2.2.2.2.2.2.1,a.2.2.2.2.2.2.2.2.1,a.2.2.2.2.2.2.2.2.2.2.1,a.2.2.2.2.2.2.2.2.2.2.2)
 | .inr b => (b.2.2.2.2.2.2.2.2.2.1,b.1,b.2.1,b.2.2.1,b.2.2.2.1,b.2.2.2.2.1,b.2.2.2.2.2.1,b.2.2.2.2.2.2.1,b.2.2.2.2.2.2.2.1,b.2.2.2.2.2.2.2.2.1,b.2.2.2.2.2.2.2.2.2.2.2,b.2.2.2.2.2.2.2.2.2.2.1)
def goS:(GoT ⊕ (Int×List Node3×Int×Int×Int×Int×Int×List Int×Bool×Bool×Int×List Node3×Int×Int×Int×Int×Int×List Int×Bool×Bool×Int×List Int)) → GoT
 | .inl a => a
 | .inr b => (b.2.1,b.2.2.1,b.2.2.2.1,b.2.2.2.2.1,b.2.2.2.2.2.1,b.2.2.2.2.2.2.1,b.2.2.2.2.2.2.2.1,b.2.2.2.2.2.2.2.2.1,b.2.2.2.2.2.2.2.2.2.1,b.2.2.2.2.2.2.2.2.2.2.1,b.2.2.2.2.2.2.2.2.2.2.2.2.2.2.2.2.2.2.2.2.2,b.1)
theorem l97 {x:Int} (h0:97 ≤ x) (h1:x ≤ 122):IntKind.u8.wrap (x - 97) = x - 97 ∧ IntKind.i64.wrap (IntKind.i64.wrap x - 97) = x - 97 := by
 have h:x = 97 ∨ x = 98 ∨ x = 99 ∨ x = 100 ∨ x = 101 ∨ x = 102 ∨ x = 103 ∨ x = 104 ∨ x = 105 ∨ x = 106 ∨ x = 107 ∨ x = 108 ∨ x = 109 ∨ x = 110 ∨ x = 111 ∨ x = 112 ∨ x = 113 ∨ x = 114 ∨ x = 115 ∨ x = 116 ∨ x = 117 ∨ x = 118 ∨ x = 119 ∨ x = 120 ∨ x = 121 ∨ x = 122 := by omega
 rcases h with h | h | h | h | h | h | h | h | h | h | h | h | h | h | h | h | h | h | h | h | h | h | h | h | h | h <;> subst h <;> exact ⟨by decide,by decide⟩
theorem n0s:∃ m,N0 = m + 1 := ⟨N0 - 1,by have := n0; omega⟩
theorem envB_at {xs:List Node3}:∀ {env:List Int},envB xs env = true → ∀ i:Nat,0 ≤ env.getD i 0 → i < env.length → hasB xs (env.getD i 0) = true
 | [],_,i,_,h => absurd h (Nat.not_lt_zero _)
 | v :: r,hb,i,h0,hl => by
  have hb:((v == -1 || hasB xs v) && envB xs r) = true := hb
  rw [Bool.and_eq_true,Bool.or_eq_true] at hb
  match i with
  | 0 =>
   rcases hb.1 with q | q
   ·have q:v = -1 := by simpa using q
    have h0:0 ≤ v := h0
    omega
   ·exact q
  | i + 1 => exact envB_at hb.2 i h0 (by simpa using hl)
def Pat.Fine:Pat → Prop
 | .name _ => True
 | .var i => 0 ≤ i ∧ i < 26
 | .ask i => 0 ≤ i ∧ i < 26
 | .un _ p => p.Fine
 | .bin _ p q => p.Fine ∧ q.Fine
 | .exp p q => p.Fine ∧ q.Fine
theorem dec2_fine {l1:List Piece} {l2:List SNode}:∀ {k:Nat} {a b:Int} {P:Pat},dec2 l1 l2 k a b = some P → P.Fine
 | 0,a,b,P,h => by cases h
 | k + 1,a,b,P,h => by
  obtain ⟨_,_,hc⟩ := dec2_step h
  rcases hc with ⟨_,hl⟩ | ⟨p,Q,_,h1,h2⟩ | ⟨p,q,Q,R,_,h1,h2,h3⟩
  ·rcases leaf2_cases hl with ⟨_,_,_,_,rfl⟩ | ⟨_,_,_,_,_,c6,c7,rfl⟩ | ⟨_,_,_,_,_,_,c6,c7,rfl⟩
   ·exact trivial
   ·exact ⟨c6,c7⟩
   ·exact ⟨c6,c7⟩
  ·obtain ⟨_,_,_,_,_,rfl⟩ := one2_cases h2
   exact (show Q.Fine from dec2_fine h1)
  ·obtain ⟨_,_,c5⟩ := two2_cases h3
   rcases c5 with ⟨_,_,rfl⟩ | ⟨_,_,_,rfl⟩
   ·exact ⟨dec2_fine h1,dec2_fine h2⟩
   ·exact ⟨dec2_fine h1,dec2_fine h2⟩
theorem PatIs.fine {T:ByteArray} {P:Pat} (h:PatIs T P):P.Fine := by
 obtain ⟨_,_,_,_,_,_,_,hd,_⟩ := h
 exact dec2_fine hd
theorem mk_in {env:List Int}:∀ {P:Pat} {xs ys:List Node3} {t:Int},P.Fine → poolB xs = true → env.length = 26 → envB xs env = true → mk env P xs = some (ys,t) → hasB ys t = true
 | .name c,xs,ys,t,_,hp,_,_,h => by
  obtain ⟨g,g2⟩ := addP_grown hp h
  exact hasB_iff.2 ⟨g.2.1,g2⟩
 | .var i,xs,ys,t,hf,hp,he,hv,h => by
  have h:(bif decide (env.getD i.toNat 0 < 0) then none else some (xs,env.getD i.toNat 0)) = some (ys,t) := h
  by_cases hn:env.getD i.toNat 0 < 0
  ·rw [decide_eq_true hn] at h; cases h
  ·rw [decide_eq_false hn] at h
   obtain ⟨rfl,rfl⟩ := Prod.mk.inj (Option.some.inj h)
   obtain ⟨f1,f2⟩ := hf
   exact envB_at hv _ (by omega) (by omega)
 | .ask i,xs,ys,t,_,_,_,_,h => by cases h
 | .un k p,xs,ys,t,hf,hp,he,hv,h => by
  obtain ⟨r,h1,h2⟩ := Option.bind_eq_some_iff.1 (show (mk env p xs).bind _ = some (ys,t) from h)
  have g1 := mk_grown hp (show mk env p xs = some (r.1,r.2) from h1)
  obtain ⟨g,g2⟩ := addP_grown g1.1 h2
  exact hasB_iff.2 ⟨g.2.1,g2⟩
 | .bin k p q,xs,ys,t,hf,hp,he,hv,h => by
  obtain ⟨r,h1,h2⟩ := Option.bind_eq_some_iff.1 (show (mk env p xs).bind _ = some (ys,t) from h)
  have g1 := mk_grown hp (show mk env p xs = some (r.1,r.2) from h1)
  obtain ⟨s,h3,h4⟩ := Option.bind_eq_some_iff.1 h2
  have g2 := mk_grown g1.1 (show mk env q r.1 = some (s.1,s.2) from h3)
  obtain ⟨g,g3⟩ := addP_grown g2.1 h4
  exact hasB_iff.2 ⟨g.2.1,g3⟩
 | .exp p q,xs,ys,t,hf,hp,he,hv,h => by
  obtain ⟨r,h1,h2⟩ := Option.bind_eq_some_iff.1 (show (mk env p xs).bind _ = some (ys,t) from h)
  have g1 := mk_grown hp (show mk env p xs = some (r.1,r.2) from h1)
  obtain ⟨s,h3,h4⟩ := Option.bind_eq_some_iff.1 h2
  have g2 := mk_grown g1.1 (show mk env q r.1 = some (s.1,s.2) from h3)
  obtain ⟨g,g3⟩ := addP_grown g2.1 (raiseP_add h4)
  exact hasB_iff.2 ⟨g.2.1,g3⟩
def Keeps (env e:List Int):Prop := ∀ i:Nat,env.getD i 0 ≠ -1 → e.getD i 0 = env.getD i 0
theorem Keeps.refl (env:List Int):Keeps env env := fun _ _ => rfl
theorem Keeps.trans {a b c:List Int} (h1:Keeps a b) (h2:Keeps b c):Keeps a c := fun i h => (h2 i (by rw [h1 i h]; exact h)).trans (h1 i h)
theorem inst_right {xs:List Node3} {w p a b at_:Int} {env:List Int} {d dd:Bool} {key:Int} (hw:w = 1 ∨ w = 2 ∨ w = 3) (hs:p = 0 ∨ p = 1) (ha:0 ≤ a ∧ a ≤ 4) (hb:0 ≤ b ∧ b ≤ 4) (hab:a ≠ b) (hp:poolB xs = true) (he:env.length = 26) (hv:envB xs env = true)
  (h0:0 ≤ at_ ∧ at_ ≤ 5) (hd:d = (at_ == 5)) (h1:d = true → dd = false ∧ hasB xs key = true) (h2:d = false → key = -1):instV xs (w,p,a,b,at_,env,d,dd,key) = true := by
 have hx := poolB_len hp
 have h := (instV_eq (xs := xs) (by omega) (x := (w,p,a,b,at_,env,d,dd,key)) (show env.length ≤ 4294967296 by omega)).1
 dsimp only at h
 unfold impl_InstOk at h
 obtain ⟨r1,r2,r3⟩ := role_eq hw hs
 have hP:(decide (xs.length ≤ 500) && okFrom N0 [] xs) = true := hp
 have k1:(decide (a ≥ 0) && decide (a ≤ 4)) = true := by simp; omega
 have k2:(decide (b ≥ 0) && decide (b ≤ 4)) = true := by simp; omega
 have k3:(a == b) = false := by simpa using hab
 have k4:(decide (at_ ≥ 0) && decide (at_ ≤ ((5:Nat):Int))) = true := by simp; omega
 have k5:((at_ == ((5:Nat):Int)) != d) = false := by
  rw [show (at_ == ((5:Nat):Int)) = (at_ == 5) from rfl, ← hd]
  cases d <;> rfl
 simp only [implEnv_eq N0 n0 (show xs.length ≤ 4294967296 by omega) (show env.length ≤ 4294967296 by omega),agent_eq,Option.bind_some,r1,inRange_eq,isTerm_eq N0 (show xs.length ≤ 4294967296 by omega),r3,Bool.not_true,cond_false,k1,k2,k3,hv,decide_eq_true he,hP,Bool.and_true,k4,k5] at h
 cases d with
 | true =>
  obtain ⟨q1,q2⟩ := h1 rfl
  subst q1
  simp only [q2,cond_true,cond_false] at h
  exact (Option.some.inj h).symm
 | false =>
  have q := h2 rfl
  subst q
  simp only [cond_false] at h
  exact (Option.some.inj h).symm
structure Stops (xs:List Node3) (at_ key:Int) (out:List Int) (ys:List Node3) (at':Int) (env':List Int) (d' dd':Bool) (key':Int) (out':List Int):Prop where
 pool:poolB ys = true
 len:env'.length = 26
 few:out'.length ≤ 5
 env:envB ys env' = true
 grows:∃ zs,ys = xs ++ zs
 on:at_ ≤ at'
 most:at' ≤ 5
 done:d' = (at' == 5)
 key1:d' = true → dd' = false ∧ hasB ys key' = true
 key0:d' = false → key' = key
 sent:∀ v ∈ out',v ∈ out ∨ hasB ys v = true
structure EndsF (w p a b:Int) (xs:List Node3) (at_ key:Int) (out:List Int) (ri:Option ((Int×Int×Int×Int×Int×List Int×Bool×Bool×Int×List Node3×List Int×Int) ⊕ (Int×Int×Int×Int×Int×List Int×Bool×Bool×Int×List Node3×Int×List Int))) (rs:Option (GoT ⊕ (Int×List Node3×Int×Int×Int×Int×Int×List Int×Bool×Bool×Int×List Node3×Int×Int×Int×Int×Int×List Int×Bool×Bool×Int×List Int))):Prop where
 ex:∃ ei es ys at' env' d' dd' key' out' nx,ri = some ei ∧ rs = some es ∧ goI ei = (ys,w,p,a,b,at',env',d',dd',key',out',nx) ∧ goS es = (ys,w,p,a,b,at',env',d',dd',key',out',nx) ∧ Stops xs at_ key out ys at' env' d' dd' key' out'
theorem Stops.stay {xs:List Node3} {at_ key:Int} {out env:List Int} {dd:Bool} (h0:at_ < 5) (hp:poolB xs = true) (he:env.length = 26) (hv:envB xs env = true) (ho:out.length ≤ 5):Stops xs at_ key out xs at_ env false dd key out :=
 ⟨hp,he,ho,hv,⟨[],by simp⟩,Int.le_refl _,by omega,by rw [eq_comm,beq_eq_false_iff_ne]; omega,fun q => (by cases q),fun _ => rfl,fun v h => .inl h⟩
theorem Stops.go {xs zs ys:List Node3} {at_ at' key key2:Int} {out out2 env' out':List Int} {d' dd':Bool} {key':Int} (h:Stops zs (at_ + 1) key2 out2 ys at' env' d' dd' key' out') (g:∃ us,zs = xs ++ us) (hk:key2 = key ∨ at_ = 4) (ho:∀ v ∈ out2,v ∈ out ∨ hasB zs v = true):Stops xs at_ key out ys at' env' d' dd' key' out' := by
 obtain ⟨us,rfl⟩ := g
 obtain ⟨vs,hvs⟩ := h.grows
 refine ⟨h.pool,h.len,h.few,h.env,⟨us ++ vs,by rw [hvs,List.append_assoc]⟩,by have := h.on; omega,h.most,h.done,h.key1,fun q => ?_,fun v hv => ?_⟩
 ·rcases hk with e | e
  ·rw [← e]; exact h.key0 q
  ·have q1 := h.done
   rw [q,show at' = 5 by have := h.on; have := h.most; omega] at q1
   cases q1
 ·rcases h.sent v hv with q | q
  ·rcases ho v q with q | q
   ·exact .inl q
   ·exact .inr (by rw [hvs]; exact hasB_mono q)
  ·exact .inr q
theorem go_loopF {w p a b:Int} (hw:w = 1 ∨ w = 2 ∨ w = 3) (hs:p = 0 ∨ p = 1):∀ (k:Nat) (at_:Int) (env:List Int) (key nx:Int) (xs:List Node3) (out:List Int) (m1 m2:Nat),at_ + (k:Int) = 5 → 0 ≤ at_ → poolB xs = true → env.length = 26 → envB xs env = true → (at_ = 5 → hasB xs key = true) → out.length + k ≤ 5 → k < m1 → k < m2 →
  EndsF w p a b xs at_ key out (impl_Inst_goOn_L3 N0 m1 (w,p,a,b,at_,env,(at_ == 5),false,key,xs,nx,roleL w p,out)) (spec_l13Go_L4 N0 m2 (nx,xs,w,p,a,b,at_,env,(at_ == 5),false,key,[],(0:Int),(0:Int),(0:Int),(0:Int),(0:Int),[],false,false,(0:Int),out,roleL w p))
 | k,at_,env,key,nx,xs,out,0,m2,h0,h1,hp,he,hv,hky,ho,hm,hm2 => by omega
 | k,at_,env,key,nx,xs,out,m1 + 1,0,h0,h1,hp,he,hv,hky,ho,hm,hm2 => by omega
 | 0,at_,env,key,nx,xs,out,m1 + 1,m2 + 1,h0,h1,hp,he,hv,hky,ho,hm,hm2 => by
  have e5:at_ = 5 := by omega
  subst e5
  have hl := poolB_len hp
  refine ⟨_,_,xs,5,env,true,false,key,out,nx,rfl,rfl,rfl,rfl,hp,he,by omega,hv,⟨[],by simp⟩,Int.le_refl _,Int.le_refl _,rfl,fun _ => ⟨rfl,hky rfl⟩,fun q => (by cases q),fun v h => .inl h⟩
 | k + 1,at_,env,key,nx,xs,out,m1 + 1,m2 + 1,h0,h1,hp,he,hv,hky,ho,hm,hm2 => by
  have hl := poolB_len hp
  have c5:(at_ == 5) = false := by rw [beq_eq_false_iff_ne]; omega
  have hin:inb at_ 5 = true := by
   have e:at_ = ((at_.toNat:Nat):Int) := by omega
   rw [e]; exact inb_nat (by omega)
  obtain ⟨_,_,r3⟩ := role_eq hw hs
  obtain ⟨hA,hact⟩ := role_at hw hs (i := at_.toNat) (by omega) _ rfl
  have w1:IntKind.i64.wrap (at_ + 1) = at_ + 1 := wrap_ok (by omega) (by omega)
  have rm:∀ t:Int,room (out.length + [t].length) = true := fun t => by
   unfold room
   rw [List.length_singleton]
   simp
   omega
  revert hA hact
  generalize hAA:(roleL w p).getD at_.toNat ((0:Int),(⟨#[]⟩:ByteArray)) = A
  intro hA hact
  rw [c5]
  rcases hact with ⟨k1,s1,s2,s3⟩ | ⟨k1,_⟩ | ⟨k1,P,hP,hAs⟩
  ·have k1':(A.1 == 1) = true := by rw [k1]; rfl
   have k3':(A.1 == 3) = false := by rw [k1]; rfl
   have k4':(A.1 == 4) = false := by rw [k1]; rfl
   have k2':(A.1 == 2) = false := by rw [k1]; rfl
   have n4:at_.toNat ≠ 4 := fun q => by have := hA.2 q; omega
   have c6:(at_ + 1 == 5) = false := by rw [beq_eq_false_iff_ne]; omega
   obtain ⟨f1,f2⟩ := fresh_eq nx
   have nI := implName_eq hl (freshV nx)
   have nS := specName_eq hp (freshV nx)
   cases hq:addP xs 1 (freshV nx) 0 with
   | none =>
    rw [hq] at nI nS
    refine ⟨.inl (w,p,a,b,at_,env,false,true,key,xs,out,nx), .inl (xs,w,p,a,b,at_,env,false,true,key,out,nx),xs,at_,env,false,true,key,out,nx, ?_, ?_,rfl,rfl,Stops.stay (by omega) hp he hv (by omega)⟩
    ·rw [impl_Inst_goOn_L3]; dsimp only
     simp only [impl_Inst_act,r3,hin,hAA,k1',k3',k4',f1,nI,outI,Bool.not_false,Bool.not_true,cond_true,cond_false,Option.bind_some,show decide ((-1:Int) < 0) = true from rfl]
    ·rw [spec_l13Go_L4]; dsimp only
     simp only [spec_l13Go_R14,spec_l13Go_R20,spec_l13Go_R12,r3,hin,hAA,k1',k2',k3',k4',f2,nS,outI,Bool.not_false,Bool.not_true,cond_true,cond_false,Option.bind_some,show decide ((-1:Int) < 0) = true from rfl,show decide ((-1:Int) ≥ 0) = false from rfl]
   | some s =>
    obtain ⟨ys,t⟩ := s
    rw [hq] at nI nS
    obtain ⟨⟨g1,g2,zs,g3⟩,g4⟩ := addP_grown hp hq
    have tb:hasB ys t = true := hasB_iff.2 ⟨g2,g4⟩
    obtain ⟨u1,u2⟩ := l97 s2 s3
    have ib:inb (bt A.2 0 - 97) env.length = true := env_in he (by omega) (by omega)
    have sz:inb (0:Int) A.2.size = true := by rw [s1]; rfl
    have tn:decide (t < 0) = false := decide_eq_false (by omega)
    have tp:decide (t ≥ 0) = true := decide_eq_true (by omega)
    have ih := go_loopF (a := a) (b := b) hw hs k (at_ + 1) (env.set (bt A.2 0 - 97).toNat t) key (IntKind.i64.wrap (nx + 1)) ys out m1 m2 (by omega) (by omega) g1 (by rw [List.length_set]; exact he) (envB_set tb _ (by rw [g3]; exact envB_mono hv)) (fun q => by omega) (by omega) (by omega) (by omega)
    rw [c6] at ih
    obtain ⟨ei,es,zs2,at',env',d',dd',key',out',nx',q1,q2,q3,q4,q5⟩ := ih
    refine ⟨ei,es,zs2,at',env',d',dd',key',out',nx', ?_, ?_,q3,q4,q5.go ⟨zs,g3⟩ (.inl rfl) (fun v h => .inl h)⟩
    ·rw [impl_Inst_goOn_L3]; dsimp only
     simp only [impl_Inst_act,r3,hin,hAA,k1',k3',k4',f1,nI,outI,Bool.not_false,Bool.not_true,cond_true,cond_false,Option.bind_some,tn,sz,u1,ib,w1,show decide ((-1:Int) ≥ 0) = false from rfl,q1]
    ·rw [spec_l13Go_L4]; dsimp only
     simp only [spec_l13Go_R14,spec_l13Go_R20,spec_l13Go_R12,r3,hin,hAA,k1',k2',k3',k4',f2,nS,outI,Bool.not_false,Bool.not_true,cond_true,cond_false,Option.bind_some,tn,tp,sz,u2,ib,w1,q2]
  ·have k1':(A.1 == 1) = false := by rw [k1]; rfl
   have k3':(A.1 == 3) = true := by rw [k1]; rfl
   refine ⟨.inl (w,p,a,b,at_,env,false,false,key,xs,out,nx), .inl (xs,w,p,a,b,at_,env,false,false,key,out,nx),xs,at_,env,false,false,key,out,nx, ?_, ?_,rfl,rfl,Stops.stay (by omega) hp he hv (by omega)⟩
   ·rw [impl_Inst_goOn_L3]; dsimp only
    simp only [impl_Inst_act,r3,hin,hAA,k1',k3',Bool.not_false,Bool.not_true,cond_true,cond_false,Option.bind_some]
   ·rw [spec_l13Go_L4]; dsimp only
    simp only [spec_l13Go_R12,r3,hin,hAA,k1',k3',Bool.not_false,Bool.not_true,cond_true,cond_false,Option.bind_some]
  ·have k1':(A.1 == 1) = false := by rcases k1 with e | e <;> rw [e] <;> rfl
   have k3':(A.1 == 3) = false := by rcases k1 with e | e <;> rw [e] <;> rfl
   have pm := patMake_eq hP hp he hv
   have mt:impl_Pool_makeText N0 (xs,env,A.2) = some (outI xs (mk env P xs)) := by
    unfold impl_Pool_makeText
    dsimp only
    rw [pm]; rfl
   obtain ⟨l2,ys,t,e1,e2,e3,e4⟩ := l11Make_eq hP hp he hv
   have w2:IntKind.i64.wrap ((l2.length:Int) - 1) = (l2.length:Int) - 1 := wrap_ok (by omega) (by omega)
   have mo:spec_l11Make_o N0 N0 (xs,env,l2,(l2.length:Int) - 1) = some (env,ys,t) := by
    rw [l11Make_o_map,e3]; rfl
   cases hq:mk env P xs with
   | none =>
    rw [hq] at mt e4
    have e4:t = -1 := e4
    subst e4
    refine ⟨.inl (w,p,a,b,at_,env,false,true,key,xs,out,nx), .inl (xs,w,p,a,b,at_,env,false,true,key,out,nx),xs,at_,env,false,true,key,out,nx, ?_, ?_,rfl,rfl,Stops.stay (by omega) hp he hv (by omega)⟩
    ·rw [impl_Inst_goOn_L3]; dsimp only
     simp only [impl_Inst_act,r3,hin,hAA,k1',k3',mt,outI,Bool.not_false,Bool.not_true,cond_true,cond_false,Option.bind_some,show decide ((-1:Int) < 0) = true from rfl]
    ·rw [spec_l13Go_L4]; dsimp only
     simp only [spec_l13Go_R20,r3,hin,hAA,k1',k3',e1,w2,mo,Bool.not_false,Bool.not_true,cond_true,cond_false,Option.bind_some,show decide ((-1:Int) < 0) = true from rfl]
   | some s =>
    rw [hq] at mt e4
    have e4:(ys,t) = s := e4
    subst e4
    obtain ⟨g1,g2,zs,g3⟩ := mk_grown hp hq
    have tn:decide (t < 0) = false := decide_eq_false (by omega)
    have tp:decide (t ≥ 0) = true := decide_eq_true (by omega)
    have hv':envB ys env = true := by rw [g3]; exact envB_mono hv
    rcases k1 with k1 | k1
    ·have k4':(A.1 == 4) = false := by rw [k1]; rfl
     have k2':(A.1 == 2) = true := by rw [k1]; rfl
     have n4:at_.toNat ≠ 4 := fun q => by have := hA.2 q; omega
     have c6:(at_ + 1 == 5) = false := by rw [beq_eq_false_iff_ne]; omega
     have ih := go_loopF (a := a) (b := b) hw hs k (at_ + 1) env key nx ys (out ++ [t]) m1 m2 (by omega) (by omega) g1 he hv' (fun q => by omega) (by rw [List.length_append,List.length_singleton]; omega) (by omega) (by omega)
     rw [c6] at ih
     obtain ⟨ei,es,zs2,at',env',d',dd',key',out',nx',q1,q2,q3,q4,q5⟩ := ih
     refine ⟨ei,es,zs2,at',env',d',dd',key',out',nx', ?_, ?_,q3,q4,q5.go ⟨zs,g3⟩ (.inl rfl) (fun v h => (List.mem_append.1 h).imp id (fun h => by rw [List.mem_singleton.1 h]; exact mk_in hP.fine hp he hv hq))⟩
     ·rw [impl_Inst_goOn_L3]; dsimp only
      simp only [impl_Inst_act,r3,hin,hAA,k1',k3',k4',mt,outI,Bool.not_false,Bool.not_true,cond_true,cond_false,Option.bind_some,tn,tp,w1,rm t,q1]
     ·rw [spec_l13Go_L4]; dsimp only
      simp only [r3,hin,hAA,k1',k2',k3',k4',e1,w2,mo,Bool.not_false,Bool.not_true,cond_true,cond_false,Option.bind_some,tn,tp,w1,rm t,q2]
    ·have k4':(A.1 == 4) = true := by rw [k1]; rfl
     have k2':(A.1 == 2) = false := by rw [k1]; rfl
     have n4:at_.toNat = 4 := hA.1 k1
     have c6:(at_ + 1 == 5) = true := by rw [beq_iff_eq]; omega
     have ih := go_loopF (a := a) (b := b) hw hs k (at_ + 1) env t nx ys out m1 m2 (by omega) (by omega) g1 he hv' (fun _ => mk_in hP.fine hp he hv hq) (by omega) (by omega) (by omega)
     rw [c6] at ih
     obtain ⟨ei,es,zs2,at',env',d',dd',key',out',nx',q1,q2,q3,q4,q5⟩ := ih
     refine ⟨ei,es,zs2,at',env',d',dd',key',out',nx', ?_, ?_,q3,q4,q5.go ⟨zs,g3⟩ (.inr (by omega)) (fun v h => .inl h)⟩
     ·rw [impl_Inst_goOn_L3]; dsimp only
      simp only [impl_Inst_act,r3,hin,hAA,k1',k3',k4',mt,outI,Bool.not_false,Bool.not_true,cond_true,cond_false,Option.bind_some,tn,w1,show decide ((-1:Int) ≥ 0) = false from rfl,q1]
     ·rw [spec_l13Go_L4]; dsimp only
      simp only [r3,hin,hAA,k1',k2',k3',k4',e1,w2,mo,Bool.not_false,Bool.not_true,cond_true,cond_false,Option.bind_some,tn,w1,q2]
theorem go_full {xs:List Node3} {w p a b at_:Int} {env:List Int} {d dd:Bool} {key nx:Int} (hx:xs.length ≤ 4294967296) (he:env.length ≤ 4294967296) :
  (instV xs (w,p,a,b,at_,env,d,dd,key) = false ∧ ∃ ys,impl_InstGo N0 (xs,w,p,a,b,at_,env,d,dd,key,nx) = some (ys,0,0,0,0,0,[],false,false,0,[],nx) ∧ spec_InstGo N0 (xs,w,p,a,b,at_,env,d,dd,key,nx) = some (ys,0,0,0,0,0,[],false,false,0,[],nx) ∧ ys.length ≤ 4294967296) ∨
  (instV xs (w,p,a,b,at_,env,d,dd,key) = true ∧ ∃ ys at' env' d' dd' key' out' nx',impl_InstGo N0 (xs,w,p,a,b,at_,env,d,dd,key,nx) = some (ys,w,p,a,b,at',env',d',dd',key',out',nx') ∧ spec_InstGo N0 (xs,w,p,a,b,at_,env,d,dd,key,nx) = some (ys,w,p,a,b,at',env',d',dd',key',out',nx') ∧ spec_l13Go N0 (xs,w,p,a,b,at_,env,d,dd,key,nx) = some (ys,w,p,a,b,at',env',d',dd',key',out',nx') ∧
   instV ys (w,p,a,b,at',env',d',dd',key') = true ∧ Stops xs at_ key [] ys at' env' d' dd' key' out') := by
 have hI := (instV_eq hx (x := (w,p,a,b,at_,env,d,dd,key)) he).1
 have hS := (instV_eq hx (x := (w,p,a,b,at_,env,d,dd,key)) he).2
 dsimp only at hI hS
 have cp := copy_eq hx
 have cs := copyS_eq hx
 cases hv:instV xs (w,p,a,b,at_,env,d,dd,key) with
 | false =>
  rw [hv] at hI hS
  have pIm := implPool_eq N0 n0 hx
  have pS := specPool_eq N0 n0 hx
  cases hP:(decide (xs.length ≤ 500) && okFrom N0 [] xs) with
  | false =>
   rw [hP] at pIm pS
   refine .inl ⟨rfl,[], ?_, ?_,by simp⟩
   ·unfold impl_InstGo impl_orEmpty
    simp only [hI,pIm,Option.bind_some,Bool.not_false,cond_true]
   ·unfold spec_InstGo
    simp only [hS,pS,Option.bind_some,Bool.not_false,cond_true,cond_false]
  | true =>
   rw [hP] at pIm pS
   refine .inl ⟨rfl,xs, ?_, ?_,hx⟩
   ·unfold impl_InstGo impl_orEmpty
    simp only [hI,pIm,cp,Option.bind_some,Bool.not_false,Bool.not_true,cond_true,cond_false]
   ·unfold spec_InstGo
    simp only [hS,pS,cs,Option.bind_some,Bool.not_false,cond_true,cond_false]
 | true =>
  rw [hv] at hI hS
  have hg := good_of hx (x := (w,p,a,b,at_,env,d,dd,key)) he hv
  have g1:w = 1 ∨ w = 2 ∨ w = 3 := hg.way
  have g2:p = 0 ∨ p = 1 := hg.side
  have g3:envB xs env = true := hg.env
  have g4:env.length = 26 := hg.len
  have g5:0 ≤ at_ ∧ at_ ≤ 5 := hg.at0
  have g6:d = (at_ == 5) := hg.done
  have hp := hg.pool
  obtain ⟨r1,r2,r3⟩ := role_eq g1 g2
  have ci := copyInst_eq (w := w) (p := p) (a := a) (b := b) (at_ := at_) (d := d) (dd := dd) (key := key) he
  have cl := l13Copy_eq (w := w) (p := p) (a := a) (b := b) (at_ := at_) (d := d) (dd := dd) (key := key) he
  have hsz := poolB_len hp
  have ends:EndsF w p a b xs at_ key [] (impl_Inst_goOn_L3 N0 N0 (w,p,a,b,at_,env,d,dd,key,xs,nx,roleL w p,[])) (spec_l13Go_L4 N0 N0 (nx,xs,w,p,a,b,at_,env,d,dd,key,[],(0:Int),(0:Int),(0:Int),(0:Int),(0:Int),[],false,false,(0:Int),[],roleL w p)) := by
   cases dd with
   | true =>
    have hd:d = false := by
     cases d with
     | false => rfl
     | true => exact absurd (show true = false from hg.live rfl) (by decide)
    subst hd
    obtain ⟨m,hm⟩ := n0s
    refine ⟨.inr (w,p,a,b,at_,env,false,true,key,xs,nx,[]), .inr (nx,xs,w,p,a,b,at_,env,false,true,key,[],(0:Int),(0:Int),(0:Int),(0:Int),(0:Int),[],false,false,(0:Int),[]),xs,at_,env,false,true,key,[],nx, ?_, ?_,rfl,rfl,Stops.stay (by have:at_ ≠ 5 := fun q => (by rw [q] at g6; cases g6); omega) hp g4 g3 (by simp)⟩
    ·rw [show impl_Inst_goOn_L3 N0 N0 = impl_Inst_goOn_L3 N0 (m + 1) from congrArg _ hm,impl_Inst_goOn_L3]; rfl
    ·rw [show spec_l13Go_L4 N0 N0 = spec_l13Go_L4 N0 (m + 1) from congrArg _ hm,spec_l13Go_L4]; rfl
   | false =>
    have h := go_loopF (a := a) (b := b) g1 g2 (5 - at_).toNat at_ env key nx xs [] N0 N0 (by omega) g5.1 hp g4 g3 (fun q => hg.key (by show d = true; rw [g6,q]; rfl)) (by simp; omega) (by have := n0; omega) (by have := n0; omega)
    rw [← g6] at h
    exact h
  obtain ⟨ei,es,ys,at',env',d',dd',key',out',nx',q1,q2,q3,q4,st⟩ := ends
  have q5 := poolB_len st.pool
  have cs' := copyS_eq (xs := ys) (by omega)
  have go2:spec_l13Go N0 (xs,w,p,a,b,at_,env,d,dd,key,nx) = some (ys,w,p,a,b,at',env',d',dd',key',out',nx') := by
   unfold spec_l13Go spec_l13Go_R29
   simp only [cl,r2,Option.bind_some,q2]
   cases es with
   | inl x =>
    simp only [goS] at q4
    subst q4; rfl
   | inr x =>
    simp only [goS,Prod.mk.injEq] at q4
    obtain ⟨z1,z2,z3,z4,z5,z6,z7,z8,z9,z10,z11,z12⟩ := q4
    simp only [z1,z2,z3,z4,z5,z6,z7,z8,z9,z10,z11,z12,Option.bind_some]
  have hno:d = false → key = -1 := fun q => hg.no q
  refine .inr ⟨rfl,ys,at',env',d',dd',key',out',nx', ?_, ?_,go2,inst_right g1 g2 hg.me hg.peer hg.ne st.pool st.len st.env ⟨by have := st.on; omega,st.most⟩ st.done st.key1 (fun q => (st.key0 q).trans (hno (by
   rw [g6,beq_eq_false_iff_ne]
   have := st.done
   rw [q,eq_comm,beq_eq_false_iff_ne] at this
   have := st.on
   have := st.most
   omega))),st⟩
  ·have go:impl_Inst_goOn N0 (w,p,a,b,at_,env,d,dd,key,xs,nx) = some (w,p,a,b,at',env',d',dd',key',ys,out',nx') := by
    unfold impl_Inst_goOn
    simp only [r1,Option.bind_some,q1]
    cases ei with
    | inl x =>
     simp only [goI,Prod.mk.injEq] at q3
     obtain ⟨z1,z2,z3,z4,z5,z6,z7,z8,z9,z10,z11,z12⟩ := q3
     simp only [z1,z2,z3,z4,z5,z6,z7,z8,z9,z10,z11,z12]
    | inr x =>
     simp only [goI,Prod.mk.injEq] at q3
     obtain ⟨z1,z2,z3,z4,z5,z6,z7,z8,z9,z10,z11,z12⟩ := q3
     simp only [z1,z2,z3,z4,z5,z6,z7,z8,z9,z10,z11,z12]
   unfold impl_InstGo impl_InstGo_R3 impl_InstGo_R5
   simp only [hI,cp,ci,go,Option.bind_some,Bool.not_true,cond_false]
  ·unfold spec_InstGo spec_InstGo_R7
   simp only [hS,go2,cs',Option.bind_some,Bool.not_true,cond_false]
abbrev bs (T:ByteArray):List UInt8 := T.data.toList
def MS:ByteArray := ⟨#[36,63,120]⟩
theorem inb_app {a:Int} {n m:Nat} (h:inb a n = true) (hm:n ≤ m):inb a m = true := by
 unfold inb at h ⊢
 simp at h ⊢
 omega
theorem inb_two {a:Int} {n:Nat} (h:inb a n = true):0 ≤ a ∧ a.toNat < n := by
 unfold inb at h
 simp at h
 omega
theorem getD_app {α:Type} {l x:List α} {i:Nat} (h:i < l.length) (d:α):(l ++ x).getD i d = l.getD i d := by
 rw [List.getD_eq_getElem?_getD,List.getD_eq_getElem?_getD,List.getElem?_append_left h]
theorem dec2_grow {l1 x1:List Piece} {l2 x2:List SNode}:∀ {k k':Nat} {a b:Int} {P:Pat},dec2 l1 l2 k a b = some P → k ≤ k' → dec2 (l1 ++ x1) (l2 ++ x2) k' a b = some P
 | 0,k',a,b,P,h,_ => by cases h
 | k + 1,0,a,b,P,h,hk => by omega
 | k + 1,k' + 1,a,b,P,h,hk => by
  obtain ⟨h1,h2,hc⟩ := dec2_step h
  have g1 := (inb_two h1).2
  have g2 := (inb_two h2).2
  unfold dec2
  rw [inb_app h1 (by simp),inb_app h2 (by simp),Bool.and_true,cond_true,getD_app g1,getD_app g2]
  rcases hc with ⟨hps,hl⟩ | ⟨p,Q,hps,q1,q2⟩ | ⟨p,q,Q,R,hps,q1,q2,q3⟩
  ·rw [hps]; exact hl
  ·rw [hps]
   dsimp only
   rw [dec2_grow q1 (by omega),Option.bind_some]
   exact q2
  ·rw [hps]
   dsimp only
   rw [dec2_grow q1 (by omega),Option.bind_some,dec2_grow q2 (by omega),Option.bind_some]
   exact q3
theorem last_at {α:Type} (l:List α) (x d:α):(l ++ [x]).getD (((l ++ [x]).length:Int) - 1).toNat d = x ∧ inb (((l ++ [x]).length:Int) - 1) (l ++ [x]).length = true := by
 have e:(((l ++ [x]).length:Int) - 1).toNat = l.length := by rw [len_one]; omega
 have e2:((l ++ [x]).length:Int) - 1 = (l.length:Int) := by rw [len_one]; omega
 refine ⟨by rw [e]; exact get_pre l [] x d, ?_⟩
 rw [e2]
 exact inb_nat (by simp)
theorem dec2_one {l1:List Piece} {l2:List SNode} {k:Nat} {s c p kd A B:Int} {P Q:Pat} {u:Bool} (h:dec2 l1 l2 k p A = some Q) (h2:one2 (s,(c,[p])) (kd,(A,(B,u))) Q = some P) :
  dec2 (l1 ++ [(s,(c,[p]))]) (l2 ++ [(kd,(A,(B,u)))]) (k + 1) (((l1 ++ [(s,(c,[p]))]).length:Int) - 1) (((l2 ++ [(kd,(A,(B,u)))]).length:Int) - 1) = some P := by
 obtain ⟨a1,a2⟩ := last_at l1 (s,(c,[p])) zP
 obtain ⟨b1,b2⟩ := last_at l2 (kd,(A,(B,u))) zS
 unfold dec2
 rw [a2,b2,a1,b1]
 dsimp only
 rw [Bool.and_true,cond_true,dec2_grow h (Nat.le_refl _),Option.bind_some]
 exact h2
abbrev RdO := ByteArray×Int×Int×ByteArray×Bool×Bool×Bool×List Piece×Int
abbrev PsO := List SNode×Int×Int×Bool
def Pat.lets:Pat → List Int
 | .ask i => [i]
 | .un _ p => p.lets
 | .bin _ p q => p.lets ++ q.lets
 | .exp p q => p.lets ++ q.lets
 | _ => []
def letsP (l:List Piece):List Int := l.flatMap fun x => bif x.1 == 63 then [x.2.1] else []
def letsS (l:List SNode):List Int := l.flatMap fun y => bif y.1 == 9 && y.2.2.2 then [y.2.1] else []
theorem letsP_app (a b:List Piece):letsP (a ++ b) = letsP a ++ letsP b := List.flatMap_append
theorem letsS_app (a b:List SNode):letsS (a ++ b) = letsS a ++ letsS b := List.flatMap_append
theorem letsP_one (x:Piece):letsP [x] = bif x.1 == 63 then [x.2.1] else [] := by show _ ++ [] = _; rw [List.append_nil]
theorem letsS_one (y:SNode):letsS [y] = bif y.1 == 9 && y.2.2.2 then [y.2.1] else [] := by show _ ++ [] = _; rw [List.append_nil]
theorem one2_lets {x:Piece} {y:SNode} {P Q:Pat} (h:one2 x y Q = some P):letsP [x] = [] ∧ letsS [y] = [] ∧ P.lets = Q.lets := by
 rw [letsP_one,letsS_one]
 obtain ⟨⟨_,_,c3⟩,_,_,c4,_,rfl⟩ := one2_cases h
 rw [c3,show (y.1 == 9) = false from by rw [beq_eq_false_iff_ne]; omega]
 exact ⟨rfl,rfl,rfl⟩
def askAt (T:ByteArray) (i:Nat):List Int := bif bt T (i:Int) == 63 then [bt T ((i:Int) + 1) - 97] else []
def scan (T:ByteArray) (a b:Nat):List Int := (List.range' a (b - a)).flatMap (askAt T)
theorem scan_app {T:ByteArray} {a b c:Nat} (h1:a ≤ b) (h2:b ≤ c):scan T a c = scan T a b ++ scan T b c := by
 unfold scan
 rw [← List.flatMap_append]
 congr 1
 have := List.range'_append (s := a) (m := b - a) (n := c - b) (step := 1)
 rw [show a + 1 * (b - a) = b by omega,show b - a + (c - b) = c - a by omega] at this
 exact this.symm
def Both (T:ByteArray) (a:Nat) (l1:List Piece) (l2:List SNode) (ri:Option RdO) (rs:Option PsO):Prop :=
 (∃ (a':Nat) (l1':List Piece) (l2':List SNode) (k:Nat) (P:Pat),ri = some (T,(a':Int),(0:Int),MS,false,false,false,l1',(l1'.length:Int) - 1) ∧ rs = some (l2',(l2'.length:Int) - 1,(a':Int),true) ∧ a < a' ∧ a' ≤ T.size ∧ l1'.length = l2'.length ∧ l1'.length + a ≤ l1.length + a' ∧
  (∃ x,l1' = l1 ++ x ∧ letsP x = P.lets ∧ scan T a a' = P.lets) ∧ (∃ y,l2' = l2 ++ y ∧ letsS y = P.lets) ∧ k + a ≤ a' ∧ dec2 l1' l2' k ((l1'.length:Int) - 1) ((l2'.length:Int) - 1) = some P) ∨
 (∃ a2 c l1' v l2',ri = some (T,a2,c,MS,false,false,false,l1',v) ∧ c ≠ 0 ∧ rs = some (l2',(0:Int),(0:Int),false))
theorem idx_last {α:Type} (l:List α) (x:α):(((l ++ [x]).length:Int) - 1) = (l.length:Int) := by rw [len_one]; omega
theorem Both.one {T:ByteArray} {a b:Nat} {l1 m1:List Piece} {l2 m2:List SNode} {s kd:Int} {k:Nat} {P Q:Pat} (h1:a < b) (h2:b ≤ T.size) (hl:m1.length = m2.length) (hb:m1.length + a < l1.length + b) {f:Nat} (hf:a ≤ f) (hfb:f ≤ b) (hsc:scan T a f = []) (g1:∃ x,m1 = l1 ++ x ∧ letsP x = Q.lets ∧ scan T f b = Q.lets) (g2:∃ y,m2 = l2 ++ y ∧ letsS y = Q.lets) (hk:k + a < b)
  (hd:dec2 m1 m2 k ((m1.length:Int) - 1) ((m2.length:Int) - 1) = some Q) (hp:one2 (s,(0,[(m1.length:Int) - 1])) (kd,((m2.length:Int) - 1,(0,Q.asks))) Q = some P) :
  Both T a l1 l2 (some (T,(b:Int),(0:Int),MS,false,false,false,m1 ++ [(s,(0,[(m1.length:Int) - 1]))],((m1 ++ [(s,(0,[(m1.length:Int) - 1]))]).length:Int) - 1)) (some (m2 ++ [(kd,((m2.length:Int) - 1,(0,Q.asks)))],(m2.length:Int),(b:Int),true)) := by
 obtain ⟨x,rfl,gx,gs⟩ := g1
 obtain ⟨y,rfl,gy⟩ := g2
 obtain ⟨e1,e2,e3⟩ := one2_lets hp
 exact .inl ⟨b,_,_,k + 1,P,rfl,by rw [idx_last],h1,h2,by simp at hl ⊢; omega,by rw [List.length_append,List.length_singleton]; omega,⟨_,List.append_assoc ..,by rw [letsP_app,gx,e1,e3,List.append_nil],by rw [scan_app hf hfb,hsc,gs,e3,List.nil_append]⟩,⟨_,List.append_assoc ..,by rw [letsS_app,gy,e2,e3,List.append_nil]⟩,by omega,dec2_one hd hp⟩
section
variable {T:ByteArray} {a:Nat} {c:UInt8} {r:List UInt8} {l1:List Piece} {l2:List SNode} {i1 i2 n:Nat}
end
section
variable {T:ByteArray} {a:Nat} {c:UInt8} {r:List UInt8} {l1:List Piece} {l2:List SNode} {i1 i2 n:Nat}
end
def Pat.plain:Pat → Pat
 | .ask i => .var i
 | .un k p => .un k p.plain
 | .bin k p q => .bin k p.plain q.plain
 | .exp p q => .exp p.plain q.plain
 | p => p
theorem and255 (a:Int):0 ≤ bits .and .i64 a 255 ∧ bits .and .i64 a 255 ≤ 255 := by
 have h:((BitVec.ofInt 64 a) &&& (BitVec.ofInt 64 255)).toNat ≤ 255 := by
  rw [BitVec.toNat_and]
  exact Nat.and_le_right
 have e:bits .and .i64 a 255 = IntKind.i64.wrap (((BitVec.ofInt 64 a) &&& (BitVec.ofInt 64 255)).toNat:Int) := rfl
 rw [e,wrap_ok (by omega) (by omega)]
 omega
def Cu (b:List Int) (i:Int):Prop := 0 ≤ i ∧ b.length ≤ 4294967296
theorem byte_ok (n:Nat) {b:List Int} {i:Int} (h:Int) (hc:Cu b i):∃ i' h' v,spec_l1Byte n (b,i,h) = some (b,i',h',v) ∧ Cu b i' ∧ 0 ≤ v ∧ v ≤ 255 := by
 obtain ⟨h0,h1⟩ := hc
 unfold spec_l1Byte
 dsimp only
 rw [decide_eq_true (show (0:Int) ≤ 33 by decide),decide_eq_true (show (0:Int) ≤ 45 by decide),cond_true,cond_true]
 by_cases hl:i < (b.length:Int)
 ·have e:i = ((i.toNat:Nat):Int) := by omega
  have hin:inb i b.length = true := by rw [e]; exact inb_nat (by omega)
  rw [decide_eq_true hl,hin,cond_true,cond_true,wrap_ok (n := i + 1) (by omega) (by omega)]
  exact ⟨_,_,_,rfl,⟨by omega,h1⟩,and255 _⟩
 ·rw [decide_eq_false hl,cond_false]
  exact ⟨_,_,_,rfl,⟨h0,h1⟩,and255 _⟩
theorem tmod_in {x k:Int} (hx:0 ≤ x) (hk:0 < k):0 ≤ x.tmod k ∧ x.tmod k < k := by
 rw [Int.tmod_eq_emod_of_nonneg hx]
 exact ⟨Int.emod_nonneg _ (by omega),Int.emod_lt_of_pos _ hk⟩
def Bel (k v:Int):Prop := (k ≤ 0 ∧ v = 0) ∨ (0 ≤ v ∧ v < k)
theorem below_ok (n:Nat) {b:List Int} {i:Int} (h k:Int) (hc:Cu b i):∃ i' h' v,spec_l1Below n (b,i,h,k) = some (b,i',h',v) ∧ Cu b i' ∧ Bel k v := by
 unfold spec_l1Below
 dsimp only
 by_cases h0:k ≤ 0
 ·rw [decide_eq_true h0,cond_true]
  exact ⟨_,_,_,rfl,hc, .inl ⟨h0,rfl⟩⟩
 ·have hk:(k != 0) = true := by rw [bne_iff_ne]; omega
  rw [decide_eq_false h0,cond_false]
  by_cases h1:k ≤ 256
  ·rw [decide_eq_true h1,cond_true]
   obtain ⟨i1,h1,v1,e1,c1,q1,q2⟩ := byte_ok n h hc
   rw [e1,Option.bind_some]
   dsimp only
   rw [hk,cond_true]
   exact ⟨_,_,_,rfl,c1, .inr (tmod_in q1 (by omega))⟩
  ·rw [decide_eq_false h1,cond_false]
   obtain ⟨i1,h1,v1,e1,c1,p1,q1⟩ := byte_ok n h hc
   rw [e1,Option.bind_some]
   dsimp only
   obtain ⟨i2,h2,v2,e2,c2,p2,q2⟩ := byte_ok n h1 c1
   rw [e2,Option.bind_some]
   dsimp only
   obtain ⟨i3,h3,v3,e3,c3,p3,q3⟩ := byte_ok n h2 c2
   rw [e3,Option.bind_some]
   dsimp only
   obtain ⟨i4,h4,v4,e4,c4,p4,q4⟩ := byte_ok n h3 c3
   rw [e4,Option.bind_some]
   dsimp only
   rw [hk,cond_true]
   have w1:IntKind.i64.wrap (v1 * 16777216) = v1 * 16777216 := wrap_ok (by omega) (by omega)
   have w2:IntKind.i64.wrap (v2 * 65536) = v2 * 65536 := wrap_ok (by omega) (by omega)
   have w3:IntKind.i64.wrap (v3 * 256) = v3 * 256 := wrap_ok (by omega) (by omega)
   have w4:IntKind.i64.wrap (v1 * 16777216 + v2 * 65536) = v1 * 16777216 + v2 * 65536 := wrap_ok (by omega) (by omega)
   have w5:IntKind.i64.wrap (v1 * 16777216 + v2 * 65536 + v3 * 256) = v1 * 16777216 + v2 * 65536 + v3 * 256 := wrap_ok (by omega) (by omega)
   have w6:IntKind.i64.wrap (v1 * 16777216 + v2 * 65536 + v3 * 256 + v4) = v1 * 16777216 + v2 * 65536 + v3 * 256 + v4 := wrap_ok (by omega) (by omega)
   rw [w1,w2,w3,w4,w5,w6]
   exact ⟨_,_,_,rfl,c4, .inr (tmod_in (by omega) (by omega))⟩
theorem once_ok (n:Nat) {b:List Int} {i:Int} (h k:Int) (hc:Cu b i):∃ i' h' v,spec_l1Once n (b,i,h,k) = some (b,i',h',v) ∧ Cu b i' := by
 unfold spec_l1Once
 dsimp only
 obtain ⟨i1,h1,v1,e1,c1,_⟩ := below_ok n h k hc
 rw [e1,Option.bind_some]
 exact ⟨_,_,_,rfl,c1⟩
theorem pickInt_ok (n:Nat) {b:List Int} {i:Int} (h:Int) (l:List Int) (hl:l ≠ []) (hc:Cu b i):∃ i' h' v,spec_l1PickInt n (b,i,h,l) = some (b,i',h',v) ∧ Cu b i' ∧ v ∈ l := by
 unfold spec_l1PickInt
 dsimp only
 obtain ⟨i1,h1,v1,e1,c1,hb⟩ := below_ok n h (l.length:Int) hc
 have hpos:0 < l.length := List.length_pos_iff.2 hl
 rw [e1,Option.bind_some]
 dsimp only
 have hv:0 ≤ v1 ∧ v1 < (l.length:Int) := by
  rcases hb with ⟨q,_⟩ | q
  ·omega
  ·exact q
 have e:v1 = ((v1.toNat:Nat):Int) := by omega
 have hin:inb v1 l.length = true := by rw [e]; exact inb_nat (by omega)
 rw [hin,cond_true]
 refine ⟨_,_,_,rfl,c1, ?_⟩
 rw [List.getD_eq_getElem?_getD,List.getElem?_eq_getElem (by omega),Option.getD_some]
 exact List.getElem_mem _
theorem draw_ok (n:Nat) {b:List Int} {i:Int} (h:Int) {k:Int} (hk:k ≤ 4294967296) (hc:Cu b i):∃ i' h' v,spec_l1Draw n (b,i,h,k) = some (b,i',h',v) ∧ Cu b i' ∧ Bel k v := by
 unfold spec_l1Draw
 dsimp only
 by_cases h6:k > 6
 ·rw [decide_eq_true h6,cond_true]
  obtain ⟨i1,h1,v1,e1,c1⟩ := once_ok n h 2 hc
  rw [e1,Option.bind_some]
  dsimp only
  cases v1 with
  | true =>
   rw [cond_true]
   obtain ⟨i2,h2,v2,e2,c2,b2⟩ := below_ok n h1 6 c1
   rw [e2,Option.bind_some]
   dsimp only
   have hv:0 ≤ v2 ∧ v2 < 6 := by
    rcases b2 with ⟨q,_⟩ | q
    ·omega
    ·exact q
   rw [wrap_ok (n := k - 1) (by omega) (by omega),wrap_ok (n := k - 1 - v2) (by omega) (by omega)]
   exact ⟨_,_,_,rfl,c2, .inr ⟨by omega,by omega⟩⟩
  | false =>
   rw [cond_false]
   obtain ⟨i2,h2,v2,e2,c2,b2⟩ := below_ok n h1 k c1
   rw [e2,Option.bind_some]
   exact ⟨_,_,_,rfl,c2,b2⟩
 ·rw [decide_eq_false h6,cond_false]
  obtain ⟨i2,h2,v2,e2,c2,b2⟩ := below_ok n h k hc
  rw [e2,Option.bind_some]
  exact ⟨_,_,_,rfl,c2,b2⟩
theorem parts_ok (n:Nat) (k:Int):∃ v,spec_l1Parts n k = some v := by
 unfold spec_l1Parts
 cases (k == 1) <;> cases (k == 5) <;> cases (k == 7) <;> cases (k == 2) <;> cases (k == 3) <;> cases (k == 4) <;> cases (k == 6) <;> cases (k == 8) <;> exact ⟨_,rfl⟩
theorem drawNode_ok (n:Nat) {b:List Int} {i:Int} (h:Int) {k:Int} (hk:k ≤ 4294967296) (hc:Cu b i):∃ i' h' kd x y,spec_l1DrawNode n (b,i,h,k) = some (b,i',h',kd,x,y) ∧ Cu b i' := by
 unfold spec_l1DrawNode
 dsimp only
 cases (k == 0) with
 | true =>
  rw [cond_true]
  obtain ⟨i1,h1,v1,e1,c1,_⟩ := pickInt_ok n h [(0:Int),(1:Int),(5:Int),(6:Int),(50:Int),(51:Int),(62:Int),(90:Int),(91:Int),(100:Int),(101:Int),(102:Int),(199:Int)] (by simp) hc
  rw [e1,Option.bind_some]
  exact ⟨_,_,_,_,_,rfl,c1⟩
 | false =>
  rw [cond_false]
  obtain ⟨i1,h1,v1,e1,c1⟩ := once_ok n h 4 hc
  rw [e1,Option.bind_some]
  dsimp only
  cases v1 with
  | true =>
   rw [cond_true]
   obtain ⟨i2,h2,v2,e2,c2,_⟩ := pickInt_ok n h1 [(0:Int),(1:Int),(5:Int),(6:Int),(50:Int),(51:Int),(62:Int),(90:Int),(91:Int),(100:Int),(101:Int),(102:Int),(199:Int)] (by simp) c1
   rw [e2,Option.bind_some]
   exact ⟨_,_,_,_,_,rfl,c2⟩
  | false =>
   rw [cond_false]
   obtain ⟨i2,h2,v2,e2,c2,_⟩ := draw_ok n h1 (k := 7) (by decide) c1
   rw [e2,Option.bind_some]
   dsimp only
   obtain ⟨i3,h3,v3,e3,c3,_⟩ := draw_ok n h2 hk c2
   rw [e3,Option.bind_some]
   dsimp only
   obtain ⟨u,hu⟩ := parts_ok n (IntKind.i64.wrap ((2:Int) + v2))
   rw [hu,Option.bind_some]
   cases (u == 2) with
   | true =>
    rw [cond_true]
    obtain ⟨i4,h4,v4,e4,c4,_⟩ := draw_ok n h3 hk c3
    rw [e4,Option.bind_some]
    exact ⟨_,_,_,_,_,rfl,c4⟩
   | false => exact ⟨_,_,_,_,_,rfl,c3⟩
theorem add_more {xs:List Node3} (hp:poolB xs = true) (kd a b:Int):∃ ys t,spec_l1Add N0 (xs,kd,a,b) = some (ys,t) ∧ poolB ys = true ∧ ys.length ≤ xs.length + 1 ∧ xs.length ≤ ys.length := by
 rw [specAdd_eq hp]
 cases h:addP xs kd a b with
 | none => exact ⟨xs, -1,rfl,hp,by omega,by omega⟩
 | some r =>
  obtain ⟨⟨g1,_,zs,g2⟩,_⟩ := addP_grown hp (show addP xs kd a b = some (r.1,r.2) from h)
  refine ⟨r.1,r.2,rfl,g1, ?_,by rw [g2]; simp⟩
  have h:addK xs (norm kd a b) = some r := h
  unfold addK at h
  cases q:nodeV N0 ((norm kd a b).1,(norm kd a b).2.1,(norm kd a b).2.2,(xs.length:Int)) with
  | false => rw [q] at h; cases h
  | true =>
   rw [q,cond_true] at h
   cases hf:pfind xs (norm kd a b) with
   | some j => rw [hf] at h; obtain rfl := Option.some.inj h; simp
   | none =>
    rw [hf] at h
    dsimp only at h
    by_cases hq:500 ≤ xs.length
    ·rw [if_pos hq] at h; cases h
    ·rw [if_neg hq] at h; obtain rfl := Option.some.inj h; simp
theorem drawPool_loop {b:List Int}:∀ (m:Nat) (i h:Int) (l0 xs:List Node3) (k j:Nat),Cu b i → poolB xs = true → k < m + j → j ≤ k → k ≤ 1000 →
  ∃ i' h' ys,spec_l1DrawPool_L4 N0 m (b,i,h,l0,xs,(k:Int),(j:Int)) = some (b,i',h',l0,ys) ∧ Cu b i' ∧ poolB ys = true ∧ ys.length ≤ xs.length + (k - j)
 | 0,i,h,l0,xs,k,j,hc,hp,hm,hj,hk => by omega
 | m + 1,i,h,l0,xs,k,j,hc,hp,hm,hj,hk => by
  unfold spec_l1DrawPool_L4
  dsimp only
  by_cases hq:j < k
  ·rw [decide_eq_true (show (j:Int) < (k:Int) by omega),cond_true]
   unfold spec_l1DrawPool_R6
   dsimp only
   have hl := poolB_len hp
   obtain ⟨i1,h1,kd,x,y,e1,c1⟩ := drawNode_ok N0 h (k := (xs.length:Int)) (by omega) hc
   rw [e1,Option.bind_some]
   dsimp only
   obtain ⟨ys,t,e2,p2,l2,_⟩ := add_more hp kd x y
   rw [e2,Option.bind_some,Option.bind_some]
   dsimp only
   rw [wrap_ok (n := (j:Int) + 1) (by omega) (by omega),show (j:Int) + 1 = ((j + 1:Nat):Int) by omega]
   obtain ⟨i3,h3,zs,e3,c3,p3,l3⟩ := drawPool_loop m i1 h1 l0 ys k (j + 1) c1 p2 (by omega) (by omega) hk
   exact ⟨i3,h3,zs,e3,c3,p3,by omega⟩
  ·rw [decide_eq_false (show ¬ (j:Int) < (k:Int) by omega),cond_false]
   exact ⟨i,h,xs,rfl,hc,hp,by omega⟩
theorem poolB_nil:poolB [] = true := by
 unfold poolB
 rfl
theorem drawPool_ok {b:List Int} {i:Int} (h:Int) {k:Int} (h0:0 ≤ k) (hk:k ≤ 100) (hc:Cu b i):∃ i' h' xs,spec_l1DrawPool N0 (b,i,h,k) = some (b,i',h',xs) ∧ Cu b i' ∧ poolB xs = true ∧ (xs.length:Int) ≤ k := by
 unfold spec_l1DrawPool
 dsimp only
 rw [wrap_ok (n := k + 1) (by omega) (by omega)]
 obtain ⟨i1,h1,v1,e1,c1,b1⟩ := below_ok N0 h (k + 1) hc
 rw [e1,Option.bind_some]
 dsimp only
 have hv:0 ≤ v1 ∧ v1 ≤ k := by
  rcases b1 with ⟨q,_⟩ | q
  ·omega
  ·omega
 obtain ⟨v,rfl⟩ := Int.eq_ofNat_of_zero_le hv.1
 have := n0
 obtain ⟨i2,h2,ys,e2,c2,p2,l2⟩ := drawPool_loop N0 i1 h1 [] [] v 0 c1 poolB_nil (by omega) (Nat.zero_le _) (by omega)
 rw [show ((0:Nat):Int) = (0:Int) from rfl] at e2
 rw [e2,Option.bind_some]
 exact ⟨_,_,_,rfl,c2,p2,by simp at l2; show (ys.length:Int) ≤ k; omega⟩
theorem new_loop {b:List Int} (hb:b.length ≤ 4294967296):∀ (m:Nat) (h:Int) (j:Nat),4001 < m + j → j ≤ 4000 → ∃ h',spec_l1New_L3 N0 m (b,h,(j:Int)) = some (b,h')
 | 0,h,j,hm,hj => by omega
 | m + 1,h,j,hm,hj => by
  unfold spec_l1New_L3
  dsimp only
  by_cases h1:j < b.length
  ·rw [decide_eq_true (show (j:Int) < (b.length:Int) by omega),cond_true]
   by_cases h2:j < 4000
   ·rw [decide_eq_true (show (j:Int) < 4000 by omega),cond_true,inb_nat h1,cond_true,wrap_ok (n := (j:Int) + 1) (by omega) (by omega),show (j:Int) + 1 = ((j + 1:Nat):Int) by omega]
    exact new_loop hb m _ (j + 1) (by omega) (by omega)
   ·rw [decide_eq_false (show ¬ (j:Int) < 4000 by omega),cond_false]
    exact ⟨_,rfl⟩
  ·rw [decide_eq_false (show ¬ (j:Int) < (b.length:Int) by omega),cond_false]
   exact ⟨_,rfl⟩
theorem new_ok {b:List Int} (hb:b.length ≤ 4294967296):∃ h,spec_l1New N0 b = some (false,b,(0:Int),h) ∧ Cu b 0 := by
 unfold spec_l1New
 have := n0
 obtain ⟨h',e⟩ := new_loop hb N0 (IntKind.i64.wrap ((12241:Int) + (b.length:Int))) 0 (by omega) (by omega)
 rw [show ((0:Nat):Int) = (0:Int) from rfl] at e
 rw [e,Option.bind_some]
 exact ⟨_,rfl,by decide,hb⟩
theorem nodeV_kind {k a b:Int} {i:Nat} (hi:i ≤ 4294967296) (h:nodeV N0 (k,a,b,(i:Int)) = true):(k = 1 ∧ 0 ≤ a ∧ a ≤ 199) ∨ ((k = 5 ∨ k = 7) ∧ 0 ≤ a ∧ a < (i:Int)) ∨ ((k = 2 ∨ k = 3 ∨ k = 4 ∨ k = 6 ∨ k = 8) ∧ 0 ≤ a ∧ a < (i:Int) ∧ 0 ≤ b ∧ b < (i:Int)) := by
 have w:IntKind.i64.wrap ((i:Int) - (1:Int)) = (i:Int) - 1 := wrap_ok (by omega) (by omega)
 have hr:∀ v lo hi:Int,impl_inRange N0 (v,lo,hi) = some (decide (v ≥ lo) && decide (v ≤ hi)) := fun v lo hi => by
  unfold impl_inRange
  cases q:decide (v ≥ lo) <;> (simp [q])
 have hk:nodeV N0 (k,a,b,(i:Int)) = (impl_nodeOk N0 (k,a,b,(i:Int))).getD false := rfl
 rw [hk] at h
 unfold impl_nodeOk at h
 dsimp only at h
 rw [w,hr,hr,hr] at h
 by_cases h1:k = 1
 ·subst h1
  rw [show impl_count N0 1 = some 0 from rfl] at h
  left
  cases q:(decide (a ≥ 0) && decide (a ≤ 199)) with
  | false => simp only [Option.bind_some,beq_self_eq_true,cond_true,q] at h; cases h
  | true =>
   rw [Bool.and_eq_true,decide_eq_true_iff,decide_eq_true_iff] at q
   exact ⟨rfl,q.1,q.2⟩
 by_cases h5:k = 5 ∨ k = 7
 ·right; left
  have hc:impl_count N0 k = some 1 := by rcases h5 with rfl | rfl <;> rfl
  rw [hc] at h
  cases q:(decide (a ≥ 0) && decide (a ≤ (i:Int) - 1)) with
  | false => simp only [Option.bind_some,show ((1:Int) == 0) = false from rfl,beq_self_eq_true,cond_true,cond_false,q] at h; cases h
  | true =>
   rw [Bool.and_eq_true,decide_eq_true_iff,decide_eq_true_iff] at q
   exact ⟨h5,q.1,by omega⟩
 by_cases h2:k = 2 ∨ k = 3 ∨ k = 4 ∨ k = 6 ∨ k = 8
 ·right; right
  have hc:impl_count N0 k = some 2 := by rcases h2 with rfl | rfl | rfl | rfl | rfl <;> rfl
  rw [hc] at h
  cases q:(decide (a ≥ 0) && decide (a ≤ (i:Int) - 1)) with
  | false => simp only [Option.bind_some,show ((2:Int) == 0) = false from rfl,show ((2:Int) == 1) = false from rfl,beq_self_eq_true,cond_true,cond_false,q] at h; cases h
  | true =>
   cases q2:(decide (b ≥ 0) && decide (b ≤ (i:Int) - 1)) with
   | false => simp only [Option.bind_some,show ((2:Int) == 0) = false from rfl,show ((2:Int) == 1) = false from rfl,beq_self_eq_true,cond_true,cond_false,q,q2] at h; cases h
   | true =>
    rw [Bool.and_eq_true,decide_eq_true_iff,decide_eq_true_iff] at q q2
    exact ⟨h2,q.1,by omega,q2.1,by omega⟩
 exfalso
 have hc:∃ c,impl_count N0 k = some c ∧ c ≠ 0 ∧ c ≠ 1 ∧ c ≠ 2 := by
  unfold impl_count
  simp only [show (k == 1) = false from by rw [beq_eq_false_iff_ne]; exact h1,show (k == 2) = false from by rw [beq_eq_false_iff_ne]; omega,show (k == 3) = false from by rw [beq_eq_false_iff_ne]; omega,show (k == 4) = false from by rw [beq_eq_false_iff_ne]; omega,show (k == 5) = false from by rw [beq_eq_false_iff_ne]; omega,show (k == 6) = false from by rw [beq_eq_false_iff_ne]; omega,show (k == 7) = false from by rw [beq_eq_false_iff_ne]; omega,show (k == 8) = false from by rw [beq_eq_false_iff_ne]; omega,cond_false]
  exact ⟨_,rfl,by decide,by decide,by decide⟩
 obtain ⟨c,hc,c0,c1,c2⟩ := hc
 rw [hc] at h
 simp only [Option.bind_some,show (c == 0) = false from by rw [beq_eq_false_iff_ne]; exact c0,show (c == 1) = false from by rw [beq_eq_false_iff_ne]; exact c1,show (c == 2) = false from by rw [beq_eq_false_iff_ne]; exact c2,cond_false] at h
 cases h
theorem name_new {xs:List Node3} {ys:List Node3} {t:Int} {a:Int} (hp:poolB xs = true) (h0:0 ≤ a) (h1:a ≤ 199):nodeV N0 (1,a,0,(xs.length:Int)) = true := by
 have hr:∀ v lo hi:Int,impl_inRange N0 (v,lo,hi) = some (decide (v ≥ lo) && decide (v ≤ hi)) := fun v lo hi => by
  unfold impl_inRange
  cases q:decide (v ≥ lo) <;> (simp [q])
 show (impl_nodeOk N0 (1,a,0,(xs.length:Int))).getD false = true
 unfold impl_nodeOk
 dsimp only
 rw [hr,show impl_count N0 1 = some 0 from rfl]
 simp only [Option.bind_some,beq_self_eq_true,cond_true,decide_eq_true h0,decide_eq_true h1,Bool.and_self]
 rfl
theorem digest_new {i:Nat} (h0:0 < i) (hi:i ≤ 4294967296):nodeV N0 (5,(i:Int) - 1,0,(i:Int)) = true := by
 have w:IntKind.i64.wrap ((i:Int) - (1:Int)) = (i:Int) - 1 := wrap_ok (by omega) (by omega)
 have hr:∀ v lo hi:Int,impl_inRange N0 (v,lo,hi) = some (decide (v ≥ lo) && decide (v ≤ hi)) := fun v lo hi => by
  unfold impl_inRange
  cases q:decide (v ≥ lo) <;> (simp [q])
 show (impl_nodeOk N0 (5,(i:Int) - 1,0,(i:Int))).getD false = true
 unfold impl_nodeOk
 dsimp only
 rw [w,hr,hr,hr,show impl_count N0 5 = some 1 from rfl]
 simp only [Option.bind_some,show ((1:Int) == 0) = false from rfl,beq_self_eq_true,cond_true,cond_false,decide_eq_true (show (i:Int) - 1 ≥ 0 by omega),decide_eq_true (show (i:Int) - 1 ≤ (i:Int) - 1 by omega),Bool.and_self]
 rfl
theorem any_loop {b:List Int} {i h:Int} {l0:List Node3}:∀ (m:Nat) (xs:List Node3),poolB xs = true → 500 < m + xs.length → ∃ ys,spec_l1DrawAny_L9 N0 m (b,i,h,l0,xs) = some (b,i,h,l0,ys) ∧ ys.length ≤ 500
 | 0,xs,hp,hm => by have := poolB_len hp; omega
 | m + 1,xs,hp,hm => by
  have hl := poolB_len hp
  unfold spec_l1DrawAny_L9
  dsimp only
  by_cases hq:xs.length < 500
  ·rw [decide_eq_true (show (xs.length:Int) < 500 by omega),cond_true,show ((200:Int) != 0) = true from rfl,cond_true]
   obtain ⟨ys,t,e1,p1,l1,l2⟩ := add_more hp 1 (((xs.length:Int)).tmod 200) 0
   rw [e1,Option.bind_some]
   dsimp only
   have hyl := poolB_len p1
   have hpos:0 < ys.length := by
    by_cases hz:xs.length = 0
    ·obtain rfl := List.eq_nil_of_length_eq_zero hz
     rw [specAdd_eq hp] at e1
     have ha:addP [] 1 (((([]:List Node3).length:Int)).tmod 200) 0 = some ([(1,0,0)],0) := by
      have hn := name_new (ys := []) (t := 0) (a := 0) (xs := []) hp (by decide) (by decide)
      show addK [] (1,0,0) = _
      unfold addK
      rw [show nodeV N0 (((1:Int),(0:Int),(0:Int)).1,((1:Int),(0:Int),(0:Int)).2.1,((1:Int),(0:Int),(0:Int)).2.2,((([]:List Node3).length:Nat):Int)) = true from hn]
      rfl
     rw [ha] at e1
     obtain ⟨rfl,_⟩ := Prod.mk.inj (Option.some.inj e1)
     exact Nat.zero_lt_one
    ·omega
   rw [wrap_ok (n := (ys.length:Int) - 1) (by omega) (by omega)]
   by_cases hy:ys.length < 500
   ·have hn := digest_new hpos (by omega)
    have hf:pfind ys (5,(ys.length:Int) - 1,0) = none := by
     cases hf:pfind ys (5,(ys.length:Int) - 1,0) with
     | none => rfl
     | some j =>
      exfalso
      obtain ⟨_,j1,j2⟩ := pf_some hf
      have hj := nodeV_kind (by omega) (poolB_nd p1 (j := j) (by omega))
      rw [j2] at hj
      dsimp only at hj
      omega
    have ha:addP ys 5 ((ys.length:Int) - 1) 0 = some (ys ++ [(5,(ys.length:Int) - 1,0)],(ys.length:Int)) := by
     show addK ys (5,(ys.length:Int) - 1,0) = _
     unfold addK
     dsimp only
     rw [hn,cond_true,hf]
     dsimp only
     rw [if_neg (by omega)]
    have p2 := (addP_grown p1 ha).1.1
    rw [specAdd_eq p1,ha]
    rw [Option.bind_some]
    exact any_loop m (ys ++ [(5,(ys.length:Int) - 1,0)]) p2 (by rw [List.length_append,List.length_singleton]; omega)
   ·obtain ⟨zs,u,e2,p2,l3,l4⟩ := add_more p1 5 ((ys.length:Int) - 1) 0
    rw [e2,Option.bind_some]
    have := poolB_len p2
    exact any_loop m zs p2 (by omega)
  ·rw [decide_eq_false (show ¬ (xs.length:Int) < 500 by omega),cond_false]
   exact ⟨xs,rfl,hl⟩
theorem anyTail {b:List Int} {i:Int} (h:Int) (xs:List Node3) (hx:xs.length ≤ 501) (hc:Cu b i):∃ i' h' ys,((spec_l1Once N0 (b,i,h,(80:Int))).bind fun r5 => (cond r5.2.2.2 ((spec_l1DrawAny_L9 N0 N0 (r5.1,r5.2.1,r5.2.2.1,[],([]:List Node3))).bind fun e8 => (some (e8.1,e8.2.1,e8.2.2.1,e8.2.2.2.2))) (some (r5.1,r5.2.1,r5.2.2.1,xs)))) = some (b,i',h',ys) ∧ Cu b i' ∧ ys.length ≤ 501 := by
 obtain ⟨i1,h1,v1,e1,c1⟩ := once_ok N0 h 80 hc
 rw [e1,Option.bind_some]
 dsimp only
 cases v1 with
 | true =>
  have := n0
  obtain ⟨ys,e2,l2⟩ := any_loop (b := b) (i := i1) (h := h1) (l0 := []) N0 [] poolB_nil (by simp; omega)
  rw [cond_true,e2,Option.bind_some]
  exact ⟨_,_,_,rfl,c1,(show ys.length ≤ 501 by omega)⟩
 | false => exact ⟨_,_,_,rfl,c1,hx⟩
theorem room_small {α:Type} {xs:List α} (h:xs.length ≤ 1000) {k:α}:room (xs.length + [k].length) = true := by
 unfold room; rw [List.length_singleton]; exact decide_eq_true (by omega)
theorem drawAny_ok {b:List Int} {i:Int} (h:Int) (hc:Cu b i):∃ i' h' xs,spec_l1DrawAny N0 (b,i,h) = some (b,i',h',xs) ∧ Cu b i' ∧ xs.length ≤ 501 := by
 unfold spec_l1DrawAny
 dsimp only
 obtain ⟨i1,h1,xs,e1,c1,p1,l1⟩ := drawPool_ok h (k := 24) (by decide) (by decide) hc
 rw [e1,Option.bind_some]
 dsimp only
 obtain ⟨i2,h2,v2,e2,c2,_⟩ := below_ok N0 h1 25 c1
 rw [e2,Option.bind_some]
 dsimp only
 have cp := copyS_eq (xs := xs) (by omega)
 cases (v2 == 0) with
 | true =>
  rw [cond_true,cp,Option.bind_some]
  obtain ⟨i3,h3,kd,x,y,e3,c3⟩ := drawNode_ok N0 h2 (k := 3) (by decide) c2
  rw [e3,Option.bind_some]
  dsimp only
  rw [room_small (by omega),cond_true]
  exact anyTail h3 _ (by simp; omega) c3
 | false =>
  rw [cond_false]
  cases (v2 == 1) with
  | true =>
   rw [cond_true,cp,Option.bind_some]
   obtain ⟨i3,h3,v3,e3,c3,_⟩ := below_ok N0 h2 10 c2
   rw [e3,Option.bind_some]
   dsimp only
   obtain ⟨i4,h4,v4,e4,c4,_⟩ := below_ok N0 h3 30 c3
   rw [e4,Option.bind_some]
   dsimp only
   obtain ⟨i5,h5,v5,e5,c5,_⟩ := below_ok N0 h4 30 c4
   rw [e5,Option.bind_some]
   dsimp only
   rw [room_small (by omega),cond_true]
   exact anyTail h5 _ (by simp; omega) c5
  | false =>
   rw [cond_false]
   exact anyTail h2 _ (by omega) c2
theorem envNew_loop:∀ (m:Nat) (l:List Int),l.length ≤ 26 → 26 < m + l.length → ∃ e,spec_EnvNew_L3 N0 m (l,(l.length:Int)) = some e ∧ e.length = 26 ∧ ((∀ v ∈ l,v = -1) → ∀ v ∈ e,v = -1)
 | 0,l,h,hm => by omega
 | m + 1,l,h,hm => by
  unfold spec_EnvNew_L3
  dsimp only
  by_cases hq:l.length < 26
  ·rw [decide_eq_true (show (l.length:Int) < 26 by omega),cond_true,room_small (by omega),cond_true,wrap_ok (n := (l.length:Int) + 1) (by omega) (by omega), ← len_one l (-1)]
   obtain ⟨e,e1,e2,e3⟩ := envNew_loop m (l ++ [-1]) (by simp; omega) (by simp; omega)
   refine ⟨e,e1,e2,fun hl => e3 fun v hv => ?_⟩
   rcases List.mem_append.1 hv with q | q
   ·exact hl v q
   ·exact List.mem_singleton.1 q
  ·rw [decide_eq_false (show ¬ (l.length:Int) < 26 by omega),cond_false]
   exact ⟨l,rfl,by omega,fun h => h⟩
theorem envNew_ok:∃ e,spec_EnvNew N0 () = some e ∧ e.length = 26 ∧ ∀ v ∈ e,v = -1 := by
 unfold spec_EnvNew
 have := n0
 obtain ⟨e,e1,e2,e3⟩ := envNew_loop N0 [] (by simp) (by omega)
 have e1:spec_EnvNew_L3 N0 N0 (([]:List Int),(0:Int)) = some e := e1
 rw [e1,Option.bind_some]
 exact ⟨e,rfl,e2,e3 (fun v hv => by cases hv)⟩
theorem power_new {i:Nat} {t:Int} (h0:0 ≤ t) (h1:t < (i:Int)) (hi:i ≤ 4294967296):nodeV N0 (7,t,0,(i:Int)) = true := by
 have w:IntKind.i64.wrap ((i:Int) - (1:Int)) = (i:Int) - 1 := wrap_ok (by omega) (by omega)
 have hr:∀ v lo hi:Int,impl_inRange N0 (v,lo,hi) = some (decide (v ≥ lo) && decide (v ≤ hi)) := fun v lo hi => by
  unfold impl_inRange
  cases q:decide (v ≥ lo) <;> (simp [q])
 show (impl_nodeOk N0 (7,t,0,(i:Int))).getD false = true
 unfold impl_nodeOk
 dsimp only
 rw [w,hr,hr,hr,show impl_count N0 7 = some 1 from rfl]
 simp only [Option.bind_some,show ((1:Int) == 0) = false from rfl,beq_self_eq_true,cond_true,cond_false,decide_eq_true (show t ≥ 0 by omega),decide_eq_true (show t ≤ (i:Int) - 1 by omega),Bool.and_self]
 rfl
theorem addP_has {xs ys:List Node3} {kd a b t:Int} (hp:poolB xs = true) (h:addP xs kd a b = some (ys,t)):poolB ys = true ∧ hasB ys t = true ∧ ∃ zs,ys = xs ++ zs := by
 obtain ⟨⟨g1,g2,g3⟩,g4⟩ := addP_grown hp h
 exact ⟨g1,hasB_iff.2 ⟨g2,g4⟩,g3⟩
theorem envB_new {xs:List Node3}:∀ {e:List Int},(∀ v ∈ e,v = -1) → envB xs e = true
 | [],_ => rfl
 | v :: e,h => by
  show ((v == -1 || hasB xs v) && envB xs e) = true
  rw [h v (List.mem_cons_self ..),envB_new (fun u hu => h u (List.mem_cons_of_mem _ hu))]
  rfl
theorem roleS_eq {w p:Int} (hw:w = 1 ∨ w = 2 ∨ w = 3) (hp:p = 0 ∨ p = 1):spec_l13Role N0 (w,p) = some true := by
 rcases hw with rfl | rfl | rfl <;> rcases hp with rfl | rfl
 all_goals kernel_rfl
theorem agentS_eq {a:Int} (h0:0 ≤ a) (h1:a ≤ 4):spec_l2Agent N0 a = some true := by
 unfold spec_l2Agent
 rw [in_eq,decide_eq_true (show a ≥ 0 by omega),decide_eq_true h1]; rfl
theorem longKey_eq {a:Int} (h0:0 ≤ a) (h1:a ≤ 4):spec_LongKey N0 a = some (50 + a) := by
 unfold spec_LongKey
 rw [agentS_eq h0 h1,Option.bind_some,Bool.not_true,cond_false,wrap_ok (by omega) (by omega)]
theorem staticKey_eq {a:Int} (h0:0 ≤ a) (h1:a ≤ 4):spec_StaticKey N0 a = some (90 + a) := by
 unfold spec_StaticKey
 rw [agentS_eq h0 h1,Option.bind_some,Bool.not_true,cond_false,wrap_ok (by omega) (by omega)]
theorem nmI_some {xs ys:List Node3} {c t:Int} (hx:xs.length ≤ 500) (h:addP xs 1 c 0 = some (ys,t)):impl_Pool_name N0 (xs,c) = some (ys,t) := by rw [implName_eq hx,h]; rfl
theorem nmI_none {xs:List Node3} {c:Int} (hx:xs.length ≤ 500) (h:addP xs 1 c 0 = none):impl_Pool_name N0 (xs,c) = some (xs, -1) := by rw [implName_eq hx,h]; rfl
theorem nmS_some {xs ys:List Node3} {c t:Int} (hp:poolB xs = true) (h:addP xs 1 c 0 = some (ys,t)):spec_l2Name N0 (xs,c) = some (ys,t) := by rw [specName_eq hp,h]; rfl
theorem nmS_none {xs:List Node3} {c:Int} (hp:poolB xs = true) (h:addP xs 1 c 0 = none):spec_l2Name N0 (xs,c) = some (xs, -1) := by rw [specName_eq hp,h]; rfl
def nmP:List (Int×Nat) → List Node3 → List Int → Option (List Node3×List Int)
 | [],xs,env => some (xs,env)
 | q :: r,xs,env => match addP xs 1 q.1 0 with
  | none => none
  | some p => nmP r p.1 (env.set q.2 p.2)
theorem nmP_facts:∀ {l:List (Int×Nat)} {xs ys:List Node3} {env e:List Int},poolB xs = true → env.length = 26 → envB xs env = true → nmP l xs env = some (ys,e) → poolB ys = true ∧ e.length = 26 ∧ envB ys e = true ∧ ∃ zs,ys = xs ++ zs
 | [],xs,ys,env,e,hp,he,hv,h => by
  obtain ⟨rfl,rfl⟩ := Prod.mk.inj (Option.some.inj h)
  exact ⟨hp,he,hv,[],by simp⟩
 | q :: r,xs,ys,env,e,hp,he,hv,h => by
  rw [nmP] at h
  cases hA:addP xs 1 q.1 0 with
  | none => rw [hA] at h; cases h
  | some p =>
   obtain ⟨m,t⟩ := p
   rw [hA] at h
   obtain ⟨p1,h1,zs,hz⟩ := addP_has hp hA
   have hv1:envB m env = true := by rw [hz]; exact envB_mono hv
   obtain ⟨g1,g2,g3,ws,g4⟩ := nmP_facts p1 (by rw [List.length_set]; exact he) (envB_set h1 _ hv1) h
   exact ⟨g1,g2,g3,zs ++ ws,by rw [g4,hz,List.append_assoc]⟩
def newL (a b s:Int):List (Int×Nat) := [(a,12),(b,15),(50 + a,18),(50 + b,16),(s,10),(90 + a,19)]
section
variable {xs0:List Node3} {w p a b s:Int}
def newI (xs0:List Node3) (w p a b:Int) (r:Option (List Node3×List Int)):((List Node3×Int×Int×Int×Int×Int×List Int×Bool×Bool×Int×Bool) ⊕ (Int×List Node3×List Node3×Int×Int×Int×Int×Int×List Int×Bool×Bool×Int×List Node3×Int×Int×Int×Int×Int×List Int×Bool×Bool×Int)) :=
 match r with
 | none => .inl (xs0,(0:Int),(0:Int),(0:Int),(0:Int),(0:Int),[],false,false,(0:Int),false)
 | some q => .inr (b,xs0,[],(0:Int),(0:Int),(0:Int),(0:Int),(0:Int),[],false,false,(0:Int),q.1,w,p,a,b,(0:Int),q.2,false,false,(-1:Int))
theorem newI_end (m:Nat) (xs:List Node3) (env:List Int):impl_InstNew_L9 N0 (m + 1) (b,xs0,[],(0:Int),(0:Int),(0:Int),(0:Int),(0:Int),[],false,false,(0:Int),xs,w,p,a,b,(0:Int),env,false,false,(-1:Int),a,b,(50 + a),(50 + b),s,(90 + a),[(109:Int),(112:Int),(115:Int),(113:Int),(107:Int),(116:Int)],(6:Int),(6:Int)) = some (newI xs0 w p a b (nmP [] xs env)) := by
 rw [impl_InstNew_L9]; rfl
theorem newI_5 (h0:xs0.length ≤ 4294967296) (m:Nat) {xs:List Node3} {env:List Int} (hp:poolB xs = true) (he:env.length = 26):impl_InstNew_L9 N0 (m + 2) (b,xs0,[],(0:Int),(0:Int),(0:Int),(0:Int),(0:Int),[],false,false,(0:Int),xs,w,p,a,b,(0:Int),env,false,false,(-1:Int),a,b,(50 + a),(50 + b),s,(90 + a),[(109:Int),(112:Int),(115:Int),(113:Int),(107:Int),(116:Int)],(6:Int),(5:Int)) = some (newI xs0 w p a b (nmP ((newL a b s).drop 5) xs env)) := by
 have hl := poolB_len hp
 have hie:inb (19:Int) env.length = true := by rw [show (19:Int) = ((19:Nat):Int) from rfl]; exact inb_nat (by omega)
 show _ = some (newI xs0 w p a b (nmP ((90 + a,19) :: (newL a b s).drop 6) xs env))
 rw [impl_InstNew_L9,nmP]
 dsimp only
 simp only [show decide ((5:Int) = (0:Int)) = false from rfl,show decide ((5:Int) = (1:Int)) = false from rfl,show decide ((5:Int) = (2:Int)) = false from rfl,show decide ((5:Int) = (3:Int)) = false from rfl,show decide ((5:Int) = (4:Int)) = false from rfl,show decide ((5:Int) = (5:Int)) = true from rfl,show decide ((5:Int) < (6:Int)) = true from rfl,show inb (5:Int) ([(109:Int),(112:Int),(115:Int),(113:Int),(107:Int),(116:Int)]:List Int).length = true from rfl,show IntKind.u8.wrap (([(109:Int),(112:Int),(115:Int),(113:Int),(107:Int),(116:Int)]:List Int).getD (5:Int).toNat 0 - (97:Int)) = (19:Int) from rfl,show IntKind.i64.wrap ((5:Int) + (1:Int)) = (6:Int) from rfl,cond_true,cond_false]
 cases hA:addP xs 1 (90 + a) 0 with
 | none => simp only [decide_true,decide_false,nmI_none hl hA,Option.bind_some,show decide ((-1:Int) < (0:Int)) = true from rfl,cond_true,copy_eq h0]; rfl
 | some q =>
  obtain ⟨ys,t⟩ := q
  obtain ⟨p1,h1,zs,hz⟩ := addP_has hp hA
  have t0 := (hasB_iff.1 h1).1
  simp only [decide_true,decide_false,nmI_some hl hA,Option.bind_some,(show decide (t < (0:Int)) = false from decide_eq_false (by omega)),cond_false,hie,cond_true]
  refine Eq.trans ?_ (newI_end (s := s) m ys (env.set 19 t))
  rfl
theorem newI_4 (h0:xs0.length ≤ 4294967296) (m:Nat) {xs:List Node3} {env:List Int} (hp:poolB xs = true) (he:env.length = 26):impl_InstNew_L9 N0 (m + 3) (b,xs0,[],(0:Int),(0:Int),(0:Int),(0:Int),(0:Int),[],false,false,(0:Int),xs,w,p,a,b,(0:Int),env,false,false,(-1:Int),a,b,(50 + a),(50 + b),s,(90 + a),[(109:Int),(112:Int),(115:Int),(113:Int),(107:Int),(116:Int)],(6:Int),(4:Int)) = some (newI xs0 w p a b (nmP ((newL a b s).drop 4) xs env)) := by
 have hl := poolB_len hp
 have hie:inb (10:Int) env.length = true := by rw [show (10:Int) = ((10:Nat):Int) from rfl]; exact inb_nat (by omega)
 show _ = some (newI xs0 w p a b (nmP ((s,10) :: (newL a b s).drop 5) xs env))
 rw [impl_InstNew_L9,nmP]
 dsimp only
 simp only [show decide ((4:Int) = (0:Int)) = false from rfl,show decide ((4:Int) = (1:Int)) = false from rfl,show decide ((4:Int) = (2:Int)) = false from rfl,show decide ((4:Int) = (3:Int)) = false from rfl,show decide ((4:Int) = (4:Int)) = true from rfl,show decide ((4:Int) < (6:Int)) = true from rfl,show inb (4:Int) ([(109:Int),(112:Int),(115:Int),(113:Int),(107:Int),(116:Int)]:List Int).length = true from rfl,show IntKind.u8.wrap (([(109:Int),(112:Int),(115:Int),(113:Int),(107:Int),(116:Int)]:List Int).getD (4:Int).toNat 0 - (97:Int)) = (10:Int) from rfl,show IntKind.i64.wrap ((4:Int) + (1:Int)) = (5:Int) from rfl,cond_true,cond_false]
 cases hA:addP xs 1 (s) 0 with
 | none => simp only [decide_true,decide_false,nmI_none hl hA,Option.bind_some,show decide ((-1:Int) < (0:Int)) = true from rfl,cond_true,copy_eq h0]; rfl
 | some q =>
  obtain ⟨ys,t⟩ := q
  obtain ⟨p1,h1,zs,hz⟩ := addP_has hp hA
  have t0 := (hasB_iff.1 h1).1
  simp only [decide_true,decide_false,nmI_some hl hA,Option.bind_some,(show decide (t < (0:Int)) = false from decide_eq_false (by omega)),cond_false,hie,cond_true]
  refine Eq.trans ?_ (newI_5 (s := s) h0 m p1 (by rw [List.length_set]; exact he))
  rfl
theorem newI_3 (h0:xs0.length ≤ 4294967296) (m:Nat) {xs:List Node3} {env:List Int} (hp:poolB xs = true) (he:env.length = 26):impl_InstNew_L9 N0 (m + 4) (b,xs0,[],(0:Int),(0:Int),(0:Int),(0:Int),(0:Int),[],false,false,(0:Int),xs,w,p,a,b,(0:Int),env,false,false,(-1:Int),a,b,(50 + a),(50 + b),s,(90 + a),[(109:Int),(112:Int),(115:Int),(113:Int),(107:Int),(116:Int)],(6:Int),(3:Int)) = some (newI xs0 w p a b (nmP ((newL a b s).drop 3) xs env)) := by
 have hl := poolB_len hp
 have hie:inb (16:Int) env.length = true := by rw [show (16:Int) = ((16:Nat):Int) from rfl]; exact inb_nat (by omega)
 show _ = some (newI xs0 w p a b (nmP ((50 + b,16) :: (newL a b s).drop 4) xs env))
 rw [impl_InstNew_L9,nmP]
 dsimp only
 simp only [show decide ((3:Int) = (0:Int)) = false from rfl,show decide ((3:Int) = (1:Int)) = false from rfl,show decide ((3:Int) = (2:Int)) = false from rfl,show decide ((3:Int) = (3:Int)) = true from rfl,show decide ((3:Int) < (6:Int)) = true from rfl,show inb (3:Int) ([(109:Int),(112:Int),(115:Int),(113:Int),(107:Int),(116:Int)]:List Int).length = true from rfl,show IntKind.u8.wrap (([(109:Int),(112:Int),(115:Int),(113:Int),(107:Int),(116:Int)]:List Int).getD (3:Int).toNat 0 - (97:Int)) = (16:Int) from rfl,show IntKind.i64.wrap ((3:Int) + (1:Int)) = (4:Int) from rfl,cond_true,cond_false]
 cases hA:addP xs 1 (50 + b) 0 with
 | none => simp only [decide_true,decide_false,nmI_none hl hA,Option.bind_some,show decide ((-1:Int) < (0:Int)) = true from rfl,cond_true,copy_eq h0]; rfl
 | some q =>
  obtain ⟨ys,t⟩ := q
  obtain ⟨p1,h1,zs,hz⟩ := addP_has hp hA
  have t0 := (hasB_iff.1 h1).1
  simp only [decide_true,decide_false,nmI_some hl hA,Option.bind_some,(show decide (t < (0:Int)) = false from decide_eq_false (by omega)),cond_false,hie,cond_true]
  refine Eq.trans ?_ (newI_4 (s := s) h0 m p1 (by rw [List.length_set]; exact he))
  rfl
theorem newI_2 (h0:xs0.length ≤ 4294967296) (m:Nat) {xs:List Node3} {env:List Int} (hp:poolB xs = true) (he:env.length = 26):impl_InstNew_L9 N0 (m + 5) (b,xs0,[],(0:Int),(0:Int),(0:Int),(0:Int),(0:Int),[],false,false,(0:Int),xs,w,p,a,b,(0:Int),env,false,false,(-1:Int),a,b,(50 + a),(50 + b),s,(90 + a),[(109:Int),(112:Int),(115:Int),(113:Int),(107:Int),(116:Int)],(6:Int),(2:Int)) = some (newI xs0 w p a b (nmP ((newL a b s).drop 2) xs env)) := by
 have hl := poolB_len hp
 have hie:inb (18:Int) env.length = true := by rw [show (18:Int) = ((18:Nat):Int) from rfl]; exact inb_nat (by omega)
 show _ = some (newI xs0 w p a b (nmP ((50 + a,18) :: (newL a b s).drop 3) xs env))
 rw [impl_InstNew_L9,nmP]
 dsimp only
 simp only [show decide ((2:Int) = (0:Int)) = false from rfl,show decide ((2:Int) = (1:Int)) = false from rfl,show decide ((2:Int) = (2:Int)) = true from rfl,show decide ((2:Int) < (6:Int)) = true from rfl,show inb (2:Int) ([(109:Int),(112:Int),(115:Int),(113:Int),(107:Int),(116:Int)]:List Int).length = true from rfl,show IntKind.u8.wrap (([(109:Int),(112:Int),(115:Int),(113:Int),(107:Int),(116:Int)]:List Int).getD (2:Int).toNat 0 - (97:Int)) = (18:Int) from rfl,show IntKind.i64.wrap ((2:Int) + (1:Int)) = (3:Int) from rfl,cond_true,cond_false]
 cases hA:addP xs 1 (50 + a) 0 with
 | none => simp only [decide_true,decide_false,nmI_none hl hA,Option.bind_some,show decide ((-1:Int) < (0:Int)) = true from rfl,cond_true,copy_eq h0]; rfl
 | some q =>
  obtain ⟨ys,t⟩ := q
  obtain ⟨p1,h1,zs,hz⟩ := addP_has hp hA
  have t0 := (hasB_iff.1 h1).1
  simp only [decide_true,decide_false,nmI_some hl hA,Option.bind_some,(show decide (t < (0:Int)) = false from decide_eq_false (by omega)),cond_false,hie,cond_true]
  refine Eq.trans ?_ (newI_3 (s := s) h0 m p1 (by rw [List.length_set]; exact he))
  rfl
theorem newI_1 (h0:xs0.length ≤ 4294967296) (m:Nat) {xs:List Node3} {env:List Int} (hp:poolB xs = true) (he:env.length = 26):impl_InstNew_L9 N0 (m + 6) (b,xs0,[],(0:Int),(0:Int),(0:Int),(0:Int),(0:Int),[],false,false,(0:Int),xs,w,p,a,b,(0:Int),env,false,false,(-1:Int),a,b,(50 + a),(50 + b),s,(90 + a),[(109:Int),(112:Int),(115:Int),(113:Int),(107:Int),(116:Int)],(6:Int),(1:Int)) = some (newI xs0 w p a b (nmP ((newL a b s).drop 1) xs env)) := by
 have hl := poolB_len hp
 have hie:inb (15:Int) env.length = true := by rw [show (15:Int) = ((15:Nat):Int) from rfl]; exact inb_nat (by omega)
 show _ = some (newI xs0 w p a b (nmP ((b,15) :: (newL a b s).drop 2) xs env))
 rw [impl_InstNew_L9,nmP]
 dsimp only
 simp only [show decide ((1:Int) = (0:Int)) = false from rfl,show decide ((1:Int) = (1:Int)) = true from rfl,show decide ((1:Int) < (6:Int)) = true from rfl,show inb (1:Int) ([(109:Int),(112:Int),(115:Int),(113:Int),(107:Int),(116:Int)]:List Int).length = true from rfl,show IntKind.u8.wrap (([(109:Int),(112:Int),(115:Int),(113:Int),(107:Int),(116:Int)]:List Int).getD (1:Int).toNat 0 - (97:Int)) = (15:Int) from rfl,show IntKind.i64.wrap ((1:Int) + (1:Int)) = (2:Int) from rfl,cond_true,cond_false]
 cases hA:addP xs 1 (b) 0 with
 | none => simp only [decide_true,decide_false,nmI_none hl hA,Option.bind_some,show decide ((-1:Int) < (0:Int)) = true from rfl,cond_true,copy_eq h0]; rfl
 | some q =>
  obtain ⟨ys,t⟩ := q
  obtain ⟨p1,h1,zs,hz⟩ := addP_has hp hA
  have t0 := (hasB_iff.1 h1).1
  simp only [decide_true,decide_false,nmI_some hl hA,Option.bind_some,(show decide (t < (0:Int)) = false from decide_eq_false (by omega)),cond_false,hie,cond_true]
  refine Eq.trans ?_ (newI_2 (s := s) h0 m p1 (by rw [List.length_set]; exact he))
  rfl
theorem newI_0 (h0:xs0.length ≤ 4294967296) (m:Nat) {xs:List Node3} {env:List Int} (hp:poolB xs = true) (he:env.length = 26):impl_InstNew_L9 N0 (m + 7) (b,xs0,[],(0:Int),(0:Int),(0:Int),(0:Int),(0:Int),[],false,false,(0:Int),xs,w,p,a,b,(0:Int),env,false,false,(-1:Int),a,b,(50 + a),(50 + b),s,(90 + a),[(109:Int),(112:Int),(115:Int),(113:Int),(107:Int),(116:Int)],(6:Int),(0:Int)) = some (newI xs0 w p a b (nmP ((newL a b s).drop 0) xs env)) := by
 have hl := poolB_len hp
 have hie:inb (12:Int) env.length = true := by rw [show (12:Int) = ((12:Nat):Int) from rfl]; exact inb_nat (by omega)
 show _ = some (newI xs0 w p a b (nmP ((a,12) :: (newL a b s).drop 1) xs env))
 rw [impl_InstNew_L9,nmP]
 dsimp only
 simp only [show decide ((0:Int) = (0:Int)) = true from rfl,show decide ((0:Int) < (6:Int)) = true from rfl,show inb (0:Int) ([(109:Int),(112:Int),(115:Int),(113:Int),(107:Int),(116:Int)]:List Int).length = true from rfl,show IntKind.u8.wrap (([(109:Int),(112:Int),(115:Int),(113:Int),(107:Int),(116:Int)]:List Int).getD (0:Int).toNat 0 - (97:Int)) = (12:Int) from rfl,show IntKind.i64.wrap ((0:Int) + (1:Int)) = (1:Int) from rfl,cond_true,cond_false]
 cases hA:addP xs 1 (a) 0 with
 | none => simp only [decide_true,decide_false,nmI_none hl hA,Option.bind_some,show decide ((-1:Int) < (0:Int)) = true from rfl,cond_true,copy_eq h0]; rfl
 | some q =>
  obtain ⟨ys,t⟩ := q
  obtain ⟨p1,h1,zs,hz⟩ := addP_has hp hA
  have t0 := (hasB_iff.1 h1).1
  simp only [decide_true,decide_false,nmI_some hl hA,Option.bind_some,(show decide (t < (0:Int)) = false from decide_eq_false (by omega)),cond_false,hie,cond_true]
  refine Eq.trans ?_ (newI_1 (s := s) h0 m p1 (by rw [List.length_set]; exact he))
  rfl
def finP (b:Int) (r:Option (List Node3×List Int)):Option (List Node3×List Int) :=
 match r with
 | none => none
 | some q => match addP q.1 1 (90 + b) 0 with
  | none => none
  | some z => match addP z.1 7 z.2 0 with
   | none => none
   | some u => some (u.1,q.2.set 20 u.2)
def newS (xs0:List Node3) (w p a b:Int) (r:Option (List Node3×List Int)):((List Node3×Int×Int×Int×Int×Int×List Int×Bool×Bool×Int×Bool) ⊕ (List Node3×Int×Int×Int×Int×Int×List Int×Bool×Bool×Int×Int×Int×Int×Int×Int×List Int×Bool×Bool×Int×List Node3)) :=
 match r with
 | none => .inl (xs0,(0:Int),(0:Int),(0:Int),(0:Int),(0:Int),[],false,false,(0:Int),false)
 | some q => .inr ([],(0:Int),(0:Int),(0:Int),(0:Int),(0:Int),[],false,false,(0:Int),w,p,a,b,(0:Int),q.2,false,false,(-1:Int),q.1)
theorem newS_end (m:Nat) (xs:List Node3) (env:List Int):spec_InstNew_L10 N0 (m + 1) (xs0,[],(0:Int),(0:Int),(0:Int),(0:Int),(0:Int),[],false,false,(0:Int),w,p,a,b,(0:Int),env,false,false,(-1:Int),[a,b,50 + a,50 + b,s,90 + a,90 + b],[(109:Int),(112:Int),(115:Int),(113:Int),(107:Int),(116:Int),(117:Int)],xs,(7:Int)) = some (newS xs0 w p a b (some (xs,env))) := by
 rw [spec_InstNew_L10]; rfl
theorem newS_6 (h0:xs0.length ≤ 4294967296) (m:Nat) {xs:List Node3} {env:List Int} (hp:poolB xs = true) (he:env.length = 26):spec_InstNew_L10 N0 (m + 2) (xs0,[],(0:Int),(0:Int),(0:Int),(0:Int),(0:Int),[],false,false,(0:Int),w,p,a,b,(0:Int),env,false,false,(-1:Int),[a,b,50 + a,50 + b,s,90 + a,90 + b],[(109:Int),(112:Int),(115:Int),(113:Int),(107:Int),(116:Int),(117:Int)],xs,(6:Int)) = some (newS xs0 w p a b (finP b (nmP ((newL a b s).drop 6) xs env))) := by
 have hl := poolB_len hp
 have hie:inb (20:Int) env.length = true := by rw [show (20:Int) = ((20:Nat):Int) from rfl]; exact inb_nat (by omega)
 show _ = some (newS xs0 w p a b (finP b (some (xs,env))))
 rw [spec_InstNew_L10]
 unfold finP
 dsimp only
 simp only [show decide ((6:Int) < (([a,b,50 + a,50 + b,s,90 + a,90 + b]:List Int).length:Int)) = true from rfl,spec_InstNew_R12,show inb (6:Int) ([a,b,50 + a,50 + b,s,90 + a,90 + b]:List Int).length = true from rfl,show ([a,b,50 + a,50 + b,s,90 + a,90 + b]:List Int).getD (6:Int).toNat 0 = 90 + b from rfl,show inb (6:Int) ([(109:Int),(112:Int),(115:Int),(113:Int),(107:Int),(116:Int),(117:Int)]:List Int).length = true from rfl,show (([(109:Int),(112:Int),(115:Int),(113:Int),(107:Int),(116:Int),(117:Int)]:List Int).getD (6:Int).toNat 0 == (117:Int)) = true from rfl,show IntKind.i64.wrap (IntKind.i64.wrap (([(109:Int),(112:Int),(115:Int),(113:Int),(107:Int),(116:Int),(117:Int)]:List Int).getD (6:Int).toNat 0) - (97:Int)) = (20:Int) from rfl,show IntKind.i64.wrap ((6:Int) + (1:Int)) = (7:Int) from rfl,cond_true,cond_false]
 have hm1:decide ((-1:Int) < (0:Int)) = true := rfl
 have hm2:decide ((-1:Int) ≥ (0:Int)) = false := rfl
 cases hA:addP xs 1 (90 + b) 0 with
 | none => simp only [nmS_none hp hA,Option.bind_some,hm1,hm2,cond_true,cond_false,copyS_eq h0]; rfl
 | some q =>
  obtain ⟨ys,t⟩ := q
  obtain ⟨p1,h1,zs,hz⟩ := addP_has hp hA
  have t0 := (hasB_iff.1 h1).1
  have hl1 := poolB_len p1
  simp only [nmS_some hp hA,Option.bind_some,(show decide (t < (0:Int)) = false from decide_eq_false (by omega)),(show decide (t ≥ (0:Int)) = true from decide_eq_true (by omega)),cond_true,cond_false,hie,show decide ((6:Int) < (([a,b,50 + a,50 + b,s,90 + a,90 + b]:List Int).length:Int)) = true from rfl,spec_InstNew_R12,show inb (6:Int) ([a,b,50 + a,50 + b,s,90 + a,90 + b]:List Int).length = true from rfl,show ([a,b,50 + a,50 + b,s,90 + a,90 + b]:List Int).getD (6:Int).toNat 0 = 90 + b from rfl,show inb (6:Int) ([(109:Int),(112:Int),(115:Int),(113:Int),(107:Int),(116:Int),(117:Int)]:List Int).length = true from rfl,show (([(109:Int),(112:Int),(115:Int),(113:Int),(107:Int),(116:Int),(117:Int)]:List Int).getD (6:Int).toNat 0 == (117:Int)) = true from rfl,show IntKind.i64.wrap (IntKind.i64.wrap (([(109:Int),(112:Int),(115:Int),(113:Int),(107:Int),(116:Int),(117:Int)]:List Int).getD (6:Int).toNat 0) - (97:Int)) = (20:Int) from rfl,show IntKind.i64.wrap ((6:Int) + (1:Int)) = (7:Int) from rfl,cond_true,cond_false]
  cases hB:addP ys 7 t 0 with
  | none => simp only [specAdd_eq p1,hB,outI,Option.bind_some,show ((-1:Int) < 0) = True from by decide,decide_true,hm1,cond_true,copyS_eq h0]; rfl
  | some q2 =>
   obtain ⟨us,u⟩ := q2
   obtain ⟨p2,h2,zs2,hz2⟩ := addP_has p1 hB
   have u0 := (hasB_iff.1 h2).1
   have eA:spec_l1Add N0 (ys,(7:Int),t,(0:Int)) = some (us,u) := by rw [specAdd_eq p1,hB]; rfl
   simp only [eA,Option.bind_some,(show decide (u < (0:Int)) = false from decide_eq_false (by omega)),cond_false,cond_true]
   refine Eq.trans ?_ (newS_end (s := s) m us (env.set 20 u))
   rfl
theorem newS_5 (h0:xs0.length ≤ 4294967296) (m:Nat) {xs:List Node3} {env:List Int} (hp:poolB xs = true) (he:env.length = 26):spec_InstNew_L10 N0 (m + 3) (xs0,[],(0:Int),(0:Int),(0:Int),(0:Int),(0:Int),[],false,false,(0:Int),w,p,a,b,(0:Int),env,false,false,(-1:Int),[a,b,50 + a,50 + b,s,90 + a,90 + b],[(109:Int),(112:Int),(115:Int),(113:Int),(107:Int),(116:Int),(117:Int)],xs,(5:Int)) = some (newS xs0 w p a b (finP b (nmP ((newL a b s).drop 5) xs env))) := by
 have hl := poolB_len hp
 have hie:inb (19:Int) env.length = true := by rw [show (19:Int) = ((19:Nat):Int) from rfl]; exact inb_nat (by omega)
 show _ = some (newS xs0 w p a b (finP b (nmP ((90 + a,19) :: (newL a b s).drop 6) xs env)))
 rw [spec_InstNew_L10,nmP]
 dsimp only
 simp only [show decide ((5:Int) < (([a,b,50 + a,50 + b,s,90 + a,90 + b]:List Int).length:Int)) = true from rfl,spec_InstNew_R12,show inb (5:Int) ([a,b,50 + a,50 + b,s,90 + a,90 + b]:List Int).length = true from rfl,show ([a,b,50 + a,50 + b,s,90 + a,90 + b]:List Int).getD (5:Int).toNat 0 = 90 + a from rfl,show inb (5:Int) ([(109:Int),(112:Int),(115:Int),(113:Int),(107:Int),(116:Int),(117:Int)]:List Int).length = true from rfl,show (([(109:Int),(112:Int),(115:Int),(113:Int),(107:Int),(116:Int),(117:Int)]:List Int).getD (5:Int).toNat 0 == (117:Int)) = false from rfl,show IntKind.i64.wrap (IntKind.i64.wrap (([(109:Int),(112:Int),(115:Int),(113:Int),(107:Int),(116:Int),(117:Int)]:List Int).getD (5:Int).toNat 0) - (97:Int)) = (19:Int) from rfl,show IntKind.i64.wrap ((5:Int) + (1:Int)) = (6:Int) from rfl,cond_true,cond_false]
 have hm1:decide ((-1:Int) < (0:Int)) = true := rfl
 have hm2:decide ((-1:Int) ≥ (0:Int)) = false := rfl
 cases hA:addP xs 1 (90 + a) 0 with
 | none => simp only [nmS_none hp hA,Option.bind_some,hm1,hm2,cond_true,cond_false,copyS_eq h0]; rfl
 | some q =>
  obtain ⟨ys,t⟩ := q
  obtain ⟨p1,h1,zs,hz⟩ := addP_has hp hA
  have t0 := (hasB_iff.1 h1).1
  have hl1 := poolB_len p1
  simp only [nmS_some hp hA,Option.bind_some,(show decide (t < (0:Int)) = false from decide_eq_false (by omega)),(show decide (t ≥ (0:Int)) = true from decide_eq_true (by omega)),cond_true,cond_false,hie,show decide ((5:Int) < (([a,b,50 + a,50 + b,s,90 + a,90 + b]:List Int).length:Int)) = true from rfl,spec_InstNew_R12,show inb (5:Int) ([a,b,50 + a,50 + b,s,90 + a,90 + b]:List Int).length = true from rfl,show ([a,b,50 + a,50 + b,s,90 + a,90 + b]:List Int).getD (5:Int).toNat 0 = 90 + a from rfl,show inb (5:Int) ([(109:Int),(112:Int),(115:Int),(113:Int),(107:Int),(116:Int),(117:Int)]:List Int).length = true from rfl,show (([(109:Int),(112:Int),(115:Int),(113:Int),(107:Int),(116:Int),(117:Int)]:List Int).getD (5:Int).toNat 0 == (117:Int)) = false from rfl,show IntKind.i64.wrap (IntKind.i64.wrap (([(109:Int),(112:Int),(115:Int),(113:Int),(107:Int),(116:Int),(117:Int)]:List Int).getD (5:Int).toNat 0) - (97:Int)) = (19:Int) from rfl,show IntKind.i64.wrap ((5:Int) + (1:Int)) = (6:Int) from rfl,cond_true,cond_false]
  refine Eq.trans ?_ (newS_6 (s := s) h0 m p1 (by rw [List.length_set]; exact he))
  rfl
theorem newS_4 (h0:xs0.length ≤ 4294967296) (m:Nat) {xs:List Node3} {env:List Int} (hp:poolB xs = true) (he:env.length = 26):spec_InstNew_L10 N0 (m + 4) (xs0,[],(0:Int),(0:Int),(0:Int),(0:Int),(0:Int),[],false,false,(0:Int),w,p,a,b,(0:Int),env,false,false,(-1:Int),[a,b,50 + a,50 + b,s,90 + a,90 + b],[(109:Int),(112:Int),(115:Int),(113:Int),(107:Int),(116:Int),(117:Int)],xs,(4:Int)) = some (newS xs0 w p a b (finP b (nmP ((newL a b s).drop 4) xs env))) := by
 have hl := poolB_len hp
 have hie:inb (10:Int) env.length = true := by rw [show (10:Int) = ((10:Nat):Int) from rfl]; exact inb_nat (by omega)
 show _ = some (newS xs0 w p a b (finP b (nmP ((s,10) :: (newL a b s).drop 5) xs env)))
 rw [spec_InstNew_L10,nmP]
 dsimp only
 simp only [show decide ((4:Int) < (([a,b,50 + a,50 + b,s,90 + a,90 + b]:List Int).length:Int)) = true from rfl,spec_InstNew_R12,show inb (4:Int) ([a,b,50 + a,50 + b,s,90 + a,90 + b]:List Int).length = true from rfl,show ([a,b,50 + a,50 + b,s,90 + a,90 + b]:List Int).getD (4:Int).toNat 0 = s from rfl,show inb (4:Int) ([(109:Int),(112:Int),(115:Int),(113:Int),(107:Int),(116:Int),(117:Int)]:List Int).length = true from rfl,show (([(109:Int),(112:Int),(115:Int),(113:Int),(107:Int),(116:Int),(117:Int)]:List Int).getD (4:Int).toNat 0 == (117:Int)) = false from rfl,show IntKind.i64.wrap (IntKind.i64.wrap (([(109:Int),(112:Int),(115:Int),(113:Int),(107:Int),(116:Int),(117:Int)]:List Int).getD (4:Int).toNat 0) - (97:Int)) = (10:Int) from rfl,show IntKind.i64.wrap ((4:Int) + (1:Int)) = (5:Int) from rfl,cond_true,cond_false]
 have hm1:decide ((-1:Int) < (0:Int)) = true := rfl
 have hm2:decide ((-1:Int) ≥ (0:Int)) = false := rfl
 cases hA:addP xs 1 (s) 0 with
 | none => simp only [nmS_none hp hA,Option.bind_some,hm1,hm2,cond_true,cond_false,copyS_eq h0]; rfl
 | some q =>
  obtain ⟨ys,t⟩ := q
  obtain ⟨p1,h1,zs,hz⟩ := addP_has hp hA
  have t0 := (hasB_iff.1 h1).1
  have hl1 := poolB_len p1
  simp only [nmS_some hp hA,Option.bind_some,(show decide (t < (0:Int)) = false from decide_eq_false (by omega)),(show decide (t ≥ (0:Int)) = true from decide_eq_true (by omega)),cond_true,cond_false,hie,show decide ((4:Int) < (([a,b,50 + a,50 + b,s,90 + a,90 + b]:List Int).length:Int)) = true from rfl,spec_InstNew_R12,show inb (4:Int) ([a,b,50 + a,50 + b,s,90 + a,90 + b]:List Int).length = true from rfl,show ([a,b,50 + a,50 + b,s,90 + a,90 + b]:List Int).getD (4:Int).toNat 0 = s from rfl,show inb (4:Int) ([(109:Int),(112:Int),(115:Int),(113:Int),(107:Int),(116:Int),(117:Int)]:List Int).length = true from rfl,show (([(109:Int),(112:Int),(115:Int),(113:Int),(107:Int),(116:Int),(117:Int)]:List Int).getD (4:Int).toNat 0 == (117:Int)) = false from rfl,show IntKind.i64.wrap (IntKind.i64.wrap (([(109:Int),(112:Int),(115:Int),(113:Int),(107:Int),(116:Int),(117:Int)]:List Int).getD (4:Int).toNat 0) - (97:Int)) = (10:Int) from rfl,show IntKind.i64.wrap ((4:Int) + (1:Int)) = (5:Int) from rfl,cond_true,cond_false]
  refine Eq.trans ?_ (newS_5 (s := s) h0 m p1 (by rw [List.length_set]; exact he))
  rfl
theorem newS_3 (h0:xs0.length ≤ 4294967296) (m:Nat) {xs:List Node3} {env:List Int} (hp:poolB xs = true) (he:env.length = 26):spec_InstNew_L10 N0 (m + 5) (xs0,[],(0:Int),(0:Int),(0:Int),(0:Int),(0:Int),[],false,false,(0:Int),w,p,a,b,(0:Int),env,false,false,(-1:Int),[a,b,50 + a,50 + b,s,90 + a,90 + b],[(109:Int),(112:Int),(115:Int),(113:Int),(107:Int),(116:Int),(117:Int)],xs,(3:Int)) = some (newS xs0 w p a b (finP b (nmP ((newL a b s).drop 3) xs env))) := by
 have hl := poolB_len hp
 have hie:inb (16:Int) env.length = true := by rw [show (16:Int) = ((16:Nat):Int) from rfl]; exact inb_nat (by omega)
 show _ = some (newS xs0 w p a b (finP b (nmP ((50 + b,16) :: (newL a b s).drop 4) xs env)))
 rw [spec_InstNew_L10,nmP]
 dsimp only
 simp only [show decide ((3:Int) < (([a,b,50 + a,50 + b,s,90 + a,90 + b]:List Int).length:Int)) = true from rfl,spec_InstNew_R12,show inb (3:Int) ([a,b,50 + a,50 + b,s,90 + a,90 + b]:List Int).length = true from rfl,show ([a,b,50 + a,50 + b,s,90 + a,90 + b]:List Int).getD (3:Int).toNat 0 = 50 + b from rfl,show inb (3:Int) ([(109:Int),(112:Int),(115:Int),(113:Int),(107:Int),(116:Int),(117:Int)]:List Int).length = true from rfl,show (([(109:Int),(112:Int),(115:Int),(113:Int),(107:Int),(116:Int),(117:Int)]:List Int).getD (3:Int).toNat 0 == (117:Int)) = false from rfl,show IntKind.i64.wrap (IntKind.i64.wrap (([(109:Int),(112:Int),(115:Int),(113:Int),(107:Int),(116:Int),(117:Int)]:List Int).getD (3:Int).toNat 0) - (97:Int)) = (16:Int) from rfl,show IntKind.i64.wrap ((3:Int) + (1:Int)) = (4:Int) from rfl,cond_true,cond_false]
 have hm1:decide ((-1:Int) < (0:Int)) = true := rfl
 have hm2:decide ((-1:Int) ≥ (0:Int)) = false := rfl
 cases hA:addP xs 1 (50 + b) 0 with
 | none => simp only [nmS_none hp hA,Option.bind_some,hm1,hm2,cond_true,cond_false,copyS_eq h0]; rfl
 | some q =>
  obtain ⟨ys,t⟩ := q
  obtain ⟨p1,h1,zs,hz⟩ := addP_has hp hA
  have t0 := (hasB_iff.1 h1).1
  have hl1 := poolB_len p1
  simp only [nmS_some hp hA,Option.bind_some,(show decide (t < (0:Int)) = false from decide_eq_false (by omega)),(show decide (t ≥ (0:Int)) = true from decide_eq_true (by omega)),cond_true,cond_false,hie,show decide ((3:Int) < (([a,b,50 + a,50 + b,s,90 + a,90 + b]:List Int).length:Int)) = true from rfl,spec_InstNew_R12,show inb (3:Int) ([a,b,50 + a,50 + b,s,90 + a,90 + b]:List Int).length = true from rfl,show ([a,b,50 + a,50 + b,s,90 + a,90 + b]:List Int).getD (3:Int).toNat 0 = 50 + b from rfl,show inb (3:Int) ([(109:Int),(112:Int),(115:Int),(113:Int),(107:Int),(116:Int),(117:Int)]:List Int).length = true from rfl,show (([(109:Int),(112:Int),(115:Int),(113:Int),(107:Int),(116:Int),(117:Int)]:List Int).getD (3:Int).toNat 0 == (117:Int)) = false from rfl,show IntKind.i64.wrap (IntKind.i64.wrap (([(109:Int),(112:Int),(115:Int),(113:Int),(107:Int),(116:Int),(117:Int)]:List Int).getD (3:Int).toNat 0) - (97:Int)) = (16:Int) from rfl,show IntKind.i64.wrap ((3:Int) + (1:Int)) = (4:Int) from rfl,cond_true,cond_false]
  refine Eq.trans ?_ (newS_4 (s := s) h0 m p1 (by rw [List.length_set]; exact he))
  rfl
theorem newS_2 (h0:xs0.length ≤ 4294967296) (m:Nat) {xs:List Node3} {env:List Int} (hp:poolB xs = true) (he:env.length = 26):spec_InstNew_L10 N0 (m + 6) (xs0,[],(0:Int),(0:Int),(0:Int),(0:Int),(0:Int),[],false,false,(0:Int),w,p,a,b,(0:Int),env,false,false,(-1:Int),[a,b,50 + a,50 + b,s,90 + a,90 + b],[(109:Int),(112:Int),(115:Int),(113:Int),(107:Int),(116:Int),(117:Int)],xs,(2:Int)) = some (newS xs0 w p a b (finP b (nmP ((newL a b s).drop 2) xs env))) := by
 have hl := poolB_len hp
 have hie:inb (18:Int) env.length = true := by rw [show (18:Int) = ((18:Nat):Int) from rfl]; exact inb_nat (by omega)
 show _ = some (newS xs0 w p a b (finP b (nmP ((50 + a,18) :: (newL a b s).drop 3) xs env)))
 rw [spec_InstNew_L10,nmP]
 dsimp only
 simp only [show decide ((2:Int) < (([a,b,50 + a,50 + b,s,90 + a,90 + b]:List Int).length:Int)) = true from rfl,spec_InstNew_R12,show inb (2:Int) ([a,b,50 + a,50 + b,s,90 + a,90 + b]:List Int).length = true from rfl,show ([a,b,50 + a,50 + b,s,90 + a,90 + b]:List Int).getD (2:Int).toNat 0 = 50 + a from rfl,show inb (2:Int) ([(109:Int),(112:Int),(115:Int),(113:Int),(107:Int),(116:Int),(117:Int)]:List Int).length = true from rfl,show (([(109:Int),(112:Int),(115:Int),(113:Int),(107:Int),(116:Int),(117:Int)]:List Int).getD (2:Int).toNat 0 == (117:Int)) = false from rfl,show IntKind.i64.wrap (IntKind.i64.wrap (([(109:Int),(112:Int),(115:Int),(113:Int),(107:Int),(116:Int),(117:Int)]:List Int).getD (2:Int).toNat 0) - (97:Int)) = (18:Int) from rfl,show IntKind.i64.wrap ((2:Int) + (1:Int)) = (3:Int) from rfl,cond_true,cond_false]
 have hm1:decide ((-1:Int) < (0:Int)) = true := rfl
 have hm2:decide ((-1:Int) ≥ (0:Int)) = false := rfl
 cases hA:addP xs 1 (50 + a) 0 with
 | none => simp only [nmS_none hp hA,Option.bind_some,hm1,hm2,cond_true,cond_false,copyS_eq h0]; rfl
 | some q =>
  obtain ⟨ys,t⟩ := q
  obtain ⟨p1,h1,zs,hz⟩ := addP_has hp hA
  have t0 := (hasB_iff.1 h1).1
  have hl1 := poolB_len p1
  simp only [nmS_some hp hA,Option.bind_some,(show decide (t < (0:Int)) = false from decide_eq_false (by omega)),(show decide (t ≥ (0:Int)) = true from decide_eq_true (by omega)),cond_true,cond_false,hie,show decide ((2:Int) < (([a,b,50 + a,50 + b,s,90 + a,90 + b]:List Int).length:Int)) = true from rfl,spec_InstNew_R12,show inb (2:Int) ([a,b,50 + a,50 + b,s,90 + a,90 + b]:List Int).length = true from rfl,show ([a,b,50 + a,50 + b,s,90 + a,90 + b]:List Int).getD (2:Int).toNat 0 = 50 + a from rfl,show inb (2:Int) ([(109:Int),(112:Int),(115:Int),(113:Int),(107:Int),(116:Int),(117:Int)]:List Int).length = true from rfl,show (([(109:Int),(112:Int),(115:Int),(113:Int),(107:Int),(116:Int),(117:Int)]:List Int).getD (2:Int).toNat 0 == (117:Int)) = false from rfl,show IntKind.i64.wrap (IntKind.i64.wrap (([(109:Int),(112:Int),(115:Int),(113:Int),(107:Int),(116:Int),(117:Int)]:List Int).getD (2:Int).toNat 0) - (97:Int)) = (18:Int) from rfl,show IntKind.i64.wrap ((2:Int) + (1:Int)) = (3:Int) from rfl,cond_true,cond_false]
  refine Eq.trans ?_ (newS_3 (s := s) h0 m p1 (by rw [List.length_set]; exact he))
  rfl
theorem newS_1 (h0:xs0.length ≤ 4294967296) (m:Nat) {xs:List Node3} {env:List Int} (hp:poolB xs = true) (he:env.length = 26):spec_InstNew_L10 N0 (m + 7) (xs0,[],(0:Int),(0:Int),(0:Int),(0:Int),(0:Int),[],false,false,(0:Int),w,p,a,b,(0:Int),env,false,false,(-1:Int),[a,b,50 + a,50 + b,s,90 + a,90 + b],[(109:Int),(112:Int),(115:Int),(113:Int),(107:Int),(116:Int),(117:Int)],xs,(1:Int)) = some (newS xs0 w p a b (finP b (nmP ((newL a b s).drop 1) xs env))) := by
 have hl := poolB_len hp
 have hie:inb (15:Int) env.length = true := by rw [show (15:Int) = ((15:Nat):Int) from rfl]; exact inb_nat (by omega)
 show _ = some (newS xs0 w p a b (finP b (nmP ((b,15) :: (newL a b s).drop 2) xs env)))
 rw [spec_InstNew_L10,nmP]
 dsimp only
 simp only [show decide ((1:Int) < (([a,b,50 + a,50 + b,s,90 + a,90 + b]:List Int).length:Int)) = true from rfl,spec_InstNew_R12,show inb (1:Int) ([a,b,50 + a,50 + b,s,90 + a,90 + b]:List Int).length = true from rfl,show ([a,b,50 + a,50 + b,s,90 + a,90 + b]:List Int).getD (1:Int).toNat 0 = b from rfl,show inb (1:Int) ([(109:Int),(112:Int),(115:Int),(113:Int),(107:Int),(116:Int),(117:Int)]:List Int).length = true from rfl,show (([(109:Int),(112:Int),(115:Int),(113:Int),(107:Int),(116:Int),(117:Int)]:List Int).getD (1:Int).toNat 0 == (117:Int)) = false from rfl,show IntKind.i64.wrap (IntKind.i64.wrap (([(109:Int),(112:Int),(115:Int),(113:Int),(107:Int),(116:Int),(117:Int)]:List Int).getD (1:Int).toNat 0) - (97:Int)) = (15:Int) from rfl,show IntKind.i64.wrap ((1:Int) + (1:Int)) = (2:Int) from rfl,cond_true,cond_false]
 have hm1:decide ((-1:Int) < (0:Int)) = true := rfl
 have hm2:decide ((-1:Int) ≥ (0:Int)) = false := rfl
 cases hA:addP xs 1 (b) 0 with
 | none => simp only [nmS_none hp hA,Option.bind_some,hm1,hm2,cond_true,cond_false,copyS_eq h0]; rfl
 | some q =>
  obtain ⟨ys,t⟩ := q
  obtain ⟨p1,h1,zs,hz⟩ := addP_has hp hA
  have t0 := (hasB_iff.1 h1).1
  have hl1 := poolB_len p1
  simp only [nmS_some hp hA,Option.bind_some,(show decide (t < (0:Int)) = false from decide_eq_false (by omega)),(show decide (t ≥ (0:Int)) = true from decide_eq_true (by omega)),cond_true,cond_false,hie,show decide ((1:Int) < (([a,b,50 + a,50 + b,s,90 + a,90 + b]:List Int).length:Int)) = true from rfl,spec_InstNew_R12,show inb (1:Int) ([a,b,50 + a,50 + b,s,90 + a,90 + b]:List Int).length = true from rfl,show ([a,b,50 + a,50 + b,s,90 + a,90 + b]:List Int).getD (1:Int).toNat 0 = b from rfl,show inb (1:Int) ([(109:Int),(112:Int),(115:Int),(113:Int),(107:Int),(116:Int),(117:Int)]:List Int).length = true from rfl,show (([(109:Int),(112:Int),(115:Int),(113:Int),(107:Int),(116:Int),(117:Int)]:List Int).getD (1:Int).toNat 0 == (117:Int)) = false from rfl,show IntKind.i64.wrap (IntKind.i64.wrap (([(109:Int),(112:Int),(115:Int),(113:Int),(107:Int),(116:Int),(117:Int)]:List Int).getD (1:Int).toNat 0) - (97:Int)) = (15:Int) from rfl,show IntKind.i64.wrap ((1:Int) + (1:Int)) = (2:Int) from rfl,cond_true,cond_false]
  refine Eq.trans ?_ (newS_2 (s := s) h0 m p1 (by rw [List.length_set]; exact he))
  rfl
theorem newS_0 (h0:xs0.length ≤ 4294967296) (m:Nat) {xs:List Node3} {env:List Int} (hp:poolB xs = true) (he:env.length = 26):spec_InstNew_L10 N0 (m + 8) (xs0,[],(0:Int),(0:Int),(0:Int),(0:Int),(0:Int),[],false,false,(0:Int),w,p,a,b,(0:Int),env,false,false,(-1:Int),[a,b,50 + a,50 + b,s,90 + a,90 + b],[(109:Int),(112:Int),(115:Int),(113:Int),(107:Int),(116:Int),(117:Int)],xs,(0:Int)) = some (newS xs0 w p a b (finP b (nmP ((newL a b s).drop 0) xs env))) := by
 have hl := poolB_len hp
 have hie:inb (12:Int) env.length = true := by rw [show (12:Int) = ((12:Nat):Int) from rfl]; exact inb_nat (by omega)
 show _ = some (newS xs0 w p a b (finP b (nmP ((a,12) :: (newL a b s).drop 1) xs env)))
 rw [spec_InstNew_L10,nmP]
 dsimp only
 simp only [show decide ((0:Int) < (([a,b,50 + a,50 + b,s,90 + a,90 + b]:List Int).length:Int)) = true from rfl,spec_InstNew_R12,show inb (0:Int) ([a,b,50 + a,50 + b,s,90 + a,90 + b]:List Int).length = true from rfl,show ([a,b,50 + a,50 + b,s,90 + a,90 + b]:List Int).getD (0:Int).toNat 0 = a from rfl,show inb (0:Int) ([(109:Int),(112:Int),(115:Int),(113:Int),(107:Int),(116:Int),(117:Int)]:List Int).length = true from rfl,show (([(109:Int),(112:Int),(115:Int),(113:Int),(107:Int),(116:Int),(117:Int)]:List Int).getD (0:Int).toNat 0 == (117:Int)) = false from rfl,show IntKind.i64.wrap (IntKind.i64.wrap (([(109:Int),(112:Int),(115:Int),(113:Int),(107:Int),(116:Int),(117:Int)]:List Int).getD (0:Int).toNat 0) - (97:Int)) = (12:Int) from rfl,show IntKind.i64.wrap ((0:Int) + (1:Int)) = (1:Int) from rfl,cond_true,cond_false]
 have hm1:decide ((-1:Int) < (0:Int)) = true := rfl
 have hm2:decide ((-1:Int) ≥ (0:Int)) = false := rfl
 cases hA:addP xs 1 (a) 0 with
 | none => simp only [nmS_none hp hA,Option.bind_some,hm1,hm2,cond_true,cond_false,copyS_eq h0]; rfl
 | some q =>
  obtain ⟨ys,t⟩ := q
  obtain ⟨p1,h1,zs,hz⟩ := addP_has hp hA
  have t0 := (hasB_iff.1 h1).1
  have hl1 := poolB_len p1
  simp only [nmS_some hp hA,Option.bind_some,(show decide (t < (0:Int)) = false from decide_eq_false (by omega)),(show decide (t ≥ (0:Int)) = true from decide_eq_true (by omega)),cond_true,cond_false,hie,show decide ((0:Int) < (([a,b,50 + a,50 + b,s,90 + a,90 + b]:List Int).length:Int)) = true from rfl,spec_InstNew_R12,show inb (0:Int) ([a,b,50 + a,50 + b,s,90 + a,90 + b]:List Int).length = true from rfl,show ([a,b,50 + a,50 + b,s,90 + a,90 + b]:List Int).getD (0:Int).toNat 0 = a from rfl,show inb (0:Int) ([(109:Int),(112:Int),(115:Int),(113:Int),(107:Int),(116:Int),(117:Int)]:List Int).length = true from rfl,show (([(109:Int),(112:Int),(115:Int),(113:Int),(107:Int),(116:Int),(117:Int)]:List Int).getD (0:Int).toNat 0 == (117:Int)) = false from rfl,show IntKind.i64.wrap (IntKind.i64.wrap (([(109:Int),(112:Int),(115:Int),(113:Int),(107:Int),(116:Int),(117:Int)]:List Int).getD (0:Int).toNat 0) - (97:Int)) = (12:Int) from rfl,show IntKind.i64.wrap ((0:Int) + (1:Int)) = (1:Int) from rfl,cond_true,cond_false]
  refine Eq.trans ?_ (newS_1 (s := s) h0 m p1 (by rw [List.length_set]; exact he))
  rfl
end
theorem add_full {xs:List Node3} {k:Node3} (hn:nodeV N0 (k.1,k.2.1,k.2.2,(xs.length:Int)) = true) (h:addK xs k = none):500 ≤ xs.length := by
 unfold addK at h
 rw [hn,cond_true] at h
 cases hf:pfind xs k with
 | some j => rw [hf] at h; cases h
 | none =>
  rw [hf] at h
  dsimp only at h
  by_cases q:500 ≤ xs.length
  ·exact q
  ·rw [if_neg q] at h; cases h
theorem name_full {xs:List Node3} (hp:poolB xs = true) {v:Int} (h0:0 ≤ v) (h1:v ≤ 199) (h:addP xs 1 v 0 = none):500 ≤ xs.length :=
 add_full (k := (1,v,0)) (name_new (ys := []) (t := 0) hp h0 h1) h
theorem power_full {xs:List Node3} (hp:poolB xs = true) {t:Int} (ht:hasB xs t = true) (h:addP xs 7 t 0 = none):500 ≤ xs.length := by
 have hl := poolB_len hp
 have := hasB_iff.1 ht
 exact add_full (k := (7,t,0)) (power_new this.1 this.2 (by omega)) h
def actZ:Int×ByteArray := ((0:Int),(⟨#[]⟩:ByteArray))
def firstP (i:Int):Pat → Bool
 | .var j => j == i
 | .un k (.var j) => k == 7 && j == i
 | _ => false
def firstB (w p:Int):Bool :=
 ((roleL w p).getD 0 actZ).1 == 1 && (((roleL w p).getD 0 actZ).2.size == 1 && ((decide (97 ≤ bt ((roleL w p).getD 0 actZ).2 0) && decide (bt ((roleL w p).getD 0 actZ).2 0 ≤ 122)) &&
  (bif p == 0 then ((roleL w p).getD 1 actZ).1 == 2 && (patB ((roleL w p).getD 1 actZ).2 (firstP (bt ((roleL w p).getD 0 actZ).2 0 - 97)) && ((roleL w p).getD 2 actZ).1 == 3) else ((roleL w p).getD 1 actZ).1 == 3)))
theorem first_good {w p:Int} (hw:w = 1 ∨ w = 2 ∨ w = 3) (hp:p = 0 ∨ p = 1):firstB w p = true := by
 rcases hw with rfl | rfl | rfl <;> rcases hp with rfl | rfl
 all_goals kernel_rfl
section
variable {w p a b:Int} {xs:List Node3} {env out:List Int} {key nx:Int} {at_:Nat} {m:Nat}
theorem act_in (h:at_ < 5):inb (at_:Int) 5 = true := inb_nat h
theorem step_take (hw:w = 1 ∨ w = 2 ∨ w = 3) (hs:p = 0 ∨ p = 1) (hat:at_ < 5) (hA:((roleL w p).getD at_ actZ).1 = 3) :
  impl_Inst_goOn_L3 N0 (m + 1) (w,p,a,b,(at_:Int),env,false,false,key,xs,nx,roleL w p,out) = some (.inl (w,p,a,b,(at_:Int),env,false,false,key,xs,out,nx)) := by
 obtain ⟨_,_,r3⟩ := role_eq hw hs
 revert hA
 generalize hAA:(roleL w p).getD at_ actZ = A
 intro hA
 have hAA':(roleL w p).getD ((at_:Int)).toNat ((0:Int),(⟨#[]⟩:ByteArray)) = A := hAA
 have k1':(A.1 == 1) = false := by rw [hA]; rfl
 have k3':(A.1 == 3) = true := by rw [hA]; rfl
 rw [impl_Inst_goOn_L3]; dsimp only
 simp only [impl_Inst_act,r3,act_in hat,hAA',k1',k3',Bool.not_false,Bool.not_true,cond_true,cond_false,Option.bind_some]
theorem step_fresh (hw:w = 1 ∨ w = 2 ∨ w = 3) (hs:p = 0 ∨ p = 1) (hat:at_ < 4) (hA:((roleL w p).getD at_ actZ).1 = 1) (s1:((roleL w p).getD at_ actZ).2.size = 1) (s2:97 ≤ bt ((roleL w p).getD at_ actZ).2 0) (s3:bt ((roleL w p).getD at_ actZ).2 0 ≤ 122) (hp:poolB xs = true) (he:env.length = 26) :
  (addP xs 1 (freshV nx) 0 = none ∧ impl_Inst_goOn_L3 N0 (m + 1) (w,p,a,b,(at_:Int),env,false,false,key,xs,nx,roleL w p,out) = some (.inl (w,p,a,b,(at_:Int),env,false,true,key,xs,out,nx))) ∨
  (∃ ys t,addP xs 1 (freshV nx) 0 = some (ys,t) ∧ impl_Inst_goOn_L3 N0 (m + 1) (w,p,a,b,(at_:Int),env,false,false,key,xs,nx,roleL w p,out) = impl_Inst_goOn_L3 N0 m (w,p,a,b,((at_ + 1:Nat):Int),env.set (bt ((roleL w p).getD at_ actZ).2 0 - 97).toNat t,false,false,key,ys,IntKind.i64.wrap (nx + 1),roleL w p,out)) := by
 have hl := poolB_len hp
 obtain ⟨_,_,r3⟩ := role_eq hw hs
 revert hA s1 s2 s3
 generalize hAA:(roleL w p).getD at_ actZ = A
 intro hA s1 s2 s3
 have hAA':(roleL w p).getD ((at_:Int)).toNat ((0:Int),(⟨#[]⟩:ByteArray)) = A := hAA
 have k1':(A.1 == 1) = true := by rw [hA]; rfl
 have k3':(A.1 == 3) = false := by rw [hA]; rfl
 have k4':(A.1 == 4) = false := by rw [hA]; rfl
 have w1:IntKind.i64.wrap ((at_:Int) + 1) = ((at_ + 1:Nat):Int) := by rw [wrap_ok (by omega) (by omega)]; omega
 obtain ⟨f1,_⟩ := fresh_eq nx
 have nI := implName_eq hl (freshV nx)
 cases hq:addP xs 1 (freshV nx) 0 with
 | none =>
  rw [hq] at nI
  left
  refine ⟨rfl, ?_⟩
  rw [impl_Inst_goOn_L3]; dsimp only
  simp only [impl_Inst_act,r3,act_in (show at_ < 5 by omega),hAA',k1',k3',k4',f1,nI,outI,Bool.not_false,Bool.not_true,cond_true,cond_false,Option.bind_some,show decide ((-1:Int) < 0) = true from rfl]
 | some s =>
  obtain ⟨ys,t⟩ := s
  rw [hq] at nI
  have nI':impl_Pool_name N0 (xs,freshV nx) = some (ys,t) := nI
  obtain ⟨⟨g1,g2,zs,g3⟩,g4⟩ := addP_grown hp hq
  obtain ⟨u1,u2⟩ := l97 s2 s3
  have ib:inb (bt A.2 0 - 97) env.length = true := env_in he (by omega) (by omega)
  have sz:inb (0:Int) A.2.size = true := by rw [s1]; rfl
  have tn:decide (t < 0) = false := decide_eq_false (by omega)
  right
  refine ⟨ys,t,rfl, ?_⟩
  rw [impl_Inst_goOn_L3]; dsimp only
  simp only [impl_Inst_act,r3,act_in (show at_ < 5 by omega),hAA',k1',k3',k4',f1,nI',Bool.not_false,Bool.not_true,cond_true,cond_false,Option.bind_some,tn,sz,u1,ib,w1,show decide ((-1:Int) ≥ 0) = false from rfl]
theorem step_send (hw:w = 1 ∨ w = 2 ∨ w = 3) (hs:p = 0 ∨ p = 1) (hat:at_ < 4) (hA:((roleL w p).getD at_ actZ).1 = 2) {P:Pat} (hP:PatIs ((roleL w p).getD at_ actZ).2 P) (hp:poolB xs = true) (he:env.length = 26) (hv:envB xs env = true) (ho:out.length ≤ 100) :
  (mk env P xs = none ∧ impl_Inst_goOn_L3 N0 (m + 1) (w,p,a,b,(at_:Int),env,false,false,key,xs,nx,roleL w p,out) = some (.inl (w,p,a,b,(at_:Int),env,false,true,key,xs,out,nx))) ∨
  (∃ ys t,mk env P xs = some (ys,t) ∧ impl_Inst_goOn_L3 N0 (m + 1) (w,p,a,b,(at_:Int),env,false,false,key,xs,nx,roleL w p,out) = impl_Inst_goOn_L3 N0 m (w,p,a,b,((at_ + 1:Nat):Int),env,false,false,key,ys,nx,roleL w p,out ++ [t])) := by
 have hl := poolB_len hp
 obtain ⟨_,_,r3⟩ := role_eq hw hs
 revert hA hP
 generalize hAA:(roleL w p).getD at_ actZ = A
 intro hA hP
 have hAA':(roleL w p).getD ((at_:Int)).toNat ((0:Int),(⟨#[]⟩:ByteArray)) = A := hAA
 have k1':(A.1 == 1) = false := by rw [hA]; rfl
 have k3':(A.1 == 3) = false := by rw [hA]; rfl
 have k4':(A.1 == 4) = false := by rw [hA]; rfl
 have w1:IntKind.i64.wrap ((at_:Int) + 1) = ((at_ + 1:Nat):Int) := by rw [wrap_ok (by omega) (by omega)]; omega
 have rm:∀ t:Int,room (out.length + [t].length) = true := fun t => by
  unfold room
  rw [List.length_singleton]
  simp
  omega
 have pm := patMake_eq hP hp he hv
 have mt:impl_Pool_makeText N0 (xs,env,A.2) = some (outI xs (mk env P xs)) := by
  unfold impl_Pool_makeText
  dsimp only
  rw [pm]; rfl
 cases hq:mk env P xs with
 | none =>
  rw [hq] at mt
  left
  refine ⟨rfl, ?_⟩
  rw [impl_Inst_goOn_L3]; dsimp only
  simp only [impl_Inst_act,r3,act_in (show at_ < 5 by omega),hAA',k1',k3',mt,outI,Bool.not_false,Bool.not_true,cond_true,cond_false,Option.bind_some,show decide ((-1:Int) < 0) = true from rfl]
 | some s =>
  obtain ⟨ys,t⟩ := s
  rw [hq] at mt
  have mt':impl_Pool_makeText N0 (xs,env,A.2) = some (ys,t) := mt
  obtain ⟨g1,g2,zs,g3⟩ := mk_grown hp hq
  have tn:decide (t < 0) = false := decide_eq_false (by omega)
  have tp:decide (t ≥ 0) = true := decide_eq_true (by omega)
  right
  refine ⟨ys,t,rfl, ?_⟩
  rw [impl_Inst_goOn_L3]; dsimp only
  simp only [impl_Inst_act,r3,act_in (show at_ < 5 by omega),hAA',k1',k3',k4',mt',Bool.not_false,Bool.not_true,cond_true,cond_false,Option.bind_some,tn,tp,w1,rm t]
theorem go_of {at_:Int} {d dd:Bool} (hx:xs.length ≤ 4294967296) (he:env.length ≤ 4294967296) (hv:instV xs (w,p,a,b,at_,env,d,dd,key) = true) {x:Int×Int×Int×Int×Int×List Int×Bool×Bool×Int×List Node3×List Int×Int}
  (h:impl_Inst_goOn_L3 N0 N0 (w,p,a,b,at_,env,d,dd,key,xs,nx,roleL w p,[]) = some (.inl x)):impl_InstGo N0 (xs,w,p,a,b,at_,env,d,dd,key,nx) = some (goI (.inl x)) := by
 have hI := (instV_eq hx (x := (w,p,a,b,at_,env,d,dd,key)) he).1
 dsimp only at hI
 rw [hv] at hI
 have hg := good_of hx (x := (w,p,a,b,at_,env,d,dd,key)) he hv
 obtain ⟨r1,_,_⟩ := role_eq (show w = 1 ∨ w = 2 ∨ w = 3 from hg.way) (show p = 0 ∨ p = 1 from hg.side)
 have ci := copyInst_eq (w := w) (p := p) (a := a) (b := b) (at_ := at_) (d := d) (dd := dd) (key := key) he
 have go:impl_Inst_goOn N0 (w,p,a,b,at_,env,d,dd,key,xs,nx) = some x := by
  unfold impl_Inst_goOn
  simp only [r1,Option.bind_some,h]
 unfold impl_InstGo impl_InstGo_R3 impl_InstGo_R5
 simp only [hI,copy_eq hx,ci,go,Option.bind_some,Bool.not_true,cond_false]
 rfl
end
theorem envNewS:spec_EnvNew N0 () = some (List.replicate 26 (-1)) := by
 obtain ⟨e,h1,h2,h3⟩ := envNew_ok
 rw [h1,List.eq_replicate_iff.2 ⟨h2,h3⟩]
theorem envNew0 {xs:List Node3}:envB xs (List.replicate 26 (-1)) = true := envB_new (fun v hv => (List.mem_replicate.1 hv).2)
theorem isAgent_eq (a:Int):impl_isAgent N0 a = some (decide (a ≥ 0) && decide (a ≤ 4)) := by
 unfold impl_isAgent
 rw [inRange_eq]; rfl
theorem isAgentS_eq (a:Int):spec_l2Agent N0 a = some (decide (a ≥ 0) && decide (a ≤ 4)) := by
 unfold spec_l2Agent
 rw [in_eq]; rfl
section
variable {a b:Int}
theorem longI_eq (h:(decide (a ≥ 0) && decide (a ≤ 4)) = true):impl_LongKey N0 a = some (50 + a) := by
 have h' := h
 rw [Bool.and_eq_true,decide_eq_true_iff,decide_eq_true_iff] at h'
 unfold impl_LongKey
 rw [isAgent_eq,h,Option.bind_some,Bool.not_true,cond_false,wrap_ok (by omega) (by omega)]
theorem staticI_eq (h:(decide (a ≥ 0) && decide (a ≤ 4)) = true):impl_StaticKey N0 a = some (90 + a) := by
 have h' := h
 rw [Bool.and_eq_true,decide_eq_true_iff,decide_eq_true_iff] at h'
 unfold impl_StaticKey
 rw [isAgent_eq,h,Option.bind_some,Bool.not_true,cond_false,wrap_ok (by omega) (by omega)]
theorem sharedI_eq (ha:(decide (a ≥ 0) && decide (a ≤ 4)) = true) (hb:(decide (b ≥ 0) && decide (b ≤ 4)) = true) (hab:(a == b) = false):∃ s,impl_SharedKey N0 (a,b) = some s ∧ spec_SharedKey N0 (a,b) = some s := by
 have ha' := ha
 have hb' := hb
 rw [Bool.and_eq_true,decide_eq_true_iff,decide_eq_true_iff] at ha' hb'
 unfold impl_SharedKey spec_SharedKey spec_l1Min spec_l1Max
 dsimp only
 rw [isAgent_eq,isAgent_eq,isAgentS_eq,isAgentS_eq,ha,hb,hab]
 simp only [Option.bind_some,Bool.not_true,cond_false]
 refine ⟨_,rfl, ?_⟩
 unfold mn mx
 by_cases q1:a < b
 ·have q2:¬ a > b := by omega
  simp only [decide_eq_true q1,decide_eq_false q2,cond_true,cond_false,Option.bind_some]
  split
  ·omega
  ·rfl
 ·have q2:a > b := by rw [beq_eq_false_iff_ne] at hab; omega
  simp only [decide_eq_false q1,decide_eq_true q2,cond_true,cond_false,Option.bind_some]
  split
  ·rfl
  ·omega
theorem power_fin {ys:List Node3} {e:List Int} (hp:poolB ys = true) (hb:(decide (b ≥ 0) && decide (b ≤ 4)) = true) :
  (∃ us u,finP b (some (ys,e)) = some (us,e.set 20 u) ∧ impl_Pool_powerOf N0 (ys,b) = some (us,u) ∧ hasB us u = true ∧ poolB us = true ∧ ∃ zs,us = ys ++ zs) ∨
  (∃ m,finP b (some (ys,e)) = none ∧ impl_Pool_powerOf N0 (ys,b) = some (m, -1)) := by
 have hl := poolB_len hp
 unfold finP impl_Pool_powerOf
 dsimp only
 rw [staticI_eq hb,Option.bind_some]
 cases hA:addP ys 1 (90 + b) 0 with
 | none =>
  right
  have hB:addP ys 7 (-1) 0 = none := by
   cases hB:addP ys 7 (-1) 0 with
   | none => rfl
   | some q =>
    exfalso
    obtain ⟨us,u⟩ := q
    have h1:addK ys (7, -1,0) = some (us,u) := hB
    have hn:nodeV N0 (7,(-1),0,(ys.length:Int)) = false := by
     show (impl_nodeOk N0 (7,(-1),0,(ys.length:Int))).getD false = false
     unfold impl_nodeOk
     dsimp only
     rw [show impl_count N0 7 = some 1 from rfl,inRange_eq,inRange_eq,inRange_eq]
     rfl
    unfold addK at h1
    dsimp only at h1
    rw [hn,cond_false] at h1
    cases h1
  refine ⟨ys,rfl, ?_⟩
  simp only [nmI_none hl hA,implAdd_eq hl,hB,outI,Option.bind_some]
 | some q =>
  obtain ⟨zs,t⟩ := q
  obtain ⟨p1,h1,vs,hz⟩ := addP_has hp hA
  have hl1 := poolB_len p1
  simp only [nmI_some hl hA,implAdd_eq hl1,Option.bind_some]
  cases hB:addP zs 7 t 0 with
  | none => exact .inr ⟨zs,rfl,rfl⟩
  | some q2 =>
   obtain ⟨us,u⟩ := q2
   obtain ⟨p2,h2,vs2,hz2⟩ := addP_has p1 hB
   exact .inl ⟨us,u,rfl,rfl,h2,p2,vs ++ vs2,by rw [hz2,hz,List.append_assoc]⟩
theorem role_bad {w p:Int} (h:¬ ((w = 1 ∨ w = 2 ∨ w = 3) ∧ (p = 0 ∨ p = 1))):impl_RoleText N0 (w,p) = some ⟨#[]⟩ ∧ spec_l13Role N0 (w,p) = some false := by
 constructor
 ·unfold impl_RoleText
  dsimp only
  rw [inRange_eq,inRange_eq,Option.bind_some,Option.bind_some]
  cases q1:(decide (w ≥ 1) && decide (w ≤ 3)) with
  | false => rfl
  | true =>
   cases q2:(decide (p ≥ 0) && decide (p ≤ 1)) with
   | false => rfl
   | true =>
    rw [Bool.and_eq_true,decide_eq_true_iff,decide_eq_true_iff] at q1 q2
    exact absurd ⟨by omega,by omega⟩ h
 ·unfold spec_l13Role spec_RoleText
  dsimp only
  by_cases w1:w = 1
  ·have h0:(p == (0:Int)) = false := by rw [beq_eq_false_iff_ne]; omega
   have h1:(p == (1:Int)) = false := by rw [beq_eq_false_iff_ne]; omega
   subst w1
   simp only [h0,h1,beq_self_eq_true,Int.reduceBEq,cond_true,cond_false,Option.bind_some,strEq_self,Bool.not_true]
  by_cases w2:w = 2
  ·have h0:(p == (0:Int)) = false := by rw [beq_eq_false_iff_ne]; omega
   have h1:(p == (1:Int)) = false := by rw [beq_eq_false_iff_ne]; omega
   subst w2
   simp only [h0,h1,beq_self_eq_true,Int.reduceBEq,cond_true,cond_false,Option.bind_some,strEq_self,Bool.not_true]
  by_cases w3:w = 3
  ·have h0:(p == (0:Int)) = false := by rw [beq_eq_false_iff_ne]; omega
   have h1:(p == (1:Int)) = false := by rw [beq_eq_false_iff_ne]; omega
   subst w3
   simp only [h0,h1,beq_self_eq_true,Int.reduceBEq,cond_true,cond_false,Option.bind_some,strEq_self,Bool.not_true]
  have k1:(w == (1:Int)) = false := by rw [beq_eq_false_iff_ne]; exact w1
  have k2:(w == (2:Int)) = false := by rw [beq_eq_false_iff_ne]; exact w2
  have k3:(w == (3:Int)) = false := by rw [beq_eq_false_iff_ne]; exact w3
  simp only [k1,k2,k3,cond_false,Option.bind_some,strEq_self,Bool.not_true]
theorem role_fine {w p:Int} (hw:w = 1 ∨ w = 2 ∨ w = 3) (hp:p = 0 ∨ p = 1):∃ T,impl_RoleText N0 (w,p) = some T ∧ strEq T ⟨#[]⟩ = false := by
 rcases hw with rfl | rfl | rfl <;> rcases hp with rfl | rfl
 all_goals exact ⟨_,rfl,by kernel_rfl⟩
end
theorem n0_7:∃ m,N0 = m + 7 := ⟨N0 - 7,by have := n0; omega⟩
theorem n0_8:∃ m,N0 = m + 8 := ⟨N0 - 8,by have := n0; omega⟩
theorem instNew_same {xs:List Node3} (hx:xs.length ≤ 4294967296) (w p a b:Int) :
  (∃ ys,impl_InstNew N0 (xs,w,p,a,b) = some (ys,0,0,0,0,0,[],false,false,0,false) ∧ spec_InstNew N0 (xs,w,p,a,b) = some (ys,0,0,0,0,0,[],false,false,0,false)) ∨
  (∃ ys e,impl_InstNew N0 (xs,w,p,a,b) = some (ys,w,p,a,b,0,e,false,false, -1,true) ∧ spec_InstNew N0 (xs,w,p,a,b) = some (ys,w,p,a,b,0,e,false,false, -1,true) ∧ (w = 1 ∨ w = 2 ∨ w = 3) ∧ (p = 0 ∨ p = 1) ∧ poolB ys = true ∧ e.length = 26 ∧ envB ys e = true ∧ instV ys (w,p,a,b,0,e,false,false, -1) = true) := by
 have pIx := implPool_eq N0 n0 hx
 have pSx := specPool_eq N0 n0 hx
 change impl_PoolOk N0 xs = some (poolB xs) at pIx
 change spec_PoolOk N0 xs = some (poolB xs) at pSx
 have cp := copy_eq hx
 have cs := copyS_eq hx
 unfold impl_InstNew spec_InstNew
 dsimp only
 cases hp:poolB xs with
 | false =>
  rw [hp] at pIx pSx
  left
  simp only [pIx,pSx,Option.bind_some,Bool.not_false,cond_true]
  exact ⟨_,rfl,rfl⟩
 | true =>
  rw [hp] at pIx pSx
  simp only [pIx,pSx,Option.bind_some,Bool.not_true,cond_false]
  by_cases hr:(w = 1 ∨ w = 2 ∨ w = 3) ∧ (p = 0 ∨ p = 1)
  ·obtain ⟨T,t1,t2⟩ := role_fine hr.1 hr.2
   simp only [t1,t2,roleS_eq hr.1 hr.2,isAgent_eq,isAgentS_eq,Option.bind_some,Bool.not_true,cond_false]
   cases ha:(decide (a ≥ 0) && decide (a ≤ 4)) with
   | false =>
    left
    simp only [Bool.not_false,cond_true,cp,cs,Option.bind_some]
    exact ⟨_,rfl,rfl⟩
   | true =>
    simp only [Bool.not_true,cond_false]
    cases hb:(decide (b ≥ 0) && decide (b ≤ 4)) with
    | false =>
     left
     simp only [Bool.not_false,cond_true,cp,cs,Option.bind_some]
     exact ⟨_,rfl,rfl⟩
    | true =>
     simp only [Bool.not_true,cond_false]
     cases hab:(a == b) with
     | true =>
      left
      simp only [cond_true,cp,cs,Option.bind_some]
      exact ⟨_,rfl,rfl⟩
     | false =>
      have ha' := ha
      have hb' := hb
      rw [Bool.and_eq_true,decide_eq_true_iff,decide_eq_true_iff] at ha' hb'
      obtain ⟨s,s1,s2⟩ := sharedI_eq ha hb hab
      have eI:lib_envNew () = some (List.replicate 26 (-1)) := rfl
      simp only [cond_false,cp,eI,envNewS,longI_eq ha,longI_eq hb,s1,s2,staticI_eq ha,longKey_eq ha'.1 ha'.2,longKey_eq hb'.1 hb'.2,staticKey_eq ha'.1 ha'.2,staticKey_eq hb'.1 hb'.2,Option.bind_some]
      have e26:(List.replicate 26 (-1):List Int).length = 26 := rfl
      obtain ⟨m7,hm7⟩ := n0_7
      obtain ⟨m8,hm8⟩ := n0_8
      have lI := newI_0 (xs0 := xs) (w := w) (p := p) (a := a) (b := b) (s := s) hx m7 hp e26
      have lS := newS_0 (xs0 := xs) (w := w) (p := p) (a := a) (b := b) (s := s) hx m8 hp e26
      rw [← hm7] at lI
      rw [← hm8] at lS
      erw [lI,lS]
      simp only [Option.bind_some,List.drop_zero]
      cases hN:nmP (newL a b s) xs (List.replicate 26 (-1)) with
      | none =>
       left
       exact ⟨xs,rfl,rfl⟩
      | some q =>
       obtain ⟨ys,e⟩ := q
       obtain ⟨g1,g2,g3,g4⟩ := nmP_facts hp e26 envNew0 hN
       rcases power_fin (e := e) g1 hb with ⟨us,u,f1,f2,f3,f4,f5⟩ | ⟨m,f1,f2⟩
       ·right
        have hul := poolB_len f4
        have u0 := (hasB_iff.1 f3).1
        have hie:inb (20:Int) e.length = true := by rw [show (20:Int) = ((20:Nat):Int) from rfl]; exact inb_nat (by omega)
        have hv2:envB us (e.set 20 u) = true := envB_set f3 _ (by obtain ⟨z,rfl⟩ := f5; exact envB_mono g3)
        refine ⟨us,e.set 20 u, ?_, ?_,hr.1,hr.2,f4,by rw [List.length_set]; exact g2,hv2,inst_right hr.1 hr.2 ha' hb' (by rw [beq_eq_false_iff_ne] at hab; exact hab) f4 (by rw [List.length_set]; exact g2) hv2 (by omega) rfl (fun q => by cases q) (fun _ => rfl)⟩
        ·simp only [newI,f2,Option.bind_some,(show decide (u < (0:Int)) = false from decide_eq_false (by omega)),cond_false,hie,cond_true,impl_InstNew_R20]
         rfl
        ·simp only [f1,newS,spec_InstNew_R19,copyS_eq (show us.length ≤ 4294967296 by omega),Option.bind_some]
       ·left
        refine ⟨xs, ?_, ?_⟩
        ·simp only [newI,f2,Option.bind_some,show decide ((-1:Int) < (0:Int)) = true from rfl,cond_true,cp]
        ·simp only [f1,newS]
  ·obtain ⟨r1,r2⟩ := role_bad hr
   left
   simp only [r1,r2,strEq_self,cp,cs,Option.bind_some,Bool.not_false,cond_true]
   exact ⟨_,rfl,rfl⟩
theorem getD_set_self {l:List Int} {i:Nat} (h:i < l.length) (v d:Int):(l.set i v).getD i d = v := by
 simp [List.getD_eq_getElem?_getD,h]
theorem fresh3:freshV 3 = (impl_FreshName N0 3).getD 0 ∧ 0 ≤ freshV 3 ∧ freshV 3 ≤ 199 := by
 have:freshV 3 = 103 ∨ (0 ≤ freshV 3 ∧ freshV 3 ≤ 199) := by
  unfold freshV impl_FreshName
  rw [inRange_eq]
  exact .inr (by decide)
 refine ⟨rfl, ?_⟩
 omega
theorem go_new {xs:List Node3} {w p a b:Int} {env:List Int} (hw:w = 1 ∨ w = 2 ∨ w = 3) (hs:p = 0 ∨ p = 1) (hp:poolB xs = true) (he:env.length = 26) (hv:envB xs env = true) (hI:instV xs (w,p,a,b,0,env,false,false, -1) = true) :
  ∃ ys at' e dd out nx,impl_InstGo N0 (xs,w,p,a,b,0,env,false,false, -1,3) = some (ys,w,p,a,b,at',e,false,dd, -1,out,nx) ∧ poolB ys = true ∧ e.length = 26 ∧ instV ys (w,p,a,b,at',e,false,dd, -1) = true ∧
   ((dd = true ∧ 500 ≤ ys.length) ∨ (dd = false ∧ nx = 4 ∧ (out.length:Int) = 1 - p ∧ at' = 2 - p ∧ impl_InstGo N0 (ys,w,p,a,b,at',e,false,dd, -1,nx) = some (ys,w,p,a,b,at',e,false,dd, -1,[],nx))) := by
 have hl := poolB_len hp
 have hg := good_of (show xs.length ≤ 4294967296 by omega) (x := (w,p,a,b,0,env,false,false, -1)) (show env.length ≤ 4294967296 by omega) hI
 have hF := first_good hw hs
 unfold firstB at hF
 rw [Bool.and_eq_true,Bool.and_eq_true,Bool.and_eq_true,Bool.and_eq_true,beq_iff_eq,beq_iff_eq,decide_eq_true_iff,decide_eq_true_iff] at hF
 obtain ⟨k0,k1,⟨k2,k3⟩,k4⟩ := hF
 obtain ⟨m,hm⟩:∃ m,N0 = m + 3 := ⟨N0 - 3,by have := n0; omega⟩
 have right:∀ {zs:List Node3} {e:List Int} {at_:Int} {dd:Bool},poolB zs = true → e.length = 26 → envB zs e = true → 0 ≤ at_ → at_ ≤ 4 → instV zs (w,p,a,b,at_,e,false,dd, -1) = true := fun h1 h2 h3 h4 h5 =>
  inst_right hw hs hg.me hg.peer hg.ne h1 h2 h3 ⟨h4,by omega⟩ (by rw [eq_comm,beq_eq_false_iff_ne]; omega) (fun q => by cases q) (fun _ => rfl)
 have wn:IntKind.i64.wrap ((3:Int) + 1) = 4 := rfl
 rcases step_fresh (a := a) (b := b) (key := -1) (nx := 3) (out := []) (at_ := 0) (m := m + 2) hw hs (by omega) k0 k1 k2 k3 hp he with ⟨q1,q2⟩ | ⟨ys,t,q1,q2⟩
 ·rw [show m + 2 + 1 = N0 from hm.symm] at q2
  have g := go_of (show xs.length ≤ 4294967296 by omega) (show env.length ≤ 4294967296 by omega) hI q2
  exact ⟨xs,0,env,true,[],3,g,hp,he,right hp he hv (by omega) (by omega), .inl ⟨rfl,name_full hp fresh3.2.1 fresh3.2.2 q1⟩⟩
 ·obtain ⟨p1,h1,vs,hz⟩ := addP_has hp q1
  have t0 := (hasB_iff.1 h1).1
  have hv1:envB ys (env.set (bt ((roleL w p).getD 0 actZ).2 0 - 97).toNat t) = true := envB_set h1 _ (by rw [hz]; exact envB_mono hv)
  have he1:(env.set (bt ((roleL w p).getD 0 actZ).2 0 - 97).toNat t).length = 26 := by rw [List.length_set]; exact he
  have hl1 := poolB_len p1
  rw [show m + 2 + 1 = N0 from hm.symm,wn] at q2
  rcases hs with rfl | rfl
  ·rw [show ((0:Int) == 0) = true from rfl,cond_true,Bool.and_eq_true,Bool.and_eq_true,beq_iff_eq,beq_iff_eq] at k4
   obtain ⟨j1,j2,j3⟩ := k4
   obtain ⟨P,hP,hf⟩ := patB_ex j2
   rcases step_send (a := a) (b := b) (key := -1) (nx := 4) (out := []) (at_ := 1) (m := m + 1) hw (.inl rfl) (by omega) j1 hP p1 he1 hv1 (by simp) with ⟨r1,r2⟩ | ⟨zs,u,r1,r2⟩
   ·have g := go_of (show xs.length ≤ 4294967296 by omega) (show env.length ≤ 4294967296 by omega) hI (q2.trans r2)
    refine ⟨ys,1,_,true,[],4,g,p1,he1,right p1 he1 hv1 (by omega) (by omega), .inl ⟨rfl, ?_⟩⟩
    have hx97:(env.set (bt ((roleL w 0).getD 0 actZ).2 0 - 97).toNat t).getD (bt ((roleL w 0).getD 0 actZ).2 0 - 97).toNat 0 = t := by
     exact getD_set_self (by omega) t 0
    have hvar:∀ j:Int,(j == bt ((roleL w 0).getD 0 actZ).2 0 - 97) = true → mk (env.set (bt ((roleL w 0).getD 0 actZ).2 0 - 97).toNat t) (.var j) ys = some (ys,t) := fun j hj => by
     rw [beq_iff_eq] at hj
     subst hj
     show (bif decide ((env.set (bt ((roleL w 0).getD 0 actZ).2 0 - 97).toNat t).getD (bt ((roleL w 0).getD 0 actZ).2 0 - 97).toNat 0 < 0) then none else some (ys,(env.set (bt ((roleL w 0).getD 0 actZ).2 0 - 97).toNat t).getD (bt ((roleL w 0).getD 0 actZ).2 0 - 97).toNat 0)) = _
     rw [hx97,decide_eq_false (by omega)]; rfl
    cases P with
    | var j => rw [hvar j hf] at r1; cases r1
    | un kk Q =>
     cases Q with
     | var j =>
      have hf:(kk == 7 && j == bt ((roleL w 0).getD 0 actZ).2 0 - 97) = true := hf
      rw [Bool.and_eq_true,beq_iff_eq] at hf
      obtain ⟨rfl,hf⟩ := hf
      have r1:(mk (env.set (bt ((roleL w 0).getD 0 actZ).2 0 - 97).toNat t) (.var j) ys).bind (fun r => addP r.1 7 r.2 0) = none := r1
      rw [hvar j hf,Option.bind_some] at r1
      exact power_full p1 h1 r1
     | _ => cases hf
    | _ => cases hf
   ·obtain ⟨g1,g2,us,g3⟩ := mk_grown p1 r1
    have hv2:envB zs (env.set (bt ((roleL w 0).getD 0 actZ).2 0 - 97).toNat t) = true := by rw [g3]; exact envB_mono hv1
    have hl2 := poolB_len g1
    have st := step_take (a := a) (b := b) (xs := zs) (env := env.set (bt ((roleL w 0).getD 0 actZ).2 0 - 97).toNat t) (key := -1) (nx := 4) (out := [] ++ [u]) (at_ := 2) (m := m) hw (.inl rfl) (by omega) j3
    have g := go_of (show xs.length ≤ 4294967296 by omega) (show env.length ≤ 4294967296 by omega) hI (q2.trans (r2.trans st))
    have hr := right g1 he1 hv2 (show (0:Int) ≤ 2 by omega) (by omega) (dd := false)
    have st2 := step_take (a := a) (b := b) (xs := zs) (env := env.set (bt ((roleL w 0).getD 0 actZ).2 0 - 97).toNat t) (key := -1) (nx := 4) (out := []) (at_ := 2) (m := m + 2) hw (.inl rfl) (by omega) j3
    rw [show m + 2 + 1 = N0 from hm.symm] at st2
    exact ⟨zs,2,_,false,[u],4,g,g1,he1,hr, .inr ⟨rfl,rfl,rfl,rfl,go_of (show zs.length ≤ 4294967296 by omega) (by omega) hr st2⟩⟩
  ·rw [show ((1:Int) == 0) = false from rfl,cond_false,beq_iff_eq] at k4
   have st := step_take (a := a) (b := b) (xs := ys) (env := env.set (bt ((roleL w 1).getD 0 actZ).2 0 - 97).toNat t) (key := -1) (nx := 4) (out := []) (at_ := 1) (m := m + 1) hw (.inr rfl) (by omega) k4
   have g := go_of (show xs.length ≤ 4294967296 by omega) (show env.length ≤ 4294967296 by omega) hI (q2.trans st)
   have hr := right p1 he1 hv1 (show (0:Int) ≤ 1 by omega) (by omega) (dd := false)
   have st2 := step_take (a := a) (b := b) (xs := ys) (env := env.set (bt ((roleL w 1).getD 0 actZ).2 0 - 97).toNat t) (key := -1) (nx := 4) (out := []) (at_ := 1) (m := m + 2) hw (.inr rfl) (by omega) k4
   rw [show m + 2 + 1 = N0 from hm.symm] at st2
   exact ⟨ys,1,_,false,[],4,g,p1,he1,hr, .inr ⟨rfl,rfl,rfl,rfl,go_of (show ys.length ≤ 4294967296 by omega) (by omega) hr st2⟩⟩
def DrawsNew:Prop := ∀ b:List Int,b.length ≤ 4294967296 → ∃ xs w p a c,spec_DrawInstNew N0 b = some (xs,w,p,a,c) ∧ xs.length ≤ 4294967296
theorem inst_law_of (hd:DrawsNew) (x:List Int) (hx:x.length ≤ 9223372036854775807):laws_FnInst N0 x = some true := by
 have hN := n0
 unfold laws_FnInst laws_big
 rw [Option.bind_some]
 by_cases hb:(x.length:Int) > 1048576
 ·rw [decide_eq_true hb]; rfl
 ·rw [decide_eq_false hb,cond_false]
  obtain ⟨xs,w,p,a,c,e1,q1⟩ := hd x (by omega)
  rw [e1,Option.bind_some]
  dsimp only
  rcases instNew_same q1 w p a c with ⟨ys,r1,r2⟩ | ⟨ys,e,r1,r2,hw,hs,hp,he,hv,hI⟩
  ·simp only [r1,r2,Option.bind_some,bne_self_eq_false,Bool.not_false,cond_true,cond_false,beq_self_eq_true]
   rfl
  ·have hl := poolB_len hp
   have hO := (instV_eq (xs := ys) (by omega) (x := (w,p,a,c,0,e,false,false, -1)) (show e.length ≤ 4294967296 by omega)).1
   dsimp only at hO
   rw [hI] at hO
   obtain ⟨zs,at',e',dd,out,nx,g1,g2,g3,g4,g5⟩ := go_new hw hs hp he hv hI
   have hl2 := poolB_len g2
   have hO2 := (instV_eq (xs := zs) (by omega) (x := (w,p,a,c,at',e',false,dd, -1)) (show e'.length ≤ 4294967296 by omega)).1
   dsimp only at hO2
   rw [g4] at hO2
   simp only [r1,r2,hO,g1,Option.bind_some,bne_self_eq_false,Bool.not_true,cond_true,cond_false]
   rcases g5 with ⟨rfl,h500⟩ | ⟨rfl,rfl,ho,ha,hn⟩
   ·rcases go_full (xs := zs) (w := w) (p := p) (a := a) (b := c) (at_ := at') (env := e') (d := false) (dd := true) (key := -1) (nx := nx) (by omega) (by omega) with ⟨_,us,s1,_,_⟩ | ⟨_,us,at2,e2,d2,dd2,k2,o2,n2,s1,_⟩
    ·simp only [s1,Option.bind_some,cond_true,(show decide ((zs.length:Int) > (491:Int)) = true from decide_eq_true (by omega))]
    ·simp only [s1,Option.bind_some,cond_true,(show decide ((zs.length:Int) > (491:Int)) = true from decide_eq_true (by omega))]
   ·have w1:IntKind.i64.wrap ((1:Int) - p) = 1 - p := wrap_ok (by omega) (by omega)
    have w2:IntKind.i64.wrap ((2:Int) - p) = 2 - p := wrap_ok (by omega) (by omega)
    subst ha
    simp only [hn,hO2,Option.bind_some,cond_true,cond_false,Bool.not_false,beq_self_eq_true,w1,w2,ho,List.length_nil]
    rfl
theorem pick3_ok (n:Nat) {b:List Int} {i:Int} (h x y z:Int) (hc:Cu b i):∃ i' h' v,spec_l1PickInt n (b,i,h,[x,y,z]) = some (b,i',h',v) ∧ Cu b i' := by
 obtain ⟨i',h',v,e,c,q⟩ := below_ok n h 3 hc
 have q:0 ≤ v ∧ v < 3 := by rcases q with ⟨q,_⟩ | q <;> omega
 unfold spec_l1PickInt
 dsimp only
 rw [show (([x,y,z]:List Int).length:Int) = 3 from rfl,e,Option.bind_some]
 dsimp only
 rw [show v = ((v.toNat:Nat):Int) by omega,inb_nat (show v.toNat < ([x,y,z]:List Int).length by show v.toNat < 3; omega),cond_true]
 exact ⟨_,_,_,rfl,c⟩
theorem drawAgent_ok (n:Nat) {b:List Int} {i:Int} (h:Int) (hc:Cu b i):∃ i' h' v,spec_l2DrawAgent n (b,i,h) = some (b,i',h',v) ∧ Cu b i' := by
 obtain ⟨i1,h1,v1,e1,c1⟩ := once_ok n h 9 hc
 unfold spec_l2DrawAgent
 dsimp only
 rw [e1,Option.bind_some]
 dsimp only
 cases v1 with
 | true =>
  obtain ⟨i2,h2,v2,e2,c2⟩ := pick3_ok n h1 (-1) 5 9223372036854775807 c1
  rw [cond_true,e2,Option.bind_some]
  exact ⟨_,_,_,rfl,c2⟩
 | false =>
  obtain ⟨i2,h2,v2,e2,c2,_⟩ := below_ok n h1 5 c1
  rw [cond_false,e2,Option.bind_some]
  exact ⟨_,_,_,rfl,c2⟩
theorem drawRoleText_ok {b:List Int} (hb:b.length ≤ 4294967296):∃ w p,spec_DrawRoleText N0 b = some (w,p) := by
 obtain ⟨h,e,c⟩ := new_ok hb
 obtain ⟨i1,h1,v1,e1,c1,_⟩ := below_ok N0 h 6 c
 obtain ⟨i2,h2,v2,e2,c2,_⟩ := below_ok N0 h1 4 c1
 unfold spec_DrawRoleText
 rw [e,Option.bind_some]
 dsimp only
 rw [e1,Option.bind_some]
 dsimp only
 rw [e2,Option.bind_some]
 exact ⟨_,_,rfl⟩
theorem drawsNew:DrawsNew := fun b hb => by
 obtain ⟨h,e,c⟩ := new_ok hb
 obtain ⟨i1,h1,xs,e1,c1,l1⟩ := drawAny_ok h c
 obtain ⟨w,p,e2⟩ := drawRoleText_ok hb
 obtain ⟨i3,h3,v3,e3,c3⟩ := once_ok N0 h1 2 c1
 unfold spec_DrawInstNew
 rw [e,Option.bind_some]
 dsimp only
 rw [e1,Option.bind_some]
 dsimp only
 rw [e2,Option.bind_some]
 dsimp only
 rw [e3,Option.bind_some]
 dsimp only
 cases v3 with
 | true =>
  obtain ⟨i4,h4,v4,e4,c4,_⟩ := below_ok N0 h3 3 c3
  obtain ⟨i5,h5,v5,e5,c5,_⟩ := below_ok N0 h4 2 c4
  obtain ⟨i6,h6,v6,e6,c6⟩ := drawAgent_ok N0 h5 c5
  obtain ⟨i7,h7,v7,e7,c7⟩ := drawAgent_ok N0 h6 c6
  simp only [cond_true,e4,e5,e6,e7,spec_DrawInstNew_R7,Option.bind_some]
  exact ⟨_,_,_,_,_,rfl,by omega⟩
 | false =>
  obtain ⟨i6,h6,v6,e6,c6⟩ := drawAgent_ok N0 h3 c3
  obtain ⟨i7,h7,v7,e7,c7⟩ := drawAgent_ok N0 h6 c6
  simp only [cond_false,e6,e7,spec_DrawInstNew_R7,Option.bind_some]
  exact ⟨_,_,_,_,_,rfl,by omega⟩
theorem inst_law_td (x:TD (entys (parEns 0 (S3 0).pars))) (hx:FitsTD _ x):laws_FnInst N0 x = some true := by
 have h1:Fits (.sl (.int .u8)) x := hx ⟨.sl (.int .u8),x⟩ (.head _)
 exact inst_law_of drawsNew x (maxLen_eq ▸ h1.1)
end AM
end Go.Proofs.YtlnbedamfbnkaaaGreatDoor
