/- Small laws on whole numbers that wrap, on strings as lists of bytes, and on answers that may be none. No condition. And what follows it: see the remarks. -/
import Derived.Test.YtobpcllkonomlabGreatDoorSW4
import Derived.Lib.ItoaNum
import Derived.Lib.IndexMore
import Derived.Laws.BitsLemmas
import Derived.Test.YtobpcllkonomlabGreatDoorSALd
import Derived.Test.YtobpcllkonomlabGreatDoorSP1
import Derived.Lib.SlicesCompact
namespace Go.Proofs.YtobpcllkonomlabGreatDoor
namespace AM
open Go
set_option linter.unusedSimpArgs false
set_option linter.unusedVariables false
end AM
end Go.Proofs.YtobpcllkonomlabGreatDoor
namespace Go.Proofs.YtobpcllkonomlabGreatDoor
namespace AM
open Go
set_option linter.unusedVariables false
set_option linter.unusedSimpArgs false
abbrev N0:Nat := 1000000000000000000000000000000
theorem wrap_ok {n:Int} (h1:-9223372036854775808 ≤ n) (h2:n ≤ 9223372036854775807):IntKind.i64.wrap n = n := by
 rw [IntKind.wrap_i64]; omega
theorem getD_of {α:Type} {l:List α} {i:Nat} (h:i < l.length) (d:α):l.getD i d = l[i] := by
 rw [List.getD_eq_getElem?_getD,List.getElem?_eq_getElem h]; rfl
theorem inb_nat {i n:Nat} (h:i < n):inb (i:Int) n = true := by
 unfold inb
 exact decide_eq_true ⟨Int.natCast_nonneg _,by omega⟩
theorem step_wrap {i n:Nat} (hi:i < n) (hn:n ≤ 4294967296):IntKind.i64.wrap ((i:Int) + (1:Int)) = ((i + 1:Nat):Int) := by
 rw [wrap_ok (by omega) (by omega)]; omega
theorem copy_set {α:Type} {xs ys:List α} {i:Nat} (hi:i < xs.length) (hl:ys.length = xs.length) (h:∀ j,j < i → ys[j]? = xs[j]?):(ys.set i xs[i]).length = xs.length ∧ ∀ j,j < i + 1 → (ys.set i xs[i])[j]? = xs[j]? := by
 refine ⟨by simp [hl],fun j hj => ?_⟩
 rw [List.getElem?_set]
 by_cases q:i = j
 ·subst q
  rw [if_pos rfl,if_pos (by omega),List.getElem?_eq_getElem hi]
 ·rw [if_neg q]; exact h j (by omega)
theorem copy_done {α:Type} {xs ys:List α} {i:Nat} (hi:xs.length ≤ i) (hl:ys.length = xs.length) (h:∀ j,j < i → ys[j]? = xs[j]?):ys = xs := by
 apply List.ext_getElem?
 intro j
 rcases Nat.lt_or_ge j i with q | q
 ·exact h j q
 ·rw [List.getElem?_eq_none (by omega),List.getElem?_eq_none (by omega)]
theorem toNodeS_loop (n:Nat) {xs:List (Int×Int×Int)} (hx:xs.length ≤ 4294967296):∀ (m i:Nat) (ys:List (Int×Int×Int)),i ≤ xs.length → ys.length = xs.length → (∀ j,j < i → ys[j]? = xs[j]?) → xs.length < m + i → laws_toNodeS_L3 n m (xs,ys,(i:Int)) = some xs
 | 0,i,ys,hi,hl,h,hm => by omega
 | m + 1,i,ys,hi,hl,h,hm => by
  show (cond (decide ((i:Int) < (xs.length:Int))) _ _) = _
  by_cases q:i < xs.length
  ·rw [decide_eq_true (by omega:(i:Int) < (xs.length:Int)),cond_true]
   show (cond (inb (i:Int) xs.length) _ none) = _
   rw [inb_nat q,cond_true]
   show (cond (inb (i:Int) ys.length) (laws_toNodeS_L3 n m (xs,ys.set ((i:Int)).toNat (xs.getD ((i:Int)).toNat ((0:Int),((0:Int),(0:Int)))),IntKind.i64.wrap ((i:Int) + (1:Int)))) none) = _
   rw [inb_nat (by omega),cond_true,step_wrap q hx,Int.toNat_natCast,getD_of q]
   obtain ⟨h1,h2⟩ := copy_set q hl h
   exact toNodeS_loop n hx m (i + 1) _ q h1 h2 (by omega)
  ·rw [decide_eq_false (by omega:¬ (i:Int) < (xs.length:Int)),cond_false]
   rw [copy_done (by omega) hl h]
theorem toIntS_loop (n:Nat) {xs:List Int} (hx:xs.length ≤ 4294967296):∀ (m i:Nat) (ys:List Int),i ≤ xs.length → ys.length = xs.length → (∀ j,j < i → ys[j]? = xs[j]?) → xs.length < m + i → laws_toIntS_L3 n m (xs,ys,(i:Int)) = some xs
 | 0,i,ys,hi,hl,h,hm => by omega
 | m + 1,i,ys,hi,hl,h,hm => by
  show (cond (decide ((i:Int) < (xs.length:Int))) _ _) = _
  by_cases q:i < xs.length
  ·rw [decide_eq_true (by omega:(i:Int) < (xs.length:Int)),cond_true]
   show (cond (inb (i:Int) xs.length) (cond (inb (i:Int) ys.length) (laws_toIntS_L3 n m (xs,ys.set ((i:Int)).toNat (xs.getD ((i:Int)).toNat (0:Int)),IntKind.i64.wrap ((i:Int) + (1:Int)))) none) none) = _
   rw [inb_nat q,inb_nat (by omega),cond_true,cond_true,step_wrap q hx,Int.toNat_natCast,getD_of q]
   obtain ⟨h1,h2⟩ := copy_set q hl h
   exact toIntS_loop n hx m (i + 1) _ q h1 h2 (by omega)
  ·rw [decide_eq_false (by omega:¬ (i:Int) < (xs.length:Int)),cond_false]
   rw [copy_done (by omega) hl h]
theorem toNodeS_eq (n:Nat) (hn:4294967296 < n) {xs:List (Int×Int×Int)} (hx:xs.length ≤ 4294967296):laws_toNodeS n xs = some xs := by
 unfold laws_toNodeS
 rw [decide_eq_true (by omega:0 ≤ (xs.length:Int) ∧ (xs.length:Int) ≤ (xs.length:Int) ∧ (xs.length:Int) ≤ 4294967296),cond_true]
 have := toNodeS_loop n hx n 0 (List.replicate ((xs.length:Int)).toNat ((0:Int),((0:Int),(0:Int)))) (Nat.zero_le _) (by simp) (fun j hj => by omega) (by omega)
 rw [show ((0:Nat):Int) = (0:Int) from rfl] at this
 rw [this]; rfl
theorem toIntS_eq (n:Nat) (hn:4294967296 < n) {xs:List Int} (hx:xs.length ≤ 4294967296):laws_toIntS n xs = some xs := by
 unfold laws_toIntS
 rw [decide_eq_true (by omega:0 ≤ (xs.length:Int) ∧ (xs.length:Int) ≤ (xs.length:Int) ∧ (xs.length:Int) ≤ 4294967296),cond_true]
 have := toIntS_loop n hx n 0 (List.replicate ((xs.length:Int)).toNat (0:Int)) (Nat.zero_le _) (by simp) (fun j hj => by omega) (by omega)
 rw [show ((0:Nat):Int) = (0:Int) from rfl] at this
 rw [this]; rfl
theorem toPool_eq (n:Nat) (hn:4294967296 < n) {xs:List (Int×Int×Int)} (hx:xs.length ≤ 4294967296):laws_toPool n xs = some xs := by
 unfold laws_toPool
 rw [toNodeS_eq n hn hx]; rfl
theorem toInst_eq (n:Nat) (hn:4294967296 < n) {a b c d e:Int} {v:List Int} {f g:Bool} {k:Int} (hx:v.length ≤ 4294967296):laws_toInst n (a,b,c,d,e,v,f,g,k) = some (a,b,c,d,e,v,f,g,k) := by
 show ((laws_toIntS n v).bind fun r1 => some (a,b,c,d,e,r1,f,g,k)) = _
 rw [toIntS_eq n hn hx]; rfl
theorem eqNodeS_loop (n:Nat) {xs:List (Int×Int×Int)} (hx:xs.length ≤ 4294967296):∀ (m i:Nat),i ≤ xs.length → xs.length < m + i → laws_eqNodeS_L4 n m (xs,xs,(i:Int)) = some (Sum.inr ())
 | 0,i,hi,hm => by omega
 | m + 1,i,hi,hm => by
  show (cond (decide ((i:Int) < (xs.length:Int))) _ _) = _
  by_cases q:i < xs.length
  ·rw [decide_eq_true (by omega:(i:Int) < (xs.length:Int)),cond_true]
   show (cond (inb (i:Int) xs.length) (cond (inb (i:Int) xs.length) ((laws_eqNode n _).bind fun r1 => (cond (!r1) (some (Sum.inl false)) (laws_eqNodeS_L4 n m (xs,xs,IntKind.i64.wrap ((i:Int) + (1:Int)))))) none) none) = _
   rw [inb_nat q,cond_true,cond_true]
   generalize xs.getD ((i:Int)).toNat ((0:Int),((0:Int),(0:Int))) = p
   have:laws_eqNode n (p.1,p.2.1,p.2.2,p.1,p.2.1,p.2.2) = some true := by simp [laws_eqNode]
   rw [this,step_wrap q hx]
   exact eqNodeS_loop n hx m (i + 1) q (by omega)
  ·rw [decide_eq_false (by omega:¬ (i:Int) < (xs.length:Int)),cond_false]
theorem eqIntS_loop (n:Nat) {xs:List Int} (hx:xs.length ≤ 4294967296):∀ (m i:Nat),i ≤ xs.length → xs.length < m + i → laws_eqIntS_L4 n m (xs,xs,(i:Int)) = some (Sum.inr ())
 | 0,i,hi,hm => by omega
 | m + 1,i,hi,hm => by
  show (cond (decide ((i:Int) < (xs.length:Int))) _ _) = _
  by_cases q:i < xs.length
  ·rw [decide_eq_true (by omega:(i:Int) < (xs.length:Int)),cond_true]
   show (cond (inb (i:Int) xs.length) (cond (inb (i:Int) xs.length) (cond (xs.getD ((i:Int)).toNat (0:Int) != xs.getD ((i:Int)).toNat (0:Int)) (some (Sum.inl false)) (laws_eqIntS_L4 n m (xs,xs,IntKind.i64.wrap ((i:Int) + (1:Int))))) none) none) = _
   rw [inb_nat q,cond_true,cond_true,bne_self_eq_false,cond_false,step_wrap q hx]
   exact eqIntS_loop n hx m (i + 1) q (by omega)
  ·rw [decide_eq_false (by omega:¬ (i:Int) < (xs.length:Int)),cond_false]
theorem eqPool_self (n:Nat) (hn:4294967296 < n) {xs:List (Int×Int×Int)} (hx:xs.length ≤ 4294967296):laws_eqPool n (xs,xs) = some true := by
 unfold laws_eqPool laws_eqNodeS
 have := eqNodeS_loop n hx n 0 (Nat.zero_le _) (by omega)
 rw [show ((0:Nat):Int) = (0:Int) from rfl] at this
 simp only [bne_self_eq_false,cond_false,this]; rfl
theorem eqInst_self (n:Nat) (hn:4294967296 < n) {a b c d e:Int} {v:List Int} {f g:Bool} {k:Int} (hx:v.length ≤ 4294967296):laws_eqInst n (a,b,c,d,e,v,f,g,k,a,b,c,d,e,v,f,g,k) = some true := by
 have h2:laws_eqIntS n (v,v) = some true := by
  unfold laws_eqIntS
  have := eqIntS_loop n hx n 0 (Nat.zero_le _) (by omega)
  rw [show ((0:Nat):Int) = (0:Int) from rfl] at this
  simp only [bne_self_eq_false,cond_false,this]; rfl
 unfold laws_eqInst
 simp only [bne_self_eq_false,cond_false,h2,Option.bind_some,Bool.not_true]
theorem eqv_self:∀ (t:Ty),t.hasSl = false → ∀ x:t.den,t.eqv x x = true
 | .int _,_,x => by simp [Ty.eqv]
 | .bool,_,x => by simp [Ty.eqv]
 | .str,_,x => decide_eq_true rfl
 | .sl _,h,_ => by cases h
 | .pr a b,h,x => by
  have h:(a.hasSl || b.hasSl) = false := h
  rw [Bool.or_eq_false_iff] at h
  show (a.eqv x.1 x.1 && b.eqv x.2 x.2) = true
  rw [eqv_self a h.1,eqv_self b h.2]; rfl
theorem mfind_len {kt:Ty} {k:kt.den} {m:List (kt.den×Int)} {j:Nat} {v:Int} (h:mfind kt k m 0 = some (j,v)):j < m.length := by
 obtain ⟨_,h2⟩ := mfind_spec h
 exact (List.getElem?_eq_some_iff.1 h2).1
theorem mset_set {α:Type} {y:Int} {k:α} {c:Int}:∀ {m:List (α×Int)} {j:Nat},j < m.length → msetG y (m.set j (k,c)) j = m.set j (k,y)
 | [],_,h => by simp at h
 | p :: r,0,_ => rfl
 | p :: r,j + 1,h => by
  show p :: msetG y (r.set j (k,c)) j = p :: r.set j (k,y)
  rw [mset_set (by simpa using h)]
theorem mset_push {α:Type} {y:Int} {k:α} {c:Int}:∀ {m:List (α×Int)},msetG y (m ++ [(k,c)]) m.length = m ++ [(k,y)]
 | [] => rfl
 | p :: r => by
  show p :: msetG y (r ++ [(k,c)]) r.length = p :: (r ++ [(k,y)])
  rw [mset_push]
theorem mset_mput {kt:Ty} {k:kt.den} {c y:Int} {m:List (kt.den×Int)}:mset (mpos kt k m) y (mput kt k c m) = mput kt k y m := by
 unfold mset mpos mput
 cases h:mfind kt k m 0 with
 | some p =>
  obtain ⟨j,v⟩ := p
  dsimp only
  rw [Int.toNat_natCast]
  exact mset_set (mfind_len h)
 | none =>
  dsimp only
  rw [Int.toNat_natCast]
  exact mset_push
theorem mpos_in {kt:Ty} {k:kt.den} {c:Int} {m:List (kt.den×Int)}:inb (mpos kt k m) (mput kt k c m).length = true := by
 unfold mpos mput
 cases h:mfind kt k m 0 with
 | some p =>
  obtain ⟨j,v⟩ := p
  dsimp only
  rw [List.length_set]
  exact inb_nat (mfind_len h)
 | none =>
  dsimp only
  rw [List.length_append]
  exact inb_nat (by simp)
theorem mfind_set_ne {kt:Ty} {k k':kt.den} {x:Int} (hne:kt.eqv k' k = false):∀ {m:List (kt.den×Int)} {i j:Nat} {v:Int},mfind kt k m i = some (j,v) → mfind kt k' (m.set (j - i) (k,x)) i = mfind kt k' m i
 | [],_,_,_,h => by cases h
 | p :: r,i,j,v,h => by
  unfold mfind at h
  cases q:kt.eqv k p.1 with
  | true =>
   rw [q] at h
   obtain ⟨rfl,rfl⟩ := Prod.mk.inj (Option.some.inj h)
   rw [Nat.sub_self,List.set_cons_zero]
   have := eqv_eq kt q
   unfold mfind
   rw [hne, ← this,hne]
   rfl
  | false =>
   rw [q] at h
   have h:mfind kt k r (i + 1) = some (j,v) := h
   obtain ⟨h1,_⟩ := mfind_spec h
   rw [show j - i = (j - (i + 1)) + 1 by omega,List.set_cons_succ]
   unfold mfind
   rw [mfind_set_ne hne h]
theorem mfind_push_ne {kt:Ty} {k k':kt.den} {x:Int} (hne:kt.eqv k' k = false):∀ {m:List (kt.den×Int)} {i:Nat},mfind kt k' (m ++ [(k,x)]) i = mfind kt k' m i
 | [],i => by
  show mfind kt k' [(k,x)] i = _
  unfold mfind
  rw [hne]; rfl
 | p :: r,i => by
  show mfind kt k' (p :: (r ++ [(k,x)])) i = _
  unfold mfind
  rw [mfind_push_ne hne]
theorem mget_mput_ne {kt:Ty} {k k':kt.den} {x:Int} {m:List (kt.den×Int)} (hne:kt.eqv k' k = false):mget kt k' (mput kt k x m) = mget kt k' m := by
 unfold mget mput
 cases h:mfind kt k m 0 with
 | some p =>
  obtain ⟨j,v⟩ := p
  have := mfind_set_ne (x := x) hne h
  rw [Nat.sub_zero] at this
  simp only [this]
 | none => simp only [mfind_push_ne hne]
abbrev Node3 := Int×(Int×Int)
abbrev kN:Ty := .pr (.int .i64) (.pr (.int .i64) (.int .i64))
theorem inRange_eq (n:Nat) (a b c:Int):impl_inRange n (a,b,c) = some (decide (a ≥ b) && decide (a ≤ c)) := by
 unfold impl_inRange
 cases decide (a ≥ b) <;> rfl
theorem in_eq (n:Nat) (a b c:Int):spec_l1In n (a,b,c) = some (decide (a ≥ b) && decide (a ≤ c)) := inRange_eq n a b c
theorem count_some (n:Nat) (x:Int):∃ v,impl_count n x = some v := by
 unfold impl_count
 simp only [cond_eq_ite]
 repeat' split
 all_goals exact ⟨_,rfl⟩
theorem nodeOk_some (n:Nat) (x:Int×Int×Int×Int):∃ v,impl_nodeOk n x = some v := by
 unfold impl_nodeOk
 obtain ⟨v,hv⟩ := count_some n x.1
 rw [hv]
 simp only [Option.bind_some,inRange_eq,cond_eq_ite]
 repeat' split
 all_goals exact ⟨_,rfl⟩
def nodeV (n:Nat) (x:Int×Int×Int×Int):Bool := (impl_nodeOk n x).getD false
theorem nodeOk_eq (n:Nat) (x):impl_nodeOk n x = some (nodeV n x) := by
 obtain ⟨v,hv⟩ := nodeOk_some n x
 unfold nodeV
 rw [hv]; rfl
theorem right_eq (n:Nat) (x):spec_l1Right n x = some (nodeV n x) := nodeOk_eq n x
def okFrom (n:Nat) (pre:List Node3):List Node3 → Bool
 | [] => true
 | k :: r => (!pre.contains k && nodeV n (k.1,k.2.1,k.2.2,(pre.length:Int))) && okFrom n (pre ++ [k]) r
theorem find_loop (n:Nat) {pre r:List Node3} {k:Node3} (hx:(pre ++ k :: r).length ≤ 4294967296):∀ (m j:Nat),j ≤ pre.length → pre.length < m + j →
  ∃ q:Nat,spec_l1Find_L2 n m (pre ++ k :: r,k.1,k.2.1,k.2.2,(j:Int)) = some (Sum.inl (q:Int)) ∧ q ≤ pre.length ∧ (q = pre.length ↔ k ∉ pre.drop j)
 | 0,j,h1,h2 => by omega
 | m + 1,j,h1,h2 => by
  have hlt:j < (pre ++ k :: r).length := by simp; omega
  have e0:spec_l1Find_L2 n (m + 1) (pre ++ k :: r,k.1,k.2.1,k.2.2,(j:Int)) = (cond (decide ((j:Int) < ((pre ++ k :: r).length:Int))) (cond (inb (j:Int) (pre ++ k :: r).length) (cond (((pre ++ k :: r).getD ((j:Int)).toNat ((0:Int),((0:Int),(0:Int)))).1 == k.1 && (((pre ++ k :: r).getD ((j:Int)).toNat ((0:Int),((0:Int),(0:Int)))).2.1 == k.2.1 && (((pre ++ k :: r).getD ((j:Int)).toNat ((0:Int),((0:Int),(0:Int)))).2.2 == k.2.2 && true))) (some (Sum.inl (j:Int))) (spec_l1Find_L2 n m (pre ++ k :: r,k.1,k.2.1,k.2.2,IntKind.i64.wrap ((j:Int) + (1:Int))))) none) (some (Sum.inr ()))) := rfl
  rw [e0,decide_eq_true (by omega:(j:Int) < ((pre ++ k :: r).length:Int)),cond_true,inb_nat hlt,cond_true,Int.toNat_natCast,getD_of hlt]
  have heq:∀ p:Node3,(p.1 == k.1 && (p.2.1 == k.2.1 && (p.2.2 == k.2.2 && true))) = decide (p = k) := by
   intro p
   obtain ⟨p1,p2,p3⟩ := p
   obtain ⟨k1,k2,k3⟩ := k
   rw [Bool.eq_iff_iff]
   simp
  rw [heq]
  rcases Nat.lt_or_ge j pre.length with q | q
  ·have hg:(pre ++ k :: r)[j] = pre[j] := List.getElem_append_left q
   rw [hg]
   have hd:pre.drop j = pre[j] :: pre.drop (j + 1) := List.drop_eq_getElem_cons q
   by_cases hk:pre[j] = k
   ·rw [decide_eq_true hk,cond_true]
    exact ⟨j,rfl,by omega,by rw [hd,hk]; simp; omega⟩
   ·rw [decide_eq_false hk,cond_false,step_wrap hlt hx]
    obtain ⟨z,g1,g2,g3⟩ := find_loop n hx m (j + 1) q (by omega)
    refine ⟨z,g1,g2,g3.trans ?_⟩
    rw [hd,List.mem_cons]
    constructor
    ·intro h h2
     rcases h2 with h2 | h2
     ·exact hk h2.symm
     ·exact h h2
    ·exact fun h h2 => h (.inr h2)
  ·have hj:j = pre.length := by omega
   subst hj
   rw [show (pre ++ k :: r)[pre.length] = k by simp,decide_eq_true rfl,cond_true]
   exact ⟨pre.length,rfl,Nat.le_refl _,by simp⟩
theorem find_eq (n:Nat) (hn:4294967296 < n) {pre r:List Node3} {k:Node3} (hx:(pre ++ k :: r).length ≤ 4294967296):∃ q:Int,spec_l1Find n (pre ++ k :: r,k.1,k.2.1,k.2.2) = some q ∧ (q != (pre.length:Int)) = pre.contains k := by
  have hlen : pre.length < n := by have : pre.length ≤ (pre ++ k :: r).length := by simp
                                   omega
  obtain ⟨z,g1,g2,g3⟩ := find_loop n hx n 0 (Nat.zero_le _) (by omega)
  refine ⟨(z:Int), ?_, ?_⟩
  · show ((spec_l1Find_L2 n n (pre ++ k :: r,k.1,k.2.1,k.2.2,((0:Nat):Int))).bind _) = _
    rw [g1]; rfl
  · rw [List.drop_zero] at g3
    rw [Bool.eq_iff_iff]
    simp only [bne_iff_ne,ne_eq,List.contains_iff_mem]
    constructor
    · intro h
      exact Classical.byContradiction fun h2 => h (by rw [g3.2 h2])
    · intro h h2
      exact (g3.1 (by omega)) h
theorem specPool_loop (n:Nat) (hn:4294967296 < n):∀ (m:Nat) (pre r:List Node3),(pre ++ r).length ≤ 4294967296 → r.length < m → spec_PoolOk_L4 n m (pre ++ r,(pre.length:Int)) = some (bif okFrom n pre r then Sum.inr () else Sum.inl false)
 | 0,pre,r,hx,hm => by omega
 | m + 1,pre,[],hx,hm => by
  show (cond (decide ((pre.length:Int) < ((pre ++ []).length:Int))) _ _) = _
  rw [decide_eq_false (by simp),cond_false]; rfl
 | m + 1,pre,k :: r,hx,hm => by
  have hlt:pre.length < (pre ++ k :: r).length := by simp
  have e0:spec_PoolOk_L4 n (m + 1) (pre ++ k :: r,(pre.length:Int)) = (cond (decide ((pre.length:Int) < ((pre ++ k :: r).length:Int))) (cond (inb (pre.length:Int) (pre ++ k :: r).length) ((spec_l1Right n (((pre ++ k :: r).getD ((pre.length:Int)).toNat ((0:Int),((0:Int),(0:Int)))).1,((pre ++ k :: r).getD ((pre.length:Int)).toNat ((0:Int),((0:Int),(0:Int)))).2.1,((pre ++ k :: r).getD ((pre.length:Int)).toNat ((0:Int),((0:Int),(0:Int)))).2.2,(pre.length:Int))).bind fun r1 => (cond (!r1) (some (Sum.inl false)) (cond (inb (pre.length:Int) (pre ++ k :: r).length) ((spec_l1Find n (pre ++ k :: r,((pre ++ k :: r).getD ((pre.length:Int)).toNat ((0:Int),((0:Int),(0:Int)))).1,((pre ++ k :: r).getD ((pre.length:Int)).toNat ((0:Int),((0:Int),(0:Int)))).2.1,((pre ++ k :: r).getD ((pre.length:Int)).toNat ((0:Int),((0:Int),(0:Int)))).2.2)).bind fun r2 => (cond (r2 != (pre.length:Int)) (some (Sum.inl false)) (spec_PoolOk_L4 n m (pre ++ k :: r,IntKind.i64.wrap ((pre.length:Int) + (1:Int)))))) none))) none) (some (Sum.inr ()))) := rfl
  obtain ⟨q,g1,g2⟩ := find_eq n hn (pre := pre) (r := r) (k := k) hx
  rw [e0,decide_eq_true (by omega:(pre.length:Int) < ((pre ++ k :: r).length:Int)),cond_true,inb_nat hlt,cond_true,Int.toNat_natCast,getD_of hlt,show (pre ++ k :: r)[pre.length] = k by simp,right_eq,g1]
  simp only [Option.bind_some,cond_true]
  rw [g2,step_wrap hlt hx]
  have ih := specPool_loop n hn m (pre ++ [k]) r (by simpa using hx) (by simp at hm; omega)
  rw [show pre ++ [k] ++ r = pre ++ k :: r by simp,show (pre ++ [k]).length = pre.length + 1 by simp] at ih
  rw [ih]
  rw [show okFrom n pre (k :: r) = ((!pre.contains k && nodeV n (k.1,k.2.1,k.2.2,(pre.length:Int))) && okFrom n (pre ++ [k]) r) from rfl]
  cases nodeV n (k.1,k.2.1,k.2.2,(pre.length:Int)) <;> cases pre.contains k <;> cases okFrom n (pre ++ [k]) r <;> rfl
theorem specPool_eq (n:Nat) (hn:4294967296 < n) {xs:List Node3} (hx:xs.length ≤ 4294967296):spec_PoolOk n xs = some (decide (xs.length ≤ 500) && okFrom n [] xs) := by
 unfold spec_PoolOk
 by_cases q:xs.length ≤ 500
 ·rw [decide_eq_false (by omega:¬ (xs.length:Int) > (500:Int)),cond_false,decide_eq_true q,Bool.true_and]
  have := specPool_loop n hn n [] xs (by simpa using hx) (by omega)
  rw [List.nil_append,show (([]:List Node3).length:Int) = (0:Int) from rfl] at this
  rw [this]
  cases okFrom n [] xs <;> rfl
 ·rw [decide_eq_true (by omega:(xs.length:Int) > (500:Int)),cond_true,decide_eq_false q]; rfl
def Cnt (kvs:List (Node3×Int)) (pre:List Node3):Prop := ∀ k:Node3,mget kN k kvs = if k ∈ pre then 1 else 0
theorem eqv_N {a b:Node3}:kN.eqv a b = decide (a = b) := by
 rw [Bool.eq_iff_iff,decide_eq_true_iff]
 exact ⟨eqv_eq kN,fun h => h ▸ eqv_self kN rfl a⟩
theorem region_eq (n:Nat) (kvs:List (Node3×Int)) (i a b c:Int) (xs:List Node3) (l j:Int):impl_PoolOk_R7 n (kvs,i,a,b,c,xs,l,j) = some (mput kN (a,b,c) (IntKind.i64.wrap (mget kN (a,b,c) kvs + (1:Int))) kvs,i,a,b,c,xs,l,j) := by
 unfold impl_PoolOk_R7
 rw [mpos_in,cond_true,mset_mput]
theorem implPool_loop (n:Nat) {xs:List Node3} (hx:xs.length ≤ 4294967296):∀ (m:Nat) (pre r:List Node3) (kvs:List (Node3×Int)),xs = pre ++ r → Cnt kvs pre → r.length < m → impl_PoolOk_L5 n m (kvs,xs,(xs.length:Int),(pre.length:Int)) = some (bif okFrom n pre r then Sum.inr () else Sum.inl false)
 | 0,pre,r,kvs,he,hc,hm => by omega
 | m + 1,pre,[],kvs,he,hc,hm => by
  show (cond (decide ((pre.length:Int) < (xs.length:Int))) _ _) = _
  rw [decide_eq_false (by rw [he]; simp),cond_false]; rfl
 | m + 1,pre,k :: r,kvs,he,hc,hm => by
  have hlt:pre.length < xs.length := by rw [he]; simp
  have hk:xs[pre.length] = k := by simp [he]
  have e0:impl_PoolOk_L5 n (m + 1) (kvs,xs,(xs.length:Int),(pre.length:Int)) = (cond (decide ((pre.length:Int) < (xs.length:Int))) (cond (inb (pre.length:Int) xs.length) ((impl_PoolOk_R7 n (kvs,(pre.length:Int),(xs.getD ((pre.length:Int)).toNat ((0:Int),((0:Int),(0:Int)))).1,(xs.getD ((pre.length:Int)).toNat ((0:Int),((0:Int),(0:Int)))).2.1,(xs.getD ((pre.length:Int)).toNat ((0:Int),((0:Int),(0:Int)))).2.2,xs,(xs.length:Int),(pre.length:Int))).bind fun g1 => (cond (decide ((mget kN (g1.2.2.1,(g1.2.2.2.1,g1.2.2.2.2.1)) g1.1) > (1:Int))) (some (Sum.inl false)) ((impl_nodeOk n (g1.2.2.1,g1.2.2.2.1,g1.2.2.2.2.1,g1.2.1)).bind fun r2 => (cond (!r2) (some (Sum.inl false)) (impl_PoolOk_L5 n m (g1.1,g1.2.2.2.2.2.1,g1.2.2.2.2.2.2.1,(IntKind.i64.wrap (g1.2.2.2.2.2.2.2 + (1:Int))))))))) none) (some (Sum.inr ()))) := rfl
  rw [e0,decide_eq_true (by omega:(pre.length:Int) < (xs.length:Int)),cond_true,inb_nat hlt,cond_true,Int.toNat_natCast,getD_of hlt,hk,region_eq]
  simp only [Option.bind_some]
  have hself:kN.eqv (k.1,k.2.1,k.2.2) (k.1,k.2.1,k.2.2) = true := eqv_self kN rfl _
  have hke:((k.1,k.2.1,k.2.2):Node3) = k := rfl
  rw [mget_mput hself,nodeOk_eq,step_wrap hlt hx]
  rw [show okFrom n pre (k :: r) = ((!pre.contains k && nodeV n (k.1,k.2.1,k.2.2,(pre.length:Int))) && okFrom n (pre ++ [k]) r) from rfl]
  have hck := hc k
  by_cases hin:k ∈ pre
  ·rw [if_pos hin] at hck
   have:pre.contains k = true := by simpa using hin
   rw [this,show mget kN (k.1,k.2.1,k.2.2) kvs = 1 from hck]
   rfl
  ·rw [if_neg hin] at hck
   have hcf:pre.contains k = false := by simpa using hin
   rw [hcf,show mget kN (k.1,k.2.1,k.2.2) kvs = 0 from hck]
   rw [show decide (IntKind.i64.wrap ((0:Int) + (1:Int)) > (1:Int)) = false from rfl,cond_false]
   have ih := implPool_loop n hx m (pre ++ [k]) r (mput kN k (IntKind.i64.wrap ((0:Int) + (1:Int))) kvs) (by simpa using he) (by
    intro k'
    by_cases q:k' = k
    ·subst q
     rw [mget_mput (eqv_self kN rfl k')]
     simp; rfl
    ·rw [mget_mput_ne (by rw [eqv_N]; exact decide_eq_false q),hc k']
     simp [q]) (by simp at hm; omega)
   rw [show (pre ++ [k]).length = pre.length + 1 by simp] at ih
   simp only [Option.bind_some]
   rw [show mput kN (k.1,k.2.1,k.2.2) (IntKind.i64.wrap ((0:Int) + (1:Int))) kvs = mput kN k (IntKind.i64.wrap ((0:Int) + (1:Int))) kvs from rfl,ih]
   cases nodeV n (k.1,k.2.1,k.2.2,(pre.length:Int)) <;> cases okFrom n (pre ++ [k]) r <;> rfl
theorem implPool_eq (n:Nat) (hn:4294967296 < n) {xs:List Node3} (hx:xs.length ≤ 4294967296):impl_PoolOk n xs = some (decide (xs.length ≤ 500) && okFrom n [] xs) := by
 unfold impl_PoolOk
 by_cases q:xs.length ≤ 500
 ·rw [decide_eq_false (by omega:¬ (xs.length:Int) > (500:Int)),cond_false,decide_eq_true q,Bool.true_and]
  have := implPool_loop n hx n [] xs [] rfl (fun k => by simp [mget,mfind]) (by omega)
  rw [show (([]:List Node3).length:Int) = (0:Int) from rfl] at this
  rw [this]
  cases okFrom n [] xs <;> rfl
 ·rw [decide_eq_true (by omega:(xs.length:Int) > (500:Int)),cond_true,decide_eq_false q]; rfl
def hasB (xs:List Node3) (v:Int):Bool := decide (v ≥ 0) && decide (v ≤ (xs.length:Int) - 1)
theorem has_eq (n:Nat) {xs:List Node3} (hx:xs.length ≤ 4294967296) (v:Int):spec_l1Has n (xs,v) = some (hasB xs v) := by
 show ((spec_l1In n (v,(0:Int),IntKind.i64.wrap ((xs.length:Int) - (1:Int)))).bind fun r1 => some r1) = _
 rw [wrap_ok (by omega) (by omega),in_eq]; rfl
theorem isTerm_eq (n:Nat) {xs:List Node3} (hx:xs.length ≤ 4294967296) (v:Int):impl_Pool_isTerm n (xs,v) = some (xs,hasB xs v) := by
 show ((impl_inRange n (v,(0:Int),IntKind.i64.wrap ((xs.length:Int) - (1:Int)))).bind fun r1 => some (xs,r1)) = _
 rw [wrap_ok (by omega) (by omega),inRange_eq]; rfl
def envB (xs:List Node3):List Int → Bool
 | [] => true
 | v :: r => (v == -1 || hasB xs v) && envB xs r
theorem implEnv_loop (n:Nat) {xs:List Node3} (hx:xs.length ≤ 4294967296) {env:List Int} (he:env.length ≤ 4294967296):∀ (m:Nat) (pre r:List Int),env = pre ++ r → r.length < m →
  impl_EnvOk_L2 n m (env,xs,env,(env.length:Int),(pre.length:Int)) = some (bif envB xs r then Sum.inr (env,xs) else Sum.inl false)
 | 0,pre,r,h,hm => by omega
 | m + 1,pre,[],h,hm => by
  show (cond (decide ((pre.length:Int) < (env.length:Int))) _ _) = _
  rw [decide_eq_false (by rw [h]; simp),cond_false]; rfl
 | m + 1,pre,v :: r,h,hm => by
  have hlt:pre.length < env.length := by rw [h]; simp
  have hk:env[pre.length] = v := by simp [h]
  have e0:impl_EnvOk_L2 n (m + 1) (env,xs,env,(env.length:Int),(pre.length:Int)) = (cond (decide ((pre.length:Int) < (env.length:Int))) (cond (inb (pre.length:Int) env.length) (cond ((env.getD ((pre.length:Int)).toNat (0:Int)) != (-1:Int)) ((impl_Pool_isTerm n (xs,(env.getD ((pre.length:Int)).toNat (0:Int)))).bind fun r1 => (cond (!r1.2) (some (Sum.inl false)) (impl_EnvOk_L2 n m (env,r1.1,env,(env.length:Int),(IntKind.i64.wrap ((pre.length:Int) + (1:Int))))))) (impl_EnvOk_L2 n m (env,xs,env,(env.length:Int),(IntKind.i64.wrap ((pre.length:Int) + (1:Int)))))) none) (some (Sum.inr (env,xs)))) := rfl
  rw [e0,decide_eq_true (by omega:(pre.length:Int) < (env.length:Int)),cond_true,inb_nat hlt,cond_true,Int.toNat_natCast,getD_of hlt,hk,step_wrap hlt he,isTerm_eq n hx]
  have ih := implEnv_loop n hx he m (pre ++ [v]) r (by simpa using h) (by simp at hm; omega)
  rw [show (pre ++ [v]).length = pre.length + 1 by simp] at ih
  simp only [Option.bind_some,ih]
  rw [show envB xs (v :: r) = ((v == -1 || hasB xs v) && envB xs r) from rfl,show (v != -1) = !(v == -1) from rfl]
  cases v == -1 <;> cases hasB xs v <;> cases envB xs r <;> rfl
theorem implEnv_eq (n:Nat) (hn:4294967296 < n) {xs:List Node3} (hx:xs.length ≤ 4294967296) {env:List Int} (he:env.length ≤ 4294967296) :
  impl_EnvOk n (xs,env) = some (envB xs env && (decide (env.length = 26) && (decide (xs.length ≤ 500) && okFrom n [] xs))) := by
 have := implEnv_loop n hx he n [] env rfl (by omega)
 rw [show (([]:List Int).length:Int) = (0:Int) from rfl] at this
 show ((impl_EnvOk_L2 n n (env,xs,env,(env.length:Int),(0:Int))).bind _) = _
 rw [this]
 cases envB xs env with
 | false => rfl
 | true =>
  show (cond ((env.length:Int) == (26:Int)) ((impl_PoolOk n xs).bind fun r5 => some r5) (some false)) = _
  rw [implPool_eq n hn hx]
  by_cases q:env.length = 26
  ·rw [show ((env.length:Int) == (26:Int)) = true by rw [q]; rfl,decide_eq_true q]; rfl
  ·rw [show ((env.length:Int) == (26:Int)) = false by simp; omega,decide_eq_false q]; rfl
theorem specEnv_loop (n:Nat) {xs:List Node3} (hx:xs.length ≤ 4294967296) {env:List Int} (he:env.length = 26):∀ (m:Nat) (pre r:List Int),env = pre ++ r → r.length < m →
  spec_l11Env_L4 n m (env,xs,(pre.length:Int)) = some (bif envB xs r then Sum.inr () else Sum.inl false)
 | 0,pre,r,h,hm => by omega
 | m + 1,pre,[],h,hm => by
  show (cond (decide ((pre.length:Int) < (26:Int))) _ _) = _
  have:pre.length = 26 := by rw [h] at he; simpa using he
  rw [decide_eq_false (by omega),cond_false]; rfl
 | m + 1,pre,v :: r,h,hm => by
  have hlt:pre.length < env.length := by rw [h]; simp
  have hk:env[pre.length] = v := by simp [h]
  have e0:spec_l11Env_L4 n (m + 1) (env,xs,(pre.length:Int)) = (cond (decide ((pre.length:Int) < (26:Int))) (cond (inb (pre.length:Int) env.length) (cond ((env.getD ((pre.length:Int)).toNat (0:Int)) != (-1:Int)) (cond (inb (pre.length:Int) env.length) ((spec_l1Has n (xs,(env.getD ((pre.length:Int)).toNat (0:Int)))).bind fun r1 => (cond (!r1) (some (Sum.inl false)) (spec_l11Env_L4 n m (env,xs,(IntKind.i64.wrap ((pre.length:Int) + (1:Int))))))) none) (spec_l11Env_L4 n m (env,xs,(IntKind.i64.wrap ((pre.length:Int) + (1:Int)))))) none) (some (Sum.inr ()))) := rfl
  rw [e0,decide_eq_true (by omega:(pre.length:Int) < (26:Int)),cond_true,inb_nat hlt,cond_true,cond_true,Int.toNat_natCast,getD_of hlt,hk,step_wrap hlt (by omega),has_eq n hx]
  have ih := specEnv_loop n hx he m (pre ++ [v]) r (by simpa using h) (by simp at hm; omega)
  rw [show (pre ++ [v]).length = pre.length + 1 by simp] at ih
  simp only [Option.bind_some,ih]
  rw [show envB xs (v :: r) = ((v == -1 || hasB xs v) && envB xs r) from rfl,show (v != -1) = !(v == -1) from rfl]
  cases v == -1 <;> cases hasB xs v <;> cases envB xs r <;> rfl
theorem specEnv_eq (n:Nat) (hn:4294967296 < n) {xs:List Node3} (hx:xs.length ≤ 4294967296) {env:List Int}:spec_l11Env n (xs,env) = some (decide (env.length = 26) && envB xs env) := by
 show (cond ((env.length:Int) != (26:Int)) (some false) ((spec_l11Env_L4 n n (env,xs,(0:Int))).bind _)) = _
 by_cases q:env.length = 26
 ·have := specEnv_loop n hx q n [] env rfl (by omega)
  rw [show (([]:List Int).length:Int) = (0:Int) from rfl] at this
  rw [show ((env.length:Int) != (26:Int)) = false by rw [q]; rfl,cond_false,this,decide_eq_true q]
  cases envB xs env <;> rfl
 ·rw [show ((env.length:Int) != (26:Int)) = true by simp; omega,decide_eq_false q]; rfl
theorem role_of {w p:Int} {L:Nat} (h1:(impl_roleOf N0 (w,p)).map (fun r => (r.1.length,r.2)) = some (L,true)) (h2:(spec_l12Acts N0 (w,p)).map List.length = some L) (h3:spec_l13Role N0 (w,p) = some true) (h4:L ≤ 20) :
  ∃ a b,impl_roleOf N0 (w,p) = some (a,true) ∧ spec_l12Acts N0 (w,p) = some b ∧ a.length = b.length ∧ a.length ≤ 20 ∧ spec_l13Role N0 (w,p) = some true := by
 cases e1:impl_roleOf N0 (w,p) with
 | none => rw [e1] at h1; cases h1
 | some r =>
  cases e2:spec_l12Acts N0 (w,p) with
  | none => rw [e2] at h2; cases h2
  | some b =>
   rw [e1] at h1
   rw [e2] at h2
   obtain ⟨g1,g2⟩ := Prod.mk.inj (Option.some.inj h1)
   have g3:b.length = L := Option.some.inj h2
   obtain ⟨a,t⟩ := r
   have g2:t = true := g2
   subst g2
   exact ⟨a,b,rfl,rfl,by rw [g3]; exact g1,by have:a.length = L := g1; omega,h3⟩
theorem role_in (w p:Int) (hw:w = 1 ∨ w = 2 ∨ w = 3) (hp:p = 0 ∨ p = 1):∃ a b,impl_roleOf N0 (w,p) = some (a,true) ∧ spec_l12Acts N0 (w,p) = some b ∧ a.length = b.length ∧ a.length ≤ 20 ∧ spec_l13Role N0 (w,p) = some true := by
 rcases hw with rfl | rfl | rfl <;> rcases hp with rfl | rfl
 all_goals exact role_of (L := 5) (by kernel_rfl) (by kernel_rfl) (by kernel_rfl) (by omega)
theorem role_out (w p:Int) (h:¬ ((w = 1 ∨ w = 2 ∨ w = 3) ∧ (p = 0 ∨ p = 1))):impl_roleOf N0 (w,p) = some ([],false) ∧ spec_l13Role N0 (w,p) = some false := by
 constructor
 ·have e1:impl_RoleText N0 (w,p) = some (⟨#[]⟩:ByteArray) := by
   unfold impl_RoleText
   simp only [inRange_eq,Option.bind_some]
   by_cases h1:decide (w ≥ 1) && decide (w ≤ 3)
   ·rw [h1]
    have h2:(decide (p ≥ 0) && decide (p ≤ 1)) = false := by
     rw [Bool.eq_false_iff]
     intro h2
     simp at h1 h2
     omega
    rw [h2]; rfl
   ·rw [Bool.not_eq_true] at h1
    rw [h1]; rfl
  show ((impl_RoleText N0 (w,p)).bind _) = _
  rw [e1]
  show ((impl_RoleParse N0 (⟨#[]⟩:ByteArray)).bind fun r2 => some (r2.1,r2.2)) = _
  rw [show impl_RoleParse N0 (⟨#[]⟩:ByteArray) = some ([],false) by kernel_rfl]; rfl
 ·have e1:spec_RoleText N0 (w,p) = some (⟨#[]⟩:ByteArray) := by
   unfold spec_RoleText
   have q:∀ a b:Int,(w == a) = decide (w = a) := fun a b => rfl
   by_cases w1:w = 1
   ·subst w1
    have p0:(p == 0) = false := by simp; omega
    have p1:(p == 1) = false := by simp; omega
    simp only [p0,p1]; rfl
   ·by_cases w2:w = 2
    ·subst w2
     have p0:(p == 0) = false := by simp; omega
     have p1:(p == 1) = false := by simp; omega
     simp only [p0,p1]; rfl
    ·by_cases w3:w = 3
     ·subst w3
      have p0:(p == 0) = false := by simp; omega
      have p1:(p == 1) = false := by simp; omega
      simp only [p0,p1]; rfl
     ·have e1:(w == 1) = false := by simpa using w1
      have e2:(w == 2) = false := by simpa using w2
      have e3:(w == 3) = false := by simpa using w3
      simp only [e1,e2,e3]; rfl
  show ((spec_RoleText N0 (w,p)).bind fun r1 => some (!strEq r1 (⟨#[]⟩:ByteArray))) = _
  rw [e1]
  show some (!strEq (⟨#[]⟩:ByteArray) (⟨#[]⟩:ByteArray)) = _
  rw [show strEq (⟨#[]⟩:ByteArray) (⟨#[]⟩:ByteArray) = true from decide_eq_true rfl]; rfl
theorem agent_eq (n:Nat) (x:Int):impl_isAgent n x = some (decide (x ≥ 0) && decide (x ≤ 4)) := by
 show ((impl_inRange n (x,(0:Int),(4:Int))).bind fun r => some r) = _
 rw [inRange_eq]; rfl
theorem agent2_eq (n:Nat) (x:Int):spec_l2Agent n x = some (decide (x ≥ 0) && decide (x ≤ 4)) := agent_eq n x
theorem n0:4294967296 < N0 := by decide
def instS (n:Nat) (x:List Node3×Int×Int×Int×Int×Int×List Int×Bool×Bool×Int):Option Bool := (spec_PoolOk n x.1).bind fun r1 => (cond r1 ((spec_l13Inst n (x.1,x.2.1,x.2.2.1,x.2.2.2.1,x.2.2.2.2.1,x.2.2.2.2.2.1,x.2.2.2.2.2.2.1,x.2.2.2.2.2.2.2.1,x.2.2.2.2.2.2.2.2.1,x.2.2.2.2.2.2.2.2.2)).bind fun r2 => (some r2)) (some false))
theorem inst_sameS {xs:List Node3} (hx:xs.length ≤ 4294967296) {w p a b at_:Int} {env:List Int} (he:env.length ≤ 4294967296) {dn dd:Bool} {key:Int} :
  ∃ v,impl_InstOk N0 (xs,w,p,a,b,at_,env,dn,dd,key) = some v ∧ instS N0 (xs,w,p,a,b,at_,env,dn,dd,key) = some v := by
 unfold impl_InstOk instS spec_l13Inst
 simp only [specPool_eq N0 n0 hx,implEnv_eq N0 n0 hx he,specEnv_eq N0 n0 hx,agent_eq,agent2_eq,Option.bind_some]
 by_cases hr:(w = 1 ∨ w = 2 ∨ w = 3) ∧ (p = 0 ∨ p = 1)
 ·obtain ⟨ra,rb,r1,r2,r3,r4,r5⟩ := role_in w p hr.1 hr.2
  rw [r1,r2,r5]
  simp only [Option.bind_some,inRange_eq,in_eq,isTerm_eq N0 hx,has_eq N0 hx, ← r3,wrap_ok (show -9223372036854775808 ≤ (ra.length:Int) - 1 by omega) (show (ra.length:Int) - 1 ≤ 9223372036854775807 by omega)]
  generalize (decide (a ≥ 0) && decide (a ≤ 4)) = A
  generalize (decide (b ≥ 0) && decide (b ≤ 4)) = B
  generalize (a == b) = C
  generalize envB xs env = D
  generalize decide (env.length = 26) = F
  generalize (decide (xs.length ≤ 500) && okFrom N0 [] xs) = G
  generalize hasB xs key = H
  generalize (key == -1) = K
  have hq:(at_ == (ra.length:Int)) = true → (decide (at_ ≥ 0) && decide (at_ ≤ (ra.length:Int))) = true := by
   intro h
   have:at_ = (ra.length:Int) := by simpa using h
   simp; omega
  have hq2:(at_ == (ra.length:Int)) = false → (decide (at_ ≥ 0) && decide (at_ ≤ (ra.length:Int) - 1)) = (decide (at_ ≥ 0) && decide (at_ ≤ (ra.length:Int))) := by
   intro h
   have:at_ ≠ (ra.length:Int) := by simpa using h
   congr 1
   rw [Bool.eq_iff_iff]; simp; omega
  have hq3:(at_ == (ra.length:Int)) = true → (decide (at_ ≥ 0) && decide (at_ ≤ (ra.length:Int) - 1)) = false := by
   intro h
   have:at_ = (ra.length:Int) := by simpa using h
   rw [Bool.and_eq_false_iff]; right; simp; omega
  revert hq hq2 hq3
  generalize (at_ == (ra.length:Int)) = M
  generalize (decide (at_ ≥ 0) && decide (at_ ≤ (ra.length:Int))) = R
  generalize (decide (at_ ≥ 0) && decide (at_ ≤ (ra.length:Int) - 1)) = R2
  intro hq hq2 hq3
  cases M
  ·have := hq2 rfl
   subst this
   refine ⟨A && (B && (!C && (D && (F && (G && (R2 && (!dn && K))))))), ?_, ?_⟩ <;> clear hq hq2 hq3 <;> revert A B C D F G H K R2 dn dd <;> decide
  ·have h1 := hq rfl
   have h2 := hq3 rfl
   subst h1; subst h2
   refine ⟨A && (B && (!C && (D && (F && (G && (dn && (!dd && H))))))), ?_, ?_⟩ <;> clear hq hq2 hq3 <;> revert A B C D F G H K dn dd <;> decide
 ·obtain ⟨r1,r2⟩ := role_out w p hr
  rw [r1,r2]
  refine ⟨false,rfl, ?_⟩
  cases (decide (xs.length ≤ 500) && okFrom N0 [] xs) <;> rfl
theorem szPool_eq (n:Nat) {xs:List Node3} (hx:xs.length ≤ 9223372036854775807):laws_szPool n (xs,(1048576:Int)) = some (if xs.length ≤ 1048576 then (1048576:Int) - (xs.length:Int) else -1) := by
 unfold laws_szPool laws_szNodeS
 simp only [wrap_ok (show -9223372036854775808 ≤ (1048576:Int) - (xs.length:Int) by omega) (show (1048576:Int) - (xs.length:Int) ≤ 9223372036854775807 by omega)]
 by_cases q:xs.length ≤ 1048576
 ·rw [if_pos q,decide_eq_false (by omega:¬ (1048576:Int) - (xs.length:Int) < (0:Int))]
  simp only [cond_false,Option.bind_some]
  rw [decide_eq_false (by omega:¬ (1048576:Int) - (xs.length:Int) < (0:Int))]; rfl
 ·rw [if_neg q,decide_eq_true (by omega:(1048576:Int) - (xs.length:Int) < (0:Int))]; rfl
theorem szInst_eq (n:Nat) {w p a b at_:Int} {env:List Int} {dn dd:Bool} {key r:Int} (hr:0 ≤ r ∧ r ≤ 1048576) (he:env.length ≤ 9223372036854775807):laws_szInst n (w,p,a,b,at_,env,dn,dd,key,r) = some (if (env.length:Int) ≤ r then r - (env.length:Int) else -1) := by
 unfold laws_szInst laws_szIntS
 simp only [wrap_ok (show -9223372036854775808 ≤ r - (env.length:Int) by omega) (show r - (env.length:Int) ≤ 9223372036854775807 by omega)]
 by_cases q:(env.length:Int) ≤ r
 ·rw [if_pos q,decide_eq_false (by omega:¬ r - (env.length:Int) < (0:Int))]
  simp only [cond_false,Option.bind_some]
  rw [decide_eq_false (by omega:¬ r - (env.length:Int) < (0:Int))]; rfl
 ·rw [if_neg q,decide_eq_true (by omega:r - (env.length:Int) < (0:Int))]; rfl
theorem maxLen_eq:maxLen = 9223372036854775807 := by decide
def allN (g:Nat → Bool):Nat → Nat → Bool
 | _,0 => true
 | i,k + 1 => g i && allN g (i + 1) k
theorem allN_iff {g:Nat → Bool}:∀ {k i:Nat},allN g i k = true ↔ ∀ j,i ≤ j → j < i + k → g j = true
 | 0,i => ⟨fun _ j h1 h2 => by omega,fun _ => rfl⟩
 | k + 1,i => by
  show (g i && allN g (i + 1) k) = true ↔ _
  rw [Bool.and_eq_true,allN_iff]
  constructor
  ·rintro ⟨h1,h2⟩ j g1 g2
   rcases Nat.eq_or_lt_of_le g1 with q | q
   ·subst q; exact h1
   ·exact h2 j q (by omega)
  ·exact fun h => ⟨h i (Nat.le_refl _) (by omega),fun j g1 g2 => h j (by omega) (by omega)⟩
theorem nodup_len {α:Type} [DecidableEq α]:∀ {l m:List α},l.Nodup → (∀ x ∈ l,x ∈ m) → l.length ≤ m.length
 | [],m,_,_ => Nat.zero_le _
 | a :: l,m,hn,hs => by
  have ha := hs a (List.mem_cons_self ..)
  have hn' := List.nodup_cons.1 hn
  have := nodup_len (l := l) (m := m.erase a) hn'.2 (fun x hx => (List.mem_erase_of_ne (fun (e:x = a) => hn'.1 (e ▸ hx))).2 (hs x (List.mem_cons_of_mem _ hx)))
  rw [List.length_erase_of_mem ha] at this
  have:0 < m.length := List.length_pos_of_mem ha
  simp; omega
theorem nodup_full {α:Type} [DecidableEq α] {l m:List α} (hl:l.Nodup) (hm:m.Nodup) (hs:∀ x ∈ l,x ∈ m):(∀ x ∈ m,x ∈ l) ↔ l.length = m.length := by
 constructor
 ·exact fun h => Nat.le_antisymm (nodup_len hl hs) (nodup_len hm h)
 ·intro h x hx
  exact Classical.byContradiction fun hn => by
   have := nodup_len (l := x :: l) (m := m) (List.nodup_cons.2 ⟨hn,hl⟩) (fun y hy => by
    rcases List.mem_cons.1 hy with q | q
    ·exact q ▸ hx
    ·exact hs y q)
   simp at this; omega
def places (d:Nat → Bool) (n:Nat):List Nat := (List.range n).filter d
theorem places_nodup (d:Nat → Bool) (n:Nat):(places d n).Nodup := List.nodup_range.filter _
theorem mem_places {d:Nat → Bool} {n i:Nat}:i ∈ places d n ↔ i < n ∧ d i = true := by
 unfold places
 rw [List.mem_filter,List.mem_range]
theorem places_succ (d:Nat → Bool) (n:Nat):(places d (n + 1)).length = (places d n).length + (bif d n then 1 else 0) := by
 unfold places
 rw [List.range_succ,List.filter_append,List.length_append]
 cases h:d n <;> simp [h]
theorem log_full (done:Nat → Bool) (n:Nat) (L:List Int) (hnd:L.Nodup) (hin:∀ k ∈ L, ∃ i:Nat,k = (i:Int) ∧ i < n ∧ done i = true):(∀ i:Nat,i < n → done i = true → (i:Int) ∈ L) ↔ L.length = (places done n).length := by
 have hm:((places done n).map Int.ofNat).Nodup := List.pairwise_map.2 ((places_nodup done n).imp fun hne e => hne (Int.ofNat.inj e))
 have := nodup_full hnd hm (fun k hk => by
  obtain ⟨i,rfl,h1,h2⟩ := hin k hk
  exact List.mem_map.2 ⟨i,mem_places.2 ⟨h1,h2⟩,rfl⟩)
 rw [List.length_map] at this
 rw [← this]
 constructor
 ·intro h x hx
  obtain ⟨i,hi,rfl⟩ := List.mem_map.1 hx
  have := mem_places.1 hi
  exact h i this.1 this.2
 ·intro h i h1 h2
  exact h _ (List.mem_map.2 ⟨i,mem_places.2 ⟨h1,h2⟩,rfl⟩)
theorem nodup_getD {L:List Int}:L.Nodup ↔ ∀ i,i < L.length → ∀ j,j < i → L.getD j 0 ≠ L.getD i 0 := by
 rw [List.Nodup,List.pairwise_iff_getElem]
 constructor
 ·intro h i hi j hj
  rw [getD_of hi,getD_of (by omega)]
  exact h j i (by omega) hi hj
 ·intro h i j hi hj hij
  have := h j hj i hij
  rw [getD_of hi,getD_of hj] at this
  exact this
abbrev Inst9 := Int×(Int×(Int×(Int×(Int×((List Int)×(Bool×(Bool×Int)))))))
abbrev Claim3 := Int×(Bool×Bool)
abbrev zI:Inst9 := ((0:Int),((0:Int),((0:Int),((0:Int),((0:Int),([],(false,(false,(0:Int)))))))))
abbrev zC:Claim3 := ((0:Int),(false,false))
theorem test_loop {X A B:Type} (L:Nat → X → Option (A ⊕ B)) (st:Nat → X) (g:Nat → Bool) (bad:A) (fin:B) (len:Nat)
  (step:∀ m i,i < len → L (m + 1) (st i) = bif g i then L m (st (i + 1)) else some (.inl bad)) (stop:∀ m,L (m + 1) (st len) = some (.inr fin)) :
  ∀ m i,i ≤ len → len < m + i → L m (st i) = some (bif allN g i (len - i) then .inr fin else .inl bad)
 | 0,i,h1,h2 => by omega
 | m + 1,i,h1,h2 => by
  rcases Nat.eq_or_lt_of_le h1 with q | q
  ·subst q
   rw [stop,Nat.sub_self]; rfl
  ·rw [step m i q,show len - i = (len - (i + 1)) + 1 by omega]
   show (bif g i then _ else _) = some (bif g i && allN g (i + 1) (len - (i + 1)) then _ else _)
   cases g i with
   | false => rfl
   | true => exact test_loop L st g bad fin len step stop m (i + 1) q (by omega)
theorem prev_wrap {i:Nat} (h:0 < i) (hi:i ≤ 4294967296):IntKind.i64.wrap ((i:Int) - (1:Int)) = ((i - 1:Nat):Int) := by
 rw [wrap_ok (by omega) (by omega)]; omega
theorem lt_nat (i n:Nat):decide ((i:Int) < (n:Int)) = decide (i < n) := by
 rw [Bool.eq_iff_iff]; simp
theorem lt_t {i n:Nat} (h:i < n):decide ((i:Int) < (n:Int)) = true := decide_eq_true (by omega)
theorem lt_f (n:Nat):decide ((n:Int) < (n:Int)) = false := decide_eq_false (by omega)
def ascAt (l:List Int) (j:Nat):Bool := decide (j = 0) || decide (l.getD (j - 1) 0 < l.getD j 0)
def knowAt (xs:List Node3) (k:List Int) (j:Nat):Bool := hasB xs (k.getD j 0) && ascAt k j
theorem gt0_t {i:Nat} (h:0 < i):decide ((i:Int) > (0:Int)) = true := decide_eq_true (by omega)
theorem le_not_lt (a b:Int):decide (a ≤ b) = !decide (b < a) := by
 rw [Bool.eq_iff_iff]; simp
theorem ge_not_lt (a b:Int):decide (a ≥ b) = !decide (a < b) := by
 rw [Bool.eq_iff_iff]; simp
theorem implKnow_step {xs:List Node3} (hx:xs.length ≤ 4294967296) {k:List Int} (hk:k.length ≤ 4294967296) (m i:Nat) (hi:i < k.length) :
  impl_KnowOk_L2 N0 (m + 1) (k,xs,k,(k.length:Int),(i:Int)) = bif knowAt xs k i then impl_KnowOk_L2 N0 m (k,xs,k,(k.length:Int),((i + 1:Nat):Int)) else some (.inl false) := by
 rw [impl_KnowOk_L2]
 dsimp only
 rw [lt_t hi,cond_true,inb_nat hi,cond_true,isTerm_eq N0 hx]
 simp only [Option.bind_some,Int.toNat_natCast,step_wrap hi hk]
 unfold knowAt ascAt
 cases hasB xs (k.getD i 0) with
 | false => rfl
 | true =>
  rcases Nat.eq_zero_or_pos i with q | q
  ·subst q; rfl
  ·rw [gt0_t q,cond_true,prev_wrap q (by omega),inb_nat (by omega),cond_true,Int.toNat_natCast,le_not_lt,decide_eq_false (by omega:¬ i = 0)]
   cases decide (k.getD (i - 1) 0 < k.getD i 0) <;> rfl
theorem implKnow_eq {xs:List Node3} (hx:xs.length ≤ 4294967296) {k:List Int} (hk:k.length ≤ 4294967296) :
  impl_KnowOk N0 (xs,k) = some (allN (knowAt xs k) 0 k.length && (decide (k.length ≤ 200) && (decide (xs.length ≤ 500) && okFrom N0 [] xs))) := by
 have := test_loop (impl_KnowOk_L2 N0) (fun i => (k,xs,k,(k.length:Int),(i:Int))) (knowAt xs k) false (k,xs) k.length (implKnow_step hx hk) (fun m => by
  rw [impl_KnowOk_L2]; dsimp only; rw [lt_f]; rfl) N0 0 (Nat.zero_le _) (by have := n0; omega)
 rw [Nat.sub_zero] at this
 show ((impl_KnowOk_L2 N0 N0 (k,xs,k,(k.length:Int),(0:Int))).bind _) = _
 rw [show impl_KnowOk_L2 N0 N0 (k,xs,k,(k.length:Int),(0:Int)) = _ from this]
 cases allN (knowAt xs k) 0 k.length with
 | false => rfl
 | true =>
  show (cond (decide ((k.length:Int) ≤ (200:Int))) ((impl_PoolOk N0 xs).bind fun r5 => some r5) (some false)) = _
  rw [implPool_eq N0 n0 hx]
  by_cases q:k.length ≤ 200
  ·rw [decide_eq_true (by omega:(k.length:Int) ≤ (200:Int)),decide_eq_true q]; rfl
  ·rw [decide_eq_false (by omega:¬ (k.length:Int) ≤ (200:Int)),decide_eq_false q]; rfl
theorem specKnow_step {xs:List Node3} (hx:xs.length ≤ 4294967296) {k:List Int} (hk:k.length ≤ 4294967296) (m i:Nat) (hi:i < k.length) :
  spec_l6Know_L4 N0 (m + 1) (k,xs,(i:Int)) = bif knowAt xs k i then spec_l6Know_L4 N0 m (k,xs,((i + 1:Nat):Int)) else some (.inl false) := by
 rw [spec_l6Know_L4]
 dsimp only
 rw [lt_t hi,cond_true,inb_nat hi,cond_true,has_eq N0 hx]
 simp only [Option.bind_some,Int.toNat_natCast,step_wrap hi hk]
 unfold knowAt ascAt
 cases hasB xs (k.getD i 0) with
 | false => rfl
 | true =>
  rcases Nat.eq_zero_or_pos i with q | q
  ·subst q; rfl
  ·rw [gt0_t q,cond_true,prev_wrap q (by omega),inb_nat (by omega),cond_true,Int.toNat_natCast,ge_not_lt,decide_eq_false (by omega:¬ i = 0)]
   cases decide (k.getD (i - 1) 0 < k.getD i 0) <;> rfl
theorem specKnow_eq {xs:List Node3} (hx:xs.length ≤ 4294967296) {k:List Int} (hk:k.length ≤ 4294967296) :
  spec_KnowOk N0 (xs,k) = some (allN (knowAt xs k) 0 k.length && (decide (k.length ≤ 200) && (decide (xs.length ≤ 500) && okFrom N0 [] xs))) := by
 have := test_loop (spec_l6Know_L4 N0) (fun i => (k,xs,(i:Int))) (knowAt xs k) false () k.length (specKnow_step hx hk) (fun m => by
  rw [spec_l6Know_L4]; dsimp only; rw [lt_f]; rfl) N0 0 (Nat.zero_le _) (by have := n0; omega)
 rw [Nat.sub_zero] at this
 have e:spec_l6Know N0 (xs,k) = some (decide (k.length ≤ 200) && allN (knowAt xs k) 0 k.length) := by
  show (cond (decide ((k.length:Int) > (200:Int))) (some false) ((spec_l6Know_L4 N0 N0 (k,xs,(0:Int))).bind _)) = _
  rw [show spec_l6Know_L4 N0 N0 (k,xs,(0:Int)) = _ from this]
  by_cases q:k.length ≤ 200
  ·rw [decide_eq_false (by omega:¬ (k.length:Int) > (200:Int)),decide_eq_true q]
   cases allN (knowAt xs k) 0 k.length <;> rfl
  ·rw [decide_eq_true (by omega:(k.length:Int) > (200:Int)),decide_eq_false q]; rfl
 show ((spec_PoolOk N0 xs).bind fun r1 => (cond r1 ((spec_l6Know N0 (xs,k)).bind fun r2 => (some r2)) (some false))) = _
 rw [specPool_eq N0 n0 hx,e]
 generalize (decide (xs.length ≤ 500) && okFrom N0 [] xs) = P
 generalize allN (knowAt xs k) 0 k.length = Q
 generalize decide (k.length ≤ 200) = R
 cases P <;> cases Q <;> cases R <;> rfl
theorem asc_step {k:List Int} (hk:k.length ≤ 4294967296) (m i:Nat) (h0:0 < i) (hi:i < k.length) :
  impl_isAscending_L2 N0 (m + 1) (k,(i:Int)) = bif ascAt k i then impl_isAscending_L2 N0 m (k,((i + 1:Nat):Int)) else some (.inl false) := by
 rw [impl_isAscending_L2]
 dsimp only
 rw [lt_t hi,cond_true,inb_nat hi,cond_true,prev_wrap h0 (by omega),inb_nat (by omega),cond_true,Int.toNat_natCast,Int.toNat_natCast,step_wrap hi hk,le_not_lt]
 unfold ascAt
 rw [decide_eq_false (by omega:¬ i = 0)]
 cases decide (k.getD (i - 1) 0 < k.getD i 0) <;> rfl
theorem implAsc_eq {k:List Int} (hk:k.length ≤ 4294967296):impl_isAscending N0 k = some (allN (ascAt k) 0 k.length) := by
 have h0:∀ m,impl_isAscending_L2 N0 (m + 1) (k,(k.length:Int)) = some (.inr ()) := fun m => by
  rw [impl_isAscending_L2]; dsimp only; rw [lt_f]; rfl
 show ((impl_isAscending_L2 N0 N0 (k,(1:Int))).bind _) = _
 rcases Nat.eq_zero_or_pos k.length with q | q
 ·have:k = [] := List.eq_nil_of_length_eq_zero q
  subst this
  rfl
 ·have := test_loop (impl_isAscending_L2 N0) (fun i => (k,((i + 1:Nat):Int))) (fun i => ascAt k (i + 1)) false () (k.length - 1) (fun m i hi => asc_step hk m (i + 1) (Nat.succ_pos i) (by omega)) (fun m => by
   rw [show k.length - 1 + 1 = k.length by omega]; exact h0 m) N0 0 (Nat.zero_le _) (by have := n0; omega)
  rw [show impl_isAscending_L2 N0 N0 (k,(1:Int)) = _ from this]
  have e:allN (fun i => ascAt k (i + 1)) 0 (k.length - 1 - 0) = allN (ascAt k) 0 k.length := by
   rw [Bool.eq_iff_iff,allN_iff,allN_iff]
   constructor
   ·intro h j h1 h2
    rcases Nat.eq_zero_or_pos j with z | z
    ·subst z; rfl
    ·have := h (j - 1) (Nat.zero_le _) (by omega)
     rw [show j - 1 + 1 = j by omega] at this
     exact this
   ·intro h j h1 h2
    exact h (j + 1) (Nat.zero_le _) (by omega)
  rw [e]
  cases allN (ascAt k) 0 k.length <;> rfl
def inB (lo hi v:Int):Bool := decide (v ≥ lo) && decide (v ≤ hi)
theorem asc2_step {k:List Int} (hk:k.length ≤ 4294967296) (lo hi:Int) (m i:Nat) (hl:i < k.length) :
  spec_l14Asc_L2 N0 (m + 1) (k,lo,hi,(i:Int)) = bif inB lo hi (k.getD i 0) && ascAt k i then spec_l14Asc_L2 N0 m (k,lo,hi,((i + 1:Nat):Int)) else some (.inl false) := by
 rw [spec_l14Asc_L2]
 dsimp only
 rw [lt_t hl,cond_true,inb_nat hl,cond_true,in_eq]
 simp only [Option.bind_some,Int.toNat_natCast,step_wrap hl hk]
 rw [show (decide (k.getD i 0 ≥ lo) && decide (k.getD i 0 ≤ hi)) = inB lo hi (k.getD i 0) from rfl]
 unfold ascAt
 cases inB lo hi (k.getD i 0) with
 | false => rfl
 | true =>
  rcases Nat.eq_zero_or_pos i with q | q
  ·subst q; rfl
  ·rw [gt0_t q,cond_true,prev_wrap q (by omega),inb_nat (by omega),cond_true,Int.toNat_natCast,ge_not_lt,decide_eq_false (by omega:¬ i = 0)]
   cases decide (k.getD (i - 1) 0 < k.getD i 0) <;> rfl
theorem specAsc_eq {k:List Int} (hk:k.length ≤ 4294967296) (lo hi:Int):spec_l14Asc N0 (k,lo,hi) = some (allN (fun j => inB lo hi (k.getD j 0) && ascAt k j) 0 k.length) := by
 have := test_loop (spec_l14Asc_L2 N0) (fun i => (k,lo,hi,(i:Int))) (fun j => inB lo hi (k.getD j 0) && ascAt k j) false () k.length (asc2_step hk lo hi) (fun m => by
  rw [spec_l14Asc_L2]; dsimp only; rw [lt_f]; rfl) N0 0 (Nat.zero_le _) (by have := n0; omega)
 rw [Nat.sub_zero] at this
 show ((spec_l14Asc_L2 N0 N0 (k,lo,hi,(0:Int))).bind _) = _
 rw [show spec_l14Asc_L2 N0 N0 (k,lo,hi,(0:Int)) = _ from this]
 cases allN (fun j => inB lo hi (k.getD j 0) && ascAt k j) 0 k.length <;> rfl
def hasAt (l:List Int) (v:Int):Bool := !allN (fun j => !(l.getD j 0 == v)) 0 l.length
theorem knowHas_eq {k:List Int} (hk:k.length ≤ 4294967296) (v:Int):spec_KnowHas N0 (k,v) = some (hasAt k v) := by
 have := test_loop (spec_KnowHas_L2 N0) (fun i => (k,v,(i:Int))) (fun j => !(k.getD j 0 == v)) true () k.length (fun m i hi => by
  rw [spec_KnowHas_L2]; dsimp only
  rw [lt_t hi,cond_true,inb_nat hi,cond_true,Int.toNat_natCast,step_wrap hi hk]
  cases (k.getD i 0 == v) <;> rfl) (fun m => by
  rw [spec_KnowHas_L2]; dsimp only; rw [lt_f]; rfl) N0 0 (Nat.zero_le _) (by have := n0; omega)
 rw [Nat.sub_zero] at this
 show ((spec_KnowHas_L2 N0 N0 (k,v,(0:Int))).bind _) = _
 rw [show spec_KnowHas_L2 N0 N0 (k,v,(0:Int)) = _ from this]
 unfold hasAt
 cases allN (fun j => !(k.getD j 0 == v)) 0 k.length <;> rfl
theorem hasAt_iff {l:List Int} {v:Int}:hasAt l v = true ↔ ∃ j,j < l.length ∧ l.getD j 0 = v := by
 unfold hasAt
 rw [Bool.not_eq_true',Bool.eq_false_iff,ne_eq,allN_iff]
 constructor
 ·intro h
  refine Classical.byContradiction fun h2 => h fun j _ hj => ?_
  have:¬ l.getD j 0 = v := fun e => h2 ⟨j,by omega,e⟩
  simpa using this
 ·rintro ⟨j,h1,h2⟩ h
  have := h j (Nat.zero_le _) (by omega)
  rw [h2] at this
  simp at this
abbrev kI:Ty := .int .i64
abbrev envL (x:Inst9):List Int := x.2.2.2.2.2.1
def dn (x:Inst9):Bool := x.2.2.2.2.2.2.1
structure Small (xs:List Node3) (kn:List Int) (li:List Inst9) (gv sh:List Int) (lg:List Claim3):Prop where
 fx:xs.length ≤ 4294967296
 fk:kn.length ≤ 4294967296
 fl:li.length ≤ 4294967296
 fg:gv.length ≤ 4294967296
 fs:sh.length ≤ 4294967296
 fo:lg.length ≤ 4294967296
 fe:∀ i,i < li.length → (envL (li.getD i zI)).length ≤ 4294967296
def instV (xs:List Node3) (x:Inst9):Bool := (impl_InstOk N0 (xs,x.1,x.2.1,x.2.2.1,x.2.2.2.1,x.2.2.2.2.1,x.2.2.2.2.2.1,x.2.2.2.2.2.2.1,x.2.2.2.2.2.2.2.1,x.2.2.2.2.2.2.2.2)).getD false
theorem instV_eqS {xs:List Node3} (hx:xs.length ≤ 4294967296) {x:Inst9} (he:(envL x).length ≤ 4294967296) :
  impl_InstOk N0 (xs,x.1,x.2.1,x.2.2.1,x.2.2.2.1,x.2.2.2.2.1,x.2.2.2.2.2.1,x.2.2.2.2.2.2.1,x.2.2.2.2.2.2.2.1,x.2.2.2.2.2.2.2.2) = some (instV xs x) ∧
  instS N0 (xs,x.1,x.2.1,x.2.2.1,x.2.2.2.1,x.2.2.2.2.1,x.2.2.2.2.2.1,x.2.2.2.2.2.2.1,x.2.2.2.2.2.2.2.1,x.2.2.2.2.2.2.2.2) = some (instV xs x) := by
 obtain ⟨v,h1,h2⟩ := inst_sameS hx (w := x.1) (p := x.2.1) (a := x.2.2.1) (b := x.2.2.2.1) (at_ := x.2.2.2.2.1) (env := x.2.2.2.2.2.1) he (dn := x.2.2.2.2.2.2.1) (dd := x.2.2.2.2.2.2.2.1) (key := x.2.2.2.2.2.2.2.2)
 unfold instV
 rw [h1]
 exact ⟨rfl,h2⟩
def poolB (xs:List Node3):Bool := decide (xs.length ≤ 500) && okFrom N0 [] xs
theorem l13_eq {xs:List Node3} (hx:xs.length ≤ 4294967296) {x:Inst9} (he:(envL x).length ≤ 4294967296) (hP:poolB xs = true) :
  spec_l13Inst N0 (xs,x.1,x.2.1,x.2.2.1,x.2.2.2.1,x.2.2.2.2.1,x.2.2.2.2.2.1,x.2.2.2.2.2.2.1,x.2.2.2.2.2.2.2.1,x.2.2.2.2.2.2.2.2) = some (instV xs x) := by
 have h2 := (instV_eqS hx he).2
 have hP:(decide (xs.length ≤ 500) && okFrom N0 [] xs) = true := hP
 rw [instS] at h2
 dsimp only at h2
 rw [specPool_eq N0 n0 hx,hP] at h2
 simp only [Option.bind_some,cond_true] at h2
 cases hq:spec_l13Inst N0 (xs,x.1,x.2.1,x.2.2.1,x.2.2.2.1,x.2.2.2.2.1,x.2.2.2.2.2.1,x.2.2.2.2.2.2.1,x.2.2.2.2.2.2.2.1,x.2.2.2.2.2.2.2.2) with
 | none => rw [hq] at h2; cases h2
 | some v => rw [hq] at h2; exact h2
def inst0 (n:Int) (k:Int):Bool := decide (k ≥ 0) && decide (k ≤ n - 1)
def doneB (li:List Inst9) (k:Int):Bool := inst0 (li.length:Int) k && dn (li.getD k.toNat zI)
theorem inst0_inb {li:List Inst9} {k:Int} (h:inst0 (li.length:Int) k = true):inb k li.length = true := by
 unfold inst0 at h
 simp at h
 exact decide_eq_true ⟨by omega,by omega⟩
section
variable {xs:List Node3} {kn:List Int} {li:List Inst9} {fr:Int} {gv sh:List Int} {lg:List Claim3}
theorem isInst_eq (hl:li.length ≤ 4294967296) (k:Int):impl_World_isInst N0 (xs,kn,li,fr,gv,sh,lg,k) = some (xs,kn,li,fr,gv,sh,lg,inst0 (li.length:Int) k) := by
 rw [impl_World_isInst]
 dsimp only
 rw [wrap_ok (by omega) (by omega),inRange_eq]; rfl
theorem isDone_eq (hl:li.length ≤ 4294967296) (k:Int):impl_World_isDone N0 (xs,kn,li,fr,gv,sh,lg,k) = some (xs,kn,li,fr,gv,sh,lg,doneB li k) := by
 rw [impl_World_isDone]
 dsimp only
 rw [isInst_eq hl]
 simp only [Option.bind_some]
 unfold doneB
 cases h:inst0 (li.length:Int) k with
 | false => rfl
 | true =>
  rw [inst0_inb h]; rfl
def lk (lg:List Claim3) (j:Nat):Int := (lg.getD j zC).1
def gLog (li:List Inst9) (lg:List Claim3) (i:Nat):Bool := doneB li (lk lg i) && allN (fun j => !(lk lg j == lk lg i)) 0 i
def kvOf (lg:List Claim3):Nat → List (Int×Int)
 | 0 => []
 | i + 1 => mput kI (lk lg i) (IntKind.i64.wrap (mget kI (lk lg i) (kvOf lg i) + (1:Int))) (kvOf lg i)
def cntK (lg:List Claim3) (k:Int):Nat → Nat
 | 0 => 0
 | i + 1 => cntK lg k i + (if lk lg i = k then 1 else 0)
theorem cntK_le (lg:List Claim3) (k:Int):∀ i,cntK lg k i ≤ i
 | 0 => Nat.le_refl _
 | i + 1 => by
  have := cntK_le lg k i
  show cntK lg k i + (if lk lg i = k then 1 else 0) ≤ i + 1
  split <;> omega
theorem kv_cnt (lg:List Claim3) (k:Int):∀ i,i ≤ 4294967296 → mget kI k (kvOf lg i) = (cntK lg k i:Int)
 | 0,_ => rfl
 | i + 1,h => by
  have ih := fun k => kv_cnt lg k i (by omega)
  show mget kI k (mput kI (lk lg i) (IntKind.i64.wrap (mget kI (lk lg i) (kvOf lg i) + (1:Int))) (kvOf lg i)) = ((cntK lg k i + (if lk lg i = k then 1 else 0):Nat):Int)
  by_cases q:lk lg i = k
  ·subst q
   rw [mget_mput (eqv_self kI rfl _),kv_cnt lg _ i (by omega),if_pos rfl]
   have := cntK_le lg (lk lg i) i
   rw [wrap_ok (by omega) (by omega)]; omega
  ·have hne:kI.eqv k (lk lg i) = false := by
    rw [Bool.eq_false_iff]
    exact fun h => q (eqv_eq kI h).symm
   rw [mget_mput_ne hne,kv_cnt lg k i (by omega),if_neg q,Nat.add_zero]
theorem cntK_zero (lg:List Claim3) (k:Int):∀ i,cntK lg k i = 0 ↔ ∀ j,j < i → lk lg j ≠ k
 | 0 => ⟨fun _ j h => by omega,fun _ => rfl⟩
 | i + 1 => by
  show cntK lg k i + (if lk lg i = k then 1 else 0) = 0 ↔ _
  have ih := cntK_zero lg k i
  by_cases q:lk lg i = k
  ·rw [if_pos q]
   exact ⟨fun h => by omega,fun h => absurd q (h i (by omega))⟩
  ·rw [if_neg q,Nat.add_zero,ih]
   constructor
   ·intro h j hj
    rcases Nat.lt_or_ge j i with z | z
    ·exact h j z
    ·have:j = i := by omega
     subst this; exact q
   ·exact fun h j hj => h j (by omega)
theorem log_test (hg:lg.length ≤ 4294967296) {i:Nat} (hi:i < lg.length):decide (mget kI (lk lg i) (kvOf lg (i + 1)) > (1:Int)) = !allN (fun j => !(lk lg j == lk lg i)) 0 i := by
 rw [kv_cnt lg _ (i + 1) (by omega),show cntK lg (lk lg i) (i + 1) = cntK lg (lk lg i) i + 1 from by show _ + (if _ then 1 else 0) = _; rw [if_pos rfl]]
 have hc := cntK_le lg (lk lg i) i
 rw [Bool.eq_iff_iff,decide_eq_true_iff,Bool.not_eq_true',Bool.eq_false_iff,ne_eq,allN_iff]
 have hz := cntK_zero lg (lk lg i) i
 constructor
 ·intro h h2
  have:cntK lg (lk lg i) i = 0 := hz.2 fun j hj e => by
   have := h2 j (Nat.zero_le _) (by omega)
   rw [e] at this
   simp at this
  omega
 ·intro h
  have:cntK lg (lk lg i) i ≠ 0 := fun e => h fun j _ hj => by
   have := hz.1 e j (by omega)
   simpa using this
  omega
def haveAt (li:List Inst9) (lg:List Claim3) (i:Nat):Bool := !dn (li.getD i zI) || !(((cntK lg (i:Int) lg.length:Nat):Int) == (0:Int))
theorem logOk_eq (hl:li.length ≤ 4294967296) (hg:lg.length ≤ 4294967296):impl_World_logOk N0 (xs,kn,li,fr,gv,sh,lg) = some (xs,kn,li,fr,gv,sh,lg,allN (gLog li lg) 0 lg.length && allN (haveAt li lg) 0 li.length) := by
 have h1 := test_loop (impl_World_logOk_L3 N0) (fun i => (xs,kn,li,fr,gv,sh,lg,kvOf lg i,lg,(lg.length:Int),(i:Int))) (gLog li lg) (xs,kn,li,fr,gv,sh,lg,false) (xs,kn,li,fr,gv,sh,lg,kvOf lg lg.length) lg.length (fun m i hi => by
  rw [impl_World_logOk_L3]; dsimp only
  rw [lt_t hi,cond_true,inb_nat hi,cond_true,isDone_eq hl]
  simp only [Option.bind_some,Int.toNat_natCast,step_wrap hi hg]
  show (cond (!doneB li (lk lg i)) (some (Sum.inl (xs,kn,li,fr,gv,sh,lg,false))) (cond (decide (mget kI (lk lg i) (kvOf lg (i + 1)) > (1:Int))) (some (Sum.inl (xs,kn,li,fr,gv,sh,lg,false))) (impl_World_logOk_L3 N0 m (xs,kn,li,fr,gv,sh,lg,kvOf lg (i + 1),lg,(lg.length:Int),((i + 1:Nat):Int))))) = _
  rw [log_test hg hi]
  unfold gLog
  cases doneB li (lk lg i) with
  | false => rfl
  | true =>
   cases allN (fun j => !(lk lg j == lk lg i)) 0 i <;> rfl) (fun m => by
  rw [impl_World_logOk_L3]; dsimp only; rw [lt_f]; rfl) N0 0 (Nat.zero_le _) (by have := n0; omega)
 have h2 := test_loop (impl_World_logOk_L10 N0) (fun i => (xs,kn,li,fr,gv,sh,lg,kvOf lg lg.length,li,(li.length:Int),(i:Int))) (haveAt li lg) (xs,kn,li,fr,gv,sh,lg,false) (xs,kn,li,fr,gv,sh,lg) li.length (fun m i hi => by
  rw [impl_World_logOk_L10]; dsimp only
  rw [lt_t hi,cond_true,inb_nat hi,cond_true]
  simp only [Int.toNat_natCast,step_wrap hi hl]
  rw [kv_cnt lg (i:Int) lg.length hg]
  unfold haveAt dn
  cases (li.getD i zI).2.2.2.2.2.2.1 with
  | false => rfl
  | true => cases (((cntK lg (i:Int) lg.length:Nat):Int) == (0:Int)) <;> rfl) (fun m => by
  rw [impl_World_logOk_L10]; dsimp only; rw [lt_f]; rfl) N0 0 (Nat.zero_le _) (by have := n0; omega)
 rw [Nat.sub_zero] at h1 h2
 rw [impl_World_logOk]
 dsimp only
 rw [show impl_World_logOk_L3 N0 N0 (xs,kn,li,fr,gv,sh,lg,[],lg,(lg.length:Int),(0:Int)) = _ from h1]
 cases allN (gLog li lg) 0 lg.length with
 | false => rfl
 | true =>
  show ((impl_World_logOk_L10 N0 N0 (xs,kn,li,fr,gv,sh,lg,kvOf lg lg.length,li,(li.length:Int),(0:Int))).bind _) = _
  rw [show impl_World_logOk_L10 N0 N0 (xs,kn,li,fr,gv,sh,lg,kvOf lg lg.length,li,(li.length:Int),(0:Int)) = _ from h2]
  cases allN (haveAt li lg) 0 li.length <;> rfl
def instsB (xs:List Node3) (li:List Inst9):Bool := allN (fun i => instV xs (li.getD i zI)) 0 li.length
def agentsB (gv:List Int):Bool := allN (fun i => inB 0 4 (gv.getD i 0)) 0 gv.length
def shownB (li:List Inst9) (sh:List Int):Bool := allN (fun i => doneB li (sh.getD i 0)) 0 sh.length
def knowB (xs:List Node3) (kn:List Int):Bool := allN (knowAt xs kn) 0 kn.length && (decide (kn.length ≤ 200) && poolB xs)
theorem implWorld_eq (hs:Small xs kn li gv sh lg):impl_WorldOk N0 (xs,kn,li,fr,gv,sh,lg) = some (knowB xs kn && (decide (li.length ≤ 8) && (inB 0 8 fr && (allN (ascAt gv) 0 gv.length && (allN (ascAt sh) 0 sh.length && (instsB xs li && (agentsB gv && (shownB li sh && (allN (gLog li lg) 0 lg.length && allN (haveAt li lg) 0 li.length))))))))) := by
 have h1 := test_loop (impl_WorldOk_L4 N0) (fun i => (xs,kn,li,fr,gv,sh,lg,li,(li.length:Int),(i:Int))) (fun i => instV xs (li.getD i zI)) false (xs,kn,li,fr,gv,sh,lg) li.length (fun m i hi => by
  rw [impl_WorldOk_L4]; dsimp only
  rw [lt_t hi,cond_true,inb_nat hi,cond_true]
  simp only [Int.toNat_natCast,step_wrap hi hs.fl]
  rw [(instV_eqS hs.fx (hs.fe i hi)).1]
  simp only [Option.bind_some]
  cases instV xs (li.getD i zI) <;> rfl) (fun m => by
  rw [impl_WorldOk_L4]; dsimp only; rw [lt_f]; rfl) N0 0 (Nat.zero_le _) (by have := n0; have := hs.fl; omega)
 have h2 := test_loop (impl_WorldOk_L10 N0) (fun i => (xs,kn,li,fr,gv,sh,lg,gv,(gv.length:Int),(i:Int))) (fun i => inB 0 4 (gv.getD i 0)) false (xs,kn,li,fr,gv,sh,lg) gv.length (fun m i hi => by
  rw [impl_WorldOk_L10]; dsimp only
  rw [lt_t hi,cond_true,inb_nat hi,cond_true,agent_eq]
  simp only [Option.bind_some,Int.toNat_natCast,step_wrap hi hs.fg]
  rw [show (decide (gv.getD i 0 ≥ 0) && decide (gv.getD i 0 ≤ 4)) = inB 0 4 (gv.getD i 0) from rfl]
  cases inB 0 4 (gv.getD i 0) <;> rfl) (fun m => by
  rw [impl_WorldOk_L10]; dsimp only; rw [lt_f]; rfl) N0 0 (Nat.zero_le _) (by have := n0; have := hs.fg; omega)
 have h3 := test_loop (impl_WorldOk_L16 N0) (fun i => (xs,kn,li,fr,gv,sh,lg,sh,(sh.length:Int),(i:Int))) (fun i => doneB li (sh.getD i 0)) false (xs,kn,li,fr,gv,sh,lg) sh.length (fun m i hi => by
  rw [impl_WorldOk_L16]; dsimp only
  rw [lt_t hi,cond_true,inb_nat hi,cond_true,isDone_eq hs.fl]
  simp only [Option.bind_some,Int.toNat_natCast,step_wrap hi hs.fs]
  cases doneB li (sh.getD i 0) <;> rfl) (fun m => by
  rw [impl_WorldOk_L16]; dsimp only; rw [lt_f]; rfl) N0 0 (Nat.zero_le _) (by have := n0; have := hs.fs; omega)
 rw [Nat.sub_zero] at h1 h2 h3
 rw [impl_WorldOk]
 dsimp only
 rw [implKnow_eq hs.fx hs.fk,inRange_eq,implAsc_eq hs.fg,implAsc_eq hs.fs,
  show impl_WorldOk_L4 N0 N0 (xs,kn,li,fr,gv,sh,lg,li,(li.length:Int),(0:Int)) = _ from h1]
 simp only [Option.bind_some]
 rw [show (allN (knowAt xs kn) 0 kn.length && (decide (kn.length ≤ 200) && (decide (xs.length ≤ 500) && okFrom N0 [] xs))) = knowB xs kn from rfl,
  show (decide (fr ≥ 0) && decide (fr ≤ 8)) = inB 0 8 fr from rfl,show allN (fun i => instV xs (li.getD i zI)) 0 li.length = instsB xs li from rfl]
 cases knowB xs kn with
 | false => rfl
 | true =>
  by_cases q:li.length ≤ 8
  ·rw [decide_eq_false (by omega:¬ (li.length:Int) > (8:Int)),decide_eq_true q]
   cases inB 0 8 fr with
   | false => rfl
   | true =>
    cases allN (ascAt gv) 0 gv.length with
    | false => rfl
    | true =>
     cases allN (ascAt sh) 0 sh.length with
     | false => rfl
     | true =>
      cases instsB xs li with
      | false => rfl
      | true =>
       show ((impl_WorldOk_L10 N0 N0 (xs,kn,li,fr,gv,sh,lg,gv,(gv.length:Int),(0:Int))).bind _) = _
       rw [show impl_WorldOk_L10 N0 N0 (xs,kn,li,fr,gv,sh,lg,gv,(gv.length:Int),(0:Int)) = _ from h2,show allN (fun i => inB 0 4 (gv.getD i 0)) 0 gv.length = agentsB gv from rfl]
       cases agentsB gv with
       | false => rfl
       | true =>
        show ((impl_WorldOk_L16 N0 N0 (xs,kn,li,fr,gv,sh,lg,sh,(sh.length:Int),(0:Int))).bind _) = _
        rw [show impl_WorldOk_L16 N0 N0 (xs,kn,li,fr,gv,sh,lg,sh,(sh.length:Int),(0:Int)) = _ from h3,show allN (fun i => doneB li (sh.getD i 0)) 0 sh.length = shownB li sh from rfl]
        cases shownB li sh with
        | false => rfl
        | true =>
         show ((impl_World_logOk N0 (xs,kn,li,fr,gv,sh,lg)).bind _) = _
         rw [logOk_eq hs.fl hs.fo]; rfl
  ·rw [decide_eq_true (by omega:(li.length:Int) > (8:Int)),decide_eq_false q]; rfl
def dAt (li:List Inst9) (i:Nat):Bool := dn (li.getD i zI)
def six (xs:List Node3) (li:List Inst9) (sh:List Int) (i:Nat):Bool := instV xs (li.getD i zI) && (!hasAt sh (i:Int) || dAt li i)
theorem places_le (d:Nat → Bool) (n:Nat):(places d n).length ≤ n := by
 unfold places
 exact Nat.le_trans (List.length_filter_le _ _) (by simp)
theorem spec6 (hs:Small xs kn li gv sh lg) (hP:poolB xs = true):spec_WorldOk_L6 N0 N0 (xs,kn,li,fr,gv,sh,lg,(li.length:Int),(0:Int),(0:Int)) =
  some (bif allN (six xs li sh) 0 li.length then .inr (xs,kn,li,fr,gv,sh,lg,(li.length:Int),((places (dAt li) li.length).length:Int)) else .inl false) := by
 have h := test_loop (spec_WorldOk_L6 N0) (fun i => (xs,kn,li,fr,gv,sh,lg,(li.length:Int),((places (dAt li) i).length:Int),(i:Int))) (six xs li sh) false (xs,kn,li,fr,gv,sh,lg,(li.length:Int),((places (dAt li) li.length).length:Int)) li.length (fun m i hi => by
  rw [spec_WorldOk_L6]; dsimp only
  rw [lt_t hi,cond_true,inb_nat hi,cond_true]
  simp only [Int.toNat_natCast,step_wrap hi hs.fl]
  rw [l13_eq hs.fx (hs.fe i hi) hP,knowHas_eq hs.fs]
  simp only [Option.bind_some,cond_true]
  have hpl := places_le (dAt li) i
  have hli := hs.fl
  rw [places_succ,show (li.getD i zI).2.2.2.2.2.2.1 = dAt li i from rfl,step_wrap (i := (places (dAt li) i).length) (n := i + 1) (by omega) (by omega)]
  unfold six
  cases instV xs (li.getD i zI) with
  | false => rfl
  | true =>
   cases hasAt sh (i:Int) <;> cases dAt li i <;> rfl) (fun m => by
  rw [spec_WorldOk_L6]; dsimp only; rw [lt_f]; rfl) N0 0 (Nat.zero_le _) (by have := n0; have := hs.fl; omega)
 rw [Nat.sub_zero] at h
 exact h
theorem spec19 (hg:lg.length ≤ 4294967296) {N D k:Int} {i:Nat} (hi:i < lg.length):spec_WorldOk_L19 N0 N0 (xs,kn,li,fr,gv,sh,lg,N,D,(i:Int),k,(0:Int)) =
  some (bif allN (fun j => !(lk lg j == k)) 0 i then .inr (xs,kn,li,fr,gv,sh,lg,N,D,(i:Int)) else .inl false) := by
 have h := test_loop (spec_WorldOk_L19 N0) (fun j => (xs,kn,li,fr,gv,sh,lg,N,D,(i:Int),k,(j:Int))) (fun j => !(lk lg j == k)) false (xs,kn,li,fr,gv,sh,lg,N,D,(i:Int)) i (fun m j hj => by
  rw [spec_WorldOk_L19]; dsimp only
  rw [lt_t hj,cond_true,inb_nat (by omega:j < lg.length),cond_true]
  simp only [Int.toNat_natCast,step_wrap (by omega:j < lg.length) hg]
  rw [show (lg.getD j zC).1 = lk lg j from rfl]
  cases (lk lg j == k) <;> rfl) (fun m => by
  rw [spec_WorldOk_L19]; dsimp only; rw [lt_f]; rfl) N0 0 (Nat.zero_le _) (by have := n0; omega)
 rw [Nat.sub_zero] at h
 exact h
theorem spec13 (hl:li.length ≤ 4294967296) (hg:lg.length ≤ 4294967296) {D:Int}:spec_WorldOk_L13 N0 N0 (xs,kn,li,fr,gv,sh,lg,(li.length:Int),D,(0:Int)) =
  some (bif allN (gLog li lg) 0 lg.length then .inr (xs,kn,li,fr,gv,sh,lg,D) else .inl false) := by
 have h := test_loop (spec_WorldOk_L13 N0) (fun i => (xs,kn,li,fr,gv,sh,lg,(li.length:Int),D,(i:Int))) (gLog li lg) false (xs,kn,li,fr,gv,sh,lg,D) lg.length (fun m i hi => by
  rw [spec_WorldOk_L13]; dsimp only
  rw [lt_t hi,cond_true,inb_nat hi,cond_true,wrap_ok (show -9223372036854775808 ≤ (li.length:Int) - 1 by omega) (show (li.length:Int) - 1 ≤ 9223372036854775807 by omega),in_eq]
  simp only [Option.bind_some,Int.toNat_natCast]
  rw [show (decide ((lg.getD i zC).1 ≥ 0) && decide ((lg.getD i zC).1 ≤ (li.length:Int) - 1)) = inst0 (li.length:Int) (lk lg i) from rfl,show (lg.getD i zC).1 = lk lg i from rfl]
  unfold gLog doneB
  cases hq:inst0 (li.length:Int) (lk lg i) with
  | false => rfl
  | true =>
   rw [inst0_inb hq,spec19 hg hi]
   unfold dn
   cases (li.getD (lk lg i).toNat zI).2.2.2.2.2.2.1 with
   | false => rfl
   | true =>
    cases allN (fun j => !(lk lg j == lk lg i)) 0 i with
    | false => rfl
    | true =>
     show spec_WorldOk_L13 N0 m (xs,kn,li,fr,gv,sh,lg,(li.length:Int),D,IntKind.i64.wrap ((i:Int) + (1:Int))) = _
     rw [step_wrap hi hg]; rfl) (fun m => by
  rw [spec_WorldOk_L13]; dsimp only; rw [lt_f]; rfl) N0 0 (Nat.zero_le _) (by have := n0; omega)
 rw [Nat.sub_zero] at h
 exact h
theorem specWorld_eq (hs:Small xs kn li gv sh lg):spec_WorldOk N0 (xs,kn,li,fr,gv,sh,lg) = some (knowB xs kn && (decide (li.length ≤ 8) && (inB 0 8 fr && (allN (fun j => inB 0 4 (gv.getD j 0) && ascAt gv j) 0 gv.length && (allN (fun j => inB 0 ((li.length:Int) - 1) (sh.getD j 0) && ascAt sh j) 0 sh.length && (allN (six xs li sh) 0 li.length && (allN (gLog li lg) 0 lg.length && ((lg.length:Int) == ((places (dAt li) li.length).length:Int))))))))) := by
 have hli := hs.fl
 rw [spec_WorldOk]
 dsimp only
 rw [specKnow_eq hs.fx hs.fk,in_eq,specAsc_eq hs.fg,wrap_ok (show -9223372036854775808 ≤ (li.length:Int) - 1 by omega) (show (li.length:Int) - 1 ≤ 9223372036854775807 by omega),specAsc_eq hs.fs]
 simp only [Option.bind_some]
 rw [show (allN (knowAt xs kn) 0 kn.length && (decide (kn.length ≤ 200) && (decide (xs.length ≤ 500) && okFrom N0 [] xs))) = knowB xs kn from rfl,
  show (decide (fr ≥ 0) && decide (fr ≤ 8)) = inB 0 8 fr from rfl]
 cases hk:knowB xs kn with
 | false => rfl
 | true =>
  have hP:poolB xs = true := by
   unfold knowB at hk
   rw [Bool.and_eq_true,Bool.and_eq_true] at hk
   exact hk.2.2
  rw [spec6 hs hP]
  by_cases q:li.length ≤ 8
  ·rw [decide_eq_false (by omega:¬ (li.length:Int) > (8:Int)),decide_eq_true q]
   cases inB 0 8 fr with
   | false => rfl
   | true =>
    cases allN (fun j => inB 0 4 (gv.getD j 0) && ascAt gv j) 0 gv.length with
    | false => rfl
    | true =>
     cases allN (fun j => inB 0 ((li.length:Int) - 1) (sh.getD j 0) && ascAt sh j) 0 sh.length with
     | false => rfl
     | true =>
      cases allN (six xs li sh) 0 li.length with
      | false => rfl
      | true =>
       show ((spec_WorldOk_L13 N0 N0 (xs,kn,li,fr,gv,sh,lg,(li.length:Int),((places (dAt li) li.length).length:Int),(0:Int))).bind _) = _
       rw [spec13 hs.fl hs.fo]
       cases allN (gLog li lg) 0 lg.length <;> rfl
  ·rw [decide_eq_true (by omega:(li.length:Int) > (8:Int)),decide_eq_false q]; rfl
end
theorem allN_and (a b:Nat → Bool) (i k:Nat):allN (fun j => a j && b j) i k = (allN a i k && allN b i k) := by
 rw [Bool.eq_iff_iff,Bool.and_eq_true,allN_iff,allN_iff,allN_iff]
 constructor
 ·intro h
  refine ⟨fun j h1 h2 => ?_,fun j h1 h2 => ?_⟩
  ·have := h j h1 h2
   rw [Bool.and_eq_true] at this; exact this.1
  ·have := h j h1 h2
   rw [Bool.and_eq_true] at this; exact this.2
 ·rintro ⟨h1,h2⟩ j h3 h4
  rw [Bool.and_eq_true]
  exact ⟨h1 j h3 h4,h2 j h3 h4⟩
section
variable {xs:List Node3} {kn:List Int} {li:List Inst9} {fr:Int} {gv sh:List Int} {lg:List Claim3}
theorem shown_same:(instsB xs li && shownB li sh) = (allN (fun j => inB 0 ((li.length:Int) - 1) (sh.getD j 0)) 0 sh.length && allN (six xs li sh) 0 li.length) := by
 unfold instsB shownB
 rw [Bool.eq_iff_iff,Bool.and_eq_true,Bool.and_eq_true,allN_iff,allN_iff,allN_iff,allN_iff]
 constructor
 ·rintro ⟨h1,h2⟩
  refine ⟨fun j h3 h4 => ?_,fun i h3 h4 => ?_⟩
  ·have := h2 j h3 h4
   unfold doneB at this
   rw [Bool.and_eq_true] at this
   exact this.1
  ·unfold six
   rw [Bool.and_eq_true]
   refine ⟨h1 i h3 h4, ?_⟩
   cases hh:hasAt sh (i:Int) with
   | false => rfl
   | true =>
    obtain ⟨j,h5,h6⟩ := hasAt_iff.1 hh
    have := h2 j (Nat.zero_le _) (by omega)
    unfold doneB at this
    rw [Bool.and_eq_true,h6,Int.toNat_natCast] at this
    show (false || dAt li i) = true
    rw [Bool.false_or]; exact this.2
 ·rintro ⟨h1,h2⟩
  refine ⟨fun i h3 h4 => ?_,fun j h3 h4 => ?_⟩
  ·have := h2 i h3 h4
   unfold six at this
   rw [Bool.and_eq_true] at this
   exact this.1
  ·have hr := h1 j h3 h4
   unfold doneB
   rw [Bool.and_eq_true]
   refine ⟨hr, ?_⟩
   have hr' := hr
   unfold inB at hr'
   rw [Bool.and_eq_true,decide_eq_true_iff,decide_eq_true_iff] at hr'
   obtain ⟨i,hi⟩ := Int.eq_ofNat_of_zero_le hr'.1
   rw [hi] at hr' ⊢
   rw [Int.toNat_natCast]
   have := h2 i (Nat.zero_le _) (by omega)
   unfold six at this
   rw [Bool.and_eq_true] at this
   have hh:hasAt sh (i:Int) = true := hasAt_iff.2 ⟨j,by omega,hi⟩
   have h3 := this.2
   rw [hh] at h3
   exact h3
theorem log_same (h:allN (gLog li lg) 0 lg.length = true):allN (haveAt li lg) 0 li.length = ((lg.length:Int) == ((places (dAt li) li.length).length:Int)) := by
 rw [allN_iff] at h
 have hg:∀ i,i < lg.length → doneB li (lk lg i) = true ∧ ∀ j,j < i → lk lg j ≠ lk lg i := fun i hi => by
  have := h i (Nat.zero_le _) (by omega)
  unfold gLog at this
  rw [Bool.and_eq_true,allN_iff] at this
  refine ⟨this.1,fun j hj e => ?_⟩
  have := this.2 j (Nat.zero_le _) (by omega)
  rw [e] at this
  simp at this
 have hL:((List.range lg.length).map (lk lg)).length = lg.length := by simp
 have hnd:((List.range lg.length).map (lk lg)).Nodup := by
  rw [nodup_getD,hL]
  intro i hi j hj
  have e:∀ k,k < lg.length → ((List.range lg.length).map (lk lg)).getD k 0 = lk lg k := fun k hk => by
   rw [getD_of (by rw [hL]; exact hk)]; simp
  rw [e i hi,e j (by omega)]
  exact (hg i hi).2 j hj
 have hin:∀ k ∈ (List.range lg.length).map (lk lg), ∃ i:Nat,k = (i:Int) ∧ i < li.length ∧ dAt li i = true := by
  intro k hk
  obtain ⟨j,hj,rfl⟩ := List.mem_map.1 hk
  have := (hg j (List.mem_range.1 hj)).1
  unfold doneB inst0 at this
  rw [Bool.and_eq_true,Bool.and_eq_true,decide_eq_true_iff,decide_eq_true_iff] at this
  obtain ⟨⟨h1,h2⟩,h3⟩ := this
  obtain ⟨i,hi⟩ := Int.eq_ofNat_of_zero_le h1
  rw [hi] at h2 h3
  rw [Int.toNat_natCast] at h3
  exact ⟨i,hi,by omega,h3⟩
 have key := log_full (dAt li) li.length _ hnd hin
 rw [hL] at key
 rw [Bool.eq_iff_iff,allN_iff,beq_iff_eq]
 have hmem:∀ i:Nat,(i:Int) ∈ (List.range lg.length).map (lk lg) ↔ cntK lg (i:Int) lg.length ≠ 0 := by
  intro i
  rw [Ne,cntK_zero,List.mem_map]
  constructor
  ·rintro ⟨j,h1,h2⟩ h3
   exact h3 j (List.mem_range.1 h1) h2
  ·intro h1
   refine Classical.byContradiction fun h2 => h1 fun j hj e => h2 ⟨j,List.mem_range.2 hj,e⟩
 have e1:((lg.length:Int) = ((places (dAt li) li.length).length:Int)) ↔ lg.length = (places (dAt li) li.length).length := by omega
 rw [e1, ← key]
 constructor
 ·intro h1 i h2 h3
  have := h1 i (Nat.zero_le _) (by omega)
  rw [hmem]
  unfold haveAt at this
  rw [show dn (li.getD i zI) = dAt li i from rfl,h3] at this
  intro h4
  rw [h4] at this
  exact absurd this (by decide)
 ·intro h1 i _ h2
  unfold haveAt
  cases h3:dn (li.getD i zI) with
  | false => rfl
  | true =>
   have := (hmem i).1 (h1 i (by omega) h3)
   show (false || !(((cntK lg (i:Int) lg.length:Nat):Int) == (0:Int))) = true
   rw [Bool.false_or,Bool.not_eq_true',beq_eq_false_iff_ne]
   omega
def worldB (xs:List Node3) (kn:List Int) (li:List Inst9) (fr:Int) (gv sh:List Int) (lg:List Claim3):Bool :=
 knowB xs kn && (decide (li.length ≤ 8) && (inB 0 8 fr && (allN (ascAt gv) 0 gv.length && (allN (ascAt sh) 0 sh.length && (instsB xs li && (agentsB gv && (shownB li sh && (allN (gLog li lg) 0 lg.length && allN (haveAt li lg) 0 li.length))))))))
theorem world_same (hs:Small xs kn li gv sh lg):impl_WorldOk N0 (xs,kn,li,fr,gv,sh,lg) = some (worldB xs kn li fr gv sh lg) ∧ spec_WorldOk N0 (xs,kn,li,fr,gv,sh,lg) = some (worldB xs kn li fr gv sh lg) := by
 refine ⟨implWorld_eq hs,(specWorld_eq hs).trans (congrArg some ?_)⟩
 unfold worldB
 have e1:allN (fun j => inB 0 4 (gv.getD j 0) && ascAt gv j) 0 gv.length = (agentsB gv && allN (ascAt gv) 0 gv.length) := allN_and _ _ _ _
 have e2:allN (fun j => inB 0 ((li.length:Int) - 1) (sh.getD j 0) && ascAt sh j) 0 sh.length = (allN (fun j => inB 0 ((li.length:Int) - 1) (sh.getD j 0)) 0 sh.length && allN (ascAt sh) 0 sh.length) := allN_and _ _ _ _
 have e3 := shown_same (xs := xs) (li := li) (sh := sh)
 rw [e1,e2]
 cases hl:allN (gLog li lg) 0 lg.length with
 | true =>
  rw [log_same hl]
  revert e3
  generalize allN (fun j => inB 0 ((li.length:Int) - 1) (sh.getD j 0)) 0 sh.length = A
  generalize allN (six xs li sh) 0 li.length = B
  generalize instsB xs li = C
  generalize shownB li sh = D
  generalize agentsB gv = E
  generalize allN (ascAt gv) 0 gv.length = F
  generalize allN (ascAt sh) 0 sh.length = G
  generalize ((lg.length:Int) == ((places (dAt li) li.length).length:Int)) = H
  generalize knowB xs kn = K
  generalize decide (li.length ≤ 8) = M
  generalize inB 0 8 fr = R
  intro e3
  have:(A && B) = (C && D) := e3.symm
  cases A <;> cases B <;> cases C <;> cases D <;> simp_all <;> (cases E <;> cases F <;> cases G <;> rfl)
 | false =>
  simp only [Bool.false_and,Bool.and_false]
end
theorem szIntS_ex (n:Nat) {l:List Int} (hl:l.length ≤ 9223372036854775807) {r:Int} (h0:0 ≤ r) (h1:r ≤ 1048576):∃ q,laws_szIntS n (l,r) = some q ∧ (q < 0 ∨ (0 ≤ q ∧ q ≤ 1048576 ∧ l.length ≤ 1048576)) := by
 unfold laws_szIntS
 simp only [wrap_ok (show -9223372036854775808 ≤ r - (l.length:Int) by omega) (show r - (l.length:Int) ≤ 9223372036854775807 by omega)]
 by_cases q:r - (l.length:Int) < 0
 ·rw [decide_eq_true q]; exact ⟨-1,rfl, .inl (by omega)⟩
 ·rw [decide_eq_false q]; exact ⟨_,rfl, .inr (by omega)⟩
theorem szClaimS_ex (n:Nat) {l:List Claim3} (hl:l.length ≤ 9223372036854775807) {r:Int} (h0:0 ≤ r) (h1:r ≤ 1048576):∃ q,laws_szClaimS n (l,r) = some q ∧ (q < 0 ∨ (0 ≤ q ∧ q ≤ 1048576 ∧ l.length ≤ 1048576)) := by
 unfold laws_szClaimS
 simp only [wrap_ok (show -9223372036854775808 ≤ r - (l.length:Int) by omega) (show r - (l.length:Int) ≤ 9223372036854775807 by omega)]
 by_cases q:r - (l.length:Int) < 0
 ·rw [decide_eq_true q]; exact ⟨-1,rfl, .inl (by omega)⟩
 ·rw [decide_eq_false q]; exact ⟨_,rfl, .inr (by omega)⟩
theorem szInstS_loop (n:Nat) {li:List Inst9} (hl:li.length ≤ 1048576) (he:∀ i,i < li.length → (envL (li.getD i zI)).length ≤ 9223372036854775807):∀ (m i:Nat) (r:Int),0 ≤ r → r ≤ 1048576 → i ≤ li.length → li.length < m + i →
  (∃ q,laws_szInstS_L5 n m (li,r,(i:Int)) = some (.inl q) ∧ q < 0) ∨ (∃ q,laws_szInstS_L5 n m (li,r,(i:Int)) = some (.inr q) ∧ 0 ≤ q ∧ q ≤ 1048576 ∧ ∀ j,i ≤ j → j < li.length → (envL (li.getD j zI)).length ≤ 1048576)
 | 0,i,r,_,_,h1,h2 => by omega
 | m + 1,i,r,h0,h1,h2,h3 => by
  rcases Nat.eq_or_lt_of_le h2 with q | q
  ·subst q
   refine .inr ⟨r, ?_,h0,h1,fun j _ _ => by omega⟩
   rw [laws_szInstS_L5]; dsimp only; rw [lt_f]; rfl
  ·have e:laws_szInstS_L5 n (m + 1) (li,r,(i:Int)) = (bif decide ((if ((envL (li.getD i zI)).length:Int) ≤ r then r - ((envL (li.getD i zI)).length:Int) else -1) < 0) then some (.inl (-1)) else laws_szInstS_L5 n m (li,(if ((envL (li.getD i zI)).length:Int) ≤ r then r - ((envL (li.getD i zI)).length:Int) else -1),((i + 1:Nat):Int))) := by
    rw [laws_szInstS_L5]; dsimp only
    rw [lt_t q,cond_true,inb_nat q,cond_true]
    simp only [Int.toNat_natCast,step_wrap q (by omega:li.length ≤ 4294967296)]
    rw [szInst_eq n ⟨h0,h1⟩ (he i q)]
    rfl
   rw [e]
   by_cases hz:((envL (li.getD i zI)).length:Int) ≤ r
   ·rw [if_pos hz,decide_eq_false (by omega:¬ r - ((envL (li.getD i zI)).length:Int) < 0),cond_false]
    rcases szInstS_loop n hl he m (i + 1) (r - ((envL (li.getD i zI)).length:Int)) (by omega) (by omega) q (by omega) with g | ⟨v,g1,g2,g3,g4⟩
    ·exact .inl g
    ·refine .inr ⟨v,g1,g2,g3,fun j h5 h6 => ?_⟩
     rcases Nat.eq_or_lt_of_le h5 with z | z
     ·subst z; omega
     ·exact g4 j z h6
   ·rw [if_neg hz]
    exact .inl ⟨-1,rfl,by omega⟩
theorem szInstS_ex {li:List Inst9} (hl:li.length ≤ 9223372036854775807) (he:∀ i,i < li.length → (envL (li.getD i zI)).length ≤ 9223372036854775807) {r:Int} (h0:0 ≤ r) (h1:r ≤ 1048576) :
  ∃ q,laws_szInstS N0 (li,r) = some q ∧ (q < 0 ∨ (0 ≤ q ∧ q ≤ 1048576 ∧ li.length ≤ 1048576 ∧ ∀ j,j < li.length → (envL (li.getD j zI)).length ≤ 1048576)) := by
 unfold laws_szInstS
 simp only [wrap_ok (show -9223372036854775808 ≤ r - (li.length:Int) by omega) (show r - (li.length:Int) ≤ 9223372036854775807 by omega)]
 by_cases q:r - (li.length:Int) < 0
 ·rw [decide_eq_true q]; exact ⟨-1,rfl, .inl (by omega)⟩
 ·rw [decide_eq_false q,cond_false]
  rcases szInstS_loop N0 (by omega) he N0 0 (r - (li.length:Int)) (by omega) (by omega) (Nat.zero_le _) (by have := n0; omega) with ⟨v,g1,g2⟩ | ⟨v,g1,g2,g3,g4⟩
  ·rw [show laws_szInstS_L5 N0 N0 (li,r - (li.length:Int),(0:Int)) = _ from g1]
   exact ⟨v,rfl, .inl g2⟩
  ·rw [show laws_szInstS_L5 N0 N0 (li,r - (li.length:Int),(0:Int)) = _ from g1]
   exact ⟨v,rfl, .inr ⟨g2,g3,by omega,fun j hj => g4 j (Nat.zero_le _) hj⟩⟩
structure Big (xs:List Node3) (kn:List Int) (li:List Inst9) (gv sh:List Int) (lg:List Claim3):Prop where
 fx:xs.length ≤ 9223372036854775807
 fk:kn.length ≤ 9223372036854775807
 fl:li.length ≤ 9223372036854775807
 fg:gv.length ≤ 9223372036854775807
 fs:sh.length ≤ 9223372036854775807
 fo:lg.length ≤ 9223372036854775807
 fe:∀ i,i < li.length → (envL (li.getD i zI)).length ≤ 9223372036854775807
section
variable {xs:List Node3} {kn:List Int} {li:List Inst9} {fr:Int} {gv sh:List Int} {lg:List Claim3}
theorem szWorld_ex (hb:Big xs kn li gv sh lg):∃ q,laws_szWorld N0 (xs,kn,li,fr,gv,sh,lg,(1048576:Int)) = some q ∧ (q < 0 ∨ (0 ≤ q ∧ Small xs kn li gv sh lg)) := by
 rw [laws_szWorld]; dsimp only
 rw [szPool_eq N0 hb.fx]
 simp only [Option.bind_some]
 by_cases q1:xs.length ≤ 1048576
 ·rw [if_pos q1,decide_eq_false (by omega:¬ (1048576:Int) - (xs.length:Int) < 0),cond_false]
  obtain ⟨a,ha,ha2⟩ := szIntS_ex N0 hb.fk (r := (1048576:Int) - (xs.length:Int)) (by omega) (by omega)
  rw [ha]
  rcases ha2 with ha2 | ⟨ha2,ha3,ha4⟩
  ·simp only [Option.bind_some]
   rw [decide_eq_true ha2]; exact ⟨-1,rfl, .inl (by omega)⟩
  ·simp only [Option.bind_some]
   rw [decide_eq_false (by omega:¬ a < 0),cond_false]
   obtain ⟨b,hb1,hb2⟩ := szInstS_ex hb.fl hb.fe ha2 ha3
   rw [hb1]
   rcases hb2 with hb2 | ⟨hb2,hb3,hb4,hb5⟩
   ·simp only [Option.bind_some]
    rw [decide_eq_true hb2]; exact ⟨-1,rfl, .inl (by omega)⟩
   ·simp only [Option.bind_some]
    rw [decide_eq_false (by omega:¬ b < 0),cond_false]
    obtain ⟨c,hc1,hc2⟩ := szIntS_ex N0 hb.fg hb2 hb3
    rw [hc1]
    rcases hc2 with hc2 | ⟨hc2,hc3,hc4⟩
    ·simp only [Option.bind_some]
     rw [decide_eq_true hc2]; exact ⟨-1,rfl, .inl (by omega)⟩
    ·simp only [Option.bind_some]
     rw [decide_eq_false (by omega:¬ c < 0),cond_false]
     obtain ⟨d,hd1,hd2⟩ := szIntS_ex N0 hb.fs hc2 hc3
     rw [hd1]
     rcases hd2 with hd2 | ⟨hd2,hd3,hd4⟩
     ·simp only [Option.bind_some]
      rw [decide_eq_true hd2]; exact ⟨-1,rfl, .inl (by omega)⟩
     ·simp only [Option.bind_some]
      rw [decide_eq_false (by omega:¬ d < 0),cond_false]
      obtain ⟨e,he1,he2⟩ := szClaimS_ex N0 hb.fo hd2 hd3
      rw [he1]
      rcases he2 with he2 | ⟨he2,he3,he4⟩
      ·simp only [Option.bind_some]
       rw [decide_eq_true he2]; exact ⟨-1,rfl, .inl (by omega)⟩
      ·simp only [Option.bind_some]
       rw [decide_eq_false (by omega:¬ e < 0),cond_false]
       exact ⟨e,rfl, .inr ⟨he2,by omega,by omega,by omega,by omega,by omega,by omega,fun i hi => Nat.le_trans (hb5 i hi) (by omega)⟩⟩
 ·rw [if_neg q1]
  exact ⟨-1,rfl, .inl (by omega)⟩
theorem getD_set_copy {α:Type} (d:α) {xs ys:List α} {i:Nat} (hi:i < xs.length) (hl:ys.length = xs.length) (h:∀ j,j < i → ys[j]? = xs[j]?):(ys.set i (xs.getD i d)).length = xs.length ∧ ∀ j,j < i + 1 → (ys.set i (xs.getD i d))[j]? = xs[j]? := by
 rw [getD_of hi]; exact copy_set hi hl h
theorem toInstS_loop {li:List Inst9} (hl:li.length ≤ 4294967296) (he:∀ i,i < li.length → (envL (li.getD i zI)).length ≤ 4294967296):∀ (m i:Nat) (ys:List Inst9),i ≤ li.length → ys.length = li.length → (∀ j,j < i → ys[j]? = li[j]?) → li.length < m + i → laws_toInstS_L3 N0 m (li,ys,(i:Int)) = some li
 | 0,i,ys,hi,hy,h,hm => by omega
 | m + 1,i,ys,hi,hy,h,hm => by
  rcases Nat.eq_or_lt_of_le hi with q | q
  ·subst q
   rw [laws_toInstS_L3]; dsimp only; rw [lt_f,cond_false,copy_done (Nat.le_refl _) hy h]
  ·have e:laws_toInstS_L3 N0 (m + 1) (li,ys,(i:Int)) = laws_toInstS_L3 N0 m (li,ys.set i (li.getD i zI),((i + 1:Nat):Int)) := by
    rw [laws_toInstS_L3]; dsimp only
    rw [lt_t q,cond_true,inb_nat q,cond_true,Int.toNat_natCast]
    first | rw [toInst_eq N0 n0 (he i q)] | rw [show laws_toInst_o = laws_toInst from rfl,toInst_eq N0 n0 (he i q)]
    simp only [Option.bind_some]
    rw [inb_nat (by omega:i < ys.length),cond_true,step_wrap q hl]
   obtain ⟨h1,h2⟩ := getD_set_copy zI q hy h
   rw [e]
   exact toInstS_loop hl he m (i + 1) _ q h1 h2 (by omega)
theorem toInstS_eq {li:List Inst9} (hl:li.length ≤ 4294967296) (he:∀ i,i < li.length → (envL (li.getD i zI)).length ≤ 4294967296):laws_toInstS N0 li = some li := by
 unfold laws_toInstS
 rw [decide_eq_true (by omega:0 ≤ (li.length:Int) ∧ (li.length:Int) ≤ (li.length:Int) ∧ (li.length:Int) ≤ 4294967296),cond_true]
 have := toInstS_loop hl he N0 0 (List.replicate ((li.length:Int)).toNat zI) (Nat.zero_le _) (by simp) (fun j hj => by omega) (by have := n0; omega)
 rw [show laws_toInstS_L3 N0 N0 (li,List.replicate ((li.length:Int)).toNat zI,(0:Int)) = _ from this]; rfl
theorem toClaimS_loop {lg:List Claim3} (hl:lg.length ≤ 4294967296):∀ (m i:Nat) (ys:List Claim3),i ≤ lg.length → ys.length = lg.length → (∀ j,j < i → ys[j]? = lg[j]?) → lg.length < m + i → laws_toClaimS_L3 N0 m (lg,ys,(i:Int)) = some lg
 | 0,i,ys,hi,hy,h,hm => by omega
 | m + 1,i,ys,hi,hy,h,hm => by
  rcases Nat.eq_or_lt_of_le hi with q | q
  ·subst q
   rw [laws_toClaimS_L3]; dsimp only; rw [lt_f,cond_false,copy_done (Nat.le_refl _) hy h]
  ·have e:laws_toClaimS_L3 N0 (m + 1) (lg,ys,(i:Int)) = laws_toClaimS_L3 N0 m (lg,ys.set i (lg.getD i zC),((i + 1:Nat):Int)) := by
    rw [laws_toClaimS_L3]; dsimp only
    rw [lt_t q,cond_true,inb_nat q,cond_true,Int.toNat_natCast,show laws_toClaim N0 ((lg.getD i zC).1,(lg.getD i zC).2.1,(lg.getD i zC).2.2) = some (lg.getD i zC) from rfl]
    simp only [Option.bind_some]
    rw [inb_nat (by omega:i < ys.length),cond_true,step_wrap q hl]
   obtain ⟨h1,h2⟩ := getD_set_copy zC q hy h
   rw [e]
   exact toClaimS_loop hl m (i + 1) _ q h1 h2 (by omega)
theorem toClaimS_eq {lg:List Claim3} (hl:lg.length ≤ 4294967296):laws_toClaimS N0 lg = some lg := by
 unfold laws_toClaimS
 rw [decide_eq_true (by omega:0 ≤ (lg.length:Int) ∧ (lg.length:Int) ≤ (lg.length:Int) ∧ (lg.length:Int) ≤ 4294967296),cond_true]
 have := toClaimS_loop hl N0 0 (List.replicate ((lg.length:Int)).toNat zC) (Nat.zero_le _) (by simp) (fun j hj => by omega) (by have := n0; omega)
 rw [show laws_toClaimS_L3 N0 N0 (lg,List.replicate ((lg.length:Int)).toNat zC,(0:Int)) = _ from this]; rfl
theorem toWorld_eq (hs:Small xs kn li gv sh lg):laws_toWorld N0 (xs,kn,li,fr,gv,sh,lg) = some (xs,kn,li,fr,gv,sh,lg) := by
 rw [laws_toWorld]; dsimp only
 rw [toPool_eq N0 n0 hs.fx,toIntS_eq N0 n0 hs.fk,toInstS_eq hs.fl hs.fe,toIntS_eq N0 n0 hs.fg,toIntS_eq N0 n0 hs.fs,toClaimS_eq hs.fo]; rfl
theorem eqIntS_self {l:List Int} (hl:l.length ≤ 4294967296):laws_eqIntS N0 (l,l) = some true := by
 unfold laws_eqIntS
 have := eqIntS_loop N0 hl N0 0 (Nat.zero_le _) (by have := n0; omega)
 rw [show ((0:Nat):Int) = (0:Int) from rfl] at this
 simp only [bne_self_eq_false,cond_false,this]; rfl
theorem eqInstS_self {li:List Inst9} (hl:li.length ≤ 4294967296) (he:∀ i,i < li.length → (envL (li.getD i zI)).length ≤ 4294967296):laws_eqInstS N0 (li,li) = some true := by
 have h := test_loop (laws_eqInstS_L4 N0) (fun i => (li,li,(i:Int))) (fun _ => true) false () li.length (fun m i hi => by
  rw [laws_eqInstS_L4]; dsimp only
  rw [lt_t hi,cond_true,inb_nat hi,cond_true,cond_true,Int.toNat_natCast,eqInst_self N0 n0 (he i hi)]
  simp only [Option.bind_some,step_wrap hi hl]; rfl) (fun m => by
  rw [laws_eqInstS_L4]; dsimp only; rw [lt_f]; rfl) N0 0 (Nat.zero_le _) (by have := n0; omega)
 have ht:allN (fun _ => true) 0 (li.length - 0) = true := allN_iff.2 fun _ _ _ => rfl
 rw [ht] at h
 unfold laws_eqInstS
 simp only [bne_self_eq_false,cond_false]
 rw [show laws_eqInstS_L4 N0 N0 (li,li,(0:Int)) = _ from h]; rfl
theorem eqClaim_self (x:Claim3):laws_eqClaim N0 (x.1,x.2.1,x.2.2,x.1,x.2.1,x.2.2) = some true := by
 unfold laws_eqClaim
 simp only [bne_self_eq_false,cond_false]
theorem eqClaimS_self {lg:List Claim3} (hl:lg.length ≤ 4294967296):laws_eqClaimS N0 (lg,lg) = some true := by
 have h := test_loop (laws_eqClaimS_L4 N0) (fun i => (lg,lg,(i:Int))) (fun _ => true) false () lg.length (fun m i hi => by
  rw [laws_eqClaimS_L4]; dsimp only
  rw [lt_t hi,cond_true,inb_nat hi,cond_true,cond_true,Int.toNat_natCast,eqClaim_self]
  simp only [Option.bind_some,step_wrap hi hl]; rfl) (fun m => by
  rw [laws_eqClaimS_L4]; dsimp only; rw [lt_f]; rfl) N0 0 (Nat.zero_le _) (by have := n0; omega)
 have ht:allN (fun _ => true) 0 (lg.length - 0) = true := allN_iff.2 fun _ _ _ => rfl
 rw [ht] at h
 unfold laws_eqClaimS
 simp only [bne_self_eq_false,cond_false]
 rw [show laws_eqClaimS_L4 N0 N0 (lg,lg,(0:Int)) = _ from h]; rfl
theorem eqWorld_self (hs:Small xs kn li gv sh lg):laws_eqWorld N0 (xs,kn,li,fr,gv,sh,lg,xs,kn,li,fr,gv,sh,lg) = some true := by
 rw [laws_eqWorld]; dsimp only
 rw [eqPool_self N0 n0 hs.fx,eqIntS_self hs.fk,eqInstS_self hs.fl hs.fe,eqIntS_self hs.fg,eqIntS_self hs.fs,eqClaimS_self hs.fo]
 simp only [Option.bind_some,Bool.not_true,cond_false,bne_self_eq_false]
end
theorem big_of {xs:List Node3} {kn:List Int} {li:List Inst9} {gv sh:List Int} {lg:List Claim3} (h1:Fits (.sl kN) xs) (h2:Fits (.sl kI) kn) (h3:Fits (.sl (.pr kI (.pr kI (.pr kI (.pr kI (.pr kI (.pr (.sl kI) (.pr .bool (.pr .bool kI))))))))) li) (h4:Fits (.sl kI) gv) (h5:Fits (.sl kI) sh) (h6:Fits (.sl (.pr kI (.pr .bool .bool))) lg):Big xs kn li gv sh lg where
 fx := maxLen_eq ▸ h1.1
 fk := maxLen_eq ▸ h2.1
 fl := maxLen_eq ▸ h3.1
 fg := maxLen_eq ▸ h4.1
 fs := maxLen_eq ▸ h5.1
 fo := maxLen_eq ▸ h6.1
 fe := fun i hi => by
  have hm:li.getD i zI ∈ li := by rw [getD_of hi]; exact List.getElem_mem hi
  have := h3.2 _ hm
  exact maxLen_eq ▸ this.2.2.2.2.2.1.1
section
variable {xs:List Node3} {kn:List Int} {li:List Inst9} {fr:Int} {gv sh:List Int} {lg:List Claim3} {k:Int}
theorem contains_eq {l:List Int} (hl:l.length ≤ 4294967296) (v:Int):slices_Contains___int_int_ N0 (l,v) = some (hasAt l v) := by
 have h:∀ (m i:Nat),i ≤ l.length → l.length < m + i →
   (∃ j:Nat,slices_Index___int_int__L2 N0 m (l,v,(l.length:Int),(i:Int)) = some (.inl (j:Int)) ∧ allN (fun j => !(l.getD j 0 == v)) i (l.length - i) = false) ∨
   (slices_Index___int_int__L2 N0 m (l,v,(l.length:Int),(i:Int)) = some (.inr ()) ∧ allN (fun j => !(l.getD j 0 == v)) i (l.length - i) = true) := by
  intro m
  induction m with
  | zero => intro i h1 h2; omega
  | succ m ih =>
   intro i h1 h2
   rcases Nat.eq_or_lt_of_le h1 with q | q
   ·subst q
    refine .inr ⟨?_, ?_⟩
    ·rw [slices_Index___int_int__L2]; dsimp only; rw [lt_f]; rfl
    ·rw [Nat.sub_self]; rfl
   ·rw [slices_Index___int_int__L2]
    dsimp only
    rw [lt_t q,cond_true,inb_nat q,cond_true,Int.toNat_natCast,step_wrap q hl,show l.length - i = (l.length - (i + 1)) + 1 by omega]
    show (∃ j:Nat,_ ∧ (!(l.getD i 0 == v) && allN (fun j => !(l.getD j 0 == v)) (i + 1) (l.length - (i + 1))) = false) ∨ (_ ∧ (!(l.getD i 0 == v) && allN (fun j => !(l.getD j 0 == v)) (i + 1) (l.length - (i + 1))) = true)
    have hc:(v == l.getD i 0) = (l.getD i 0 == v) := by
     rw [Bool.eq_iff_iff,beq_iff_eq,beq_iff_eq]
     exact ⟨fun h => h.symm,fun h => h.symm⟩
    rw [hc]
    cases hq:(l.getD i 0 == v) with
    | true => exact .inl ⟨i,rfl,rfl⟩
    | false => exact ih (i + 1) q (by omega)
 rcases h N0 0 (Nat.zero_le _) (by have := n0; omega) with ⟨j,h1,h2⟩ | ⟨h1,h2⟩
 ·rw [slices_Contains___int_int_]; dsimp only
  rw [slices_Index___int_int_]; dsimp only
  rw [show slices_Index___int_int__L2 N0 N0 (l,v,(l.length:Int),(0:Int)) = _ from h1]
  unfold hasAt
  rw [Nat.sub_zero] at h2
  rw [h2]
  show some (decide ((j:Int) ≥ 0)) = some true
  rw [decide_eq_true (by omega:(j:Int) ≥ 0)]
 ·rw [slices_Contains___int_int_]; dsimp only
  rw [slices_Index___int_int_]; dsimp only
  rw [show slices_Index___int_int__L2 N0 N0 (l,v,(l.length:Int),(0:Int)) = _ from h1]
  unfold hasAt
  rw [Nat.sub_zero] at h2
  rw [h2]; rfl
theorem given_eq (hg:gv.length ≤ 4294967296) (v:Int):impl_World_given N0 (xs,kn,li,fr,gv,sh,lg,v) = some (xs,kn,li,fr,gv,sh,lg,hasAt gv v) := by
 rw [impl_World_given]; dsimp only
 rw [contains_eq hg]; rfl
def claimFrom (lg:List Claim3) (k:Int):Nat → Nat → Option Claim3
 | _,0 => none
 | i,m + 1 => bif lk lg i == k then some (lg.getD i zC) else claimFrom lg k (i + 1) m
def claimAt (lg:List Claim3) (k:Int):Option Claim3 := claimFrom lg k 0 lg.length
theorem implClaim_loop (hg:lg.length ≤ 4294967296):∀ (m i:Nat),i ≤ lg.length → lg.length < m + i → impl_World_claimOf_L2 N0 m (xs,kn,li,fr,gv,sh,lg,k,(0:Int),false,false,lg,(lg.length:Int),(i:Int)) =
  some (match claimFrom lg k i (lg.length - i) with | some c => .inl (xs,kn,li,fr,gv,sh,lg,c.1,c.2.1,c.2.2,true) | none => .inr (xs,kn,li,fr,gv,sh,lg,(0:Int),false,false))
 | 0,i,h1,h2 => by omega
 | m + 1,i,h1,h2 => by
  rcases Nat.eq_or_lt_of_le h1 with q | q
  ·subst q
   rw [impl_World_claimOf_L2]; dsimp only; rw [lt_f,Nat.sub_self]; rfl
  ·have ih := implClaim_loop hg m (i + 1) q (by omega)
   rw [impl_World_claimOf_L2]; dsimp only
   rw [lt_t q,cond_true,inb_nat q,cond_true,Int.toNat_natCast,step_wrap q hg,show lg.length - i = (lg.length - (i + 1)) + 1 by omega,ih]
   show (cond (lk lg i == k) _ _) = some (match (bif lk lg i == k then some (lg.getD i zC) else claimFrom lg k (i + 1) (lg.length - (i + 1))) with | some c => _ | none => _)
   cases (lk lg i == k) <;> rfl
theorem implClaim_eq (hg:lg.length ≤ 4294967296):impl_World_claimOf N0 (xs,kn,li,fr,gv,sh,lg,k) =
  some (match claimAt lg k with | some c => (xs,kn,li,fr,gv,sh,lg,c.1,c.2.1,c.2.2,true) | none => (xs,kn,li,fr,gv,sh,lg,(0:Int),false,false,false)) := by
 have h := implClaim_loop (xs := xs) (kn := kn) (li := li) (fr := fr) (gv := gv) (sh := sh) (k := k) hg N0 0 (Nat.zero_le _) (by have := n0; omega)
 rw [Nat.sub_zero] at h
 rw [impl_World_claimOf]; dsimp only
 rw [show impl_World_claimOf_L2 N0 N0 (xs,kn,li,fr,gv,sh,lg,k,(0:Int),false,false,lg,(lg.length:Int),(0:Int)) = _ from h]
 unfold claimAt
 cases claimFrom lg k 0 lg.length <;> rfl
theorem specClaim_loop (hg:lg.length ≤ 4294967296):∀ (m i:Nat),i ≤ lg.length → lg.length < m + i → spec_l15Claim_L2 N0 m (k,xs,kn,li,fr,gv,sh,lg,(0:Int),false,false,(i:Int)) =
  some (match claimFrom lg k i (lg.length - i) with | some c => .inl (c.1,c.2.1,c.2.2,true) | none => .inr ((0:Int),false,false))
 | 0,i,h1,h2 => by omega
 | m + 1,i,h1,h2 => by
  rcases Nat.eq_or_lt_of_le h1 with q | q
  ·subst q
   rw [spec_l15Claim_L2]; dsimp only; rw [lt_f,Nat.sub_self]; rfl
  ·have ih := specClaim_loop hg m (i + 1) q (by omega)
   rw [spec_l15Claim_L2]; dsimp only
   rw [lt_t q,cond_true,inb_nat q,cond_true,cond_true,Int.toNat_natCast,step_wrap q hg,show lg.length - i = (lg.length - (i + 1)) + 1 by omega,ih]
   show (cond (lk lg i == k) _ _) = some (match (bif lk lg i == k then some (lg.getD i zC) else claimFrom lg k (i + 1) (lg.length - (i + 1))) with | some c => _ | none => _)
   cases (lk lg i == k) <;> rfl
theorem specClaim_eq (hg:lg.length ≤ 4294967296):spec_l15Claim N0 (xs,kn,li,fr,gv,sh,lg,k) =
  some (match claimAt lg k with | some c => (c.1,c.2.1,c.2.2,true) | none => ((0:Int),false,false,false)) := by
 have h := specClaim_loop (xs := xs) (kn := kn) (li := li) (fr := fr) (gv := gv) (sh := sh) (k := k) hg N0 0 (Nat.zero_le _) (by have := n0; omega)
 rw [Nat.sub_zero] at h
 rw [spec_l15Claim]; dsimp only
 rw [show spec_l15Claim_L2 N0 N0 (k,xs,kn,li,fr,gv,sh,lg,(0:Int),false,false,(0:Int)) = _ from h]
 unfold claimAt
 cases claimFrom lg k 0 lg.length <;> rfl
theorem claimFrom_lk (lg:List Claim3) (k:Int):∀ (m i:Nat) {c:Claim3},claimFrom lg k i m = some c → ∃ j,i ≤ j ∧ j < i + m ∧ lk lg j = k
 | 0,i,c,h => by cases h
 | m + 1,i,c,h => by
  unfold claimFrom at h
  cases q:(lk lg i == k) with
  | true => exact ⟨i,Nat.le_refl _,by omega,beq_iff_eq.1 q⟩
  | false =>
   rw [q] at h
   obtain ⟨j,h1,h2,h3⟩ := claimFrom_lk lg k m (i + 1) h
   exact ⟨j,by omega,by omega,h3⟩
theorem world_claim (hw:worldB xs kn li fr gv sh lg = true) {c:Claim3} (hc:claimAt lg k = some c):inst0 (li.length:Int) k = true := by
 obtain ⟨j,_,h2,h3⟩ := claimFrom_lk lg k _ 0 hc
 unfold worldB at hw
 simp only [Bool.and_eq_true] at hw
 have hl := hw.2.2.2.2.2.2.2.2.1
 rw [allN_iff] at hl
 have := hl j (Nat.zero_le _) h2
 unfold gLog at this
 rw [Bool.and_eq_true] at this
 have := this.1
 unfold doneB at this
 rw [Bool.and_eq_true,h3] at this
 exact this.1
theorem world_shown (hw:worldB xs kn li fr gv sh lg = true) {j:Nat} (hj:j < sh.length):inst0 (li.length:Int) (sh.getD j 0) = true := by
 unfold worldB at hw
 simp only [Bool.and_eq_true] at hw
 have hl := hw.2.2.2.2.2.2.2.1
 unfold shownB at hl
 rw [allN_iff] at hl
 have := hl j (Nat.zero_le _) (by omega)
 unfold doneB at this
 rw [Bool.and_eq_true] at this
 exact this.1
def trustB (li:List Inst9) (lg:List Claim3) (k:Int):Bool := match claimAt lg k with
 | some c => !c.2.1 && (((li.getD k.toNat zI).1 != (2:Int)) || !c.2.2)
 | none => false
theorem implTrusted_eq (hs:Small xs kn li gv sh lg) (hw:worldB xs kn li fr gv sh lg = true):impl_World_trusted N0 (xs,kn,li,fr,gv,sh,lg,k) = some (xs,kn,li,fr,gv,sh,lg,trustB li lg k) := by
 rw [impl_World_trusted]; dsimp only
 rw [implClaim_eq hs.fo]
 simp only [Option.bind_some]
 unfold trustB
 cases hc:claimAt lg k with
 | none => rfl
 | some c =>
  have := inst0_inb (world_claim hw hc)
  dsimp only
  rw [this]
  cases c.2.1 <;> cases ((li.getD k.toNat zI).1 != (2:Int)) <;> cases c.2.2 <;> rfl
theorem specTrusted_eq (hs:Small xs kn li gv sh lg) (hw:worldB xs kn li fr gv sh lg = true):spec_l15Trusted N0 (xs,kn,li,fr,gv,sh,lg,k) = some (trustB li lg k) := by
 rw [spec_l15Trusted]; dsimp only
 rw [specClaim_eq hs.fo]
 simp only [Option.bind_some]
 unfold trustB
 cases hc:claimAt lg k with
 | none => rfl
 | some c =>
  have := inst0_inb (world_claim hw hc)
  dsimp only
  rw [this]
  cases c.2.1 <;> cases ((li.getD k.toNat zI).1 != (2:Int)) <;> cases c.2.2 <;> rfl
def keyAt (li:List Inst9) (k:Int):Int := (li.getD k.toNat zI).2.2.2.2.2.2.2.2
def noKey (li:List Inst9) (sh:List Int) (k:Int) (j:Nat):Bool := !(keyAt li (sh.getD j 0) == keyAt li k)
def keyShownB (li:List Inst9) (sh:List Int) (k:Int):Bool := doneB li k && !allN (noKey li sh k) 0 sh.length
theorem one_eq {j:Int} (h1:inst0 (li.length:Int) j = true) (h2:inst0 (li.length:Int) k = true):impl_World_keyShown_1 N0 (j,false,k,xs,kn,li,fr,gv,sh,lg) = some (false,k,xs,kn,li,fr,gv,sh,lg,keyAt li j == keyAt li k) := by
 rw [impl_World_keyShown_1]; dsimp only
 rw [inst0_inb h1,inst0_inb h2]; rfl
theorem indexFunc_loop (hs:Small xs kn li gv sh lg) (hw:worldB xs kn li fr gv sh lg = true) (hk:inst0 (li.length:Int) k = true):∀ (m i:Nat),i ≤ sh.length → sh.length < m + i →
  (∃ j:Nat,slices_IndexFunc___int_int__L2 N0 m (sh,false,(sh.length:Int),(i:Int),false,k,xs,kn,li,fr,gv,sh,lg) = some (.inl ((j:Int),false,k,xs,kn,li,fr,gv,sh,lg)) ∧ allN (noKey li sh k) i (sh.length - i) = false) ∨
  (slices_IndexFunc___int_int__L2 N0 m (sh,false,(sh.length:Int),(i:Int),false,k,xs,kn,li,fr,gv,sh,lg) = some (.inr (false,k,xs,kn,li,fr,gv,sh,lg)) ∧ allN (noKey li sh k) i (sh.length - i) = true)
 | 0,i,h1,h2 => by omega
 | m + 1,i,h1,h2 => by
  rcases Nat.eq_or_lt_of_le h1 with q | q
  ·subst q
   refine .inr ⟨?_, ?_⟩
   ·rw [slices_IndexFunc___int_int__L2]; dsimp only; rw [lt_f]; rfl
   ·rw [Nat.sub_self]; rfl
  ·have ih := indexFunc_loop hs hw hk m (i + 1) q (by omega)
   rw [slices_IndexFunc___int_int__L2]
   dsimp only
   rw [lt_t q,cond_true,inb_nat q,cond_true,Int.toNat_natCast,step_wrap q hs.fs,show sh.length - i = (sh.length - (i + 1)) + 1 by omega,one_eq (world_shown hw q) hk]
   simp only [Option.bind_some]
   show (∃ j:Nat,_ ∧ (noKey li sh k i && allN (noKey li sh k) (i + 1) (sh.length - (i + 1))) = false) ∨ (_ ∧ (noKey li sh k i && allN (noKey li sh k) (i + 1) (sh.length - (i + 1))) = true)
   unfold noKey at ih ⊢
   cases hq:(keyAt li (sh.getD i 0) == keyAt li k) with
   | true => exact .inl ⟨i,rfl,rfl⟩
   | false => exact ih
theorem implShown_eq (hs:Small xs kn li gv sh lg) (hw:worldB xs kn li fr gv sh lg = true):impl_World_keyShown N0 (xs,kn,li,fr,gv,sh,lg,k) = some (xs,kn,li,fr,gv,sh,lg,keyShownB li sh k) := by
 rw [impl_World_keyShown]; dsimp only
 rw [isDone_eq hs.fl]
 simp only [Option.bind_some]
 unfold keyShownB
 cases hd:doneB li k with
 | false => rfl
 | true =>
  have hk:inst0 (li.length:Int) k = true := by
   unfold doneB at hd
   rw [Bool.and_eq_true] at hd
   exact hd.1
  rw [cond_true,slices_ContainsFunc___int_int_]; dsimp only
  rw [slices_IndexFunc___int_int_]; dsimp only
  rcases indexFunc_loop hs hw hk N0 0 (Nat.zero_le _) (by have := n0; have := hs.fs; omega) with ⟨j,h1,h2⟩ | ⟨h1,h2⟩
  ·rw [show slices_IndexFunc___int_int__L2 N0 N0 (sh,false,(sh.length:Int),(0:Int),false,k,xs,kn,li,fr,gv,sh,lg) = _ from h1]
   rw [Nat.sub_zero] at h2
   rw [h2]
   simp only [Option.bind_some]
   rw [decide_eq_true (by omega:(j:Int) ≥ 0)]; rfl
  ·rw [show slices_IndexFunc___int_int__L2 N0 N0 (sh,false,(sh.length:Int),(0:Int),false,k,xs,kn,li,fr,gv,sh,lg) = _ from h1]
   rw [Nat.sub_zero] at h2
   rw [h2]; rfl
theorem specShown_eq (hs:Small xs kn li gv sh lg) (hw:worldB xs kn li fr gv sh lg = true):spec_l15Shown N0 (xs,kn,li,fr,gv,sh,lg,k) = some (keyShownB li sh k) := by
 have hli := hs.fl
 rw [spec_l15Shown]; dsimp only
 rw [wrap_ok (show -9223372036854775808 ≤ (li.length:Int) - 1 by omega) (show (li.length:Int) - 1 ≤ 9223372036854775807 by omega),in_eq]
 simp only [Option.bind_some]
 rw [show (decide (k ≥ 0) && decide (k ≤ (li.length:Int) - 1)) = inst0 (li.length:Int) k from rfl]
 unfold keyShownB doneB
 cases hk:inst0 (li.length:Int) k with
 | false => rfl
 | true =>
  rw [inst0_inb hk]
  unfold dn
  cases (li.getD k.toNat zI).2.2.2.2.2.2.1 with
  | false => rfl
  | true =>
   have h := test_loop (spec_l15Shown_L4 N0) (fun i => (k,xs,kn,li,fr,gv,sh,lg,(i:Int))) (noKey li sh k) true () sh.length (fun m i hi => by
    rw [spec_l15Shown_L4]; dsimp only
    rw [lt_t hi,cond_true,inb_nat hi,cond_true,Int.toNat_natCast,step_wrap hi hs.fs,inst0_inb (world_shown hw hi),cond_true,inst0_inb hk,cond_true]
    unfold noKey keyAt
    cases ((li.getD (sh.getD i 0).toNat zI).2.2.2.2.2.2.2.2 == (li.getD k.toNat zI).2.2.2.2.2.2.2.2) <;> rfl) (fun m => by
    rw [spec_l15Shown_L4]; dsimp only; rw [lt_f]; rfl) N0 0 (Nat.zero_le _) (by have := n0; have := hs.fs; omega)
   rw [Nat.sub_zero] at h
   show ((spec_l15Shown_L4 N0 N0 (k,xs,kn,li,fr,gv,sh,lg,(0:Int))).bind _) = _
   rw [show spec_l15Shown_L4 N0 N0 (k,xs,kn,li,fr,gv,sh,lg,(0:Int)) = _ from h]
   cases allN (noKey li sh k) 0 sh.length <;> rfl
end
abbrev zN3:Node3 := ((0:Int),((0:Int),(0:Int)))
def pf (xs:List Node3) (k:Node3):Nat → Nat → Option Nat
 | _,0 => none
 | i,m + 1 => if xs.getD i zN3 = k then some i else pf xs k (i + 1) m
abbrev pfind (xs:List Node3) (k:Node3):Option Nat := pf xs k 0 xs.length
theorem pf_some {xs:List Node3} {k:Node3}:∀ {m i j:Nat},pf xs k i m = some j → i ≤ j ∧ j < i + m ∧ xs.getD j zN3 = k
 | 0,_,_,h => by cases h
 | m + 1,i,j,h => by
  unfold pf at h
  by_cases hk:xs.getD i zN3 = k
  ·rw [if_pos hk] at h
   obtain rfl := Option.some.inj h
   exact ⟨Nat.le_refl _,by omega,hk⟩
  ·rw [if_neg hk] at h
   obtain ⟨h1,h2,h3⟩ := pf_some h
   exact ⟨by omega,by omega,h3⟩
theorem node_beq (p k:Node3):(p.1 == k.1 && (p.2.1 == k.2.1 && (p.2.2 == k.2.2 && true))) = decide (p = k) := by
 obtain ⟨p1,p2,p3⟩ := p
 obtain ⟨k1,k2,k3⟩ := k
 rw [Bool.eq_iff_iff]
 simp
theorem node_beq' (p k:Node3):(k.1 == p.1 && (k.2.1 == p.2.1 && (k.2.2 == p.2.2 && true))) = decide (p = k) := by
 rw [node_beq k p,Bool.eq_iff_iff]
 simp [eq_comm]
theorem pf_step {xs:List Node3} {k:Node3} {i:Nat} (h:i < xs.length):pf xs k i (xs.length - i) = if xs.getD i zN3 = k then some i else pf xs k (i + 1) (xs.length - (i + 1)) := by
 have e:xs.length - i = (xs.length - (i + 1)) + 1 := by omega
 rw [e]; rfl
theorem pf_end {xs:List Node3} {k:Node3} {i:Nat} (h:xs.length ≤ i):pf xs k i (xs.length - i) = none := by
 have e:xs.length - i = 0 := by omega
 rw [e]; rfl
theorem index_loop (n:Nat) {xs:List Node3} (hx:xs.length ≤ 4294967296) (k:Node3):∀ (m i:Nat),i ≤ xs.length → xs.length < m + i → slices_Index___impl_Node_impl_Node__L2 n m (xs,k.1,k.2.1,k.2.2,(xs.length:Int),(i:Int)) =
  some (match pf xs k i (xs.length - i) with | some j => Sum.inl (j:Int) | none => Sum.inr ())
 | 0,i,h1,h2 => by omega
 | m + 1,i,h1,h2 => by
  have e0:slices_Index___impl_Node_impl_Node__L2 n (m + 1) (xs,k.1,k.2.1,k.2.2,(xs.length:Int),(i:Int)) = (cond (decide ((i:Int) < (xs.length:Int))) (cond (inb (i:Int) xs.length) (cond (k.1 == (xs.getD ((i:Int)).toNat zN3).1 && (k.2.1 == (xs.getD ((i:Int)).toNat zN3).2.1 && (k.2.2 == (xs.getD ((i:Int)).toNat zN3).2.2 && true))) (some (Sum.inl (i:Int))) (slices_Index___impl_Node_impl_Node__L2 n m (xs,k.1,k.2.1,k.2.2,(xs.length:Int),IntKind.i64.wrap ((i:Int) + (1:Int))))) none) (some (Sum.inr ()))) := rfl
  rw [e0,lt_nat]
  by_cases hlt:i < xs.length
  ·rw [decide_eq_true hlt,cond_true,inb_nat hlt,cond_true,Int.toNat_natCast,step_wrap hlt hx,node_beq',pf_step hlt]
   by_cases hk:xs.getD i zN3 = k
   ·rw [decide_eq_true hk,cond_true,if_pos hk]
   ·rw [decide_eq_false hk,cond_false,if_neg hk,index_loop n hx k m (i + 1) hlt (by omega)]
  ·rw [decide_eq_false hlt,cond_false,pf_end (by omega)]
theorem find_loop2 (n:Nat) {xs:List Node3} (hx:xs.length ≤ 4294967296) (k:Node3):∀ (m i:Nat),i ≤ xs.length → xs.length < m + i → spec_l1Find_L2 n m (xs,k.1,k.2.1,k.2.2,(i:Int)) =
  some (match pf xs k i (xs.length - i) with | some j => Sum.inl (j:Int) | none => Sum.inr ())
 | 0,i,h1,h2 => by omega
 | m + 1,i,h1,h2 => by
  have e0:spec_l1Find_L2 n (m + 1) (xs,k.1,k.2.1,k.2.2,(i:Int)) = (cond (decide ((i:Int) < (xs.length:Int))) (cond (inb (i:Int) xs.length) (cond ((xs.getD ((i:Int)).toNat zN3).1 == k.1 && ((xs.getD ((i:Int)).toNat zN3).2.1 == k.2.1 && ((xs.getD ((i:Int)).toNat zN3).2.2 == k.2.2 && true))) (some (Sum.inl (i:Int))) (spec_l1Find_L2 n m (xs,k.1,k.2.1,k.2.2,IntKind.i64.wrap ((i:Int) + (1:Int))))) none) (some (Sum.inr ()))) := rfl
  rw [e0,lt_nat]
  by_cases hlt:i < xs.length
  ·rw [decide_eq_true hlt,cond_true,inb_nat hlt,cond_true,Int.toNat_natCast,step_wrap hlt hx,node_beq,pf_step hlt]
   by_cases hk:xs.getD i zN3 = k
   ·rw [decide_eq_true hk,cond_true,if_pos hk]
   ·rw [decide_eq_false hk,cond_false,if_neg hk,find_loop2 n hx k m (i + 1) hlt (by omega)]
  ·rw [decide_eq_false hlt,cond_false,pf_end (by omega)]
def pfI (xs:List Node3) (k:Node3):Int := match pfind xs k with
 | some j => (j:Int)
 | none => -1
theorem index_eq {xs:List Node3} (hx:xs.length ≤ 4294967296) (k:Node3):slices_Index___impl_Node_impl_Node_ N0 (xs,k.1,k.2.1,k.2.2) = some (pfI xs k) := by
 unfold slices_Index___impl_Node_impl_Node_
 dsimp only
 have h := index_loop N0 hx k N0 0 (Nat.zero_le _) (by have := n0; omega)
 rw [Nat.sub_zero] at h
 rw [show (0:Int) = ((0:Nat):Int) from rfl,h]
 unfold pfI pfind
 cases pf xs k 0 xs.length <;> rfl
theorem l1Find_eq {xs:List Node3} (hx:xs.length ≤ 4294967296) (k:Node3):spec_l1Find N0 (xs,k.1,k.2.1,k.2.2) = some (pfI xs k) := by
 unfold spec_l1Find
 dsimp only
 have h := find_loop2 N0 hx k N0 0 (Nat.zero_le _) (by have := n0; omega)
 rw [Nat.sub_zero] at h
 rw [show (0:Int) = ((0:Nat):Int) from rfl,h]
 unfold pfI pfind
 cases pf xs k 0 xs.length <;> rfl
theorem okFrom_nd {n:Nat}:∀ {r pre:List Node3},okFrom n pre r = true → ∀ j,j < r.length → nodeV n ((r.getD j zN3).1,(r.getD j zN3).2.1,(r.getD j zN3).2.2,((pre.length + j:Nat):Int)) = true
 | [],pre,_,j,hj => absurd hj (Nat.not_lt_zero _)
 | k :: r,pre,h,j,hj => by
  have h:((!pre.contains k && nodeV n (k.1,k.2.1,k.2.2,(pre.length:Int))) && okFrom n (pre ++ [k]) r) = true := h
  rw [Bool.and_eq_true,Bool.and_eq_true] at h
  match j with
  | 0 => exact h.1.2
  | j + 1 =>
   have := okFrom_nd h.2 j (by simpa using hj)
   rw [List.length_append] at this
   have e:pre.length + (j + 1) = pre.length + [k].length + j := by simp; omega
   rw [e]
   exact this
theorem poolB_len {xs:List Node3} (h:poolB xs = true):xs.length ≤ 500 := by
 unfold poolB at h
 rw [Bool.and_eq_true,decide_eq_true_iff] at h
 exact h.1
theorem poolB_nd {xs:List Node3} (h:poolB xs = true) {j:Nat} (hj:j < xs.length):nodeV N0 ((xs.getD j zN3).1,(xs.getD j zN3).2.1,(xs.getD j zN3).2.2,(j:Int)) = true := by
 unfold poolB at h
 rw [Bool.and_eq_true] at h
 have := okFrom_nd h.2 j hj
 simpa using this
def addK (xs:List Node3) (k:Node3):Option (List Node3×Int) :=
 bif nodeV N0 (k.1,k.2.1,k.2.2,(xs.length:Int)) then (match pfind xs k with
  | some j => some (xs,(j:Int))
  | none => if 500 ≤ xs.length then none else some (xs ++ [k],(xs.length:Int))) else none
def norm (kd a b:Int):Node3 := bif kd == 8 then (kd,mn a b,mx a b) else (kd,a,b)
def addP (xs:List Node3) (kd a b:Int):Option (List Node3×Int) := addK xs (norm kd a b)
def raiseP (xs:List Node3) (a e:Int):Option (List Node3×Int) :=
 bif hasB xs a then (bif hasB xs e then (bif (xs.getD a.toNat zN3).1 == 7 then addP xs 8 e (xs.getD a.toNat zN3).2.1 else none) else none) else none
inductive Pat where
 | name (c:Int)
 | var (i:Int)
 | ask (i:Int)
 | un (k:Int) (p:Pat)
 | bin (k:Int) (p q:Pat)
 | exp (p q:Pat)
def mk (env:List Int):Pat → List Node3 → Option (List Node3×Int)
 | .name c,xs => addP xs 1 c 0
 | .var i,xs => bif decide (env.getD i.toNat 0 < 0) then none else some (xs,env.getD i.toNat 0)
 | .ask _,xs => none
 | .un k p,xs => (mk env p xs).bind fun r => addP r.1 k r.2 0
 | .bin k p q,xs => (mk env p xs).bind fun r => (mk env q r.1).bind fun s => addP s.1 k r.2 s.2
 | .exp p q,xs => (mk env p xs).bind fun r => (mk env q r.1).bind fun s => raiseP s.1 s.2 r.2
def Grown (xs ys:List Node3) (t:Int):Prop := poolB ys = true ∧ 0 ≤ t ∧ (∃ zs,ys = xs ++ zs)
theorem Grown.trans {xs ys zs:List Node3} {t u:Int} (h1:Grown xs ys t) (h2:Grown ys zs u):Grown xs zs u := by
 obtain ⟨a1,a2,v,rfl⟩ := h1
 obtain ⟨b1,b2,w,rfl⟩ := h2
 exact ⟨b1,b2,v ++ w,by rw [List.append_assoc]⟩
def roleL (w p:Int):List (Int×ByteArray) := (spec_l12Acts N0 (w,p)).getD []
theorem role_eq {w p:Int} (hw:w = 1 ∨ w = 2 ∨ w = 3) (hp:p = 0 ∨ p = 1):impl_roleOf N0 (w,p) = some (roleL w p,true) ∧ spec_l12Acts N0 (w,p) = some (roleL w p) ∧ (roleL w p).length = 5 := by
 rcases hw with rfl | rfl | rfl <;> rcases hp with rfl | rfl
 all_goals exact ⟨by kernel_rfl,by kernel_rfl,by kernel_rfl⟩
theorem no_ft (h:some false = some true):False := by cases h
structure Good9 (xs:List Node3) (x:Inst9):Prop where
 way:x.1 = 1 ∨ x.1 = 2 ∨ x.1 = 3
 side:x.2.1 = 0 ∨ x.2.1 = 1
 me:0 ≤ x.2.2.1 ∧ x.2.2.1 ≤ 4
 peer:0 ≤ x.2.2.2.1 ∧ x.2.2.2.1 ≤ 4
 ne:x.2.2.1 ≠ x.2.2.2.1
 env:envB xs (envL x) = true
 len:(envL x).length = 26
 pool:poolB xs = true
 at0:0 ≤ x.2.2.2.2.1 ∧ x.2.2.2.2.1 ≤ 5
 done:dn x = (x.2.2.2.2.1 == 5)
 live:dn x = true → x.2.2.2.2.2.2.2.1 = false
 key:dn x = true → hasB xs x.2.2.2.2.2.2.2.2 = true
 no:dn x = false → x.2.2.2.2.2.2.2.2 = -1
theorem good_of {xs:List Node3} (hx:xs.length ≤ 4294967296) {x:Inst9} (he:(envL x).length ≤ 4294967296) (h:instV xs x = true):Good9 xs x := by
 have h1 := (instV_eqS hx he).1
 rw [h] at h1
 obtain ⟨w,p,a,b,at_,env,d,dd,key⟩ := x
 dsimp only at h1
 unfold impl_InstOk at h1
 simp only [implEnv_eq N0 n0 hx (show env.length ≤ 4294967296 from he),agent_eq,Option.bind_some] at h1
 by_cases hr:(w = 1 ∨ w = 2 ∨ w = 3) ∧ (p = 0 ∨ p = 1)
 ·obtain ⟨r1,r2,r3⟩ := role_eq hr.1 hr.2
  rw [r1] at h1
  simp only [Option.bind_some,inRange_eq,isTerm_eq N0 hx,r3,Bool.not_true,cond_false] at h1
  cases ha:(decide (a ≥ 0) && decide (a ≤ 4)) with
  | false => rw [ha] at h1; exact (no_ft h1).elim
  | true =>
   cases hb:(decide (b ≥ 0) && decide (b ≤ 4)) with
   | false => rw [ha,hb] at h1; exact (no_ft h1).elim
   | true =>
    cases hab:(a == b) with
    | true => rw [ha,hb,hab] at h1; exact (no_ft h1).elim
    | false =>
     cases h2:(envB xs env && (decide (env.length = 26) && (decide (xs.length ≤ 500) && okFrom N0 [] xs))) with
     | false => rw [ha,hb,hab,h2] at h1; exact (no_ft h1).elim
     | true =>
      cases h3:(decide (at_ ≥ 0) && decide (at_ ≤ ((5:Nat):Int))) with
      | false => rw [ha,hb,hab,h2,h3] at h1; exact (no_ft h1).elim
      | true =>
       rw [ha,hb,hab,h2,h3] at h1
       simp only [Bool.not_true,cond_false] at h1
       rw [Bool.and_eq_true,decide_eq_true_iff,decide_eq_true_iff] at ha hb h3
       rw [Bool.and_eq_true,Bool.and_eq_true] at h2
       have h5:(at_ == ((5:Nat):Int)) = (at_ == 5) := rfl
       rw [h5] at h1
       cases h4:((at_ == 5) != d) with
       | true => rw [h4] at h1; exact (no_ft h1).elim
       | false =>
        rw [h4,cond_false] at h1
        have h6:d = (at_ == 5) := by
         rw [bne_eq_false_iff_eq] at h4
         exact h4.symm
        refine ⟨hr.1,hr.2,⟨ha.1,ha.2⟩,⟨hb.1,hb.2⟩,by simpa using hab,h2.1,of_decide_eq_true h2.2.1,h2.2.2,⟨h3.1,h3.2⟩,h6,fun hd => ?_,fun hd => ?_,fun hd => ?_⟩
        ·have hd:d = true := hd
         subst hd
         show dd = false
         cases dd with
         | false => rfl
         | true => exact (no_ft h1).elim
        ·have hd:d = true := hd
         subst hd
         cases dd with
         | false => exact Option.some.inj h1
         | true => exact (no_ft h1).elim
        ·have hd:d = false := hd
         subst hd
         have:(key == -1) = true := Option.some.inj h1
         exact by simpa using this
 ·rw [(role_out w p hr).1] at h1
  exact (no_ft h1).elim
section
variable {xs:List Node3} {kn:List Int} {li:List Inst9} {fr:Int} {gv sh:List Int} {lg:List Claim3} {k:Int}
theorem world_inst (hw:worldB xs kn li fr gv sh lg = true) {i:Nat} (hi:i < li.length):instV xs (li.getD i zI) = true := by
 unfold worldB at hw
 rw [Bool.and_eq_true,Bool.and_eq_true,Bool.and_eq_true,Bool.and_eq_true,Bool.and_eq_true,Bool.and_eq_true] at hw
 have h := hw.2.2.2.2.2.1
 unfold instsB at h
 exact allN_iff.1 h i (Nat.zero_le _) (by omega)
theorem world_good (hs:Small xs kn li gv sh lg) (hw:worldB xs kn li fr gv sh lg = true) {i:Nat} (hi:i < li.length):Good9 xs (li.getD i zI) := good_of hs.fx (hs.fe i hi) (world_inst hw hi)
end
def EnvG (env:List Int):Prop := env.length = 26 ∧ ∀ i:Nat,env.getD i 0 < 0 → env.getD i 0 = -1
theorem set_get {env:List Int} {i:Nat} (h:i < env.length) (t:Int):(env.set i t).getD i 0 = t := by
 rw [List.getD_eq_getElem?_getD,List.getElem?_set_self h]; rfl
theorem EnvG.set {env:List Int} (h:EnvG env) {i:Nat} (hi:i < env.length) {t:Int} (ht:0 ≤ t):EnvG (env.set i t) := by
 refine ⟨by rw [List.length_set]; exact h.1,fun j hj => ?_⟩
 by_cases e:i = j
 ·subst e
  rw [set_get hi] at hj
  omega
 ·have e2:(env.set i t).getD j 0 = env.getD j 0 := by rw [List.getD_eq_getElem?_getD,List.getD_eq_getElem?_getD,List.getElem?_set_ne e]
  rw [e2] at hj ⊢
  exact h.2 _ hj
abbrev nd (xs:List Node3) (t:Int):Node3 := xs.getD t.toNat zN3
theorem get_pre {α:Type} (pre r:List α) (a d:α):(pre ++ a :: r).getD pre.length d = a := by
 rw [List.getD_eq_getElem?_getD,List.getElem?_append_right (Nat.le_refl _),Nat.sub_self]; rfl
theorem in_pre {α:Type} (pre r:List α) (a:α):inb (pre.length:Int) (pre ++ a :: r).length = true := inb_nat (by simp)
theorem lt_pre {α:Type} (pre r:List α) (a:α):decide ((pre.length:Int) < ((pre ++ a :: r).length:Int)) = true := decide_eq_true (by simp; omega)
theorem lt_end {α:Type} (pre:List α):decide ((pre.length:Int) < ((pre ++ ([]:List α)).length:Int)) = false := decide_eq_false (by simp)
theorem app_one {α:Type} (pre r:List α) (a:α):pre ++ a :: r = (pre ++ [a]) ++ r := by rw [List.append_assoc]; rfl
theorem len_one {α:Type} (pre:List α) (a:α):((pre ++ [a]).length:Int) = (pre.length:Int) + 1 := by rw [List.length_append,List.length_singleton]; omega
theorem nd_cases {k a b:Int} {i:Nat} (hi:i ≤ 4294967296) (h:nodeV N0 (k,a,b,(i:Int)) = true):(k = 1 ∧ 0 ≤ a ∧ a ≤ 199) ∨ ((k = 5 ∨ k = 7) ∧ 0 ≤ a ∧ a < (i:Int)) ∨ ((k = 2 ∨ k = 3 ∨ k = 4 ∨ k = 6 ∨ k = 8) ∧ 0 ≤ a ∧ a < (i:Int) ∧ 0 ≤ b ∧ b < (i:Int)) := by
 have w:IntKind.i64.wrap ((i:Int) - (1:Int)) = (i:Int) - 1 := wrap_ok (by omega) (by omega)
 have hr:∀ v lo hi:Int,impl_inRange N0 (v,lo,hi) = some (decide (v ≥ lo) && decide (v ≤ hi)) := fun v lo hi => by
  unfold impl_inRange
  cases q:decide (v ≥ lo) <;> (simp [q])
 have hk:nodeV N0 (k,a,b,(i:Int)) = (impl_nodeOk N0 (k,a,b,(i:Int))).getD false := rfl
 rw [hk] at h
 unfold impl_nodeOk at h
 dsimp only at h
 rw [w,hr,hr,hr] at h
 by_cases h1:k = 1
 ·subst h1
  rw [show impl_count N0 1 = some 0 from rfl] at h
  left
  cases q:(decide (a ≥ 0) && decide (a ≤ 199)) with
  | false => simp only [Option.bind_some,beq_self_eq_true,cond_true,q] at h; cases h
  | true =>
   rw [Bool.and_eq_true,decide_eq_true_iff,decide_eq_true_iff] at q
   exact ⟨rfl,q.1,q.2⟩
 by_cases h5:k = 5 ∨ k = 7
 ·right; left
  have hc:impl_count N0 k = some 1 := by rcases h5 with rfl | rfl <;> rfl
  rw [hc] at h
  cases q:(decide (a ≥ 0) && decide (a ≤ (i:Int) - 1)) with
  | false => simp only [Option.bind_some,show ((1:Int) == 0) = false from rfl,beq_self_eq_true,cond_true,cond_false,q] at h; cases h
  | true =>
   rw [Bool.and_eq_true,decide_eq_true_iff,decide_eq_true_iff] at q
   exact ⟨h5,q.1,by omega⟩
 by_cases h2:k = 2 ∨ k = 3 ∨ k = 4 ∨ k = 6 ∨ k = 8
 ·right; right
  have hc:impl_count N0 k = some 2 := by rcases h2 with rfl | rfl | rfl | rfl | rfl <;> rfl
  rw [hc] at h
  cases q:(decide (a ≥ 0) && decide (a ≤ (i:Int) - 1)) with
  | false => simp only [Option.bind_some,show ((2:Int) == 0) = false from rfl,show ((2:Int) == 1) = false from rfl,beq_self_eq_true,cond_true,cond_false,q] at h; cases h
  | true =>
   cases q2:(decide (b ≥ 0) && decide (b ≤ (i:Int) - 1)) with
   | false => simp only [Option.bind_some,show ((2:Int) == 0) = false from rfl,show ((2:Int) == 1) = false from rfl,beq_self_eq_true,cond_true,cond_false,q,q2] at h; cases h
   | true =>
    rw [Bool.and_eq_true,decide_eq_true_iff,decide_eq_true_iff] at q q2
    exact ⟨h2,q.1,by omega,q2.1,by omega⟩
 exfalso
 have hc:∃ c,impl_count N0 k = some c ∧ c ≠ 0 ∧ c ≠ 1 ∧ c ≠ 2 := by
  unfold impl_count
  simp only [show (k == 1) = false from by rw [beq_eq_false_iff_ne]; exact h1,show (k == 2) = false from by rw [beq_eq_false_iff_ne]; omega,show (k == 3) = false from by rw [beq_eq_false_iff_ne]; omega,show (k == 4) = false from by rw [beq_eq_false_iff_ne]; omega,show (k == 5) = false from by rw [beq_eq_false_iff_ne]; omega,show (k == 6) = false from by rw [beq_eq_false_iff_ne]; omega,show (k == 7) = false from by rw [beq_eq_false_iff_ne]; omega,show (k == 8) = false from by rw [beq_eq_false_iff_ne]; omega,cond_false]
  exact ⟨_,rfl,by decide,by decide,by decide⟩
 obtain ⟨c,hc,c0,c1,c2⟩ := hc
 rw [hc] at h
 simp only [Option.bind_some,show (c == 0) = false from by rw [beq_eq_false_iff_ne]; exact c0,show (c == 1) = false from by rw [beq_eq_false_iff_ne]; exact c1,show (c == 2) = false from by rw [beq_eq_false_iff_ne]; exact c2,cond_false] at h
 cases h
def fB (F:List Bool) (v:Int):Bool := F.getD v.toNat false
def fN (F:List Bool) (j:Nat):Bool := F.getD j false
theorem fB_nat (F:List Bool) (j:Nat):fB F (j:Int) = fN F j := by unfold fB fN; rw [Int.toNat_natCast]
def powI (xs:List Node3) (F:List Bool) (b:Int):Bool := match pfind xs ((7:Int),(b,(0:Int))) with
 | some j => fN F j
 | none => false
def powS (xs:List Node3) (kn:List Int) (F:List Bool) (b:Int):Bool := match pfind xs ((7:Int),(b,(0:Int))) with
 | some j => fB F b || hasAt kn (j:Int)
 | none => false
def canN (F:List Bool) (pow:Int → Bool) (n:Node3):Bool :=
 bif n.1 == 1 then (decide (n.2.1 ≥ 0) && decide (n.2.1 ≤ 49)) else bif n.1 == 5 || n.1 == 7 then fB F n.2.1 else (fB F n.2.1 && fB F n.2.2) || (n.1 == 8 && ((fB F n.2.1 && pow n.2.2) || (fB F n.2.2 && pow n.2.1)))
def canI (xs:List Node3) (F:List Bool) (t:Nat):Bool := canN F (powI xs F) (xs.getD t zN3)
def canS (xs:List Node3) (kn:List Int) (F:List Bool) (t:Nat):Bool := canN F (powS xs kn F) (xs.getD t zN3)
def sB (xs:List Node3) (kn:List Int):Nat → List Bool
 | 0 => []
 | n + 1 => sB xs kn n ++ [hasAt kn (n:Int) || canS xs kn (sB xs kn n) n]
theorem sB_len (xs:List Node3) (kn:List Int):∀ n,(sB xs kn n).length = n
 | 0 => rfl
 | n + 1 => by rw [sB,List.length_append,sB_len xs kn n]; rfl
theorem sB_get {xs:List Node3} {kn:List Int} {i:Nat}:∀ {n:Nat},i < n → fN (sB xs kn n) i = (hasAt kn (i:Int) || canS xs kn (sB xs kn i) i)
 | 0,h => by omega
 | n + 1,h => by
  unfold fN
  rw [sB]
  by_cases q:i = n
  ·subst q
   rw [List.getD_eq_getElem?_getD,List.getElem?_append_right (by rw [sB_len]; exact Nat.le_refl _),sB_len,Nat.sub_self]; rfl
  ·rw [List.getD_eq_getElem?_getD,List.getElem?_append_left (by rw [sB_len]; omega), ← List.getD_eq_getElem?_getD]
   exact sB_get (by omega)
theorem sB_same {xs:List Node3} {kn:List Int} {i n m:Nat} (h1:i < n) (h2:i < m):fN (sB xs kn n) i = fN (sB xs kn m) i := by
 rw [sB_get h1,sB_get h2]
theorem sB_sameB {xs:List Node3} {kn:List Int} {v:Int} {n m:Nat} (h0:0 ≤ v) (h1:v < (n:Int)) (h2:v < (m:Int)):fB (sB xs kn n) v = fB (sB xs kn m) v := by
 obtain ⟨i,rfl⟩ := Int.eq_ofNat_of_zero_le h0
 rw [fB_nat,fB_nat]
 exact sB_same (by omega) (by omega)
theorem canN_congr {F G:List Bool} {p q:Int → Bool} {n:Node3} {t:Nat} (hn:(n.1 = 1 ∧ 0 ≤ n.2.1 ∧ n.2.1 ≤ 199) ∨ ((n.1 = 5 ∨ n.1 = 7) ∧ 0 ≤ n.2.1 ∧ n.2.1 < (t:Int)) ∨ ((n.1 = 2 ∨ n.1 = 3 ∨ n.1 = 4 ∨ n.1 = 6 ∨ n.1 = 8) ∧ 0 ≤ n.2.1 ∧ n.2.1 < (t:Int) ∧ 0 ≤ n.2.2 ∧ n.2.2 < (t:Int)))
  (h:∀ v,0 ≤ v → v < (t:Int) → fB F v = fB G v ∧ p v = q v):canN F p n = canN G q n := by
 unfold canN
 rcases hn with ⟨a,_⟩ | ⟨a,b,c⟩ | ⟨a,b,c,d,e⟩
 ·rw [a]; rfl
 ·rw [(h _ b c).1]
  rcases a with a | a <;> rw [a] <;> rfl
 ·rw [(h _ b c).1,(h _ b c).2,(h _ d e).1,(h _ d e).2]
theorem pool_cases {xs:List Node3} (hp:poolB xs = true) {t:Nat} (ht:t < xs.length):((xs.getD t zN3).1 = 1 ∧ 0 ≤ (xs.getD t zN3).2.1 ∧ (xs.getD t zN3).2.1 ≤ 199) ∨ (((xs.getD t zN3).1 = 5 ∨ (xs.getD t zN3).1 = 7) ∧ 0 ≤ (xs.getD t zN3).2.1 ∧ (xs.getD t zN3).2.1 < (t:Int)) ∨ (((xs.getD t zN3).1 = 2 ∨ (xs.getD t zN3).1 = 3 ∨ (xs.getD t zN3).1 = 4 ∨ (xs.getD t zN3).1 = 6 ∨ (xs.getD t zN3).1 = 8) ∧ 0 ≤ (xs.getD t zN3).2.1 ∧ (xs.getD t zN3).2.1 < (t:Int) ∧ 0 ≤ (xs.getD t zN3).2.2 ∧ (xs.getD t zN3).2.2 < (t:Int)) :=
 nd_cases (by have := poolB_len hp; omega) (poolB_nd hp ht)
abbrev allB (xs:List Node3) (kn:List Int):List Bool := sB xs kn xs.length
theorem all_get {xs:List Node3} (hp:poolB xs = true) {kn:List Int} {t:Nat} (ht:t < xs.length):fN (allB xs kn) t = (hasAt kn (t:Int) || canS xs kn (allB xs kn) t) := by
 rw [sB_get ht]
 congr 1
 refine canN_congr (pool_cases hp ht) fun v h0 h1 => ?_
 have e := sB_sameB (xs := xs) (kn := kn) h0 h1 (show v < (xs.length:Int) by omega)
 refine ⟨e, ?_⟩
 unfold powS
 rw [e]
theorem pow_node {xs:List Node3} {b:Int} {j:Nat} (h:pfind xs ((7:Int),(b,(0:Int))) = some j):j < xs.length ∧ xs.getD j zN3 = ((7:Int),(b,(0:Int))) := by
 have := pf_some h
 exact ⟨by omega,this.2.2⟩
theorem step_le {xs:List Node3} (hp:poolB xs = true) {kn:List Int} {F:List Bool} (hF:∀ i,i < xs.length → fN F i = true → fN (allB xs kn) i = true) {t:Nat} (ht:t < xs.length) (h:canI xs F t = true):fN (allB xs kn) t = true := by
 rw [all_get hp ht,Bool.or_eq_true]
 right
 have hv:∀ v:Int,0 ≤ v → v < (t:Int) → fB F v = true → fB (allB xs kn) v = true := fun v h0 h1 q => by
  obtain ⟨i,rfl⟩ := Int.eq_ofNat_of_zero_le h0
  rw [fB_nat] at q ⊢
  exact hF i (by omega) q
 have hw:∀ v:Int,0 ≤ v → v < (t:Int) → powI xs F v = true → powS xs kn (allB xs kn) v = true := fun v h0 h1 q => by
  unfold powI at q
  unfold powS
  cases e:pfind xs ((7:Int),(v,(0:Int))) with
  | none => rw [e] at q; cases q
  | some j =>
   rw [e] at q
   dsimp only at q ⊢
   obtain ⟨j1,j2⟩ := pow_node e
   have := hF j j1 q
   rw [all_get hp j1,Bool.or_eq_true] at this
   rw [Bool.or_eq_true]
   rcases this with this | this
   ·exact .inr this
   ·left
    unfold canS canN at this
    rw [j2] at this
    exact this
 unfold canI canN at h
 unfold canS canN
 rcases pool_cases hp ht with ⟨a,b,c⟩ | ⟨a,b,c⟩ | ⟨a,b,c,d,e⟩
 ·rw [a] at h ⊢; exact h
 ·rcases a with a | a <;> rw [a] at h ⊢ <;> exact hv _ b c h
 ·have z:((xs.getD t zN3).1 == 1) = false ∧ ((xs.getD t zN3).1 == 5 || (xs.getD t zN3).1 == 7) = false := by
   rcases a with a | a | a | a | a <;> rw [a] <;> exact ⟨rfl,rfl⟩
  rw [z.1,z.2,cond_false,cond_false] at h ⊢
  rw [Bool.or_eq_true,Bool.and_eq_true,Bool.and_eq_true,Bool.or_eq_true,Bool.and_eq_true,Bool.and_eq_true] at h ⊢
  rcases h with ⟨h1,h2⟩ | ⟨h0,⟨h1,h2⟩ | ⟨h1,h2⟩⟩
  ·exact .inl ⟨hv _ b c h1,hv _ d e h2⟩
  ·exact .inr ⟨h0, .inl ⟨hv _ b c h1,hw _ d e h2⟩⟩
  ·exact .inr ⟨h0, .inr ⟨hv _ d e h1,hw _ b c h2⟩⟩
theorem fix_le {xs:List Node3} (hp:poolB xs = true) {kn:List Int} {F:List Bool} (hk:∀ i,i < xs.length → hasAt kn (i:Int) = true → fN F i = true) (hc:∀ i,i < xs.length → canI xs F i = true → fN F i = true):∀ (n t:Nat),t < n → t < xs.length → fN (allB xs kn) t = true → fN F t = true
 | 0,t,h,_,_ => by omega
 | n + 1,t,hn,ht,h => by
  have ih := fix_le hp hk hc n
  rw [all_get hp ht,Bool.or_eq_true] at h
  rcases h with h | h
  ·exact hk t ht h
  refine hc t ht ?_
  have hv:∀ v:Int,0 ≤ v → v < (t:Int) → fB (allB xs kn) v = true → fB F v = true := fun v h0 h1 q => by
   obtain ⟨i,rfl⟩ := Int.eq_ofNat_of_zero_le h0
   rw [fB_nat] at q ⊢
   exact ih i (by omega) (by omega) q
  have hw:∀ v:Int,0 ≤ v → v < (t:Int) → powS xs kn (allB xs kn) v = true → powI xs F v = true := fun v h0 h1 q => by
   unfold powS at q
   unfold powI
   cases e:pfind xs ((7:Int),(v,(0:Int))) with
   | none => rw [e] at q; cases q
   | some j =>
    rw [e] at q
    dsimp only at q ⊢
    obtain ⟨j1,j2⟩ := pow_node e
    rw [Bool.or_eq_true] at q
    rcases q with q | q
    ·refine hc j j1 ?_
     unfold canI canN
     rw [j2]
     exact hv v h0 h1 q
    ·exact hk j j1 q
  unfold canS canN at h
  unfold canI canN
  rcases pool_cases hp ht with ⟨a,b,c⟩ | ⟨a,b,c⟩ | ⟨a,b,c,d,e⟩
  ·rw [a] at h ⊢; exact h
  ·rcases a with a | a <;> rw [a] at h ⊢ <;> exact hv _ b c h
  ·have z:((xs.getD t zN3).1 == 1) = false ∧ ((xs.getD t zN3).1 == 5 || (xs.getD t zN3).1 == 7) = false := by
    rcases a with a | a | a | a | a <;> rw [a] <;> exact ⟨rfl,rfl⟩
   rw [z.1,z.2,cond_false,cond_false] at h ⊢
   rw [Bool.or_eq_true,Bool.and_eq_true,Bool.and_eq_true,Bool.or_eq_true,Bool.and_eq_true,Bool.and_eq_true] at h ⊢
   rcases h with ⟨h1,h2⟩ | ⟨h0,⟨h1,h2⟩ | ⟨h1,h2⟩⟩
   ·exact .inl ⟨hv _ b c h1,hv _ d e h2⟩
   ·exact .inr ⟨h0, .inl ⟨hv _ b c h1,hw _ d e h2⟩⟩
   ·exact .inr ⟨h0, .inr ⟨hv _ d e h1,hw _ b c h2⟩⟩
theorem fix_eq {xs:List Node3} (hp:poolB xs = true) {kn:List Int} {F:List Bool} (hl:F.length = xs.length) (hk:∀ i,i < xs.length → hasAt kn (i:Int) = true → fN F i = true) (hle:∀ i,i < xs.length → fN F i = true → fN (allB xs kn) i = true) (hc:∀ i,i < xs.length → canI xs F i = true → fN F i = true):F = allB xs kn := by
 refine List.ext_getElem (by rw [hl,sB_len]) fun i h1 h2 => ?_
 have e1:fN F i = F[i] := getD_of h1 false
 have e2:fN (allB xs kn) i = (allB xs kn)[i] := getD_of h2 false
 rw [← e1, ← e2]
 rw [hl] at h1
 have a := hle i h1
 have b := fix_le hp hk hc (i + 1) i (by omega) h1
 cases q:fN F i with
 | true => rw [a q]
 | false =>
  cases r:fN (allB xs kn) i with
  | true => rw [b r] at q; cases q
  | false => rfl
theorem roomA {α:Type} {xs:List α} (h:xs.length ≤ 1000000) {k:α}:room (xs.length + [k].length) = true := by
 unfold room
 simp
 omega
def insA (t:Int):List Int → List Int
 | [] => [t]
 | v :: r => if v < t then v :: insA t r else t :: v :: r
def putH (v:Int):Bool → List Int → List Int×Bool
 | b,[] => ([],b)
 | true,x :: r => (x :: r,true)
 | false,x :: r => if v < x then (v :: x :: r,true) else (x :: (putH v false r).1,(putH v false r).2)
theorem putH_t (v:Int) (r:List Int):putH v true r = (r,true) := by cases r <;> rfl
theorem putH_loop (v:Int):∀ (r pre out:List Int) (b:Bool) (m:Nat),r.length < m → pre.length + r.length ≤ 1000 → out.length + 2 * r.length ≤ 100000 → spec_l6Put_L4 N0 m (pre ++ r,v,out,b,(pre.length:Int)) = some (v,out ++ (putH v b r).1,(putH v b r).2)
 | [],pre,out,b,m,hm,hl,ho => by
  obtain ⟨i,rfl⟩:∃ i,m = i + 1 := ⟨m - 1,by omega⟩
  rw [spec_l6Put_L4]
  dsimp only
  rw [lt_end,cond_false]
  cases b <;> simp [putH]
 | x :: r,pre,out,b,m,hm,hl,ho => by
  obtain ⟨i,rfl⟩:∃ i,m = i + 1 := ⟨m - 1,by omega⟩
  have hl':pre.length + (r.length + 1) ≤ 1000 := hl
  have hm':r.length + 1 < i + 1 := hm
  have w:IntKind.i64.wrap ((pre.length:Int) + 1) = ((pre ++ [x]).length:Int) := by rw [wrap_ok (by omega) (by omega),len_one]
  have ho2:out.length + 2 * (r.length + 1) ≤ 100000 := ho
  have go:∀ out' b',out'.length + 2 * r.length ≤ 100000 → spec_l6Put_L4 N0 i (pre ++ x :: r,v,out',b',((pre ++ [x]).length:Int)) = some (v,out' ++ (putH v b' r).1,(putH v b' r).2) := fun out' b' ho' => by
   rw [app_one]
   exact putH_loop v r (pre ++ [x]) out' b' i (by omega) (by simp; omega) ho'
  rw [spec_l6Put_L4]
  dsimp only
  rw [lt_pre,cond_true,in_pre,Int.toNat_natCast,get_pre]
  simp only [cond_true,w]
  cases b with
  | true =>
   simp only [Bool.not_true,cond_false,roomA (show out.length ≤ 1000000 by omega),cond_true]
   rw [go _ _ (by simp; omega)]
   simp [putH,putH_t]
  | false =>
   simp only [Bool.not_false,cond_true]
   by_cases hx:v < x
   ·simp only [decide_eq_true (show x > v from hx),cond_true,roomA (show out.length ≤ 1000000 by omega),roomA (show (out ++ [v]).length ≤ 1000000 by simp; omega)]
    rw [go _ _ (by simp; omega),putH,if_pos hx,putH_t]
    simp
   ·simp only [decide_eq_false (show ¬ x > v from hx),cond_false,cond_true,roomA (show out.length ≤ 1000000 by omega)]
    rw [go _ _ (by simp; omega),putH,if_neg hx]
    simp
theorem putH_ins (v:Int):∀ {r:List Int},v ∉ r → (bif (putH v false r).2 then (putH v false r).1 else (putH v false r).1 ++ [v]) = insA v r
 | [],_ => rfl
 | x :: r,h => by
  rw [putH,insA]
  by_cases hx:v < x
  ·rw [if_pos hx,if_neg (by omega)]; rfl
  ·have hne:v ≠ x := fun q => h (q ▸ List.mem_cons_self ..)
   rw [if_neg hx,if_pos (by omega), ← putH_ins v (fun q => h (List.mem_cons_of_mem _ q))]
   dsimp only
   cases (putH v false r).2 <;> rfl
theorem insA_len (v:Int):∀ (r:List Int),(insA v r).length = r.length + 1
 | [] => rfl
 | x :: r => by
  rw [insA]
  split
  ·rw [List.length_cons,insA_len v r,List.length_cons]
  ·rfl
theorem hasAt_mem {l:List Int} {v:Int}:hasAt l v = l.contains v := by
 rw [Bool.eq_iff_iff,List.contains_iff_mem,hasAt_iff,List.mem_iff_getElem]
 constructor
 ·rintro ⟨j,hj,e⟩
  exact ⟨j,hj,by rw [← e]; simp [List.getD_eq_getElem?_getD,hj]⟩
 ·rintro ⟨j,hj,e⟩
  exact ⟨j,hj,by rw [← e]; simp [List.getD_eq_getElem?_getD,hj]⟩
theorem asc_pair {l:List Int} (h:∀ u,u < l.length → ascAt l u = true):l.Pairwise (· < ·) := by
 rw [List.pairwise_iff_getElem]
 intro i j hi hj hij
 have step:∀ k,i + 1 + k < l.length → l.getD i 0 < l.getD (i + 1 + k) 0 := by
  intro k
  induction k with
  | zero =>
   intro hk
   have := h (i + 1) hk
   unfold ascAt at this
   rw [decide_eq_false (by omega:¬ i + 1 = 0),Bool.false_or,decide_eq_true_iff] at this
   exact this
  | succ k ih =>
   intro hk
   have h1 := ih (by omega)
   have := h (i + 1 + (k + 1)) hk
   unfold ascAt at this
   rw [decide_eq_false (by omega:¬ i + 1 + (k + 1) = 0),Bool.false_or,decide_eq_true_iff] at this
   have e:i + 1 + (k + 1) - 1 = i + 1 + k := by omega
   rw [e] at this
   omega
 have := step (j - (i + 1)) (by omega)
 have e:i + 1 + (j - (i + 1)) = j := by omega
 rw [e] at this
 have e1:l.getD i 0 = l[i] := by simp [List.getD_eq_getElem?_getD,hi]
 have e2:l.getD j 0 = l[j] := by simp [List.getD_eq_getElem?_getD,hj]
 rw [e1,e2] at this
 exact this
def putA (kn:List Int) (v:Int):List Int := bif kn.contains v then kn else insA v kn
theorem putA_len (kn:List Int) (v:Int):(putA kn v).length ≤ kn.length + 1 := by
 unfold putA
 cases kn.contains v with
 | true => exact Nat.le_succ _
 | false => exact Nat.le_of_eq (insA_len v kn)
theorem putA_eq {kn:List Int} (hl:kn.length ≤ 900) (v:Int):spec_l6Put N0 (kn,v) = some (putA kn v) := by
 unfold putA spec_l6Put
 dsimp only
 rw [knowHas_eq (by omega),Option.bind_some,hasAt_mem]
 have hlp := putH_loop v kn [] [] (kn.contains v) N0 (by have := n0; omega) (by simp; omega) (by simp; omega)
 have hlp':spec_l6Put_L4 N0 N0 (kn,v,([]:List Int),kn.contains v,(0:Int)) = _ := hlp
 rw [hlp',Option.bind_some]
 dsimp only
 cases hc:kn.contains v with
 | true =>
  rw [putH_t]
  rfl
 | false =>
  have hnm:v ∉ kn := fun q => by rw [List.contains_iff_mem.2 q] at hc; cases hc
  have hi := putH_ins v hnm
  have hil := insA_len v kn
  rw [cond_false]
  cases hb:(putH v false kn).2 with
  | true =>
   rw [hb,cond_true] at hi
   rw [← hi]; rfl
  | false =>
   rw [hb,cond_false] at hi
   have:(putH v false kn).1.length ≤ 1000000 := by
    have := congrArg List.length hi
    simp at this
    omega
   simp only [List.nil_append,Bool.not_false,cond_true,roomA this,hi]
theorem insA_mem {v x:Int}:∀ {r:List Int},x ∈ insA v r → x = v ∨ x ∈ r
 | [],h => .inl (List.mem_singleton.1 h)
 | y :: r,h => by
  unfold insA at h
  split at h
  ·rcases List.mem_cons.1 h with e | e
   ·exact .inr (e ▸ List.mem_cons_self ..)
   ·rcases insA_mem e with e | e
    ·exact .inl e
    ·exact .inr (List.mem_cons_of_mem _ e)
  ·rcases List.mem_cons.1 h with e | e
   ·exact .inl e
   ·exact .inr e
theorem insA_in {v x:Int}:∀ {r:List Int},(x = v ∨ x ∈ r) → x ∈ insA v r
 | [],h => by
  rcases h with rfl | h
  ·exact List.mem_singleton.2 rfl
  ·cases h
 | y :: r,h => by
  unfold insA
  by_cases q:y < v
  ·rw [if_pos q]
   rcases h with h | h
   ·exact List.mem_cons_of_mem _ (insA_in (.inl h))
   ·rcases List.mem_cons.1 h with e | e
    ·exact e ▸ List.mem_cons_self ..
    ·exact List.mem_cons_of_mem _ (insA_in (.inr e))
  ·rw [if_neg q]
   rcases h with h | h
   ·exact h ▸ List.mem_cons_self ..
   ·exact List.mem_cons_of_mem _ h
theorem insA_pw {v:Int}:∀ {r:List Int},v ∉ r → r.Pairwise (· < ·) → (insA v r).Pairwise (· < ·)
 | [],_,_ => List.pairwise_singleton ..
 | y :: r,hv,h => by
  have h' := List.pairwise_cons.1 h
  have hne:v ≠ y := fun q => hv (q ▸ List.mem_cons_self ..)
  unfold insA
  by_cases q:y < v
  ·rw [if_pos q]
   refine List.pairwise_cons.2 ⟨fun x hx => ?_,insA_pw (fun q => hv (List.mem_cons_of_mem _ q)) h'.2⟩
   rcases insA_mem hx with e | e
   ·exact e ▸ q
   ·exact h'.1 x e
  ·rw [if_neg q]
   refine List.pairwise_cons.2 ⟨fun x hx => ?_,h⟩
   rcases List.mem_cons.1 hx with e | e
   ·omega
   ·have := h'.1 x e
    omega
theorem asc_ext:∀ {a b:List Int},a.Pairwise (· < ·) → b.Pairwise (· < ·) → (∀ x,x ∈ a ↔ x ∈ b) → a = b
 | [],[],_,_,_ => rfl
 | [],y :: r,_,_,h => absurd ((h y).2 (List.mem_cons_self ..)) (by simp)
 | x :: r,[],_,_,h => absurd ((h x).1 (List.mem_cons_self ..)) (by simp)
 | x :: r,y :: q,h1,h2,h => by
  have a1 := List.pairwise_cons.1 h1
  have a2 := List.pairwise_cons.1 h2
  have e:x = y := by
   rcases List.mem_cons.1 ((h x).1 (List.mem_cons_self ..)) with e | e
   ·exact e
   ·rcases List.mem_cons.1 ((h y).2 (List.mem_cons_self ..)) with g | g
    ·exact g.symm
    ·have := a2.1 x e
     have := a1.1 y g
     omega
  subst e
  have:r = q := asc_ext a1.2 a2.2 fun v => by
   constructor
   ·intro hv
    rcases List.mem_cons.1 ((h v).1 (List.mem_cons_of_mem _ hv)) with e | e
    ·have := a1.1 v hv
     omega
    ·exact e
   ·intro hv
    rcases List.mem_cons.1 ((h v).2 (List.mem_cons_of_mem _ hv)) with e | e
    ·have := a2.1 v hv
     omega
    ·exact e
  rw [this]
theorem comp_kept {d:Array Int} {x:Int}:∀ j,d[j]! = x → ∃ i,i ≤ j ∧ Lib.keeps d i = true ∧ d[i]! = x
 | 0,h => ⟨0,Nat.le_refl _,by simp [Lib.keeps],h⟩
 | j + 1,h => by
  by_cases q:d[j + 1]! = d[j]!
  ·obtain ⟨i,h1,h2,h3⟩ := comp_kept j (q ▸ h)
   exact ⟨i,by omega,h2,h3⟩
  ·exact ⟨j + 1,Nat.le_refl _,by simp only [Lib.keeps,Nat.add_sub_cancel]; exact decide_eq_true (.inr q),h⟩
theorem arr_mem {zs:List Int} {x:Int}:x ∈ zs ↔ ∃ j,j < zs.length ∧ zs.toArray[j]! = x := by
 constructor
 ·intro h
  obtain ⟨j,h1,h2⟩ := List.getElem_of_mem h
  exact ⟨j,h1,by simp [h1,h2]⟩
 ·rintro ⟨j,h1,h2⟩
  have:zs[j] = x := by simpa [h1] using h2
  exact this ▸ List.getElem_mem h1
theorem comp_mem {zs:List Int} (x:Int):x ∈ Lib.compact zs ↔ x ∈ zs := by
 unfold Lib.compact Lib.compactUpTo
 rw [List.mem_map,arr_mem]
 constructor
 ·rintro ⟨j,h1,h2⟩
  exact ⟨j,List.mem_range.1 (List.mem_filter.1 h1).1,h2⟩
 ·rintro ⟨j,h1,h2⟩
  obtain ⟨i,g1,g2,g3⟩ := comp_kept j h2
  exact ⟨i,List.mem_filter.2 ⟨List.mem_range.2 (by omega),g2⟩,g3⟩
theorem arr_le {zs:List Int} (h:zs.Pairwise (· ≤ ·)) {i j:Nat} (hij:i ≤ j) (hj:j < zs.length):zs.toArray[i]! ≤ zs.toArray[j]! := by
 have hi:i < zs.length := by omega
 simp only [List.getElem!_toArray,hi,hj,getElem!_pos]
 rcases Nat.lt_or_ge i j with q | q
 ·exact List.pairwise_iff_getElem.1 h i j hi hj q
 ·have:i = j := by omega
  subst this; exact Int.le_refl _
theorem comp_asc {zs:List Int} (h:zs.Pairwise (· ≤ ·)):(Lib.compact zs).Pairwise (· < ·) := by
 unfold Lib.compact Lib.compactUpTo
 rw [List.pairwise_map]
 refine List.Pairwise.imp_of_mem ?_ (List.pairwise_lt_range.filter _)
 intro i j hi hj hij
 have hj1 := List.mem_filter.1 hj
 have hjl := List.mem_range.1 hj1.1
 have hk:j = 0 ∨ zs.toArray[j]! ≠ zs.toArray[j - 1]! := of_decide_eq_true hj1.2
 have a1 := arr_le h (show i ≤ j - 1 by omega) (by omega)
 have a2 := arr_le h (show j - 1 ≤ j by omega) hjl
 rcases hk with e | e
 ·omega
 ·omega
def ordL (xs:List Int):List Int := Lib.compact (xs.mergeSort fun a b => decide (a ≤ b))
theorem ord_asc (xs:List Int):(ordL xs).Pairwise (· < ·) := by
 refine comp_asc ?_
 have h := List.pairwise_mergeSort (le := fun a b:Int => decide (a ≤ b)) (fun a b c h1 h2 => by simp only [decide_eq_true_eq] at *; omega) (fun a b => by simp only [Bool.or_eq_true,decide_eq_true_eq]; omega) xs
 exact h.imp fun q => of_decide_eq_true q
theorem ord_mem {xs:List Int} (x:Int):x ∈ ordL xs ↔ x ∈ xs := by
 unfold ordL
 rw [comp_mem,List.mem_mergeSort]
theorem putA_asc {kn:List Int} (h:kn.Pairwise (· < ·)) (v:Int):(putA kn v).Pairwise (· < ·) := by
 unfold putA
 cases q:kn.contains v with
 | true => exact h
 | false =>
  refine insA_pw (fun hv => ?_) h
  rw [List.contains_iff_mem.2 hv] at q
  cases q
theorem putA_mem {kn:List Int} {v x:Int}:x ∈ putA kn v ↔ x = v ∨ x ∈ kn := by
 unfold putA
 cases q:kn.contains v with
 | true =>
  show x ∈ kn ↔ _
  constructor
  ·exact .inr
  ·rintro (e | e)
   ·exact e ▸ List.contains_iff_mem.1 q
   ·exact e
 | false => exact ⟨insA_mem,insA_in⟩
theorem asc_sub:∀ {b a:List Int},a.Pairwise (· < ·) → b.Pairwise (· < ·) → (∀ x,x ∈ a → x ∈ b) → a.length ≤ b.length ∧ (a.length = b.length → a = b)
 | [],[],_,_,_ => ⟨Nat.le_refl _,fun _ => rfl⟩
 | [],x :: r,_,_,h => absurd (h x (List.mem_cons_self ..)) (by simp)
 | y :: q,[],_,_,_ => ⟨Nat.zero_le _,fun e => by cases e⟩
 | y :: q,x :: r,h1,h2,h => by
  have a1 := List.pairwise_cons.1 h1
  have a2 := List.pairwise_cons.1 h2
  rcases List.mem_cons.1 (h x (List.mem_cons_self ..)) with e | e
  ·subst e
   have ih := asc_sub a1.2 a2.2 fun v hv => by
    rcases List.mem_cons.1 (h v (List.mem_cons_of_mem _ hv)) with e | e
    ·have := a1.1 v hv
     omega
    ·exact e
   exact ⟨Nat.succ_le_succ ih.1,fun e => by rw [ih.2 (by simpa using e)]⟩
  ·have hxy := a2.1 x e
   have ih := asc_sub h1 a2.2 fun v hv => by
    rcases List.mem_cons.1 (h v hv) with g | g
    ·rcases List.mem_cons.1 hv with k | k
     ·omega
     ·have := a1.1 v k
      omega
    ·exact g
   have := ih.1
   simp only [List.length_cons] at this ⊢
   exact ⟨by omega,fun e => by omega⟩
theorem inb_v {v:Int} {n:Nat} (h0:0 ≤ v) (h1:v < (n:Int)):inb v n = true := decide_eq_true ⟨h0,h1⟩
theorem find_i {xs:List Node3} (hx:xs.length ≤ 4294967296) (a b c:Int):impl_Pool_find N0 (xs,a,b,c) = some (xs,pfI xs (a,b,c)) := by
 unfold impl_Pool_find
 dsimp only
 have h := index_eq hx (a,b,c)
 dsimp only at h
 rw [h]; rfl
theorem isMade_eq {xs:List Node3} (hx:xs.length ≤ 4294967296) {F:List Bool} (hF:F.length = xs.length) (b:Int):impl_Pool_isMade N0 (xs,(7:Int),b,(0:Int),F) = some (xs,F,powI xs F b) := by
 unfold impl_Pool_isMade powI
 dsimp only
 rw [find_i hx,Option.bind_some]
 unfold pfI
 cases e:pfind xs ((7:Int),(b,(0:Int))) with
 | none => rfl
 | some j =>
  have := (pow_node e).1
  dsimp only
  rw [decide_eq_true (show (j:Int) ≥ 0 by omega),cond_true,inb_v (show (0:Int) ≤ (j:Int) by omega) (show (j:Int) < (F.length:Int) by omega),cond_true,Int.toNat_natCast]
  rfl
theorem can_loop {xs:List Node3} {F:List Bool} {k a b:Int}:∀ (r pre:List Int) (acc:Bool) (m:Nat),r.length < m → pre.length + r.length ≤ 1000 → (∀ v ∈ r,0 ≤ v ∧ v < (F.length:Int)) → impl_Pool_canMake_L6 N0 m (xs,F,k,a,b,acc,pre ++ r,((pre ++ r).length:Int),(pre.length:Int)) = some (xs,F,k,a,b,acc && r.all (fB F))
 | [],pre,acc,m,hm,hl,hv => by
  obtain ⟨i,rfl⟩:∃ i,m = i + 1 := ⟨m - 1,by omega⟩
  rw [impl_Pool_canMake_L6]
  dsimp only
  rw [lt_end,cond_false,List.all_nil,Bool.and_true]
 | x :: r,pre,acc,m,hm,hl,hv => by
  obtain ⟨i,rfl⟩:∃ i,m = i + 1 := ⟨m - 1,by omega⟩
  have hl':pre.length + (r.length + 1) ≤ 1000 := hl
  have hm':r.length + 1 < i + 1 := hm
  have w:IntKind.i64.wrap ((pre.length:Int) + 1) = ((pre ++ [x]).length:Int) := by rw [wrap_ok (by omega) (by omega),len_one]
  have hx := hv x (List.mem_cons_self ..)
  have go:∀ acc',impl_Pool_canMake_L6 N0 i (xs,F,k,a,b,acc',pre ++ x :: r,((pre ++ x :: r).length:Int),((pre ++ [x]).length:Int)) = some (xs,F,k,a,b,acc' && r.all (fB F)) := fun acc' => by
   rw [app_one]
   exact can_loop r (pre ++ [x]) acc' i (by omega) (by simp; omega) (fun v q => hv v (List.mem_cons_of_mem _ q))
  rw [impl_Pool_canMake_L6]
  dsimp only
  rw [lt_pre,cond_true,in_pre,Int.toNat_natCast,get_pre,cond_true,w,inb_v hx.1 hx.2,cond_true]
  cases acc with
  | true =>
   rw [cond_true,go,List.all_cons,Bool.true_and]; rfl
  | false => rw [cond_false,go]; rfl
theorem can_all {xs:List Node3} {F:List Bool} {k a b:Int} (r:List Int) (hr:r.length ≤ 1000) (hv:∀ v ∈ r,0 ≤ v ∧ v < (F.length:Int)):impl_Pool_canMake_L6 N0 N0 (xs,F,k,a,b,true,r,(r.length:Int),(0:Int)) = some (xs,F,k,a,b,r.all (fB F)) := by
 have h := can_loop (xs := xs) (F := F) (k := k) (a := a) (b := b) r [] true N0 (by have := n0; omega) (by simpa using hr) hv
 rw [Bool.true_and] at h
 exact h
theorem count_1:impl_count N0 5 = some 1 ∧ impl_count N0 7 = some 1 := ⟨rfl,rfl⟩
theorem count_2:impl_count N0 2 = some 2 ∧ impl_count N0 3 = some 2 ∧ impl_count N0 4 = some 2 ∧ impl_count N0 6 = some 2 ∧ impl_count N0 8 = some 2 := ⟨rfl,rfl,rfl,rfl,rfl⟩
theorem canMake_eq {xs:List Node3} (hp:poolB xs = true) {t:Nat} (ht:t < xs.length) {F:List Bool} (hF:F.length = xs.length):impl_Pool_canMake N0 (xs,(t:Int),F) = some (xs,F,canI xs F t) := by
 have hx:xs.length ≤ 4294967296 := by have := poolB_len hp; omega
 have hc := pool_cases hp ht
 unfold impl_Pool_canMake canI canN impl_Pool_parts
 dsimp only
 rw [inb_nat ht,cond_true,Int.toNat_natCast,cond_true]
 have e0:xs.getD t zN3 = xs.getD t ((0:Int),((0:Int),(0:Int))) := rfl
 rw [e0] at hc ⊢
 generalize xs.getD t ((0:Int),((0:Int),(0:Int))) = n at hc ⊢
 obtain ⟨k,a,b⟩ := n
 dsimp only at hc ⊢
 rcases hc with ⟨rfl,h0,h1⟩ | ⟨hk,h0,h1⟩ | ⟨hk,h0,h1,g0,g1⟩
 ·unfold impl_IsPublic
  rw [inRange_eq]; rfl
 ·have hr := can_all (xs := xs) (F := F) (k := k) (a := a) (b := b) [a] (by simp) (fun v hv => by rw [List.mem_singleton.1 hv]; omega)
  simp only [List.all_cons,List.all_nil,Bool.and_true,List.length_singleton] at hr
  rcases hk with rfl | rfl
  ·rw [count_1.1]
   simp only [Option.bind_some,show ((5:Int) == 1) = false from rfl,show ((1:Int) == 1) = true from rfl,show ((5:Int) == 5 || (5:Int) == 7) = true from rfl,show ((5:Int) != 8) = true from rfl,cond_true,cond_false,List.length_singleton]
   rw [show ((1:Nat):Int) = (1:Int) from rfl] at hr ⊢
   rw [hr,Option.bind_some]
   cases fB F a <;> rfl
  ·rw [count_1.2]
   simp only [Option.bind_some,show ((7:Int) == 1) = false from rfl,show ((1:Int) == 1) = true from rfl,show ((7:Int) == 5 || (7:Int) == 7) = true from rfl,show ((7:Int) != 8) = true from rfl,cond_true,cond_false,List.length_singleton]
   rw [show ((1:Nat):Int) = (1:Int) from rfl] at hr ⊢
   rw [hr,Option.bind_some]
   cases fB F a <;> rfl
 ·have hr := can_all (xs := xs) (F := F) (k := k) (a := a) (b := b) [a,b] (by simp) (fun v hv => by
   rcases List.mem_cons.1 hv with rfl | hv
   ·omega
   ·rw [List.mem_singleton.1 hv]; omega)
  simp only [List.all_cons,List.all_nil,Bool.and_true] at hr
  have hl:(([a,b]:List Int).length:Int) = 2 := rfl
  rw [hl] at hr
  have plain:∀ c:Int,c = 2 ∨ c = 3 ∨ c = 4 ∨ c = 6 → (c == 1) = false ∧ (c == 5 || c == 7) = false ∧ (c != 8) = true ∧ (c == 8) = false ∧ impl_count N0 c = some 2 := fun c hc => by
   rcases hc with rfl | rfl | rfl | rfl <;> exact ⟨rfl,rfl,rfl,rfl,rfl⟩
  by_cases h8:k = 8
  ·subst h8
   rw [count_2.2.2.2.2]
   simp only [Option.bind_some,show ((8:Int) == 1) = false from rfl,show ((2:Int) == 1) = false from rfl,show ((2:Int) == 2) = true from rfl,show ((8:Int) == 5 || (8:Int) == 7) = false from rfl,show ((8:Int) != 8) = false from rfl,show ((8:Int) == 8) = true from rfl,cond_true,cond_false]
   rw [hl,hr,Option.bind_some]
   dsimp only
   have ia:inb a F.length = true := inb_v h0 (by omega)
   have ib:inb b F.length = true := inb_v g0 (by omega)
   have fa:F.getD a.toNat false = fB F a := rfl
   have fb:F.getD b.toNat false = fB F b := rfl
   cases qa:fB F a <;> cases qb:fB F b <;> cases pa:powI xs F a <;> cases pb:powI xs F b <;> simp only [ia,ib,fa,fb,qa,qb,isMade_eq hx hF,pa,pb,show ((8:Int) != 8) = false from rfl,cond_true,cond_false,Option.bind_some,Bool.and_self,Bool.and_true,Bool.and_false,Bool.or_self,Bool.or_true,Bool.or_false,Bool.true_and,Bool.false_and,Bool.true_or,Bool.false_or]
  ·obtain ⟨p1,p2,p3,p4,p5⟩ := plain k (by omega)
   rw [p5]
   simp only [Option.bind_some,p1,p2,p4,show ((2:Int) == 1) = false from rfl,show ((2:Int) == 2) = true from rfl,cond_true,cond_false]
   rw [hl,hr,Option.bind_some]
   dsimp only
   rw [p3]
   cases fB F a <;> cases fB F b <;> rfl
def cntT (F:List Bool):Nat := F.countP id
theorem fN_set {F:List Bool} {t i:Nat} (ht:t < F.length):fN (F.set t true) i = (decide (i = t) || fN F i) := by
 unfold fN
 rw [List.getD_eq_getElem?_getD,List.getElem?_set,List.getD_eq_getElem?_getD]
 by_cases q:t = i
 ·subst q; simp [ht]
 ·simp [q,show ¬ i = t from fun e => q e.symm]
theorem cnt_set:∀ {F:List Bool} {t:Nat},t < F.length → fN F t = false → cntT (F.set t true) = cntT F + 1
 | [],t,h,_ => by cases h
 | f :: F,0,_,h => by
  have h:f = false := h
  subst h
  simp [cntT]
 | f :: F,t + 1,h,g => by
  have ih := cnt_set (F := F) (t := t) (by simpa using h) g
  unfold cntT at ih ⊢
  rw [List.set_cons_succ,List.countP_cons,List.countP_cons,ih]
  omega
theorem cnt_le (F:List Bool):cntT F ≤ F.length := List.countP_le_length
structure MInv (xs:List Node3) (kn:List Int) (F:List Bool):Prop where
 len:F.length = xs.length
 has:∀ i,i < xs.length → hasAt kn (i:Int) = true → fN F i = true
 le:∀ i,i < xs.length → fN F i = true → fN (allB xs kn) i = true
theorem pass_ok {xs:List Node3} (hp:poolB xs = true) {kn:List Int}:∀ (n t:Nat) (F:List Bool) (more:Bool) (m:Nat),t + n = xs.length → n < m → MInv xs kn F →
  ∃ F' c,impl_Pool_makes_L11 N0 m (xs,F,more,(xs.length:Int),(t:Int)) = some (xs,F',c) ∧ MInv xs kn F' ∧ cntT F ≤ cntT F' ∧ ((c = false ∧ more = false ∧ F' = F ∧ ∀ i,t ≤ i → i < xs.length → canI xs F i = true → fN F i = true) ∨ (c = true ∧ (more = true ∨ cntT F < cntT F')))
 | 0,t,F,more,m,he,hm,hI => by
  obtain ⟨i,rfl⟩:∃ i,m = i + 1 := ⟨m - 1,by omega⟩
  rw [impl_Pool_makes_L11]
  dsimp only
  rw [show t = xs.length by omega,lt_f,cond_false]
  refine ⟨F,more,rfl,hI,Nat.le_refl _, ?_⟩
  cases more with
  | true => exact .inr ⟨rfl, .inl rfl⟩
  | false => exact .inl ⟨rfl,rfl,rfl,fun i h1 h2 => by omega⟩
 | n + 1,t,F,more,m,he,hm,hI => by
  obtain ⟨i,rfl⟩:∃ i,m = i + 1 := ⟨m - 1,by omega⟩
  have ht:t < xs.length := by omega
  have hx:xs.length ≤ 4294967296 := by have := poolB_len hp; omega
  have hin:inb (t:Int) F.length = true := inb_nat (by rw [hI.len]; exact ht)
  have hF:F.getD t false = fN F t := rfl
  rw [impl_Pool_makes_L11]
  dsimp only
  rw [lt_t ht,cond_true,hin,cond_true,Int.toNat_natCast,hF,step_wrap ht hx]
  cases q:fN F t with
  | true =>
   rw [Bool.not_true,cond_false]
   obtain ⟨F',c,h1,h2,h3,h4⟩ := pass_ok hp (kn := kn) n (t + 1) F more i (by omega) (by omega) hI
   refine ⟨F',c,h1,h2,h3,h4.imp (fun ⟨a1,a2,a3,a4⟩ => ⟨a1,a2,a3,fun j g1 g2 g3 => ?_⟩) id⟩
   by_cases e:j = t
   ·rw [e]; exact q
   ·exact a4 j (by omega) g2 g3
  | false =>
   rw [Bool.not_false,cond_true,canMake_eq hp ht hI.len,Option.bind_some]
   dsimp only
   cases hc:canI xs F t with
   | false =>
    rw [cond_false]
    obtain ⟨F',c,h1,h2,h3,h4⟩ := pass_ok hp (kn := kn) n (t + 1) F more i (by omega) (by omega) hI
    refine ⟨F',c,h1,h2,h3,h4.imp (fun ⟨a1,a2,a3,a4⟩ => ⟨a1,a2,a3,fun j g1 g2 g3 => ?_⟩) id⟩
    by_cases e:j = t
    ·rw [e,hc] at g3; cases g3
    ·exact a4 j (by omega) g2 g3
   | true =>
    rw [cond_true,hin,cond_true]
    have ht':t < F.length := by rw [hI.len]; exact ht
    have hI':MInv xs kn (F.set t true) := ⟨by rw [List.length_set]; exact hI.len,fun j g1 g2 => by rw [fN_set ht',hI.has j g1 g2,Bool.or_true],fun j g1 g2 => by
     rw [fN_set ht',Bool.or_eq_true] at g2
     rcases g2 with g2 | g2
     ·rw [of_decide_eq_true g2]; exact step_le hp hI.le ht hc
     ·exact hI.le j g1 g2⟩
    obtain ⟨F',c,h1,h2,h3,h4⟩ := pass_ok hp (kn := kn) n (t + 1) (F.set t true) true i (by omega) (by omega) hI'
    have hct := cnt_set ht' q
    refine ⟨F',c,h1,h2,by omega, ?_⟩
    rcases h4 with ⟨_,a2,_⟩ | ⟨a1,_⟩
    ·cases a2
    ·exact .inr ⟨a1, .inr (by omega)⟩
theorem passes_ok {xs:List Node3} (hp:poolB xs = true) {kn:List Int}:∀ (d:Nat) (F:List Bool) (m:Nat),xs.length - cntT F ≤ d → d + 1 < m → MInv xs kn F → impl_Pool_makes_L8 N0 m (xs,F,true) = some (xs,allB xs kn) := by
 intro d
 induction d with
 | zero =>
  intro F m hd hm hI
  obtain ⟨i,rfl⟩:∃ i,m = i + 2 := ⟨m - 2,by omega⟩
  obtain ⟨F',c,h1,h2,h3,h4⟩ := pass_ok hp (kn := kn) xs.length 0 F false N0 (by omega) (by have := n0; have := poolB_len hp; omega) hI
  have hl := cnt_le F'
  rw [h2.len] at hl
  rw [impl_Pool_makes_L8]
  dsimp only
  rw [cond_true,hI.len]
  rw [show ((0:Nat):Int) = (0:Int) from rfl] at h1
  rw [h1,Option.bind_some]
  dsimp only
  rcases h4 with ⟨rfl,_,rfl,h4⟩ | ⟨rfl,h4⟩
  ·rw [impl_Pool_makes_L8]
   dsimp only
   rw [cond_false,fix_eq hp h2.len h2.has h2.le (fun j g1 g2 => h4 j (Nat.zero_le _) g1 g2)]
  ·rcases h4 with h4 | h4
   ·cases h4
   ·omega
 | succ d ih =>
  intro F m hd hm hI
  obtain ⟨i,rfl⟩:∃ i,m = i + 2 := ⟨m - 2,by omega⟩
  obtain ⟨F',c,h1,h2,h3,h4⟩ := pass_ok hp (kn := kn) xs.length 0 F false N0 (by omega) (by have := n0; have := poolB_len hp; omega) hI
  rw [impl_Pool_makes_L8]
  dsimp only
  rw [cond_true,hI.len]
  rw [show ((0:Nat):Int) = (0:Int) from rfl] at h1
  rw [h1,Option.bind_some]
  dsimp only
  rcases h4 with ⟨rfl,_,rfl,h4⟩ | ⟨rfl,h4⟩
  ·rw [impl_Pool_makes_L8]
   dsimp only
   rw [cond_false,fix_eq hp h2.len h2.has h2.le (fun j g1 g2 => h4 j (Nat.zero_le _) g1 g2)]
  ·rcases h4 with h4 | h4
   ·cases h4
   ·exact ih F' (i + 1) (by omega) (by omega) h2
def KIn (xs:List Node3) (kn:List Int):Prop := ∀ v ∈ kn,0 ≤ v ∧ v < (xs.length:Int)
theorem known_loop {xs:List Node3}:∀ (r pre:List Int) (F:List Bool) (m:Nat),r.length < m → pre.length + r.length ≤ 1000 → F.length = xs.length → KIn xs r → ∃ F',impl_Pool_makes_L3 N0 m (xs,F,pre ++ r,((pre ++ r).length:Int),(pre.length:Int)) = some (xs,F') ∧ F'.length = xs.length ∧ ∀ i,fN F' i = true ↔ fN F i = true ∨ (i:Int) ∈ r
 | [],pre,F,m,hm,hl,hF,hk => by
  obtain ⟨i,rfl⟩:∃ i,m = i + 1 := ⟨m - 1,by omega⟩
  rw [impl_Pool_makes_L3]
  dsimp only
  rw [lt_end,cond_false]
  exact ⟨F,rfl,hF,fun i => by simp⟩
 | x :: r,pre,F,m,hm,hl,hF,hk => by
  obtain ⟨i,rfl⟩:∃ i,m = i + 1 := ⟨m - 1,by omega⟩
  have hl':pre.length + (r.length + 1) ≤ 1000 := hl
  have hm':r.length + 1 < i + 1 := hm
  have w:IntKind.i64.wrap ((pre.length:Int) + 1) = ((pre ++ [x]).length:Int) := by rw [wrap_ok (by omega) (by omega),len_one]
  obtain ⟨x0,x1⟩ := hk x (List.mem_cons_self ..)
  obtain ⟨F',h1,h2,h3⟩ := known_loop r (pre ++ [x]) (F.set x.toNat true) i (by omega) (by simp; omega) (by rw [List.length_set]; exact hF) (fun v q => hk v (List.mem_cons_of_mem _ q))
  rw [impl_Pool_makes_L3]
  dsimp only
  rw [lt_pre,cond_true,in_pre,Int.toNat_natCast,get_pre,cond_true,w,inb_v x0 (by rw [hF]; exact x1),cond_true]
  rw [← app_one] at h1
  refine ⟨F',h1,h2,fun j => ?_⟩
  rw [h3 j,fN_set (by omega),Bool.or_eq_true,decide_eq_true_iff,List.mem_cons]
  constructor
  ·rintro ((q | q) | q)
   ·exact .inr (.inl (by omega))
   ·exact .inl q
   ·exact .inr (.inr q)
  ·rintro (q | q | q)
   ·exact .inl (.inr q)
   ·exact .inl (.inl (by omega))
   ·exact .inr q
theorem fN_no (n i:Nat):fN (List.replicate n false) i = false := by
 unfold fN
 rw [List.getD_eq_getElem?_getD,List.getElem?_replicate]
 split <;> rfl
theorem makes_eq {xs:List Node3} (hp:poolB xs = true) {kn:List Int} (hl:kn.length ≤ 900) (hk:KIn xs kn):impl_Pool_makes N0 (xs,kn) = some (xs,allB xs kn) := by
 have hx := poolB_len hp
 obtain ⟨F,h1,h2,h3⟩ := known_loop (xs := xs) kn [] (List.replicate xs.length false) N0 (by have := n0; omega) (by simp; omega) (List.length_replicate ..) hk
 have h1':impl_Pool_makes_L3 N0 N0 (xs,List.replicate xs.length false,kn,(kn.length:Int),(0:Int)) = some (xs,F) := h1
 have hI:MInv xs kn F := ⟨h2,fun i g1 g2 => (h3 i).2 (.inr (by rw [hasAt_mem,List.contains_iff_mem] at g2; exact g2)),fun i g1 g2 => by
  rcases (h3 i).1 g2 with q | q
  ·rw [fN_no] at q; cases q
  ·rw [all_get hp g1,hasAt_mem,List.contains_iff_mem.2 q,Bool.true_or]⟩
 unfold impl_Pool_makes
 dsimp only
 rw [decide_eq_true (show 0 ≤ (xs.length:Int) ∧ (xs.length:Int) ≤ (xs.length:Int) ∧ (xs.length:Int) ≤ 4294967296 by omega),cond_true,Int.toNat_natCast,h1',Option.bind_some]
 dsimp only
 rw [passes_ok hp (kn := kn) xs.length F N0 (by omega) (by have := n0; omega) hI]
 rfl
theorem power_eq {xs:List Node3} (hx:xs.length ≤ 4294967296) {F:List Bool} {kn:List Int} (hl:kn.length ≤ 4294967296) {b:Int} (h0:0 ≤ b) (h1:b < (F.length:Int)):spec_l7Power N0 (xs,F,kn,b) = some (powS xs kn F b) := by
 unfold spec_l7Power powS
 dsimp only
 have h := l1Find_eq hx ((7:Int),(b,(0:Int)))
 dsimp only at h
 rw [h,Option.bind_some]
 unfold pfI
 cases e:pfind xs ((7:Int),(b,(0:Int))) with
 | none => rfl
 | some j =>
  dsimp only
  rw [decide_eq_true (show (j:Int) ≥ 0 by omega),cond_true,inb_v h0 h1,cond_true,knowHas_eq hl]
  show (cond (fB F b) _ _) = _
  cases fB F b <;> rfl
theorem made_eq {xs:List Node3} (hp:poolB xs = true) {kn:List Int} (hl:kn.length ≤ 4294967296) {t:Nat} (ht:t < xs.length) {F:List Bool} (hF:F.length = t):spec_l7Made N0 (xs,F,(t:Int),kn) = some (canS xs kn F t) := by
 have hx:xs.length ≤ 4294967296 := by have := poolB_len hp; omega
 have hc := pool_cases hp ht
 unfold spec_l7Made canS canN
 dsimp only
 rw [inb_nat ht,cond_true,Int.toNat_natCast]
 have e0:xs.getD t zN3 = xs.getD t ((0:Int),((0:Int),(0:Int))) := rfl
 rw [e0] at hc ⊢
 generalize xs.getD t ((0:Int),((0:Int),(0:Int))) = n at hc ⊢
 obtain ⟨k,a,b⟩ := n
 dsimp only at hc ⊢
 rcases hc with ⟨rfl,h0,h1⟩ | ⟨hk,h0,h1⟩ | ⟨hk,h0,h1,g0,g1⟩
 ·unfold spec_IsPublic spec_l1In
  dsimp only
  cases decide (a ≥ 0) <;> rfl
 ·have ia:inb a F.length = true := inb_v h0 (by omega)
  have p:spec_l1Parts N0 k = some 1 := by rcases hk with rfl | rfl <;> rfl
  have p2:(k == 1) = false ∧ (k == 5 || k == 7) = true := by rcases hk with rfl | rfl <;> exact ⟨rfl,rfl⟩
  rw [p,p2.1,p2.2]
  simp only [Option.bind_some,cond_false,cond_true,show ((1:Int) == 1) = true from rfl,ia]
  rfl
 ·have ia:inb a F.length = true := inb_v h0 (by omega)
  have ib:inb b F.length = true := inb_v g0 (by omega)
  have p:spec_l1Parts N0 k = some 2 := by rcases hk with rfl | rfl | rfl | rfl | rfl <;> rfl
  have p2:(k == 1) = false ∧ (k == 5 || k == 7) = false := by rcases hk with rfl | rfl | rfl | rfl | rfl <;> exact ⟨rfl,rfl⟩
  have fa:F.getD a.toNat false = fB F a := rfl
  have fb:F.getD b.toNat false = fB F b := rfl
  rw [p,p2.1,p2.2]
  simp only [Option.bind_some,cond_false,show ((2:Int) == 1) = false from rfl,ia,ib,cond_true,fa,fb,power_eq hx hl h0 (show a < (F.length:Int) by omega),power_eq hx hl g0 (show b < (F.length:Int) by omega)]
  cases (k == 8) <;> cases fB F a <;> cases fB F b <;> cases powS xs kn F a <;> cases powS xs kn F b <;> rfl
theorem all_loop {xs:List Node3} (hp:poolB xs = true) {kn:List Int} (hl:kn.length ≤ 4294967296):∀ (n t m:Nat),t + n = xs.length → n < m → spec_l7All_L3 N0 m (kn,xs,sB xs kn t,(t:Int)) = some (allB xs kn)
 | 0,t,m,he,hm => by
  obtain ⟨i,rfl⟩:∃ i,m = i + 1 := ⟨m - 1,by omega⟩
  rw [spec_l7All_L3]
  dsimp only
  rw [show t = xs.length by omega,lt_f,cond_false]
 | n + 1,t,m,he,hm => by
  obtain ⟨i,rfl⟩:∃ i,m = i + 1 := ⟨m - 1,by omega⟩
  have ht:t < xs.length := by omega
  have hx := poolB_len hp
  have hlen := sB_len xs kn t
  have ih := all_loop hp hl n (t + 1) i (by omega) (by omega)
  have hs:sB xs kn (t + 1) = sB xs kn t ++ [hasAt kn (t:Int) || canS xs kn (sB xs kn t) t] := rfl
  rw [spec_l7All_L3]
  dsimp only
  rw [lt_t ht,cond_true,knowHas_eq hl,Option.bind_some,made_eq hp hl ht hlen,step_wrap ht (by omega),roomA (show (sB xs kn t).length ≤ 1000000 by omega)]
  rw [hs] at ih
  cases q:hasAt kn (t:Int) with
  | true =>
   rw [q,Bool.true_or] at ih
   simp only [cond_true]
   exact ih
  | false =>
   rw [q,Bool.false_or] at ih
   simp only [cond_false,Option.bind_some,roomA (show (sB xs kn t).length ≤ 1000000 by omega),cond_true]
   exact ih
theorem l7All_eq {xs:List Node3} (hp:poolB xs = true) {kn:List Int} (hl:kn.length ≤ 4294967296):spec_l7All N0 (xs,kn) = some (allB xs kn) := by
 have hx := poolB_len hp
 have h := all_loop hp hl xs.length 0 N0 (by omega) (by have := n0; omega)
 unfold spec_l7All
 dsimp only
 have h':spec_l7All_L3 N0 N0 (kn,xs,([]:List Bool),(0:Int)) = _ := h
 rw [h']; rfl
theorem room_ok {n:Nat} (h:n ≤ 4294967296):room n = true := decide_eq_true h
def opN (xs:List Node3) (F:List Bool) (v:Int):List Int :=
 bif (xs.getD v.toNat zN3).1 == 2 then [(xs.getD v.toNat zN3).2.1,(xs.getD v.toNat zN3).2.2] else bif (xs.getD v.toNat zN3).1 == 4 then [(xs.getD v.toNat zN3).2.1] else bif (xs.getD v.toNat zN3).1 == 3 then (bif fB F (xs.getD v.toNat zN3).2.2 then [(xs.getD v.toNat zN3).2.1] else []) else []
def opL (xs:List Node3) (F:List Bool):List Int → List Int
 | [] => []
 | v :: r => opN xs F v ++ opL xs F r
theorem opN_len (xs:List Node3) (F:List Bool) (v:Int):(opN xs F v).length ≤ 2 := by
 unfold opN
 cases (xs.getD v.toNat zN3).1 == 2 <;> cases (xs.getD v.toNat zN3).1 == 4 <;> cases (xs.getD v.toNat zN3).1 == 3 <;> cases fB F (xs.getD v.toNat zN3).2.2 <;> simp
theorem opL_len (xs:List Node3) (F:List Bool):∀ r,(opL xs F r).length ≤ 2 * r.length
 | [] => Nat.le_refl _
 | v :: r => by
  have := opL_len xs F r
  have := opN_len xs F v
  rw [opL,List.length_append,List.length_cons]
  omega
theorem parts2 {xs:List Node3} (hp:poolB xs = true) {v:Int} (h0:0 ≤ v) (h1:v < (xs.length:Int)) (hk:(xs.getD v.toNat zN3).1 = 2 ∨ (xs.getD v.toNat zN3).1 = 3 ∨ (xs.getD v.toNat zN3).1 = 4):(0 ≤ (xs.getD v.toNat zN3).2.1 ∧ (xs.getD v.toNat zN3).2.1 < (xs.length:Int)) ∧ 0 ≤ (xs.getD v.toNat zN3).2.2 ∧ (xs.getD v.toNat zN3).2.2 < (xs.length:Int) := by
 rcases pool_cases hp (show v.toNat < xs.length by omega) with ⟨a,_⟩ | ⟨a,_⟩ | ⟨a,b,c,d,e⟩
 ·omega
 ·omega
 ·exact ⟨⟨b,by omega⟩,d,by omega⟩
theorem opN_in {xs:List Node3} (hp:poolB xs = true) {F:List Bool} {v:Int} (h0:0 ≤ v) (h1:v < (xs.length:Int)):KIn xs (opN xs F v) := by
 intro x hx
 have h := parts2 hp h0 h1
 unfold opN at hx
 cases q2:(xs.getD v.toNat zN3).1 == 2 with
 | true =>
  obtain ⟨g1,g2⟩ := h (.inl (by simpa using q2))
  rw [q2,cond_true] at hx
  rcases List.mem_cons.1 hx with e | e
  ·rw [e]; exact g1
  ·rw [List.mem_singleton.1 e]; exact g2
 | false =>
  rw [q2,cond_false] at hx
  cases q4:(xs.getD v.toNat zN3).1 == 4 with
  | true =>
   obtain ⟨g1,g2⟩ := h (.inr (.inr (by simpa using q4)))
   rw [q4,cond_true] at hx
   rw [List.mem_singleton.1 hx]; exact g1
  | false =>
   rw [q4,cond_false] at hx
   cases q3:(xs.getD v.toNat zN3).1 == 3 with
   | true =>
    obtain ⟨g1,g2⟩ := h (.inr (.inl (by simpa using q3)))
    rw [q3,cond_true] at hx
    cases qf:fB F (xs.getD v.toNat zN3).2.2 with
    | true =>
     rw [qf,cond_true] at hx
     rw [List.mem_singleton.1 hx]; exact g1
    | false =>
     rw [qf,cond_false] at hx
     cases hx
   | false =>
    rw [q3,cond_false] at hx
    cases hx
theorem opL_in {xs:List Node3} (hp:poolB xs = true) {F:List Bool}:∀ {r:List Int},KIn xs r → KIn xs (opL xs F r)
 | [],_ => fun x hx => by cases hx
 | v :: r,h => fun x hx => by
  rw [opL] at hx
  rcases List.mem_append.1 hx with e | e
  ·exact opN_in hp (h v (List.mem_cons_self ..)).1 (h v (List.mem_cons_self ..)).2 x e
  ·exact opL_in hp (fun y hy => h y (List.mem_cons_of_mem _ hy)) x e
theorem oncI_loop {xs:List Node3} (hp:poolB xs = true) {kn:List Int} {F:List Bool} (hF:F.length = xs.length):∀ (r pre out:List Int) (m:Nat),r.length < m → pre.length + r.length ≤ 1000 → out.length + 2 * r.length ≤ 100000 → KIn xs r → impl_Pool_openOnce_L4 N0 m (xs,kn,F,out,pre ++ r,((pre ++ r).length:Int),(pre.length:Int)) = some (xs,kn,out ++ opL xs F r)
 | [],pre,out,m,hm,hl,ho,hk => by
  obtain ⟨i,rfl⟩:∃ i,m = i + 1 := ⟨m - 1,by omega⟩
  rw [impl_Pool_openOnce_L4]
  dsimp only
  rw [lt_end,cond_false,opL,List.append_nil]
 | v :: r,pre,out,m,hm,hl,ho,hk => by
  obtain ⟨i,rfl⟩:∃ i,m = i + 1 := ⟨m - 1,by omega⟩
  have hl':pre.length + (r.length + 1) ≤ 1000 := hl
  have hm':r.length + 1 < i + 1 := hm
  have ho':out.length + 2 * (r.length + 1) ≤ 100000 := ho
  have w:IntKind.i64.wrap ((pre.length:Int) + 1) = ((pre ++ [v]).length:Int) := by rw [wrap_ok (by omega) (by omega),len_one]
  obtain ⟨v0,v1⟩ := hk v (List.mem_cons_self ..)
  have h2 := parts2 hp v0 v1
  have go:∀ out',out'.length + 2 * r.length ≤ 100000 → impl_Pool_openOnce_L4 N0 i (xs,kn,F,out',pre ++ v :: r,((pre ++ v :: r).length:Int),((pre ++ [v]).length:Int)) = some (xs,kn,out' ++ opL xs F r) := fun out' h => by
   rw [app_one]
   exact oncI_loop hp hF r (pre ++ [v]) out' i (by omega) (by simp; omega) h (fun y hy => hk y (List.mem_cons_of_mem _ hy))
  have e0:xs.getD v.toNat ((0:Int),((0:Int),(0:Int))) = xs.getD v.toNat zN3 := rfl
  rw [impl_Pool_openOnce_L4]
  dsimp only
  rw [lt_pre,cond_true,in_pre,Int.toNat_natCast,get_pre,cond_true,w,inb_v v0 v1,cond_true,e0,opL]
  unfold opN
  cases q2:(xs.getD v.toNat zN3).1 == 2 with
  | true =>
   simp only [cond_true,room_ok (show out.length + [(xs.getD v.toNat zN3).2.1,(xs.getD v.toNat zN3).2.2].length ≤ 4294967296 by simp; omega)]
   rw [go _ (by simp; omega),List.append_assoc]
  | false =>
   cases q4:(xs.getD v.toNat zN3).1 == 4 with
   | true =>
    simp only [cond_true,cond_false,room_ok (show out.length + [(xs.getD v.toNat zN3).2.1].length ≤ 4294967296 by simp; omega)]
    rw [go _ (by simp; omega),List.append_assoc]
   | false =>
    cases q3:(xs.getD v.toNat zN3).1 == 3 with
    | true =>
     obtain ⟨g1,g2⟩ := h2 (.inr (.inl (by simpa using q3)))
     have ef:F.getD (xs.getD v.toNat zN3).2.2.toNat false = fB F (xs.getD v.toNat zN3).2.2 := rfl
     simp only [cond_true,cond_false,inb_v g2.1 (show (xs.getD v.toNat zN3).2.2 < (F.length:Int) by rw [hF]; exact g2.2),ef]
     cases qf:fB F (xs.getD v.toNat zN3).2.2 with
     | true =>
      simp only [cond_true,room_ok (show out.length + [(xs.getD v.toNat zN3).2.1].length ≤ 4294967296 by simp; omega)]
      rw [go _ (by simp; omega),List.append_assoc]
     | false =>
      simp only [cond_false]
      rw [go _ (by omega)]; rfl
    | false =>
     simp only [cond_false]
     rw [go _ (by omega)]; rfl
theorem fold_mem {x:Int}:∀ {l kn:List Int},x ∈ l.foldl putA kn ↔ x ∈ kn ∨ x ∈ l
 | [],kn => by simp
 | v :: r,kn => by
  rw [List.foldl_cons,fold_mem,putA_mem,List.mem_cons]
  constructor
  ·rintro ((e | e) | e)
   ·exact .inr (.inl e)
   ·exact .inl e
   ·exact .inr (.inr e)
  ·rintro (e | e | e)
   ·exact .inl (.inr e)
   ·exact .inl (.inl e)
   ·exact .inr e
theorem fold_asc:∀ {l kn:List Int},kn.Pairwise (· < ·) → (l.foldl putA kn).Pairwise (· < ·)
 | [],kn,h => h
 | v :: r,kn,h => fold_asc (l := r) (kn := putA kn v) (putA_asc h v)
theorem oncS_loop {xs:List Node3} (hp:poolB xs = true) {F:List Bool} (hF:F.length = xs.length):∀ (r pre out:List Int) (m:Nat),r.length < m → pre.length + r.length ≤ 1000 → out.length + 2 * r.length ≤ 800 → KIn xs r → spec_l8Once_L4 N0 m (pre ++ r,xs,F,out,(pre.length:Int)) = some ((opL xs F r).foldl putA out)
 | [],pre,out,m,hm,hl,ho,hk => by
  obtain ⟨i,rfl⟩:∃ i,m = i + 1 := ⟨m - 1,by omega⟩
  rw [spec_l8Once_L4]
  dsimp only
  rw [lt_end,cond_false]; rfl
 | v :: r,pre,out,m,hm,hl,ho,hk => by
  obtain ⟨i,rfl⟩:∃ i,m = i + 1 := ⟨m - 1,by omega⟩
  have hl':pre.length + (r.length + 1) ≤ 1000 := hl
  have hm':r.length + 1 < i + 1 := hm
  have ho':out.length + 2 * (r.length + 1) ≤ 800 := ho
  have w:IntKind.i64.wrap ((pre.length:Int) + 1) = ((pre ++ [v]).length:Int) := by rw [wrap_ok (by omega) (by omega),len_one]
  obtain ⟨v0,v1⟩ := hk v (List.mem_cons_self ..)
  have h2 := parts2 hp v0 v1
  have go:∀ out',out'.length + 2 * r.length ≤ 800 → spec_l8Once_L4 N0 i (pre ++ v :: r,xs,F,out',((pre ++ [v]).length:Int)) = some ((opL xs F r).foldl putA out') := fun out' h => by
   rw [app_one]
   exact oncS_loop hp hF r (pre ++ [v]) out' i (by omega) (by simp; omega) h (fun y hy => hk y (List.mem_cons_of_mem _ hy))
  have e0:xs.getD v.toNat ((0:Int),((0:Int),(0:Int))) = xs.getD v.toNat zN3 := rfl
  have l1 := putA_len out (xs.getD v.toNat zN3).2.1
  have l2 := putA_len (putA out (xs.getD v.toNat zN3).2.1) (xs.getD v.toNat zN3).2.2
  rw [spec_l8Once_L4]
  dsimp only
  unfold spec_l8Once_R6
  dsimp only
  rw [lt_pre,cond_true,in_pre,Int.toNat_natCast,get_pre,cond_true,inb_v v0 v1,cond_true,e0,opL,List.foldl_append,Option.bind_some]
  dsimp only
  rw [w]
  unfold opN
  cases q2:(xs.getD v.toNat zN3).1 == 2 with
  | true =>
   simp only [cond_true,putA_eq (show out.length ≤ 900 by omega),putA_eq (show (putA out (xs.getD v.toNat zN3).2.1).length ≤ 900 by omega),Option.bind_some]
   rw [go _ (by omega)]; rfl
  | false =>
   cases q4:(xs.getD v.toNat zN3).1 == 4 with
   | true =>
    simp only [cond_true,cond_false,putA_eq (show out.length ≤ 900 by omega),Option.bind_some]
    rw [go _ (by omega)]; rfl
   | false =>
    cases q3:(xs.getD v.toNat zN3).1 == 3 with
    | true =>
     obtain ⟨g1,g2⟩ := h2 (.inr (.inl (by simpa using q3)))
     have ef:F.getD (xs.getD v.toNat zN3).2.2.toNat false = fB F (xs.getD v.toNat zN3).2.2 := rfl
     simp only [cond_true,cond_false,inb_v g2.1 (show (xs.getD v.toNat zN3).2.2 < (F.length:Int) by rw [hF]; exact g2.2),ef]
     cases qf:fB F (xs.getD v.toNat zN3).2.2 with
     | true =>
      simp only [cond_true,putA_eq (show out.length ≤ 900 by omega),Option.bind_some]
      rw [go _ (by omega)]; rfl
     | false =>
      simp only [cond_false]
      rw [go _ (by omega)]; rfl
    | false =>
     simp only [cond_false]
     rw [go _ (by omega)]; rfl
structure KOk (xs:List Node3) (kn:List Int):Prop where
 pool:poolB xs = true
 len:kn.length ≤ 200
 asc:kn.Pairwise (· < ·)
 mem:KIn xs kn
def opO (xs:List Node3) (kn:List Int):List Int := ordL (kn ++ opL xs (allB xs kn) kn)
theorem opO_fold {xs:List Node3} {kn:List Int} (h:KOk xs kn):opO xs kn = (opL xs (allB xs kn) kn).foldl putA kn :=
 asc_ext (ord_asc _) (fold_asc h.asc) fun x => by rw [opO,ord_mem,fold_mem,List.mem_append]
theorem open_once {xs:List Node3} {kn:List Int} (h:KOk xs kn) :
  impl_Pool_openOnce N0 (xs,kn) = some (xs,bif decide (((opO xs kn).length:Int) > 200) then kn else opO xs kn) ∧ spec_l8Once N0 (xs,kn) = some (opO xs kn,decide (((opO xs kn).length:Int) ≤ 200)) ∧ ((opO xs kn).length ≤ 200 → KOk xs (opO xs kn)) ∧ kn.length ≤ (opO xs kn).length ∧ (kn.length = (opO xs kn).length → kn = opO xs kn) := by
 have hl := h.len
 have hF:(allB xs kn).length = xs.length := sB_len xs kn _
 have ha := asc_sub h.asc (ord_asc (kn ++ opL xs (allB xs kn) kn)) (fun x hx => ord_mem x |>.2 (List.mem_append_left _ hx))
 have hoL := opL_len xs (allB xs kn) kn
 refine ⟨?_, ?_,fun hl2 => ⟨h.pool,hl2,ord_asc _,fun x hx => ?_⟩,ha.1,ha.2⟩
 ·have e := oncI_loop h.pool (kn := kn) hF kn [] kn N0 (by have := n0; omega) (by simpa using (by omega:kn.length ≤ 1000)) (by omega) h.mem
  have e':impl_Pool_openOnce_L4 N0 N0 (xs,kn,allB xs kn,kn,kn,(kn.length:Int),(0:Int)) = _ := e
  have hc:lib_cloneInt kn = some kn := by
   unfold lib_cloneInt
   rw [decide_eq_true (show kn.length ≤ 4294967296 by omega)]; rfl
  have hlen:(kn ++ opL xs (allB xs kn) kn).length ≤ 4294967296 := by rw [List.length_append]; omega
  have hs:lib_sortInt (kn ++ opL xs (allB xs kn) kn) = some ((kn ++ opL xs (allB xs kn) kn).mergeSort fun a b => decide (a ≤ b)) := if_pos hlen
  have hcm:lib_compactInt ((kn ++ opL xs (allB xs kn) kn).mergeSort fun a b => decide (a ≤ b)) = some (opO xs kn) := if_pos (by rw [List.length_mergeSort]; exact hlen)
  have hcl:lib_clipInt (opO xs kn) = some (opO xs kn) := rfl
  unfold impl_Pool_openOnce
  dsimp only
  simp only [makes_eq h.pool (show kn.length ≤ 900 by omega) h.mem,Option.bind_some,hc,e',hs,hcm,hcl]
  cases decide (((opO xs kn).length:Int) > 200) <;> rfl
 ·have e := oncS_loop h.pool hF kn [] kn N0 (by have := n0; omega) (by simpa using (by omega:kn.length ≤ 1000)) (by omega) h.mem
  have e':spec_l8Once_L4 N0 N0 (kn,xs,allB xs kn,kn,(0:Int)) = _ := e
  unfold spec_l8Once
  dsimp only
  rw [l7All_eq h.pool (show kn.length ≤ 4294967296 by omega),Option.bind_some,room_ok (show ([]:List Int).length + kn.length ≤ 4294967296 by simp; omega),cond_true,List.nil_append,e',Option.bind_some,opO_fold h]
 ·rcases List.mem_append.1 ((ord_mem x).1 hx) with q | q
  ·exact h.mem x q
  ·exact opL_in h.pool h.mem x q
theorem open_all {xs:List Node3}:∀ (d:Nat) (kn:List Int) (c1 c2:Int) (m1 m2:Nat),200 - kn.length ≤ d → d < m1 → d < m2 → KOk xs kn → ∃ kn' c1' c2',impl_Pool_openAll_L2 N0 m1 (xs,kn,c1) = some (xs,kn',c1') ∧ spec_l8All_L3 N0 m2 (xs,kn,c2) = some (kn',c2') ∧ KOk xs kn'
 | d,kn,c1,c2,m1,m2,hd,h1,h2,hk => by
  obtain ⟨i,rfl⟩:∃ i,m1 = i + 1 := ⟨m1 - 1,by omega⟩
  obtain ⟨j,rfl⟩:∃ j,m2 = j + 1 := ⟨m2 - 1,by omega⟩
  obtain ⟨e1,e2,e3,e4,e5⟩ := open_once hk
  have hl := hk.len
  rw [impl_Pool_openAll_L2,spec_l8All_L3]
  dsimp only
  rw [e1,e2,Option.bind_some,Option.bind_some]
  dsimp only
  by_cases q:(opO xs kn).length ≤ 200
  ·rw [decide_eq_false (show ¬ ((opO xs kn).length:Int) > 200 by omega),decide_eq_true (show ((opO xs kn).length:Int) ≤ 200 by omega),cond_false,Bool.not_true,cond_false]
   by_cases q2:(opO xs kn).length = kn.length
   ·have := e5 q2.symm
    have hb:(((opO xs kn).length:Int) == (kn.length:Int)) = true := by rw [q2]; exact beq_self_eq_true _
    rw [hb,cond_true,cond_true]
    exact ⟨kn,c1,c2,by rw [← this],rfl,hk⟩
   ·have hb:(((opO xs kn).length:Int) == (kn.length:Int)) = false := by rw [beq_eq_false_iff_ne]; omega
    rw [hb,cond_false,cond_false]
    match d,hd with
    | 0,hd => omega
    | d + 1,hd => exact open_all d (opO xs kn) _ _ i j (by omega) (by omega) (by omega) (e3 q)
  ·rw [decide_eq_true (show ((opO xs kn).length:Int) > 200 by omega),decide_eq_false (show ¬ ((opO xs kn).length:Int) ≤ 200 by omega),cond_true,Bool.not_false,cond_true,beq_self_eq_true,cond_true]
   exact ⟨kn,c1,c2,rfl,rfl,hk⟩
theorem derive_same {xs:List Node3} {kn:List Int} (h:KOk xs kn):∃ kn' c,KOk xs kn' ∧ impl_Pool_derives N0 (xs,kn) = some (xs,allB xs kn') ∧ spec_l8All N0 (xs,kn) = some (kn',c) ∧ spec_l7All N0 (xs,kn') = some (allB xs kn') := by
 have hl := h.len
 obtain ⟨kn',c1,c2,e1,e2,e3⟩ := open_all 200 kn 0 0 N0 N0 (by omega) (by have := n0; omega) (by have := n0; omega) h
 have hl' := e3.len
 refine ⟨kn',c2,e3, ?_, ?_,l7All_eq h.pool (by omega)⟩
 ·unfold impl_Pool_derives impl_Pool_openAll
  dsimp only
  rw [e1]
  simp only [Option.bind_some,makes_eq h.pool (show kn'.length ≤ 900 by omega) e3.mem]
 ·unfold spec_l8All
  dsimp only
  rw [room_ok (show ([]:List Int).length + kn.length ≤ 4294967296 by simp; omega),cond_true,List.nil_append,e2]; rfl
section
variable {xs:List Node3} {kn:List Int} {li:List Inst9} {fr:Int} {gv sh:List Int} {lg:List Claim3} {k:Int}
theorem world_kok (hw:worldB xs kn li fr gv sh lg = true):KOk xs kn := by
 unfold worldB knowB at hw
 simp only [Bool.and_eq_true] at hw
 obtain ⟨⟨h1,h2,h3⟩,_⟩ := hw
 rw [allN_iff] at h1
 refine ⟨h3,of_decide_eq_true h2,asc_pair (fun u hu => ?_),fun x hx => ?_⟩
 ·have := h1 u (Nat.zero_le _) (by omega)
  unfold knowAt at this
  rw [Bool.and_eq_true] at this
  exact this.2
 ·obtain ⟨j,hj,e⟩ := List.getElem_of_mem hx
  have := h1 j (Nat.zero_le _) (by omega)
  unfold knowAt hasB at this
  rw [Bool.and_eq_true,Bool.and_eq_true,decide_eq_true_iff,decide_eq_true_iff,List.getD_eq_getElem?_getD,List.getElem?_eq_getElem hj,Option.getD_some,e] at this
  omega
theorem world_claim2 (hw:worldB xs kn li fr gv sh lg = true) {c:Claim3} (hc:claimAt lg k = some c):doneB li k = true := by
 obtain ⟨j,_,h2,h3⟩ := claimFrom_lk lg k _ 0 hc
 unfold worldB at hw
 simp only [Bool.and_eq_true] at hw
 have hl := hw.2.2.2.2.2.2.2.2.1
 rw [allN_iff] at hl
 have := hl j (Nat.zero_le _) h2
 unfold gLog at this
 rw [Bool.and_eq_true,h3] at this
 exact this.1
def secB (li:List Inst9) (gv sh:List Int) (lg:List Claim3) (k:Int):Bool := trustB li lg k && (!keyShownB li sh k && ((li.getD k.toNat zI).1 == 1 || (!hasAt gv (li.getD k.toNat zI).2.2.1 && !hasAt gv (li.getD k.toNat zI).2.2.2.1)))
theorem sec_done (hw:worldB xs kn li fr gv sh lg = true) (h:secB li gv sh lg k = true):doneB li k = true := by
 unfold secB at h
 rw [Bool.and_eq_true] at h
 have ht := h.1
 unfold trustB at ht
 cases hc:claimAt lg k with
 | none => rw [hc] at ht; cases ht
 | some c => exact world_claim2 hw hc
theorem sec_eq (hs:Small xs kn li gv sh lg) (hw:worldB xs kn li fr gv sh lg = true):impl_World_secret N0 (xs,kn,li,fr,gv,sh,lg,k) = some (xs,kn,li,fr,gv,sh,lg,secB li gv sh lg k) ∧ spec_l15Secret N0 (xs,kn,li,fr,gv,sh,lg,k) = some (secB li gv sh lg k) := by
 rw [impl_World_secret,spec_l15Secret]; dsimp only
 rw [implTrusted_eq hs hw,specTrusted_eq hs hw]
 simp only [Option.bind_some]
 unfold secB
 cases ht:trustB li lg k with
 | false => exact ⟨rfl,rfl⟩
 | true =>
  have hk:inst0 (li.length:Int) k = true := by
   unfold trustB at ht
   cases hc:claimAt lg k with
   | none => rw [hc] at ht; cases ht
   | some c => exact world_claim hw hc
  simp only [Bool.not_true,cond_false,implShown_eq hs hw,specShown_eq hs hw,Option.bind_some,cond_true]
  cases keyShownB li sh k with
  | true => exact ⟨rfl,rfl⟩
  | false =>
   simp only [cond_false,inst0_inb hk,cond_true,given_eq hs.fg,knowHas_eq hs.fg,Option.bind_some]
   cases ((li.getD k.toNat zI).1 == (1:Int)) with
   | true => exact ⟨rfl,rfl⟩
   | false =>
    cases hasAt gv (li.getD k.toNat zI).2.2.1 with
    | true => exact ⟨rfl,rfl⟩
    | false => exact ⟨rfl,rfl⟩
def secAt (F:List Bool) (li:List Inst9) (gv sh:List Int) (lg:List Claim3) (i:Nat):Bool := !secB li gv sh lg (i:Int) || !fB F (li.getD i zI).2.2.2.2.2.2.2.2
theorem sec_key (hs:Small xs kn li gv sh lg) (hw:worldB xs kn li fr gv sh lg = true) {i:Nat} (hi:i < li.length) (h:secB li gv sh lg (i:Int) = true):hasB xs (li.getD i zI).2.2.2.2.2.2.2.2 = true := by
 have hd := sec_done hw h
 unfold doneB at hd
 rw [Bool.and_eq_true,Int.toNat_natCast] at hd
 exact (world_good hs hw hi).key hd.2
theorem judgeSec_same (hs:Small xs kn li gv sh lg):∃ v,impl_JudgeSecret N0 (xs,kn,li,fr,gv,sh,lg) = some v ∧ spec_JudgeSecret N0 (xs,kn,li,fr,gv,sh,lg) = some v := by
 have hli := hs.fl
 rw [impl_JudgeSecret,spec_JudgeSecret]; dsimp only
 rw [(world_same hs).1,(world_same hs).2]
 simp only [Option.bind_some]
 cases hw:worldB xs kn li fr gv sh lg with
 | false => exact ⟨false,rfl,rfl⟩
 | true =>
  obtain ⟨kn',c,h1,h2,h3,h4⟩ := derive_same (world_kok hw)
  rw [h2,h3]
  simp only [Bool.not_true,cond_false,Option.bind_some,h4]
  generalize hF:allB xs kn' = F
  have hFl:F.length = xs.length := by rw [← hF]; exact sB_len xs kn' _
  have hin:∀ i,i < li.length → secB li gv sh lg (i:Int) = true → inb (li.getD i zI).2.2.2.2.2.2.2.2 F.length = true := fun i hi hc => by
   have := sec_key hs hw hi hc
   unfold hasB at this
   rw [Bool.and_eq_true,decide_eq_true_iff,decide_eq_true_iff] at this
   exact inb_v this.1 (by rw [hFl]; omega)
  have ez:∀ i:Nat,li.getD i ((0:Int),((0:Int),((0:Int),((0:Int),((0:Int),(([]:List Int),(false,(false,(0:Int))))))))) = li.getD i zI := fun _ => rfl
  have ef:∀ v:Int,F.getD v.toNat false = fB F v := fun _ => rfl
  have g1 := test_loop (impl_JudgeSecret_L5 N0) (fun i => (xs,kn,li,fr,gv,sh,lg,F,li,(li.length:Int),(i:Int))) (secAt F li gv sh lg) false () li.length (fun m i hi => by
   rw [impl_JudgeSecret_L5]; dsimp only
   rw [lt_t hi,cond_true,inb_nat hi,cond_true,(sec_eq (k := (i:Int)) hs hw).1]
   simp only [Option.bind_some,step_wrap hi hli,Int.toNat_natCast,ez,ef]
   unfold secAt
   cases hc:secB li gv sh lg (i:Int) with
   | false => rfl
   | true =>
    rw [cond_true,hin i hi hc,cond_true]
    cases fB F (li.getD i zI).2.2.2.2.2.2.2.2 <;> rfl) (fun m => by
   rw [impl_JudgeSecret_L5]; dsimp only; rw [lt_f]; rfl) N0 0 (Nat.zero_le _) (by have := n0; omega)
  have g2 := test_loop (spec_JudgeSecret_L6 N0) (fun i => (xs,kn,li,fr,gv,sh,lg,F,(i:Int))) (secAt F li gv sh lg) false () li.length (fun m i hi => by
   rw [spec_JudgeSecret_L6]; dsimp only
   rw [lt_t hi,cond_true,inb_nat hi,(sec_eq (k := (i:Int)) hs hw).2]
   simp only [Option.bind_some,step_wrap hi hli,Int.toNat_natCast,ez,ef]
   unfold secAt
   cases hc:secB li gv sh lg (i:Int) with
   | false => rfl
   | true =>
    rw [cond_true,cond_true,hin i hi hc,cond_true]
    cases fB F (li.getD i zI).2.2.2.2.2.2.2.2 <;> rfl) (fun m => by
   rw [spec_JudgeSecret_L6]; dsimp only; rw [lt_f]; rfl) N0 0 (Nat.zero_le _) (by have := n0; omega)
  rw [Nat.sub_zero] at g1 g2
  have g1':impl_JudgeSecret_L5 N0 N0 (xs,kn,li,fr,gv,sh,lg,F,li,(li.length:Int),(0:Int)) = _ := g1
  have g2':spec_JudgeSecret_L6 N0 N0 (xs,kn,li,fr,gv,sh,lg,F,(0:Int)) = _ := g2
  rw [g1',g2']
  cases allN (secAt F li gv sh lg) 0 li.length with
  | true => exact ⟨true,rfl,rfl⟩
  | false => exact ⟨false,rfl,rfl⟩
theorem judgeSecret_law (hb:Big xs kn li gv sh lg):laws_FnExactJudgeSecret N0 (xs,kn,li,fr,gv,sh,lg) = some true := by
 obtain ⟨q,h1,h2⟩ := szWorld_ex (fr := fr) hb
 rw [laws_FnExactJudgeSecret]; dsimp only
 rw [h1]
 simp only [Option.bind_some]
 rcases h2 with h2 | ⟨h2,hs⟩
 ·rw [decide_eq_true h2]; rfl
 ·obtain ⟨v,e1,e2⟩ := judgeSec_same (fr := fr) hs
  rw [decide_eq_false (by omega:¬ q < 0),cond_false]
  simp only [toWorld_eq hs,Option.bind_some,e1,e2,bne_self_eq_false,cond_false,eqWorld_self hs,Bool.not_true]
end
theorem judgeSecret_law_td (x:TD (entys (parEns 0 (S3 0).pars))) (hx:FitsTD _ x):laws_FnExactJudgeSecret N0 x = some true := by
 obtain ⟨xs,kn,li,fr,gv,sh,lg⟩ := x
 exact judgeSecret_law (big_of (hx ⟨_,xs⟩ (.head _)) (hx ⟨_,kn⟩ (.tail _ (.head _))) (hx ⟨_,li⟩ (.tail _ (.tail _ (.head _)))) (hx ⟨_,gv⟩ (.tail _ (.tail _ (.tail _ (.tail _ (.head _)))))) (hx ⟨_,sh⟩ (.tail _ (.tail _ (.tail _ (.tail _ (.tail _ (.head _))))))) (hx ⟨_,lg⟩ (.tail _ (.tail _ (.tail _ (.tail _ (.tail _ (.tail _ (.head _)))))))))
end AM
end Go.Proofs.YtobpcllkonomlabGreatDoor
