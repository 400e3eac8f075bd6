/- StreamDo is one function by both; the law FnExactStreamDo. Condition: the lengths. And what follows it: see the remarks. -/
import Derived.Test.YtleofghbkfpdaaaGreatDoorSP2
namespace Go.Proofs.YtleofghbkfpdaaaGreatDoor
namespace AM
open Go
set_option linter.unusedVariables false
set_option linter.unusedSimpArgs false
theorem insL_mem {v x : Int} : ∀ {r : List Int}, x ∈ insL v r → x = v ∨ x ∈ r
 | [], h => by rw [insL] at h; exact .inl (List.mem_singleton.1 h)
 | y :: r, h => by
  rw [insL] at h
  split at h
  ·rcases List.mem_cons.1 h with e | e
   ·exact .inr (e ▸ List.mem_cons_self ..)
   ·rcases insL_mem e with e | e
    ·exact .inl e
    ·exact .inr (List.mem_cons_of_mem _ e)
  ·rcases List.mem_cons.1 h with e | e
   ·exact .inl e
   ·exact .inr e
theorem insL_pw {v : Int} : ∀ {r : List Int}, v ∉ r → r.Pairwise (· < ·) → (insL v r).Pairwise (· < ·)
 | [], _, _ => by rw [insL]; exact List.pairwise_singleton _ _
 | y :: r, hv, h => by
  have h' := List.pairwise_cons.1 h
  have hne : v ≠ y := fun q => hv (q ▸ List.mem_cons_self ..)
  rw [insL]
  split
  ·rename_i q
   refine List.pairwise_cons.2 ⟨fun x hx => ?_, insL_pw (fun q => hv (List.mem_cons_of_mem _ q)) h'.2⟩
   rcases insL_mem hx with e | e
   ·omega
   ·exact h'.1 x e
  ·rename_i q
   refine List.pairwise_cons.2 ⟨fun x hx => ?_, h⟩
   rcases List.mem_cons.1 hx with e | e
   ·omega
   ·have := h'.1 x e; omega
theorem knowV_of {xs : List Node3} {k : List Int} (hp : poolB xs = true) (hl : k.length ≤ 200) (pw : k.Pairwise (· < ·)) (hm : ∀ v, v ∈ k → hasB xs v = true) : knowV xs k = true := by
 refine knowV_iff.2 ⟨allN_iff.2 (fun j _ hj => ?_), hl, hp⟩
 have hj' : j < k.length := by omega
 have e : k.getD j 0 = k[j] := by simp [List.getD_eq_getElem?_getD, hj']
 unfold knowAt ascAt
 rw [e, hm _ (List.getElem_mem hj'), Bool.true_and]
 rcases Nat.eq_zero_or_pos j with q | q
 ·subst q; rfl
 ·have hj2 : j - 1 < k.length := by omega
  have e2 : k.getD (j - 1) 0 = k[j - 1] := by simp [List.getD_eq_getElem?_getD, hj2]
  rw [e2, decide_eq_true (List.pairwise_iff_getElem.1 pw (j - 1) j hj2 hj' (by omega)), Bool.or_true]
theorem knowV_mem {xs : List Node3} {k : List Int} (h : knowV xs k = true) (v : Int) (hv : v ∈ k) : hasB xs v = true := by
 obtain ⟨j, hj, e⟩ := List.mem_iff_getElem.1 hv
 have := (knowV_kn h).2 j hj
 have e1 : k.getD j 0 = k[j] := by simp [List.getD_eq_getElem?_getD, hj]
 rw [e1, e] at this
 exact this
theorem termsV_pre {xs ys : List Node3} {l l' : List Int} (h : termsV xs l = true) (e : ∃ zs, ys = xs ++ zs) (hl : l' = l ∨ ∃ u, l' = l ++ [u] ∧ hasB ys u = true) (h60 : l'.length ≤ 60) : termsV ys l' = true := by
 obtain ⟨a, b⟩ := termsV_iff.1 h
 refine termsV_iff.2 ⟨fun j hj => ?_, h60⟩
 rcases hl with rfl | ⟨u, rfl, hu⟩
 ·exact hasB_pre (a j hj) e
 ·by_cases q : j < l.length
  ·have := hasB_pre (a j q) e
   rw [show (l ++ [u]).getD j 0 = l.getD j 0 from by simp [List.getD_eq_getElem?_getD, List.getElem?_append_left q]]; exact this
  ·have hj' : j = l.length := by simp at hj; omega
   subst hj'
   have : (l ++ [u]).getD l.length 0 = u := get_pre l [] u 0
   rw [this]; exact hu
section
variable {xs : List Node3} {kn : List Int} {k t s k2 t2 s2 : Int} {d d2 : Bool} {se go : List Int} {act v : Int} {T : ByteArray}
theorem deed_right {ys : List Node3} {kn' : List Int} {k' t' s' k2' t2' s2' : Int} {se' go' : List Int} (h : streamV xs kn k t s k2 t2 s2 se go = true) (g : Deed xs kn k t s k2 t2 s2 se go ys kn' k' t' s' k2' t2' s2' se' go') (h1 : se'.length ≤ 60) (h2 : go'.length ≤ 60) : streamV ys kn' k' t' s' k2' t2' s2' se' go' = true := by
 obtain ⟨hk, _, _, h3, h4⟩ := streamV_iff.1 h
 obtain ⟨g1, g2, g3, g4, g5, g6, g7⟩ := g
 refine streamV_iff.2 ⟨?_, g3, g4, termsV_pre h3 g2 g6 h1, termsV_pre h4 g2 g7 h2⟩
 have hkl := knowV_len hk
 have hm : ∀ v, v ∈ kn → hasB ys v = true := fun v hv => hasB_pre (knowV_mem hk v hv) g2
 rcases g5 with rfl | ⟨u, rfl, hu, hl⟩
 ·exact knowV_of g1 hkl (knowV_pw hk) hm
 ·unfold putL at hl ⊢
  cases hc : kn.contains u with
  | true => rw [hc] at hl; exact knowV_of g1 hl (knowV_pw hk) hm
  | false =>
   rw [hc] at hl
   have hnm : u ∉ kn := fun q => by rw [List.contains_iff_mem.2 q] at hc; cases hc
   refine knowV_of g1 hl (insL_pw hnm (knowV_pw hk)) (fun v hv => ?_)
   rcases insL_mem hv with e | e
   ·exact e ▸ hu
   ·exact hm v e
theorem streamDo_same (hx : xs.length ≤ 4294967296) (hk : kn.length ≤ 4294967296) (hs : se.length ≤ 4294967296) (hg : go.length ≤ 4294967296) :
  ∃ ys kn' k' t' s' d' k2' t2' s2' d2' se' go' ok, impl_StreamDo N0 (xs, kn, k, t, s, d, k2, t2, s2, d2, se, go, act, v, T) = some (ys, kn', k', t', s', d', k2', t2', s2', d2', se', go', ok) ∧ spec_StreamDo N0 (xs, kn, k, t, s, d, k2, t2, s2, d2, se, go, act, v, T) = some (ys, kn', k', t', s', d', k2', t2', s2', d2', se', go', ok) ∧ ys.length ≤ 4294967296 ∧ kn'.length ≤ 4294967296 ∧ se'.length ≤ 4294967296 ∧ go'.length ≤ 4294967296 ∧
   (streamV xs kn k t s k2 t2 s2 se go = true → streamV ys kn' k' t' s' k2' t2' s2' se' go' = true ∧ (ok = false → (ys, kn', k', t', s', d', k2', t2', s2', d2', se', go') = (xs, kn, k, t, s, d, k2, t2, s2, d2, se, go))) := by
 have iS := implStream_eq (k := k) (t := t) (s := s) (d := d) (k2 := k2) (t2 := t2) (s2 := s2) (d2 := d2) hx hk hs hg
 have sS := specStream_eq (k := k) (t := t) (s := s) (d := d) (k2 := k2) (t2 := t2) (s2 := s2) (d2 := d2) hx hk hs hg
 have iC := implCopy_eq (k := k) (t := t) (s := s) (d := d) (k2 := k2) (t2 := t2) (s2 := s2) (d2 := d2) hx hk hs hg
 have sC := specCopy_eq (k := k) (t := t) (s := s) (d := d) (k2 := k2) (t2 := t2) (s2 := s2) (d2 := d2) hx hk hs hg
 cases hv : streamV xs kn k t s k2 t2 s2 se go with
 | false =>
  rw [hv] at iS sS
  refine ⟨[], [], 0, 0, 0, false, 0, 0, 0, false, [], [], false, ?_, ?_, by simp, by simp, by simp, by simp, (fun q => by cases q)⟩
  ·unfold impl_StreamDo
   simp only [iS, Option.bind_some, Bool.not_false, cond_true]
  ·unfold spec_StreamDo
   simp only [sS, Option.bind_some, Bool.not_false, cond_true]
 | true =>
  rw [hv] at iS sS
  have hac := action_eq (act := act) (v := v) (T := T)
  have same : (∃ r : Bool, r = false) := ⟨false, rfl⟩
  unfold impl_StreamDo spec_StreamDo
  dsimp only
  simp only [iS, sS, iC, hac, Option.bind_some, Bool.not_true, cond_false, spec_StreamDo_R5]
  rcases do_both (d := d) (d2 := d2) (act := act) (v := v) (T := T) hv with ⟨a1, ⟨ys, kn', k', t', s', d', k2', t2', s2', d2', se', go', q1, q2, q3⟩ | ⟨y, z, q1, q2⟩⟩ | ⟨a1, q1⟩
  ·have hp := poolB_len q3.1
   have hk2 : kn'.length ≤ 201 := by
    have := knowV_len (streamV_iff.1 hv).1
    rcases q3.2.2.2.2.1 with e | ⟨u, e, _, hl⟩
    ·rw [e]; omega
    ·omega
   have hse2 : se'.length ≤ 61 := by
    have := (termsV_iff.1 (streamV_iff.1 hv).2.2.2.1).2
    rcases q3.2.2.2.2.2.1 with e | ⟨u, e, _⟩
    ·rw [e]; omega
    ·rw [e]; simp; omega
   have hgo2 : go'.length ≤ 61 := by
    have := (termsV_iff.1 (streamV_iff.1 hv).2.2.2.2).2
    rcases q3.2.2.2.2.2.2 with e | ⟨u, e, _⟩
    ·rw [e]; omega
    ·rw [e]; simp; omega
   have sC' := specCopy_eq (xs := ys) (kn := kn') (k := k') (t := t') (s := s') (d := d') (k2 := k2') (t2 := t2') (s2 := s2') (d2 := d2') (se := se') (go := go') (by omega) (by omega) (by omega) (by omega)
   simp only [a1, sC, q1, q2, Option.bind_some, Bool.not_true, cond_false, impl_Stream_fits]
   by_cases c1 : ys.length ≤ 400
   ·by_cases c2 : se'.length ≤ 60
    ·by_cases c3 : go'.length ≤ 60
     ·refine ⟨ys, kn', k', t', s', d', k2', t2', s2', d2', se', go', true, ?_, ?_, by omega, by omega, by omega, by omega, fun _ => ⟨deed_right hv q3 c2 c3, fun q => by cases q⟩⟩
      ·simp only [(show decide ((ys.length : Int) ≤ (400 : Int)) = true from decide_eq_true (by omega)), (show decide ((se'.length : Int) ≤ (60 : Int)) = true from decide_eq_true (by omega)), (show decide ((go'.length : Int) ≤ (60 : Int)) = true from decide_eq_true (by omega)), cond_true, cond_false, Option.bind_some, Bool.not_true]
      ·simp only [(show decide ((ys.length : Int) > (400 : Int)) = false from decide_eq_false (by omega)), (show decide ((se'.length : Int) > (60 : Int)) = false from decide_eq_false (by omega)), (show decide ((go'.length : Int) > (60 : Int)) = false from decide_eq_false (by omega)), cond_true, cond_false, Option.bind_some, sC']
     ·refine ⟨xs, kn, k, t, s, d, k2, t2, s2, d2, se, go, false, ?_, ?_, hx, hk, hs, hg, fun _ => ⟨hv, fun _ => rfl⟩⟩
      ·simp only [(show decide ((ys.length : Int) ≤ (400 : Int)) = true from decide_eq_true (by omega)), (show decide ((se'.length : Int) ≤ (60 : Int)) = true from decide_eq_true (by omega)), (show decide ((go'.length : Int) ≤ (60 : Int)) = false from decide_eq_false (by omega)), cond_true, cond_false, Option.bind_some, Bool.not_false, iC]
      ·simp only [(show decide ((ys.length : Int) > (400 : Int)) = false from decide_eq_false (by omega)), (show decide ((se'.length : Int) > (60 : Int)) = false from decide_eq_false (by omega)), (show decide ((go'.length : Int) > (60 : Int)) = true from decide_eq_true (by omega)), cond_true, cond_false, Option.bind_some, sC]
    ·refine ⟨xs, kn, k, t, s, d, k2, t2, s2, d2, se, go, false, ?_, ?_, hx, hk, hs, hg, fun _ => ⟨hv, fun _ => rfl⟩⟩
     ·simp only [(show decide ((ys.length : Int) ≤ (400 : Int)) = true from decide_eq_true (by omega)), (show decide ((se'.length : Int) ≤ (60 : Int)) = false from decide_eq_false (by omega)), cond_true, cond_false, Option.bind_some, Bool.not_false, iC]
     ·simp only [(show decide ((ys.length : Int) > (400 : Int)) = false from decide_eq_false (by omega)), (show decide ((se'.length : Int) > (60 : Int)) = true from decide_eq_true (by omega)), cond_true, cond_false, Option.bind_some, sC]
   ·refine ⟨xs, kn, k, t, s, d, k2, t2, s2, d2, se, go, false, ?_, ?_, hx, hk, hs, hg, fun _ => ⟨hv, fun _ => rfl⟩⟩
    ·simp only [(show decide ((ys.length : Int) ≤ (400 : Int)) = false from decide_eq_false (by omega)), cond_true, cond_false, Option.bind_some, Bool.not_false, iC]
    ·simp only [(show decide ((ys.length : Int) > (400 : Int)) = true from decide_eq_true (by omega)), cond_true, cond_false, Option.bind_some, sC]
  ·simp only [a1, sC, q1, q2, Option.bind_some, Bool.not_true, Bool.not_false, cond_false, cond_true]
   exact ⟨xs, kn, k, t, s, d, k2, t2, s2, d2, se, go, false, rfl, rfl, hx, hk, hs, hg, fun _ => ⟨hv, fun _ => rfl⟩⟩
  ·simp only [a1, sC, iC, q1, Option.bind_some, Bool.not_true, Bool.not_false, cond_false, cond_true]
   exact ⟨xs, kn, k, t, s, d, k2, t2, s2, d2, se, go, false, rfl, rfl, hx, hk, hs, hg, fun _ => ⟨hv, fun _ => rfl⟩⟩
theorem toStream_eq (hx : xs.length ≤ 4294967296) (hk : kn.length ≤ 4294967296) (hs : se.length ≤ 4294967296) (hg : go.length ≤ 4294967296) : laws_toStream N0 (xs, kn, k, t, s, d, k2, t2, s2, d2, se, go) = some (xs, kn, k, t, s, d, k2, t2, s2, d2, se, go) ∧ laws_toStream_o N0 (xs, kn, k, t, s, d, k2, t2, s2, d2, se, go) = some (xs, kn, k, t, s, d, k2, t2, s2, d2, se, go) := by
 unfold laws_toStream laws_toStream_o laws_toLink
 dsimp only
 simp only [toPool_eq N0 n0 hx, toIntS_eq N0 n0 hk, toIntS_eq N0 n0 hs, toIntS_eq N0 n0 hg, Option.bind_some, and_self]
theorem eqLink_self : laws_eqLink N0 (k, t, s, d, k, t, s, d) = some true := by
 unfold laws_eqLink
 simp only [bne_self_eq_false, cond_false]
theorem eqStream_self (hx : xs.length ≤ 4294967296) (hk : kn.length ≤ 4294967296) (hs : se.length ≤ 4294967296) (hg : go.length ≤ 4294967296) : laws_eqStream N0 (xs, kn, k, t, s, d, k2, t2, s2, d2, se, go, xs, kn, k, t, s, d, k2, t2, s2, d2, se, go) = some true := by
 unfold laws_eqStream
 dsimp only
 simp only [eqPool_self N0 n0 hx, eqIntS_self hk, eqIntS_self hs, eqIntS_self hg, eqLink_self, Option.bind_some, Bool.not_true, cond_false]
def mkE (xs : List Node3) (kn se go : List Int) : Int := 1 + 3 * (xs.length : Int) + (kn.length : Int) + (se.length : Int) + (go.length : Int)
theorem markStream_eq (hx : xs.length ≤ 4294967296) (hk : kn.length ≤ 4294967296) (hs : se.length ≤ 4294967296) (hg : go.length ≤ 4294967296) : ∃ xm km sm gm, laws_markStream N0 (xs, kn, k, t, s, d, k2, t2, s2, d2, se, go, 1) = some (xm, km, k, t, s, d, k2, t2, s2, d2, sm, gm, mkE xs kn se go) ∧ laws_heldStream N0 (xm, km, k, t, s, d, k2, t2, s2, d2, sm, gm, 1) = some (mkE xs kn se go) := by
 refine ⟨mkN 1 xs.length, mkI (1 + 3 * (xs.length : Int)) kn.length, mkI (1 + 3 * (xs.length : Int) + (kn.length : Int)) se.length, mkI (1 + 3 * (xs.length : Int) + (kn.length : Int) + (se.length : Int)) go.length, ?_, ?_⟩
 ·unfold laws_markStream
  dsimp only
  simp only [markPool_eq (xs := xs) (k := 1) hx (by omega) (by omega), markIntS_eq (v := kn) (k := 1 + 3 * (xs.length : Int)) hk (by omega) (by omega), markIntS_eq (v := se) (k := 1 + 3 * (xs.length : Int) + (kn.length : Int)) hs (by omega) (by omega), markIntS_eq (v := go) (k := 1 + 3 * (xs.length : Int) + (kn.length : Int) + (se.length : Int)) hg (by omega) (by omega), Option.bind_some]
  rfl
 ·unfold laws_heldStream
  dsimp only
  simp only [heldPool_eq (n := xs.length) (k := 1) hx (by omega) (by omega), heldIntS_eq (n := kn.length) (k := 1 + 3 * (xs.length : Int)) hk (by omega) (by omega), heldIntS_eq (n := se.length) (k := 1 + 3 * (xs.length : Int) + (kn.length : Int)) hs (by omega) (by omega), heldIntS_eq (n := go.length) (k := 1 + 3 * (xs.length : Int) + (kn.length : Int) + (se.length : Int)) hg (by omega) (by omega), Option.bind_some,
   (show decide (1 + 3 * (xs.length : Int) < 0) = false from decide_eq_false (by omega)), (show decide (1 + 3 * (xs.length : Int) + (kn.length : Int) < 0) = false from decide_eq_false (by omega)), (show decide (1 + 3 * (xs.length : Int) + (kn.length : Int) + (se.length : Int) < 0) = false from decide_eq_false (by omega)), (show decide (1 + 3 * (xs.length : Int) + (kn.length : Int) + (se.length : Int) + (go.length : Int) < 0) = false from decide_eq_false (by omega)), cond_false]
  rfl
theorem szI_eq {l : List Int} {r : Int} (hr : 0 ≤ r ∧ r ≤ 1048576) (hl : l.length ≤ 9223372036854775807) : laws_szIntS N0 (l, r) = some (if (l.length : Int) ≤ r then r - (l.length : Int) else -1) := by
 unfold laws_szIntS
 simp only [wrap_ok (show -9223372036854775808 ≤ r - (l.length : Int) by omega) (show r - (l.length : Int) ≤ 9223372036854775807 by omega)]
 by_cases q : (l.length : Int) ≤ r
 ·rw [if_pos q, decide_eq_false (by omega : ¬ r - (l.length : Int) < (0 : Int))]; rfl
 ·rw [if_neg q, decide_eq_true (by omega : r - (l.length : Int) < (0 : Int))]; rfl
theorem szStream_eq (hx : xs.length ≤ 9223372036854775807) (hk : kn.length ≤ 9223372036854775807) (hs : se.length ≤ 9223372036854775807) (hg : go.length ≤ 9223372036854775807) :
  laws_szStream N0 (xs, kn, k, t, s, d, k2, t2, s2, d2, se, go, 1048576) = some (-1) ∨ (∃ r, laws_szStream N0 (xs, kn, k, t, s, d, k2, t2, s2, d2, se, go, 1048576) = some r ∧ 0 ≤ r ∧ r ≤ 1048576 ∧ xs.length ≤ 1048576 ∧ kn.length ≤ 1048576 ∧ se.length ≤ 1048576 ∧ go.length ≤ 1048576) := by
 unfold laws_szStream
 dsimp only
 have hm1 : decide ((-1 : Int) < 0) = true := rfl
 rw [szPool_eq N0 hx, Option.bind_some]
 by_cases q : xs.length ≤ 1048576
 ·rw [if_pos q]
  simp only [(show decide ((1048576 : Int) - (xs.length : Int) < 0) = false from decide_eq_false (by omega)), cond_false, szI_eq (l := kn) (r := (1048576 : Int) - (xs.length : Int)) (by omega) hk, Option.bind_some]
  by_cases q1 : (kn.length : Int) ≤ (1048576 : Int) - (xs.length : Int)
  ·rw [if_pos q1]
   simp only [(show decide ((1048576 : Int) - (xs.length : Int) - (kn.length : Int) < 0) = false from decide_eq_false (by omega)), cond_false, szI_eq (l := se) (r := (1048576 : Int) - (xs.length : Int) - (kn.length : Int)) (by omega) hs, Option.bind_some]
   by_cases q2 : (se.length : Int) ≤ (1048576 : Int) - (xs.length : Int) - (kn.length : Int)
   ·rw [if_pos q2]
    simp only [(show decide ((1048576 : Int) - (xs.length : Int) - (kn.length : Int) - (se.length : Int) < 0) = false from decide_eq_false (by omega)), cond_false, szI_eq (l := go) (r := (1048576 : Int) - (xs.length : Int) - (kn.length : Int) - (se.length : Int)) (by omega) hg, Option.bind_some]
    by_cases q3 : (go.length : Int) ≤ (1048576 : Int) - (xs.length : Int) - (kn.length : Int) - (se.length : Int)
    ·rw [if_pos q3]
     simp only [(show decide ((1048576 : Int) - (xs.length : Int) - (kn.length : Int) - (se.length : Int) - (go.length : Int) < 0) = false from decide_eq_false (by omega)), cond_false]
     exact .inr ⟨_, rfl, by omega, by omega, by omega, by omega, by omega, by omega⟩
    ·rw [if_neg q3]; exact .inl rfl
   ·rw [if_neg q2]; exact .inl rfl
  ·rw [if_neg q1]; exact .inl rfl
 ·rw [if_neg q]; exact .inl rfl
end
theorem streamDo_law (xs : List Node3) (kn : List Int) (k t s : Int) (d : Bool) (k2 t2 s2 : Int) (d2 : Bool) (se go : List Int) (act v : Int) (T : ByteArray) (hx : xs.length ≤ 9223372036854775807) (hk : kn.length ≤ 9223372036854775807) (hs : se.length ≤ 9223372036854775807) (hg : go.length ≤ 9223372036854775807) (hT : T.size ≤ 9223372036854775807) :
  laws_FnExactStreamDo N0 (xs, kn, k, t, s, d, k2, t2, s2, d2, se, go, act, v, T) = some true := by
 unfold laws_FnExactStreamDo
 dsimp only
 rcases szStream_eq (xs := xs) (kn := kn) (k := k) (t := t) (s := s) (d := d) (k2 := k2) (t2 := t2) (s2 := s2) (d2 := d2) (se := se) (go := go) hx hk hs hg with e | ⟨r, e, r0, r1, l1, l2, l3, l4⟩
 ·rw [e]; rfl
 ·rw [e, Option.bind_some]
  have hr : decide (r < (0 : Int)) = false := decide_eq_false (by omega)
  rw [hr, cond_false]
  have hw : IntKind.i64.wrap (r - (T.size : Int)) = r - (T.size : Int) := wrap_ok (by omega) (by omega)
  unfold laws_szAction
  dsimp only
  rw [hw]
  by_cases q : r - (T.size : Int) < 0
  ·rw [decide_eq_true q]; rfl
  ·have hq : decide (r - (T.size : Int) < (0 : Int)) = false := decide_eq_false q
   have hx' : xs.length ≤ 4294967296 := by omega
   have hk' : kn.length ≤ 4294967296 := by omega
   have hs' : se.length ≤ 4294967296 := by omega
   have hg' : go.length ≤ 4294967296 := by omega
   obtain ⟨ys, kn', k', t', s', d', k2', t2', s2', d2', se', go', ok, g1, g2, m1, m2, m3, m4, _⟩ := streamDo_same (k := k) (t := t) (s := s) (d := d) (k2 := k2) (t2 := t2) (s2 := s2) (d2 := d2) (act := act) (v := v) (T := T) hx' hk' hs' hg'
   obtain ⟨tS, tO⟩ := toStream_eq (k := k) (t := t) (s := s) (d := d) (k2 := k2) (t2 := t2) (s2 := s2) (d2 := d2) hx' hk' hs' hg'
   have eX := eqStream_self (k := k) (t := t) (s := s) (d := d) (k2 := k2) (t2 := t2) (s2 := s2) (d2 := d2) hx' hk' hs' hg'
   have eY := eqStream_self (k := k') (t := t') (s := s') (d := d') (k2 := k2') (t2 := t2') (s2 := s2') (d2 := d2') m1 m2 m3 m4
   obtain ⟨xm, km, sm, gm, u1, u2⟩ := markStream_eq (k := k) (t := t) (s := s) (d := d) (k2 := k2) (t2 := t2) (s2 := s2) (d2 := d2) hx' hk' hs' hg'
   obtain ⟨xm', km', sm', gm', u1', u2'⟩ := markStream_eq (k := k') (t := t') (s := s') (d := d') (k2 := k2') (t2 := t2') (s2 := s2') (d2 := d2') m1 m2 m3 m4
   have n1 : decide (mkE xs kn se go < 0) = false := decide_eq_false (by unfold mkE; omega)
   have n2 : decide (mkE ys kn' se' go' < 0) = false := decide_eq_false (by unfold mkE; omega)
   simp only [hq, cond_false, Option.bind_some, laws_FnExactStreamDo_R8, laws_FnExactStreamDo_R10, laws_FnExactStreamDo_R13, laws_FnExactStreamDo_R27, laws_toAction, tS, tO, g1, g2, eX, eY, u1, u2, u1', u2', n1, n2, bne_self_eq_false, Bool.not_true, cond_true]
theorem streamDo_law_td (x : TD (entys (parEns 0 (S6 0).pars))) (hx : FitsTD _ x) : laws_FnExactStreamDo N0 x = some true := by
 obtain ⟨xs, kn, k, t, s, d, k2, t2, s2, d2, se, go, act, v, T⟩ := x
 have h1 : Fits (.sl kN) xs := hx ⟨.sl kN, xs⟩ (.head _)
 have h2 : Fits (.sl (.int .i64)) kn := hx ⟨.sl (.int .i64), kn⟩ (.tail _ (.head _))
 have h3 : Fits (.sl (.int .i64)) se := hx ⟨.sl (.int .i64), se⟩ (.tail _ (.tail _ (.tail _ (.tail _ (.tail _ (.tail _ (.tail _ (.tail _ (.tail _ (.tail _ (.head _)))))))))))
 have h4 : Fits (.sl (.int .i64)) go := hx ⟨.sl (.int .i64), go⟩ (.tail _ (.tail _ (.tail _ (.tail _ (.tail _ (.tail _ (.tail _ (.tail _ (.tail _ (.tail _ (.tail _ (.head _))))))))))))
 have h5 : Fits .str T := hx ⟨.str, T⟩ (.tail _ (.tail _ (.tail _ (.tail _ (.tail _ (.tail _ (.tail _ (.tail _ (.tail _ (.tail _ (.tail _ (.tail _ (.tail _ (.tail _ (.head _)))))))))))))))
 exact streamDo_law xs kn k t s d k2 t2 s2 d2 se go act v T (maxLen_eq ▸ h1.1) (maxLen_eq ▸ h2.1) (maxLen_eq ▸ h3.1) (maxLen_eq ▸ h4.1) (by have := h5; first | exact maxLen_eq ▸ this | exact maxLen_eq ▸ this.1)
end AM
end Go.Proofs.YtleofghbkfpdaaaGreatDoor
