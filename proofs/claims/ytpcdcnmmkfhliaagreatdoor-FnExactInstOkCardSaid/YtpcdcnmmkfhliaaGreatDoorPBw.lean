/- impl.RolePrint (f126) by hand. -/
import Derived.Test.YtpcdcnmmkfhliaaGreatDoorPBv
import Derived.Deep.LoopGhost
import Derived.Deep.RegionWith
namespace Go.Proofs.YtpcdcnmmkfhliaaGreatDoor
namespace AM
open Go Go.Shelf Go.RowKit
set_option linter.unusedVariables false

/-- A builder stands as long as no old block is turned. -/
theorem builder_step {B b : Nat} {bs : List Value} {w w' : World} (h : Lib.IsBuilder 161 5 B b bs w) (hb : Below w.heap.size w w') : Lib.IsBuilder 161 5 B b bs w' := by
  have one : ∀ {p : Value}, Lib.BuilderAt 161 5 B b p bs w → Lib.BuilderAt 161 5 B b p bs w' := by
    rintro p ⟨hB, v, h1, h2, h3⟩
    have lt : ∀ {k : Nat} {o : Go.Obj}, w.heap[k]? = some o → k < w.heap.size := fun h => (Array.getElem?_eq_some_iff.1 h).1
    refine ⟨hB, v, (hb.block b (lt h1)).trans h1, ⟨h2.1, h2.2.imp id ?_⟩, h3⟩
    rintro ⟨g, cap, cur, hv, hb', hg, rest⟩
    exact ⟨g, cap, cur, hv, hb', (hb.block g (lt hg)).trans hg, rest⟩
  exact h.imp one one

theorem sz_mk (acc : List UInt8) : (⟨acc.toArray⟩ : ByteArray).size = acc.length := by simp [ByteArray.size]
theorem sz_list (s : ByteArray) : s.data.toList.length = s.size := Array.length_toList
theorem wrap64_ok {i : Int} (h : -9223372036854775808 ≤ i ∧ i ≤ 9223372036854775807) : wrap64 i = i := by unfold wrap64; omega
theorem ba_app (acc : List UInt8) (s : ByteArray) : (⟨(acc ++ s.data.toList).toArray⟩ : ByteArray) = ⟨acc.toArray⟩ ++ s := by
  obtain ⟨⟨l⟩⟩ := s
  simp [ByteArray.mk_append_mk]

set_option maxHeartbeats 2000000 in
set_option maxRecDepth 100000 in
theorem rolePrint_calls {K : Glob} {n : Nat} (h1 : Good Tryz.prog K (125, S125 n)) (h2 : Good Tryz.prog K (150, S150 n)) {w : World} (hK : K.ok w) (hKb : ∀ b, K.blk b → b < w.heap.size) {x : List (Int × ByteArray)} {u : Value} (hu : Rep (fun b => b < w.heap.size) w (.sl actT) x [u]) {r : ByteArray} (hx : impl_RolePrint n x = some r) :
    Calls Tryz.prog 126 #[u] w fun e w' => e = .returned (.string r) ∧ Step (fun _ _ => False) w w' := by
  have hu' := hu
  obtain ⟨sa, sc, css, hus, hlc, hall, hcells⟩ := hu
  obtain rfl : u = .slice sa (List.length x) sc := List.head_eq_of_cons_eq hus
  unfold impl_RolePrint at hx
  obtain ⟨ok, hok, hx⟩ := Option.bind_eq_some_iff.1 hx
  go_enter Tryz.func126, Tryz.ntmps126
  go_wp2_with (go_at_call 125; refine (role_calls h1 hK hKb hu' hok).mono ?_)
  rintro e w1 ⟨rfl, hs1⟩
  cases ok with
  | false =>
    obtain rfl := Option.some.inj hx
    go_wp2
    intro hs1
    go_at_K
    go_wp2
    go_ret
    exact ⟨rfl, hs1⟩
  | true =>
    go_wp2
    intro hs1
    go_at_K
    go_wp2
    go_loopg [11] x.length (fun g s11 wx => ∃ (i : Nat) (acc : List UInt8), s11 = .int .i64 i ∧ i + g = x.length ∧ Lib.IsBuilder 161 5 w1.heap.size w1.heap.size (Lib.byteCells acc) wx ∧ Below w1.heap.size w1 wx ∧ (i ≤ acc.length ∧ acc.length ≤ 1073741824) ∧ rolePrintG n (x.drop i) ⟨acc.toArray⟩ = some r)
    case atStart =>
      refine ⟨0, [], rfl, by omega, Lib.fresh_isBuilder 161 5 w1, (Below.refl _ w1).alloc (Nat.le_refl _) _, ⟨by simp, by simp⟩, ?_⟩
      exact hx
    case round =>
      obtain ⟨i, acc, rfl, hi, hB, hbw, ⟨hia, hal⟩, hg⟩ := hrel
      rcases Nat.lt_or_ge i x.length with hlt | hge
      · have hst : Step (fun _ _ => False) w wr := Step.trans hs1 (Step.of_below hbw) (fun _ _ q => q.elim)
        obtain ⟨b, off, c, cs, e, hb, hr, hcl⟩ := slice_get hu' hlt
        injection e with e1 _ e2
        subst e1 e2
        obtain ⟨va, vb, rfl, ra, rb⟩ := hr
        obtain rfl : va = [.int .i64 (x.getD i actT.zero).1] := ra
        obtain rfl : vb = [.string (x.getD i actT.zero).2] := rb
        have c0 : wr.cell? ⟨b, off + i * 2, none⟩ = some (.int .i64 (x.getD i actT.zero).1) := (hst.cell hb (fun q => q)).1.trans (hcl 0 _ rfl)
        have c1 : wr.cell? ⟨b, off + i * 2 + 1, none⟩ = some (.string (x.getD i actT.zero).2) := (hst.cell hb (fun q => q)).1.trans (hcl 1 _ rfl)
        have hd : x.drop i = x.getD i actT.zero :: x.drop (i + 1) := by
          rw [List.drop_eq_getElem_cons hlt, List.getD_eq_getElem?_getD, List.getElem?_eq_getElem hlt]; rfl
        rw [hd] at hg
        obtain ⟨wd, hwd, hg⟩ := Option.bind_eq_some_iff.1 hg
        generalize hX : x.getD i actT.zero = X at *
        obtain ⟨X1, X2⟩ := X
        have hW1 : Below wr.heap.size wr (wr.alloc (.cells #[.int .i64 X1, .string X2] 118)).drew := ((Below.refl _ wr).alloc (Nat.le_refl _) _).drew
        have hsW : Step (fun _ _ => False) w (wr.alloc (.cells #[.int .i64 X1, .string X2] 118)).drew := Step.trans hst (Step.of_below hW1) (fun _ _ q => q.elim)
        have hKW : K.ok (wr.alloc (.cells #[.int .i64 X1, .string X2] 118)).drew := K.keep _ _ hK fun b hb => ⟨hKb b hb, hsW.same (hKb b hb) (fun _ q => q)⟩
        have hKbW : ∀ b, K.blk b → b < (wr.alloc (.cells #[.int .i64 X1, .string X2] 118)).drew.heap.size := fun b hb => Nat.lt_of_lt_of_le (hKb b hb) hsW.size
        have hc1 := word_calls h2 hKW hKbW hwd
        have hBW := builder_step hB hW1
        have hWs : (wr.alloc (.cells #[.int .i64 X1, .string X2] 118)).drew.heap.size = wr.heap.size + 1 := by simp
        have d1 : (wr.alloc (.cells #[.int .i64 X1, .string X2] 118)).drew.cell? ⟨wr.heap.size, 1, none⟩ = some (.string X2) := Lib.cell_of_heap (w := (wr.alloc (.cells #[.int .i64 X1, .string X2] 118)).drew) (cs := #[.int .i64 X1, .string X2]) (T := 118) (fr := (0, 0)) (b := wr.heap.size) (by show (wr.heap.push _)[wr.heap.size]? = _; simp) 1
        have hcond : (strRoom wd X2 && (strRoom (wd ++ X2) (⟨#[10]⟩ : ByteArray) && decide ((⟨acc.toArray⟩ : ByteArray).size + (wd ++ X2 ++ (⟨#[10]⟩ : ByteArray)).size ≤ 1073741824))) = true := by
          cases q : (strRoom wd X2 && (strRoom (wd ++ X2) (⟨#[10]⟩ : ByteArray) && decide ((⟨acc.toArray⟩ : ByteArray).size + (wd ++ X2 ++ (⟨#[10]⟩ : ByteArray)).size ≤ 1073741824))) with
          | true => rfl
          | false =>
            have hg' := hg
            rw [q] at hg'
            cases hg'
        rw [hcond] at hg
        rw [Bool.and_eq_true, Bool.and_eq_true] at hcond
        have k1 := of_decide_eq_true hcond.1
        have k2 := of_decide_eq_true hcond.2.1
        have k3 := of_decide_eq_true hcond.2.2
        have hr1 : ¬ 9223372036854775807 < wd.size + X2.size := by omega
        have hr2 : ¬ 9223372036854775807 < (wd ++ X2).size + (⟨#[10]⟩ : ByteArray).size := by omega
        have hr3 : ¬ 9223372036854775807 < wd.size + X2.size + 1 := by
          have := hr2; rw [ByteArray.size_append] at this; exact this
        go_wp2
        go_region_with (first
          | (go_at_call 150; refine hc1.mono ?_; rintro e w2 ⟨rfl, hs2⟩; have d2 : w2.cell? ⟨wr.heap.size, 1, none⟩ = some (.string X2) := (hs2.cell (by omega) (fun q => q)).1.trans d1)
          | (go_at_call 152; refine (bu_WriteString w1.heap.size w1.heap.size (Lib.byteCells acc) (wd ++ X2 ++ (⟨#[10]⟩ : ByteArray)) w2 ?hB ?hl ?hs).mono ?_; (case hB => exact builder_step hBW hs2.below); (case hl => rw [Lib.byteCells_length]; omega); (case hs => have q1 := hs2.size; have q2 := hbw.size; omega); rintro e w3 ⟨rfl, hb3, hw3⟩))
        all_goals
          go_wp2
          go_roundg (gk - 1)
          case measure => omega
          case rel =>
            refine ⟨i + 1, acc ++ (wd ++ X2 ++ (⟨#[10]⟩ : ByteArray)).data.toList, ?_, ?_, .inr ?_, ?_, ?_, ?_⟩
            · exact congrArg (Value.int .i64) (by omega)
            · omega
            · rw [Lib.byteCells_append, ← Lib.strCells_eq]; exact hb3
            · exact (hbw.trans ((hW1.mono (by have := hbw.size; omega)).trans (hs2.below.mono (by have := hbw.size; omega)))).trans hw3
            · rw [sz_mk] at k3
              rw [List.length_append, sz_list]
              refine ⟨?_, k3⟩
              rw [show (wd ++ X2 ++ (⟨#[10]⟩ : ByteArray)).size = (wd ++ X2).size + (⟨#[10]⟩ : ByteArray).size from ByteArray.size_append]
              have : (⟨#[10]⟩ : ByteArray).size = 1 := rfl
              omega
            · rw [ba_app]; exact hg
      · obtain rfl : i = x.length := by omega
        rw [List.drop_length] at hg
        obtain rfl := Option.some.inj hg
        have hBw : w1.heap.size ≤ wr.heap.size := hbw.size
        go_wp2_with (go_at_call 153; refine (Tryz.Builder_String_any w1.heap.size w1.heap.size acc wr hB hBw).mono ?_)
        rintro e w2 ⟨rfl, hb2⟩
        go_wp2
        go_ret
        exact ⟨rfl, Step.trans hs1 (Step.of_below (hbw.trans hb2)) (fun _ _ q => q.elim)⟩
/-- ... as its summary says. -/
theorem rolePrint_good {K : Glob} {n : Nat} (h1 : Good Tryz.prog K (125, S125 n)) (h2 : Good Tryz.prog K (150, S150 n)) : Good Tryz.prog K (126, S126 n) := by
  refine ⟨plain_of Tryz.func126 (by kernel_rfl) (by kernel_rfl), ?_⟩
  intro Y L I a w x r hx hR hK hY hw
  have hN : Y.N = 1 := hY
  have hsz : a.tmps.size = 1 := hR.size.trans hN
  have hu : Rep I w (.sl actT) x [a.tmps.getD 0 undef] := hR.slot 0
  have hI : ∀ b, I b → b < w.heap.size := fun b hb => (hR.imm b hb).1
  have hu := Rep.mono hI (fun _ _ => rfl) (.sl actT) hu
  have htm : a.tmps = #[a.tmps.getD 0 undef] := by
    refine Array.ext (by simp [hsz]) fun i hi _ => ?_
    obtain rfl : i = 0 := by omega
    rw [Array.getD_eq_getD_getElem?, Array.getElem?_eq_getElem hi]; rfl
  subst hK
  rw [show first (FSum.real (S126 n)) a.tmps = a.tmps from first_all (by rw [hsz]; exact Nat.le_refl _), htm]
  refine (rolePrint_calls h1 h2 hR.glob.1 (fun b hb => hI b (hR.glob.2 b hb)) hu hx).mono fun e w' h => ?_
  obtain ⟨rfl, hst⟩ := h
  have g1 := hR.grows hst
  refine ⟨_, L, I, ⟨#[a.tmps.getD 0 undef, .string r], []⟩, rfl, ?_, fun _ _ => rfl, rfl⟩
  refine ⟨rfl, rfl, fun i hi => ?_, fun i hi => ?_, fun _ _ q => (by cases q), fun _ _ _ _ q => (by cases q), fun _ _ q => (by cases q), g1.imm, g1.sub, g1.step, g1.glob⟩
  · have hi : i < 2 := hi
    match i, hi with
    | 0, _ => trivial
    | 1, _ =>
      show Rep I w' .str r [.string r]
      rfl
  · have hi : 2 ≤ i := hi
    match i, hi with
    | i + 2, _ => rfl
end AM
end Go.Proofs.YtpcdcnmmkfhliaaGreatDoor
