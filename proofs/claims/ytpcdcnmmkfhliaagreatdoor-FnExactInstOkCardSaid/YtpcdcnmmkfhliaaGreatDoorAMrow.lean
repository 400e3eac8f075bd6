/- From a law's calls to what a row asks. No condition. -/
import Derived.Test.YtpcdcnmmkfhliaaGreatDoorAMob
import Derived.WideShapes
import Derived.RowKit
import Derived.WideKeyArgs
import Derived.ChangeOld
import Derived.Lib.LaidTab
import Derived.Sort.Grow
import Derived.Deep.Draws
import Derived.ChangeCalls
namespace Go.Proofs.YtpcdcnmmkfhliaaGreatDoor
namespace AM
open Go
set_option linter.unusedSimpArgs false
set_option linter.unusedVariables false

/-- All that lay there when the law was called stays. -/
def Glob.of (W : World) : Glob where
  blk := fun b => b < W.heap.size
  ok := fun w => ∀ b, b < W.heap.size → w.heap[b]? = W.heap[b]?
  keep := fun w w' h k b hb => ((k b hb).2).trans (h b hb)

theorem Glob.of_cell {W w : World} (h : (Glob.of W).ok w) {b off : Nat} {u : Value} (hu : W.cell? ⟨b, off, none⟩ = some u) : w.cell? ⟨b, off, none⟩ = some u := by
  have hb := World.block_lt_of_cell? W ⟨b, off, none⟩ hu
  rw [World.cell?_of_block (w := W) (a := ⟨b, off, none⟩) (h b hb)]; exact hu

theorem Glob.of_tab {P : Program} {W w : World} (h : (Glob.of W).ok w) {name : String} {k : IntKind} {zs : List Int} (ht : Lib.TabIs P W name k zs) : Lib.TabIs P w name k zs := by
  unfold Lib.TabIs World.var? at ht ⊢
  cases hg : P.globalNamed name with
  | none => rw [hg] at ht; cases ht
  | some g =>
    rw [hg] at ht
    simp only [Option.bind_some] at ht ⊢
    have hb : g < W.heap.size := by
      rcases Nat.lt_or_ge g W.heap.size with q | q
      · exact q
      · rw [Array.getElem?_eq_none q] at ht; cases ht
    rw [h g hb]; exact ht

theorem Step.drewN (w : World) (n : Nat) : Step (fun _ _ => False) w (w.drewN n) := ⟨rfl, rfl, rfl, Nat.le_refl _, fun _ _ => BlkEq.refl _ _⟩
theorem Step.grow (w : World) (os : Array Go.Obj) : Step (fun _ _ => False) w (Sort.grow w os) :=
  ⟨rfl, rfl, rfl, by show w.heap.size ≤ (w.heap ++ os).size; simp, fun b hb => BlkEq.of_eq (by show (w.heap ++ os)[b]? = w.heap[b]?; rw [Array.getElem?_append_left hb])⟩

def sigs (P : Program) (n : Nat) : List TypeId → Option (List (Ty × Bool))
  | [] => some []
  | T :: r => match tyOf P n T, P.underlying T, sigs P n r with
    | some t, some d, some l => some ((t, isAggD d) :: l)
    | _, _, _ => none

section
variable {H : Type} {enc : TypeId × Value → H} {P : Program} {W : World} {sp : Nat → Bool} {held : Bool}

theorem arg_of {n T : Nat} {t : Ty} {d : TypeDesc} (ht : tyOf P n T = some t) (hd : P.underlying T = some d) {base : Nat} {v : Value} (hv : Value.okWide P W .any base T v) {x : DataW H} {ps : List MemPlace} (h : DataW.Trod enc P W 0 sp held T v x ps) :
    ∃ a : Arg, a.t = t ∧ a.agg = isAggD d ∧ a.u = v ∧ a.ok W := by
  obtain ⟨fuel, hf⟩ := h
  obtain ⟨y, hr, hfit⟩ := read_of_trod n T t ht fuel _ _ hf
  refine ⟨⟨t, isAggD d, y, v⟩, rfl, rfl, rfl, hfit, fun q => ?_, fun q => ?_⟩
  · have q : isAggD d = true := q
    cases d with
    | struct fs =>
      obtain ⟨cs, rfl, _⟩ := WideShapes.okWide_struct hd hv
      exact ⟨cs.toList, by simp, hr⟩
    | array m e =>
      exfalso
      cases n with
      | zero => cases ht
      | succ n => unfold tyOf at ht; rw [hd] at ht; cases ht
    | _ => cases q
  · have q : isAggD d = false := q
    have hc : v.cells.toList = [v] := by
      cases n with
      | zero => cases ht
      | succ n =>
        unfold tyOf at ht
        rw [hd] at ht
        cases d with
        | bool => obtain ⟨b, rfl⟩ := WideShapes.okWide_bool hd hv; rfl
        | int k => obtain ⟨m, rfl⟩ := WideShapes.okWide_int hd hv; rfl
        | string => obtain ⟨s, rfl⟩ := WideShapes.okWide_string hd hv; rfl
        | slice e => obtain ⟨a, l, c, rfl⟩ := WideShapes.okWide_slice hd hv; rfl
        | struct fs => cases q
        | _ => cases ht
    rw [hc] at hr
    exact hr

theorem args_of {n base : Nat} : ∀ {Ts : List TypeId} {vs : List Value} {ds : List (DataW H)} {ps : List MemPlace} {l : List (Ty × Bool)}, sigs P n Ts = some l → DataW.TrodAll enc P W 0 sp held Ts vs ds ps →
    (∀ (j : Nat) t v, Ts[j]? = some t → vs[j]? = some v → Value.okWide P W .any base t v) → ∃ as : List Arg, as.map (fun a => (a.t, a.agg)) = l ∧ as.map Arg.u = vs ∧ ∀ a ∈ as, a.ok W
  | [], vs, ds, ps, l, hs, h, _ => by
    obtain rfl := Option.some.inj hs
    obtain ⟨rfl, _, _⟩ := ChangeShapes.trodAll_nil h
    exact ⟨[], rfl, rfl, fun a ha => by cases ha⟩
  | T :: Ts, vs, ds, ps, l, hs, h, hv => by
    obtain ⟨v, vs', d, ds', p, q, rfl, rfl, rfl, h0, h1⟩ := ChangeShapes.trodAll_cons h
    simp only [sigs] at hs
    split at hs
    · rename_i t dd l' e1 e2 e3
      obtain rfl := Option.some.inj hs
      obtain ⟨a, a1, a2, a3, a4⟩ := arg_of e1 e2 (hv 0 T v rfl rfl) h0
      obtain ⟨as, b1, b2, b3⟩ := args_of e3 h1 (fun j t v ht hv' => hv (j + 1) t v ht hv')
      refine ⟨a :: as, ?_, ?_, fun x hx => ?_⟩
      · rw [List.map_cons, b1, a1, a2]
      · rw [List.map_cons, b2, a3]
      · rcases List.mem_cons.1 hx with rfl | hx
        · exact a4
        · exact b3 x hx
    · cases hs

theorem trodAll_stays {W' : World} (hl : laidOutB P = true) (hb : RowKit.Below W.heap.size W W') {sp' : Nat → Bool} : ∀ {Ts : List TypeId} {vs : List Value} {ds : List (DataW H)} {ps : List MemPlace}, Ts.all (fun t => P.readableRec t && decide (t < P.types.size)) = true →
    DataW.TrodAll enc P W 0 (fun _ => true) true Ts vs ds ps → (∀ p ∈ ps, p.block < W.heap.size) → (∀ p ∈ ps, sp' p.block = true) → DataW.TrodAll enc P W' 0 sp' true Ts vs ds ps
  | [], _, _, _, _, h, _, _ => by
    obtain ⟨rfl, rfl, rfl⟩ := ChangeShapes.trodAll_nil h
    exact ChangeShapes.trodAll_mk0
  | T :: Ts, _, _, _, hr, h, hlt, hsp => by
    obtain ⟨v, vs', d, ds', p, q, rfl, rfl, rfl, h0, h1⟩ := ChangeShapes.trodAll_cons h
    rw [List.all_cons, Bool.and_eq_true, Bool.and_eq_true] at hr
    obtain ⟨⟨hr1, hr2⟩, hr3⟩ := hr
    refine ⟨p, q, WideElems.Trod_stays hl hr1 (of_decide_eq_true hr2) h0 (fun x hx => hb.same (hlt x (List.mem_append_left _ hx))) (fun x hx => hsp x (List.mem_append_left _ hx)), ?_, rfl⟩
    exact trodAll_stays hl hb hr3 h1 (fun x hx => hlt x (List.mem_append_right _ hx)) (fun x hx => hsp x (List.mem_append_right _ hx))

/-- What a law's row asks behind the call. -/
theorem law_post {f : Func} {s : ChangeSpec} {B : TypeId} {W' : World} {args : Array Value} {ds gs : List (DataW H)} {before : List MemPlace} (hvars : s.vars = []) (hfn : ∀ l : List (DataW H), l.length = f.params.size → s.fn H l = { results := [.lit (.bool true)], args := l })
    (hrt : f.resultTypes = #[B]) (hB : P.underlying B = some .bool) (hl : laidOutB P = true) (hrd : f.params.toList.all (fun t => P.readableRec t && decide (t < P.types.size)) = true)
    (hW : DataW.Whole enc P f.params.toList s.vars false W args.toList ds gs before) (hb : RowKit.Below W.heap.size W W') : s.post enc P f false true false false W args (.bool true) W' := by
  have hlt := hW.lt
  have hW0 := hW
  obtain ⟨p, q, hA, hV, rfl, hz, _⟩ := hW
  rw [hvars] at hV
  obtain ⟨rfl, rfl⟩ := ChangeShapes.trodVars_none hV
  have hlen : ds.length = f.params.size := by
    have := (trodAll_length hA).2
    simpa using this
  have hfn' := hfn (ds ++ []) (by simpa using hlen)
  refine ⟨ds, [], p ++ [], [], p, [], hW0, ?_, ?_, ?_, ⟨hb.os, hb.output, fun i hi => ?_⟩, fun h => by cases h⟩
  · rw [hfn', hrt]
    exact ChangeShapes.trodAll_mk1 (RowKit.shut_bool hB true)
  · rw [hfn']
    show DataW.TrodAll enc P W' 0 _ true f.params.toList args.toList (ds ++ []) p
    rw [List.append_nil]
    have hlt' : ∀ x ∈ p, x.block < W.heap.size := fun x hx => hlt x (List.mem_append_left _ hx)
    exact trodAll_stays hl hb hrd hA hlt' (fun x hx => by simpa using hlt' x hx)
  · rw [hfn', hvars]; rfl
  · rw [hb.block i hi]
    cases W.heap[i]? with
    | none => trivial
    | some o => cases o <;> first | exact ⟨rfl, rfl, rfl, fun _ _ => rfl⟩ | exact .inr ⟨rfl, rfl⟩ | rfl
end

theorem laidMet_mem {P : Program} {w : World} : ∀ {laid : List (String × DataW Unit)} {name : String} {d : DataW Unit}, laidMet P laid w → (name, d) ∈ laid → laidMet P [(name, d)] w := by
  have vars : ∀ {laid : List (String × DataW Unit)} {ps : List MemPlace} {name : String} {d : DataW Unit}, DataW.LaidVars P w laid ps → (name, d) ∈ laid → ∃ qs, DataW.LaidVars P w [(name, d)] qs ∧ qs.Sublist ps := by
    intro laid
    induction laid with
    | nil => intro ps name d _ hm; cases hm
    | cons x r ih =>
      intro ps name d h hm
      obtain ⟨g, t, cs, fuel, p, q, h1, h2, h3, h4, h5, h6⟩ := h
      rcases List.mem_cons.1 hm with rfl | hm
      · refine ⟨_, ⟨g, t, cs, fuel, p, [], h1, h2, h3, h4, rfl, rfl⟩, ?_⟩
        rw [h6]
        rw [List.append_nil]
        exact List.sublist_append_left ..
      · obtain ⟨qs, k1, k2⟩ := ih h5 hm
        exact ⟨qs, k1, k2.trans (by rw [h6]; exact List.sublist_append_right ..)⟩
  intro laid name d h hm
  obtain ⟨ps, h1, h2, h3⟩ := h
  obtain ⟨qs, k1, k2⟩ := vars h1 hm
  exact ⟨qs, k1, h2.sublist k2, fun b off hq => h3 b off (k2.subset hq)⟩
end AM
end Go.Proofs.YtpcdcnmmkfhliaaGreatDoor
