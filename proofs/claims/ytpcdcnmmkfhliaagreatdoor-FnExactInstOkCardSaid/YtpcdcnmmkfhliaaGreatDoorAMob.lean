/- What a printed text says, put together: a function obeys when its callees do. No condition. -/
import Derived.Test.YtpcdcnmmkfhliaaGreatDoorAMtab
namespace Go.Proofs.YtpcdcnmmkfhliaaGreatDoor
namespace AM
open Go
set_option linter.unusedSimpArgs false
set_option linter.unusedVariables false

/-- The loops of a code, outer ones first. -/
def loopsIn : Code → List Code
  | .seq a b => loopsIn a ++ loopsIn b
  | .cond _ a b => loopsIn a ++ loopsIn b
  | .block _ c => loopsIn c
  | .loop c => c :: loopsIn c
  | _ => []

def Looped (E : Env) (c : Code) : Prop := ∀ S, E.Λ (key c) = some S → ∃ f : Nat → TD (entys S.ent) → Option (EX S.exs), (∀ x, f 0 x = none) ∧ (∃ n, S.g = f n) ∧ ∀ n x, f (n + 1) x = runL E c S (f n) x

/-- The regions of a code. -/
def regsIn : Code → List (Nat × Array Oper)
  | .region id ops _ => [(id, ops)]
  | .seq a b => regsIn a ++ regsIn b
  | .cond _ a b => regsIn a ++ regsIn b
  | .block _ c => regsIn c
  | .loop c => regsIn c
  | _ => []

theorem loopsOk_mem {E : Env} : ∀ c : Code, (∀ b ∈ loopsIn c, Looped E b) → (∀ p ∈ regsIn c, RegOk E p.1 p.2) → LoopsOk E c := by
  intro c
  induction c with
  | seq a b iha ihb => exact fun h g => ⟨iha (fun x hx => h x (List.mem_append_left _ hx)) fun x hx => g x (List.mem_append_left _ hx), ihb (fun x hx => h x (List.mem_append_right _ hx)) fun x hx => g x (List.mem_append_right _ hx)⟩
  | cond _ a b iha ihb => exact fun h g => ⟨iha (fun x hx => h x (List.mem_append_left _ hx)) fun x hx => g x (List.mem_append_left _ hx), ihb (fun x hx => h x (List.mem_append_right _ hx)) fun x hx => g x (List.mem_append_right _ hx)⟩
  | block _ c ih => exact fun h g => ih h g
  | loop c ih => exact fun h g => ⟨ih (fun x hx => h x (List.mem_cons_of_mem _ hx)) g, h c (List.mem_cons_self ..)⟩
  | region id ops d => exact fun _ g => g (id, ops) (List.mem_singleton.2 rfl)
  | _ => exact fun _ _ => trivial

/-- The region with this number. -/
def regAt (c : Code) (id : Nat) : List Oper := match (regsIn c).find? (fun p => Nat.beq p.1 id) with
  | some p => p.2.toList
  | none => []
def nodupNat : List Nat → Bool
  | [] => true
  | n :: r => !memNat n r && nodupNat r
theorem find_uniq {β : Type} : ∀ {l : List (Nat × β)}, nodupNat (l.map Prod.fst) = true → ∀ p ∈ l, l.find? (fun q => Nat.beq q.1 p.1) = some p
  | [], _, _, h => by cases h
  | q :: l, hn, p, h => by
    unfold nodupNat at hn
    simp only [List.map_cons, Bool.and_eq_true, Bool.not_eq_true'] at hn
    rcases List.mem_cons.1 h with rfl | h
    · rw [List.find?_cons, Nat.beq_refl]
    · have : Nat.beq q.1 p.1 = false := by
        cases z : Nat.beq q.1 p.1 with
        | false => rfl
        | true =>
          have hm : memNat q.1 (l.map Prod.fst) = true := memNat_iff.2 (by rw [Nat.eq_of_beq_eq_true z]; exact List.mem_map.2 ⟨p, h, rfl⟩)
          rw [hn.1] at hm; cases hm
      rw [List.find?_cons, this]
      exact find_uniq hn.2 p h
theorem regs_at {E : Env} {c : Code} (hn : nodupNat ((regsIn c).map Prod.fst) = true) (h : ∀ id S, E.Ω id = some S → aftOk (regAt c id) = true ∧ ∀ x y, S.g x = some y → ∀ π ∈ exts (regAt c id), opsK E (regAt c id) (opsOf (regAt c id) π) (mkSt S.ent x) (fun s' => getEns E.N S.out s') = some y) : ∀ p ∈ regsIn c, RegOk E p.1 p.2 := by
  intro p hp S hS
  have hr : regAt c p.1 = p.2.toList := by unfold regAt; rw [find_uniq hn p hp]
  rw [← hr]
  exact h p.1 S hS

def loopAt (c : Code) (i : Nat) : Code := (loopsIn c).getD i .skip
def bodyOf (fn : Func) : Code := fn.body.getD .skip

theorem loopsOk_of {E : Env} {c : Code} (k : Nat) (hk : (loopsIn c).length = k) (h : ∀ i, i < k → Looped E (loopAt c i)) (hR : ∀ p ∈ regsIn c, RegOk E p.1 p.2) : LoopsOk E c := by
  refine loopsOk_mem c (fun b hb => ?_) hR
  obtain ⟨i, hi⟩ := List.getElem?_of_mem hb
  have hlt : i < k := by rw [← hk]; exact (List.getElem?_eq_some_iff.1 hi).1
  have := h i hlt
  unfold loopAt at this
  rw [List.getD_eq_getElem?_getD, hi] at this
  exact this

theorem looped {E : Env} {c : Code} {S : LSum} (hS : E.Λ (key c) = some S) (f : Nat → TD (entys S.ent) → Option (EX S.exs)) (h0 : ∀ x, f 0 x = none) (n : Nat) (hn : S.g = f n) (hs : ∀ m x, f (m + 1) x = runL E c S (f m) x) : Looped E c := by
  intro S' hS'
  rw [hS] at hS'
  obtain rfl := Option.some.inj hS'
  exact ⟨f, h0, ⟨n, hn⟩, hs⟩

def gl1 : List (Nat × FSum) → Nat → Option FSum
  | [], _ => none
  | p :: r, f => bif Nat.beq p.1 f then some p.2 else gl1 r f
def gl2 : List ((Nat × Nat) × FSum) → Nat → Nat → Option FSum
  | [], _, _ => none
  | p :: r, f, d => bif Nat.beq p.1.1 f && Nat.beq p.1.2 d then some p.2 else gl2 r f d
/-- The summaries of the callees: of a function, or of it at one call. -/
def gl (l : List (Nat × FSum)) (l2 : List ((Nat × Nat) × FSum)) (f d : Nat) : Option FSum :=
  match gl2 l2 f d with
  | some S => some S
  | none => gl1 l f

def Good (P : Program) (K : Glob) (p : Nat × FSum) : Prop := Plain P p.1 ∧ Obeys P K p.1 p.2
def Goods (P : Program) (K : Glob) : List (Nat × FSum) → Prop
  | [] => True
  | p :: r => Good P K p ∧ Goods P K r

def Goods2 (P : Program) (K : Glob) : List ((Nat × Nat) × FSum) → Prop
  | [] => True
  | p :: r => Good P K (p.1.1, p.2) ∧ Goods2 P K r

theorem gl1_good {P : Program} {K : Glob} : ∀ {l : List (Nat × FSum)}, Goods P K l → ∀ f S, gl1 l f = some S → Plain P f ∧ Obeys P K f S
  | [], _, _, _, h => by cases h
  | p :: r, ⟨h1, h2⟩, f, S, h => by
    unfold gl1 at h
    cases q : Nat.beq p.1 f with
    | true =>
      rw [q] at h
      obtain rfl := Option.some.inj h
      rw [← Nat.eq_of_beq_eq_true q]
      exact h1
    | false => rw [q] at h; exact gl1_good h2 f S h
theorem gl2_good {P : Program} {K : Glob} : ∀ {l : List ((Nat × Nat) × FSum)}, Goods2 P K l → ∀ f d S, gl2 l f d = some S → Plain P f ∧ Obeys P K f S
  | [], _, _, _, _, h => by cases h
  | p :: r, ⟨h1, h2⟩, f, d, S, h => by
    unfold gl2 at h
    cases q : (Nat.beq p.1.1 f && Nat.beq p.1.2 d) with
    | true =>
      rw [q] at h
      obtain rfl := Option.some.inj h
      rw [Bool.and_eq_true] at q
      rw [← Nat.eq_of_beq_eq_true q.1]
      exact h1
    | false => rw [q] at h; exact gl2_good h2 f d S h
theorem gl_good {P : Program} {K : Glob} {l : List (Nat × FSum)} {l2 : List ((Nat × Nat) × FSum)} (h1 : Goods P K l) (h2 : Goods2 P K l2) (f d : Nat) (S : FSum) (h : gl l l2 f d = some S) : Plain P f ∧ Obeys P K f S := by
  unfold gl at h
  split at h
  · rename_i S' e
    obtain rfl := Option.some.inj h
    exact gl2_good h2 f d S' e
  · exact gl1_good h1 f S h

theorem plain_of {P : Program} {f : FuncId} {fn : Func} (h : P.funcs[f]? = some fn) (hn : (fn.name == "runtime.NumGoroutine") = false) (hb : fn.body.isNone = false) : Plain P f := ⟨fn, h, hn, hb⟩

theorem body_of {fn : Func} (h : fn.body.isSome = true) : fn.body = some (bodyOf fn) := by
  unfold bodyOf
  cases q : fn.body with
  | none => rw [q] at h; cases h
  | some c => rfl

theorem all_of {α β : Type} {xs : List α} {F : α → β} {vs : List β} (h : xs.map F = vs) {r : β} (hv : ∀ v ∈ vs, v = r) : ∀ x ∈ xs, F x = r := fun x hx => hv _ (h ▸ List.mem_map.2 ⟨x, hx, rfl⟩)

/-- A function obeys its summary. -/
theorem obeys_of {P : Program} {K : Glob} {f : FuncId} {fn : Func} {S : FSum} {E : Env} {l : List (Nat × FSum)} {l2 : List ((Nat × Nat) × FSum)} (hf : P.funcs[f]? = some fn) (hmo : P.follows .mixedOrders = true) (hτ : TabOk P E.τ) (hΓ : E.Γ = gl l l2) (hl : Goods P K l) (hl2 : Goods2 P K l2)
    (hb : fn.body.isSome = true) (hN : E.N = fn.ntmps) (hn : S.pars.length ≤ fn.ntmps) (hr : fn.results.size = S.res.length) (hloops : LoopsOk E (bodyOf fn)) (hg : ∀ x, S.g x = runF E fn S x) : Obeys P K f S :=
  obeys ⟨hτ, fun f d S h => by rw [hΓ] at h; exact gl_good hl hl2 f d S h, hmo⟩ hf (body_of hb) hN hn hr hloops (fun x r h => by rw [← hg]; exact h)
end AM
end Go.Proofs.YtpcdcnmmkfhliaaGreatDoor
