/- What a printed text says, put together: a function obeys when its callees do. No condition. -/
import Derived.Test.YtfjidmppmleajaaDoorAMtab
namespace Go.Proofs.YtfjidmppmleajaaDoor
namespace AM
open Go
set_option linter.unusedSimpArgs false
set_option linter.unusedVariables false

/-- The loops of a code, outer ones first. -/
def loopsIn : Code → List Code
  | .seq a b => loopsIn a ++ loopsIn b
  | .cond _ a b => loopsIn a ++ loopsIn b
  | .block _ c => loopsIn c
  | .loop c => c :: loopsIn c
  | _ => []

def Looped (E : Env) (c : Code) : Prop := ∀ S, E.Λ (key c) = some S → ∃ f : Nat → TD (entys S.ent) → Option (EX S.exs), (∀ x, f 0 x = none) ∧ (∃ n, S.g = f n) ∧ ∀ n x, f (n + 1) x = runL E c S (f n) x

theorem loopsOk_mem {E : Env} : ∀ c : Code, (∀ b ∈ loopsIn c, Looped E b) → LoopsOk E c := by
  intro c
  induction c with
  | seq a b iha ihb => exact fun h => ⟨iha fun x hx => h x (List.mem_append_left _ hx), ihb fun x hx => h x (List.mem_append_right _ hx)⟩
  | cond _ a b iha ihb => exact fun h => ⟨iha fun x hx => h x (List.mem_append_left _ hx), ihb fun x hx => h x (List.mem_append_right _ hx)⟩
  | block _ c ih => exact fun h => ih h
  | loop c ih => exact fun h => ⟨ih fun x hx => h x (List.mem_cons_of_mem _ hx), h c (List.mem_cons_self ..)⟩
  | _ => exact fun _ => trivial

def loopAt (c : Code) (i : Nat) : Code := (loopsIn c).getD i .skip
def bodyOf (fn : Func) : Code := fn.body.getD .skip

theorem loopsOk_of {E : Env} {c : Code} (k : Nat) (hk : (loopsIn c).length = k) (h : ∀ i, i < k → Looped E (loopAt c i)) : LoopsOk E c := by
  refine loopsOk_mem c fun b hb => ?_
  obtain ⟨i, hi⟩ := List.getElem?_of_mem hb
  have hlt : i < k := by rw [← hk]; exact (List.getElem?_eq_some_iff.1 hi).1
  have := h i hlt
  unfold loopAt at this
  rw [List.getD_eq_getElem?_getD, hi] at this
  exact this

theorem looped {E : Env} {c : Code} {S : LSum} (hS : E.Λ (key c) = some S) (f : Nat → TD (entys S.ent) → Option (EX S.exs)) (h0 : ∀ x, f 0 x = none) (n : Nat) (hn : S.g = f n) (hs : ∀ m x, f (m + 1) x = runL E c S (f m) x) : Looped E c := by
  intro S' hS'
  rw [hS] at hS'
  obtain rfl := Option.some.inj hS'
  exact ⟨f, h0, ⟨n, hn⟩, hs⟩

def gl : List (Nat × FSum) → Nat → Option FSum
  | [], _ => none
  | p :: r, f => bif Nat.beq p.1 f then some p.2 else gl r f

def Good (P : Program) (K : Glob) (p : Nat × FSum) : Prop := Plain P p.1 ∧ Obeys P K p.1 p.2
def Goods (P : Program) (K : Glob) : List (Nat × FSum) → Prop
  | [] => True
  | p :: r => Good P K p ∧ Goods P K r

theorem gl_good {P : Program} {K : Glob} : ∀ {l : List (Nat × FSum)}, Goods P K l → ∀ f S, gl l f = some S → Plain P f ∧ Obeys P K f S
  | [], _, _, _, h => by cases h
  | p :: r, ⟨h1, h2⟩, f, S, h => by
    unfold gl at h
    cases q : Nat.beq p.1 f with
    | true =>
      rw [q] at h
      obtain rfl := Option.some.inj h
      rw [← Nat.eq_of_beq_eq_true q]
      exact h1
    | false => rw [q] at h; exact gl_good h2 f S h

theorem plain_of {P : Program} {f : FuncId} {fn : Func} (h : P.funcs[f]? = some fn) (hn : (fn.name == "runtime.NumGoroutine") = false) (hb : fn.body.isNone = false) : Plain P f := ⟨fn, h, hn, hb⟩

theorem body_of {fn : Func} (h : fn.body.isSome = true) : fn.body = some (bodyOf fn) := by
  unfold bodyOf
  cases q : fn.body with
  | none => rw [q] at h; cases h
  | some c => rfl

/-- A function obeys its summary. -/
theorem obeys_of {P : Program} {K : Glob} {f : FuncId} {fn : Func} {S : FSum} {E : Env} {l : List (Nat × FSum)} (hf : P.funcs[f]? = some fn) (hmo : P.follows .mixedOrders = true) (hτ : TabOk P E.τ) (hΓ : E.Γ = gl l) (hl : Goods P K l)
    (hb : fn.body.isSome = true) (hN : E.N = fn.ntmps) (hn : S.pars.length ≤ fn.ntmps) (hr : fn.results.size = S.res.length) (hloops : LoopsOk E (bodyOf fn)) (hg : ∀ x, S.g x = runF E fn S x) : Obeys P K f S :=
  obeys ⟨hτ, fun f S h => by rw [hΓ] at h; exact gl_good hl f S h, hmo⟩ hf (body_of hb) hN hn hr hloops (fun x r h => by rw [← hg]; exact h)
end AM
end Go.Proofs.YtfjidmppmleajaaDoor
