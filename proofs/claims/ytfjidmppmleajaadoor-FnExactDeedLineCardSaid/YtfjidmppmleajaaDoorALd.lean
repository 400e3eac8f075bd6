/- The functions that the law reaches, as plain Lean functions, and that the evaluator gives just these. No condition. -/
import Derived.Test.YtfjidmppmleajaaDoorAMrow
import Derived.Test.YtfjidmppmleajaaDoorShelf
import Derived.Test.YtfjidmppmleajaaDoorProg
namespace Go.Proofs.YtfjidmppmleajaaDoor
namespace AM
open Go
set_option linter.unusedVariables false
/-- strings.Contains, within its contract's reach. -/
def lib_contains (x : ByteArray × ByteArray) : Option Bool := if x.1.size < 4294967281 then some (Lib.contains x.1.data.toList x.2.data.toList) else none
/-- strconv.Itoa. -/
def lib_itoa (x : Int) : Option ByteArray := if -9223372036854775808 ≤ x ∧ x ≤ 9223372036854775807 then some ⟨(Lib.itoa x).toArray⟩ else none
def τ : Tab := [
  (3, { ty := some (.int .i64), kind := 1 }),
  (4, { ty := some .bool, bytes := 1, kind := 6 }),
  (5, { ty := some (.int .u8), bytes := 1, kind := 1, ik := .u8 }),
  (9, { ty := some .str, bytes := 16, kind := 5 }),
  (23, { ty := some (.pr (.int .i64) (.pr (.int .i64) (.pr (.int .i64) (.pr (.int .i64) (.pr (.int .i64) .str))))), agg := true, size := 6, bytes := 56, kind := 2, fs := [(0, 1, false), (1, 1, false), (2, 1, false), (3, 1, false), (4, 1, false), (5, 1, false)] }),
  (27, { ty := some (.pr (.int .i64) (.pr (.int .i64) (.pr (.int .i64) (.pr (.int .i64) (.pr (.int .i64) .str))))), agg := true, size := 6, bytes := 56, kind := 2, fs := [(0, 1, false), (1, 1, false), (2, 1, false), (3, 1, false), (4, 1, false), (5, 1, false)], eqs := some [(.int .i64), (.int .i64), (.int .i64), (.int .i64), (.int .i64), .str] }),
  (38, { ty := some (.sl (.int .i64)), bytes := 24, kind := 3, el := 3 }),
  (46, { ty := some (.sl .str), bytes := 24, kind := 3, el := 9 }),
  (52, { ty := some (.sl (.int .u8)), bytes := 24, kind := 3, el := 5 })]
def S17 : FSum := ⟨parsOf [.str, .str], ressOf [.bool], lib_contains⟩
def S20 : FSum := ⟨parsOf [(.int .i64)], ressOf [.str], lib_itoa⟩
def laws_szDeed (n : Nat) (x : Int × Int × Int × Int × Int × ByteArray × Int) : Option (Int) :=
  (cond (decide ((IntKind.i64.wrap (x.2.2.2.2.2.2 - ((x.2.2.2.2.2.1).size : Int))) < (0 : Int))) (some (-1 : Int)) (some (IntKind.i64.wrap (x.2.2.2.2.2.2 - ((x.2.2.2.2.2.1).size : Int)))))
def S5 (n : Nat) : FSum := { pars := [.g [.i (.int .i64), .i (.int .i64), .i (.int .i64), .i (.int .i64), .i (.int .i64), .i .str], .c (.i (.int .i64))], res := [(false, [.i (.int .i64)])], g := laws_szDeed n }
def G5 (n : Nat) : List (Nat × FSum) := []
def E5 (n : Nat) : Env := { τ := τ, N := 13, Γ := gl (G5 n), Λ := fun q => match q with
  | _ => none }
theorem eq5 (n : Nat) (x) : laws_szDeed n x = runF (E5 n) Tryd.f5 (S5 n) x := by kernel_rfl
def laws_toDeed (n : Nat) (x : Int × Int × Int × Int × Int × ByteArray) : Option (Int × Int × Int × Int × Int × ByteArray) :=
  (some (x.1, x.2.1, x.2.2.1, x.2.2.2.1, x.2.2.2.2.1, x.2.2.2.2.2))
def S7 (n : Nat) : FSum := { pars := [.g [.i (.int .i64), .i (.int .i64), .i (.int .i64), .i (.int .i64), .i (.int .i64), .i .str]], res := [(true, [.i (.int .i64), .i (.int .i64), .i (.int .i64), .i (.int .i64), .i (.int .i64), .i .str])], g := laws_toDeed n }
def G7 (n : Nat) : List (Nat × FSum) := []
def E7 (n : Nat) : Env := { τ := τ, N := 23, Γ := gl (G7 n), Λ := fun q => match q with
  | _ => none }
theorem eq7 (n : Nat) (x) : laws_toDeed n x = runF (E7 n) Tryd.f7 (S7 n) x := by kernel_rfl
def spec_l1In (n : Nat) (x : Int × Int × Int) : Option (Bool) :=
  (cond (decide (x.1 ≥ x.2.1)) (some (decide (x.1 ≤ x.2.2))) (some false))
def S13 (n : Nat) : FSum := { pars := [.c (.i (.int .i64)), .c (.i (.int .i64)), .c (.i (.int .i64))], res := [(false, [.i .bool])], g := spec_l1In n }
def G13 (n : Nat) : List (Nat × FSum) := []
def E13 (n : Nat) : Env := { τ := τ, N := 15, Γ := gl (G13 n), Λ := fun q => match q with
  | _ => none }
theorem eq13 (n : Nat) (x) : spec_l1In n x = runF (E13 n) Tryd.f13 (S13 n) x := by kernel_rfl
def spec_l14Deed (n : Nat) (x : Int × Int × Int × Int × Int × ByteArray) : Option (Bool) :=
  (cond (x.1 == (1 : Int)) (some (x.1 == x.1 && (x.2.1 == x.2.1 && (x.2.2.1 == x.2.2.1 && (x.2.2.2.1 == x.2.2.2.1 && (x.2.2.2.2.1 == x.2.2.2.2.1 && (strEq x.2.2.2.2.2 (⟨#[]⟩ : ByteArray) && true))))))) (cond (x.1 == (2 : Int)) (some (x.1 == x.1 && (x.2.1 == x.2.1 && (x.2.2.1 == (0 : Int) && (x.2.2.2.1 == (0 : Int) && (x.2.2.2.2.1 == (0 : Int) && (strEq x.2.2.2.2.2 x.2.2.2.2.2 && true))))))) (cond (x.1 == (3 : Int)) (some (x.1 == x.1 && (x.2.1 == x.2.1 && (x.2.2.1 == (0 : Int) && (x.2.2.2.1 == (0 : Int) && (x.2.2.2.2.1 == (0 : Int) && (strEq x.2.2.2.2.2 (⟨#[]⟩ : ByteArray) && true))))))) (cond (x.1 == (4 : Int)) (some (x.1 == x.1 && (x.2.1 == x.2.1 && (x.2.2.1 == (0 : Int) && (x.2.2.2.1 == (0 : Int) && (x.2.2.2.2.1 == (0 : Int) && (strEq x.2.2.2.2.2 (⟨#[]⟩ : ByteArray) && true))))))) (some false)))))
def S12 (n : Nat) : FSum := { pars := [.g [.i (.int .i64), .i (.int .i64), .i (.int .i64), .i (.int .i64), .i (.int .i64), .i .str]], res := [(false, [.i .bool])], g := spec_l14Deed n }
def G12 (n : Nat) : List (Nat × FSum) := []
def E12 (n : Nat) : Env := { τ := τ, N := 36, Γ := gl (G12 n), Λ := fun q => match q with
  | _ => none }
theorem eq12 (n : Nat) (x) : spec_l14Deed n x = runF (E12 n) Tryd.f12 (S12 n) x := by kernel_rfl
def impl_inRange (n : Nat) (x : Int × Int × Int) : Option (Bool) :=
  (cond (decide (x.1 ≥ x.2.1)) (some (decide (x.1 ≤ x.2.2))) (some false))
def S19 (n : Nat) : FSum := { pars := [.c (.i (.int .i64)), .c (.i (.int .i64)), .c (.i (.int .i64))], res := [(false, [.i .bool])], g := impl_inRange n }
def G19 (n : Nat) : List (Nat × FSum) := []
def E19 (n : Nat) : Env := { τ := τ, N := 15, Γ := gl (G19 n), Λ := fun q => match q with
  | _ => none }
theorem eq19 (n : Nat) (x) : impl_inRange n x = runF (E19 n) Tryd.f19 (S19 n) x := by kernel_rfl
def impl_deedOk (n : Nat) (x : Int × Int × Int × Int × Int × ByteArray) : Option (Bool) :=
  (cond (x.1 == (1 : Int)) (some (strEq x.2.2.2.2.2 (⟨#[]⟩ : ByteArray))) (cond (x.1 == (2 : Int)) (cond (x.2.2.1 == (0 : Int)) (cond (x.2.2.2.1 == (0 : Int)) (some (x.2.2.2.2.1 == (0 : Int))) (some false)) (some false)) (cond (x.1 == (3 : Int)) (cond (x.2.2.1 == (0 : Int)) (cond (x.2.2.2.1 == (0 : Int)) (cond (x.2.2.2.2.1 == (0 : Int)) (some (strEq x.2.2.2.2.2 (⟨#[]⟩ : ByteArray))) (some false)) (some false)) (some false)) (cond (x.1 == (4 : Int)) (cond (x.2.2.1 == (0 : Int)) (cond (x.2.2.2.1 == (0 : Int)) (cond (x.2.2.2.2.1 == (0 : Int)) (some (strEq x.2.2.2.2.2 (⟨#[]⟩ : ByteArray))) (some false)) (some false)) (some false)) (some false)))))
def S16 (n : Nat) : FSum := { pars := [.g [.i (.int .i64), .i (.int .i64), .i (.int .i64), .i (.int .i64), .i (.int .i64), .i .str]], res := [(false, [.i .bool])], g := impl_deedOk n }
def G16 (n : Nat) : List (Nat × FSum) := []
def E16 (n : Nat) : Env := { τ := τ, N := 46, Γ := gl (G16 n), Λ := fun q => match q with
  | _ => none }
theorem eq16 (n : Nat) (x) : impl_deedOk n x = runF (E16 n) Tryd.f16 (S16 n) x := by kernel_rfl
def impl_deedNumbers (n : Nat) (x : Int × Int × Int × Int × Int × ByteArray) : Option (ByteArray × (List Int)) :=
  (cond (x.1 == (1 : Int)) (some ((⟨#[115, 116, 97, 114, 116]⟩ : ByteArray), [x.2.1, x.2.2.1, x.2.2.2.1, x.2.2.2.2.1])) (cond (x.1 == (2 : Int)) (some ((⟨#[116, 97, 107, 101]⟩ : ByteArray), [x.2.1])) (cond (x.1 == (3 : Int)) (some ((⟨#[103, 105, 118, 101]⟩ : ByteArray), [x.2.1])) (some ((⟨#[115, 104, 111, 119]⟩ : ByteArray), [x.2.1])))))
def S18 (n : Nat) : FSum := { pars := [.g [.i (.int .i64), .i (.int .i64), .i (.int .i64), .i (.int .i64), .i (.int .i64), .i .str]], res := [(false, [.i .str]), (false, [.o 3 (.int .i64)])], g := impl_deedNumbers n }
def G18 (n : Nat) : List (Nat × FSum) := []
def E18 (n : Nat) : Env := { τ := τ, N := 30, Γ := gl (G18 n), Λ := fun q => match q with
  | _ => none }
theorem eq18 (n : Nat) (x) : impl_deedNumbers n x = runF (E18 n) Tryd.f18 (S18 n) x := by kernel_rfl
def spec_l20Word (n : Nat) (x : Int) : Option (ByteArray) :=
  (cond (inb x ([(⟨#[]⟩ : ByteArray), (⟨#[115, 116, 97, 114, 116]⟩ : ByteArray), (⟨#[116, 97, 107, 101]⟩ : ByteArray), (⟨#[103, 105, 118, 101]⟩ : ByteArray), (⟨#[115, 104, 111, 119]⟩ : ByteArray)]).length) (some ([(⟨#[]⟩ : ByteArray), (⟨#[115, 116, 97, 114, 116]⟩ : ByteArray), (⟨#[116, 97, 107, 101]⟩ : ByteArray), (⟨#[103, 105, 118, 101]⟩ : ByteArray), (⟨#[115, 104, 111, 119]⟩ : ByteArray)].getD (x).toNat (⟨#[]⟩ : ByteArray))) none)
def S14 (n : Nat) : FSum := { pars := [.c (.i (.int .i64))], res := [(false, [.i .str])], g := spec_l20Word n }
def G14 (n : Nat) : List (Nat × FSum) := []
def E14 (n : Nat) : Env := { τ := τ, N := 7, Γ := gl (G14 n), Λ := fun q => match q with
  | _ => none }
theorem eq14 (n : Nat) (x) : spec_l20Word n x = runF (E14 n) Tryd.f14 (S14 n) x := by kernel_rfl
def spec_l4Num_L4 (n : Nat) : Nat → Int × ByteArray → Option (ByteArray)
  | 0, _ => none
  | m + 1, x => (cond (decide (x.1 > (0 : Int))) (cond ((10 : Int) != 0) (cond (strRoom (bytesOf [(IntKind.u8.wrap (IntKind.i64.wrap ((48 : Int) + ((x.1).tmod (10 : Int)))))]) x.2) (cond ((10 : Int) != 0) (spec_l4Num_L4 n m ((IntKind.i64.wrap ((x.1).tdiv (10 : Int))), ((bytesOf [(IntKind.u8.wrap (IntKind.i64.wrap ((48 : Int) + ((x.1).tmod (10 : Int)))))]) ++ x.2))) none) none) none) (some x.2))
def spec_l4Num (n : Nat) (x : Int) : Option (ByteArray) :=
  (cond (decide (x ≤ (0 : Int))) (some (⟨#[48]⟩ : ByteArray)) ((spec_l4Num_L4 n n (x, (⟨#[]⟩ : ByteArray))).bind fun e1 => (some e1)))
def S15 (n : Nat) : FSum := { pars := [.c (.i (.int .i64))], res := [(false, [.i .str])], g := spec_l4Num n }
def Sspec_l4Num_L4 (n : Nat) (g : Int × ByteArray → Option (ByteArray)) : LSum := { ent := [.val 0 (.i (.int .i64)), .val 3 (.i .str)], exs := [(.exit 0, [.val 3 (.i .str)])], g := g }
def G15 (n : Nat) : List (Nat × FSum) := []
def E15 (n : Nat) : Env := { τ := τ, N := 19, Γ := gl (G15 n), Λ := fun q => match q with
  | 4 => some (Sspec_l4Num_L4 n (spec_l4Num_L4 n n))
  | _ => none }
theorem eqspec_l4Num_L4 (n m : Nat) (x) : spec_l4Num_L4 n (m + 1) x = runL (E15 n) (loopAt (bodyOf Tryd.f15) 0) (Sspec_l4Num_L4 n (spec_l4Num_L4 n n)) (spec_l4Num_L4 n m) x := by kernel_rfl
theorem eq15 (n : Nat) (x) : spec_l4Num n x = runF (E15 n) Tryd.f15 (S15 n) x := by kernel_rfl
def spec_DeedLine_L4 (n : Nat) : Nat → Int × Int × Int × Int × Int × ByteArray × Int → Option ((ByteArray × Bool) ⊕ (Int × Int × Int × Int × Int × ByteArray))
  | 0, _ => none
  | m + 1, x => (cond (decide (x.2.2.2.2.2.2 < ((x.2.2.2.2.2.1).size : Int))) (cond (inb x.2.2.2.2.2.2 (x.2.2.2.2.2.1).size) (cond ((bt x.2.2.2.2.2.1 x.2.2.2.2.2.2) == (10 : Int)) (some (Sum.inl ((⟨#[]⟩ : ByteArray), false))) (spec_DeedLine_L4 n m (x.1, x.2.1, x.2.2.1, x.2.2.2.1, x.2.2.2.2.1, x.2.2.2.2.2.1, (IntKind.i64.wrap (x.2.2.2.2.2.2 + (1 : Int)))))) none) (some (Sum.inr (x.1, x.2.1, x.2.2.1, x.2.2.2.1, x.2.2.2.2.1, x.2.2.2.2.2.1))))
def spec_DeedLine (n : Nat) (x : Int × Int × Int × Int × Int × ByteArray) : Option (ByteArray × Bool) :=
  ((spec_l14Deed n (x.1, x.2.1, x.2.2.1, x.2.2.2.1, x.2.2.2.2.1, x.2.2.2.2.2)).bind fun r1 => (cond (!r1) (some ((⟨#[]⟩ : ByteArray), false)) (cond (decide (((x.2.2.2.2.2).size : Int) > (2000 : Int))) (some ((⟨#[]⟩ : ByteArray), false)) ((spec_l1In n (x.2.1, (0 : Int), (999 : Int))).bind fun r2 => (cond (!r2) (some ((⟨#[]⟩ : ByteArray), false)) ((spec_l1In n (x.2.2.1, (0 : Int), (999 : Int))).bind fun r3 => (cond (!r3) (some ((⟨#[]⟩ : ByteArray), false)) ((spec_l1In n (x.2.2.2.1, (0 : Int), (999 : Int))).bind fun r4 => (cond (!r4) (some ((⟨#[]⟩ : ByteArray), false)) ((spec_l1In n (x.2.2.2.2.1, (0 : Int), (999 : Int))).bind fun r5 => (cond (!r5) (some ((⟨#[]⟩ : ByteArray), false)) ((spec_DeedLine_L4 n n (x.1, x.2.1, x.2.2.1, x.2.2.2.1, x.2.2.2.2.1, x.2.2.2.2.2, (0 : Int))).bind fun e6 => (match e6 with | Sum.inl a7 => (some (a7.1, a7.2)) | Sum.inr b8 => ((spec_l20Word n b8.1).bind fun r9 => (cond (strRoom r9 (⟨#[32]⟩ : ByteArray)) ((spec_l4Num n b8.2.1).bind fun r10 => (cond (strRoom (r9 ++ (⟨#[32]⟩ : ByteArray)) r10) (cond (b8.1 == (1 : Int)) (cond (strRoom ((r9 ++ (⟨#[32]⟩ : ByteArray)) ++ r10) (⟨#[32]⟩ : ByteArray)) ((spec_l4Num n b8.2.2.1).bind fun r11 => (cond (strRoom (((r9 ++ (⟨#[32]⟩ : ByteArray)) ++ r10) ++ (⟨#[32]⟩ : ByteArray)) r11) (cond (strRoom ((((r9 ++ (⟨#[32]⟩ : ByteArray)) ++ r10) ++ (⟨#[32]⟩ : ByteArray)) ++ r11) (⟨#[32]⟩ : ByteArray)) ((spec_l4Num n b8.2.2.2.1).bind fun r12 => (cond (strRoom (((((r9 ++ (⟨#[32]⟩ : ByteArray)) ++ r10) ++ (⟨#[32]⟩ : ByteArray)) ++ r11) ++ (⟨#[32]⟩ : ByteArray)) r12) (cond (strRoom ((((((r9 ++ (⟨#[32]⟩ : ByteArray)) ++ r10) ++ (⟨#[32]⟩ : ByteArray)) ++ r11) ++ (⟨#[32]⟩ : ByteArray)) ++ r12) (⟨#[32]⟩ : ByteArray)) ((spec_l4Num n b8.2.2.2.2.1).bind fun r13 => (cond (strRoom (((((((r9 ++ (⟨#[32]⟩ : ByteArray)) ++ r10) ++ (⟨#[32]⟩ : ByteArray)) ++ r11) ++ (⟨#[32]⟩ : ByteArray)) ++ r12) ++ (⟨#[32]⟩ : ByteArray)) r13) (some (((((((((r9 ++ (⟨#[32]⟩ : ByteArray)) ++ r10) ++ (⟨#[32]⟩ : ByteArray)) ++ r11) ++ (⟨#[32]⟩ : ByteArray)) ++ r12) ++ (⟨#[32]⟩ : ByteArray)) ++ r13), true)) none)) none) none)) none) none)) none) (cond (b8.1 == (2 : Int)) (cond (strRoom ((r9 ++ (⟨#[32]⟩ : ByteArray)) ++ r10) (⟨#[32]⟩ : ByteArray)) (cond (strRoom (((r9 ++ (⟨#[32]⟩ : ByteArray)) ++ r10) ++ (⟨#[32]⟩ : ByteArray)) b8.2.2.2.2.2) (some (((((r9 ++ (⟨#[32]⟩ : ByteArray)) ++ r10) ++ (⟨#[32]⟩ : ByteArray)) ++ b8.2.2.2.2.2), true)) none) none) (some (((r9 ++ (⟨#[32]⟩ : ByteArray)) ++ r10), true)))) none)) none)))))))))))))))
def S6 (n : Nat) : FSum := { pars := [.g [.i (.int .i64), .i (.int .i64), .i (.int .i64), .i (.int .i64), .i (.int .i64), .i .str]], res := [(false, [.i .str]), (false, [.i .bool])], g := spec_DeedLine n }
def Sspec_DeedLine_L4 (n : Nat) (g : Int × Int × Int × Int × Int × ByteArray × Int → Option ((ByteArray × Bool) ⊕ (Int × Int × Int × Int × Int × ByteArray))) : LSum := { ent := [.box 1 [1, 0] [.i (.int .i64), .i (.int .i64), .i (.int .i64), .i (.int .i64), .i (.int .i64), .i .str], .val 4 (.i (.int .i64))], exs := [(.ret, [.val 2 (.i .str), .val 3 (.i .bool)]), (.exit 0, [.box 1 [1, 0] [.i (.int .i64), .i (.int .i64), .i (.int .i64), .i (.int .i64), .i (.int .i64), .i .str]])], g := g }
def G6 (n : Nat) : List (Nat × FSum) := [(12, S12 n), (13, S13 n), (14, S14 n), (15, S15 n)]
def E6 (n : Nat) : Env := { τ := τ, N := 87, Γ := gl (G6 n), Λ := fun q => match q with
  | 4 => some (Sspec_DeedLine_L4 n (spec_DeedLine_L4 n n))
  | _ => none }
theorem eqspec_DeedLine_L4 (n m : Nat) (x) : spec_DeedLine_L4 n (m + 1) x = runL (E6 n) (loopAt (bodyOf Tryd.f6) 0) (Sspec_DeedLine_L4 n (spec_DeedLine_L4 n n)) (spec_DeedLine_L4 n m) x := by kernel_rfl
theorem eq6 (n : Nat) (x) : spec_DeedLine n x = runF (E6 n) Tryd.f6 (S6 n) x := by kernel_rfl
def impl_DeedLine_L5 (n : Nat) : Nat → Int × Int × Int × Int × Int × ByteArray × ByteArray × (List Int) × Int × Int → Option ((ByteArray × Bool) ⊕ (Int × Int × Int × Int × Int × ByteArray × ByteArray))
  | 0, _ => none
  | m + 1, x => (cond (decide (x.2.2.2.2.2.2.2.2.2 < x.2.2.2.2.2.2.2.2.1)) (cond (inb x.2.2.2.2.2.2.2.2.2 (x.2.2.2.2.2.2.2.1).length) ((impl_inRange n ((x.2.2.2.2.2.2.2.1.getD (x.2.2.2.2.2.2.2.2.2).toNat (0 : Int)), (0 : Int), (999 : Int))).bind fun r4 => (cond (!r4) (some (Sum.inl ((⟨#[]⟩ : ByteArray), false))) ((lib_itoa (x.2.2.2.2.2.2.2.1.getD (x.2.2.2.2.2.2.2.2.2).toNat (0 : Int))).bind fun r5 => (cond (strRoom (⟨#[32]⟩ : ByteArray) r5) (cond (strRoom x.2.2.2.2.2.2.1 ((⟨#[32]⟩ : ByteArray) ++ r5)) (impl_DeedLine_L5 n m (x.1, x.2.1, x.2.2.1, x.2.2.2.1, x.2.2.2.2.1, x.2.2.2.2.2.1, (x.2.2.2.2.2.2.1 ++ ((⟨#[32]⟩ : ByteArray) ++ r5)), x.2.2.2.2.2.2.2.1, x.2.2.2.2.2.2.2.2.1, (IntKind.i64.wrap (x.2.2.2.2.2.2.2.2.2 + (1 : Int))))) none) none)))) none) (some (Sum.inr (x.1, x.2.1, x.2.2.1, x.2.2.2.1, x.2.2.2.2.1, x.2.2.2.2.2.1, x.2.2.2.2.2.2.1))))
def impl_DeedLine (n : Nat) (x : Int × Int × Int × Int × Int × ByteArray) : Option (ByteArray × Bool) :=
  ((impl_deedOk n (x.1, x.2.1, x.2.2.1, x.2.2.2.1, x.2.2.2.2.1, x.2.2.2.2.2)).bind fun r1 => (cond (!r1) (some ((⟨#[]⟩ : ByteArray), false)) (cond (decide (((x.2.2.2.2.2).size : Int) > (2000 : Int))) (some ((⟨#[]⟩ : ByteArray), false)) ((lib_contains (x.2.2.2.2.2, (⟨#[10]⟩ : ByteArray))).bind fun r2 => (cond r2 (some ((⟨#[]⟩ : ByteArray), false)) ((impl_deedNumbers n (x.1, x.2.1, x.2.2.1, x.2.2.2.1, x.2.2.2.2.1, x.2.2.2.2.2)).bind fun r3 => ((impl_DeedLine_L5 n n (x.1, x.2.1, x.2.2.1, x.2.2.2.1, x.2.2.2.2.1, x.2.2.2.2.2, r3.1, r3.2, ((r3.2).length : Int), (0 : Int))).bind fun e6 => (match e6 with | Sum.inl a7 => (some (a7.1, a7.2)) | Sum.inr b8 => (cond (b8.1 == (2 : Int)) (cond (strRoom (⟨#[32]⟩ : ByteArray) b8.2.2.2.2.2.1) (cond (strRoom b8.2.2.2.2.2.2 ((⟨#[32]⟩ : ByteArray) ++ b8.2.2.2.2.2.1)) (some ((b8.2.2.2.2.2.2 ++ ((⟨#[32]⟩ : ByteArray) ++ b8.2.2.2.2.2.1)), true)) none) none) (some (b8.2.2.2.2.2.2, true)))))))))))
def S8 (n : Nat) : FSum := { pars := [.g [.i (.int .i64), .i (.int .i64), .i (.int .i64), .i (.int .i64), .i (.int .i64), .i .str]], res := [(false, [.i .str]), (false, [.i .bool])], g := impl_DeedLine n }
def Simpl_DeedLine_L5 (n : Nat) (g : Int × Int × Int × Int × Int × ByteArray × ByteArray × (List Int) × Int × Int → Option ((ByteArray × Bool) ⊕ (Int × Int × Int × Int × Int × ByteArray × ByteArray))) : LSum := { ent := [.box 1 [1, 0] [.i (.int .i64), .i (.int .i64), .i (.int .i64), .i (.int .i64), .i (.int .i64), .i .str], .val 4 (.i .str), .val 27 (.o 3 (.int .i64)), .val 28 (.i (.int .i64)), .val 29 (.i (.int .i64))], exs := [(.ret, [.val 2 (.i .str), .val 3 (.i .bool)]), (.exit 0, [.box 1 [1, 0] [.i (.int .i64), .i (.int .i64), .i (.int .i64), .i (.int .i64), .i (.int .i64), .i .str], .val 4 (.i .str)])], g := g }
def G8 (n : Nat) : List (Nat × FSum) := [(16, S16 n), (17, S17), (18, S18 n), (19, S19 n), (20, S20)]
def E8 (n : Nat) : Env := { τ := τ, N := 51, Γ := gl (G8 n), Λ := fun q => match q with
  | 5 => some (Simpl_DeedLine_L5 n (impl_DeedLine_L5 n n))
  | _ => none }
theorem eqimpl_DeedLine_L5 (n m : Nat) (x) : impl_DeedLine_L5 n (m + 1) x = runL (E8 n) (loopAt (bodyOf Tryd.f8) 0) (Simpl_DeedLine_L5 n (impl_DeedLine_L5 n n)) (impl_DeedLine_L5 n m) x := by kernel_rfl
theorem eq8 (n : Nat) (x) : impl_DeedLine n x = runF (E8 n) Tryd.f8 (S8 n) x := by kernel_rfl
def laws_FnExactDeedLine (n : Nat) (x : Int × Int × Int × Int × Int × ByteArray) : Option (Bool) :=
  ((laws_szDeed n (x.1, x.2.1, x.2.2.1, x.2.2.2.1, x.2.2.2.2.1, x.2.2.2.2.2, (1048576 : Int))).bind fun r1 => (cond (decide (r1 < (0 : Int))) (some true) ((laws_toDeed n (x.1, x.2.1, x.2.2.1, x.2.2.2.1, x.2.2.2.2.1, x.2.2.2.2.2)).bind fun r2 => ((spec_DeedLine n (r2.1, r2.2.1, r2.2.2.1, r2.2.2.2.1, r2.2.2.2.2.1, r2.2.2.2.2.2)).bind fun r3 => ((laws_toDeed n (x.1, x.2.1, x.2.2.1, x.2.2.2.1, x.2.2.2.2.1, x.2.2.2.2.2)).bind fun r4 => ((impl_DeedLine n (r4.1, r4.2.1, r4.2.2.1, r4.2.2.2.1, r4.2.2.2.2.1, r4.2.2.2.2.2)).bind fun r5 => (cond (!strEq r5.1 r3.1) (some false) (cond (r5.2 != r3.2) (some false) (some true)))))))))
def S3 (n : Nat) : FSum := { pars := [.g [.i (.int .i64), .i (.int .i64), .i (.int .i64), .i (.int .i64), .i (.int .i64), .i .str]], res := [(false, [.i .bool])], g := laws_FnExactDeedLine n }
def G3 (n : Nat) : List (Nat × FSum) := [(5, S5 n), (7, S7 n), (6, S6 n), (8, S8 n)]
def E3 (n : Nat) : Env := { τ := τ, N := 33, Γ := gl (G3 n), Λ := fun q => match q with
  | _ => none }
theorem eq3 (n : Nat) (x) : laws_FnExactDeedLine n x = runF (E3 n) Tryd.f3 (S3 n) x := by kernel_rfl
theorem tabOk : TabOk Tryd.prog τ := tabB_sound (by kernel_rfl)
theorem mixed : Tryd.prog.follows .mixedOrders = true := by kernel_rfl
end AM
end Go.Proofs.YtfjidmppmleajaaDoor
