/- Each function that the laws reach obeys its summary. Under: what the rows list of the library's variables. -/
import Derived.Test.YtelkmjkclmjggaaGreatDoorLALd
import Derived.Test.YtelkmjkclmjggaaGreatDoorLW3
import Derived.Test.YtelkmjkclmjggaaGreatDoorLW4
import Derived.Test.YtelkmjkclmjggaaGreatDoorProg
import Derived.Test.YtelkmjkclmjggaaGreatDoorLShelf
import Derived.Test.YtelkmjkclmjggaaGreatDoorLP1
import Derived.Lib.IndexMore
import Derived.Lib.ItoaNum
import Derived.Lib.Split
import Derived.Lib.CountLaws
namespace Go.Proofs.YtelkmjkclmjggaaGreatDoor
namespace AM
open Go
set_option linter.unusedVariables false
abbrev GG (W : World) (p : Nat × FSum) : Prop := Good Tryz.prog (Glob.of W) p
theorem ob223 {W : World} (hG : Facts W) (n : Nat) : GG W (223, S223 n) :=
 goodOf mixed tabOk Tryz.func223 (E223 n) (G223 n) [] trivial trivial lo0 (eq223 n)
theorem ob171 {W : World} (hG : Facts W) (n : Nat) : GG W (171, S171 n) :=
 goodOf mixed tabOk Tryz.func171 (E171 n) (G171 n) [] trivial trivial lo0 (eq171 n)
theorem ob197 {W : World} (hG : Facts W) (n : Nat) : GG W (197, S197 n) :=
 goodOf mixed tabOk Tryz.func197 (E197 n) (G197 n) [] ⟨ob223 hG n, ob171 hG n, trivial⟩ trivial lo0 (eq197 n)
theorem ob198 {W : World} (hG : Facts W) (n : Nat) : GG W (198, S198 n) :=
 goodOf mixed tabOk Tryz.func198 (E198 n) (G198 n) [] trivial trivial (lol 1 (fun i hi => match i, hi with | 0, _ => lpd n (Sspec_l1Find_L2 n (spec_l1Find_L2 n n)) (spec_l1Find_L2 n) (eqspec_l1Find_L2 n))) (eq198 n)
theorem ob84 {W : World} (hG : Facts W) (n : Nat) : GG W (84, S84 n) :=
 goodOf mixed tabOk Tryz.func84 (E84 n) (G84 n) [] ⟨ob197 hG n, ob198 hG n, trivial⟩ trivial (lol 1 (fun i hi => match i, hi with | 0, _ => lpd n (Sspec_PoolOk_L4 n (spec_PoolOk_L4 n n)) (spec_PoolOk_L4 n) (eqspec_PoolOk_L4 n))) (eq84 n)
theorem ob263 {W : World} (hG : Facts W) (n : Nat) : GG W (263, S263 n) :=
 goodOf mixed tabOk Tryz.func263 (E263 n) (G263 n) [] trivial trivial (lol 1 (fun i hi => match i, hi with | 0, _ => lpd n (Sspec_l4Name_L3 n (spec_l4Name_L3 n n)) (spec_l4Name_L3 n) (eqspec_l4Name_L3 n))) (eq263 n)
theorem ob315 {W : World} (hG : Facts W) (n : Nat) : GG W (315, S315 n) :=
 goodOf mixed tabOk Tryz.func315 (E315 n) (G315 n) [] trivial trivial lo0 (eq315 n)
theorem ob265 {W : World} (hG : Facts W) (n : Nat) : GG W (265, S265 n) :=
 goodOf mixed tabOk Tryz.func265 (E265 n) (G265 n) [] trivial trivial lo0 (eq265 n)
theorem ob199 {W : World} (hG : Facts W) (n : Nat) : GG W (199, S199 n) :=
 goodOf mixed tabOk Tryz.func199 (E199 n) (G199 n) [] ⟨ob223 hG n, trivial⟩ trivial lo0 (eq199 n)
theorem ob264_ {W : World} (hG : Facts W) (n k : Nat) (ih : GG W (190, S190 n k)) : GG W (264, S264 n k) :=
 goodOf mixed tabOk Tryz.func264 (E264 n k) (G264 n k) [] ⟨ob315 hG n, ih, trivial⟩ trivial lo0 (eq264 n k)
theorem ob190 {W : World} (hG : Facts W) (n : Nat) : ∀ k, GG W (190, S190 n k)
 | 0 => ⟨plain_of Tryz.func190 (by kernel_rfl) (by kernel_rfl), fun _ _ _ _ _ _ _ h => by cases h⟩
 | k + 1 =>
  have ih := ob190 hG n k
  goodOf mixed tabOk Tryz.func190 (E190 n k) (G190 n k) [] ⟨ob199 hG n, ob263 hG n, ob264_ hG n k ih, ob265 hG n, ih, trivial⟩ trivial lo0 (eq190 n k)
theorem ob264 {W : World} (hG : Facts W) (n k : Nat) : GG W (264, S264 n k) := ob264_ hG n k (ob190 hG n k)
theorem ob72 {W : World} (hG : Facts W) (n : Nat) : GG W (72, S72 n) :=
 goodOf mixed tabOk Tryz.func72 (E72 n) (G72 n) [] ⟨ob190 hG n n, trivial⟩ trivial lo0 (eq72 n)
theorem ob88 {W : World} (hG : Facts W) (n : Nat) : GG W (88, S88 n) :=
 goodOf mixed tabOk Tryz.func88 (E88 n) (G88 n) [] ⟨ob171 hG n, trivial⟩ trivial lo0 (eq88 n)
theorem ob85 {W : World} (hG : Facts W) (n : Nat) : GG W (85, S85 n) :=
 goodOf mixed tabOk Tryz.func85 (E85 n) (G85 n) [] ⟨ob88 hG n, trivial⟩ trivial (lol 1 (fun i hi => match i, hi with | 0, _ => lpd n (Sspec_l11Env_L4 n (spec_l11Env_L4 n n)) (spec_l11Env_L4 n) (eqspec_l11Env_L4 n))) (eq85 n)
theorem ob86 {W : World} (hG : Facts W) (n : Nat) : GG W (86, S86 n) :=
 goodOf mixed tabOk Tryz.func86 (E86 n) (G86 n) [] trivial trivial lo0 (eq86 n)
theorem rg108 (n : Nat) : RgsAt (E108 n) (bodyOf Tryz.f108) (Q108 n) := ⟨reg6 (exspec_l1Add_R10 n) [(4, 4)], trivial⟩
theorem ob108 {W : World} (hG : Facts W) (n : Nat) : GG W (108, S108 n) :=
 goodOf mixed tabOk Tryz.func108 (E108 n) (G108 n) [] ⟨ob198 hG n, ob197 hG n, ob86 hG n, trivial⟩ trivial (lor (rg108 n)) (eq108 n)
theorem ob107 {W : World} (hG : Facts W) (n : Nat) : GG W (107, S107 n) :=
 goodOf mixed tabOk Tryz.func107 (E107 n) (G107 n) [] ⟨ob108 hG n, trivial⟩ trivial lo0 (eq107 n)
theorem ob200 {W : World} (hG : Facts W) (n : Nat) : GG W (200, S200 n) :=
 goodOf mixed tabOk Tryz.func200 (E200 n) (G200 n) [] ⟨ob88 hG n, ob108 hG n, trivial⟩ trivial lo0 (eq200 n)
theorem rg87 (n k : Nat) : RgsAt (E87 n k) (bodyOf Tryz.f87) (Q87 n k) := ⟨reg6 (exspec_l11Make_R5 n k) [(6, 8)], trivial⟩
theorem ob87 {W : World} (hG : Facts W) (n : Nat) : ∀ k, GG W (87, S87 n k)
 | 0 => ⟨plain_of Tryz.func87 (by kernel_rfl) (by kernel_rfl), fun _ _ _ _ _ _ _ h => by cases h⟩
 | k + 1 =>
  have ih := ob87 hG n k
  goodOf mixed tabOk Tryz.func87 (E87 n k) (G87 n k) [] ⟨ob107 hG n, ih, ob199 hG n, ob108 hG n, ob200 hG n, trivial⟩ trivial (lor (rg87 n k)) (eq87 n k)
theorem rg1087 (n k : Nat) : RgsAt (E1087 n k) (bodyOf Tryz.f87) (Q1087 n k) := ⟨reg6 (exspec_l11Make_o_R5 n k) [(6, 8)], trivial⟩
theorem ob1087 {W : World} (hG : Facts W) (n : Nat) : ∀ k, GG W (87, S1087 n k)
 | 0 => ⟨plain_of Tryz.func87 (by kernel_rfl) (by kernel_rfl), fun _ _ _ _ _ _ _ h => by cases h⟩
 | k + 1 =>
  have ih := ob1087 hG n k
  goodOf mixed tabOk Tryz.func87 (E1087 n k) (G1087 n k) (H1087 n k) ⟨ob107 hG n, ob199 hG n, ob108 hG n, ob200 hG n, trivial⟩ ⟨ih, ih, trivial⟩ (lor (rg1087 n k)) (eq1087 n k)
theorem rg201 (n k : Nat) : RgsAt (E201 n k) (bodyOf Tryz.f201) (Q201 n k) := ⟨reg6 (exspec_l11Match_R6 n k) [(8, 10)], trivial⟩
theorem ob201 {W : World} (hG : Facts W) (n : Nat) : ∀ k, GG W (201, S201 n k)
 | 0 => ⟨plain_of Tryz.func201 (by kernel_rfl) (by kernel_rfl), fun _ _ _ _ _ _ _ h => by cases h⟩
 | k + 1 =>
  have ih := ob201 hG n k
  goodOf mixed tabOk Tryz.func201 (E201 n k) (G201 n k) (H201 n k) ⟨ih, trivial⟩ ⟨ob1087 hG n n, trivial⟩ (lor (rg201 n k)) (eq201 n k)
theorem ob89 {W : World} (hG : Facts W) (n : Nat) : GG W (89, S89 n) :=
 goodOf mixed tabOk Tryz.func89 (E89 n) (G89 n) [] ⟨ob201 hG n n, trivial⟩ trivial lo0 (eq89 n)
theorem ob28 {W : World} (hG : Facts W) (n : Nat) : GG W (28, S28 n) :=
 goodOf mixed tabOk Tryz.func28 (E28 n) (G28 n) [] ⟨ob84 hG n, ob72 hG n, ob86 hG n, ob85 hG n, ob88 hG n, ob89 hG n, trivial⟩ trivial lo0 (eq28 n)
theorem ob14 {W : World} (hG : Facts W) (n : Nat) : GG W (14, S14 n) :=
 goodOf mixed tabOk Tryz.func14 (E14 n) (G14 n) [] trivial trivial lo0 (eq14 n)
theorem ob80 {W : World} (hG : Facts W) (n : Nat) : GG W (80, S80 n) :=
 goodOf mixed tabOk Tryz.func80 (E80 n) (G80 n) [] trivial trivial (lol 1 (fun i hi => match i, hi with | 0, _ => lpd n (Sspec_l1New_L3 n (spec_l1New_L3 n n)) (spec_l1New_L3 n) (eqspec_l1New_L3 n))) (eq80 n)
theorem ob204 {W : World} (hG : Facts W) (n : Nat) : GG W (204, S204 n) :=
 goodOf mixed tabOk Tryz.func204 (E204 n) (G204 n) [] trivial trivial lo0 (eq204 n)
theorem ob92 {W : World} (hG : Facts W) (n : Nat) : GG W (92, S92 n) :=
 goodOf mixed tabOk Tryz.func92 (E92 n) (G92 n) [] ⟨ob204 hG n, trivial⟩ trivial lo0 (eq92 n)
theorem ob81 {W : World} (hG : Facts W) (n : Nat) : GG W (81, S81 n) :=
 goodOf mixed tabOk Tryz.func81 (E81 n) (G81 n) [] ⟨ob92 hG n, trivial⟩ trivial lo0 (eq81 n)
theorem ob165 {W : World} (hG : Facts W) (n : Nat) : GG W (165, S165 n) :=
 goodOf mixed tabOk Tryz.func165 (E165 n) (G165 n) [] ⟨ob92 hG n, trivial⟩ trivial lo0 (eq165 n)
theorem ob259 {W : World} (hG : Facts W) (n : Nat) : GG W (259, S259 n) :=
 goodOf mixed tabOk Tryz.func259 (E259 n) (G259 n) [] ⟨ob81 hG n, ob92 hG n, trivial⟩ trivial lo0 (eq259 n)
theorem ob203 {W : World} (hG : Facts W) (n : Nat) : GG W (203, S203 n) :=
 goodOf mixed tabOk Tryz.func203 (E203 n) (G203 n) [] ⟨ob165 hG n, ob81 hG n, ob259 hG n, ob223 hG n, trivial⟩ trivial lo0 (eq203 n)
theorem rg202 (n : Nat) : RgsAt (E202 n) (bodyOf Tryz.f202) (Q202 n) := ⟨reg7 (exspec_l1DrawPool_R6 n) [(0, [0]), (5, [5, 0]), (20, [0]), (21, [5, 0])], trivial⟩
theorem ob202 {W : World} (hG : Facts W) (n : Nat) : GG W (202, S202 n) :=
 goodOf mixed tabOk Tryz.func202 (E202 n) (G202 n) [] ⟨ob92 hG n, ob203 hG n, ob108 hG n, trivial⟩ trivial (lolr 1 (fun i hi => match i, hi with | 0, _ => lpd n (Sspec_l1DrawPool_L4 n (spec_l1DrawPool_L4 n n)) (spec_l1DrawPool_L4 n) (eqspec_l1DrawPool_L4 n)) (rg202 n)) (eq202 n)
theorem ob90 {W : World} (hG : Facts W) (n : Nat) : GG W (90, S90 n) :=
 goodOf mixed tabOk Tryz.func90 (E90 n) (G90 n) [] ⟨ob202 hG n, ob92 hG n, ob86 hG n, ob203 hG n, ob81 hG n, ob108 hG n, trivial⟩ trivial (lol 1 (fun i hi => match i, hi with | 0, _ => lpd n (Sspec_l1DrawAny_L9 n (spec_l1DrawAny_L9 n n)) (spec_l1DrawAny_L9 n) (eqspec_l1DrawAny_L9 n))) (eq90 n)
theorem ob207 {W : World} (hG : Facts W) (n : Nat) : GG W (207, S207 n) :=
 goodOf mixed tabOk Tryz.func207 (E207 n) (G207 n) [] trivial trivial lo0 (eq207 n)
theorem ob182 {W : World} (hG : Facts W) (n : Nat) : GG W (182, S182 n) :=
 goodOf mixed tabOk Tryz.func182 (E182 n) (G182 n) [] ⟨ob81 hG n, ob165 hG n, ob207 hG n, ob259 hG n, trivial⟩ trivial lo0 (eq182 n)
theorem ob103 {W : World} (hG : Facts W) (n : Nat) : GG W (103, S103 n) :=
 goodOf mixed tabOk Tryz.func103 (E103 n) (G103 n) [] trivial trivial (lol 1 (fun i hi => match i, hi with | 0, _ => lpd n (Sspec_EnvNew_L3 n (spec_EnvNew_L3 n n)) (spec_EnvNew_L3 n) (eqspec_EnvNew_L3 n))) (eq103 n)
theorem rg183 (n : Nat) : RgsAt (E183 n) (bodyOf Tryz.f183) (Q183 n) := ⟨reg7 (exspec_l11DrawEnv_R5 n) [(0, [0]), (21, [0]), (23, [0])], trivial⟩
theorem ob183 {W : World} (hG : Facts W) (n : Nat) : GG W (183, S183 n) :=
 goodOf mixed tabOk Tryz.func183 (E183 n) (G183 n) [] ⟨ob103 hG n, ob92 hG n, ob259 hG n, ob165 hG n, trivial⟩ trivial (lolr 1 (fun i hi => match i, hi with | 0, _ => lpd n (Sspec_l11DrawEnv_L3 n (spec_l11DrawEnv_L3 n n)) (spec_l11DrawEnv_L3 n) (eqspec_l11DrawEnv_L3 n)) (rg183 n)) (eq183 n)
theorem ob231 {W : World} (hG : Facts W) (n : Nat) : GG W (231, S231 n) :=
 goodOf mixed tabOk Tryz.func231 (E231 n) (G231 n) [] ⟨ob92 hG n, trivial⟩ trivial lo0 (eq231 n)
theorem ob314 {W : World} (hG : Facts W) (n : Nat) : GG W (314, S314 n) :=
 goodOf mixed tabOk Tryz.func314 (E314 n) (G314 n) [] ⟨ob223 hG n, trivial⟩ trivial lo0 (eq314 n)
theorem ob206 {W : World} (hG : Facts W) (n : Nat) : GG W (206, S206 n) :=
 goodOf mixed tabOk Tryz.func206 (E206 n) (G206 n) [] trivial trivial lo0 (eq206 n)
theorem ob260 {W : World} (hG : Facts W) (n : Nat) : GG W (260, S260 n) :=
 goodOf mixed tabOk Tryz.func260 (E260 n) (G260 n) [] ⟨ob314 hG n, ob206 hG n, trivial⟩ trivial (lol 2 (fun i hi => match i, hi with | 0, _ => lpd n (Sspec_l1Sizes_L3 n (spec_l1Sizes_L3 n n)) (spec_l1Sizes_L3 n) (eqspec_l1Sizes_L3 n) | 1, _ => lpd n (Sspec_l1Sizes_L8 n (spec_l1Sizes_L8 n n)) (spec_l1Sizes_L8 n) (eqspec_l1Sizes_L8 n))) (eq260 n)
theorem ob173 {W : World} (hG : Facts W) (n : Nat) : GG W (173, S173 n) :=
 goodOf mixed tabOk Tryz.func173 (E173 n) (G173 n) [] trivial trivial (lol 1 (fun i hi => match i, hi with | 0, _ => lpd n (Sspec_l4Num_L4 n (spec_l4Num_L4 n n)) (spec_l4Num_L4 n) (eqspec_l4Num_L4 n))) (eq173 n)
theorem ob222 {W : World} (hG : Facts W) (n : Nat) : GG W (222, S222 n) :=
 goodOf mixed tabOk Tryz.func222 (E222 n) (G222 n) [] trivial trivial lo0 (eq222 n)
theorem ob261 {W : World} (hG : Facts W) (n : Nat) : ∀ k, GG W (261, S261 n k)
 | 0 => ⟨plain_of Tryz.func261 (by kernel_rfl) (by kernel_rfl), fun _ _ _ _ _ _ _ h => by cases h⟩
 | k + 1 =>
  have ih := ob261 hG n k
  goodOf mixed tabOk Tryz.func261 (E261 n k) (G261 n k) [] ⟨ob81 hG n, ob231 hG n, ob173 hG n, ob222 hG n, ih, ob223 hG n, trivial⟩ trivial (lol 1 (fun i hi => match i, hi with | 0, _ => lpd n (Sspec_l11DrawOf_L5 n (spec_l11DrawOf_L5 n (spec_l11DrawOf n k) n)) (spec_l11DrawOf_L5 n (spec_l11DrawOf n k)) (fun m x => eqspec_l11DrawOf_L5 n m k x))) (eq261 n k)
theorem rg257 (n : Nat) : RgsAt (E257 n) (bodyOf Tryz.f257) (Q257 n) := ⟨reg7 (exspec_l4Dent_R6 n) [(0, [0]), (25, [0])], reg7 (exspec_l4Dent_R7 n) [(0, [0]), (40, [0])], trivial⟩
theorem ob257 {W : World} (hG : Facts W) (n : Nat) : GG W (257, S257 n) :=
 goodOf mixed tabOk Tryz.func257 (E257 n) (G257 n) [] ⟨ob92 hG n, ob231 hG n, ob206 hG n, trivial⟩ trivial (lor (rg257 n)) (eq257 n)
theorem ob184 {W : World} (hG : Facts W) (n : Nat) : GG W (184, S184 n) :=
 goodOf mixed tabOk Tryz.func184 (E184 n) (G184 n) [] ⟨ob231 hG n, ob84 hG n, ob88 hG n, ob81 hG n, ob260 hG n, ob261 hG n n, ob257 hG n, ob92 hG n, trivial⟩ trivial (lol 1 (fun i hi => match i, hi with | 0, _ => lpd n (Sspec_l11DrawText_L8 n (spec_l11DrawText_L8 n n)) (spec_l11DrawText_L8 n) (eqspec_l11DrawText_L8 n))) (eq184 n)
theorem rg70 (n : Nat) : RgsAt (E70 n) (bodyOf Tryz.f70) (Q70 n) := ⟨reg7 (exspec_l11Draw_R5 n) [(2, [2, 0]), (6, [11, 77, 77]), (22, [11, 77, 77])], trivial⟩
theorem ob70 {W : World} (hG : Facts W) (n : Nat) : GG W (70, S70 n) :=
 goodOf mixed tabOk Tryz.func70 (E70 n) (G70 n) [] ⟨ob80 hG n, ob90 hG n, ob182 hG n, ob183 hG n, ob184 hG n, trivial⟩ trivial (lor (rg70 n)) (eq70 n)
theorem ob15 {W : World} (hG : Facts W) (n : Nat) : GG W (15, S15 n) :=
 goodOf mixed tabOk Tryz.func15 (E15 n) (G15 n) [] ⟨ob70 hG n, trivial⟩ trivial lo0 (eq15 n)
theorem ob262 {W : World} (hG : Facts W) (n : Nat) : GG W (262, S262 n) :=
 goodOf mixed tabOk Tryz.func262 (E262 n) (G262 n) [] trivial trivial lo0 (eq262 n)
theorem ob285 {W : World} (hG : Facts W) (n : Nat) : GG W (285, S285 n) :=
 goodOf mixed tabOk Tryz.func285 (E285 n) (G285 n) [] trivial trivial lo0 (eq285 n)
theorem ob224 {W : World} (hG : Facts W) (n : Nat) : GG W (224, S224 n) :=
 goodOf mixed tabOk Tryz.func224 (E224 n) (G224 n) [] ⟨ob262 hG n, ob285 hG n, ob255 hG, ob169 hG, trivial⟩ trivial (lol 1 (fun i hi => match i, hi with | 0, _ => lpd n (Simpl_reader_figures_L2 n (impl_reader_figures_L2 n n)) (impl_reader_figures_L2 n) (eqimpl_reader_figures_L2 n))) (eq224 n)
theorem ob110 {W : World} (hG : Facts W) (n : Nat) : GG W (110, S110 n) :=
 goodOf mixed tabOk Tryz.func110 (E110 n) (G110 n) [] trivial trivial lo0 (eq110 n)
theorem ob225 {W : World} (hG : Facts W) (n : Nat) : GG W (225, S225 n) :=
 goodOf mixed tabOk Tryz.func225 (E225 n) (G225 n) [] trivial trivial lo0 (eq225 n)
theorem ob186 {W : World} (hG : Facts W) (n : Nat) : GG W (186, S186 n) :=
 goodOf mixed tabOk Tryz.func186 (E186 n) (G186 n) [] ⟨ob224 hG n, ob110 hG n, ob225 hG n, trivial⟩ trivial lo0 (eq186 n)
theorem ob187 {W : World} (hG : Facts W) (n : Nat) : GG W (187, S187 n) :=
 goodOf mixed tabOk Tryz.func187 (E187 n) (G187 n) [] ⟨ob262 hG n, ob225 hG n, trivial⟩ trivial lo0 (eq187 n)
theorem rg188 (n : Nat) : RgsAt (E188 n) (bodyOf Tryz.f188) (Q188 n) := ⟨regN (eximpl_pattern_put_R1 n), trivial⟩
theorem ob188 {W : World} (hG : Facts W) (n : Nat) : GG W (188, S188 n) :=
 goodOf mixed tabOk Tryz.func188 (E188 n) (G188 n) [] trivial trivial (lor (rg188 n)) (eq188 n)
theorem ob185 {W : World} (hG : Facts W) (n : Nat) : GG W (185, S185 n) :=
 goodOf mixed tabOk Tryz.func185 (E185 n) (G185 n) [] ⟨ob186 hG n, ob188 hG n, ob187 hG n, trivial⟩ trivial lo0 (eq185 n)
theorem ob189 {W : World} (hG : Facts W) (n : Nat) : GG W (189, S189 n) :=
 goodOf mixed tabOk Tryz.func189 (E189 n) (G189 n) [] ⟨ob188 hG n, trivial⟩ trivial lo0 (eq189 n)
theorem ob125 {W : World} (hG : Facts W) (n : Nat) : GG W (125, S125 n) :=
 goodOf mixed tabOk Tryz.func125 (E125 n) (G125 n) [] trivial trivial (lol 1 (fun i hi => match i, hi with | 0, _ => lpd n (Simpl_isOneOf_L2 n (impl_isOneOf_L2 n n)) (impl_isOneOf_L2 n) (eqimpl_isOneOf_L2 n))) (eq125 n)
theorem ob287 {W : World} (hG : Facts W) (n : Nat) : GG W (287, S287 n) :=
 goodOf mixed tabOk Tryz.func287 (E287 n) (G287 n) [] trivial trivial lo0 (eq287 n)
theorem ob288 {W : World} (hG : Facts W) (n : Nat) : GG W (288, S288 n) :=
 goodOf mixed tabOk Tryz.func288 (E288 n) (G288 n) [] ⟨ob225 hG n, trivial⟩ trivial lo0 (eq288 n)
theorem ob286_ {W : World} (hG : Facts W) (n k : Nat) (ih : GG W (228, S228 n k)) : GG W (286, S286 n k) :=
 goodOf mixed tabOk Tryz.func286 (E286 n k) (G286 n k) [] ⟨ih, ob288 hG n, trivial⟩ trivial lo0 (eq286 n k)
theorem ob228 {W : World} (hG : Facts W) (n : Nat) : ∀ k, GG W (228, S228 n k)
 | 0 => ⟨plain_of Tryz.func228 (by kernel_rfl) (by kernel_rfl), fun _ _ _ _ _ _ _ h => by cases h⟩
 | k + 1 =>
  have ih := ob228 hG n k
  goodOf mixed tabOk Tryz.func228 (E228 n k) (G228 n k) [] ⟨ob262 hG n, ob225 hG n, ob185 hG n, ob125 hG n, ob287 hG n, ob286_ hG n k ih, ob189 hG n, ih, ob288 hG n, trivial⟩ trivial lo0 (eq228 n k)
theorem ob286 {W : World} (hG : Facts W) (n k : Nat) : GG W (286, S286 n k) := ob286_ hG n k (ob228 hG n k)
theorem ob128 {W : World} (hG : Facts W) (n : Nat) : GG W (128, S128 n) :=
 goodOf mixed tabOk Tryz.func128 (E128 n) (G128 n) [] ⟨ob225 hG n, ob228 hG n n, trivial⟩ trivial lo0 (eq128 n)
theorem ob71 {W : World} (hG : Facts W) (n : Nat) : GG W (71, S71 n) :=
 goodOf mixed tabOk Tryz.func71 (E71 n) (G71 n) [] ⟨ob128 hG n, trivial⟩ trivial lo0 (eq71 n)
theorem ob16 {W : World} (hG : Facts W) (n : Nat) : GG W (16, S16 n) :=
 goodOf mixed tabOk Tryz.func16 (E16 n) (G16 n) [] ⟨ob71 hG n, trivial⟩ trivial (lol 1 (fun i hi => match i, hi with | 0, _ => lpd n (Simpl_PatLetters_L6 n (impl_PatLetters_L6 n n)) (impl_PatLetters_L6 n) (eqimpl_PatLetters_L6 n))) (eq16 n)
theorem ob19 {W : World} (hG : Facts W) (n : Nat) : GG W (19, S19 n) :=
 goodOf mixed tabOk Tryz.func19 (E19 n) (G19 n) [] ⟨ob72 hG n, trivial⟩ trivial lo0 (eq19 n)
theorem ob17 {W : World} (hG : Facts W) (n : Nat) : GG W (17, S17 n) :=
 goodOf mixed tabOk Tryz.func17 (E17 n) (G17 n) [] ⟨ob19 hG n, trivial⟩ trivial (lol 1 (fun i hi => match i, hi with | 0, _ => lpd n (Sspec_PatLetters_L5 n (spec_PatLetters_L5 n n)) (spec_PatLetters_L5 n) (eqspec_PatLetters_L5 n))) (eq17 n)
theorem ob18 {W : World} (hG : Facts W) (n : Nat) : GG W (18, S18 n) :=
 goodOf mixed tabOk Tryz.func18 (E18 n) (G18 n) [] ⟨ob71 hG n, trivial⟩ trivial lo0 (eq18 n)
theorem ob266 {W : World} (hG : Facts W) (n : Nat) : GG W (266, S266 n) :=
 goodOf mixed tabOk Tryz.func266 (E266 n) (G266 n) [] trivial trivial lo0 (eq266 n)
theorem ob191 {W : World} (hG : Facts W) (n : Nat) : GG W (191, S191 n) :=
 goodOf mixed tabOk Tryz.func191 (E191 n) (G191 n) [] ⟨ob266 hG n, ob110 hG n, trivial⟩ trivial lo0 (eq191 n)
theorem rg73 (n : Nat) : RgsAt (E73 n) (bodyOf Tryz.f73) (Q73 n) := ⟨⟨by kernel_rfl, fun x y hy => all_of (eximpl_PoolOk_R7 n x) (fun v hv => ((show ∀ v ∈ [impl_PoolOk_R7 n x, impl_PoolOk_R7 n x, impl_PoolOk_R7 n x, impl_PoolOk_R7_1 n x, impl_PoolOk_R7_1 n x, impl_PoolOk_R7_1 n x, impl_PoolOk_R7 n x, impl_PoolOk_R7 n x, impl_PoolOk_R7 n x, impl_PoolOk_R7_1 n x, impl_PoolOk_R7_1 n x, impl_PoolOk_R7_1 n x], v = impl_PoolOk_R7 n x from (List.forall_mem_cons.2 ⟨rfl, (List.forall_mem_cons.2 ⟨rfl, (List.forall_mem_cons.2 ⟨rfl, (List.forall_mem_cons.2 ⟨impl_PoolOk_R7_1_eq n x, (List.forall_mem_cons.2 ⟨impl_PoolOk_R7_1_eq n x, (List.forall_mem_cons.2 ⟨impl_PoolOk_R7_1_eq n x, (List.forall_mem_cons.2 ⟨rfl, (List.forall_mem_cons.2 ⟨rfl, (List.forall_mem_cons.2 ⟨rfl, (List.forall_mem_cons.2 ⟨impl_PoolOk_R7_1_eq n x, (List.forall_mem_cons.2 ⟨impl_PoolOk_R7_1_eq n x, (List.forall_mem_cons.2 ⟨impl_PoolOk_R7_1_eq n x, (fun _ h => by cases h)⟩)⟩)⟩)⟩)⟩)⟩)⟩)⟩)⟩)⟩)⟩)⟩)) v hv).trans (show impl_PoolOk_R7 n x = some y from hy))⟩, trivial⟩
theorem ob73 {W : World} (hG : Facts W) (n : Nat) : GG W (73, S73 n) :=
 goodOf mixed tabOk Tryz.func73 (E73 n) (G73 n) [] ⟨ob191 hG n, trivial⟩ trivial (lolr 1 (fun i hi => match i, hi with | 0, _ => lpd n (Simpl_PoolOk_L5 n (impl_PoolOk_L5 n n)) (impl_PoolOk_L5 n) (eqimpl_PoolOk_L5 n)) (rg73 n)) (eq73 n)
theorem ob74 {W : World} (hG : Facts W) (n : Nat) : GG W (74, S74 n) :=
 goodOf mixed tabOk Tryz.func74 (E74 n) (G74 n) [] ⟨ob110 hG n, trivial⟩ trivial lo0 (eq74 n)
theorem ob1074 {W : World} (hG : Facts W) (n : Nat) : GG W (74, S1074 n) :=
 goodOf mixed tabOk Tryz.func74 (E1074 n) (G1074 n) [] ⟨ob110 hG n, trivial⟩ trivial lo0 (eq1074 n)
theorem ob27 {W : World} (hG : Facts W) (n : Nat) : GG W (27, S27 n) :=
 goodOf mixed tabOk Tryz.func27 (E27 n) (G27 n) [] ⟨ob74 hG n, ob73 hG n, trivial⟩ trivial (lol 1 (fun i hi => match i, hi with | 0, _ => lpd n (Simpl_EnvOk_L2 n (impl_EnvOk_L2 n n)) (impl_EnvOk_L2 n) (eqimpl_EnvOk_L2 n))) (eq27 n)
theorem ob75 {W : World} (hG : Facts W) (n : Nat) : GG W (75, S75 n) :=
 goodOf mixed tabOk Tryz.func75 (E75 n) (G75 n) [] ⟨ob192 hG, trivial⟩ trivial lo0 (eq75 n)
theorem ob78 {W : World} (hG : Facts W) (n : Nat) : GG W (78, S78 n) :=
 goodOf mixed tabOk Tryz.func78 (E78 n) (G78 n) [] trivial trivial lo0 (eq78 n)
theorem ob193 {W : World} (hG : Facts W) (n : Nat) : GG W (193, S193 n) :=
 goodOf mixed tabOk Tryz.func193 (E193 n) (G193 n) [] trivial trivial lo0 (eq193 n)
theorem ob82 {W : World} (hG : Facts W) (n : Nat) : ∀ k, GG W (82, S82 n k)
 | 0 => ⟨plain_of Tryz.func82 (by kernel_rfl) (by kernel_rfl), fun _ _ _ _ _ _ _ h => by cases h⟩
 | k + 1 =>
  have ih := ob82 hG n k
  goodOf mixed tabOk Tryz.func82 (E82 n k) (G82 n k) [] ⟨ih, trivial⟩ trivial (lol 1 (fun i hi => match i, hi with | 0, _ => lpd n (Simpl_pattern_has_L3 n (impl_pattern_has_L3 n (impl_pattern_has n k) n)) (impl_pattern_has_L3 n (impl_pattern_has n k)) (fun m x => eqimpl_pattern_has_L3 n m k x))) (eq82 n k)
theorem ob316 {W : World} (hG : Facts W) (n : Nat) : GG W (316, S316 n) :=
 goodOf mixed tabOk Tryz.func316 (E316 n) (G316 n) [] trivial trivial (lol 1 (fun i hi => match i, hi with | 0, _ => lpd n (Sslices_Index___impl_Node_impl_Node__L2 n (slices_Index___impl_Node_impl_Node__L2 n n)) (slices_Index___impl_Node_impl_Node__L2 n) (eqslices_Index___impl_Node_impl_Node__L2 n))) (eq316 n)
theorem ob269 {W : World} (hG : Facts W) (n : Nat) : GG W (269, S269 n) :=
 goodOf mixed tabOk Tryz.func269 (E269 n) (G269 n) [] ⟨ob316 hG n, trivial⟩ trivial lo0 (eq269 n)
theorem ob1269 {W : World} (hG : Facts W) (n : Nat) : GG W (269, S1269 n) :=
 goodOf mixed tabOk Tryz.func269 (E1269 n) (G1269 n) [] ⟨ob316 hG n, trivial⟩ trivial lo0 (eq1269 n)
theorem rg196 (n : Nat) : RgsAt (E196 n) (bodyOf Tryz.f196) (Q196 n) := ⟨regN (eximpl_Pool_add_R11 n), trivial⟩
theorem ob196 {W : World} (hG : Facts W) (n : Nat) : GG W (196, S196 n) :=
 goodOf mixed tabOk Tryz.func196 (E196 n) (G196 n) (H196 n) ⟨ob191 hG n, trivial⟩ ⟨ob1269 hG n, trivial⟩ (lor (rg196 n)) (eq196 n)
theorem ob99 {W : World} (hG : Facts W) (n : Nat) : GG W (99, S99 n) :=
 goodOf mixed tabOk Tryz.func99 (E99 n) (G99 n) [] ⟨ob196 hG n, trivial⟩ trivial lo0 (eq99 n)
theorem ob195 {W : World} (hG : Facts W) (n : Nat) : GG W (195, S195 n) :=
 goodOf mixed tabOk Tryz.func195 (E195 n) (G195 n) (H195 n) ⟨ob196 hG n, trivial⟩ ⟨ob1074 hG n, ob1074 hG n, trivial⟩ lo0 (eq195 n)
theorem rg83 (n k : Nat) : RgsAt (E83 n k) (bodyOf Tryz.f83) (Q83 n k) := ⟨reg6 (eximpl_pattern_make_R19 n k) [], trivial⟩
theorem ob83 {W : World} (hG : Facts W) (n : Nat) : ∀ k, GG W (83, S83 n k)
 | 0 => ⟨plain_of Tryz.func83 (by kernel_rfl) (by kernel_rfl), fun _ _ _ _ _ _ _ h => by cases h⟩
 | k + 1 =>
  have ih := ob83 hG n k
  goodOf mixed tabOk Tryz.func83 (E83 n k) (G83 n k) [] ⟨ob99 hG n, ih, ob195 hG n, ob193 hG n, ob196 hG n, trivial⟩ trivial (lolr 1 (fun i hi => match i, hi with | 0, _ => lpd n (Simpl_pattern_make_L11 n (impl_pattern_make_L11 n (impl_pattern_make n k) n)) (impl_pattern_make_L11 n (impl_pattern_make n k)) (fun m x => eqimpl_pattern_make_L11 n m k x)) (rg83 n k)) (eq83 n k)
theorem rg1083 (n k : Nat) : RgsAt (E1083 n k) (bodyOf Tryz.f83) (Q1083 n k) := ⟨reg6 (eximpl_pattern_make_o_R19 n k) [], trivial⟩
theorem ob1083 {W : World} (hG : Facts W) (n : Nat) : ∀ k, GG W (83, S1083 n k)
 | 0 => ⟨plain_of Tryz.func83 (by kernel_rfl) (by kernel_rfl), fun _ _ _ _ _ _ _ h => by cases h⟩
 | k + 1 =>
  have ih := ob1083 hG n k
  goodOf mixed tabOk Tryz.func83 (E1083 n k) (G1083 n k) (H1083 n k) ⟨ob99 hG n, ob195 hG n, ob193 hG n, ob196 hG n, trivial⟩ ⟨ih, trivial⟩ (lolr 1 (fun i hi => match i, hi with | 0, _ => lpd n (Simpl_pattern_make_o_L11 n (impl_pattern_make_o_L11 n (impl_pattern_make_o n k) n)) (impl_pattern_make_o_L11 n (impl_pattern_make_o n k)) (fun m x => eqimpl_pattern_make_o_L11 n m k x)) (rg1083 n k)) (eq1083 n k)
theorem rg77 (n k : Nat) : RgsAt (E77 n k) (bodyOf Tryz.f77) (Q77 n k) := ⟨reg6 (eximpl_pattern_match_R9 n k) [], reg6 (eximpl_pattern_match_R12 n k) [], trivial⟩
theorem ob77 {W : World} (hG : Facts W) (n : Nat) : ∀ k, GG W (77, S77 n k)
 | 0 => ⟨plain_of Tryz.func77 (by kernel_rfl) (by kernel_rfl), fun _ _ _ _ _ _ _ h => by cases h⟩
 | k + 1 =>
  have ih := ob77 hG n k
  goodOf mixed tabOk Tryz.func77 (E77 n k) (G77 n k) (H77 n k) ⟨ih, ob193 hG n, ob82 hG n n, trivial⟩ ⟨ob1083 hG n n, trivial⟩ (lor (rg77 n k)) (eq77 n k)
theorem ob20 {W : World} (hG : Facts W) (n : Nat) : GG W (20, S20 n) :=
 goodOf mixed tabOk Tryz.func20 (E20 n) (G20 n) [] ⟨ob73 hG n, ob71 hG n, ob75 hG n, ob74 hG n, ob27 hG n, ob76 hG, ob78 hG n, ob77 hG n n, trivial⟩ trivial lo0 (eq20 n)
theorem ob22 {W : World} (hG : Facts W) (n : Nat) : GG W (22, S22 n) :=
 goodOf mixed tabOk Tryz.func22 (E22 n) (G22 n) [] trivial trivial lo0 (eq22 n)
theorem ob3 {W : World} (hG : Facts W) (n : Nat) : GG W (3, S3 n) :=
 goodOf mixed tabOk Tryz.func3 (E3 n) (G3 n) [] ⟨ob14 hG n, ob15 hG n, ob16 hG n, ob17 hG n, ob18 hG n, ob19 hG n, ob20 hG n, ob21 hG, ob22 hG n, trivial⟩ trivial (lol 2 (fun i hi => match i, hi with | 0, _ => lpd n (Slaws_FnLetters_L11 n (laws_FnLetters_L11 n n)) (laws_FnLetters_L11 n) (eqlaws_FnLetters_L11 n) | 1, _ => lpd n (Slaws_FnLetters_L15 n (laws_FnLetters_L15 n n)) (laws_FnLetters_L15 n) (eqlaws_FnLetters_L15 n))) (eq3 n)
end AM
end Go.Proofs.YtelkmjkclmjggaaGreatDoor
