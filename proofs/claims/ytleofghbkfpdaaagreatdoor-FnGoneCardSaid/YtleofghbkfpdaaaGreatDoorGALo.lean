/- Each function that the laws reach obeys its summary. Under: what the rows list of the library's variables. -/
import Derived.Test.YtleofghbkfpdaaaGreatDoorGALd
import Derived.Test.YtleofghbkfpdaaaGreatDoorGW3
import Derived.Test.YtleofghbkfpdaaaGreatDoorGW4
import Derived.Test.YtleofghbkfpdaaaGreatDoorProg
import Derived.Test.YtleofghbkfpdaaaGreatDoorGShelf
import Derived.Test.YtleofghbkfpdaaaGreatDoorGP1
import Derived.Lib.IndexMore
import Derived.Lib.ItoaNum
import Derived.Lib.Split
import Derived.Lib.CountLaws
namespace Go.Proofs.YtleofghbkfpdaaaGreatDoor
namespace AM
open Go
set_option linter.unusedVariables false
abbrev GG (W : World) (p : Nat × FSum) : Prop := Good Tryz.prog (Glob.of W) p
theorem ob10 {W : World} (hG : Facts W) (n : Nat) : GG W (10, S10 n) :=
 goodOf mixed tabOk Tryz.func10 (E10 n) (G10 n) [] trivial trivial lo0 (eq10 n)
theorem ob64 {W : World} (hG : Facts W) (n : Nat) : GG W (64, S64 n) :=
 goodOf mixed tabOk Tryz.func64 (E64 n) (G64 n) [] trivial trivial (lol 1 (fun i hi => match i, hi with | 0, _ => lpd n (Sspec_l1New_L3 n (spec_l1New_L3 n n)) (spec_l1New_L3 n) (eqspec_l1New_L3 n))) (eq64 n)
theorem ob156 {W : World} (hG : Facts W) (n : Nat) : GG W (156, S156 n) :=
 goodOf mixed tabOk Tryz.func156 (E156 n) (G156 n) [] trivial trivial lo0 (eq156 n)
theorem ob68 {W : World} (hG : Facts W) (n : Nat) : GG W (68, S68 n) :=
 goodOf mixed tabOk Tryz.func68 (E68 n) (G68 n) [] ⟨ob156 hG n, trivial⟩ trivial lo0 (eq68 n)
theorem ob67 {W : World} (hG : Facts W) (n : Nat) : GG W (67, S67 n) :=
 goodOf mixed tabOk Tryz.func67 (E67 n) (G67 n) [] ⟨ob68 hG n, trivial⟩ trivial lo0 (eq67 n)
theorem ob138 {W : World} (hG : Facts W) (n : Nat) : GG W (138, S138 n) :=
 goodOf mixed tabOk Tryz.func138 (E138 n) (G138 n) [] ⟨ob68 hG n, trivial⟩ trivial lo0 (eq138 n)
theorem ob214 {W : World} (hG : Facts W) (n : Nat) : GG W (214, S214 n) :=
 goodOf mixed tabOk Tryz.func214 (E214 n) (G214 n) [] ⟨ob67 hG n, ob68 hG n, trivial⟩ trivial lo0 (eq214 n)
theorem ob193 {W : World} (hG : Facts W) (n : Nat) : GG W (193, S193 n) :=
 goodOf mixed tabOk Tryz.func193 (E193 n) (G193 n) [] trivial trivial lo0 (eq193 n)
theorem ob155 {W : World} (hG : Facts W) (n : Nat) : GG W (155, S155 n) :=
 goodOf mixed tabOk Tryz.func155 (E155 n) (G155 n) [] ⟨ob138 hG n, ob67 hG n, ob214 hG n, ob193 hG n, trivial⟩ trivial lo0 (eq155 n)
theorem ob144 {W : World} (hG : Facts W) (n : Nat) : GG W (144, S144 n) :=
 goodOf mixed tabOk Tryz.func144 (E144 n) (G144 n) [] trivial trivial (lol 1 (fun i hi => match i, hi with | 0, _ => lpd n (Sspec_l1Find_L2 n (spec_l1Find_L2 n n)) (spec_l1Find_L2 n) (eqspec_l1Find_L2 n))) (eq144 n)
theorem ob152 {W : World} (hG : Facts W) (n : Nat) : GG W (152, S152 n) :=
 goodOf mixed tabOk Tryz.func152 (E152 n) (G152 n) [] trivial trivial lo0 (eq152 n)
theorem ob143 {W : World} (hG : Facts W) (n : Nat) : GG W (143, S143 n) :=
 goodOf mixed tabOk Tryz.func143 (E143 n) (G143 n) [] ⟨ob193 hG n, ob152 hG n, trivial⟩ trivial lo0 (eq143 n)
theorem ob55 {W : World} (hG : Facts W) (n : Nat) : GG W (55, S55 n) :=
 goodOf mixed tabOk Tryz.func55 (E55 n) (G55 n) [] trivial trivial lo0 (eq55 n)
theorem rg84 (n : Nat) : RgsAt (E84 n) (bodyOf Tryz.f84) (Q84 n) := ⟨reg6 (exspec_l1Add_R10 n) [(4, 4)], trivial⟩
theorem ob84 {W : World} (hG : Facts W) (n : Nat) : GG W (84, S84 n) :=
 goodOf mixed tabOk Tryz.func84 (E84 n) (G84 n) [] ⟨ob144 hG n, ob143 hG n, ob55 hG n, trivial⟩ trivial (lor (rg84 n)) (eq84 n)
theorem rg135 (n : Nat) : RgsAt (E135 n) (bodyOf Tryz.f135) (Q135 n) := ⟨reg7 (exspec_l1DrawPool_R6 n) [(0, [0]), (5, [5, 0]), (20, [0]), (21, [5, 0])], trivial⟩
theorem ob135 {W : World} (hG : Facts W) (n : Nat) : GG W (135, S135 n) :=
 goodOf mixed tabOk Tryz.func135 (E135 n) (G135 n) [] ⟨ob68 hG n, ob155 hG n, ob84 hG n, trivial⟩ trivial (lolr 1 (fun i hi => match i, hi with | 0, _ => lpd n (Sspec_l1DrawPool_L4 n (spec_l1DrawPool_L4 n n)) (spec_l1DrawPool_L4 n) (eqspec_l1DrawPool_L4 n)) (rg135 n)) (eq135 n)
theorem ob54 {W : World} (hG : Facts W) (n : Nat) : GG W (54, S54 n) :=
 goodOf mixed tabOk Tryz.func54 (E54 n) (G54 n) [] ⟨ob143 hG n, ob144 hG n, trivial⟩ trivial (lol 1 (fun i hi => match i, hi with | 0, _ => lpd n (Sspec_PoolOk_L4 n (spec_PoolOk_L4 n n)) (spec_PoolOk_L4 n) (eqspec_PoolOk_L4 n))) (eq54 n)
theorem ob159 {W : World} (hG : Facts W) (n : Nat) : GG W (159, S159 n) :=
 goodOf mixed tabOk Tryz.func159 (E159 n) (G159 n) [] trivial trivial lo0 (eq159 n)
theorem ob77 {W : World} (hG : Facts W) (n : Nat) : GG W (77, S77 n) :=
 goodOf mixed tabOk Tryz.func77 (E77 n) (G77 n) [] ⟨ob159 hG n, trivial⟩ trivial lo0 (eq77 n)
theorem ob78 {W : World} (hG : Facts W) (n : Nat) : GG W (78, S78 n) :=
 goodOf mixed tabOk Tryz.func78 (E78 n) (G78 n) [] ⟨ob152 hG n, trivial⟩ trivial lo0 (eq78 n)
theorem ob79 {W : World} (hG : Facts W) (n : Nat) : GG W (79, S79 n) :=
 goodOf mixed tabOk Tryz.func79 (E79 n) (G79 n) [] trivial trivial (lol 1 (fun i hi => match i, hi with | 0, _ => lpd n (Sspec_EnvNew_L3 n (spec_EnvNew_L3 n n)) (spec_EnvNew_L3 n) (eqspec_EnvNew_L3 n))) (eq79 n)
theorem ob80 {W : World} (hG : Facts W) (n : Nat) : GG W (80, S80 n) :=
 goodOf mixed tabOk Tryz.func80 (E80 n) (G80 n) [] ⟨ob78 hG n, trivial⟩ trivial lo0 (eq80 n)
theorem ob160 {W : World} (hG : Facts W) (n : Nat) : GG W (160, S160 n) :=
 goodOf mixed tabOk Tryz.func160 (E160 n) (G160 n) [] trivial trivial lo0 (eq160 n)
theorem ob161 {W : World} (hG : Facts W) (n : Nat) : GG W (161, S161 n) :=
 goodOf mixed tabOk Tryz.func161 (E161 n) (G161 n) [] trivial trivial lo0 (eq161 n)
theorem ob81 {W : World} (hG : Facts W) (n : Nat) : GG W (81, S81 n) :=
 goodOf mixed tabOk Tryz.func81 (E81 n) (G81 n) [] ⟨ob78 hG n, ob160 hG n, ob161 hG n, trivial⟩ trivial lo0 (eq81 n)
theorem ob82 {W : World} (hG : Facts W) (n : Nat) : GG W (82, S82 n) :=
 goodOf mixed tabOk Tryz.func82 (E82 n) (G82 n) [] ⟨ob78 hG n, trivial⟩ trivial lo0 (eq82 n)
theorem ob83 {W : World} (hG : Facts W) (n : Nat) : GG W (83, S83 n) :=
 goodOf mixed tabOk Tryz.func83 (E83 n) (G83 n) [] ⟨ob84 hG n, trivial⟩ trivial lo0 (eq83 n)
theorem rg20 (n : Nat) : RgsAt (E20 n) (bodyOf Tryz.f20) (Q20 n) := ⟨reg6 (exspec_InstNew_R12 n) [(10, 18)], reg6 (exspec_InstNew_R19 n) [(3, 10), (4, 11)], trivial⟩
theorem ob20 {W : World} (hG : Facts W) (n : Nat) : GG W (20, S20 n) :=
 goodOf mixed tabOk Tryz.func20 (E20 n) (G20 n) [] ⟨ob54 hG n, ob77 hG n, ob55 hG n, ob78 hG n, ob79 hG n, ob80 hG n, ob81 hG n, ob82 hG n, ob83 hG n, ob84 hG n, trivial⟩ trivial (lolr 1 (fun i hi => match i, hi with | 0, _ => lpd n (Sspec_InstNew_L10 n (spec_InstNew_L10 n n)) (spec_InstNew_L10 n) (eqspec_InstNew_L10 n)) (rg20 n)) (eq20 n)
theorem ob136 {W : World} (hG : Facts W) (n : Nat) : GG W (136, S136 n) :=
 goodOf mixed tabOk Tryz.func136 (E136 n) (G136 n) [] ⟨ob67 hG n, ob138 hG n, ob161 hG n, ob214 hG n, trivial⟩ trivial lo0 (eq136 n)
theorem ob145 {W : World} (hG : Facts W) (n : Nat) : GG W (145, S145 n) :=
 goodOf mixed tabOk Tryz.func145 (E145 n) (G145 n) [] trivial trivial lo0 (eq145 n)
theorem ob295 {W : World} (hG : Facts W) (n : Nat) : GG W (295, S295 n) :=
 goodOf mixed tabOk Tryz.func295 (E295 n) (G295 n) [] trivial trivial lo0 (eq295 n)
theorem ob259 {W : World} (hG : Facts W) (n : Nat) : GG W (259, S259 n) :=
 goodOf mixed tabOk Tryz.func259 (E259 n) (G259 n) [] ⟨ob295 hG n, trivial⟩ trivial (lol 1 (fun i hi => match i, hi with | 0, _ => lpd n (Sspec_l12Act_L2 n (spec_l12Act_L2 n n)) (spec_l12Act_L2 n) (eqspec_l12Act_L2 n))) (eq259 n)
theorem ob205 {W : World} (hG : Facts W) (n : Nat) : GG W (205, S205 n) :=
 goodOf mixed tabOk Tryz.func205 (E205 n) (G205 n) [] trivial trivial (lol 1 (fun i hi => match i, hi with | 0, _ => lpd n (Sspec_l4Name_L3 n (spec_l4Name_L3 n n)) (spec_l4Name_L3 n) (eqspec_l4Name_L3 n))) (eq205 n)
theorem ob254 {W : World} (hG : Facts W) (n : Nat) : GG W (254, S254 n) :=
 goodOf mixed tabOk Tryz.func254 (E254 n) (G254 n) [] trivial trivial lo0 (eq254 n)
theorem ob210 {W : World} (hG : Facts W) (n : Nat) : GG W (210, S210 n) :=
 goodOf mixed tabOk Tryz.func210 (E210 n) (G210 n) [] trivial trivial lo0 (eq210 n)
theorem ob220 {W : World} (hG : Facts W) (n : Nat) : GG W (220, S220 n) :=
 goodOf mixed tabOk Tryz.func220 (E220 n) (G220 n) [] ⟨ob193 hG n, trivial⟩ trivial lo0 (eq220 n)
theorem ob261_ {W : World} (hG : Facts W) (n k : Nat) (ih : GG W (219, S219 n k)) : GG W (261, S261 n k) :=
 goodOf mixed tabOk Tryz.func261 (E261 n k) (G261 n k) [] ⟨ob254 hG n, ih, trivial⟩ trivial lo0 (eq261 n k)
theorem ob219 {W : World} (hG : Facts W) (n : Nat) : ∀ k, GG W (219, S219 n k)
 | 0 => ⟨plain_of Tryz.func219 (by kernel_rfl) (by kernel_rfl), fun _ _ _ _ _ _ _ h => by cases h⟩
 | k + 1 =>
  have ih := ob219 hG n k
  goodOf mixed tabOk Tryz.func219 (E219 n k) (G219 n k) [] ⟨ob220 hG n, ob205 hG n, ob261_ hG n k ih, ob210 hG n, ih, trivial⟩ trivial lo0 (eq219 n k)
theorem ob261 {W : World} (hG : Facts W) (n k : Nat) : GG W (261, S261 n k) := ob261_ hG n k (ob219 hG n k)
theorem ob148 {W : World} (hG : Facts W) (n : Nat) : GG W (148, S148 n) :=
 goodOf mixed tabOk Tryz.func148 (E148 n) (G148 n) [] ⟨ob219 hG n n, trivial⟩ trivial lo0 (eq148 n)
theorem ob296 {W : World} (hG : Facts W) (n : Nat) : GG W (296, S296 n) :=
 goodOf mixed tabOk Tryz.func296 (E296 n) (G296 n) [] ⟨ob148 hG n, trivial⟩ trivial lo0 (eq296 n)
theorem ob260 {W : World} (hG : Facts W) (n : Nat) : GG W (260, S260 n) :=
 goodOf mixed tabOk Tryz.func260 (E260 n) (G260 n) [] ⟨ob152 hG n, ob296 hG n, trivial⟩ trivial (lol 1 (fun i hi => match i, hi with | 0, _ => lpd n (Sspec_RoleOk_L5 n (spec_RoleOk_L5 n n)) (spec_RoleOk_L5 n) (eqspec_RoleOk_L5 n))) (eq260 n)
theorem ob218 {W : World} (hG : Facts W) (n : Nat) : GG W (218, S218 n) :=
 goodOf mixed tabOk Tryz.func218 (E218 n) (G218 n) [] ⟨ob259 hG n, ob260 hG n, trivial⟩ trivial (lol 1 (fun i hi => match i, hi with | 0, _ => lpd n (Sspec_RoleParse_L4 n (spec_RoleParse_L4 n n)) (spec_RoleParse_L4 n) (eqspec_RoleParse_L4 n))) (eq218 n)
theorem ob146 {W : World} (hG : Facts W) (n : Nat) : GG W (146, S146 n) :=
 goodOf mixed tabOk Tryz.func146 (E146 n) (G146 n) [] ⟨ob159 hG n, ob218 hG n, trivial⟩ trivial lo0 (eq146 n)
theorem ob147 {W : World} (hG : Facts W) (n : Nat) : GG W (147, S147 n) :=
 goodOf mixed tabOk Tryz.func147 (E147 n) (G147 n) [] ⟨ob152 hG n, trivial⟩ trivial lo0 (eq147 n)
theorem ob151 {W : World} (hG : Facts W) (n : Nat) : GG W (151, S151 n) :=
 goodOf mixed tabOk Tryz.func151 (E151 n) (G151 n) [] ⟨ob152 hG n, trivial⟩ trivial lo0 (eq151 n)
theorem ob221 {W : World} (hG : Facts W) (n : Nat) : GG W (221, S221 n) :=
 goodOf mixed tabOk Tryz.func221 (E221 n) (G221 n) [] ⟨ob151 hG n, ob84 hG n, trivial⟩ trivial lo0 (eq221 n)
theorem rg149 (n k : Nat) : RgsAt (E149 n k) (bodyOf Tryz.f149) (Q149 n k) := ⟨reg6 (exspec_l11Make_R5 n k) [(6, 8)], trivial⟩
theorem ob149 {W : World} (hG : Facts W) (n : Nat) : ∀ k, GG W (149, S149 n k)
 | 0 => ⟨plain_of Tryz.func149 (by kernel_rfl) (by kernel_rfl), fun _ _ _ _ _ _ _ h => by cases h⟩
 | k + 1 =>
  have ih := ob149 hG n k
  goodOf mixed tabOk Tryz.func149 (E149 n k) (G149 n k) [] ⟨ob83 hG n, ih, ob220 hG n, ob84 hG n, ob221 hG n, trivial⟩ trivial (lor (rg149 n k)) (eq149 n k)
theorem rg1149 (n k : Nat) : RgsAt (E1149 n k) (bodyOf Tryz.f149) (Q1149 n k) := ⟨reg6 (exspec_l11Make_o_R5 n k) [(6, 8)], trivial⟩
theorem ob1149 {W : World} (hG : Facts W) (n : Nat) : ∀ k, GG W (149, S1149 n k)
 | 0 => ⟨plain_of Tryz.func149 (by kernel_rfl) (by kernel_rfl), fun _ _ _ _ _ _ _ h => by cases h⟩
 | k + 1 =>
  have ih := ob1149 hG n k
  goodOf mixed tabOk Tryz.func149 (E1149 n k) (G1149 n k) (H1149 n k) ⟨ob83 hG n, ob220 hG n, ob84 hG n, ob221 hG n, trivial⟩ ⟨ih, ih, trivial⟩ (lor (rg1149 n k)) (eq1149 n k)
theorem rg56 (n : Nat) : RgsAt (E56 n) (bodyOf Tryz.f56) (Q56 n) := ⟨reg6 (exspec_l13Go_R12 n) [(4, 6), (5, 7)], reg6 (exspec_l13Go_R14 n) [(7, 14)], reg6 (exspec_l13Go_R20 n) [(4, 6), (5, 7)], reg6 (exspec_l13Go_R29 n) [(4, 6), (5, 7)], trivial⟩
theorem ob56 {W : World} (hG : Facts W) (n : Nat) : GG W (56, S56 n) :=
 goodOf mixed tabOk Tryz.func56 (E56 n) (G56 n) (H56 n) ⟨ob145 hG n, ob146 hG n, ob147 hG n, ob83 hG n, ob148 hG n, trivial⟩ ⟨ob1149 hG n n, trivial⟩ (lolr 1 (fun i hi => match i, hi with | 0, _ => lpd n (Sspec_l13Go_L4 n (spec_l13Go_L4 n n)) (spec_l13Go_L4 n) (eqspec_l13Go_L4 n)) (rg56 n)) (eq56 n)
theorem rg257 (n k : Nat) : RgsAt (E257 n k) (bodyOf Tryz.f257) (Q257 n k) := ⟨reg6 (exspec_l11Match_R6 n k) [(8, 10)], trivial⟩
theorem ob257 {W : World} (hG : Facts W) (n : Nat) : ∀ k, GG W (257, S257 n k)
 | 0 => ⟨plain_of Tryz.func257 (by kernel_rfl) (by kernel_rfl), fun _ _ _ _ _ _ _ h => by cases h⟩
 | k + 1 =>
  have ih := ob257 hG n k
  goodOf mixed tabOk Tryz.func257 (E257 n k) (G257 n k) (H257 n k) ⟨ih, trivial⟩ ⟨ob1149 hG n n, trivial⟩ (lor (rg257 n k)) (eq257 n k)
theorem ob215 {W : World} (hG : Facts W) (n : Nat) : GG W (215, S215 n) :=
 goodOf mixed tabOk Tryz.func215 (E215 n) (G215 n) [] ⟨ob257 hG n n, trivial⟩ trivial lo0 (eq215 n)
theorem rg137 (n : Nat) : RgsAt (E137 n) (bodyOf Tryz.f137) (Q137 n) := ⟨reg6 (exspec_l13Take_R2 n) [(2, 6), (3, 7)], reg6 (exspec_l13Take_R3 n) [], reg6 (exspec_l13Take_R5 n) [(2, 6), (3, 7)], reg6 (exspec_l13Take_R9 n) [(2, 6), (3, 7)], reg6 (exspec_l13Take_R12 n) [(2, 6), (3, 7)], trivial⟩
theorem ob137 {W : World} (hG : Facts W) (n : Nat) : GG W (137, S137 n) :=
 goodOf mixed tabOk Tryz.func137 (E137 n) (G137 n) [] ⟨ob151 hG n, ob146 hG n, ob148 hG n, ob215 hG n, trivial⟩ trivial (lor (rg137 n)) (eq137 n)
theorem rg139 (n : Nat) : RgsAt (E139 n) (bodyOf Tryz.f139) (Q139 n) := ⟨reg7 (exspec_l11DrawEnv_R5 n) [(0, [0]), (21, [0]), (23, [0])], trivial⟩
theorem ob139 {W : World} (hG : Facts W) (n : Nat) : GG W (139, S139 n) :=
 goodOf mixed tabOk Tryz.func139 (E139 n) (G139 n) [] ⟨ob79 hG n, ob68 hG n, ob214 hG n, ob138 hG n, trivial⟩ trivial (lolr 1 (fun i hi => match i, hi with | 0, _ => lpd n (Sspec_l11DrawEnv_L3 n (spec_l11DrawEnv_L3 n n)) (spec_l11DrawEnv_L3 n) (eqspec_l11DrawEnv_L3 n)) (rg139 n)) (eq139 n)
theorem rg49 (n : Nat) : RgsAt (E49 n) (bodyOf Tryz.f49) (Q49 n) := ⟨reg6 (exspec_l13Draw_R13 n) [(3, 7), (4, 13)], reg6 (exspec_l13Draw_R15 n) [(3, 7), (4, 11)], reg7 (exspec_l13Draw_R21 n) [(7, [7, 0]), (13, [13, 0])], reg6 (exspec_l13Draw_R41 n) [(4, 2), (5, 3)], trivial⟩
theorem ob49 {W : World} (hG : Facts W) (n : Nat) : GG W (49, S49 n) :=
 goodOf mixed tabOk Tryz.func49 (E49 n) (G49 n) [] ⟨ob64 hG n, ob135 hG n, ob68 hG n, ob20 hG n, ob136 hG n, ob56 hG n, ob137 hG n, ob67 hG n, ob138 hG n, ob139 hG n, trivial⟩ trivial (lolr 1 (fun i hi => match i, hi with | 0, _ => lpd n (Sspec_l13Draw_L10 n (spec_l13Draw_L10 n n)) (spec_l13Draw_L10 n) (eqspec_l13Draw_L10 n)) (rg49 n)) (eq49 n)
theorem rg11 (n : Nat) : RgsAt (E11 n) (bodyOf Tryz.f11) (Q11 n) := ⟨reg6 (exspec_DrawInstGo_R2 n) [(3, 2), (4, 3)], trivial⟩
theorem ob11 {W : World} (hG : Facts W) (n : Nat) : GG W (11, S11 n) :=
 goodOf mixed tabOk Tryz.func11 (E11 n) (G11 n) [] ⟨ob49 hG n, trivial⟩ trivial (lor (rg11 n)) (eq11 n)
theorem ob63 {W : World} (hG : Facts W) (n : Nat) : GG W (63, S63 n) :=
 goodOf mixed tabOk Tryz.func63 (E63 n) (G63 n) [] trivial trivial lo0 (eq63 n)
theorem ob70 {W : World} (hG : Facts W) (n : Nat) : GG W (70, S70 n) :=
 goodOf mixed tabOk Tryz.func70 (E70 n) (G70 n) [] ⟨ob63 hG n, trivial⟩ trivial lo0 (eq70 n)
theorem ob264 {W : World} (hG : Facts W) (n : Nat) : GG W (264, S264 n) :=
 goodOf mixed tabOk Tryz.func264 (E264 n) (G264 n) [] trivial trivial lo0 (eq264 n)
theorem ob323 {W : World} (hG : Facts W) (n : Nat) : GG W (323, S323 n) :=
 goodOf mixed tabOk Tryz.func323 (E323 n) (G323 n) [] trivial trivial lo0 (eq323 n)
theorem ob298 {W : World} (hG : Facts W) (n : Nat) : GG W (298, S298 n) :=
 goodOf mixed tabOk Tryz.func298 (E298 n) (G298 n) [] ⟨ob323 hG n, trivial⟩ trivial lo0 (eq298 n)
theorem ob263 {W : World} (hG : Facts W) (n : Nat) : GG W (263, S263 n) :=
 goodOf mixed tabOk Tryz.func263 (E263 n) (G263 n) [] ⟨ob298 hG n, trivial⟩ trivial lo0 (eq263 n)
theorem ob223 {W : World} (hG : Facts W) (n : Nat) : GG W (223, S223 n) :=
 goodOf mixed tabOk Tryz.func223 (E223 n) (G223 n) [] ⟨ob264 hG n, ob263 hG n, trivial⟩ trivial (lol 1 (fun i hi => match i, hi with | 0, _ => lpd n (Simpl_actOf_L2 n (impl_actOf_L2 n n)) (impl_actOf_L2 n) (eqimpl_actOf_L2 n))) (eq223 n)
theorem ob249 {W : World} (hG : Facts W) (n : Nat) : GG W (249, S249 n) :=
 goodOf mixed tabOk Tryz.func249 (E249 n) (G249 n) [] trivial trivial lo0 (eq249 n)
theorem ob248 {W : World} (hG : Facts W) (n : Nat) : GG W (248, S248 n) :=
 goodOf mixed tabOk Tryz.func248 (E248 n) (G248 n) [] trivial trivial lo0 (eq248 n)
theorem ob194 {W : World} (hG : Facts W) (n : Nat) : GG W (194, S194 n) :=
 goodOf mixed tabOk Tryz.func194 (E194 n) (G194 n) [] ⟨ob249 hG n, ob248 hG n, ob250 hG, ob185 hG, trivial⟩ trivial (lol 1 (fun i hi => match i, hi with | 0, _ => lpd n (Simpl_reader_figures_L2 n (impl_reader_figures_L2 n n)) (impl_reader_figures_L2 n) (eqimpl_reader_figures_L2 n))) (eq194 n)
theorem ob195 {W : World} (hG : Facts W) (n : Nat) : GG W (195, S195 n) :=
 goodOf mixed tabOk Tryz.func195 (E195 n) (G195 n) [] trivial trivial lo0 (eq195 n)
theorem ob196 {W : World} (hG : Facts W) (n : Nat) : GG W (196, S196 n) :=
 goodOf mixed tabOk Tryz.func196 (E196 n) (G196 n) [] ⟨ob194 hG n, ob63 hG n, ob195 hG n, trivial⟩ trivial lo0 (eq196 n)
theorem ob316 {W : World} (hG : Facts W) (n : Nat) : GG W (316, S316 n) :=
 goodOf mixed tabOk Tryz.func316 (E316 n) (G316 n) [] ⟨ob249 hG n, ob195 hG n, trivial⟩ trivial lo0 (eq316 n)
theorem rg317 (n : Nat) : RgsAt (E317 n) (bodyOf Tryz.f317) (Q317 n) := ⟨regN (eximpl_pattern_put_R1 n), trivial⟩
theorem ob317 {W : World} (hG : Facts W) (n : Nat) : GG W (317, S317 n) :=
 goodOf mixed tabOk Tryz.func317 (E317 n) (G317 n) [] trivial trivial (lor (rg317 n)) (eq317 n)
theorem ob315 {W : World} (hG : Facts W) (n : Nat) : GG W (315, S315 n) :=
 goodOf mixed tabOk Tryz.func315 (E315 n) (G315 n) [] ⟨ob196 hG n, ob317 hG n, ob316 hG n, trivial⟩ trivial lo0 (eq315 n)
theorem ob318 {W : World} (hG : Facts W) (n : Nat) : GG W (318, S318 n) :=
 goodOf mixed tabOk Tryz.func318 (E318 n) (G318 n) [] ⟨ob317 hG n, trivial⟩ trivial lo0 (eq318 n)
theorem ob125 {W : World} (hG : Facts W) (n : Nat) : GG W (125, S125 n) :=
 goodOf mixed tabOk Tryz.func125 (E125 n) (G125 n) [] trivial trivial (lol 1 (fun i hi => match i, hi with | 0, _ => lpd n (Simpl_isOneOf_L2 n (impl_isOneOf_L2 n n)) (impl_isOneOf_L2 n) (eqimpl_isOneOf_L2 n))) (eq125 n)
theorem ob252 {W : World} (hG : Facts W) (n : Nat) : GG W (252, S252 n) :=
 goodOf mixed tabOk Tryz.func252 (E252 n) (G252 n) [] trivial trivial lo0 (eq252 n)
theorem ob253 {W : World} (hG : Facts W) (n : Nat) : GG W (253, S253 n) :=
 goodOf mixed tabOk Tryz.func253 (E253 n) (G253 n) [] ⟨ob195 hG n, trivial⟩ trivial lo0 (eq253 n)
theorem ob251_ {W : World} (hG : Facts W) (n k : Nat) (ih : GG W (201, S201 n k)) : GG W (251, S251 n k) :=
 goodOf mixed tabOk Tryz.func251 (E251 n k) (G251 n k) [] ⟨ih, ob253 hG n, trivial⟩ trivial lo0 (eq251 n k)
theorem ob201 {W : World} (hG : Facts W) (n : Nat) : ∀ k, GG W (201, S201 n k)
 | 0 => ⟨plain_of Tryz.func201 (by kernel_rfl) (by kernel_rfl), fun _ _ _ _ _ _ _ h => by cases h⟩
 | k + 1 =>
  have ih := ob201 hG n k
  goodOf mixed tabOk Tryz.func201 (E201 n k) (G201 n k) [] ⟨ob249 hG n, ob195 hG n, ob315 hG n, ob125 hG n, ob252 hG n, ob251_ hG n k ih, ob318 hG n, ih, ob253 hG n, trivial⟩ trivial lo0 (eq201 n k)
theorem ob251 {W : World} (hG : Facts W) (n k : Nat) : GG W (251, S251 n k) := ob251_ hG n k (ob201 hG n k)
theorem ob128 {W : World} (hG : Facts W) (n : Nat) : GG W (128, S128 n) :=
 goodOf mixed tabOk Tryz.func128 (E128 n) (G128 n) [] ⟨ob195 hG n, ob201 hG n n, trivial⟩ trivial lo0 (eq128 n)
theorem ob291 {W : World} (hG : Facts W) (n : Nat) : GG W (291, S291 n) :=
 goodOf mixed tabOk Tryz.func291 (E291 n) (G291 n) [] ⟨ob128 hG n, trivial⟩ trivial lo0 (eq291 n)
theorem ob293 {W : World} (hG : Facts W) (n : Nat) : GG W (293, S293 n) :=
 goodOf mixed tabOk Tryz.func293 (E293 n) (G293 n) [] trivial trivial lo0 (eq293 n)
theorem ob292 {W : World} (hG : Facts W) (n : Nat) : ∀ k, GG W (292, S292 n k)
 | 0 => ⟨plain_of Tryz.func292 (by kernel_rfl) (by kernel_rfl), fun _ _ _ _ _ _ _ h => by cases h⟩
 | k + 1 =>
  have ih := ob292 hG n k
  goodOf mixed tabOk Tryz.func292 (E292 n k) (G292 n k) [] ⟨ih, trivial⟩ trivial (lol 1 (fun i hi => match i, hi with | 0, _ => lpd n (Simpl_pattern_has_L3 n (impl_pattern_has_L3 n (impl_pattern_has n k) n)) (impl_pattern_has_L3 n (impl_pattern_has n k)) (fun m x => eqimpl_pattern_has_L3 n m k x))) (eq292 n k)
theorem ob299 {W : World} (hG : Facts W) (n : Nat) : GG W (299, S299 n) :=
 goodOf mixed tabOk Tryz.func299 (E299 n) (G299 n) [] ⟨ob291 hG n, trivial⟩ trivial lo0 (eq299 n)
theorem ob265 {W : World} (hG : Facts W) (n : Nat) : GG W (265, S265 n) :=
 goodOf mixed tabOk Tryz.func265 (E265 n) (G265 n) [] ⟨ob291 hG n, ob293 hG n, ob292 hG n n, ob299 hG n, trivial⟩ trivial lo0 (eq265 n)
theorem ob224 {W : World} (hG : Facts W) (n : Nat) : GG W (224, S224 n) :=
 goodOf mixed tabOk Tryz.func224 (E224 n) (G224 n) [] ⟨ob265 hG n, ob63 hG n, trivial⟩ trivial (lol 1 (fun i hi => match i, hi with | 0, _ => lpd n (Simpl_RoleOk_L2 n (impl_RoleOk_L2 n n)) (impl_RoleOk_L2 n) (eqimpl_RoleOk_L2 n))) (eq224 n)
theorem ob225 {W : World} (hG : Facts W) (n : Nat) : Good Tryz.prog (Glob.of W) (225, S225 n) := rolePrint_good (ob224 hG n) (ob264 hG n)
theorem ob154 {W : World} (hG : Facts W) (n : Nat) : GG W (154, S154 n) :=
 goodOf mixed tabOk Tryz.func154 (E154 n) (G154 n) [] ⟨ob222 hG, ob223 hG n, ob224 hG n, ob225 hG n, trivial⟩ trivial (lol 1 (fun i hi => match i, hi with | 0, _ => lpd n (Simpl_RoleParse_L3 n (impl_RoleParse_L3 n n)) (impl_RoleParse_L3 n) (eqimpl_RoleParse_L3 n))) (eq154 n)
theorem ob60 {W : World} (hG : Facts W) (n : Nat) : GG W (60, S60 n) :=
 goodOf mixed tabOk Tryz.func60 (E60 n) (G60 n) [] ⟨ob70 hG n, ob154 hG n, trivial⟩ trivial lo0 (eq60 n)
theorem ob61 {W : World} (hG : Facts W) (n : Nat) : GG W (61, S61 n) :=
 goodOf mixed tabOk Tryz.func61 (E61 n) (G61 n) [] ⟨ob63 hG n, trivial⟩ trivial lo0 (eq61 n)
theorem ob58 {W : World} (hG : Facts W) (n : Nat) : GG W (58, S58 n) :=
 goodOf mixed tabOk Tryz.func58 (E58 n) (G58 n) [] ⟨ob63 hG n, trivial⟩ trivial lo0 (eq58 n)
theorem ob1058 {W : World} (hG : Facts W) (n : Nat) : GG W (58, S1058 n) :=
 goodOf mixed tabOk Tryz.func58 (E1058 n) (G1058 n) [] ⟨ob63 hG n, trivial⟩ trivial lo0 (eq1058 n)
theorem ob211 {W : World} (hG : Facts W) (n : Nat) : GG W (211, S211 n) :=
 goodOf mixed tabOk Tryz.func211 (E211 n) (G211 n) [] trivial trivial lo0 (eq211 n)
theorem ob133 {W : World} (hG : Facts W) (n : Nat) : GG W (133, S133 n) :=
 goodOf mixed tabOk Tryz.func133 (E133 n) (G133 n) [] ⟨ob211 hG n, ob63 hG n, trivial⟩ trivial lo0 (eq133 n)
theorem rg47 (n : Nat) : RgsAt (E47 n) (bodyOf Tryz.f47) (Q47 n) := ⟨⟨by kernel_rfl, fun x y hy => all_of (eximpl_PoolOk_R7 n x) (fun v hv => ((show ∀ v ∈ [impl_PoolOk_R7 n x, impl_PoolOk_R7 n x, impl_PoolOk_R7 n x, impl_PoolOk_R7_1 n x, impl_PoolOk_R7_1 n x, impl_PoolOk_R7_1 n x, impl_PoolOk_R7 n x, impl_PoolOk_R7 n x, impl_PoolOk_R7 n x, impl_PoolOk_R7_1 n x, impl_PoolOk_R7_1 n x, impl_PoolOk_R7_1 n x], v = impl_PoolOk_R7 n x from (List.forall_mem_cons.2 ⟨rfl, (List.forall_mem_cons.2 ⟨rfl, (List.forall_mem_cons.2 ⟨rfl, (List.forall_mem_cons.2 ⟨impl_PoolOk_R7_1_eq n x, (List.forall_mem_cons.2 ⟨impl_PoolOk_R7_1_eq n x, (List.forall_mem_cons.2 ⟨impl_PoolOk_R7_1_eq n x, (List.forall_mem_cons.2 ⟨rfl, (List.forall_mem_cons.2 ⟨rfl, (List.forall_mem_cons.2 ⟨rfl, (List.forall_mem_cons.2 ⟨impl_PoolOk_R7_1_eq n x, (List.forall_mem_cons.2 ⟨impl_PoolOk_R7_1_eq n x, (List.forall_mem_cons.2 ⟨impl_PoolOk_R7_1_eq n x, (fun _ h => by cases h)⟩)⟩)⟩)⟩)⟩)⟩)⟩)⟩)⟩)⟩)⟩)⟩)) v hv).trans (show impl_PoolOk_R7 n x = some y from hy))⟩, trivial⟩
theorem ob47 {W : World} (hG : Facts W) (n : Nat) : GG W (47, S47 n) :=
 goodOf mixed tabOk Tryz.func47 (E47 n) (G47 n) [] ⟨ob133 hG n, trivial⟩ trivial (lolr 1 (fun i hi => match i, hi with | 0, _ => lpd n (Simpl_PoolOk_L5 n (impl_PoolOk_L5 n n)) (impl_PoolOk_L5 n) (eqimpl_PoolOk_L5 n)) (rg47 n)) (eq47 n)
theorem ob62 {W : World} (hG : Facts W) (n : Nat) : GG W (62, S62 n) :=
 goodOf mixed tabOk Tryz.func62 (E62 n) (G62 n) [] ⟨ob58 hG n, ob47 hG n, trivial⟩ trivial (lol 1 (fun i hi => match i, hi with | 0, _ => lpd n (Simpl_EnvOk_L2 n (impl_EnvOk_L2 n n)) (impl_EnvOk_L2 n) (eqimpl_EnvOk_L2 n))) (eq62 n)
theorem ob17 {W : World} (hG : Facts W) (n : Nat) : GG W (17, S17 n) :=
 goodOf mixed tabOk Tryz.func17 (E17 n) (G17 n) [] ⟨ob60 hG n, ob61 hG n, ob62 hG n, ob63 hG n, ob58 hG n, trivial⟩ trivial lo0 (eq17 n)
theorem ob51 {W : World} (hG : Facts W) (n : Nat) : GG W (51, S51 n) :=
 goodOf mixed tabOk Tryz.func51 (E51 n) (G51 n) [] ⟨ob140 hG, trivial⟩ trivial lo0 (eq51 n)
theorem ob50 {W : World} (hG : Facts W) (n : Nat) : GG W (50, S50 n) :=
 goodOf mixed tabOk Tryz.func50 (E50 n) (G50 n) [] ⟨ob47 hG n, ob51 hG n, trivial⟩ trivial lo0 (eq50 n)
theorem ob52 {W : World} (hG : Facts W) (n : Nat) : GG W (52, S52 n) :=
 goodOf mixed tabOk Tryz.func52 (E52 n) (G52 n) [] ⟨ob141 hG, trivial⟩ trivial lo0 (eq52 n)
theorem ob216 {W : World} (hG : Facts W) (n : Nat) : GG W (216, S216 n) :=
 goodOf mixed tabOk Tryz.func216 (E216 n) (G216 n) [] ⟨ob63 hG n, trivial⟩ trivial lo0 (eq216 n)
theorem ob270 {W : World} (hG : Facts W) (n : Nat) : GG W (270, S270 n) :=
 goodOf mixed tabOk Tryz.func270 (E270 n) (G270 n) [] trivial trivial (lol 1 (fun i hi => match i, hi with | 0, _ => lpd n (Sslices_Index___impl_Node_impl_Node__L2 n (slices_Index___impl_Node_impl_Node__L2 n n)) (slices_Index___impl_Node_impl_Node__L2 n) (eqslices_Index___impl_Node_impl_Node__L2 n))) (eq270 n)
theorem ob227 {W : World} (hG : Facts W) (n : Nat) : GG W (227, S227 n) :=
 goodOf mixed tabOk Tryz.func227 (E227 n) (G227 n) [] ⟨ob270 hG n, trivial⟩ trivial lo0 (eq227 n)
theorem ob1227 {W : World} (hG : Facts W) (n : Nat) : GG W (227, S1227 n) :=
 goodOf mixed tabOk Tryz.func227 (E1227 n) (G1227 n) [] ⟨ob270 hG n, trivial⟩ trivial lo0 (eq1227 n)
theorem rg158 (n : Nat) : RgsAt (E158 n) (bodyOf Tryz.f158) (Q158 n) := ⟨regN (eximpl_Pool_add_R11 n), trivial⟩
theorem ob158 {W : World} (hG : Facts W) (n : Nat) : GG W (158, S158 n) :=
 goodOf mixed tabOk Tryz.func158 (E158 n) (G158 n) (H158 n) ⟨ob133 hG n, trivial⟩ ⟨ob1227 hG n, trivial⟩ (lor (rg158 n)) (eq158 n)
theorem ob75 {W : World} (hG : Facts W) (n : Nat) : GG W (75, S75 n) :=
 goodOf mixed tabOk Tryz.func75 (E75 n) (G75 n) [] ⟨ob158 hG n, trivial⟩ trivial lo0 (eq75 n)
theorem ob199 {W : World} (hG : Facts W) (n : Nat) : GG W (199, S199 n) :=
 goodOf mixed tabOk Tryz.func199 (E199 n) (G199 n) (H199 n) ⟨ob158 hG n, trivial⟩ ⟨ob1058 hG n, ob1058 hG n, trivial⟩ lo0 (eq199 n)
theorem ob200 {W : World} (hG : Facts W) (n : Nat) : GG W (200, S200 n) :=
 goodOf mixed tabOk Tryz.func200 (E200 n) (G200 n) [] trivial trivial lo0 (eq200 n)
theorem rg294 (n k : Nat) : RgsAt (E294 n k) (bodyOf Tryz.f294) (Q294 n k) := ⟨reg6 (eximpl_pattern_make_R19 n k) [], trivial⟩
theorem ob294 {W : World} (hG : Facts W) (n : Nat) : ∀ k, GG W (294, S294 n k)
 | 0 => ⟨plain_of Tryz.func294 (by kernel_rfl) (by kernel_rfl), fun _ _ _ _ _ _ _ h => by cases h⟩
 | k + 1 =>
  have ih := ob294 hG n k
  goodOf mixed tabOk Tryz.func294 (E294 n k) (G294 n k) [] ⟨ob75 hG n, ih, ob199 hG n, ob200 hG n, ob158 hG n, trivial⟩ trivial (lolr 1 (fun i hi => match i, hi with | 0, _ => lpd n (Simpl_pattern_make_L11 n (impl_pattern_make_L11 n (impl_pattern_make n k) n)) (impl_pattern_make_L11 n (impl_pattern_make n k)) (fun m x => eqimpl_pattern_make_L11 n m k x)) (rg294 n k)) (eq294 n k)
theorem rg1294 (n k : Nat) : RgsAt (E1294 n k) (bodyOf Tryz.f294) (Q1294 n k) := ⟨reg6 (eximpl_pattern_make_o_R19 n k) [], trivial⟩
theorem ob1294 {W : World} (hG : Facts W) (n : Nat) : ∀ k, GG W (294, S1294 n k)
 | 0 => ⟨plain_of Tryz.func294 (by kernel_rfl) (by kernel_rfl), fun _ _ _ _ _ _ _ h => by cases h⟩
 | k + 1 =>
  have ih := ob1294 hG n k
  goodOf mixed tabOk Tryz.func294 (E1294 n k) (G1294 n k) (H1294 n k) ⟨ob75 hG n, ob199 hG n, ob200 hG n, ob158 hG n, trivial⟩ ⟨ih, trivial⟩ (lolr 1 (fun i hi => match i, hi with | 0, _ => lpd n (Simpl_pattern_make_o_L11 n (impl_pattern_make_o_L11 n (impl_pattern_make_o n k) n)) (impl_pattern_make_o_L11 n (impl_pattern_make_o n k)) (fun m x => eqimpl_pattern_make_o_L11 n m k x)) (rg1294 n k)) (eq1294 n k)
theorem ob258 {W : World} (hG : Facts W) (n : Nat) : GG W (258, S258 n) :=
 goodOf mixed tabOk Tryz.func258 (E258 n) (G258 n) [] ⟨ob47 hG n, ob291 hG n, ob51 hG n, ob62 hG n, ob293 hG n, ob292 hG n n, ob294 hG n n, trivial⟩ trivial lo0 (eq258 n)
theorem ob1258 {W : World} (hG : Facts W) (n : Nat) : GG W (258, S1258 n) :=
 goodOf mixed tabOk Tryz.func258 (E1258 n) (G1258 n) [] ⟨ob47 hG n, ob291 hG n, ob51 hG n, ob62 hG n, ob293 hG n, ob292 hG n n, ob294 hG n n, trivial⟩ trivial lo0 (eq1258 n)
theorem ob217 {W : World} (hG : Facts W) (n : Nat) : GG W (217, S217 n) :=
 goodOf mixed tabOk Tryz.func217 (E217 n) (G217 n) [] ⟨ob258 hG n, trivial⟩ trivial lo0 (eq217 n)
theorem ob142 {W : World} (hG : Facts W) (n : Nat) : GG W (142, S142 n) :=
 goodOf mixed tabOk Tryz.func142 (E142 n) (G142 n) [] ⟨ob216 hG n, ob75 hG n, ob217 hG n, trivial⟩ trivial lo0 (eq142 n)
theorem ob53 {W : World} (hG : Facts W) (n : Nat) : GG W (53, S53 n) :=
 goodOf mixed tabOk Tryz.func53 (E53 n) (G53 n) [] ⟨ob60 hG n, ob142 hG n, trivial⟩ trivial (lol 1 (fun i hi => match i, hi with | 0, _ => lpd n (Simpl_Inst_goOn_L3 n (impl_Inst_goOn_L3 n n)) (impl_Inst_goOn_L3 n) (eqimpl_Inst_goOn_L3 n))) (eq53 n)
theorem rg12 (n : Nat) : RgsAt (E12 n) (bodyOf Tryz.f12) (Q12 n) := ⟨reg6 (eximpl_InstGo_R3 n) [(6, 10)], reg6 (eximpl_InstGo_R5 n) [(4, 6), (5, 7)], trivial⟩
theorem ob12 {W : World} (hG : Facts W) (n : Nat) : GG W (12, S12 n) :=
 goodOf mixed tabOk Tryz.func12 (E12 n) (G12 n) [] ⟨ob17 hG n, ob50 hG n, ob51 hG n, ob52 hG n, ob53 hG n, trivial⟩ trivial (lor (rg12 n)) (eq12 n)
theorem ob150 {W : World} (hG : Facts W) (n : Nat) : GG W (150, S150 n) :=
 goodOf mixed tabOk Tryz.func150 (E150 n) (G150 n) [] ⟨ob151 hG n, trivial⟩ trivial (lol 1 (fun i hi => match i, hi with | 0, _ => lpd n (Sspec_l11Env_L4 n (spec_l11Env_L4 n n)) (spec_l11Env_L4 n) (eqspec_l11Env_L4 n))) (eq150 n)
theorem ob57 {W : World} (hG : Facts W) (n : Nat) : GG W (57, S57 n) :=
 goodOf mixed tabOk Tryz.func57 (E57 n) (G57 n) [] ⟨ob77 hG n, ob78 hG n, ob150 hG n, ob146 hG n, ob151 hG n, ob152 hG n, trivial⟩ trivial lo0 (eq57 n)
theorem ob15 {W : World} (hG : Facts W) (n : Nat) : GG W (15, S15 n) :=
 goodOf mixed tabOk Tryz.func15 (E15 n) (G15 n) [] ⟨ob54 hG n, ob57 hG n, trivial⟩ trivial lo0 (eq15 n)
theorem rg13 (n : Nat) : RgsAt (E13 n) (bodyOf Tryz.f13) (Q13 n) := ⟨reg6 (exspec_InstGo_R7 n) [(5, 6), (6, 7)], trivial⟩
theorem ob13 {W : World} (hG : Facts W) (n : Nat) : GG W (13, S13 n) :=
 goodOf mixed tabOk Tryz.func13 (E13 n) (G13 n) [] ⟨ob15 hG n, ob54 hG n, ob55 hG n, ob56 hG n, trivial⟩ trivial (lor (rg13 n)) (eq13 n)
theorem ob14 {W : World} (hG : Facts W) (n : Nat) : GG W (14, S14 n) :=
 goodOf mixed tabOk Tryz.func14 (E14 n) (G14 n) [] trivial trivial (lol 1 (fun i hi => match i, hi with | 0, _ => lpd n (Slaws_sameInts_L4 n (laws_sameInts_L4 n n)) (laws_sameInts_L4 n) (eqlaws_sameInts_L4 n))) (eq14 n)
theorem ob153 {W : World} (hG : Facts W) (n : Nat) : GG W (153, S153 n) :=
 goodOf mixed tabOk Tryz.func153 (E153 n) (G153 n) [] ⟨ob211 hG n, trivial⟩ trivial lo0 (eq153 n)
theorem ob59 {W : World} (hG : Facts W) (n : Nat) : GG W (59, S59 n) :=
 goodOf mixed tabOk Tryz.func59 (E59 n) (G59 n) [] ⟨ob153 hG n, trivial⟩ trivial (lol 2 (fun i hi => match i, hi with | 0, _ => lpd n (Simpl_Pool_size_L3 n (impl_Pool_size_L3 n n)) (impl_Pool_size_L3 n) (eqimpl_Pool_size_L3 n) | 1, _ => lpd n (Simpl_Pool_size_L7 n (impl_Pool_size_L7 n n)) (impl_Pool_size_L7 n) (eqimpl_Pool_size_L7 n))) (eq59 n)
theorem ob16 {W : World} (hG : Facts W) (n : Nat) : GG W (16, S16 n) :=
 goodOf mixed tabOk Tryz.func16 (E16 n) (G16 n) [] ⟨ob58 hG n, ob47 hG n, ob59 hG n, trivial⟩ trivial lo0 (eq16 n)
theorem ob3 {W : World} (hG : Facts W) (n : Nat) : GG W (3, S3 n) :=
 goodOf mixed tabOk Tryz.func3 (E3 n) (G3 n) [] ⟨ob10 hG n, ob11 hG n, ob12 hG n, ob13 hG n, ob14 hG n, ob15 hG n, ob16 hG n, ob17 hG n, trivial⟩ trivial (lol 1 (fun i hi => match i, hi with | 0, _ => lpd n (Slaws_FnGone_L11 n (laws_FnGone_L11 n n)) (laws_FnGone_L11 n) (eqlaws_FnGone_L11 n))) (eq3 n)
end AM
end Go.Proofs.YtleofghbkfpdaaaGreatDoor
