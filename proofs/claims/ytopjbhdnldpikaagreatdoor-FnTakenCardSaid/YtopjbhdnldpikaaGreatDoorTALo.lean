/- Each function that the laws reach obeys its summary. Under: what the rows list of the library's variables. -/
import Derived.Test.YtopjbhdnldpikaaGreatDoorTALd
import Derived.Test.YtopjbhdnldpikaaGreatDoorTW3
import Derived.Test.YtopjbhdnldpikaaGreatDoorTW4
import Derived.Test.YtopjbhdnldpikaaGreatDoorProg
import Derived.Test.YtopjbhdnldpikaaGreatDoorTShelf
import Derived.Test.YtopjbhdnldpikaaGreatDoorTP1
import Derived.Lib.IndexMore
import Derived.Lib.ItoaNum
import Derived.Lib.Split
import Derived.Lib.CountLaws
namespace Go.Proofs.YtopjbhdnldpikaaGreatDoor
namespace AM
open Go
set_option linter.unusedVariables false
abbrev GG (W : World) (p : Nat × FSum) : Prop := Good Tryz.prog (Glob.of W) p
theorem ob28 {W : World} (hG : Facts W) (n : Nat) : GG W (28, S28 n) :=
 goodOf mixed tabOk Tryz.func28 (E28 n) (G28 n) [] trivial trivial lo0 (eq28 n)
theorem ob94 {W : World} (hG : Facts W) (n : Nat) : GG W (94, S94 n) :=
 goodOf mixed tabOk Tryz.func94 (E94 n) (G94 n) [] ⟨ob28 hG n, trivial⟩ trivial lo0 (eq94 n)
theorem ob98 {W : World} (hG : Facts W) (n : Nat) : GG W (98, S98 n) :=
 goodOf mixed tabOk Tryz.func98 (E98 n) (G98 n) [] trivial trivial lo0 (eq98 n)
theorem ob64 {W : World} (hG : Facts W) (n : Nat) : GG W (64, S64 n) :=
 goodOf mixed tabOk Tryz.func64 (E64 n) (G64 n) [] ⟨ob98 hG n, ob28 hG n, trivial⟩ trivial lo0 (eq64 n)
theorem ob142 {W : World} (hG : Facts W) (n : Nat) : GG W (142, S142 n) :=
 goodOf mixed tabOk Tryz.func142 (E142 n) (G142 n) [] trivial trivial (lol 1 (fun i hi => match i, hi with | 0, _ => lpd n (Sslices_Index___impl_Node_impl_Node__L2 n (slices_Index___impl_Node_impl_Node__L2 n n)) (slices_Index___impl_Node_impl_Node__L2 n) (eqslices_Index___impl_Node_impl_Node__L2 n))) (eq142 n)
theorem ob129 {W : World} (hG : Facts W) (n : Nat) : GG W (129, S129 n) :=
 goodOf mixed tabOk Tryz.func129 (E129 n) (G129 n) [] ⟨ob142 hG n, trivial⟩ trivial lo0 (eq129 n)
theorem ob1129 {W : World} (hG : Facts W) (n : Nat) : GG W (129, S1129 n) :=
 goodOf mixed tabOk Tryz.func129 (E1129 n) (G1129 n) [] ⟨ob142 hG n, trivial⟩ trivial lo0 (eq1129 n)
theorem rg111 (n : Nat) : RgsAt (E111 n) (bodyOf Tryz.f111) (Q111 n) := ⟨regN (eximpl_Pool_add_R11 n), trivial⟩
theorem ob111 {W : World} (hG : Facts W) (n : Nat) : GG W (111, S111 n) :=
 goodOf mixed tabOk Tryz.func111 (E111 n) (G111 n) (H111 n) ⟨ob64 hG n, trivial⟩ ⟨ob1129 hG n, trivial⟩ (lor (rg111 n)) (eq111 n)
theorem ob93 {W : World} (hG : Facts W) (n : Nat) : GG W (93, S93 n) :=
 goodOf mixed tabOk Tryz.func93 (E93 n) (G93 n) [] ⟨ob111 hG n, trivial⟩ trivial lo0 (eq93 n)
theorem rg33 (n : Nat) : RgsAt (E33 n) (bodyOf Tryz.f33) (Q33 n) := ⟨⟨by kernel_rfl, fun x y hy => all_of (eximpl_PoolOk_R7 n x) (fun v hv => ((show ∀ v ∈ [impl_PoolOk_R7 n x, impl_PoolOk_R7 n x, impl_PoolOk_R7 n x, impl_PoolOk_R7_1 n x, impl_PoolOk_R7_1 n x, impl_PoolOk_R7_1 n x, impl_PoolOk_R7 n x, impl_PoolOk_R7 n x, impl_PoolOk_R7 n x, impl_PoolOk_R7_1 n x, impl_PoolOk_R7_1 n x, impl_PoolOk_R7_1 n x], v = impl_PoolOk_R7 n x from (List.forall_mem_cons.2 ⟨rfl, (List.forall_mem_cons.2 ⟨rfl, (List.forall_mem_cons.2 ⟨rfl, (List.forall_mem_cons.2 ⟨impl_PoolOk_R7_1_eq n x, (List.forall_mem_cons.2 ⟨impl_PoolOk_R7_1_eq n x, (List.forall_mem_cons.2 ⟨impl_PoolOk_R7_1_eq n x, (List.forall_mem_cons.2 ⟨rfl, (List.forall_mem_cons.2 ⟨rfl, (List.forall_mem_cons.2 ⟨rfl, (List.forall_mem_cons.2 ⟨impl_PoolOk_R7_1_eq n x, (List.forall_mem_cons.2 ⟨impl_PoolOk_R7_1_eq n x, (List.forall_mem_cons.2 ⟨impl_PoolOk_R7_1_eq n x, (fun _ h => by cases h)⟩)⟩)⟩)⟩)⟩)⟩)⟩)⟩)⟩)⟩)⟩)⟩)) v hv).trans (show impl_PoolOk_R7 n x = some y from hy))⟩, trivial⟩
theorem ob33 {W : World} (hG : Facts W) (n : Nat) : GG W (33, S33 n) :=
 goodOf mixed tabOk Tryz.func33 (E33 n) (G33 n) [] ⟨ob64 hG n, trivial⟩ trivial (lolr 1 (fun i hi => match i, hi with | 0, _ => lpd n (Simpl_PoolOk_L5 n (impl_PoolOk_L5 n n)) (impl_PoolOk_L5 n) (eqimpl_PoolOk_L5 n)) (rg33 n)) (eq33 n)
theorem ob108 {W : World} (hG : Facts W) (n : Nat) : GG W (108, S108 n) :=
 goodOf mixed tabOk Tryz.func108 (E108 n) (G108 n) [] trivial trivial lo0 (eq108 n)
theorem ob122 {W : World} (hG : Facts W) (n : Nat) : GG W (122, S122 n) :=
 goodOf mixed tabOk Tryz.func122 (E122 n) (G122 n) [] trivial trivial lo0 (eq122 n)
theorem ob106 {W : World} (hG : Facts W) (n : Nat) : GG W (106, S106 n) :=
 goodOf mixed tabOk Tryz.func106 (E106 n) (G106 n) [] ⟨ob108 hG n, ob122 hG n, ob123 hG, ob124 hG, trivial⟩ trivial (lol 1 (fun i hi => match i, hi with | 0, _ => lpd n (Simpl_reader_figures_L2 n (impl_reader_figures_L2 n n)) (impl_reader_figures_L2 n) (eqimpl_reader_figures_L2 n))) (eq106 n)
theorem ob107 {W : World} (hG : Facts W) (n : Nat) : GG W (107, S107 n) :=
 goodOf mixed tabOk Tryz.func107 (E107 n) (G107 n) [] trivial trivial lo0 (eq107 n)
theorem ob80 {W : World} (hG : Facts W) (n : Nat) : GG W (80, S80 n) :=
 goodOf mixed tabOk Tryz.func80 (E80 n) (G80 n) [] ⟨ob106 hG n, ob28 hG n, ob107 hG n, trivial⟩ trivial lo0 (eq80 n)
theorem ob81 {W : World} (hG : Facts W) (n : Nat) : GG W (81, S81 n) :=
 goodOf mixed tabOk Tryz.func81 (E81 n) (G81 n) [] ⟨ob108 hG n, ob107 hG n, trivial⟩ trivial lo0 (eq81 n)
theorem rg82 (n : Nat) : RgsAt (E82 n) (bodyOf Tryz.f82) (Q82 n) := ⟨regN (eximpl_pattern_put_R1 n), trivial⟩
theorem ob82 {W : World} (hG : Facts W) (n : Nat) : GG W (82, S82 n) :=
 goodOf mixed tabOk Tryz.func82 (E82 n) (G82 n) [] trivial trivial (lor (rg82 n)) (eq82 n)
theorem ob79 {W : World} (hG : Facts W) (n : Nat) : GG W (79, S79 n) :=
 goodOf mixed tabOk Tryz.func79 (E79 n) (G79 n) [] ⟨ob80 hG n, ob82 hG n, ob81 hG n, trivial⟩ trivial lo0 (eq79 n)
theorem ob83 {W : World} (hG : Facts W) (n : Nat) : GG W (83, S83 n) :=
 goodOf mixed tabOk Tryz.func83 (E83 n) (G83 n) [] ⟨ob82 hG n, trivial⟩ trivial lo0 (eq83 n)
theorem ob125 {W : World} (hG : Facts W) (n : Nat) : GG W (125, S125 n) :=
 goodOf mixed tabOk Tryz.func125 (E125 n) (G125 n) [] trivial trivial (lol 1 (fun i hi => match i, hi with | 0, _ => lpd n (Simpl_isOneOf_L2 n (impl_isOneOf_L2 n n)) (impl_isOneOf_L2 n) (eqimpl_isOneOf_L2 n))) (eq125 n)
theorem ob127 {W : World} (hG : Facts W) (n : Nat) : GG W (127, S127 n) :=
 goodOf mixed tabOk Tryz.func127 (E127 n) (G127 n) [] trivial trivial lo0 (eq127 n)
theorem ob128 {W : World} (hG : Facts W) (n : Nat) : GG W (128, S128 n) :=
 goodOf mixed tabOk Tryz.func128 (E128 n) (G128 n) [] ⟨ob107 hG n, trivial⟩ trivial lo0 (eq128 n)
theorem ob126_ {W : World} (hG : Facts W) (n k : Nat) (ih : GG W (109, S109 n k)) : GG W (126, S126 n k) :=
 goodOf mixed tabOk Tryz.func126 (E126 n k) (G126 n k) [] ⟨ih, ob128 hG n, trivial⟩ trivial lo0 (eq126 n k)
theorem ob109 {W : World} (hG : Facts W) (n : Nat) : ∀ k, GG W (109, S109 n k)
 | 0 => ⟨plain_of Tryz.func109 (by kernel_rfl) (by kernel_rfl), fun _ _ _ _ _ _ _ h => by cases h⟩
 | k + 1 =>
  have ih := ob109 hG n k
  goodOf mixed tabOk Tryz.func109 (E109 n k) (G109 n k) [] ⟨ob108 hG n, ob107 hG n, ob79 hG n, ob125 hG n, ob127 hG n, ob126_ hG n k ih, ob83 hG n, ih, ob128 hG n, trivial⟩ trivial lo0 (eq109 n k)
theorem ob126 {W : World} (hG : Facts W) (n k : Nat) : GG W (126, S126 n k) := ob126_ hG n k (ob109 hG n k)
theorem ob84 {W : World} (hG : Facts W) (n : Nat) : GG W (84, S84 n) :=
 goodOf mixed tabOk Tryz.func84 (E84 n) (G84 n) [] ⟨ob107 hG n, ob109 hG n n, trivial⟩ trivial lo0 (eq84 n)
theorem ob47 {W : World} (hG : Facts W) (n : Nat) : GG W (47, S47 n) :=
 goodOf mixed tabOk Tryz.func47 (E47 n) (G47 n) [] ⟨ob84 hG n, trivial⟩ trivial lo0 (eq47 n)
theorem ob29 {W : World} (hG : Facts W) (n : Nat) : GG W (29, S29 n) :=
 goodOf mixed tabOk Tryz.func29 (E29 n) (G29 n) [] ⟨ob28 hG n, trivial⟩ trivial lo0 (eq29 n)
theorem ob1029 {W : World} (hG : Facts W) (n : Nat) : GG W (29, S1029 n) :=
 goodOf mixed tabOk Tryz.func29 (E1029 n) (G1029 n) [] ⟨ob28 hG n, trivial⟩ trivial lo0 (eq1029 n)
theorem ob27 {W : World} (hG : Facts W) (n : Nat) : GG W (27, S27 n) :=
 goodOf mixed tabOk Tryz.func27 (E27 n) (G27 n) [] ⟨ob29 hG n, ob33 hG n, trivial⟩ trivial (lol 1 (fun i hi => match i, hi with | 0, _ => lpd n (Simpl_EnvOk_L2 n (impl_EnvOk_L2 n n)) (impl_EnvOk_L2 n) (eqimpl_EnvOk_L2 n))) (eq27 n)
theorem ob49 {W : World} (hG : Facts W) (n : Nat) : GG W (49, S49 n) :=
 goodOf mixed tabOk Tryz.func49 (E49 n) (G49 n) [] trivial trivial lo0 (eq49 n)
theorem ob86 {W : World} (hG : Facts W) (n : Nat) : ∀ k, GG W (86, S86 n k)
 | 0 => ⟨plain_of Tryz.func86 (by kernel_rfl) (by kernel_rfl), fun _ _ _ _ _ _ _ h => by cases h⟩
 | k + 1 =>
  have ih := ob86 hG n k
  goodOf mixed tabOk Tryz.func86 (E86 n k) (G86 n k) [] ⟨ih, trivial⟩ trivial (lol 1 (fun i hi => match i, hi with | 0, _ => lpd n (Simpl_pattern_has_L3 n (impl_pattern_has_L3 n (impl_pattern_has n k) n)) (impl_pattern_has_L3 n (impl_pattern_has n k)) (fun m x => eqimpl_pattern_has_L3 n m k x))) (eq86 n k)
theorem ob19 {W : World} (hG : Facts W) (n : Nat) : GG W (19, S19 n) :=
 goodOf mixed tabOk Tryz.func19 (E19 n) (G19 n) [] ⟨ob46 hG, trivial⟩ trivial lo0 (eq19 n)
theorem ob110 {W : World} (hG : Facts W) (n : Nat) : GG W (110, S110 n) :=
 goodOf mixed tabOk Tryz.func110 (E110 n) (G110 n) (H110 n) ⟨ob111 hG n, trivial⟩ ⟨ob1029 hG n, ob1029 hG n, trivial⟩ lo0 (eq110 n)
theorem ob85 {W : World} (hG : Facts W) (n : Nat) : GG W (85, S85 n) :=
 goodOf mixed tabOk Tryz.func85 (E85 n) (G85 n) [] trivial trivial lo0 (eq85 n)
theorem rg87 (n k : Nat) : RgsAt (E87 n k) (bodyOf Tryz.f87) (Q87 n k) := ⟨reg6 (eximpl_pattern_make_R19 n k) [], trivial⟩
theorem ob87 {W : World} (hG : Facts W) (n : Nat) : ∀ k, GG W (87, S87 n k)
 | 0 => ⟨plain_of Tryz.func87 (by kernel_rfl) (by kernel_rfl), fun _ _ _ _ _ _ _ h => by cases h⟩
 | k + 1 =>
  have ih := ob87 hG n k
  goodOf mixed tabOk Tryz.func87 (E87 n k) (G87 n k) [] ⟨ob93 hG n, ih, ob110 hG n, ob85 hG n, ob111 hG n, trivial⟩ trivial (lolr 1 (fun i hi => match i, hi with | 0, _ => lpd n (Simpl_pattern_make_L11 n (impl_pattern_make_L11 n (impl_pattern_make n k) n)) (impl_pattern_make_L11 n (impl_pattern_make n k)) (fun m x => eqimpl_pattern_make_L11 n m k x)) (rg87 n k)) (eq87 n k)
theorem rg1087 (n k : Nat) : RgsAt (E1087 n k) (bodyOf Tryz.f87) (Q1087 n k) := ⟨reg6 (eximpl_pattern_make_o_R19 n k) [], trivial⟩
theorem ob1087 {W : World} (hG : Facts W) (n : Nat) : ∀ k, GG W (87, S1087 n k)
 | 0 => ⟨plain_of Tryz.func87 (by kernel_rfl) (by kernel_rfl), fun _ _ _ _ _ _ _ h => by cases h⟩
 | k + 1 =>
  have ih := ob1087 hG n k
  goodOf mixed tabOk Tryz.func87 (E1087 n k) (G1087 n k) (H1087 n k) ⟨ob93 hG n, ob110 hG n, ob85 hG n, ob111 hG n, trivial⟩ ⟨ih, trivial⟩ (lolr 1 (fun i hi => match i, hi with | 0, _ => lpd n (Simpl_pattern_make_o_L11 n (impl_pattern_make_o_L11 n (impl_pattern_make_o n k) n)) (impl_pattern_make_o_L11 n (impl_pattern_make_o n k)) (fun m x => eqimpl_pattern_make_o_L11 n m k x)) (rg1087 n k)) (eq1087 n k)
theorem ob117 {W : World} (hG : Facts W) (n : Nat) : GG W (117, S117 n) :=
 goodOf mixed tabOk Tryz.func117 (E117 n) (G117 n) [] ⟨ob33 hG n, ob47 hG n, ob19 hG n, ob27 hG n, ob49 hG n, ob86 hG n n, ob87 hG n n, trivial⟩ trivial lo0 (eq117 n)
theorem ob1117 {W : World} (hG : Facts W) (n : Nat) : GG W (117, S1117 n) :=
 goodOf mixed tabOk Tryz.func117 (E1117 n) (G1117 n) [] ⟨ob33 hG n, ob47 hG n, ob19 hG n, ob27 hG n, ob49 hG n, ob86 hG n n, ob87 hG n n, trivial⟩ trivial lo0 (eq1117 n)
theorem ob95 {W : World} (hG : Facts W) (n : Nat) : GG W (95, S95 n) :=
 goodOf mixed tabOk Tryz.func95 (E95 n) (G95 n) [] ⟨ob117 hG n, trivial⟩ trivial lo0 (eq95 n)
theorem ob60 {W : World} (hG : Facts W) (n : Nat) : GG W (60, S60 n) :=
 goodOf mixed tabOk Tryz.func60 (E60 n) (G60 n) [] ⟨ob94 hG n, ob93 hG n, ob95 hG n, trivial⟩ trivial lo0 (eq60 n)
theorem ob44 {W : World} (hG : Facts W) (n : Nat) : GG W (44, S44 n) :=
 goodOf mixed tabOk Tryz.func44 (E44 n) (G44 n) [] ⟨ob28 hG n, trivial⟩ trivial lo0 (eq44 n)
theorem ob102 {W : World} (hG : Facts W) (n : Nat) : GG W (102, S102 n) :=
 goodOf mixed tabOk Tryz.func102 (E102 n) (G102 n) [] trivial trivial lo0 (eq102 n)
theorem ob137 {W : World} (hG : Facts W) (n : Nat) : GG W (137, S137 n) :=
 goodOf mixed tabOk Tryz.func137 (E137 n) (G137 n) [] trivial trivial lo0 (eq137 n)
theorem ob119 {W : World} (hG : Facts W) (n : Nat) : GG W (119, S119 n) :=
 goodOf mixed tabOk Tryz.func119 (E119 n) (G119 n) [] ⟨ob137 hG n, trivial⟩ trivial lo0 (eq119 n)
theorem ob101 {W : World} (hG : Facts W) (n : Nat) : GG W (101, S101 n) :=
 goodOf mixed tabOk Tryz.func101 (E101 n) (G101 n) [] ⟨ob119 hG n, trivial⟩ trivial lo0 (eq101 n)
theorem ob76 {W : World} (hG : Facts W) (n : Nat) : GG W (76, S76 n) :=
 goodOf mixed tabOk Tryz.func76 (E76 n) (G76 n) [] ⟨ob102 hG n, ob101 hG n, trivial⟩ trivial (lol 1 (fun i hi => match i, hi with | 0, _ => lpd n (Simpl_actOf_L2 n (impl_actOf_L2 n n)) (impl_actOf_L2 n) (eqimpl_actOf_L2 n))) (eq76 n)
theorem ob120 {W : World} (hG : Facts W) (n : Nat) : GG W (120, S120 n) :=
 goodOf mixed tabOk Tryz.func120 (E120 n) (G120 n) [] ⟨ob47 hG n, trivial⟩ trivial lo0 (eq120 n)
theorem ob103 {W : World} (hG : Facts W) (n : Nat) : GG W (103, S103 n) :=
 goodOf mixed tabOk Tryz.func103 (E103 n) (G103 n) [] ⟨ob47 hG n, ob49 hG n, ob86 hG n n, ob120 hG n, trivial⟩ trivial lo0 (eq103 n)
theorem ob77 {W : World} (hG : Facts W) (n : Nat) : GG W (77, S77 n) :=
 goodOf mixed tabOk Tryz.func77 (E77 n) (G77 n) [] ⟨ob103 hG n, ob28 hG n, trivial⟩ trivial (lol 1 (fun i hi => match i, hi with | 0, _ => lpd n (Simpl_RoleOk_L2 n (impl_RoleOk_L2 n n)) (impl_RoleOk_L2 n) (eqimpl_RoleOk_L2 n))) (eq77 n)
theorem ob78 {W : World} (hG : Facts W) (n : Nat) : Good Tryz.prog (Glob.of W) (78, S78 n) := rolePrint_good (ob77 hG n) (ob102 hG n)
theorem ob43 {W : World} (hG : Facts W) (n : Nat) : GG W (43, S43 n) :=
 goodOf mixed tabOk Tryz.func43 (E43 n) (G43 n) [] ⟨ob75 hG, ob76 hG n, ob77 hG n, ob78 hG n, trivial⟩ trivial (lol 1 (fun i hi => match i, hi with | 0, _ => lpd n (Simpl_RoleParse_L3 n (impl_RoleParse_L3 n n)) (impl_RoleParse_L3 n) (eqimpl_RoleParse_L3 n))) (eq43 n)
theorem ob17 {W : World} (hG : Facts W) (n : Nat) : GG W (17, S17 n) :=
 goodOf mixed tabOk Tryz.func17 (E17 n) (G17 n) [] ⟨ob44 hG n, ob43 hG n, trivial⟩ trivial lo0 (eq17 n)
theorem ob31 {W : World} (hG : Facts W) (n : Nat) : GG W (31, S31 n) :=
 goodOf mixed tabOk Tryz.func31 (E31 n) (G31 n) [] ⟨ob17 hG n, ob60 hG n, trivial⟩ trivial (lol 1 (fun i hi => match i, hi with | 0, _ => lpd n (Simpl_Inst_goOn_L3 n (impl_Inst_goOn_L3 n n)) (impl_Inst_goOn_L3 n) (eqimpl_Inst_goOn_L3 n))) (eq31 n)
theorem ob26 {W : World} (hG : Facts W) (n : Nat) : GG W (26, S26 n) :=
 goodOf mixed tabOk Tryz.func26 (E26 n) (G26 n) [] ⟨ob28 hG n, trivial⟩ trivial lo0 (eq26 n)
theorem ob11 {W : World} (hG : Facts W) (n : Nat) : GG W (11, S11 n) :=
 goodOf mixed tabOk Tryz.func11 (E11 n) (G11 n) [] ⟨ob17 hG n, ob26 hG n, ob27 hG n, ob28 hG n, ob29 hG n, trivial⟩ trivial lo0 (eq11 n)
theorem ob30 {W : World} (hG : Facts W) (n : Nat) : GG W (30, S30 n) :=
 goodOf mixed tabOk Tryz.func30 (E30 n) (G30 n) [] ⟨ob33 hG n, ob19 hG n, trivial⟩ trivial lo0 (eq30 n)
theorem ob18 {W : World} (hG : Facts W) (n : Nat) : GG W (18, S18 n) :=
 goodOf mixed tabOk Tryz.func18 (E18 n) (G18 n) [] ⟨ob45 hG, trivial⟩ trivial lo0 (eq18 n)
theorem rg13 (n : Nat) : RgsAt (E13 n) (bodyOf Tryz.f13) (Q13 n) := ⟨reg6 (eximpl_InstGo_R3 n) [(6, 10)], reg6 (eximpl_InstGo_R5 n) [(4, 6), (5, 7)], trivial⟩
theorem ob13 {W : World} (hG : Facts W) (n : Nat) : GG W (13, S13 n) :=
 goodOf mixed tabOk Tryz.func13 (E13 n) (G13 n) [] ⟨ob11 hG n, ob30 hG n, ob19 hG n, ob18 hG n, ob31 hG n, trivial⟩ trivial (lor (rg13 n)) (eq13 n)
theorem ob92 {W : World} (hG : Facts W) (n : Nat) : GG W (92, S92 n) :=
 goodOf mixed tabOk Tryz.func92 (E92 n) (G92 n) [] trivial trivial lo0 (eq92 n)
theorem ob59 {W : World} (hG : Facts W) (n : Nat) : GG W (59, S59 n) :=
 goodOf mixed tabOk Tryz.func59 (E59 n) (G59 n) [] trivial trivial lo0 (eq59 n)
theorem ob54 {W : World} (hG : Facts W) (n : Nat) : GG W (54, S54 n) :=
 goodOf mixed tabOk Tryz.func54 (E54 n) (G54 n) [] ⟨ob92 hG n, ob59 hG n, trivial⟩ trivial lo0 (eq54 n)
theorem ob55 {W : World} (hG : Facts W) (n : Nat) : GG W (55, S55 n) :=
 goodOf mixed tabOk Tryz.func55 (E55 n) (G55 n) [] trivial trivial (lol 1 (fun i hi => match i, hi with | 0, _ => lpd n (Sspec_l1Find_L2 n (spec_l1Find_L2 n n)) (spec_l1Find_L2 n) (eqspec_l1Find_L2 n))) (eq55 n)
theorem ob24 {W : World} (hG : Facts W) (n : Nat) : GG W (24, S24 n) :=
 goodOf mixed tabOk Tryz.func24 (E24 n) (G24 n) [] ⟨ob54 hG n, ob55 hG n, trivial⟩ trivial (lol 1 (fun i hi => match i, hi with | 0, _ => lpd n (Sspec_PoolOk_L4 n (spec_PoolOk_L4 n n)) (spec_PoolOk_L4 n) (eqspec_PoolOk_L4 n))) (eq24 n)
theorem ob89 {W : World} (hG : Facts W) (n : Nat) : GG W (89, S89 n) :=
 goodOf mixed tabOk Tryz.func89 (E89 n) (G89 n) [] trivial trivial lo0 (eq89 n)
theorem ob56 {W : World} (hG : Facts W) (n : Nat) : GG W (56, S56 n) :=
 goodOf mixed tabOk Tryz.func56 (E56 n) (G56 n) [] ⟨ob89 hG n, trivial⟩ trivial lo0 (eq56 n)
theorem ob57 {W : World} (hG : Facts W) (n : Nat) : GG W (57, S57 n) :=
 goodOf mixed tabOk Tryz.func57 (E57 n) (G57 n) [] ⟨ob59 hG n, trivial⟩ trivial lo0 (eq57 n)
theorem ob50 {W : World} (hG : Facts W) (n : Nat) : GG W (50, S50 n) :=
 goodOf mixed tabOk Tryz.func50 (E50 n) (G50 n) [] ⟨ob59 hG n, trivial⟩ trivial lo0 (eq50 n)
theorem ob58 {W : World} (hG : Facts W) (n : Nat) : GG W (58, S58 n) :=
 goodOf mixed tabOk Tryz.func58 (E58 n) (G58 n) [] ⟨ob50 hG n, trivial⟩ trivial (lol 1 (fun i hi => match i, hi with | 0, _ => lpd n (Sspec_l11Env_L4 n (spec_l11Env_L4 n n)) (spec_l11Env_L4 n) (eqspec_l11Env_L4 n))) (eq58 n)
theorem ob130 {W : World} (hG : Facts W) (n : Nat) : GG W (130, S130 n) :=
 goodOf mixed tabOk Tryz.func130 (E130 n) (G130 n) [] trivial trivial lo0 (eq130 n)
theorem ob112 {W : World} (hG : Facts W) (n : Nat) : GG W (112, S112 n) :=
 goodOf mixed tabOk Tryz.func112 (E112 n) (G112 n) [] ⟨ob130 hG n, trivial⟩ trivial (lol 1 (fun i hi => match i, hi with | 0, _ => lpd n (Sspec_l12Act_L2 n (spec_l12Act_L2 n n)) (spec_l12Act_L2 n) (eqspec_l12Act_L2 n))) (eq112 n)
theorem ob114 {W : World} (hG : Facts W) (n : Nat) : GG W (114, S114 n) :=
 goodOf mixed tabOk Tryz.func114 (E114 n) (G114 n) [] trivial trivial (lol 1 (fun i hi => match i, hi with | 0, _ => lpd n (Sspec_l4Name_L3 n (spec_l4Name_L3 n n)) (spec_l4Name_L3 n) (eqspec_l4Name_L3 n))) (eq114 n)
theorem ob132 {W : World} (hG : Facts W) (n : Nat) : GG W (132, S132 n) :=
 goodOf mixed tabOk Tryz.func132 (E132 n) (G132 n) [] trivial trivial lo0 (eq132 n)
theorem ob116 {W : World} (hG : Facts W) (n : Nat) : GG W (116, S116 n) :=
 goodOf mixed tabOk Tryz.func116 (E116 n) (G116 n) [] trivial trivial lo0 (eq116 n)
theorem ob96 {W : World} (hG : Facts W) (n : Nat) : GG W (96, S96 n) :=
 goodOf mixed tabOk Tryz.func96 (E96 n) (G96 n) [] ⟨ob92 hG n, trivial⟩ trivial lo0 (eq96 n)
theorem ob115_ {W : World} (hG : Facts W) (n k : Nat) (ih : GG W (90, S90 n k)) : GG W (115, S115 n k) :=
 goodOf mixed tabOk Tryz.func115 (E115 n k) (G115 n k) [] ⟨ob132 hG n, ih, trivial⟩ trivial lo0 (eq115 n k)
theorem ob90 {W : World} (hG : Facts W) (n : Nat) : ∀ k, GG W (90, S90 n k)
 | 0 => ⟨plain_of Tryz.func90 (by kernel_rfl) (by kernel_rfl), fun _ _ _ _ _ _ _ h => by cases h⟩
 | k + 1 =>
  have ih := ob90 hG n k
  goodOf mixed tabOk Tryz.func90 (E90 n k) (G90 n k) [] ⟨ob96 hG n, ob114 hG n, ob115_ hG n k ih, ob116 hG n, ih, trivial⟩ trivial lo0 (eq90 n k)
theorem ob115 {W : World} (hG : Facts W) (n k : Nat) : GG W (115, S115 n k) := ob115_ hG n k (ob90 hG n k)
theorem ob52 {W : World} (hG : Facts W) (n : Nat) : GG W (52, S52 n) :=
 goodOf mixed tabOk Tryz.func52 (E52 n) (G52 n) [] ⟨ob90 hG n n, trivial⟩ trivial lo0 (eq52 n)
theorem ob131 {W : World} (hG : Facts W) (n : Nat) : GG W (131, S131 n) :=
 goodOf mixed tabOk Tryz.func131 (E131 n) (G131 n) [] ⟨ob52 hG n, trivial⟩ trivial lo0 (eq131 n)
theorem ob113 {W : World} (hG : Facts W) (n : Nat) : GG W (113, S113 n) :=
 goodOf mixed tabOk Tryz.func113 (E113 n) (G113 n) [] ⟨ob59 hG n, ob131 hG n, trivial⟩ trivial (lol 1 (fun i hi => match i, hi with | 0, _ => lpd n (Sspec_RoleOk_L5 n (spec_RoleOk_L5 n n)) (spec_RoleOk_L5 n) (eqspec_RoleOk_L5 n))) (eq113 n)
theorem ob88 {W : World} (hG : Facts W) (n : Nat) : GG W (88, S88 n) :=
 goodOf mixed tabOk Tryz.func88 (E88 n) (G88 n) [] ⟨ob112 hG n, ob113 hG n, trivial⟩ trivial (lol 1 (fun i hi => match i, hi with | 0, _ => lpd n (Sspec_RoleParse_L4 n (spec_RoleParse_L4 n n)) (spec_RoleParse_L4 n) (eqspec_RoleParse_L4 n))) (eq88 n)
theorem ob51 {W : World} (hG : Facts W) (n : Nat) : GG W (51, S51 n) :=
 goodOf mixed tabOk Tryz.func51 (E51 n) (G51 n) [] ⟨ob89 hG n, ob88 hG n, trivial⟩ trivial lo0 (eq51 n)
theorem ob25 {W : World} (hG : Facts W) (n : Nat) : GG W (25, S25 n) :=
 goodOf mixed tabOk Tryz.func25 (E25 n) (G25 n) [] ⟨ob56 hG n, ob57 hG n, ob58 hG n, ob51 hG n, ob50 hG n, ob59 hG n, trivial⟩ trivial lo0 (eq25 n)
theorem ob10 {W : World} (hG : Facts W) (n : Nat) : GG W (10, S10 n) :=
 goodOf mixed tabOk Tryz.func10 (E10 n) (G10 n) [] ⟨ob24 hG n, ob25 hG n, trivial⟩ trivial lo0 (eq10 n)
theorem ob22 {W : World} (hG : Facts W) (n : Nat) : GG W (22, S22 n) :=
 goodOf mixed tabOk Tryz.func22 (E22 n) (G22 n) [] trivial trivial lo0 (eq22 n)
theorem ob23 {W : World} (hG : Facts W) (n : Nat) : GG W (23, S23 n) :=
 goodOf mixed tabOk Tryz.func23 (E23 n) (G23 n) [] trivial trivial lo0 (eq23 n)
theorem ob62 {W : World} (hG : Facts W) (n : Nat) : GG W (62, S62 n) :=
 goodOf mixed tabOk Tryz.func62 (E62 n) (G62 n) [] ⟨ob59 hG n, trivial⟩ trivial lo0 (eq62 n)
theorem rg66 (n : Nat) : RgsAt (E66 n) (bodyOf Tryz.f66) (Q66 n) := ⟨reg6 (exspec_l1Add_R10 n) [(4, 4)], trivial⟩
theorem ob66 {W : World} (hG : Facts W) (n : Nat) : GG W (66, S66 n) :=
 goodOf mixed tabOk Tryz.func66 (E66 n) (G66 n) [] ⟨ob55 hG n, ob54 hG n, ob22 hG n, trivial⟩ trivial (lor (rg66 n)) (eq66 n)
theorem ob61 {W : World} (hG : Facts W) (n : Nat) : GG W (61, S61 n) :=
 goodOf mixed tabOk Tryz.func61 (E61 n) (G61 n) [] ⟨ob66 hG n, trivial⟩ trivial lo0 (eq61 n)
theorem ob97 {W : World} (hG : Facts W) (n : Nat) : GG W (97, S97 n) :=
 goodOf mixed tabOk Tryz.func97 (E97 n) (G97 n) [] ⟨ob50 hG n, ob66 hG n, trivial⟩ trivial lo0 (eq97 n)
theorem rg63 (n k : Nat) : RgsAt (E63 n k) (bodyOf Tryz.f63) (Q63 n k) := ⟨reg6 (exspec_l11Make_R5 n k) [(6, 8)], trivial⟩
theorem ob63 {W : World} (hG : Facts W) (n : Nat) : ∀ k, GG W (63, S63 n k)
 | 0 => ⟨plain_of Tryz.func63 (by kernel_rfl) (by kernel_rfl), fun _ _ _ _ _ _ _ h => by cases h⟩
 | k + 1 =>
  have ih := ob63 hG n k
  goodOf mixed tabOk Tryz.func63 (E63 n k) (G63 n k) [] ⟨ob61 hG n, ih, ob96 hG n, ob66 hG n, ob97 hG n, trivial⟩ trivial (lor (rg63 n k)) (eq63 n k)
theorem rg1063 (n k : Nat) : RgsAt (E1063 n k) (bodyOf Tryz.f63) (Q1063 n k) := ⟨reg6 (exspec_l11Make_o_R5 n k) [(6, 8)], trivial⟩
theorem ob1063 {W : World} (hG : Facts W) (n : Nat) : ∀ k, GG W (63, S1063 n k)
 | 0 => ⟨plain_of Tryz.func63 (by kernel_rfl) (by kernel_rfl), fun _ _ _ _ _ _ _ h => by cases h⟩
 | k + 1 =>
  have ih := ob1063 hG n k
  goodOf mixed tabOk Tryz.func63 (E1063 n k) (G1063 n k) (H1063 n k) ⟨ob61 hG n, ob96 hG n, ob66 hG n, ob97 hG n, trivial⟩ ⟨ih, ih, trivial⟩ (lor (rg1063 n k)) (eq1063 n k)
theorem rg32 (n : Nat) : RgsAt (E32 n) (bodyOf Tryz.f32) (Q32 n) := ⟨reg6 (exspec_l13Go_R12 n) [(4, 6), (5, 7)], reg6 (exspec_l13Go_R14 n) [(7, 14)], reg6 (exspec_l13Go_R20 n) [(4, 6), (5, 7)], reg6 (exspec_l13Go_R29 n) [(4, 6), (5, 7)], trivial⟩
theorem ob32 {W : World} (hG : Facts W) (n : Nat) : GG W (32, S32 n) :=
 goodOf mixed tabOk Tryz.func32 (E32 n) (G32 n) (H32 n) ⟨ob23 hG n, ob51 hG n, ob62 hG n, ob61 hG n, ob52 hG n, trivial⟩ ⟨ob1063 hG n n, trivial⟩ (lolr 1 (fun i hi => match i, hi with | 0, _ => lpd n (Sspec_l13Go_L4 n (spec_l13Go_L4 n n)) (spec_l13Go_L4 n) (eqspec_l13Go_L4 n)) (rg32 n)) (eq32 n)
theorem rg14 (n : Nat) : RgsAt (E14 n) (bodyOf Tryz.f14) (Q14 n) := ⟨reg6 (exspec_InstGo_R7 n) [(5, 6), (6, 7)], trivial⟩
theorem ob14 {W : World} (hG : Facts W) (n : Nat) : GG W (14, S14 n) :=
 goodOf mixed tabOk Tryz.func14 (E14 n) (G14 n) [] ⟨ob10 hG n, ob24 hG n, ob22 hG n, ob32 hG n, trivial⟩ trivial (lor (rg14 n)) (eq14 n)
theorem ob5 {W : World} (hG : Facts W) (n : Nat) : GG W (5, S5 n) :=
 goodOf mixed tabOk Tryz.func5 (E5 n) (G5 n) [] trivial trivial lo0 (eq5 n)
theorem ob35 {W : World} (hG : Facts W) (n : Nat) : GG W (35, S35 n) :=
 goodOf mixed tabOk Tryz.func35 (E35 n) (G35 n) [] trivial trivial (lol 1 (fun i hi => match i, hi with | 0, _ => lpd n (Sspec_l1New_L3 n (spec_l1New_L3 n n)) (spec_l1New_L3 n) (eqspec_l1New_L3 n))) (eq35 n)
theorem ob68 {W : World} (hG : Facts W) (n : Nat) : GG W (68, S68 n) :=
 goodOf mixed tabOk Tryz.func68 (E68 n) (G68 n) [] trivial trivial lo0 (eq68 n)
theorem ob37 {W : World} (hG : Facts W) (n : Nat) : GG W (37, S37 n) :=
 goodOf mixed tabOk Tryz.func37 (E37 n) (G37 n) [] ⟨ob68 hG n, trivial⟩ trivial lo0 (eq37 n)
theorem ob40 {W : World} (hG : Facts W) (n : Nat) : GG W (40, S40 n) :=
 goodOf mixed tabOk Tryz.func40 (E40 n) (G40 n) [] ⟨ob37 hG n, trivial⟩ trivial lo0 (eq40 n)
theorem ob41 {W : World} (hG : Facts W) (n : Nat) : GG W (41, S41 n) :=
 goodOf mixed tabOk Tryz.func41 (E41 n) (G41 n) [] ⟨ob37 hG n, trivial⟩ trivial lo0 (eq41 n)
theorem ob73 {W : World} (hG : Facts W) (n : Nat) : GG W (73, S73 n) :=
 goodOf mixed tabOk Tryz.func73 (E73 n) (G73 n) [] ⟨ob40 hG n, ob37 hG n, trivial⟩ trivial lo0 (eq73 n)
theorem ob67 {W : World} (hG : Facts W) (n : Nat) : GG W (67, S67 n) :=
 goodOf mixed tabOk Tryz.func67 (E67 n) (G67 n) [] ⟨ob41 hG n, ob40 hG n, ob73 hG n, ob92 hG n, trivial⟩ trivial lo0 (eq67 n)
theorem rg36 (n : Nat) : RgsAt (E36 n) (bodyOf Tryz.f36) (Q36 n) := ⟨reg7 (exspec_l1DrawPool_R6 n) [(0, [0]), (5, [5, 0]), (20, [0]), (21, [5, 0])], trivial⟩
theorem ob36 {W : World} (hG : Facts W) (n : Nat) : GG W (36, S36 n) :=
 goodOf mixed tabOk Tryz.func36 (E36 n) (G36 n) [] ⟨ob37 hG n, ob67 hG n, ob66 hG n, trivial⟩ trivial (lolr 1 (fun i hi => match i, hi with | 0, _ => lpd n (Sspec_l1DrawPool_L4 n (spec_l1DrawPool_L4 n n)) (spec_l1DrawPool_L4 n) (eqspec_l1DrawPool_L4 n)) (rg36 n)) (eq36 n)
theorem ob69 {W : World} (hG : Facts W) (n : Nat) : GG W (69, S69 n) :=
 goodOf mixed tabOk Tryz.func69 (E69 n) (G69 n) [] trivial trivial (lol 1 (fun i hi => match i, hi with | 0, _ => lpd n (Sspec_EnvNew_L3 n (spec_EnvNew_L3 n n)) (spec_EnvNew_L3 n) (eqspec_EnvNew_L3 n))) (eq69 n)
theorem ob70 {W : World} (hG : Facts W) (n : Nat) : GG W (70, S70 n) :=
 goodOf mixed tabOk Tryz.func70 (E70 n) (G70 n) [] ⟨ob57 hG n, trivial⟩ trivial lo0 (eq70 n)
theorem ob99 {W : World} (hG : Facts W) (n : Nat) : GG W (99, S99 n) :=
 goodOf mixed tabOk Tryz.func99 (E99 n) (G99 n) [] trivial trivial lo0 (eq99 n)
theorem ob74 {W : World} (hG : Facts W) (n : Nat) : GG W (74, S74 n) :=
 goodOf mixed tabOk Tryz.func74 (E74 n) (G74 n) [] trivial trivial lo0 (eq74 n)
theorem ob71 {W : World} (hG : Facts W) (n : Nat) : GG W (71, S71 n) :=
 goodOf mixed tabOk Tryz.func71 (E71 n) (G71 n) [] ⟨ob57 hG n, ob99 hG n, ob74 hG n, trivial⟩ trivial lo0 (eq71 n)
theorem ob72 {W : World} (hG : Facts W) (n : Nat) : GG W (72, S72 n) :=
 goodOf mixed tabOk Tryz.func72 (E72 n) (G72 n) [] ⟨ob57 hG n, trivial⟩ trivial lo0 (eq72 n)
theorem rg38 (n : Nat) : RgsAt (E38 n) (bodyOf Tryz.f38) (Q38 n) := ⟨reg6 (exspec_InstNew_R12 n) [(10, 18)], reg6 (exspec_InstNew_R19 n) [(3, 10), (4, 11)], trivial⟩
theorem ob38 {W : World} (hG : Facts W) (n : Nat) : GG W (38, S38 n) :=
 goodOf mixed tabOk Tryz.func38 (E38 n) (G38 n) [] ⟨ob24 hG n, ob56 hG n, ob22 hG n, ob57 hG n, ob69 hG n, ob70 hG n, ob71 hG n, ob72 hG n, ob61 hG n, ob66 hG n, trivial⟩ trivial (lolr 1 (fun i hi => match i, hi with | 0, _ => lpd n (Sspec_InstNew_L10 n (spec_InstNew_L10 n n)) (spec_InstNew_L10 n) (eqspec_InstNew_L10 n)) (rg38 n)) (eq38 n)
theorem ob39 {W : World} (hG : Facts W) (n : Nat) : GG W (39, S39 n) :=
 goodOf mixed tabOk Tryz.func39 (E39 n) (G39 n) [] ⟨ob40 hG n, ob41 hG n, ob74 hG n, ob73 hG n, trivial⟩ trivial lo0 (eq39 n)
theorem rg91 (n k : Nat) : RgsAt (E91 n k) (bodyOf Tryz.f91) (Q91 n k) := ⟨reg6 (exspec_l11Match_R6 n k) [(8, 10)], trivial⟩
theorem ob91 {W : World} (hG : Facts W) (n : Nat) : ∀ k, GG W (91, S91 n k)
 | 0 => ⟨plain_of Tryz.func91 (by kernel_rfl) (by kernel_rfl), fun _ _ _ _ _ _ _ h => by cases h⟩
 | k + 1 =>
  have ih := ob91 hG n k
  goodOf mixed tabOk Tryz.func91 (E91 n k) (G91 n k) (H91 n k) ⟨ih, trivial⟩ ⟨ob1063 hG n n, trivial⟩ (lor (rg91 n k)) (eq91 n k)
theorem ob53 {W : World} (hG : Facts W) (n : Nat) : GG W (53, S53 n) :=
 goodOf mixed tabOk Tryz.func53 (E53 n) (G53 n) [] ⟨ob91 hG n n, trivial⟩ trivial lo0 (eq53 n)
theorem rg21 (n : Nat) : RgsAt (E21 n) (bodyOf Tryz.f21) (Q21 n) := ⟨reg6 (exspec_l13Take_R2 n) [(2, 6), (3, 7)], reg6 (exspec_l13Take_R3 n) [], reg6 (exspec_l13Take_R5 n) [(2, 6), (3, 7)], reg6 (exspec_l13Take_R9 n) [(2, 6), (3, 7)], reg6 (exspec_l13Take_R12 n) [(2, 6), (3, 7)], trivial⟩
theorem ob21 {W : World} (hG : Facts W) (n : Nat) : GG W (21, S21 n) :=
 goodOf mixed tabOk Tryz.func21 (E21 n) (G21 n) [] ⟨ob50 hG n, ob51 hG n, ob52 hG n, ob53 hG n, trivial⟩ trivial (lor (rg21 n)) (eq21 n)
theorem rg42 (n : Nat) : RgsAt (E42 n) (bodyOf Tryz.f42) (Q42 n) := ⟨reg7 (exspec_l11DrawEnv_R5 n) [(0, [0]), (21, [0]), (23, [0])], trivial⟩
theorem ob42 {W : World} (hG : Facts W) (n : Nat) : GG W (42, S42 n) :=
 goodOf mixed tabOk Tryz.func42 (E42 n) (G42 n) [] ⟨ob69 hG n, ob37 hG n, ob73 hG n, ob41 hG n, trivial⟩ trivial (lolr 1 (fun i hi => match i, hi with | 0, _ => lpd n (Sspec_l11DrawEnv_L3 n (spec_l11DrawEnv_L3 n n)) (spec_l11DrawEnv_L3 n) (eqspec_l11DrawEnv_L3 n)) (rg42 n)) (eq42 n)
theorem rg16 (n : Nat) : RgsAt (E16 n) (bodyOf Tryz.f16) (Q16 n) := ⟨reg6 (exspec_l13Draw_R13 n) [(3, 7), (4, 13)], reg6 (exspec_l13Draw_R15 n) [(3, 7), (4, 11)], reg7 (exspec_l13Draw_R21 n) [(7, [7, 0]), (13, [13, 0])], reg6 (exspec_l13Draw_R41 n) [(4, 2), (5, 3)], trivial⟩
theorem ob16 {W : World} (hG : Facts W) (n : Nat) : GG W (16, S16 n) :=
 goodOf mixed tabOk Tryz.func16 (E16 n) (G16 n) [] ⟨ob35 hG n, ob36 hG n, ob37 hG n, ob38 hG n, ob39 hG n, ob32 hG n, ob21 hG n, ob40 hG n, ob41 hG n, ob42 hG n, trivial⟩ trivial (lolr 1 (fun i hi => match i, hi with | 0, _ => lpd n (Sspec_l13Draw_L10 n (spec_l13Draw_L10 n n)) (spec_l13Draw_L10 n) (eqspec_l13Draw_L10 n)) (rg16 n)) (eq16 n)
theorem rg6 (n : Nat) : RgsAt (E6 n) (bodyOf Tryz.f6) (Q6 n) := ⟨reg6 (exspec_DrawInstTake_R2 n) [(3, 2), (4, 3)], trivial⟩
theorem ob6 {W : World} (hG : Facts W) (n : Nat) : GG W (6, S6 n) :=
 goodOf mixed tabOk Tryz.func6 (E6 n) (G6 n) [] ⟨ob16 hG n, trivial⟩ trivial (lor (rg6 n)) (eq6 n)
theorem rg48 (n k : Nat) : RgsAt (E48 n k) (bodyOf Tryz.f48) (Q48 n k) := ⟨reg6 (eximpl_pattern_match_R9 n k) [], reg6 (eximpl_pattern_match_R12 n k) [], trivial⟩
theorem ob48 {W : World} (hG : Facts W) (n : Nat) : ∀ k, GG W (48, S48 n k)
 | 0 => ⟨plain_of Tryz.func48 (by kernel_rfl) (by kernel_rfl), fun _ _ _ _ _ _ _ h => by cases h⟩
 | k + 1 =>
  have ih := ob48 hG n k
  goodOf mixed tabOk Tryz.func48 (E48 n k) (G48 n k) (H48 n k) ⟨ih, ob85 hG n, ob86 hG n n, trivial⟩ ⟨ob1087 hG n n, trivial⟩ (lor (rg48 n k)) (eq48 n k)
theorem ob20 {W : World} (hG : Facts W) (n : Nat) : GG W (20, S20 n) :=
 goodOf mixed tabOk Tryz.func20 (E20 n) (G20 n) [] ⟨ob33 hG n, ob47 hG n, ob19 hG n, ob29 hG n, ob27 hG n, ob45 hG, ob49 hG n, ob48 hG n n, trivial⟩ trivial lo0 (eq20 n)
theorem rg7 (n : Nat) : RgsAt (E7 n) (bodyOf Tryz.f7) (Q7 n) := ⟨reg6 (eximpl_InstTake_R6 n) [(3, 6), (4, 7)], reg6 (eximpl_InstTake_R7 n) [(16, 12)], reg6 (eximpl_InstTake_R9 n) [(3, 6), (4, 7)], reg6 (eximpl_InstTake_R12 n) [(2, 6), (3, 7)], trivial⟩
theorem ob7 {W : World} (hG : Facts W) (n : Nat) : GG W (7, S7 n) :=
 goodOf mixed tabOk Tryz.func7 (E7 n) (G7 n) [] ⟨ob11 hG n, ob17 hG n, ob18 hG n, ob19 hG n, ob20 hG n, trivial⟩ trivial (lor (rg7 n)) (eq7 n)
theorem rg8 (n : Nat) : RgsAt (E8 n) (bodyOf Tryz.f8) (Q8 n) := ⟨reg6 (exspec_InstTake_R4 n) [(5, 6), (6, 7)], trivial⟩
theorem ob8 {W : World} (hG : Facts W) (n : Nat) : GG W (8, S8 n) :=
 goodOf mixed tabOk Tryz.func8 (E8 n) (G8 n) [] ⟨ob10 hG n, ob21 hG n, ob22 hG n, ob23 hG n, trivial⟩ trivial (lor (rg8 n)) (eq8 n)
theorem ob9 {W : World} (hG : Facts W) (n : Nat) : GG W (9, S9 n) :=
 goodOf mixed tabOk Tryz.func9 (E9 n) (G9 n) [] trivial trivial (lol 1 (fun i hi => match i, hi with | 0, _ => lpd n (Slaws_sameInts_L4 n (laws_sameInts_L4 n n)) (laws_sameInts_L4 n) (eqlaws_sameInts_L4 n))) (eq9 n)
theorem ob3 {W : World} (hG : Facts W) (n : Nat) : GG W (3, S3 n) :=
 goodOf mixed tabOk Tryz.func3 (E3 n) (G3 n) [] ⟨ob5 hG n, ob6 hG n, ob7 hG n, ob8 hG n, ob9 hG n, ob10 hG n, ob11 hG n, trivial⟩ trivial (lol 1 (fun i hi => match i, hi with | 0, _ => lpd n (Slaws_FnTaken_L13 n (laws_FnTaken_L13 n n)) (laws_FnTaken_L13 n) (eqlaws_FnTaken_L13 n))) (eq3 n)
end AM
end Go.Proofs.YtopjbhdnldpikaaGreatDoor
