/- Each function that the laws reach obeys its summary. Under: what the rows list of the library's variables. -/
import Derived.Test.YtlnbedamfbnkaaaGreatDoorIALd
import Derived.Test.YtlnbedamfbnkaaaGreatDoorIW3
import Derived.Test.YtlnbedamfbnkaaaGreatDoorIW4
import Derived.Test.YtlnbedamfbnkaaaGreatDoorProg
import Derived.Test.YtlnbedamfbnkaaaGreatDoorIShelf
import Derived.Test.YtlnbedamfbnkaaaGreatDoorIP1
import Derived.Lib.IndexMore
import Derived.Lib.ItoaNum
import Derived.Lib.Split
import Derived.Lib.CountLaws
import Derived.Lib.SlicesCompact
namespace Go.Proofs.YtlnbedamfbnkaaaGreatDoor
namespace AM
open Go
set_option linter.unusedVariables false
abbrev GG (W:World) (p:Nat×FSum):Prop := Good Tryz.prog (Glob.of W) p
theorem ob93 {W:World} (hG:Facts W) (n:Nat):GG W (93,S93 n) :=
 goodOf mixed tabOk Tryz.func93 (E93 n) (G93 n) [] trivial trivial lo0 (eq93 n)
theorem ob78 {W:World} (hG:Facts W) (n:Nat):GG W (78,S78 n) :=
 goodOf mixed tabOk Tryz.func78 (E78 n) (G78 n) [] trivial trivial lo0 (eq78 n)
theorem ob75 {W:World} (hG:Facts W) (n:Nat):GG W (75,S75 n) :=
 goodOf mixed tabOk Tryz.func75 (E75 n) (G75 n) [] ⟨ob93 hG n,ob78 hG n,trivial⟩ trivial lo0 (eq75 n)
theorem ob76 {W:World} (hG:Facts W) (n:Nat):GG W (76,S76 n) :=
 goodOf mixed tabOk Tryz.func76 (E76 n) (G76 n) [] trivial trivial (lol 1 (fun i hi => match i,hi with | 0,_ => lpd n (Sspec_l1Find_L2 n (spec_l1Find_L2 n n)) (spec_l1Find_L2 n) (eqspec_l1Find_L2 n))) (eq76 n)
theorem ob41 {W:World} (hG:Facts W) (n:Nat):GG W (41,S41 n) :=
 goodOf mixed tabOk Tryz.func41 (E41 n) (G41 n) [] ⟨ob75 hG n,ob76 hG n,trivial⟩ trivial (lol 1 (fun i hi => match i,hi with | 0,_ => lpd n (Sspec_PoolOk_L4 n (spec_PoolOk_L4 n n)) (spec_PoolOk_L4 n) (eqspec_PoolOk_L4 n))) (eq41 n)
theorem ob77 {W:World} (hG:Facts W) (n:Nat):GG W (77,S77 n) :=
 goodOf mixed tabOk Tryz.func77 (E77 n) (G77 n) [] trivial trivial lo0 (eq77 n)
theorem ob42 {W:World} (hG:Facts W) (n:Nat):GG W (42,S42 n) :=
 goodOf mixed tabOk Tryz.func42 (E42 n) (G42 n) [] ⟨ob77 hG n,trivial⟩ trivial lo0 (eq42 n)
theorem ob43 {W:World} (hG:Facts W) (n:Nat):GG W (43,S43 n) :=
 goodOf mixed tabOk Tryz.func43 (E43 n) (G43 n) [] ⟨ob78 hG n,trivial⟩ trivial lo0 (eq43 n)
theorem ob104 {W:World} (hG:Facts W) (n:Nat):GG W (104,S104 n) :=
 goodOf mixed tabOk Tryz.func104 (E104 n) (G104 n) [] ⟨ob78 hG n,trivial⟩ trivial lo0 (eq104 n)
theorem ob103 {W:World} (hG:Facts W) (n:Nat):GG W (103,S103 n) :=
 goodOf mixed tabOk Tryz.func103 (E103 n) (G103 n) [] ⟨ob104 hG n,trivial⟩ trivial (lol 1 (fun i hi => match i,hi with | 0,_ => lpd n (Sspec_l11Env_L4 n (spec_l11Env_L4 n n)) (spec_l11Env_L4 n) (eqspec_l11Env_L4 n))) (eq103 n)
theorem ob132 {W:World} (hG:Facts W) (n:Nat):GG W (132,S132 n) :=
 goodOf mixed tabOk Tryz.func132 (E132 n) (G132 n) [] trivial trivial lo0 (eq132 n)
theorem ob119 {W:World} (hG:Facts W) (n:Nat):GG W (119,S119 n) :=
 goodOf mixed tabOk Tryz.func119 (E119 n) (G119 n) [] ⟨ob132 hG n,trivial⟩ trivial (lol 1 (fun i hi => match i,hi with | 0,_ => lpd n (Sspec_l12Act_L2 n (spec_l12Act_L2 n n)) (spec_l12Act_L2 n) (eqspec_l12Act_L2 n))) (eq119 n)
theorem ob121 {W:World} (hG:Facts W) (n:Nat):GG W (121,S121 n) :=
 goodOf mixed tabOk Tryz.func121 (E121 n) (G121 n) [] trivial trivial (lol 1 (fun i hi => match i,hi with | 0,_ => lpd n (Sspec_l4Name_L3 n (spec_l4Name_L3 n n)) (spec_l4Name_L3 n) (eqspec_l4Name_L3 n))) (eq121 n)
theorem ob134 {W:World} (hG:Facts W) (n:Nat):GG W (134,S134 n) :=
 goodOf mixed tabOk Tryz.func134 (E134 n) (G134 n) [] trivial trivial lo0 (eq134 n)
theorem ob123 {W:World} (hG:Facts W) (n:Nat):GG W (123,S123 n) :=
 goodOf mixed tabOk Tryz.func123 (E123 n) (G123 n) [] trivial trivial lo0 (eq123 n)
theorem ob107 {W:World} (hG:Facts W) (n:Nat):GG W (107,S107 n) :=
 goodOf mixed tabOk Tryz.func107 (E107 n) (G107 n) [] ⟨ob93 hG n,trivial⟩ trivial lo0 (eq107 n)
theorem ob122_ {W:World} (hG:Facts W) (n k:Nat) (ih:GG W (106,S106 n k)):GG W (122,S122 n k) :=
 goodOf mixed tabOk Tryz.func122 (E122 n k) (G122 n k) [] ⟨ob134 hG n,ih,trivial⟩ trivial lo0 (eq122 n k)
theorem ob106 {W:World} (hG:Facts W) (n:Nat):∀ k,GG W (106,S106 n k)
 | 0 => ⟨plain_of Tryz.func106 (by kernel_rfl) (by kernel_rfl),fun _ _ _ _ _ _ _ h => by cases h⟩
 | k + 1 =>
  have ih := ob106 hG n k
  goodOf mixed tabOk Tryz.func106 (E106 n k) (G106 n k) [] ⟨ob107 hG n,ob121 hG n,ob122_ hG n k ih,ob123 hG n,ih,trivial⟩ trivial lo0 (eq106 n k)
theorem ob122 {W:World} (hG:Facts W) (n k:Nat):GG W (122,S122 n k) := ob122_ hG n k (ob106 hG n k)
theorem ob88 {W:World} (hG:Facts W) (n:Nat):GG W (88,S88 n) :=
 goodOf mixed tabOk Tryz.func88 (E88 n) (G88 n) [] ⟨ob106 hG n n,trivial⟩ trivial lo0 (eq88 n)
theorem ob133 {W:World} (hG:Facts W) (n:Nat):GG W (133,S133 n) :=
 goodOf mixed tabOk Tryz.func133 (E133 n) (G133 n) [] ⟨ob88 hG n,trivial⟩ trivial lo0 (eq133 n)
theorem ob120 {W:World} (hG:Facts W) (n:Nat):GG W (120,S120 n) :=
 goodOf mixed tabOk Tryz.func120 (E120 n) (G120 n) [] ⟨ob78 hG n,ob133 hG n,trivial⟩ trivial (lol 1 (fun i hi => match i,hi with | 0,_ => lpd n (Sspec_RoleOk_L5 n (spec_RoleOk_L5 n n)) (spec_RoleOk_L5 n) (eqspec_RoleOk_L5 n))) (eq120 n)
theorem ob105 {W:World} (hG:Facts W) (n:Nat):GG W (105,S105 n) :=
 goodOf mixed tabOk Tryz.func105 (E105 n) (G105 n) [] ⟨ob119 hG n,ob120 hG n,trivial⟩ trivial (lol 1 (fun i hi => match i,hi with | 0,_ => lpd n (Sspec_RoleParse_L4 n (spec_RoleParse_L4 n n)) (spec_RoleParse_L4 n) (eqspec_RoleParse_L4 n))) (eq105 n)
theorem ob86 {W:World} (hG:Facts W) (n:Nat):GG W (86,S86 n) :=
 goodOf mixed tabOk Tryz.func86 (E86 n) (G86 n) [] ⟨ob77 hG n,ob105 hG n,trivial⟩ trivial lo0 (eq86 n)
theorem ob84 {W:World} (hG:Facts W) (n:Nat):GG W (84,S84 n) :=
 goodOf mixed tabOk Tryz.func84 (E84 n) (G84 n) [] ⟨ob42 hG n,ob43 hG n,ob103 hG n,ob86 hG n,ob104 hG n,ob78 hG n,trivial⟩ trivial lo0 (eq84 n)
theorem ob60 {W:World} (hG:Facts W) (n:Nat):GG W (60,S60 n) :=
 goodOf mixed tabOk Tryz.func60 (E60 n) (G60 n) [] ⟨ob41 hG n,ob84 hG n,trivial⟩ trivial lo0 (eq60 n)
theorem ob44 {W:World} (hG:Facts W) (n:Nat):GG W (44,S44 n) :=
 goodOf mixed tabOk Tryz.func44 (E44 n) (G44 n) [] trivial trivial lo0 (eq44 n)
theorem ob85 {W:World} (hG:Facts W) (n:Nat):GG W (85,S85 n) :=
 goodOf mixed tabOk Tryz.func85 (E85 n) (G85 n) [] trivial trivial lo0 (eq85 n)
theorem ob87 {W:World} (hG:Facts W) (n:Nat):GG W (87,S87 n) :=
 goodOf mixed tabOk Tryz.func87 (E87 n) (G87 n) [] ⟨ob78 hG n,trivial⟩ trivial lo0 (eq87 n)
theorem rg50 (n:Nat):RgsAt (E50 n) (bodyOf Tryz.f50) (Q50 n) := ⟨reg6 (exspec_l1Add_R10 n) [(4,4)],trivial⟩
theorem ob50 {W:World} (hG:Facts W) (n:Nat):GG W (50,S50 n) :=
 goodOf mixed tabOk Tryz.func50 (E50 n) (G50 n) [] ⟨ob76 hG n,ob75 hG n,ob44 hG n,trivial⟩ trivial (lor (rg50 n)) (eq50 n)
theorem ob49 {W:World} (hG:Facts W) (n:Nat):GG W (49,S49 n) :=
 goodOf mixed tabOk Tryz.func49 (E49 n) (G49 n) [] ⟨ob50 hG n,trivial⟩ trivial lo0 (eq49 n)
theorem ob108 {W:World} (hG:Facts W) (n:Nat):GG W (108,S108 n) :=
 goodOf mixed tabOk Tryz.func108 (E108 n) (G108 n) [] ⟨ob104 hG n,ob50 hG n,trivial⟩ trivial lo0 (eq108 n)
theorem rg89 (n k:Nat):RgsAt (E89 n k) (bodyOf Tryz.f89) (Q89 n k) := ⟨reg6 (exspec_l11Make_R5 n k) [(6,8)],trivial⟩
theorem ob89 {W:World} (hG:Facts W) (n:Nat):∀ k,GG W (89,S89 n k)
 | 0 => ⟨plain_of Tryz.func89 (by kernel_rfl) (by kernel_rfl),fun _ _ _ _ _ _ _ h => by cases h⟩
 | k + 1 =>
  have ih := ob89 hG n k
  goodOf mixed tabOk Tryz.func89 (E89 n k) (G89 n k) [] ⟨ob49 hG n,ih,ob107 hG n,ob50 hG n,ob108 hG n,trivial⟩ trivial (lor (rg89 n k)) (eq89 n k)
theorem rg1089 (n k:Nat):RgsAt (E1089 n k) (bodyOf Tryz.f89) (Q1089 n k) := ⟨reg6 (exspec_l11Make_o_R5 n k) [(6,8)],trivial⟩
theorem ob1089 {W:World} (hG:Facts W) (n:Nat):∀ k,GG W (89,S1089 n k)
 | 0 => ⟨plain_of Tryz.func89 (by kernel_rfl) (by kernel_rfl),fun _ _ _ _ _ _ _ h => by cases h⟩
 | k + 1 =>
  have ih := ob1089 hG n k
  goodOf mixed tabOk Tryz.func89 (E1089 n k) (G1089 n k) (H1089 n k) ⟨ob49 hG n,ob107 hG n,ob50 hG n,ob108 hG n,trivial⟩ ⟨ih,ih,trivial⟩ (lor (rg1089 n k)) (eq1089 n k)
theorem rg61 (n:Nat):RgsAt (E61 n) (bodyOf Tryz.f61) (Q61 n) := ⟨reg6 (exspec_l13Go_R12 n) [(4,6),(5,7)],reg6 (exspec_l13Go_R14 n) [(7,14)],reg6 (exspec_l13Go_R20 n) [(4,6),(5,7)],reg6 (exspec_l13Go_R29 n) [(4,6),(5,7)],trivial⟩
theorem ob61 {W:World} (hG:Facts W) (n:Nat):GG W (61,S61 n) :=
 goodOf mixed tabOk Tryz.func61 (E61 n) (G61 n) (H61 n) ⟨ob85 hG n,ob86 hG n,ob87 hG n,ob49 hG n,ob88 hG n,trivial⟩ ⟨ob1089 hG n n,trivial⟩ (lolr 1 (fun i hi => match i,hi with | 0,_ => lpd n (Sspec_l13Go_L4 n (spec_l13Go_L4 n n)) (spec_l13Go_L4 n) (eqspec_l13Go_L4 n)) (rg61 n)) (eq61 n)
theorem rg13 (n:Nat):RgsAt (E13 n) (bodyOf Tryz.f13) (Q13 n) := ⟨reg6 (exspec_InstGo_R7 n) [(5,6),(6,7)],trivial⟩
theorem ob13 {W:World} (hG:Facts W) (n:Nat):GG W (13,S13 n) :=
 goodOf mixed tabOk Tryz.func13 (E13 n) (G13 n) [] ⟨ob60 hG n,ob41 hG n,ob44 hG n,ob61 hG n,trivial⟩ trivial (lor (rg13 n)) (eq13 n)
theorem ob5 {W:World} (hG:Facts W) (n:Nat):GG W (5,S5 n) :=
 goodOf mixed tabOk Tryz.func5 (E5 n) (G5 n) [] trivial trivial lo0 (eq5 n)
theorem ob25 {W:World} (hG:Facts W) (n:Nat):GG W (25,S25 n) :=
 goodOf mixed tabOk Tryz.func25 (E25 n) (G25 n) [] trivial trivial (lol 1 (fun i hi => match i,hi with | 0,_ => lpd n (Sspec_l1New_L3 n (spec_l1New_L3 n n)) (spec_l1New_L3 n) (eqspec_l1New_L3 n))) (eq25 n)
theorem ob69 {W:World} (hG:Facts W) (n:Nat):GG W (69,S69 n) :=
 goodOf mixed tabOk Tryz.func69 (E69 n) (G69 n) [] trivial trivial lo0 (eq69 n)
theorem ob29 {W:World} (hG:Facts W) (n:Nat):GG W (29,S29 n) :=
 goodOf mixed tabOk Tryz.func29 (E29 n) (G29 n) [] ⟨ob69 hG n,trivial⟩ trivial lo0 (eq29 n)
theorem ob28 {W:World} (hG:Facts W) (n:Nat):GG W (28,S28 n) :=
 goodOf mixed tabOk Tryz.func28 (E28 n) (G28 n) [] ⟨ob29 hG n,trivial⟩ trivial lo0 (eq28 n)
theorem ob70 {W:World} (hG:Facts W) (n:Nat):GG W (70,S70 n) :=
 goodOf mixed tabOk Tryz.func70 (E70 n) (G70 n) [] ⟨ob29 hG n,trivial⟩ trivial lo0 (eq70 n)
theorem ob92 {W:World} (hG:Facts W) (n:Nat):GG W (92,S92 n) :=
 goodOf mixed tabOk Tryz.func92 (E92 n) (G92 n) [] ⟨ob28 hG n,ob29 hG n,trivial⟩ trivial lo0 (eq92 n)
theorem ob68 {W:World} (hG:Facts W) (n:Nat):GG W (68,S68 n) :=
 goodOf mixed tabOk Tryz.func68 (E68 n) (G68 n) [] ⟨ob70 hG n,ob28 hG n,ob92 hG n,ob93 hG n,trivial⟩ trivial lo0 (eq68 n)
theorem rg67 (n:Nat):RgsAt (E67 n) (bodyOf Tryz.f67) (Q67 n) := ⟨reg7 (exspec_l1DrawPool_R6 n) [(0,[0]),(5,[5,0]),(20,[0]),(21,[5,0])],trivial⟩
theorem ob67 {W:World} (hG:Facts W) (n:Nat):GG W (67,S67 n) :=
 goodOf mixed tabOk Tryz.func67 (E67 n) (G67 n) [] ⟨ob29 hG n,ob68 hG n,ob50 hG n,trivial⟩ trivial (lolr 1 (fun i hi => match i,hi with | 0,_ => lpd n (Sspec_l1DrawPool_L4 n (spec_l1DrawPool_L4 n n)) (spec_l1DrawPool_L4 n) (eqspec_l1DrawPool_L4 n)) (rg67 n)) (eq67 n)
theorem ob26 {W:World} (hG:Facts W) (n:Nat):GG W (26,S26 n) :=
 goodOf mixed tabOk Tryz.func26 (E26 n) (G26 n) [] ⟨ob67 hG n,ob29 hG n,ob44 hG n,ob68 hG n,ob28 hG n,ob50 hG n,trivial⟩ trivial (lol 1 (fun i hi => match i,hi with | 0,_ => lpd n (Sspec_l1DrawAny_L9 n (spec_l1DrawAny_L9 n n)) (spec_l1DrawAny_L9 n) (eqspec_l1DrawAny_L9 n))) (eq26 n)
theorem ob27 {W:World} (hG:Facts W) (n:Nat):GG W (27,S27 n) :=
 goodOf mixed tabOk Tryz.func27 (E27 n) (G27 n) [] ⟨ob25 hG n,ob29 hG n,trivial⟩ trivial lo0 (eq27 n)
theorem ob30 {W:World} (hG:Facts W) (n:Nat):GG W (30,S30 n) :=
 goodOf mixed tabOk Tryz.func30 (E30 n) (G30 n) [] ⟨ob28 hG n,ob70 hG n,ob29 hG n,trivial⟩ trivial lo0 (eq30 n)
theorem rg6 (n:Nat):RgsAt (E6 n) (bodyOf Tryz.f6) (Q6 n) := ⟨reg7 (exspec_DrawInstNew_R7 n) [(2,[2,0]),(7,[13,77,77]),(34,[13,77,77])],trivial⟩
theorem ob6 {W:World} (hG:Facts W) (n:Nat):GG W (6,S6 n) :=
 goodOf mixed tabOk Tryz.func6 (E6 n) (G6 n) [] ⟨ob25 hG n,ob26 hG n,ob27 hG n,ob28 hG n,ob29 hG n,ob30 hG n,trivial⟩ trivial (lor (rg6 n)) (eq6 n)
theorem ob94 {W:World} (hG:Facts W) (n:Nat):GG W (94,S94 n) :=
 goodOf mixed tabOk Tryz.func94 (E94 n) (G94 n) [] trivial trivial lo0 (eq94 n)
theorem ob53 {W:World} (hG:Facts W) (n:Nat):GG W (53,S53 n) :=
 goodOf mixed tabOk Tryz.func53 (E53 n) (G53 n) [] trivial trivial lo0 (eq53 n)
theorem ob71 {W:World} (hG:Facts W) (n:Nat):GG W (71,S71 n) :=
 goodOf mixed tabOk Tryz.func71 (E71 n) (G71 n) [] ⟨ob94 hG n,ob53 hG n,trivial⟩ trivial lo0 (eq71 n)
theorem rg31 (n:Nat):RgsAt (E31 n) (bodyOf Tryz.f31) (Q31 n) := ⟨⟨by kernel_rfl,fun x y hy => all_of (eximpl_PoolOk_R7 n x) (fun v hv => ((show ∀ v ∈ [impl_PoolOk_R7 n x,impl_PoolOk_R7 n x,impl_PoolOk_R7 n x,impl_PoolOk_R7_1 n x,impl_PoolOk_R7_1 n x,impl_PoolOk_R7_1 n x,impl_PoolOk_R7 n x,impl_PoolOk_R7 n x,impl_PoolOk_R7 n x,impl_PoolOk_R7_1 n x,impl_PoolOk_R7_1 n x,impl_PoolOk_R7_1 n x],v = impl_PoolOk_R7 n x from (List.forall_mem_cons.2 ⟨rfl,(List.forall_mem_cons.2 ⟨rfl,(List.forall_mem_cons.2 ⟨rfl,(List.forall_mem_cons.2 ⟨impl_PoolOk_R7_1_eq n x,(List.forall_mem_cons.2 ⟨impl_PoolOk_R7_1_eq n x,(List.forall_mem_cons.2 ⟨impl_PoolOk_R7_1_eq n x,(List.forall_mem_cons.2 ⟨rfl,(List.forall_mem_cons.2 ⟨rfl,(List.forall_mem_cons.2 ⟨rfl,(List.forall_mem_cons.2 ⟨impl_PoolOk_R7_1_eq n x,(List.forall_mem_cons.2 ⟨impl_PoolOk_R7_1_eq n x,(List.forall_mem_cons.2 ⟨impl_PoolOk_R7_1_eq n x,(fun _ h => by cases h)⟩)⟩)⟩)⟩)⟩)⟩)⟩)⟩)⟩)⟩)⟩)⟩)) v hv).trans (show impl_PoolOk_R7 n x = some y from hy))⟩,trivial⟩
theorem ob31 {W:World} (hG:Facts W) (n:Nat):GG W (31,S31 n) :=
 goodOf mixed tabOk Tryz.func31 (E31 n) (G31 n) [] ⟨ob71 hG n,trivial⟩ trivial (lolr 1 (fun i hi => match i,hi with | 0,_ => lpd n (Simpl_PoolOk_L5 n (impl_PoolOk_L5 n n)) (impl_PoolOk_L5 n) (eqimpl_PoolOk_L5 n)) (rg31 n)) (eq31 n)
theorem ob32 {W:World} (hG:Facts W) (n:Nat):GG W (32,S32 n) :=
 goodOf mixed tabOk Tryz.func32 (E32 n) (G32 n) [] ⟨ob53 hG n,trivial⟩ trivial lo0 (eq32 n)
theorem ob33 {W:World} (hG:Facts W) (n:Nat):GG W (33,S33 n) :=
 goodOf mixed tabOk Tryz.func33 (E33 n) (G33 n) [] ⟨ob53 hG n,trivial⟩ trivial lo0 (eq33 n)
theorem ob34 {W:World} (hG:Facts W) (n:Nat):GG W (34,S34 n) :=
 goodOf mixed tabOk Tryz.func34 (E34 n) (G34 n) [] ⟨ob72 hG,trivial⟩ trivial lo0 (eq34 n)
theorem ob36 {W:World} (hG:Facts W) (n:Nat):GG W (36,S36 n) :=
 goodOf mixed tabOk Tryz.func36 (E36 n) (G36 n) [] ⟨ob33 hG n,trivial⟩ trivial lo0 (eq36 n)
theorem ob37 {W:World} (hG:Facts W) (n:Nat):GG W (37,S37 n) :=
 goodOf mixed tabOk Tryz.func37 (E37 n) (G37 n) [] ⟨ob33 hG n,trivial⟩ trivial lo0 (eq37 n)
theorem ob38 {W:World} (hG:Facts W) (n:Nat):GG W (38,S38 n) :=
 goodOf mixed tabOk Tryz.func38 (E38 n) (G38 n) [] ⟨ob33 hG n,trivial⟩ trivial lo0 (eq38 n)
theorem ob111 {W:World} (hG:Facts W) (n:Nat):GG W (111,S111 n) :=
 goodOf mixed tabOk Tryz.func111 (E111 n) (G111 n) [] trivial trivial (lol 1 (fun i hi => match i,hi with | 0,_ => lpd n (Sslices_Index___impl_Node_impl_Node__L2 n (slices_Index___impl_Node_impl_Node__L2 n n)) (slices_Index___impl_Node_impl_Node__L2 n) (eqslices_Index___impl_Node_impl_Node__L2 n))) (eq111 n)
theorem ob96 {W:World} (hG:Facts W) (n:Nat):GG W (96,S96 n) :=
 goodOf mixed tabOk Tryz.func96 (E96 n) (G96 n) [] ⟨ob111 hG n,trivial⟩ trivial lo0 (eq96 n)
theorem ob1096 {W:World} (hG:Facts W) (n:Nat):GG W (96,S1096 n) :=
 goodOf mixed tabOk Tryz.func96 (E1096 n) (G1096 n) [] ⟨ob111 hG n,trivial⟩ trivial lo0 (eq1096 n)
theorem rg74 (n:Nat):RgsAt (E74 n) (bodyOf Tryz.f74) (Q74 n) := ⟨regN (eximpl_Pool_add_R11 n),trivial⟩
theorem ob74 {W:World} (hG:Facts W) (n:Nat):GG W (74,S74 n) :=
 goodOf mixed tabOk Tryz.func74 (E74 n) (G74 n) (H74 n) ⟨ob71 hG n,trivial⟩ ⟨ob1096 hG n,trivial⟩ (lor (rg74 n)) (eq74 n)
theorem ob39 {W:World} (hG:Facts W) (n:Nat):GG W (39,S39 n) :=
 goodOf mixed tabOk Tryz.func39 (E39 n) (G39 n) [] ⟨ob74 hG n,trivial⟩ trivial lo0 (eq39 n)
theorem ob40 {W:World} (hG:Facts W) (n:Nat):GG W (40,S40 n) :=
 goodOf mixed tabOk Tryz.func40 (E40 n) (G40 n) [] ⟨ob38 hG n,ob39 hG n,ob74 hG n,trivial⟩ trivial lo0 (eq40 n)
theorem rg7 (n:Nat):RgsAt (E7 n) (bodyOf Tryz.f7) (Q7 n) := ⟨reg6 (eximpl_InstNew_R20 n) [(2,10),(3,11)],trivial⟩
theorem ob7 {W:World} (hG:Facts W) (n:Nat):GG W (7,S7 n) :=
 goodOf mixed tabOk Tryz.func7 (E7 n) (G7 n) [] ⟨ob31 hG n,ob32 hG n,ob34 hG n,ob33 hG n,ob35 hG,ob36 hG n,ob37 hG n,ob38 hG n,ob39 hG n,ob40 hG n,trivial⟩ trivial (lolr 1 (fun i hi => match i,hi with | 0,_ => lpd n (Simpl_InstNew_L9 n (impl_InstNew_L9 n n)) (impl_InstNew_L9 n) (eqimpl_InstNew_L9 n)) (rg7 n)) (eq7 n)
theorem ob45 {W:World} (hG:Facts W) (n:Nat):GG W (45,S45 n) :=
 goodOf mixed tabOk Tryz.func45 (E45 n) (G45 n) [] trivial trivial (lol 1 (fun i hi => match i,hi with | 0,_ => lpd n (Sspec_EnvNew_L3 n (spec_EnvNew_L3 n n)) (spec_EnvNew_L3 n) (eqspec_EnvNew_L3 n))) (eq45 n)
theorem ob46 {W:World} (hG:Facts W) (n:Nat):GG W (46,S46 n) :=
 goodOf mixed tabOk Tryz.func46 (E46 n) (G46 n) [] ⟨ob43 hG n,trivial⟩ trivial lo0 (eq46 n)
theorem ob79 {W:World} (hG:Facts W) (n:Nat):GG W (79,S79 n) :=
 goodOf mixed tabOk Tryz.func79 (E79 n) (G79 n) [] trivial trivial lo0 (eq79 n)
theorem ob80 {W:World} (hG:Facts W) (n:Nat):GG W (80,S80 n) :=
 goodOf mixed tabOk Tryz.func80 (E80 n) (G80 n) [] trivial trivial lo0 (eq80 n)
theorem ob47 {W:World} (hG:Facts W) (n:Nat):GG W (47,S47 n) :=
 goodOf mixed tabOk Tryz.func47 (E47 n) (G47 n) [] ⟨ob43 hG n,ob79 hG n,ob80 hG n,trivial⟩ trivial lo0 (eq47 n)
theorem ob48 {W:World} (hG:Facts W) (n:Nat):GG W (48,S48 n) :=
 goodOf mixed tabOk Tryz.func48 (E48 n) (G48 n) [] ⟨ob43 hG n,trivial⟩ trivial lo0 (eq48 n)
theorem rg8 (n:Nat):RgsAt (E8 n) (bodyOf Tryz.f8) (Q8 n) := ⟨reg6 (exspec_InstNew_R12 n) [(10,18)],reg6 (exspec_InstNew_R19 n) [(3,10),(4,11)],trivial⟩
theorem ob8 {W:World} (hG:Facts W) (n:Nat):GG W (8,S8 n) :=
 goodOf mixed tabOk Tryz.func8 (E8 n) (G8 n) [] ⟨ob41 hG n,ob42 hG n,ob44 hG n,ob43 hG n,ob45 hG n,ob46 hG n,ob47 hG n,ob48 hG n,ob49 hG n,ob50 hG n,trivial⟩ trivial (lolr 1 (fun i hi => match i,hi with | 0,_ => lpd n (Sspec_InstNew_L10 n (spec_InstNew_L10 n n)) (spec_InstNew_L10 n) (eqspec_InstNew_L10 n)) (rg8 n)) (eq8 n)
theorem ob114 {W:World} (hG:Facts W) (n:Nat):GG W (114,S114 n) :=
 goodOf mixed tabOk Tryz.func114 (E114 n) (G114 n) [] trivial trivial lo0 (eq114 n)
theorem ob139 {W:World} (hG:Facts W) (n:Nat):GG W (139,S139 n) :=
 goodOf mixed tabOk Tryz.func139 (E139 n) (G139 n) [] trivial trivial lo0 (eq139 n)
theorem ob125 {W:World} (hG:Facts W) (n:Nat):GG W (125,S125 n) :=
 goodOf mixed tabOk Tryz.func125 (E125 n) (G125 n) [] ⟨ob139 hG n,trivial⟩ trivial lo0 (eq125 n)
theorem ob113 {W:World} (hG:Facts W) (n:Nat):GG W (113,S113 n) :=
 goodOf mixed tabOk Tryz.func113 (E113 n) (G113 n) [] ⟨ob125 hG n,trivial⟩ trivial lo0 (eq113 n)
theorem ob98 {W:World} (hG:Facts W) (n:Nat):GG W (98,S98 n) :=
 goodOf mixed tabOk Tryz.func98 (E98 n) (G98 n) [] ⟨ob114 hG n,ob113 hG n,trivial⟩ trivial (lol 1 (fun i hi => match i,hi with | 0,_ => lpd n (Simpl_actOf_L2 n (impl_actOf_L2 n n)) (impl_actOf_L2 n) (eqimpl_actOf_L2 n))) (eq98 n)
theorem ob153 {W:World} (hG:Facts W) (n:Nat):GG W (153,S153 n) :=
 goodOf mixed tabOk Tryz.func153 (E153 n) (G153 n) [] trivial trivial lo0 (eq153 n)
theorem ob155 {W:World} (hG:Facts W) (n:Nat):GG W (155,S155 n) :=
 goodOf mixed tabOk Tryz.func155 (E155 n) (G155 n) [] trivial trivial lo0 (eq155 n)
theorem ob151 {W:World} (hG:Facts W) (n:Nat):GG W (151,S151 n) :=
 goodOf mixed tabOk Tryz.func151 (E151 n) (G151 n) [] ⟨ob153 hG n,ob155 hG n,ob156 hG,ob157 hG,trivial⟩ trivial (lol 1 (fun i hi => match i,hi with | 0,_ => lpd n (Simpl_reader_figures_L2 n (impl_reader_figures_L2 n n)) (impl_reader_figures_L2 n) (eqimpl_reader_figures_L2 n))) (eq151 n)
theorem ob152 {W:World} (hG:Facts W) (n:Nat):GG W (152,S152 n) :=
 goodOf mixed tabOk Tryz.func152 (E152 n) (G152 n) [] trivial trivial lo0 (eq152 n)
theorem ob141 {W:World} (hG:Facts W) (n:Nat):GG W (141,S141 n) :=
 goodOf mixed tabOk Tryz.func141 (E141 n) (G141 n) [] ⟨ob151 hG n,ob53 hG n,ob152 hG n,trivial⟩ trivial lo0 (eq141 n)
theorem ob142 {W:World} (hG:Facts W) (n:Nat):GG W (142,S142 n) :=
 goodOf mixed tabOk Tryz.func142 (E142 n) (G142 n) [] ⟨ob153 hG n,ob152 hG n,trivial⟩ trivial lo0 (eq142 n)
theorem rg143 (n:Nat):RgsAt (E143 n) (bodyOf Tryz.f143) (Q143 n) := ⟨regN (eximpl_pattern_put_R1 n),trivial⟩
theorem ob143 {W:World} (hG:Facts W) (n:Nat):GG W (143,S143 n) :=
 goodOf mixed tabOk Tryz.func143 (E143 n) (G143 n) [] trivial trivial (lor (rg143 n)) (eq143 n)
theorem ob140 {W:World} (hG:Facts W) (n:Nat):GG W (140,S140 n) :=
 goodOf mixed tabOk Tryz.func140 (E140 n) (G140 n) [] ⟨ob141 hG n,ob143 hG n,ob142 hG n,trivial⟩ trivial lo0 (eq140 n)
theorem ob144 {W:World} (hG:Facts W) (n:Nat):GG W (144,S144 n) :=
 goodOf mixed tabOk Tryz.func144 (E144 n) (G144 n) [] ⟨ob143 hG n,trivial⟩ trivial lo0 (eq144 n)
theorem ob158 {W:World} (hG:Facts W) (n:Nat):GG W (158,S158 n) :=
 goodOf mixed tabOk Tryz.func158 (E158 n) (G158 n) [] trivial trivial (lol 1 (fun i hi => match i,hi with | 0,_ => lpd n (Simpl_isOneOf_L2 n (impl_isOneOf_L2 n n)) (impl_isOneOf_L2 n) (eqimpl_isOneOf_L2 n))) (eq158 n)
theorem ob160 {W:World} (hG:Facts W) (n:Nat):GG W (160,S160 n) :=
 goodOf mixed tabOk Tryz.func160 (E160 n) (G160 n) [] trivial trivial lo0 (eq160 n)
theorem ob161 {W:World} (hG:Facts W) (n:Nat):GG W (161,S161 n) :=
 goodOf mixed tabOk Tryz.func161 (E161 n) (G161 n) [] ⟨ob152 hG n,trivial⟩ trivial lo0 (eq161 n)
theorem ob159_ {W:World} (hG:Facts W) (n k:Nat) (ih:GG W (154,S154 n k)):GG W (159,S159 n k) :=
 goodOf mixed tabOk Tryz.func159 (E159 n k) (G159 n k) [] ⟨ih,ob161 hG n,trivial⟩ trivial lo0 (eq159 n k)
theorem ob154 {W:World} (hG:Facts W) (n:Nat):∀ k,GG W (154,S154 n k)
 | 0 => ⟨plain_of Tryz.func154 (by kernel_rfl) (by kernel_rfl),fun _ _ _ _ _ _ _ h => by cases h⟩
 | k + 1 =>
  have ih := ob154 hG n k
  goodOf mixed tabOk Tryz.func154 (E154 n k) (G154 n k) [] ⟨ob153 hG n,ob152 hG n,ob140 hG n,ob158 hG n,ob160 hG n,ob159_ hG n k ih,ob144 hG n,ih,ob161 hG n,trivial⟩ trivial lo0 (eq154 n k)
theorem ob159 {W:World} (hG:Facts W) (n k:Nat):GG W (159,S159 n k) := ob159_ hG n k (ob154 hG n k)
theorem ob145 {W:World} (hG:Facts W) (n:Nat):GG W (145,S145 n) :=
 goodOf mixed tabOk Tryz.func145 (E145 n) (G145 n) [] ⟨ob152 hG n,ob154 hG n n,trivial⟩ trivial lo0 (eq145 n)
theorem ob126 {W:World} (hG:Facts W) (n:Nat):GG W (126,S126 n) :=
 goodOf mixed tabOk Tryz.func126 (E126 n) (G126 n) [] ⟨ob145 hG n,trivial⟩ trivial lo0 (eq126 n)
theorem ob128 {W:World} (hG:Facts W) (n:Nat):GG W (128,S128 n) :=
 goodOf mixed tabOk Tryz.func128 (E128 n) (G128 n) [] trivial trivial lo0 (eq128 n)
theorem ob127 {W:World} (hG:Facts W) (n:Nat):∀ k,GG W (127,S127 n k)
 | 0 => ⟨plain_of Tryz.func127 (by kernel_rfl) (by kernel_rfl),fun _ _ _ _ _ _ _ h => by cases h⟩
 | k + 1 =>
  have ih := ob127 hG n k
  goodOf mixed tabOk Tryz.func127 (E127 n k) (G127 n k) [] ⟨ih,trivial⟩ trivial (lol 1 (fun i hi => match i,hi with | 0,_ => lpd n (Simpl_pattern_has_L3 n (impl_pattern_has_L3 n (impl_pattern_has n k) n)) (impl_pattern_has_L3 n (impl_pattern_has n k)) (fun m x => eqimpl_pattern_has_L3 n m k x))) (eq127 n k)
theorem ob129 {W:World} (hG:Facts W) (n:Nat):GG W (129,S129 n) :=
 goodOf mixed tabOk Tryz.func129 (E129 n) (G129 n) [] ⟨ob126 hG n,trivial⟩ trivial lo0 (eq129 n)
theorem ob115 {W:World} (hG:Facts W) (n:Nat):GG W (115,S115 n) :=
 goodOf mixed tabOk Tryz.func115 (E115 n) (G115 n) [] ⟨ob126 hG n,ob128 hG n,ob127 hG n n,ob129 hG n,trivial⟩ trivial lo0 (eq115 n)
theorem ob99 {W:World} (hG:Facts W) (n:Nat):GG W (99,S99 n) :=
 goodOf mixed tabOk Tryz.func99 (E99 n) (G99 n) [] ⟨ob115 hG n,ob53 hG n,trivial⟩ trivial (lol 1 (fun i hi => match i,hi with | 0,_ => lpd n (Simpl_RoleOk_L2 n (impl_RoleOk_L2 n n)) (impl_RoleOk_L2 n) (eqimpl_RoleOk_L2 n))) (eq99 n)
theorem ob100 {W:World} (hG:Facts W) (n:Nat):Good Tryz.prog (Glob.of W) (100,S100 n) := rolePrint_good (ob99 hG n) (ob114 hG n)
theorem ob81 {W:World} (hG:Facts W) (n:Nat):GG W (81,S81 n) :=
 goodOf mixed tabOk Tryz.func81 (E81 n) (G81 n) [] ⟨ob97 hG,ob98 hG n,ob99 hG n,ob100 hG n,trivial⟩ trivial (lol 1 (fun i hi => match i,hi with | 0,_ => lpd n (Simpl_RoleParse_L3 n (impl_RoleParse_L3 n n)) (impl_RoleParse_L3 n) (eqimpl_RoleParse_L3 n))) (eq81 n)
theorem ob51 {W:World} (hG:Facts W) (n:Nat):GG W (51,S51 n) :=
 goodOf mixed tabOk Tryz.func51 (E51 n) (G51 n) [] ⟨ob32 hG n,ob81 hG n,trivial⟩ trivial lo0 (eq51 n)
theorem ob54 {W:World} (hG:Facts W) (n:Nat):GG W (54,S54 n) :=
 goodOf mixed tabOk Tryz.func54 (E54 n) (G54 n) [] ⟨ob53 hG n,trivial⟩ trivial lo0 (eq54 n)
theorem ob1054 {W:World} (hG:Facts W) (n:Nat):GG W (54,S1054 n) :=
 goodOf mixed tabOk Tryz.func54 (E1054 n) (G1054 n) [] ⟨ob53 hG n,trivial⟩ trivial lo0 (eq1054 n)
theorem ob52 {W:World} (hG:Facts W) (n:Nat):GG W (52,S52 n) :=
 goodOf mixed tabOk Tryz.func52 (E52 n) (G52 n) [] ⟨ob54 hG n,ob31 hG n,trivial⟩ trivial (lol 1 (fun i hi => match i,hi with | 0,_ => lpd n (Simpl_EnvOk_L2 n (impl_EnvOk_L2 n n)) (impl_EnvOk_L2 n) (eqimpl_EnvOk_L2 n))) (eq52 n)
theorem ob9 {W:World} (hG:Facts W) (n:Nat):GG W (9,S9 n) :=
 goodOf mixed tabOk Tryz.func9 (E9 n) (G9 n) [] ⟨ob51 hG n,ob33 hG n,ob52 hG n,ob53 hG n,ob54 hG n,trivial⟩ trivial lo0 (eq9 n)
theorem ob55 {W:World} (hG:Facts W) (n:Nat):GG W (55,S55 n) :=
 goodOf mixed tabOk Tryz.func55 (E55 n) (G55 n) [] ⟨ob31 hG n,ob34 hG n,trivial⟩ trivial lo0 (eq55 n)
theorem ob56 {W:World} (hG:Facts W) (n:Nat):GG W (56,S56 n) :=
 goodOf mixed tabOk Tryz.func56 (E56 n) (G56 n) [] ⟨ob82 hG,trivial⟩ trivial lo0 (eq56 n)
theorem ob101 {W:World} (hG:Facts W) (n:Nat):GG W (101,S101 n) :=
 goodOf mixed tabOk Tryz.func101 (E101 n) (G101 n) [] ⟨ob53 hG n,trivial⟩ trivial lo0 (eq101 n)
theorem ob147 {W:World} (hG:Facts W) (n:Nat):GG W (147,S147 n) :=
 goodOf mixed tabOk Tryz.func147 (E147 n) (G147 n) (H147 n) ⟨ob74 hG n,trivial⟩ ⟨ob1054 hG n,ob1054 hG n,trivial⟩ lo0 (eq147 n)
theorem ob148 {W:World} (hG:Facts W) (n:Nat):GG W (148,S148 n) :=
 goodOf mixed tabOk Tryz.func148 (E148 n) (G148 n) [] trivial trivial lo0 (eq148 n)
theorem rg131 (n k:Nat):RgsAt (E131 n k) (bodyOf Tryz.f131) (Q131 n k) := ⟨reg6 (eximpl_pattern_make_R19 n k) [],trivial⟩
theorem ob131 {W:World} (hG:Facts W) (n:Nat):∀ k,GG W (131,S131 n k)
 | 0 => ⟨plain_of Tryz.func131 (by kernel_rfl) (by kernel_rfl),fun _ _ _ _ _ _ _ h => by cases h⟩
 | k + 1 =>
  have ih := ob131 hG n k
  goodOf mixed tabOk Tryz.func131 (E131 n k) (G131 n k) [] ⟨ob39 hG n,ih,ob147 hG n,ob148 hG n,ob74 hG n,trivial⟩ trivial (lolr 1 (fun i hi => match i,hi with | 0,_ => lpd n (Simpl_pattern_make_L11 n (impl_pattern_make_L11 n (impl_pattern_make n k) n)) (impl_pattern_make_L11 n (impl_pattern_make n k)) (fun m x => eqimpl_pattern_make_L11 n m k x)) (rg131 n k)) (eq131 n k)
theorem rg1131 (n k:Nat):RgsAt (E1131 n k) (bodyOf Tryz.f131) (Q1131 n k) := ⟨reg6 (eximpl_pattern_make_o_R19 n k) [],trivial⟩
theorem ob1131 {W:World} (hG:Facts W) (n:Nat):∀ k,GG W (131,S1131 n k)
 | 0 => ⟨plain_of Tryz.func131 (by kernel_rfl) (by kernel_rfl),fun _ _ _ _ _ _ _ h => by cases h⟩
 | k + 1 =>
  have ih := ob1131 hG n k
  goodOf mixed tabOk Tryz.func131 (E1131 n k) (G1131 n k) (H1131 n k) ⟨ob39 hG n,ob147 hG n,ob148 hG n,ob74 hG n,trivial⟩ ⟨ih,trivial⟩ (lolr 1 (fun i hi => match i,hi with | 0,_ => lpd n (Simpl_pattern_make_o_L11 n (impl_pattern_make_o_L11 n (impl_pattern_make_o n k) n)) (impl_pattern_make_o_L11 n (impl_pattern_make_o n k)) (fun m x => eqimpl_pattern_make_o_L11 n m k x)) (rg1131 n k)) (eq1131 n k)
theorem ob118 {W:World} (hG:Facts W) (n:Nat):GG W (118,S118 n) :=
 goodOf mixed tabOk Tryz.func118 (E118 n) (G118 n) [] ⟨ob31 hG n,ob126 hG n,ob34 hG n,ob52 hG n,ob128 hG n,ob127 hG n n,ob131 hG n n,trivial⟩ trivial lo0 (eq118 n)
theorem ob1118 {W:World} (hG:Facts W) (n:Nat):GG W (118,S1118 n) :=
 goodOf mixed tabOk Tryz.func118 (E1118 n) (G1118 n) [] ⟨ob31 hG n,ob126 hG n,ob34 hG n,ob52 hG n,ob128 hG n,ob127 hG n n,ob131 hG n n,trivial⟩ trivial lo0 (eq1118 n)
theorem ob102 {W:World} (hG:Facts W) (n:Nat):GG W (102,S102 n) :=
 goodOf mixed tabOk Tryz.func102 (E102 n) (G102 n) [] ⟨ob118 hG n,trivial⟩ trivial lo0 (eq102 n)
theorem ob83 {W:World} (hG:Facts W) (n:Nat):GG W (83,S83 n) :=
 goodOf mixed tabOk Tryz.func83 (E83 n) (G83 n) [] ⟨ob101 hG n,ob39 hG n,ob102 hG n,trivial⟩ trivial lo0 (eq83 n)
theorem ob57 {W:World} (hG:Facts W) (n:Nat):GG W (57,S57 n) :=
 goodOf mixed tabOk Tryz.func57 (E57 n) (G57 n) [] ⟨ob51 hG n,ob83 hG n,trivial⟩ trivial (lol 1 (fun i hi => match i,hi with | 0,_ => lpd n (Simpl_Inst_goOn_L3 n (impl_Inst_goOn_L3 n n)) (impl_Inst_goOn_L3 n) (eqimpl_Inst_goOn_L3 n))) (eq57 n)
theorem rg10 (n:Nat):RgsAt (E10 n) (bodyOf Tryz.f10) (Q10 n) := ⟨reg6 (eximpl_InstGo_R3 n) [(6,10)],reg6 (eximpl_InstGo_R5 n) [(4,6),(5,7)],trivial⟩
theorem ob10 {W:World} (hG:Facts W) (n:Nat):GG W (10,S10 n) :=
 goodOf mixed tabOk Tryz.func10 (E10 n) (G10 n) [] ⟨ob9 hG n,ob55 hG n,ob34 hG n,ob56 hG n,ob57 hG n,trivial⟩ trivial (lor (rg10 n)) (eq10 n)
theorem ob3 {W:World} (hG:Facts W) (n:Nat):GG W (3,S3 n) :=
 goodOf mixed tabOk Tryz.func3 (E3 n) (G3 n) [] ⟨ob5 hG n,ob6 hG n,ob7 hG n,ob8 hG n,ob9 hG n,ob10 hG n,trivial⟩ trivial lo0 (eq3 n)
end AM
end Go.Proofs.YtlnbedamfbnkaaaGreatDoor
