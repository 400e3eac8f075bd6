/- Each function that the laws reach obeys its summary. Under: what the rows list of the library's variables. -/
import Derived.Test.YtobpcllkonomlabGreatDoorSALd
import Derived.Test.YtobpcllkonomlabGreatDoorSW3
import Derived.Test.YtobpcllkonomlabGreatDoorSW4
import Derived.Test.YtobpcllkonomlabGreatDoorProg
import Derived.Test.YtobpcllkonomlabGreatDoorSShelf
import Derived.Test.YtobpcllkonomlabGreatDoorSP1
import Derived.Lib.IndexMore
import Derived.Lib.ItoaNum
import Derived.Lib.Split
import Derived.Lib.CountLaws
import Derived.Lib.SlicesCompact
namespace Go.Proofs.YtobpcllkonomlabGreatDoor
namespace AM
open Go
set_option linter.unusedVariables false
abbrev GG (W:World) (p:Nat×FSum):Prop := Good Tryz.prog (Glob.of W) p
theorem ob75 {W:World} (hG:Facts W) (n:Nat):GG W (75,S75 n) :=
 goodOf mixed tabOk Tryz.func75 (E75 n) (G75 n) [] trivial trivial lo0 (eq75 n)
theorem ob27 {W:World} (hG:Facts W) (n:Nat):GG W (27,S27 n) :=
 goodOf mixed tabOk Tryz.func27 (E27 n) (G27 n) [] ⟨ob75 hG n,trivial⟩ trivial lo0 (eq27 n)
theorem ob28 {W:World} (hG:Facts W) (n:Nat):GG W (28,S28 n) :=
 goodOf mixed tabOk Tryz.func28 (E28 n) (G28 n) [] trivial trivial lo0 (eq28 n)
theorem ob76 {W:World} (hG:Facts W) (n:Nat):GG W (76,S76 n) :=
 goodOf mixed tabOk Tryz.func76 (E76 n) (G76 n) [] ⟨ob28 hG n,trivial⟩ trivial lo0 (eq76 n)
theorem ob29 {W:World} (hG:Facts W) (n:Nat):GG W (29,S29 n) :=
 goodOf mixed tabOk Tryz.func29 (E29 n) (G29 n) [] ⟨ob76 hG n,trivial⟩ trivial (lol 1 (fun i hi => match i,hi with | 0,_ => lpd n (Slaws_szInstS_L5 n (laws_szInstS_L5 n n)) (laws_szInstS_L5 n) (eqlaws_szInstS_L5 n))) (eq29 n)
theorem ob30 {W:World} (hG:Facts W) (n:Nat):GG W (30,S30 n) :=
 goodOf mixed tabOk Tryz.func30 (E30 n) (G30 n) [] trivial trivial lo0 (eq30 n)
theorem ob7 {W:World} (hG:Facts W) (n:Nat):GG W (7,S7 n) :=
 goodOf mixed tabOk Tryz.func7 (E7 n) (G7 n) [] ⟨ob27 hG n,ob28 hG n,ob29 hG n,ob30 hG n,trivial⟩ trivial lo0 (eq7 n)
theorem ob130 {W:World} (hG:Facts W) (n:Nat):GG W (130,S130 n) :=
 goodOf mixed tabOk Tryz.func130 (E130 n) (G130 n) [] trivial trivial lo0 (eq130 n)
theorem ob85 {W:World} (hG:Facts W) (n:Nat):GG W (85,S85 n) :=
 goodOf mixed tabOk Tryz.func85 (E85 n) (G85 n) [] ⟨ob130 hG n,trivial⟩ trivial (lol 1 (fun i hi => match i,hi with | 0,_ => lpd n (Slaws_toNodeS_L3 n (laws_toNodeS_L3 n n)) (laws_toNodeS_L3 n) (eqlaws_toNodeS_L3 n))) (eq85 n)
theorem ob35 {W:World} (hG:Facts W) (n:Nat):GG W (35,S35 n) :=
 goodOf mixed tabOk Tryz.func35 (E35 n) (G35 n) [] ⟨ob85 hG n,trivial⟩ trivial lo0 (eq35 n)
theorem ob1035 {W:World} (hG:Facts W) (n:Nat):GG W (35,S1035 n) :=
 goodOf mixed tabOk Tryz.func35 (E1035 n) (G1035 n) [] ⟨ob85 hG n,trivial⟩ trivial lo0 (eq1035 n)
theorem ob36 {W:World} (hG:Facts W) (n:Nat):GG W (36,S36 n) :=
 goodOf mixed tabOk Tryz.func36 (E36 n) (G36 n) [] trivial trivial (lol 1 (fun i hi => match i,hi with | 0,_ => lpd n (Slaws_toIntS_L3 n (laws_toIntS_L3 n n)) (laws_toIntS_L3 n) (eqlaws_toIntS_L3 n))) (eq36 n)
theorem ob86 {W:World} (hG:Facts W) (n:Nat):GG W (86,S86 n) :=
 goodOf mixed tabOk Tryz.func86 (E86 n) (G86 n) [] ⟨ob36 hG n,trivial⟩ trivial lo0 (eq86 n)
theorem ob1086 {W:World} (hG:Facts W) (n:Nat):GG W (86,S1086 n) :=
 goodOf mixed tabOk Tryz.func86 (E1086 n) (G1086 n) [] ⟨ob36 hG n,trivial⟩ trivial lo0 (eq1086 n)
theorem ob37 {W:World} (hG:Facts W) (n:Nat):GG W (37,S37 n) :=
 goodOf mixed tabOk Tryz.func37 (E37 n) (G37 n) (H37 n) trivial ⟨ob1086 hG n,trivial⟩ (lol 1 (fun i hi => match i,hi with | 0,_ => lpd n (Slaws_toInstS_L3 n (laws_toInstS_L3 n n)) (laws_toInstS_L3 n) (eqlaws_toInstS_L3 n))) (eq37 n)
theorem ob87 {W:World} (hG:Facts W) (n:Nat):GG W (87,S87 n) :=
 goodOf mixed tabOk Tryz.func87 (E87 n) (G87 n) [] trivial trivial lo0 (eq87 n)
theorem ob38 {W:World} (hG:Facts W) (n:Nat):GG W (38,S38 n) :=
 goodOf mixed tabOk Tryz.func38 (E38 n) (G38 n) [] ⟨ob87 hG n,trivial⟩ trivial (lol 1 (fun i hi => match i,hi with | 0,_ => lpd n (Slaws_toClaimS_L3 n (laws_toClaimS_L3 n n)) (laws_toClaimS_L3 n) (eqlaws_toClaimS_L3 n))) (eq38 n)
theorem ob9 {W:World} (hG:Facts W) (n:Nat):GG W (9,S9 n) :=
 goodOf mixed tabOk Tryz.func9 (E9 n) (G9 n) [] ⟨ob35 hG n,ob36 hG n,ob37 hG n,ob38 hG n,trivial⟩ trivial lo0 (eq9 n)
theorem ob127 {W:World} (hG:Facts W) (n:Nat):GG W (127,S127 n) :=
 goodOf mixed tabOk Tryz.func127 (E127 n) (G127 n) [] trivial trivial lo0 (eq127 n)
theorem ob65 {W:World} (hG:Facts W) (n:Nat):GG W (65,S65 n) :=
 goodOf mixed tabOk Tryz.func65 (E65 n) (G65 n) [] trivial trivial lo0 (eq65 n)
theorem ob157 {W:World} (hG:Facts W) (n:Nat):GG W (157,S157 n) :=
 goodOf mixed tabOk Tryz.func157 (E157 n) (G157 n) [] ⟨ob127 hG n,ob65 hG n,trivial⟩ trivial lo0 (eq157 n)
theorem ob158 {W:World} (hG:Facts W) (n:Nat):GG W (158,S158 n) :=
 goodOf mixed tabOk Tryz.func158 (E158 n) (G158 n) [] trivial trivial (lol 1 (fun i hi => match i,hi with | 0,_ => lpd n (Sspec_l1Find_L2 n (spec_l1Find_L2 n n)) (spec_l1Find_L2 n) (eqspec_l1Find_L2 n))) (eq158 n)
theorem ob118 {W:World} (hG:Facts W) (n:Nat):GG W (118,S118 n) :=
 goodOf mixed tabOk Tryz.func118 (E118 n) (G118 n) [] ⟨ob157 hG n,ob158 hG n,trivial⟩ trivial (lol 1 (fun i hi => match i,hi with | 0,_ => lpd n (Sspec_PoolOk_L4 n (spec_PoolOk_L4 n n)) (spec_PoolOk_L4 n) (eqspec_PoolOk_L4 n))) (eq118 n)
theorem ob124 {W:World} (hG:Facts W) (n:Nat):GG W (124,S124 n) :=
 goodOf mixed tabOk Tryz.func124 (E124 n) (G124 n) [] ⟨ob65 hG n,trivial⟩ trivial lo0 (eq124 n)
theorem ob119 {W:World} (hG:Facts W) (n:Nat):GG W (119,S119 n) :=
 goodOf mixed tabOk Tryz.func119 (E119 n) (G119 n) [] ⟨ob124 hG n,trivial⟩ trivial (lol 1 (fun i hi => match i,hi with | 0,_ => lpd n (Sspec_l6Know_L4 n (spec_l6Know_L4 n n)) (spec_l6Know_L4 n) (eqspec_l6Know_L4 n))) (eq119 n)
theorem ob77 {W:World} (hG:Facts W) (n:Nat):GG W (77,S77 n) :=
 goodOf mixed tabOk Tryz.func77 (E77 n) (G77 n) [] ⟨ob118 hG n,ob119 hG n,trivial⟩ trivial lo0 (eq77 n)
theorem ob78 {W:World} (hG:Facts W) (n:Nat):GG W (78,S78 n) :=
 goodOf mixed tabOk Tryz.func78 (E78 n) (G78 n) [] ⟨ob65 hG n,trivial⟩ trivial (lol 1 (fun i hi => match i,hi with | 0,_ => lpd n (Sspec_l14Asc_L2 n (spec_l14Asc_L2 n n)) (spec_l14Asc_L2 n) (eqspec_l14Asc_L2 n))) (eq78 n)
theorem ob159 {W:World} (hG:Facts W) (n:Nat):GG W (159,S159 n) :=
 goodOf mixed tabOk Tryz.func159 (E159 n) (G159 n) [] trivial trivial lo0 (eq159 n)
theorem ob120 {W:World} (hG:Facts W) (n:Nat):GG W (120,S120 n) :=
 goodOf mixed tabOk Tryz.func120 (E120 n) (G120 n) [] ⟨ob159 hG n,trivial⟩ trivial lo0 (eq120 n)
theorem ob121 {W:World} (hG:Facts W) (n:Nat):GG W (121,S121 n) :=
 goodOf mixed tabOk Tryz.func121 (E121 n) (G121 n) [] ⟨ob65 hG n,trivial⟩ trivial lo0 (eq121 n)
theorem ob122 {W:World} (hG:Facts W) (n:Nat):GG W (122,S122 n) :=
 goodOf mixed tabOk Tryz.func122 (E122 n) (G122 n) [] ⟨ob124 hG n,trivial⟩ trivial (lol 1 (fun i hi => match i,hi with | 0,_ => lpd n (Sspec_l11Env_L4 n (spec_l11Env_L4 n n)) (spec_l11Env_L4 n) (eqspec_l11Env_L4 n))) (eq122 n)
theorem ob243 {W:World} (hG:Facts W) (n:Nat):GG W (243,S243 n) :=
 goodOf mixed tabOk Tryz.func243 (E243 n) (G243 n) [] trivial trivial lo0 (eq243 n)
theorem ob202 {W:World} (hG:Facts W) (n:Nat):GG W (202,S202 n) :=
 goodOf mixed tabOk Tryz.func202 (E202 n) (G202 n) [] ⟨ob243 hG n,trivial⟩ trivial (lol 1 (fun i hi => match i,hi with | 0,_ => lpd n (Sspec_l12Act_L2 n (spec_l12Act_L2 n n)) (spec_l12Act_L2 n) (eqspec_l12Act_L2 n))) (eq202 n)
theorem ob211 {W:World} (hG:Facts W) (n:Nat):GG W (211,S211 n) :=
 goodOf mixed tabOk Tryz.func211 (E211 n) (G211 n) [] trivial trivial (lol 1 (fun i hi => match i,hi with | 0,_ => lpd n (Sspec_l4Name_L3 n (spec_l4Name_L3 n n)) (spec_l4Name_L3 n) (eqspec_l4Name_L3 n))) (eq211 n)
theorem ob261 {W:World} (hG:Facts W) (n:Nat):GG W (261,S261 n) :=
 goodOf mixed tabOk Tryz.func261 (E261 n) (G261 n) [] trivial trivial lo0 (eq261 n)
theorem ob213 {W:World} (hG:Facts W) (n:Nat):GG W (213,S213 n) :=
 goodOf mixed tabOk Tryz.func213 (E213 n) (G213 n) [] trivial trivial lo0 (eq213 n)
theorem ob173 {W:World} (hG:Facts W) (n:Nat):GG W (173,S173 n) :=
 goodOf mixed tabOk Tryz.func173 (E173 n) (G173 n) [] ⟨ob127 hG n,trivial⟩ trivial lo0 (eq173 n)
theorem ob212_ {W:World} (hG:Facts W) (n k:Nat) (ih:GG W (172,S172 n k)):GG W (212,S212 n k) :=
 goodOf mixed tabOk Tryz.func212 (E212 n k) (G212 n k) [] ⟨ob261 hG n,ih,trivial⟩ trivial lo0 (eq212 n k)
theorem ob172 {W:World} (hG:Facts W) (n:Nat):∀ k,GG W (172,S172 n k)
 | 0 => ⟨plain_of Tryz.func172 (by kernel_rfl) (by kernel_rfl),fun _ _ _ _ _ _ _ h => by cases h⟩
 | k + 1 =>
  have ih := ob172 hG n k
  goodOf mixed tabOk Tryz.func172 (E172 n k) (G172 n k) [] ⟨ob173 hG n,ob211 hG n,ob212_ hG n k ih,ob213 hG n,ih,trivial⟩ trivial lo0 (eq172 n k)
theorem ob212 {W:World} (hG:Facts W) (n k:Nat):GG W (212,S212 n k) := ob212_ hG n k (ob172 hG n k)
theorem ob142 {W:World} (hG:Facts W) (n:Nat):GG W (142,S142 n) :=
 goodOf mixed tabOk Tryz.func142 (E142 n) (G142 n) [] ⟨ob172 hG n n,trivial⟩ trivial lo0 (eq142 n)
theorem ob244 {W:World} (hG:Facts W) (n:Nat):GG W (244,S244 n) :=
 goodOf mixed tabOk Tryz.func244 (E244 n) (G244 n) [] ⟨ob142 hG n,trivial⟩ trivial lo0 (eq244 n)
theorem ob203 {W:World} (hG:Facts W) (n:Nat):GG W (203,S203 n) :=
 goodOf mixed tabOk Tryz.func203 (E203 n) (G203 n) [] ⟨ob65 hG n,ob244 hG n,trivial⟩ trivial (lol 1 (fun i hi => match i,hi with | 0,_ => lpd n (Sspec_RoleOk_L5 n (spec_RoleOk_L5 n n)) (spec_RoleOk_L5 n) (eqspec_RoleOk_L5 n))) (eq203 n)
theorem ob160 {W:World} (hG:Facts W) (n:Nat):GG W (160,S160 n) :=
 goodOf mixed tabOk Tryz.func160 (E160 n) (G160 n) [] ⟨ob202 hG n,ob203 hG n,trivial⟩ trivial (lol 1 (fun i hi => match i,hi with | 0,_ => lpd n (Sspec_RoleParse_L4 n (spec_RoleParse_L4 n n)) (spec_RoleParse_L4 n) (eqspec_RoleParse_L4 n))) (eq160 n)
theorem ob123 {W:World} (hG:Facts W) (n:Nat):GG W (123,S123 n) :=
 goodOf mixed tabOk Tryz.func123 (E123 n) (G123 n) [] ⟨ob159 hG n,ob160 hG n,trivial⟩ trivial lo0 (eq123 n)
theorem ob79 {W:World} (hG:Facts W) (n:Nat):GG W (79,S79 n) :=
 goodOf mixed tabOk Tryz.func79 (E79 n) (G79 n) [] ⟨ob120 hG n,ob121 hG n,ob122 hG n,ob123 hG n,ob124 hG n,ob65 hG n,trivial⟩ trivial lo0 (eq79 n)
theorem ob80 {W:World} (hG:Facts W) (n:Nat):GG W (80,S80 n) :=
 goodOf mixed tabOk Tryz.func80 (E80 n) (G80 n) [] trivial trivial (lol 1 (fun i hi => match i,hi with | 0,_ => lpd n (Sspec_KnowHas_L2 n (spec_KnowHas_L2 n n)) (spec_KnowHas_L2 n) (eqspec_KnowHas_L2 n))) (eq80 n)
theorem ob31 {W:World} (hG:Facts W) (n:Nat):GG W (31,S31 n) :=
 goodOf mixed tabOk Tryz.func31 (E31 n) (G31 n) [] ⟨ob77 hG n,ob65 hG n,ob78 hG n,ob79 hG n,ob80 hG n,trivial⟩ trivial (lol 3 (fun i hi => match i,hi with | 0,_ => lpd n (Sspec_WorldOk_L6 n (spec_WorldOk_L6 n n)) (spec_WorldOk_L6 n) (eqspec_WorldOk_L6 n) | 1,_ => lpd n (Sspec_WorldOk_L13 n (spec_WorldOk_L13 n n)) (spec_WorldOk_L13 n) (eqspec_WorldOk_L13 n) | 2,_ => lpd n (Sspec_WorldOk_L19 n (spec_WorldOk_L19 n n)) (spec_WorldOk_L19 n) (eqspec_WorldOk_L19 n))) (eq31 n)
theorem ob126 {W:World} (hG:Facts W) (n:Nat):GG W (126,S126 n) :=
 goodOf mixed tabOk Tryz.func126 (E126 n) (G126 n) [] ⟨ob65 hG n,trivial⟩ trivial lo0 (eq126 n)
theorem ob128 {W:World} (hG:Facts W) (n:Nat):GG W (128,S128 n) :=
 goodOf mixed tabOk Tryz.func128 (E128 n) (G128 n) [] ⟨ob158 hG n,ob80 hG n,trivial⟩ trivial lo0 (eq128 n)
theorem ob82 {W:World} (hG:Facts W) (n:Nat):GG W (82,S82 n) :=
 goodOf mixed tabOk Tryz.func82 (E82 n) (G82 n) [] ⟨ob126 hG n,ob127 hG n,ob128 hG n,trivial⟩ trivial lo0 (eq82 n)
theorem ob33 {W:World} (hG:Facts W) (n:Nat):GG W (33,S33 n) :=
 goodOf mixed tabOk Tryz.func33 (E33 n) (G33 n) [] ⟨ob80 hG n,ob82 hG n,trivial⟩ trivial (lol 1 (fun i hi => match i,hi with | 0,_ => lpd n (Sspec_l7All_L3 n (spec_l7All_L3 n n)) (spec_l7All_L3 n) (eqspec_l7All_L3 n))) (eq33 n)
theorem ob125 {W:World} (hG:Facts W) (n:Nat):GG W (125,S125 n) :=
 goodOf mixed tabOk Tryz.func125 (E125 n) (G125 n) [] ⟨ob80 hG n,trivial⟩ trivial (lol 1 (fun i hi => match i,hi with | 0,_ => lpd n (Sspec_l6Put_L4 n (spec_l6Put_L4 n n)) (spec_l6Put_L4 n) (eqspec_l6Put_L4 n))) (eq125 n)
theorem rg81 (n:Nat):RgsAt (E81 n) (bodyOf Tryz.f81) (Q81 n) := ⟨reg6 (exspec_l8Once_R6 n) [],trivial⟩
theorem ob81 {W:World} (hG:Facts W) (n:Nat):GG W (81,S81 n) :=
 goodOf mixed tabOk Tryz.func81 (E81 n) (G81 n) [] ⟨ob33 hG n,ob125 hG n,trivial⟩ trivial (lolr 1 (fun i hi => match i,hi with | 0,_ => lpd n (Sspec_l8Once_L4 n (spec_l8Once_L4 n n)) (spec_l8Once_L4 n) (eqspec_l8Once_L4 n)) (rg81 n)) (eq81 n)
theorem ob32 {W:World} (hG:Facts W) (n:Nat):GG W (32,S32 n) :=
 goodOf mixed tabOk Tryz.func32 (E32 n) (G32 n) [] ⟨ob81 hG n,trivial⟩ trivial (lol 1 (fun i hi => match i,hi with | 0,_ => lpd n (Sspec_l8All_L3 n (spec_l8All_L3 n n)) (spec_l8All_L3 n) (eqspec_l8All_L3 n))) (eq32 n)
theorem ob129 {W:World} (hG:Facts W) (n:Nat):GG W (129,S129 n) :=
 goodOf mixed tabOk Tryz.func129 (E129 n) (G129 n) [] trivial trivial (lol 1 (fun i hi => match i,hi with | 0,_ => lpd n (Sspec_l15Claim_L2 n (spec_l15Claim_L2 n n)) (spec_l15Claim_L2 n) (eqspec_l15Claim_L2 n))) (eq129 n)
theorem ob83 {W:World} (hG:Facts W) (n:Nat):GG W (83,S83 n) :=
 goodOf mixed tabOk Tryz.func83 (E83 n) (G83 n) [] ⟨ob129 hG n,trivial⟩ trivial lo0 (eq83 n)
theorem ob84 {W:World} (hG:Facts W) (n:Nat):GG W (84,S84 n) :=
 goodOf mixed tabOk Tryz.func84 (E84 n) (G84 n) [] ⟨ob65 hG n,trivial⟩ trivial (lol 1 (fun i hi => match i,hi with | 0,_ => lpd n (Sspec_l15Shown_L4 n (spec_l15Shown_L4 n n)) (spec_l15Shown_L4 n) (eqspec_l15Shown_L4 n))) (eq84 n)
theorem ob34 {W:World} (hG:Facts W) (n:Nat):GG W (34,S34 n) :=
 goodOf mixed tabOk Tryz.func34 (E34 n) (G34 n) [] ⟨ob83 hG n,ob84 hG n,ob80 hG n,trivial⟩ trivial lo0 (eq34 n)
theorem ob8 {W:World} (hG:Facts W) (n:Nat):GG W (8,S8 n) :=
 goodOf mixed tabOk Tryz.func8 (E8 n) (G8 n) [] ⟨ob31 hG n,ob32 hG n,ob33 hG n,ob34 hG n,trivial⟩ trivial (lol 1 (fun i hi => match i,hi with | 0,_ => lpd n (Sspec_JudgeSecret_L6 n (spec_JudgeSecret_L6 n n)) (spec_JudgeSecret_L6 n) (eqspec_JudgeSecret_L6 n))) (eq8 n)
theorem ob62 {W:World} (hG:Facts W) (n:Nat):GG W (62,S62 n) :=
 goodOf mixed tabOk Tryz.func62 (E62 n) (G62 n) [] trivial trivial lo0 (eq62 n)
theorem ob131 {W:World} (hG:Facts W) (n:Nat):GG W (131,S131 n) :=
 goodOf mixed tabOk Tryz.func131 (E131 n) (G131 n) [] ⟨ob62 hG n,trivial⟩ trivial lo0 (eq131 n)
theorem ob1131 {W:World} (hG:Facts W) (n:Nat):GG W (131,S1131 n) :=
 goodOf mixed tabOk Tryz.func131 (E1131 n) (G1131 n) [] ⟨ob62 hG n,trivial⟩ trivial lo0 (eq1131 n)
theorem ob204 {W:World} (hG:Facts W) (n:Nat):GG W (204,S204 n) :=
 goodOf mixed tabOk Tryz.func204 (E204 n) (G204 n) [] trivial trivial lo0 (eq204 n)
theorem ob161 {W:World} (hG:Facts W) (n:Nat):GG W (161,S161 n) :=
 goodOf mixed tabOk Tryz.func161 (E161 n) (G161 n) [] ⟨ob204 hG n,ob62 hG n,trivial⟩ trivial lo0 (eq161 n)
theorem rg132 (n:Nat):RgsAt (E132 n) (bodyOf Tryz.f132) (Q132 n) := ⟨⟨by kernel_rfl,fun x y hy => all_of (eximpl_PoolOk_R7 n x) (fun v hv => ((show ∀ v ∈ [impl_PoolOk_R7 n x,impl_PoolOk_R7 n x,impl_PoolOk_R7 n x,impl_PoolOk_R7_1 n x,impl_PoolOk_R7_1 n x,impl_PoolOk_R7_1 n x,impl_PoolOk_R7 n x,impl_PoolOk_R7 n x,impl_PoolOk_R7 n x,impl_PoolOk_R7_1 n x,impl_PoolOk_R7_1 n x,impl_PoolOk_R7_1 n x],v = impl_PoolOk_R7 n x from (List.forall_mem_cons.2 ⟨rfl,(List.forall_mem_cons.2 ⟨rfl,(List.forall_mem_cons.2 ⟨rfl,(List.forall_mem_cons.2 ⟨impl_PoolOk_R7_1_eq n x,(List.forall_mem_cons.2 ⟨impl_PoolOk_R7_1_eq n x,(List.forall_mem_cons.2 ⟨impl_PoolOk_R7_1_eq n x,(List.forall_mem_cons.2 ⟨rfl,(List.forall_mem_cons.2 ⟨rfl,(List.forall_mem_cons.2 ⟨rfl,(List.forall_mem_cons.2 ⟨impl_PoolOk_R7_1_eq n x,(List.forall_mem_cons.2 ⟨impl_PoolOk_R7_1_eq n x,(List.forall_mem_cons.2 ⟨impl_PoolOk_R7_1_eq n x,(fun _ h => by cases h)⟩)⟩)⟩)⟩)⟩)⟩)⟩)⟩)⟩)⟩)⟩)⟩)) v hv).trans (show impl_PoolOk_R7 n x = some y from hy))⟩,trivial⟩
theorem ob132 {W:World} (hG:Facts W) (n:Nat):GG W (132,S132 n) :=
 goodOf mixed tabOk Tryz.func132 (E132 n) (G132 n) [] ⟨ob161 hG n,trivial⟩ trivial (lolr 1 (fun i hi => match i,hi with | 0,_ => lpd n (Simpl_PoolOk_L5 n (impl_PoolOk_L5 n n)) (impl_PoolOk_L5 n) (eqimpl_PoolOk_L5 n)) (rg132 n)) (eq132 n)
theorem ob88 {W:World} (hG:Facts W) (n:Nat):GG W (88,S88 n) :=
 goodOf mixed tabOk Tryz.func88 (E88 n) (G88 n) [] ⟨ob131 hG n,ob132 hG n,trivial⟩ trivial (lol 1 (fun i hi => match i,hi with | 0,_ => lpd n (Simpl_KnowOk_L2 n (impl_KnowOk_L2 n n)) (impl_KnowOk_L2 n) (eqimpl_KnowOk_L2 n))) (eq88 n)
theorem ob89 {W:World} (hG:Facts W) (n:Nat):GG W (89,S89 n) :=
 goodOf mixed tabOk Tryz.func89 (E89 n) (G89 n) [] trivial trivial (lol 1 (fun i hi => match i,hi with | 0,_ => lpd n (Simpl_isAscending_L2 n (impl_isAscending_L2 n n)) (impl_isAscending_L2 n) (eqimpl_isAscending_L2 n))) (eq89 n)
theorem ob163 {W:World} (hG:Facts W) (n:Nat):GG W (163,S163 n) :=
 goodOf mixed tabOk Tryz.func163 (E163 n) (G163 n) [] ⟨ob62 hG n,trivial⟩ trivial lo0 (eq163 n)
theorem ob246 {W:World} (hG:Facts W) (n:Nat):GG W (246,S246 n) :=
 goodOf mixed tabOk Tryz.func246 (E246 n) (G246 n) [] trivial trivial lo0 (eq246 n)
theorem ob294 {W:World} (hG:Facts W) (n:Nat):GG W (294,S294 n) :=
 goodOf mixed tabOk Tryz.func294 (E294 n) (G294 n) [] trivial trivial lo0 (eq294 n)
theorem ob275 {W:World} (hG:Facts W) (n:Nat):GG W (275,S275 n) :=
 goodOf mixed tabOk Tryz.func275 (E275 n) (G275 n) [] ⟨ob294 hG n,trivial⟩ trivial lo0 (eq275 n)
theorem ob245 {W:World} (hG:Facts W) (n:Nat):GG W (245,S245 n) :=
 goodOf mixed tabOk Tryz.func245 (E245 n) (G245 n) [] ⟨ob275 hG n,trivial⟩ trivial lo0 (eq245 n)
theorem ob205 {W:World} (hG:Facts W) (n:Nat):GG W (205,S205 n) :=
 goodOf mixed tabOk Tryz.func205 (E205 n) (G205 n) [] ⟨ob246 hG n,ob245 hG n,trivial⟩ trivial (lol 1 (fun i hi => match i,hi with | 0,_ => lpd n (Simpl_actOf_L2 n (impl_actOf_L2 n n)) (impl_actOf_L2 n) (eqimpl_actOf_L2 n))) (eq205 n)
theorem ob264 {W:World} (hG:Facts W) (n:Nat):GG W (264,S264 n) :=
 goodOf mixed tabOk Tryz.func264 (E264 n) (G264 n) [] trivial trivial lo0 (eq264 n)
theorem ob284 {W:World} (hG:Facts W) (n:Nat):GG W (284,S284 n) :=
 goodOf mixed tabOk Tryz.func284 (E284 n) (G284 n) [] trivial trivial lo0 (eq284 n)
theorem ob262 {W:World} (hG:Facts W) (n:Nat):GG W (262,S262 n) :=
 goodOf mixed tabOk Tryz.func262 (E262 n) (G262 n) [] ⟨ob264 hG n,ob284 hG n,ob115 hG,ob63 hG,trivial⟩ trivial (lol 1 (fun i hi => match i,hi with | 0,_ => lpd n (Simpl_reader_figures_L2 n (impl_reader_figures_L2 n n)) (impl_reader_figures_L2 n) (eqimpl_reader_figures_L2 n))) (eq262 n)
theorem ob263 {W:World} (hG:Facts W) (n:Nat):GG W (263,S263 n) :=
 goodOf mixed tabOk Tryz.func263 (E263 n) (G263 n) [] trivial trivial lo0 (eq263 n)
theorem ob215 {W:World} (hG:Facts W) (n:Nat):GG W (215,S215 n) :=
 goodOf mixed tabOk Tryz.func215 (E215 n) (G215 n) [] ⟨ob262 hG n,ob62 hG n,ob263 hG n,trivial⟩ trivial lo0 (eq215 n)
theorem ob216 {W:World} (hG:Facts W) (n:Nat):GG W (216,S216 n) :=
 goodOf mixed tabOk Tryz.func216 (E216 n) (G216 n) [] ⟨ob264 hG n,ob263 hG n,trivial⟩ trivial lo0 (eq216 n)
theorem rg217 (n:Nat):RgsAt (E217 n) (bodyOf Tryz.f217) (Q217 n) := ⟨regN (eximpl_pattern_put_R1 n),trivial⟩
theorem ob217 {W:World} (hG:Facts W) (n:Nat):GG W (217,S217 n) :=
 goodOf mixed tabOk Tryz.func217 (E217 n) (G217 n) [] trivial trivial (lor (rg217 n)) (eq217 n)
theorem ob214 {W:World} (hG:Facts W) (n:Nat):GG W (214,S214 n) :=
 goodOf mixed tabOk Tryz.func214 (E214 n) (G214 n) [] ⟨ob215 hG n,ob217 hG n,ob216 hG n,trivial⟩ trivial lo0 (eq214 n)
theorem ob218 {W:World} (hG:Facts W) (n:Nat):GG W (218,S218 n) :=
 goodOf mixed tabOk Tryz.func218 (E218 n) (G218 n) [] ⟨ob217 hG n,trivial⟩ trivial lo0 (eq218 n)
theorem ob285 {W:World} (hG:Facts W) (n:Nat):GG W (285,S285 n) :=
 goodOf mixed tabOk Tryz.func285 (E285 n) (G285 n) [] trivial trivial (lol 1 (fun i hi => match i,hi with | 0,_ => lpd n (Simpl_isOneOf_L2 n (impl_isOneOf_L2 n n)) (impl_isOneOf_L2 n) (eqimpl_isOneOf_L2 n))) (eq285 n)
theorem ob287 {W:World} (hG:Facts W) (n:Nat):GG W (287,S287 n) :=
 goodOf mixed tabOk Tryz.func287 (E287 n) (G287 n) [] trivial trivial lo0 (eq287 n)
theorem ob288 {W:World} (hG:Facts W) (n:Nat):GG W (288,S288 n) :=
 goodOf mixed tabOk Tryz.func288 (E288 n) (G288 n) [] ⟨ob263 hG n,trivial⟩ trivial lo0 (eq288 n)
theorem ob286_ {W:World} (hG:Facts W) (n k:Nat) (ih:GG W (265,S265 n k)):GG W (286,S286 n k) :=
 goodOf mixed tabOk Tryz.func286 (E286 n k) (G286 n k) [] ⟨ih,ob288 hG n,trivial⟩ trivial lo0 (eq286 n k)
theorem ob265 {W:World} (hG:Facts W) (n:Nat):∀ k,GG W (265,S265 n k)
 | 0 => ⟨plain_of Tryz.func265 (by kernel_rfl) (by kernel_rfl),fun _ _ _ _ _ _ _ h => by cases h⟩
 | k + 1 =>
  have ih := ob265 hG n k
  goodOf mixed tabOk Tryz.func265 (E265 n k) (G265 n k) [] ⟨ob264 hG n,ob263 hG n,ob214 hG n,ob285 hG n,ob287 hG n,ob286_ hG n k ih,ob218 hG n,ih,ob288 hG n,trivial⟩ trivial lo0 (eq265 n k)
theorem ob286 {W:World} (hG:Facts W) (n k:Nat):GG W (286,S286 n k) := ob286_ hG n k (ob265 hG n k)
theorem ob219 {W:World} (hG:Facts W) (n:Nat):GG W (219,S219 n) :=
 goodOf mixed tabOk Tryz.func219 (E219 n) (G219 n) [] ⟨ob263 hG n,ob265 hG n n,trivial⟩ trivial lo0 (eq219 n)
theorem ob175 {W:World} (hG:Facts W) (n:Nat):GG W (175,S175 n) :=
 goodOf mixed tabOk Tryz.func175 (E175 n) (G175 n) [] ⟨ob219 hG n,trivial⟩ trivial lo0 (eq175 n)
theorem ob177 {W:World} (hG:Facts W) (n:Nat):GG W (177,S177 n) :=
 goodOf mixed tabOk Tryz.func177 (E177 n) (G177 n) [] trivial trivial lo0 (eq177 n)
theorem ob176 {W:World} (hG:Facts W) (n:Nat):∀ k,GG W (176,S176 n k)
 | 0 => ⟨plain_of Tryz.func176 (by kernel_rfl) (by kernel_rfl),fun _ _ _ _ _ _ _ h => by cases h⟩
 | k + 1 =>
  have ih := ob176 hG n k
  goodOf mixed tabOk Tryz.func176 (E176 n k) (G176 n k) [] ⟨ih,trivial⟩ trivial (lol 1 (fun i hi => match i,hi with | 0,_ => lpd n (Simpl_pattern_has_L3 n (impl_pattern_has_L3 n (impl_pattern_has n k) n)) (impl_pattern_has_L3 n (impl_pattern_has n k)) (fun m x => eqimpl_pattern_has_L3 n m k x))) (eq176 n k)
theorem ob276 {W:World} (hG:Facts W) (n:Nat):GG W (276,S276 n) :=
 goodOf mixed tabOk Tryz.func276 (E276 n) (G276 n) [] ⟨ob175 hG n,trivial⟩ trivial lo0 (eq276 n)
theorem ob247 {W:World} (hG:Facts W) (n:Nat):GG W (247,S247 n) :=
 goodOf mixed tabOk Tryz.func247 (E247 n) (G247 n) [] ⟨ob175 hG n,ob177 hG n,ob176 hG n n,ob276 hG n,trivial⟩ trivial lo0 (eq247 n)
theorem ob206 {W:World} (hG:Facts W) (n:Nat):GG W (206,S206 n) :=
 goodOf mixed tabOk Tryz.func206 (E206 n) (G206 n) [] ⟨ob247 hG n,ob62 hG n,trivial⟩ trivial (lol 1 (fun i hi => match i,hi with | 0,_ => lpd n (Simpl_RoleOk_L2 n (impl_RoleOk_L2 n n)) (impl_RoleOk_L2 n) (eqimpl_RoleOk_L2 n))) (eq206 n)
theorem ob207 {W:World} (hG:Facts W) (n:Nat):Good Tryz.prog (Glob.of W) (207,S207 n) := rolePrint_good (ob206 hG n) (ob246 hG n)
theorem ob162 {W:World} (hG:Facts W) (n:Nat):GG W (162,S162 n) :=
 goodOf mixed tabOk Tryz.func162 (E162 n) (G162 n) [] ⟨ob68 hG,ob205 hG n,ob206 hG n,ob207 hG n,trivial⟩ trivial (lol 1 (fun i hi => match i,hi with | 0,_ => lpd n (Simpl_RoleParse_L3 n (impl_RoleParse_L3 n n)) (impl_RoleParse_L3 n) (eqimpl_RoleParse_L3 n))) (eq162 n)
theorem ob133 {W:World} (hG:Facts W) (n:Nat):GG W (133,S133 n) :=
 goodOf mixed tabOk Tryz.func133 (E133 n) (G133 n) [] ⟨ob163 hG n,ob162 hG n,trivial⟩ trivial lo0 (eq133 n)
theorem ob91 {W:World} (hG:Facts W) (n:Nat):GG W (91,S91 n) :=
 goodOf mixed tabOk Tryz.func91 (E91 n) (G91 n) [] ⟨ob62 hG n,trivial⟩ trivial lo0 (eq91 n)
theorem ob134 {W:World} (hG:Facts W) (n:Nat):GG W (134,S134 n) :=
 goodOf mixed tabOk Tryz.func134 (E134 n) (G134 n) [] ⟨ob131 hG n,ob132 hG n,trivial⟩ trivial (lol 1 (fun i hi => match i,hi with | 0,_ => lpd n (Simpl_EnvOk_L2 n (impl_EnvOk_L2 n n)) (impl_EnvOk_L2 n) (eqimpl_EnvOk_L2 n))) (eq134 n)
theorem ob90 {W:World} (hG:Facts W) (n:Nat):GG W (90,S90 n) :=
 goodOf mixed tabOk Tryz.func90 (E90 n) (G90 n) [] ⟨ob133 hG n,ob91 hG n,ob134 hG n,ob62 hG n,ob131 hG n,trivial⟩ trivial lo0 (eq90 n)
theorem ob51 {W:World} (hG:Facts W) (n:Nat):GG W (51,S51 n) :=
 goodOf mixed tabOk Tryz.func51 (E51 n) (G51 n) [] ⟨ob62 hG n,trivial⟩ trivial lo0 (eq51 n)
theorem ob92 {W:World} (hG:Facts W) (n:Nat):GG W (92,S92 n) :=
 goodOf mixed tabOk Tryz.func92 (E92 n) (G92 n) [] ⟨ob51 hG n,trivial⟩ trivial lo0 (eq92 n)
theorem ob93 {W:World} (hG:Facts W) (n:Nat):GG W (93,S93 n) :=
 goodOf mixed tabOk Tryz.func93 (E93 n) (G93 n) [] ⟨ob92 hG n,trivial⟩ trivial (lol 2 (fun i hi => match i,hi with | 0,_ => lpd n (Simpl_World_logOk_L3 n (impl_World_logOk_L3 n n)) (impl_World_logOk_L3 n) (eqimpl_World_logOk_L3 n) | 1,_ => lpd n (Simpl_World_logOk_L10 n (impl_World_logOk_L10 n n)) (impl_World_logOk_L10 n) (eqimpl_World_logOk_L10 n))) (eq93 n)
theorem ob39 {W:World} (hG:Facts W) (n:Nat):GG W (39,S39 n) :=
 goodOf mixed tabOk Tryz.func39 (E39 n) (G39 n) [] ⟨ob88 hG n,ob62 hG n,ob89 hG n,ob90 hG n,ob91 hG n,ob92 hG n,ob93 hG n,trivial⟩ trivial (lol 3 (fun i hi => match i,hi with | 0,_ => lpd n (Simpl_WorldOk_L4 n (impl_WorldOk_L4 n n)) (impl_WorldOk_L4 n) (eqimpl_WorldOk_L4 n) | 1,_ => lpd n (Simpl_WorldOk_L10 n (impl_WorldOk_L10 n n)) (impl_WorldOk_L10 n) (eqimpl_WorldOk_L10 n) | 2,_ => lpd n (Simpl_WorldOk_L16 n (impl_WorldOk_L16 n n)) (impl_WorldOk_L16 n) (eqimpl_WorldOk_L16 n))) (eq39 n)
theorem ob168 {W:World} (hG:Facts W) (n:Nat):GG W (168,S168 n) :=
 goodOf mixed tabOk Tryz.func168 (E168 n) (G168 n) [] ⟨ob62 hG n,trivial⟩ trivial lo0 (eq168 n)
theorem ob169 {W:World} (hG:Facts W) (n:Nat):GG W (169,S169 n) :=
 goodOf mixed tabOk Tryz.func169 (E169 n) (G169 n) [] ⟨ob204 hG n,trivial⟩ trivial lo0 (eq169 n)
theorem ob260 {W:World} (hG:Facts W) (n:Nat):GG W (260,S260 n) :=
 goodOf mixed tabOk Tryz.func260 (E260 n) (G260 n) [] trivial trivial (lol 1 (fun i hi => match i,hi with | 0,_ => lpd n (Sslices_Index___impl_Node_impl_Node__L2 n (slices_Index___impl_Node_impl_Node__L2 n n)) (slices_Index___impl_Node_impl_Node__L2 n) (eqslices_Index___impl_Node_impl_Node__L2 n))) (eq260 n)
theorem ob210 {W:World} (hG:Facts W) (n:Nat):GG W (210,S210 n) :=
 goodOf mixed tabOk Tryz.func210 (E210 n) (G210 n) [] ⟨ob260 hG n,trivial⟩ trivial lo0 (eq210 n)
theorem ob1210 {W:World} (hG:Facts W) (n:Nat):GG W (210,S1210 n) :=
 goodOf mixed tabOk Tryz.func210 (E1210 n) (G1210 n) [] ⟨ob260 hG n,trivial⟩ trivial lo0 (eq1210 n)
theorem ob170 {W:World} (hG:Facts W) (n:Nat):GG W (170,S170 n) :=
 goodOf mixed tabOk Tryz.func170 (E170 n) (G170 n) [] ⟨ob210 hG n,trivial⟩ trivial lo0 (eq170 n)
theorem ob136 {W:World} (hG:Facts W) (n:Nat):GG W (136,S136 n) :=
 goodOf mixed tabOk Tryz.func136 (E136 n) (G136 n) [] ⟨ob168 hG n,ob169 hG n,ob170 hG n,trivial⟩ trivial (lol 1 (fun i hi => match i,hi with | 0,_ => lpd n (Simpl_Pool_canMake_L6 n (impl_Pool_canMake_L6 n n)) (impl_Pool_canMake_L6 n) (eqimpl_Pool_canMake_L6 n))) (eq136 n)
theorem ob95 {W:World} (hG:Facts W) (n:Nat):GG W (95,S95 n) :=
 goodOf mixed tabOk Tryz.func95 (E95 n) (G95 n) [] ⟨ob136 hG n,trivial⟩ trivial (lol 3 (fun i hi => match i,hi with | 0,_ => lpd n (Simpl_Pool_makes_L3 n (impl_Pool_makes_L3 n n)) (impl_Pool_makes_L3 n) (eqimpl_Pool_makes_L3 n) | 1,_ => lpd n (Simpl_Pool_makes_L8 n (impl_Pool_makes_L8 n n)) (impl_Pool_makes_L8 n) (eqimpl_Pool_makes_L8 n) | 2,_ => lpd n (Simpl_Pool_makes_L11 n (impl_Pool_makes_L11 n n)) (impl_Pool_makes_L11 n) (eqimpl_Pool_makes_L11 n))) (eq95 n)
theorem ob135 {W:World} (hG:Facts W) (n:Nat):GG W (135,S135 n) :=
 goodOf mixed tabOk Tryz.func135 (E135 n) (G135 n) [] ⟨ob95 hG n,ob164 hG,ob165 hG,ob167 hG,ob166 hG,trivial⟩ trivial (lol 1 (fun i hi => match i,hi with | 0,_ => lpd n (Simpl_Pool_openOnce_L4 n (impl_Pool_openOnce_L4 n n)) (impl_Pool_openOnce_L4 n) (eqimpl_Pool_openOnce_L4 n))) (eq135 n)
theorem ob94 {W:World} (hG:Facts W) (n:Nat):GG W (94,S94 n) :=
 goodOf mixed tabOk Tryz.func94 (E94 n) (G94 n) [] ⟨ob135 hG n,trivial⟩ trivial (lol 1 (fun i hi => match i,hi with | 0,_ => lpd n (Simpl_Pool_openAll_L2 n (impl_Pool_openAll_L2 n n)) (impl_Pool_openAll_L2 n) (eqimpl_Pool_openAll_L2 n))) (eq94 n)
theorem ob40 {W:World} (hG:Facts W) (n:Nat):GG W (40,S40 n) :=
 goodOf mixed tabOk Tryz.func40 (E40 n) (G40 n) [] ⟨ob94 hG n,ob95 hG n,trivial⟩ trivial lo0 (eq40 n)
theorem ob137 {W:World} (hG:Facts W) (n:Nat):GG W (137,S137 n) :=
 goodOf mixed tabOk Tryz.func137 (E137 n) (G137 n) [] trivial trivial (lol 1 (fun i hi => match i,hi with | 0,_ => lpd n (Simpl_World_claimOf_L2 n (impl_World_claimOf_L2 n n)) (impl_World_claimOf_L2 n) (eqimpl_World_claimOf_L2 n))) (eq137 n)
theorem ob96 {W:World} (hG:Facts W) (n:Nat):GG W (96,S96 n) :=
 goodOf mixed tabOk Tryz.func96 (E96 n) (G96 n) [] ⟨ob137 hG n,trivial⟩ trivial lo0 (eq96 n)
theorem ob139 {W:World} (hG:Facts W) (n:Nat):GG W (139,S139 n) :=
 goodOf mixed tabOk Tryz.func139 (E139 n) (G139 n) [] trivial trivial lo0 (eq139 n)
theorem ob171 {W:World} (hG:Facts W) (n:Nat):GG W (171,S171 n) :=
 goodOf mixed tabOk Tryz.func171 (E171 n) (G171 n) [] ⟨ob139 hG n,trivial⟩ trivial (lol 1 (fun i hi => match i,hi with | 0,_ => lpd n (Sslices_IndexFunc___int_int__L2 n (slices_IndexFunc___int_int__L2 n n)) (slices_IndexFunc___int_int__L2 n) (eqslices_IndexFunc___int_int__L2 n))) (eq171 n)
theorem ob138 {W:World} (hG:Facts W) (n:Nat):GG W (138,S138 n) :=
 goodOf mixed tabOk Tryz.func138 (E138 n) (G138 n) [] ⟨ob171 hG n,trivial⟩ trivial lo0 (eq138 n)
theorem ob97 {W:World} (hG:Facts W) (n:Nat):GG W (97,S97 n) :=
 goodOf mixed tabOk Tryz.func97 (E97 n) (G97 n) [] ⟨ob92 hG n,ob138 hG n,trivial⟩ trivial lo0 (eq97 n)
theorem ob141 {W:World} (hG:Facts W) (n:Nat):GG W (141,S141 n) :=
 goodOf mixed tabOk Tryz.func141 (E141 n) (G141 n) [] trivial trivial (lol 1 (fun i hi => match i,hi with | 0,_ => lpd n (Sslices_Index___int_int__L2 n (slices_Index___int_int__L2 n n)) (slices_Index___int_int__L2 n) (eqslices_Index___int_int__L2 n))) (eq141 n)
theorem ob102 {W:World} (hG:Facts W) (n:Nat):GG W (102,S102 n) :=
 goodOf mixed tabOk Tryz.func102 (E102 n) (G102 n) [] ⟨ob141 hG n,trivial⟩ trivial lo0 (eq102 n)
theorem ob98 {W:World} (hG:Facts W) (n:Nat):GG W (98,S98 n) :=
 goodOf mixed tabOk Tryz.func98 (E98 n) (G98 n) [] ⟨ob102 hG n,trivial⟩ trivial lo0 (eq98 n)
theorem ob41 {W:World} (hG:Facts W) (n:Nat):GG W (41,S41 n) :=
 goodOf mixed tabOk Tryz.func41 (E41 n) (G41 n) [] ⟨ob96 hG n,ob97 hG n,ob98 hG n,trivial⟩ trivial lo0 (eq41 n)
theorem ob10 {W:World} (hG:Facts W) (n:Nat):GG W (10,S10 n) :=
 goodOf mixed tabOk Tryz.func10 (E10 n) (G10 n) [] ⟨ob39 hG n,ob40 hG n,ob41 hG n,trivial⟩ trivial (lol 1 (fun i hi => match i,hi with | 0,_ => lpd n (Simpl_JudgeSecret_L5 n (impl_JudgeSecret_L5 n n)) (impl_JudgeSecret_L5 n) (eqimpl_JudgeSecret_L5 n))) (eq10 n)
theorem ob140 {W:World} (hG:Facts W) (n:Nat):GG W (140,S140 n) :=
 goodOf mixed tabOk Tryz.func140 (E140 n) (G140 n) [] trivial trivial lo0 (eq140 n)
theorem ob99 {W:World} (hG:Facts W) (n:Nat):GG W (99,S99 n) :=
 goodOf mixed tabOk Tryz.func99 (E99 n) (G99 n) [] ⟨ob140 hG n,trivial⟩ trivial (lol 1 (fun i hi => match i,hi with | 0,_ => lpd n (Slaws_eqNodeS_L4 n (laws_eqNodeS_L4 n n)) (laws_eqNodeS_L4 n) (eqlaws_eqNodeS_L4 n))) (eq99 n)
theorem ob42 {W:World} (hG:Facts W) (n:Nat):GG W (42,S42 n) :=
 goodOf mixed tabOk Tryz.func42 (E42 n) (G42 n) [] ⟨ob99 hG n,trivial⟩ trivial lo0 (eq42 n)
theorem ob14 {W:World} (hG:Facts W) (n:Nat):GG W (14,S14 n) :=
 goodOf mixed tabOk Tryz.func14 (E14 n) (G14 n) [] trivial trivial (lol 1 (fun i hi => match i,hi with | 0,_ => lpd n (Slaws_eqIntS_L4 n (laws_eqIntS_L4 n n)) (laws_eqIntS_L4 n) (eqlaws_eqIntS_L4 n))) (eq14 n)
theorem ob100 {W:World} (hG:Facts W) (n:Nat):GG W (100,S100 n) :=
 goodOf mixed tabOk Tryz.func100 (E100 n) (G100 n) [] ⟨ob14 hG n,trivial⟩ trivial lo0 (eq100 n)
theorem ob43 {W:World} (hG:Facts W) (n:Nat):GG W (43,S43 n) :=
 goodOf mixed tabOk Tryz.func43 (E43 n) (G43 n) [] ⟨ob100 hG n,trivial⟩ trivial (lol 1 (fun i hi => match i,hi with | 0,_ => lpd n (Slaws_eqInstS_L4 n (laws_eqInstS_L4 n n)) (laws_eqInstS_L4 n) (eqlaws_eqInstS_L4 n))) (eq43 n)
theorem ob101 {W:World} (hG:Facts W) (n:Nat):GG W (101,S101 n) :=
 goodOf mixed tabOk Tryz.func101 (E101 n) (G101 n) [] trivial trivial lo0 (eq101 n)
theorem ob44 {W:World} (hG:Facts W) (n:Nat):GG W (44,S44 n) :=
 goodOf mixed tabOk Tryz.func44 (E44 n) (G44 n) [] ⟨ob101 hG n,trivial⟩ trivial (lol 1 (fun i hi => match i,hi with | 0,_ => lpd n (Slaws_eqClaimS_L4 n (laws_eqClaimS_L4 n n)) (laws_eqClaimS_L4 n) (eqlaws_eqClaimS_L4 n))) (eq44 n)
theorem ob11 {W:World} (hG:Facts W) (n:Nat):GG W (11,S11 n) :=
 goodOf mixed tabOk Tryz.func11 (E11 n) (G11 n) [] ⟨ob42 hG n,ob14 hG n,ob43 hG n,ob44 hG n,trivial⟩ trivial lo0 (eq11 n)
theorem ob3 {W:World} (hG:Facts W) (n:Nat):GG W (3,S3 n) :=
 goodOf mixed tabOk Tryz.func3 (E3 n) (G3 n) [] ⟨ob7 hG n,ob9 hG n,ob8 hG n,ob10 hG n,ob11 hG n,trivial⟩ trivial lo0 (eq3 n)
end AM
end Go.Proofs.YtobpcllkonomlabGreatDoor
