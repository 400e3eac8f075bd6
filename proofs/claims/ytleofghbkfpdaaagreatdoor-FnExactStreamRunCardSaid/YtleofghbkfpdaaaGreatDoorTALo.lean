/- Each function that the laws reach obeys its summary. Under: what the rows list of the library's variables. -/
import Derived.Test.YtleofghbkfpdaaaGreatDoorTALd
import Derived.Test.YtleofghbkfpdaaaGreatDoorTW3
import Derived.Test.YtleofghbkfpdaaaGreatDoorTW4
import Derived.Test.YtleofghbkfpdaaaGreatDoorProg
import Derived.Test.YtleofghbkfpdaaaGreatDoorTShelf
import Derived.Test.YtleofghbkfpdaaaGreatDoorTP1
import Derived.Lib.IndexMore
import Derived.Lib.ItoaNum
import Derived.Lib.Split
import Derived.Lib.CountLaws
namespace Go.Proofs.YtleofghbkfpdaaaGreatDoor
namespace AM
open Go
set_option linter.unusedVariables false
abbrev GG (W:World) (p:Nat×FSum):Prop := Good Tryz.prog (Glob.of W) p
theorem ob175 {W:World} (hG:Facts W) (n:Nat):GG W (175,S175 n) :=
 goodOf mixed tabOk Tryz.func175 (E175 n) (G175 n) [] trivial trivial lo0 (eq175 n)
theorem ob101 {W:World} (hG:Facts W) (n:Nat):GG W (101,S101 n) :=
 goodOf mixed tabOk Tryz.func101 (E101 n) (G101 n) [] ⟨ob175 hG n,trivial⟩ trivial lo0 (eq101 n)
theorem ob102 {W:World} (hG:Facts W) (n:Nat):GG W (102,S102 n) :=
 goodOf mixed tabOk Tryz.func102 (E102 n) (G102 n) [] trivial trivial lo0 (eq102 n)
theorem ob29 {W:World} (hG:Facts W) (n:Nat):GG W (29,S29 n) :=
 goodOf mixed tabOk Tryz.func29 (E29 n) (G29 n) [] ⟨ob101 hG n,ob102 hG n,trivial⟩ trivial lo0 (eq29 n)
theorem ob30 {W:World} (hG:Facts W) (n:Nat):GG W (30,S30 n) :=
 goodOf mixed tabOk Tryz.func30 (E30 n) (G30 n) [] trivial trivial lo0 (eq30 n)
theorem ob36 {W:World} (hG:Facts W) (n:Nat):GG W (36,S36 n) :=
 goodOf mixed tabOk Tryz.func36 (E36 n) (G36 n) [] ⟨ob30 hG n,trivial⟩ trivial (lol 1 (fun i hi => match i,hi with | 0,_ => lpd n (Slaws_szActionS_L5 n (laws_szActionS_L5 n n)) (laws_szActionS_L5 n) (eqlaws_szActionS_L5 n))) (eq36 n)
theorem ob237 {W:World} (hG:Facts W) (n:Nat):GG W (237,S237 n) :=
 goodOf mixed tabOk Tryz.func237 (E237 n) (G237 n) [] trivial trivial lo0 (eq237 n)
theorem ob176 {W:World} (hG:Facts W) (n:Nat):GG W (176,S176 n) :=
 goodOf mixed tabOk Tryz.func176 (E176 n) (G176 n) [] ⟨ob237 hG n,trivial⟩ trivial (lol 1 (fun i hi => match i,hi with | 0,_ => lpd n (Slaws_toNodeS_L3 n (laws_toNodeS_L3 n n)) (laws_toNodeS_L3 n) (eqlaws_toNodeS_L3 n))) (eq176 n)
theorem ob103 {W:World} (hG:Facts W) (n:Nat):GG W (103,S103 n) :=
 goodOf mixed tabOk Tryz.func103 (E103 n) (G103 n) [] ⟨ob176 hG n,trivial⟩ trivial lo0 (eq103 n)
theorem ob1103 {W:World} (hG:Facts W) (n:Nat):GG W (103,S1103 n) :=
 goodOf mixed tabOk Tryz.func103 (E1103 n) (G1103 n) [] ⟨ob176 hG n,trivial⟩ trivial lo0 (eq1103 n)
theorem ob104 {W:World} (hG:Facts W) (n:Nat):GG W (104,S104 n) :=
 goodOf mixed tabOk Tryz.func104 (E104 n) (G104 n) [] trivial trivial (lol 1 (fun i hi => match i,hi with | 0,_ => lpd n (Slaws_toIntS_L3 n (laws_toIntS_L3 n n)) (laws_toIntS_L3 n) (eqlaws_toIntS_L3 n))) (eq104 n)
theorem ob105 {W:World} (hG:Facts W) (n:Nat):GG W (105,S105 n) :=
 goodOf mixed tabOk Tryz.func105 (E105 n) (G105 n) [] trivial trivial lo0 (eq105 n)
theorem ob31 {W:World} (hG:Facts W) (n:Nat):GG W (31,S31 n) :=
 goodOf mixed tabOk Tryz.func31 (E31 n) (G31 n) [] ⟨ob103 hG n,ob104 hG n,ob105 hG n,trivial⟩ trivial lo0 (eq31 n)
theorem ob1031 {W:World} (hG:Facts W) (n:Nat):GG W (31,S1031 n) :=
 goodOf mixed tabOk Tryz.func31 (E1031 n) (G1031 n) [] ⟨ob103 hG n,ob104 hG n,ob105 hG n,trivial⟩ trivial lo0 (eq1031 n)
theorem ob32 {W:World} (hG:Facts W) (n:Nat):GG W (32,S32 n) :=
 goodOf mixed tabOk Tryz.func32 (E32 n) (G32 n) [] trivial trivial lo0 (eq32 n)
theorem ob38 {W:World} (hG:Facts W) (n:Nat):GG W (38,S38 n) :=
 goodOf mixed tabOk Tryz.func38 (E38 n) (G38 n) [] ⟨ob32 hG n,trivial⟩ trivial (lol 1 (fun i hi => match i,hi with | 0,_ => lpd n (Slaws_toActionS_L3 n (laws_toActionS_L3 n n)) (laws_toActionS_L3 n) (eqlaws_toActionS_L3 n))) (eq38 n)
theorem ob1038 {W:World} (hG:Facts W) (n:Nat):GG W (38,S1038 n) :=
 goodOf mixed tabOk Tryz.func38 (E1038 n) (G1038 n) [] ⟨ob32 hG n,trivial⟩ trivial (lol 1 (fun i hi => match i,hi with | 0,_ => lpd n (Slaws_toActionS_o_L3 n (laws_toActionS_o_L3 n n)) (laws_toActionS_o_L3 n) (eqlaws_toActionS_o_L3 n))) (eq1038 n)
theorem ob55 {W:World} (hG:Facts W) (n:Nat):GG W (55,S55 n) :=
 goodOf mixed tabOk Tryz.func55 (E55 n) (G55 n) [] trivial trivial lo0 (eq55 n)
theorem rg91 (n:Nat):RgsAt (E91 n) (bodyOf Tryz.f91) (Q91 n) := ⟨reg6 (exspec_l19Copy_R1 n) [(6,6),(14,14),(18,18)],trivial⟩
theorem ob91 {W:World} (hG:Facts W) (n:Nat):GG W (91,S91 n) :=
 goodOf mixed tabOk Tryz.func91 (E91 n) (G91 n) [] ⟨ob55 hG n,trivial⟩ trivial (lor (rg91 n)) (eq91 n)
theorem ob193 {W:World} (hG:Facts W) (n:Nat):GG W (193,S193 n) :=
 goodOf mixed tabOk Tryz.func193 (E193 n) (G193 n) [] trivial trivial lo0 (eq193 n)
theorem ob152 {W:World} (hG:Facts W) (n:Nat):GG W (152,S152 n) :=
 goodOf mixed tabOk Tryz.func152 (E152 n) (G152 n) [] trivial trivial lo0 (eq152 n)
theorem ob143 {W:World} (hG:Facts W) (n:Nat):GG W (143,S143 n) :=
 goodOf mixed tabOk Tryz.func143 (E143 n) (G143 n) [] ⟨ob193 hG n,ob152 hG n,trivial⟩ trivial lo0 (eq143 n)
theorem ob144 {W:World} (hG:Facts W) (n:Nat):GG W (144,S144 n) :=
 goodOf mixed tabOk Tryz.func144 (E144 n) (G144 n) [] trivial trivial (lol 1 (fun i hi => match i,hi with | 0,_ => lpd n (Sspec_l1Find_L2 n (spec_l1Find_L2 n n)) (spec_l1Find_L2 n) (eqspec_l1Find_L2 n))) (eq144 n)
theorem ob54 {W:World} (hG:Facts W) (n:Nat):GG W (54,S54 n) :=
 goodOf mixed tabOk Tryz.func54 (E54 n) (G54 n) [] ⟨ob143 hG n,ob144 hG n,trivial⟩ trivial (lol 1 (fun i hi => match i,hi with | 0,_ => lpd n (Sspec_PoolOk_L4 n (spec_PoolOk_L4 n n)) (spec_PoolOk_L4 n) (eqspec_PoolOk_L4 n))) (eq54 n)
theorem ob151 {W:World} (hG:Facts W) (n:Nat):GG W (151,S151 n) :=
 goodOf mixed tabOk Tryz.func151 (E151 n) (G151 n) [] ⟨ob152 hG n,trivial⟩ trivial lo0 (eq151 n)
theorem ob173 {W:World} (hG:Facts W) (n:Nat):GG W (173,S173 n) :=
 goodOf mixed tabOk Tryz.func173 (E173 n) (G173 n) [] ⟨ob151 hG n,trivial⟩ trivial (lol 1 (fun i hi => match i,hi with | 0,_ => lpd n (Sspec_l6Know_L4 n (spec_l6Know_L4 n n)) (spec_l6Know_L4 n) (eqspec_l6Know_L4 n))) (eq173 n)
theorem ob93 {W:World} (hG:Facts W) (n:Nat):GG W (93,S93 n) :=
 goodOf mixed tabOk Tryz.func93 (E93 n) (G93 n) [] ⟨ob54 hG n,ob173 hG n,trivial⟩ trivial lo0 (eq93 n)
theorem ob94 {W:World} (hG:Facts W) (n:Nat):GG W (94,S94 n) :=
 goodOf mixed tabOk Tryz.func94 (E94 n) (G94 n) [] ⟨ob151 hG n,ob152 hG n,trivial⟩ trivial lo0 (eq94 n)
theorem ob95 {W:World} (hG:Facts W) (n:Nat):GG W (95,S95 n) :=
 goodOf mixed tabOk Tryz.func95 (E95 n) (G95 n) [] ⟨ob151 hG n,trivial⟩ trivial (lol 1 (fun i hi => match i,hi with | 0,_ => lpd n (Sspec_l19Terms_L2 n (spec_l19Terms_L2 n n)) (spec_l19Terms_L2 n) (eqspec_l19Terms_L2 n))) (eq95 n)
theorem ob24 {W:World} (hG:Facts W) (n:Nat):GG W (24,S24 n) :=
 goodOf mixed tabOk Tryz.func24 (E24 n) (G24 n) [] ⟨ob93 hG n,ob94 hG n,ob95 hG n,trivial⟩ trivial lo0 (eq24 n)
theorem ob90 {W:World} (hG:Facts W) (n:Nat):GG W (90,S90 n) :=
 goodOf mixed tabOk Tryz.func90 (E90 n) (G90 n) [] trivial trivial lo0 (eq90 n)
theorem ob233 {W:World} (hG:Facts W) (n:Nat):GG W (233,S233 n) :=
 goodOf mixed tabOk Tryz.func233 (E233 n) (G233 n) [] trivial trivial lo0 (eq233 n)
theorem rg84 (n:Nat):RgsAt (E84 n) (bodyOf Tryz.f84) (Q84 n) := ⟨reg6 (exspec_l1Add_R10 n) [(4,4)],trivial⟩
theorem ob84 {W:World} (hG:Facts W) (n:Nat):GG W (84,S84 n) :=
 goodOf mixed tabOk Tryz.func84 (E84 n) (G84 n) [] ⟨ob144 hG n,ob143 hG n,ob55 hG n,trivial⟩ trivial (lor (rg84 n)) (eq84 n)
theorem ob83 {W:World} (hG:Facts W) (n:Nat):GG W (83,S83 n) :=
 goodOf mixed tabOk Tryz.func83 (E83 n) (G83 n) [] ⟨ob84 hG n,trivial⟩ trivial lo0 (eq83 n)
theorem ob234 {W:World} (hG:Facts W) (n:Nat):GG W (234,S234 n) :=
 goodOf mixed tabOk Tryz.func234 (E234 n) (G234 n) [] ⟨ob83 hG n,ob84 hG n,trivial⟩ trivial lo0 (eq234 n)
theorem rg168 (n:Nat):RgsAt (E168 n) (bodyOf Tryz.f168) (Q168 n) := ⟨reg6 (exspec_l18Send_R2 n) [(2,6),(3,7)],reg6 (exspec_l18Send_R5 n) [(2,6),(3,7)],reg6 (exspec_l18Send_R7 n) [(3,6),(4,7)],trivial⟩
theorem ob168 {W:World} (hG:Facts W) (n:Nat):GG W (168,S168 n) :=
 goodOf mixed tabOk Tryz.func168 (E168 n) (G168 n) [] ⟨ob151 hG n,ob233 hG n,ob234 hG n,trivial⟩ trivial (lor (rg168 n)) (eq168 n)
theorem ob247 {W:World} (hG:Facts W) (n:Nat):GG W (247,S247 n) :=
 goodOf mixed tabOk Tryz.func247 (E247 n) (G247 n) [] trivial trivial (lol 1 (fun i hi => match i,hi with | 0,_ => lpd n (Sspec_KnowHas_L2 n (spec_KnowHas_L2 n n)) (spec_KnowHas_L2 n) (eqspec_KnowHas_L2 n))) (eq247 n)
theorem ob203 {W:World} (hG:Facts W) (n:Nat):GG W (203,S203 n) :=
 goodOf mixed tabOk Tryz.func203 (E203 n) (G203 n) [] ⟨ob247 hG n,trivial⟩ trivial (lol 1 (fun i hi => match i,hi with | 0,_ => lpd n (Sspec_l6Put_L4 n (spec_l6Put_L4 n n)) (spec_l6Put_L4 n) (eqspec_l6Put_L4 n))) (eq203 n)
theorem rg169 (n:Nat):RgsAt (E169 n) (bodyOf Tryz.f169) (Q169 n) := ⟨reg6 (exspec_l19Hear_R4 n) [(5,4)],trivial⟩
theorem ob169 {W:World} (hG:Facts W) (n:Nat):GG W (169,S169 n) :=
 goodOf mixed tabOk Tryz.func169 (E169 n) (G169 n) [] ⟨ob203 hG n,trivial⟩ trivial (lor (rg169 n)) (eq169 n)
theorem rg170 (n:Nat):RgsAt (E170 n) (bodyOf Tryz.f170) (Q170 n) := ⟨reg6 (exspec_l18Close_R2 n) [(2,4),(3,5)],reg6 (exspec_l18Close_R5 n) [(2,4),(3,5)],reg6 (exspec_l18Close_R8 n) [(2,4),(3,5)],reg6 (exspec_l18Close_R10 n) [(3,4),(4,5)],trivial⟩
theorem ob170 {W:World} (hG:Facts W) (n:Nat):GG W (170,S170 n) :=
 goodOf mixed tabOk Tryz.func170 (E170 n) (G170 n) [] ⟨ob83 hG n,ob234 hG n,trivial⟩ trivial (lor (rg170 n)) (eq170 n)
theorem rg171 (n:Nat):RgsAt (E171 n) (bodyOf Tryz.f171) (Q171 n) := ⟨reg6 (exspec_l18Turn_R2 n) [(2,4),(3,5)],reg6 (exspec_l18Turn_R5 n) [(2,4),(3,5)],reg6 (exspec_l18Turn_R8 n) [(2,4),(3,5)],reg6 (exspec_l18Turn_R9 n) [(6,4),(7,5)],trivial⟩
theorem ob171 {W:World} (hG:Facts W) (n:Nat):GG W (171,S171 n) :=
 goodOf mixed tabOk Tryz.func171 (E171 n) (G171 n) [] ⟨ob83 hG n,ob84 hG n,trivial⟩ trivial (lor (rg171 n)) (eq171 n)
theorem ob204 {W:World} (hG:Facts W) (n:Nat):GG W (204,S204 n) :=
 goodOf mixed tabOk Tryz.func204 (E204 n) (G204 n) [] trivial trivial (lol 1 (fun i hi => match i,hi with | 0,_ => lpd n (Sspec_l10Num_L3 n (spec_l10Num_L3 n n)) (spec_l10Num_L3 n) (eqspec_l10Num_L3 n))) (eq204 n)
theorem ob205 {W:World} (hG:Facts W) (n:Nat):GG W (205,S205 n) :=
 goodOf mixed tabOk Tryz.func205 (E205 n) (G205 n) [] trivial trivial (lol 1 (fun i hi => match i,hi with | 0,_ => lpd n (Sspec_l4Name_L3 n (spec_l4Name_L3 n n)) (spec_l4Name_L3 n) (eqspec_l4Name_L3 n))) (eq205 n)
theorem ob206 {W:World} (hG:Facts W) (n:Nat):GG W (206,S206 n) :=
 goodOf mixed tabOk Tryz.func206 (E206 n) (G206 n) [] ⟨ob152 hG n,trivial⟩ trivial lo0 (eq206 n)
theorem ob207 {W:World} (hG:Facts W) (n:Nat):GG W (207,S207 n) :=
 goodOf mixed tabOk Tryz.func207 (E207 n) (G207 n) [] trivial trivial lo0 (eq207 n)
theorem ob254 {W:World} (hG:Facts W) (n:Nat):GG W (254,S254 n) :=
 goodOf mixed tabOk Tryz.func254 (E254 n) (G254 n) [] trivial trivial lo0 (eq254 n)
theorem ob221 {W:World} (hG:Facts W) (n:Nat):GG W (221,S221 n) :=
 goodOf mixed tabOk Tryz.func221 (E221 n) (G221 n) [] ⟨ob151 hG n,ob84 hG n,trivial⟩ trivial lo0 (eq221 n)
theorem rg209 (n:Nat):RgsAt (E209 n) (bodyOf Tryz.f209) (Q209 n) := ⟨reg6 (exspec_l10Both_R5 n) [(3,8)],trivial⟩
theorem ob209 {W:World} (hG:Facts W) (n:Nat):GG W (209,S209 n) :=
 goodOf mixed tabOk Tryz.func209 (E209 n) (G209 n) [] ⟨ob221 hG n,trivial⟩ trivial (lor (rg209 n)) (eq209 n)
theorem ob210 {W:World} (hG:Facts W) (n:Nat):GG W (210,S210 n) :=
 goodOf mixed tabOk Tryz.func210 (E210 n) (G210 n) [] trivial trivial lo0 (eq210 n)
theorem ob208_ {W:World} (hG:Facts W) (n k:Nat) (ih:GG W (132,S132 n k)):GG W (208,S208 n k) :=
 goodOf mixed tabOk Tryz.func208 (E208 n k) (G208 n k) [] ⟨ob254 hG n,ih,trivial⟩ trivial lo0 (eq208 n k)
theorem rg132 (n k:Nat):RgsAt (E132 n k) (bodyOf Tryz.f132) (Q132 n k) := ⟨reg6 (exspec_l10Run_R9 n k) [(6,8)],trivial⟩
theorem ob132 {W:World} (hG:Facts W) (n:Nat):∀ k,GG W (132,S132 n k)
 | 0 => ⟨plain_of Tryz.func132 (by kernel_rfl) (by kernel_rfl),fun _ _ _ _ _ _ _ h => by cases h⟩
 | k + 1 =>
  have ih := ob132 hG n k
  goodOf mixed tabOk Tryz.func132 (E132 n k) (G132 n k) [] ⟨ob204 hG n,ob205 hG n,ob206 hG n,ob83 hG n,ih,ob207 hG n,ob208_ hG n k ih,ob209 hG n,ob210 hG n,ob84 hG n,trivial⟩ trivial (lor (rg132 n k)) (eq132 n k)
theorem ob208 {W:World} (hG:Facts W) (n k:Nat):GG W (208,S208 n k) := ob208_ hG n k (ob132 hG n k)
theorem ob46 {W:World} (hG:Facts W) (n:Nat):GG W (46,S46 n) :=
 goodOf mixed tabOk Tryz.func46 (E46 n) (G46 n) [] ⟨ob54 hG n,ob55 hG n,ob93 hG n,ob132 hG n n,trivial⟩ trivial lo0 (eq46 n)
theorem ob235 {W:World} (hG:Facts W) (n:Nat):GG W (235,S235 n) :=
 goodOf mixed tabOk Tryz.func235 (E235 n) (G235 n) [] ⟨ob54 hG n,ob94 hG n,trivial⟩ trivial lo0 (eq235 n)
theorem rg172 (n:Nat):RgsAt (E172 n) (bodyOf Tryz.f172) (Q172 n) := ⟨reg6 (exspec_LinkTake_R16 n) [(3,6)],trivial⟩
theorem ob172 {W:World} (hG:Facts W) (n:Nat):GG W (172,S172 n) :=
 goodOf mixed tabOk Tryz.func172 (E172 n) (G172 n) [] ⟨ob235 hG n,ob151 hG n,ob233 hG n,trivial⟩ trivial (lor (rg172 n)) (eq172 n)
theorem ob92 {W:World} (hG:Facts W) (n:Nat):GG W (92,S92 n) :=
 goodOf mixed tabOk Tryz.func92 (E92 n) (G92 n) [] ⟨ob168 hG n,ob169 hG n,ob170 hG n,ob171 hG n,ob46 hG n,ob172 hG n,trivial⟩ trivial lo0 (eq92 n)
theorem rg23 (n:Nat):RgsAt (E23 n) (bodyOf Tryz.f23) (Q23 n) := ⟨regN (exspec_StreamDo_R5 n),trivial⟩
theorem ob23 {W:World} (hG:Facts W) (n:Nat):GG W (23,S23 n) :=
 goodOf mixed tabOk Tryz.func23 (E23 n) (G23 n) [] ⟨ob24 hG n,ob90 hG n,ob91 hG n,ob92 hG n,trivial⟩ trivial (lor (rg23 n)) (eq23 n)
theorem rg37 (n:Nat):RgsAt (E37 n) (bodyOf Tryz.f37) (Q37 n) := ⟨reg6 (exspec_StreamRun_R8 n) [(10,9)],trivial⟩
theorem ob37 {W:World} (hG:Facts W) (n:Nat):GG W (37,S37 n) :=
 goodOf mixed tabOk Tryz.func37 (E37 n) (G37 n) [] ⟨ob91 hG n,ob24 hG n,ob23 hG n,trivial⟩ trivial (lolr 1 (fun i hi => match i,hi with | 0,_ => lpd n (Sspec_StreamRun_L6 n (spec_StreamRun_L6 n n)) (spec_StreamRun_L6 n) (eqspec_StreamRun_L6 n)) (rg37 n)) (eq37 n)
theorem ob51 {W:World} (hG:Facts W) (n:Nat):GG W (51,S51 n) :=
 goodOf mixed tabOk Tryz.func51 (E51 n) (G51 n) [] ⟨ob140 hG,trivial⟩ trivial lo0 (eq51 n)
theorem ob87 {W:World} (hG:Facts W) (n:Nat):GG W (87,S87 n) :=
 goodOf mixed tabOk Tryz.func87 (E87 n) (G87 n) [] ⟨ob51 hG n,ob141 hG,trivial⟩ trivial lo0 (eq87 n)
theorem ob63 {W:World} (hG:Facts W) (n:Nat):GG W (63,S63 n) :=
 goodOf mixed tabOk Tryz.func63 (E63 n) (G63 n) [] trivial trivial lo0 (eq63 n)
theorem ob58 {W:World} (hG:Facts W) (n:Nat):GG W (58,S58 n) :=
 goodOf mixed tabOk Tryz.func58 (E58 n) (G58 n) [] ⟨ob63 hG n,trivial⟩ trivial lo0 (eq58 n)
theorem ob1058 {W:World} (hG:Facts W) (n:Nat):GG W (58,S1058 n) :=
 goodOf mixed tabOk Tryz.func58 (E1058 n) (G1058 n) [] ⟨ob63 hG n,trivial⟩ trivial lo0 (eq1058 n)
theorem ob211 {W:World} (hG:Facts W) (n:Nat):GG W (211,S211 n) :=
 goodOf mixed tabOk Tryz.func211 (E211 n) (G211 n) [] trivial trivial lo0 (eq211 n)
theorem ob133 {W:World} (hG:Facts W) (n:Nat):GG W (133,S133 n) :=
 goodOf mixed tabOk Tryz.func133 (E133 n) (G133 n) [] ⟨ob211 hG n,ob63 hG n,trivial⟩ trivial lo0 (eq133 n)
theorem rg47 (n:Nat):RgsAt (E47 n) (bodyOf Tryz.f47) (Q47 n) := ⟨⟨by kernel_rfl,fun x y hy => all_of (eximpl_PoolOk_R7 n x) (fun v hv => ((show ∀ v ∈ [impl_PoolOk_R7 n x,impl_PoolOk_R7 n x,impl_PoolOk_R7 n x,impl_PoolOk_R7_1 n x,impl_PoolOk_R7_1 n x,impl_PoolOk_R7_1 n x,impl_PoolOk_R7 n x,impl_PoolOk_R7 n x,impl_PoolOk_R7 n x,impl_PoolOk_R7_1 n x,impl_PoolOk_R7_1 n x,impl_PoolOk_R7_1 n x],v = impl_PoolOk_R7 n x from (List.forall_mem_cons.2 ⟨rfl,(List.forall_mem_cons.2 ⟨rfl,(List.forall_mem_cons.2 ⟨rfl,(List.forall_mem_cons.2 ⟨impl_PoolOk_R7_1_eq n x,(List.forall_mem_cons.2 ⟨impl_PoolOk_R7_1_eq n x,(List.forall_mem_cons.2 ⟨impl_PoolOk_R7_1_eq n x,(List.forall_mem_cons.2 ⟨rfl,(List.forall_mem_cons.2 ⟨rfl,(List.forall_mem_cons.2 ⟨rfl,(List.forall_mem_cons.2 ⟨impl_PoolOk_R7_1_eq n x,(List.forall_mem_cons.2 ⟨impl_PoolOk_R7_1_eq n x,(List.forall_mem_cons.2 ⟨impl_PoolOk_R7_1_eq n x,(fun _ h => by cases h)⟩)⟩)⟩)⟩)⟩)⟩)⟩)⟩)⟩)⟩)⟩)⟩)) v hv).trans (show impl_PoolOk_R7 n x = some y from hy))⟩,trivial⟩
theorem ob47 {W:World} (hG:Facts W) (n:Nat):GG W (47,S47 n) :=
 goodOf mixed tabOk Tryz.func47 (E47 n) (G47 n) [] ⟨ob133 hG n,trivial⟩ trivial (lolr 1 (fun i hi => match i,hi with | 0,_ => lpd n (Simpl_PoolOk_L5 n (impl_PoolOk_L5 n n)) (impl_PoolOk_L5 n) (eqimpl_PoolOk_L5 n)) (rg47 n)) (eq47 n)
theorem ob98 {W:World} (hG:Facts W) (n:Nat):GG W (98,S98 n) :=
 goodOf mixed tabOk Tryz.func98 (E98 n) (G98 n) [] ⟨ob58 hG n,ob47 hG n,trivial⟩ trivial (lol 1 (fun i hi => match i,hi with | 0,_ => lpd n (Simpl_KnowOk_L2 n (impl_KnowOk_L2 n n)) (impl_KnowOk_L2 n) (eqimpl_KnowOk_L2 n))) (eq98 n)
theorem ob99 {W:World} (hG:Facts W) (n:Nat):GG W (99,S99 n) :=
 goodOf mixed tabOk Tryz.func99 (E99 n) (G99 n) [] ⟨ob58 hG n,ob63 hG n,ob47 hG n,trivial⟩ trivial lo0 (eq99 n)
theorem ob100 {W:World} (hG:Facts W) (n:Nat):GG W (100,S100 n) :=
 goodOf mixed tabOk Tryz.func100 (E100 n) (G100 n) [] ⟨ob58 hG n,trivial⟩ trivial (lol 1 (fun i hi => match i,hi with | 0,_ => lpd n (Simpl_Stream_termsOk_L2 n (impl_Stream_termsOk_L2 n n)) (impl_Stream_termsOk_L2 n) (eqimpl_Stream_termsOk_L2 n))) (eq100 n)
theorem ob26 {W:World} (hG:Facts W) (n:Nat):GG W (26,S26 n) :=
 goodOf mixed tabOk Tryz.func26 (E26 n) (G26 n) [] ⟨ob98 hG n,ob99 hG n,ob100 hG n,trivial⟩ trivial lo0 (eq26 n)
theorem ob271 {W:World} (hG:Facts W) (n:Nat):GG W (271,S271 n) :=
 goodOf mixed tabOk Tryz.func271 (E271 n) (G271 n) [] trivial trivial lo0 (eq271 n)
theorem ob50 {W:World} (hG:Facts W) (n:Nat):GG W (50,S50 n) :=
 goodOf mixed tabOk Tryz.func50 (E50 n) (G50 n) [] ⟨ob47 hG n,ob51 hG n,trivial⟩ trivial lo0 (eq50 n)
theorem ob270 {W:World} (hG:Facts W) (n:Nat):GG W (270,S270 n) :=
 goodOf mixed tabOk Tryz.func270 (E270 n) (G270 n) [] trivial trivial (lol 1 (fun i hi => match i,hi with | 0,_ => lpd n (Sslices_Index___impl_Node_impl_Node__L2 n (slices_Index___impl_Node_impl_Node__L2 n n)) (slices_Index___impl_Node_impl_Node__L2 n) (eqslices_Index___impl_Node_impl_Node__L2 n))) (eq270 n)
theorem ob227 {W:World} (hG:Facts W) (n:Nat):GG W (227,S227 n) :=
 goodOf mixed tabOk Tryz.func227 (E227 n) (G227 n) [] ⟨ob270 hG n,trivial⟩ trivial lo0 (eq227 n)
theorem ob1227 {W:World} (hG:Facts W) (n:Nat):GG W (227,S1227 n) :=
 goodOf mixed tabOk Tryz.func227 (E1227 n) (G1227 n) [] ⟨ob270 hG n,trivial⟩ trivial lo0 (eq1227 n)
theorem rg158 (n:Nat):RgsAt (E158 n) (bodyOf Tryz.f158) (Q158 n) := ⟨regN (eximpl_Pool_add_R11 n),trivial⟩
theorem ob158 {W:World} (hG:Facts W) (n:Nat):GG W (158,S158 n) :=
 goodOf mixed tabOk Tryz.func158 (E158 n) (G158 n) (H158 n) ⟨ob133 hG n,trivial⟩ ⟨ob1227 hG n,trivial⟩ (lor (rg158 n)) (eq158 n)
theorem ob75 {W:World} (hG:Facts W) (n:Nat):GG W (75,S75 n) :=
 goodOf mixed tabOk Tryz.func75 (E75 n) (G75 n) [] ⟨ob158 hG n,trivial⟩ trivial lo0 (eq75 n)
theorem rg272 (n:Nat):RgsAt (E272 n) (bodyOf Tryz.f272) (Q272 n) := ⟨regF (eximpl_Link_seal_R1 n),trivial⟩
theorem ob272 {W:World} (hG:Facts W) (n:Nat):GG W (272,S272 n) :=
 goodOf mixed tabOk Tryz.func272 (E272 n) (G272 n) [] ⟨ob75 hG n,ob158 hG n,trivial⟩ trivial (lor (rg272 n)) (eq272 n)
theorem rg228 (n:Nat):RgsAt (E228 n) (bodyOf Tryz.f228) (Q228 n) := ⟨reg6 (eximpl_LinkSend_R2 n) [(3,6),(4,7)],reg6 (eximpl_LinkSend_R6 n) [(3,6),(4,7)],reg6 (eximpl_LinkSend_R8 n) [(3,6),(4,7)],trivial⟩
theorem ob228 {W:World} (hG:Facts W) (n:Nat):GG W (228,S228 n) :=
 goodOf mixed tabOk Tryz.func228 (E228 n) (G228 n) [] ⟨ob58 hG n,ob50 hG n,ob99 hG n,ob271 hG n,ob51 hG n,ob272 hG n,trivial⟩ trivial (lor (rg228 n)) (eq228 n)
theorem ob229 {W:World} (hG:Facts W) (n:Nat):GG W (229,S229 n) :=
 goodOf mixed tabOk Tryz.func229 (E229 n) (G229 n) [] ⟨ob273 hG,trivial⟩ trivial lo0 (eq229 n)
theorem rg164 (n:Nat):RgsAt (E164 n) (bodyOf Tryz.f164) (Q164 n) := ⟨reg6 (eximpl_Stream_send_R1 n) [(16,5),(17,6)],reg7 (eximpl_Stream_send_R2 n) [(0,[0]),(22,[0]),(23,[0]),(26,[0]),(27,[0]),(28,[0]),(29,[0])],trivial⟩
theorem ob164 {W:World} (hG:Facts W) (n:Nat):GG W (164,S164 n) :=
 goodOf mixed tabOk Tryz.func164 (E164 n) (G164 n) [] ⟨ob228 hG n,ob229 hG n,trivial⟩ trivial (lor (rg164 n)) (eq164 n)
theorem ob249 {W:World} (hG:Facts W) (n:Nat):GG W (249,S249 n) :=
 goodOf mixed tabOk Tryz.func249 (E249 n) (G249 n) [] trivial trivial lo0 (eq249 n)
theorem ob248 {W:World} (hG:Facts W) (n:Nat):GG W (248,S248 n) :=
 goodOf mixed tabOk Tryz.func248 (E248 n) (G248 n) [] trivial trivial lo0 (eq248 n)
theorem ob194 {W:World} (hG:Facts W) (n:Nat):GG W (194,S194 n) :=
 goodOf mixed tabOk Tryz.func194 (E194 n) (G194 n) [] ⟨ob249 hG n,ob248 hG n,ob250 hG,ob185 hG,trivial⟩ trivial (lol 1 (fun i hi => match i,hi with | 0,_ => lpd n (Simpl_reader_figures_L2 n (impl_reader_figures_L2 n n)) (impl_reader_figures_L2 n) (eqimpl_reader_figures_L2 n))) (eq194 n)
theorem ob195 {W:World} (hG:Facts W) (n:Nat):GG W (195,S195 n) :=
 goodOf mixed tabOk Tryz.func195 (E195 n) (G195 n) [] trivial trivial lo0 (eq195 n)
theorem ob122 {W:World} (hG:Facts W) (n:Nat):GG W (122,S122 n) :=
 goodOf mixed tabOk Tryz.func122 (E122 n) (G122 n) [] ⟨ob194 hG n,ob63 hG n,ob195 hG n,trivial⟩ trivial lo0 (eq122 n)
theorem ob196 {W:World} (hG:Facts W) (n:Nat):GG W (196,S196 n) :=
 goodOf mixed tabOk Tryz.func196 (E196 n) (G196 n) [] ⟨ob194 hG n,ob63 hG n,ob195 hG n,trivial⟩ trivial lo0 (eq196 n)
theorem ob197 {W:World} (hG:Facts W) (n:Nat):GG W (197,S197 n) :=
 goodOf mixed tabOk Tryz.func197 (E197 n) (G197 n) [] ⟨ob63 hG n,trivial⟩ trivial lo0 (eq197 n)
theorem ob198 {W:World} (hG:Facts W) (n:Nat):GG W (198,S198 n) :=
 goodOf mixed tabOk Tryz.func198 (E198 n) (G198 n) [] ⟨ob195 hG n,trivial⟩ trivial lo0 (eq198 n)
theorem ob123 {W:World} (hG:Facts W) (n:Nat):GG W (123,S123 n) :=
 goodOf mixed tabOk Tryz.func123 (E123 n) (G123 n) [] ⟨ob196 hG n,ob197 hG n,ob195 hG n,ob75 hG n,ob198 hG n,trivial⟩ trivial lo0 (eq123 n)
theorem ob121 {W:World} (hG:Facts W) (n:Nat):GG W (121,S121 n) :=
 goodOf mixed tabOk Tryz.func121 (E121 n) (G121 n) [] ⟨ob122 hG n,ob123 hG n,trivial⟩ trivial lo0 (eq121 n)
theorem ob125 {W:World} (hG:Facts W) (n:Nat):GG W (125,S125 n) :=
 goodOf mixed tabOk Tryz.func125 (E125 n) (G125 n) [] trivial trivial (lol 1 (fun i hi => match i,hi with | 0,_ => lpd n (Simpl_isOneOf_L2 n (impl_isOneOf_L2 n n)) (impl_isOneOf_L2 n) (eqimpl_isOneOf_L2 n))) (eq125 n)
theorem ob199 {W:World} (hG:Facts W) (n:Nat):GG W (199,S199 n) :=
 goodOf mixed tabOk Tryz.func199 (E199 n) (G199 n) (H199 n) ⟨ob158 hG n,trivial⟩ ⟨ob1058 hG n,ob1058 hG n,trivial⟩ lo0 (eq199 n)
theorem rg126 (n:Nat):RgsAt (E126 n) (bodyOf Tryz.f126) (Q126 n) := ⟨reg6 (eximpl_reader_opened_R1 n) [],regF (eximpl_reader_opened_R11 n),trivial⟩
theorem ob126 {W:World} (hG:Facts W) (n:Nat):GG W (126,S126 n) :=
 goodOf mixed tabOk Tryz.func126 (E126 n) (G126 n) [] ⟨ob199 hG n,ob198 hG n,ob195 hG n,trivial⟩ trivial (lor (rg126 n)) (eq126 n)
theorem ob200 {W:World} (hG:Facts W) (n:Nat):GG W (200,S200 n) :=
 goodOf mixed tabOk Tryz.func200 (E200 n) (G200 n) [] trivial trivial lo0 (eq200 n)
theorem rg127 (n:Nat):RgsAt (E127 n) (bodyOf Tryz.f127) (Q127 n) := ⟨regF (eximpl_reader_added_R4 n),trivial⟩
theorem ob127 {W:World} (hG:Facts W) (n:Nat):GG W (127,S127 n) :=
 goodOf mixed tabOk Tryz.func127 (E127 n) (G127 n) [] ⟨ob200 hG n,ob158 hG n,ob198 hG n,trivial⟩ trivial (lor (rg127 n)) (eq127 n)
theorem ob124 {W:World} (hG:Facts W) (n:Nat):GG W (124,S124 n) :=
 goodOf mixed tabOk Tryz.func124 (E124 n) (G124 n) [] ⟨ob125 hG n,ob126 hG n,ob127 hG n,trivial⟩ trivial lo0 (eq124 n)
theorem ob252 {W:World} (hG:Facts W) (n:Nat):GG W (252,S252 n) :=
 goodOf mixed tabOk Tryz.func252 (E252 n) (G252 n) [] trivial trivial lo0 (eq252 n)
theorem ob253 {W:World} (hG:Facts W) (n:Nat):GG W (253,S253 n) :=
 goodOf mixed tabOk Tryz.func253 (E253 n) (G253 n) [] ⟨ob195 hG n,trivial⟩ trivial lo0 (eq253 n)
theorem ob251_ {W:World} (hG:Facts W) (n k:Nat) (ih:GG W (201,S201 n k)):GG W (251,S251 n k) :=
 goodOf mixed tabOk Tryz.func251 (E251 n k) (G251 n k) [] ⟨ih,ob253 hG n,trivial⟩ trivial lo0 (eq251 n k)
theorem ob201 {W:World} (hG:Facts W) (n:Nat):∀ k,GG W (201,S201 n k)
 | 0 => ⟨plain_of Tryz.func201 (by kernel_rfl) (by kernel_rfl),fun _ _ _ _ _ _ _ h => by cases h⟩
 | k + 1 =>
  have ih := ob201 hG n k
  goodOf mixed tabOk Tryz.func201 (E201 n k) (G201 n k) [] ⟨ob249 hG n,ob195 hG n,ob121 hG n,ob125 hG n,ob252 hG n,ob251_ hG n k ih,ob124 hG n,ih,ob253 hG n,trivial⟩ trivial lo0 (eq201 n k)
theorem ob251 {W:World} (hG:Facts W) (n k:Nat):GG W (251,S251 n k) := ob251_ hG n k (ob201 hG n k)
theorem ob128 {W:World} (hG:Facts W) (n:Nat):GG W (128,S128 n) :=
 goodOf mixed tabOk Tryz.func128 (E128 n) (G128 n) [] ⟨ob195 hG n,ob201 hG n n,trivial⟩ trivial lo0 (eq128 n)
theorem rg44 (n:Nat):RgsAt (E44 n) (bodyOf Tryz.f44) (Q44 n) := ⟨reg6 (eximpl_RecipeRun_R11 n) [(10,6)],trivial⟩
theorem ob44 {W:World} (hG:Facts W) (n:Nat):GG W (44,S44 n) :=
 goodOf mixed tabOk Tryz.func44 (E44 n) (G44 n) [] ⟨ob50 hG n,ob98 hG n,ob51 hG n,ob128 hG n,trivial⟩ trivial (lor (rg44 n)) (eq44 n)
theorem rg230 (n:Nat):RgsAt (E230 n) (bodyOf Tryz.f230) (Q230 n) := ⟨reg6 (eximpl_LinkTake_R15 n) [(3,6)],trivial⟩
theorem ob230 {W:World} (hG:Facts W) (n:Nat):GG W (230,S230 n) :=
 goodOf mixed tabOk Tryz.func230 (E230 n) (G230 n) [] ⟨ob58 hG n,ob99 hG n,ob271 hG n,trivial⟩ trivial (lor (rg230 n)) (eq230 n)
theorem rg165 (n:Nat):RgsAt (E165 n) (bodyOf Tryz.f165) (Q165 n) := ⟨reg6 (eximpl_Stream_take_R1 n) [(16,5)],reg6 (eximpl_Stream_take_R4 n) [(12,9)],reg7 (eximpl_Stream_take_R7 n) [(0,[0]),(41,[0]),(42,[0]),(45,[0]),(46,[0]),(47,[0]),(48,[0])],trivial⟩
theorem ob165 {W:World} (hG:Facts W) (n:Nat):GG W (165,S165 n) :=
 goodOf mixed tabOk Tryz.func165 (E165 n) (G165 n) [] ⟨ob44 hG n,ob230 hG n,trivial⟩ trivial (lor (rg165 n)) (eq165 n)
theorem rg231 (n:Nat):RgsAt (E231 n) (bodyOf Tryz.f231) (Q231 n) := ⟨reg6 (eximpl_LinkTurn_R2 n) [(3,4),(4,5)],regN (eximpl_LinkTurn_R4 n),reg6 (eximpl_LinkTurn_R6 n) [(3,4),(4,5)],reg6 (eximpl_LinkTurn_R7 n) [(6,4),(7,5)],trivial⟩
theorem ob231 {W:World} (hG:Facts W) (n:Nat):GG W (231,S231 n) :=
 goodOf mixed tabOk Tryz.func231 (E231 n) (G231 n) [] ⟨ob50 hG n,ob99 hG n,ob51 hG n,ob75 hG n,ob158 hG n,trivial⟩ trivial (lor (rg231 n)) (eq231 n)
theorem rg166 (n:Nat):RgsAt (E166 n) (bodyOf Tryz.f166) (Q166 n) := ⟨reg6 (eximpl_Stream_turn_R1 n) [(14,5),(15,6)],reg7 (eximpl_Stream_turn_R2 n) [(0,[0]),(1,[0]),(20,[0]),(21,[0]),(24,[0]),(25,[0]),(26,[0])],trivial⟩
theorem ob166 {W:World} (hG:Facts W) (n:Nat):GG W (166,S166 n) :=
 goodOf mixed tabOk Tryz.func166 (E166 n) (G166 n) [] ⟨ob231 hG n,trivial⟩ trivial (lor (rg166 n)) (eq166 n)
theorem rg1166 (n:Nat):RgsAt (E1166 n) (bodyOf Tryz.f166) (Q1166 n) := ⟨reg6 (eximpl_Stream_turn_o_R1 n) [(14,5),(15,6)],reg7 (eximpl_Stream_turn_o_R2 n) [(0,[0]),(1,[0]),(20,[0]),(21,[0]),(24,[0]),(25,[0]),(26,[0])],trivial⟩
theorem ob1166 {W:World} (hG:Facts W) (n:Nat):GG W (166,S1166 n) :=
 goodOf mixed tabOk Tryz.func166 (E1166 n) (G1166 n) [] ⟨ob231 hG n,trivial⟩ trivial (lor (rg1166 n)) (eq1166 n)
theorem ob274 {W:World} (hG:Facts W) (n:Nat):GG W (274,S274 n) :=
 goodOf mixed tabOk Tryz.func274 (E274 n) (G274 n) [] ⟨ob75 hG n,ob272 hG n,trivial⟩ trivial lo0 (eq274 n)
theorem rg232 (n:Nat):RgsAt (E232 n) (bodyOf Tryz.f232) (Q232 n) := ⟨reg6 (eximpl_LinkEnd_R2 n) [(3,4),(4,5)],reg6 (eximpl_LinkEnd_R6 n) [(3,4),(4,5)],reg6 (eximpl_LinkEnd_R8 n) [(3,4),(4,5)],trivial⟩
theorem ob232 {W:World} (hG:Facts W) (n:Nat):GG W (232,S232 n) :=
 goodOf mixed tabOk Tryz.func232 (E232 n) (G232 n) [] ⟨ob50 hG n,ob99 hG n,ob51 hG n,ob274 hG n,trivial⟩ trivial (lor (rg232 n)) (eq232 n)
theorem rg167 (n:Nat):RgsAt (E167 n) (bodyOf Tryz.f167) (Q167 n) := ⟨reg6 (eximpl_Stream_end_R1 n) [(15,3),(16,4)],reg7 (eximpl_Stream_end_R2 n) [(0,[0]),(19,[0]),(20,[0]),(23,[0]),(24,[0]),(25,[0]),(26,[0])],trivial⟩
theorem ob167 {W:World} (hG:Facts W) (n:Nat):GG W (167,S167 n) :=
 goodOf mixed tabOk Tryz.func167 (E167 n) (G167 n) [] ⟨ob232 hG n,ob229 hG n,trivial⟩ trivial (lor (rg167 n)) (eq167 n)
theorem ob88 {W:World} (hG:Facts W) (n:Nat):GG W (88,S88 n) :=
 goodOf mixed tabOk Tryz.func88 (E88 n) (G88 n) (H88 n) ⟨ob164 hG n,ob165 hG n,ob166 hG n,ob167 hG n,trivial⟩ ⟨ob1166 hG n,trivial⟩ lo0 (eq88 n)
theorem ob89 {W:World} (hG:Facts W) (n:Nat):GG W (89,S89 n) :=
 goodOf mixed tabOk Tryz.func89 (E89 n) (G89 n) [] trivial trivial lo0 (eq89 n)
theorem ob22 {W:World} (hG:Facts W) (n:Nat):GG W (22,S22 n) :=
 goodOf mixed tabOk Tryz.func22 (E22 n) (G22 n) [] ⟨ob26 hG n,ob87 hG n,ob88 hG n,ob89 hG n,trivial⟩ trivial lo0 (eq22 n)
theorem ob28 {W:World} (hG:Facts W) (n:Nat):GG W (28,S28 n) :=
 goodOf mixed tabOk Tryz.func28 (E28 n) (G28 n) [] ⟨ob87 hG n,ob26 hG n,ob22 hG n,trivial⟩ trivial (lol 1 (fun i hi => match i,hi with | 0,_ => lpd n (Simpl_StreamRun_L6 n (impl_StreamRun_L6 n n)) (impl_StreamRun_L6 n) (eqimpl_StreamRun_L6 n))) (eq28 n)
theorem ob238 {W:World} (hG:Facts W) (n:Nat):GG W (238,S238 n) :=
 goodOf mixed tabOk Tryz.func238 (E238 n) (G238 n) [] trivial trivial lo0 (eq238 n)
theorem ob177 {W:World} (hG:Facts W) (n:Nat):GG W (177,S177 n) :=
 goodOf mixed tabOk Tryz.func177 (E177 n) (G177 n) [] ⟨ob238 hG n,trivial⟩ trivial (lol 1 (fun i hi => match i,hi with | 0,_ => lpd n (Slaws_eqNodeS_L4 n (laws_eqNodeS_L4 n n)) (laws_eqNodeS_L4 n) (eqlaws_eqNodeS_L4 n))) (eq177 n)
theorem ob106 {W:World} (hG:Facts W) (n:Nat):GG W (106,S106 n) :=
 goodOf mixed tabOk Tryz.func106 (E106 n) (G106 n) [] ⟨ob177 hG n,trivial⟩ trivial lo0 (eq106 n)
theorem ob107 {W:World} (hG:Facts W) (n:Nat):GG W (107,S107 n) :=
 goodOf mixed tabOk Tryz.func107 (E107 n) (G107 n) [] trivial trivial (lol 1 (fun i hi => match i,hi with | 0,_ => lpd n (Slaws_eqIntS_L4 n (laws_eqIntS_L4 n n)) (laws_eqIntS_L4 n) (eqlaws_eqIntS_L4 n))) (eq107 n)
theorem ob108 {W:World} (hG:Facts W) (n:Nat):GG W (108,S108 n) :=
 goodOf mixed tabOk Tryz.func108 (E108 n) (G108 n) [] trivial trivial lo0 (eq108 n)
theorem ob33 {W:World} (hG:Facts W) (n:Nat):GG W (33,S33 n) :=
 goodOf mixed tabOk Tryz.func33 (E33 n) (G33 n) [] ⟨ob106 hG n,ob107 hG n,ob108 hG n,trivial⟩ trivial lo0 (eq33 n)
theorem ob113 {W:World} (hG:Facts W) (n:Nat):GG W (113,S113 n) :=
 goodOf mixed tabOk Tryz.func113 (E113 n) (G113 n) [] trivial trivial lo0 (eq113 n)
theorem ob39 {W:World} (hG:Facts W) (n:Nat):GG W (39,S39 n) :=
 goodOf mixed tabOk Tryz.func39 (E39 n) (G39 n) [] ⟨ob113 hG n,trivial⟩ trivial (lol 1 (fun i hi => match i,hi with | 0,_ => lpd n (Slaws_eqActionS_L4 n (laws_eqActionS_L4 n n)) (laws_eqActionS_L4 n) (eqlaws_eqActionS_L4 n))) (eq39 n)
theorem ob178 {W:World} (hG:Facts W) (n:Nat):GG W (178,S178 n) :=
 goodOf mixed tabOk Tryz.func178 (E178 n) (G178 n) [] trivial trivial (lol 1 (fun i hi => match i,hi with | 0,_ => lpd n (Slaws_markNodeS_L2 n (laws_markNodeS_L2 n n)) (laws_markNodeS_L2 n) (eqlaws_markNodeS_L2 n))) (eq178 n)
theorem ob109 {W:World} (hG:Facts W) (n:Nat):GG W (109,S109 n) :=
 goodOf mixed tabOk Tryz.func109 (E109 n) (G109 n) [] ⟨ob178 hG n,trivial⟩ trivial lo0 (eq109 n)
theorem ob110 {W:World} (hG:Facts W) (n:Nat):GG W (110,S110 n) :=
 goodOf mixed tabOk Tryz.func110 (E110 n) (G110 n) [] trivial trivial (lol 1 (fun i hi => match i,hi with | 0,_ => lpd n (Slaws_markIntS_L2 n (laws_markIntS_L2 n n)) (laws_markIntS_L2 n) (eqlaws_markIntS_L2 n))) (eq110 n)
theorem ob34 {W:World} (hG:Facts W) (n:Nat):GG W (34,S34 n) :=
 goodOf mixed tabOk Tryz.func34 (E34 n) (G34 n) [] ⟨ob109 hG n,ob110 hG n,trivial⟩ trivial lo0 (eq34 n)
theorem ob114 {W:World} (hG:Facts W) (n:Nat):GG W (114,S114 n) :=
 goodOf mixed tabOk Tryz.func114 (E114 n) (G114 n) [] trivial trivial (lol 1 (fun i hi => match i,hi with | 0,_ => lpd n (Slaws_markText_L4 n (laws_markText_L4 n n)) (laws_markText_L4 n) (eqlaws_markText_L4 n))) (eq114 n)
theorem ob40 {W:World} (hG:Facts W) (n:Nat):GG W (40,S40 n) :=
 goodOf mixed tabOk Tryz.func40 (E40 n) (G40 n) [] ⟨ob114 hG n,trivial⟩ trivial (lol 1 (fun i hi => match i,hi with | 0,_ => lpd n (Slaws_markActionS_L2 n (laws_markActionS_L2 n n)) (laws_markActionS_L2 n) (eqlaws_markActionS_L2 n))) (eq40 n)
theorem ob179 {W:World} (hG:Facts W) (n:Nat):GG W (179,S179 n) :=
 goodOf mixed tabOk Tryz.func179 (E179 n) (G179 n) [] trivial trivial (lol 1 (fun i hi => match i,hi with | 0,_ => lpd n (Slaws_heldNodeS_L2 n (laws_heldNodeS_L2 n n)) (laws_heldNodeS_L2 n) (eqlaws_heldNodeS_L2 n))) (eq179 n)
theorem ob111 {W:World} (hG:Facts W) (n:Nat):GG W (111,S111 n) :=
 goodOf mixed tabOk Tryz.func111 (E111 n) (G111 n) [] ⟨ob179 hG n,trivial⟩ trivial lo0 (eq111 n)
theorem ob112 {W:World} (hG:Facts W) (n:Nat):GG W (112,S112 n) :=
 goodOf mixed tabOk Tryz.func112 (E112 n) (G112 n) [] trivial trivial (lol 1 (fun i hi => match i,hi with | 0,_ => lpd n (Slaws_heldIntS_L2 n (laws_heldIntS_L2 n n)) (laws_heldIntS_L2 n) (eqlaws_heldIntS_L2 n))) (eq112 n)
theorem ob35 {W:World} (hG:Facts W) (n:Nat):GG W (35,S35 n) :=
 goodOf mixed tabOk Tryz.func35 (E35 n) (G35 n) [] ⟨ob111 hG n,ob112 hG n,trivial⟩ trivial lo0 (eq35 n)
theorem rg7 (n:Nat):RgsAt (E7 n) (bodyOf Tryz.f7) (Q7 n) := ⟨reg6 (exlaws_FnExactStreamRun_R14 n) [],trivial⟩
theorem ob7 {W:World} (hG:Facts W) (n:Nat):GG W (7,S7 n) :=
 goodOf mixed tabOk Tryz.func7 (E7 n) (G7 n) (H7 n) ⟨ob29 hG n,ob36 hG n,ob37 hG n,ob31 hG n,ob38 hG n,ob28 hG n,ob33 hG n,ob39 hG n,ob34 hG n,ob40 hG n,ob35 hG n,trivial⟩ ⟨ob1031 hG n,ob1038 hG n,trivial⟩ (lor (rg7 n)) (eq7 n)
end AM
end Go.Proofs.YtleofghbkfpdaaaGreatDoor
