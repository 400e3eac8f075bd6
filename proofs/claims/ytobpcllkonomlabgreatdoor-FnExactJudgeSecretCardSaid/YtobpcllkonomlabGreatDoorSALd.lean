/- The functions that the laws reach, as plain Lean functions, and that the evaluator gives just these. No condition. -/
import Derived.Test.YtobpcllkonomlabGreatDoorSALd1
import Derived.Test.YtobpcllkonomlabGreatDoorSW3
import Derived.Test.YtobpcllkonomlabGreatDoorSW4
import Derived.Test.YtobpcllkonomlabGreatDoorProg
import Derived.Lib.AtoiAll
import Derived.Lib.IndexMore
import Derived.Lib.ItoaNum
import Derived.Lib.Split
import Derived.Lib.CountLaws
import Derived.Lib.SlicesCompact
namespace Go.Proofs.YtobpcllkonomlabGreatDoor
namespace AM
open Go
set_option linter.unusedVariables false
def S171 (n:Nat):FSum := { pars := [.c (.i (.sl (.int .i64))), .c (.f 139 [([2],0),([3],0)]), .p [.q [4] 0], .p [jI], .p [.i jTN, .i (.sl (.int .i64)), .i jTW,jI, .i (.sl (.int .i64)), .i (.sl (.int .i64)), .i (.sl (.pr (.int .i64) (.pr .bool .bool)))]],gh := [(1,0,some 0),(1,0,some 1),(2,0,none)],nb := [],res := [(false,[jI])],g := slices_IndexFunc___int_int_ n }
def Sslices_IndexFunc___int_int__L2 (n:Nat) (g:jL×Bool×Int×Int×Bool×Int×jN×jL×jW×Int×jL×jL×jC → Option ((Int×Bool×Int×jN×jL×jW×Int×jL×jL×jC) ⊕ (Bool×Int×jN×jL×jW×Int×jL×jL×jC))):LSum := { ent := [.val 0 (.i (.sl (.int .i64))), .val 1 (.f 139 [([2],0),([3],0)]), .val 7 (jI), .val 8 (jI), .hid [2] [.q [4] 0], .hid [3] [jI], .hid [4] [.i jTN, .i (.sl (.int .i64)), .i jTW,jI, .i (.sl (.int .i64)), .i (.sl (.int .i64)), .i (.sl (.pr (.int .i64) (.pr .bool .bool)))]],exs := [(.ret,[.val 4 (jI), .hid [2] [.q [4] 0], .hid [3] [jI], .hid [4] [.i jTN, .i (.sl (.int .i64)), .i jTW,jI, .i (.sl (.int .i64)), .i (.sl (.int .i64)), .i (.sl (.pr (.int .i64) (.pr .bool .bool)))]]),(.exit 0,[.hid [2] [.q [4] 0], .hid [3] [jI], .hid [4] [.i jTN, .i (.sl (.int .i64)), .i jTW,jI, .i (.sl (.int .i64)), .i (.sl (.int .i64)), .i (.sl (.pr (.int .i64) (.pr .bool .bool)))]])],g := g }
def G171 (n:Nat):List (Nat×FSum) := [(139,S139 n)]
def E171 (n:Nat):Env := { τ := τ,N := 19,Γ := gl (G171 n) [],Λ := (fun q => match q with   | 2 => some (Sslices_IndexFunc___int_int__L2 n (slices_IndexFunc___int_int__L2 n n))  | _ => none) }
theorem eqslices_IndexFunc___int_int__L2 (n m:Nat) (x):slices_IndexFunc___int_int__L2 n (m + 1) x = runL (E171 n) (loopAt (bodyOf Tryz.f171) 0) (Sslices_IndexFunc___int_int__L2 n (slices_IndexFunc___int_int__L2 n n)) (slices_IndexFunc___int_int__L2 n m) x := by kernel_rfl
theorem eq171 (n:Nat) (x):slices_IndexFunc___int_int_ n x = runF (E171 n) Tryz.f171 (S171 n) x := by kernel_rfl
def slices_ContainsFunc___int_int_ (n:Nat) (x:jL×Bool×Bool×Int×jN×jL×jW×Int×jL×jL×jC):Option (Bool×Int×jN×jL×jW×Int×jL×jL×jC×Bool) :=
 ((slices_IndexFunc___int_int_ n (x.1,false,false,x.2.2.2.1,x.2.2.2.2.1,x.2.2.2.2.2.1,x.2.2.2.2.2.2.1,x.2.2.2.2.2.2.2.1,x.2.2.2.2.2.2.2.2.1,x.2.2.2.2.2.2.2.2.2.1,x.2.2.2.2.2.2.2.2.2.2)).bind fun r1 => (some (false,r1.2.1,r1.2.2.1,r1.2.2.2.1,r1.2.2.2.2.1,r1.2.2.2.2.2.1,r1.2.2.2.2.2.2.1,r1.2.2.2.2.2.2.2.1,r1.2.2.2.2.2.2.2.2.1,(decide (r1.2.2.2.2.2.2.2.2.2 ≥ (0:Int))))))
def S138 (n:Nat):FSum := { pars := [.c (.i (.sl (.int .i64))), .c (.f 139 [([2],0),([3],0)]), .p [.q [4] 0], .p [jI], .p [.i jTN, .i (.sl (.int .i64)), .i jTW,jI, .i (.sl (.int .i64)), .i (.sl (.int .i64)), .i (.sl (.pr (.int .i64) (.pr .bool .bool)))]],gh := [(1,0,some 0),(1,0,some 1),(2,0,none)],nb := [],res := [(false,[jB])],g := slices_ContainsFunc___int_int_ n }
def G138 (n:Nat):List (Nat×FSum) := [(171,S171 n)]
def E138 (n:Nat):Env := { τ := τ,N := 9,Γ := gl (G138 n) [],Λ := (fun q => match q with  | _ => none) }
theorem eq138 (n:Nat) (x):slices_ContainsFunc___int_int_ n x = runF (E138 n) Tryz.f138 (S138 n) x := by kernel_rfl
def impl_World_keyShown (n:Nat) (x:jN×jL×jW×Int×jL×jL×jC×Int):Option (jN×jL×jW×Int×jL×jL×jC×Bool) :=
 ((impl_World_isDone n (x.1,x.2.1,x.2.2.1,x.2.2.2.1,x.2.2.2.2.1,x.2.2.2.2.2.1,x.2.2.2.2.2.2.1,x.2.2.2.2.2.2.2)).bind fun r1 => (cond r1.2.2.2.2.2.2.2 ((slices_ContainsFunc___int_int_ n (r1.2.2.2.2.2.1,false,false,x.2.2.2.2.2.2.2,r1.1,r1.2.1,r1.2.2.1,r1.2.2.2.1,r1.2.2.2.2.1,r1.2.2.2.2.2.1,r1.2.2.2.2.2.2.1)).bind fun r2 => (some (r2.2.2.1,r2.2.2.2.1,r2.2.2.2.2.1,r2.2.2.2.2.2.1,r2.2.2.2.2.2.2.1,r2.2.2.2.2.2.2.2.1,r2.2.2.2.2.2.2.2.2.1,r2.2.2.2.2.2.2.2.2.2))) (some (r1.1,r1.2.1,r1.2.2.1,r1.2.2.2.1,r1.2.2.2.2.1,r1.2.2.2.2.2.1,r1.2.2.2.2.2.2.1,false))))
def S97 (n:Nat):FSum := { pars := [.p [.i jTN, .i (.sl (.int .i64)), .i jTW,jI, .i (.sl (.int .i64)), .i (.sl (.int .i64)), .i (.sl (.pr (.int .i64) (.pr .bool .bool)))], .c (jI)],gh := [],nb := [],res := [(false,[jB])],g := impl_World_keyShown n }
def G97 (n:Nat):List (Nat×FSum) := [(92,S92 n),(138,S138 n)]
def E97 (n:Nat):Env := { τ := τ,N := 16,Γ := gl (G97 n) [],Λ := (fun q => match q with  | _ => none) }
theorem eq97 (n:Nat) (x):impl_World_keyShown n x = runF (E97 n) Tryz.f97 (S97 n) x := by kernel_rfl
def slices_Index___int_int__L2 (n:Nat):Nat → jL×Int×Int×Int → Option ((Int) ⊕ (Unit))
 | 0,_ => none
 | m + 1,x => (cond (decide (x.2.2.2 < x.2.2.1)) (cond (inb x.2.2.2 (x.1).length) (cond (x.2.1 == (x.1.getD (x.2.2.2).toNat (0:Int))) (some (Sum.inl x.2.2.2)) (slices_Index___int_int__L2 n m (x.1,x.2.1,x.2.2.1,(IntKind.i64.wrap (x.2.2.2 + (1:Int)))))) none) (some (Sum.inr ())))
def slices_Index___int_int_ (n:Nat) (x:jL×Int):Option (Int) :=
 ((slices_Index___int_int__L2 n n (x.1,x.2,((x.1).length:Int),(0:Int))).bind fun e1 => (match e1 with | Sum.inl a2 => (some a2) | Sum.inr b3 => (some (-1:Int))))
def S141 (n:Nat):FSum := { pars := [.c (.i (.sl (.int .i64))), .c (jI)],gh := [],nb := [],res := [(false,[jI])],g := slices_Index___int_int_ n }
def Sslices_Index___int_int__L2 (n:Nat) (g:jL×Int×Int×Int → Option ((Int) ⊕ (Unit))):LSum := { ent := [.val 0 (.i (.sl (.int .i64))), .val 1 (jI), .val 7 (jI), .val 8 (jI)],exs := [(.ret,[.val 4 (jI)]),(.exit 0,[])],g := g }
def G141 (n:Nat):List (Nat×FSum) := []
def E141 (n:Nat):Env := { τ := τ,N := 19,Γ := gl (G141 n) [],Λ := (fun q => match q with   | 2 => some (Sslices_Index___int_int__L2 n (slices_Index___int_int__L2 n n))  | _ => none) }
theorem eqslices_Index___int_int__L2 (n m:Nat) (x):slices_Index___int_int__L2 n (m + 1) x = runL (E141 n) (loopAt (bodyOf Tryz.f141) 0) (Sslices_Index___int_int__L2 n (slices_Index___int_int__L2 n n)) (slices_Index___int_int__L2 n m) x := by kernel_rfl
theorem eq141 (n:Nat) (x):slices_Index___int_int_ n x = runF (E141 n) Tryz.f141 (S141 n) x := by kernel_rfl
def slices_Contains___int_int_ (n:Nat) (x:jL×Int):Option (Bool) :=
 ((slices_Index___int_int_ n (x.1,x.2)).bind fun r1 => (some (decide (r1 ≥ (0:Int)))))
def S102 (n:Nat):FSum := { pars := [.c (.i (.sl (.int .i64))), .c (jI)],gh := [],nb := [],res := [(false,[jB])],g := slices_Contains___int_int_ n }
def G102 (n:Nat):List (Nat×FSum) := [(141,S141 n)]
def E102 (n:Nat):Env := { τ := τ,N := 9,Γ := gl (G102 n) [],Λ := (fun q => match q with  | _ => none) }
theorem eq102 (n:Nat) (x):slices_Contains___int_int_ n x = runF (E102 n) Tryz.f102 (S102 n) x := by kernel_rfl
def impl_World_given (n:Nat) (x:jN×jL×jW×Int×jL×jL×jC×Int):Option (jN×jL×jW×Int×jL×jL×jC×Bool) :=
 ((slices_Contains___int_int_ n (x.2.2.2.2.1,x.2.2.2.2.2.2.2)).bind fun r1 => (some (x.1,x.2.1,x.2.2.1,x.2.2.2.1,x.2.2.2.2.1,x.2.2.2.2.2.1,x.2.2.2.2.2.2.1,r1)))
def S98 (n:Nat):FSum := { pars := [.p [.i jTN, .i (.sl (.int .i64)), .i jTW,jI, .i (.sl (.int .i64)), .i (.sl (.int .i64)), .i (.sl (.pr (.int .i64) (.pr .bool .bool)))], .c (jI)],gh := [],nb := [],res := [(false,[jB])],g := impl_World_given n }
def G98 (n:Nat):List (Nat×FSum) := [(102,S102 n)]
def E98 (n:Nat):Env := { τ := τ,N := 11,Γ := gl (G98 n) [],Λ := (fun q => match q with  | _ => none) }
theorem eq98 (n:Nat) (x):impl_World_given n x = runF (E98 n) Tryz.f98 (S98 n) x := by kernel_rfl
def impl_World_secret (n:Nat) (x:jN×jL×jW×Int×jL×jL×jC×Int):Option (jN×jL×jW×Int×jL×jL×jC×Bool) :=
 ((impl_World_trusted n (x.1,x.2.1,x.2.2.1,x.2.2.2.1,x.2.2.2.2.1,x.2.2.2.2.2.1,x.2.2.2.2.2.2.1,x.2.2.2.2.2.2.2)).bind fun r1 => (cond (!r1.2.2.2.2.2.2.2) (some (r1.1,r1.2.1,r1.2.2.1,r1.2.2.2.1,r1.2.2.2.2.1,r1.2.2.2.2.2.1,r1.2.2.2.2.2.2.1,false)) ((impl_World_keyShown n (r1.1,r1.2.1,r1.2.2.1,r1.2.2.2.1,r1.2.2.2.2.1,r1.2.2.2.2.2.1,r1.2.2.2.2.2.2.1,x.2.2.2.2.2.2.2)).bind fun r2 => (cond r2.2.2.2.2.2.2.2 (some (r2.1,r2.2.1,r2.2.2.1,r2.2.2.2.1,r2.2.2.2.2.1,r2.2.2.2.2.2.1,r2.2.2.2.2.2.2.1,false)) (cond (inb x.2.2.2.2.2.2.2 (r2.2.2.1).length) (cond ((r2.2.2.1.getD (x.2.2.2.2.2.2.2).toNat ((0:Int),((0:Int),((0:Int),((0:Int),((0:Int),([],(false,(false,(0:Int)))))))))).1 == (1:Int)) (some (r2.1,r2.2.1,r2.2.2.1,r2.2.2.2.1,r2.2.2.2.2.1,r2.2.2.2.2.2.1,r2.2.2.2.2.2.2.1,true)) ((impl_World_given n (r2.1,r2.2.1,r2.2.2.1,r2.2.2.2.1,r2.2.2.2.2.1,r2.2.2.2.2.2.1,r2.2.2.2.2.2.2.1,(r2.2.2.1.getD (x.2.2.2.2.2.2.2).toNat ((0:Int),((0:Int),((0:Int),((0:Int),((0:Int),([],(false,(false,(0:Int)))))))))).2.2.1)).bind fun r3 => (cond (!r3.2.2.2.2.2.2.2) ((impl_World_given n (r3.1,r3.2.1,r3.2.2.1,r3.2.2.2.1,r3.2.2.2.2.1,r3.2.2.2.2.2.1,r3.2.2.2.2.2.2.1,(r2.2.2.1.getD (x.2.2.2.2.2.2.2).toNat ((0:Int),((0:Int),((0:Int),((0:Int),((0:Int),([],(false,(false,(0:Int)))))))))).2.2.2.1)).bind fun r4 => (some (r4.1,r4.2.1,r4.2.2.1,r4.2.2.2.1,r4.2.2.2.2.1,r4.2.2.2.2.2.1,r4.2.2.2.2.2.2.1,(!r4.2.2.2.2.2.2.2)))) (some (r3.1,r3.2.1,r3.2.2.1,r3.2.2.2.1,r3.2.2.2.2.1,r3.2.2.2.2.2.1,r3.2.2.2.2.2.2.1,false))))) none)))))
def S41 (n:Nat):FSum := { pars := [.p [.i jTN, .i (.sl (.int .i64)), .i jTW,jI, .i (.sl (.int .i64)), .i (.sl (.int .i64)), .i (.sl (.pr (.int .i64) (.pr .bool .bool)))], .c (jI)],gh := [],nb := [],res := [(false,[jB])],g := impl_World_secret n }
def G41 (n:Nat):List (Nat×FSum) := [(96,S96 n),(97,S97 n),(98,S98 n)]
def E41 (n:Nat):Env := { τ := τ,N := 39,Γ := gl (G41 n) [],Λ := (fun q => match q with  | _ => none) }
theorem eq41 (n:Nat) (x):impl_World_secret n x = runF (E41 n) Tryz.f41 (S41 n) x := by kernel_rfl
def impl_JudgeSecret_L5 (n:Nat):Nat → jN×jL×jW×Int×jL×jL×jC×(List Bool)×jW×Int×Int → Option ((Bool) ⊕ (Unit))
 | 0,_ => none
 | m + 1,x => (cond (decide (x.2.2.2.2.2.2.2.2.2.2 < x.2.2.2.2.2.2.2.2.2.1)) (cond (inb x.2.2.2.2.2.2.2.2.2.2 (x.2.2.2.2.2.2.2.2.1).length) ((impl_World_secret n (x.1,x.2.1,x.2.2.1,x.2.2.2.1,x.2.2.2.2.1,x.2.2.2.2.2.1,x.2.2.2.2.2.2.1,x.2.2.2.2.2.2.2.2.2.2)).bind fun r3 => (cond r3.2.2.2.2.2.2.2 (cond (inb (x.2.2.2.2.2.2.2.2.1.getD (x.2.2.2.2.2.2.2.2.2.2).toNat ((0:Int),((0:Int),((0:Int),((0:Int),((0:Int),([],(false,(false,(0:Int)))))))))).2.2.2.2.2.2.2.2 (x.2.2.2.2.2.2.2.1).length) (cond (x.2.2.2.2.2.2.2.1.getD ((x.2.2.2.2.2.2.2.2.1.getD (x.2.2.2.2.2.2.2.2.2.2).toNat ((0:Int),((0:Int),((0:Int),((0:Int),((0:Int),([],(false,(false,(0:Int)))))))))).2.2.2.2.2.2.2.2).toNat false) (some (Sum.inl false)) (impl_JudgeSecret_L5 n m (r3.1,r3.2.1,r3.2.2.1,r3.2.2.2.1,r3.2.2.2.2.1,r3.2.2.2.2.2.1,r3.2.2.2.2.2.2.1,x.2.2.2.2.2.2.2.1,x.2.2.2.2.2.2.2.2.1,x.2.2.2.2.2.2.2.2.2.1,(IntKind.i64.wrap (x.2.2.2.2.2.2.2.2.2.2 + (1:Int)))))) none) (impl_JudgeSecret_L5 n m (r3.1,r3.2.1,r3.2.2.1,r3.2.2.2.1,r3.2.2.2.2.1,r3.2.2.2.2.2.1,r3.2.2.2.2.2.2.1,x.2.2.2.2.2.2.2.1,x.2.2.2.2.2.2.2.2.1,x.2.2.2.2.2.2.2.2.2.1,(IntKind.i64.wrap (x.2.2.2.2.2.2.2.2.2.2 + (1:Int))))))) none) (some (Sum.inr ())))
def impl_JudgeSecret (n:Nat) (x:jN×jL×jW×Int×jL×jL×jC):Option (Bool) :=
 ((impl_WorldOk n (x.1,x.2.1,x.2.2.1,x.2.2.2.1,x.2.2.2.2.1,x.2.2.2.2.2.1,x.2.2.2.2.2.2)).bind fun r1 => (cond (!r1) (some false) ((impl_Pool_derives n (x.1,x.2.1)).bind fun r2 => ((impl_JudgeSecret_L5 n n (r2.1,x.2.1,x.2.2.1,x.2.2.2.1,x.2.2.2.2.1,x.2.2.2.2.2.1,x.2.2.2.2.2.2,r2.2,x.2.2.1,((x.2.2.1).length:Int),(0:Int))).bind fun e4 => (match e4 with | Sum.inl a5 => (some a5) | Sum.inr b6 => (some true))))))
def S10 (n:Nat):FSum := { pars := [.g [.i jTN, .i (.sl (.int .i64)), .i jTW,jI, .i (.sl (.int .i64)), .i (.sl (.int .i64)), .i (.sl (.pr (.int .i64) (.pr .bool .bool)))]],gh := [],nb := [],res := [(false,[jB])],g := impl_JudgeSecret n }
def Simpl_JudgeSecret_L5 (n:Nat) (g:jN×jL×jW×Int×jL×jL×jC×(List Bool)×jW×Int×Int → Option ((Bool) ⊕ (Unit))):LSum := { ent := [.box 1 [1,0] [.i jTN, .i (.sl (.int .i64)), .i jTW,jI, .i (.sl (.int .i64)), .i (.sl (.int .i64)), .i (.sl (.pr (.int .i64) (.pr .bool .bool)))], .val 3 (.i (.sl .bool)), .val 14 (.i jTW), .val 15 (jI), .val 16 (jI)],exs := [(.ret,[.val 2 (jB)]),(.exit 0,[])],g := g }
def G10 (n:Nat):List (Nat×FSum) := [(39,S39 n),(40,S40 n),(41,S41 n)]
def E10 (n:Nat):Env := { τ := τ,N := 31,Γ := gl (G10 n) [],Λ := (fun q => match q with   | 5 => some (Simpl_JudgeSecret_L5 n (impl_JudgeSecret_L5 n n))  | _ => none) }
theorem eqimpl_JudgeSecret_L5 (n m:Nat) (x):impl_JudgeSecret_L5 n (m + 1) x = runL (E10 n) (loopAt (bodyOf Tryz.f10) 0) (Simpl_JudgeSecret_L5 n (impl_JudgeSecret_L5 n n)) (impl_JudgeSecret_L5 n m) x := by kernel_rfl
theorem eq10 (n:Nat) (x):impl_JudgeSecret n x = runF (E10 n) Tryz.f10 (S10 n) x := by kernel_rfl
def laws_eqNode (n:Nat) (x:Int×Int×Int×Int×Int×Int):Option (Bool) :=
 (cond (x.1 != x.2.2.2.1) (some false) (cond (x.2.1 != x.2.2.2.2.1) (some false) (cond (x.2.2.1 != x.2.2.2.2.2) (some false) (some true))))
def S140 (n:Nat):FSum := { pars := [.g [jI,jI,jI], .g [jI,jI,jI]],gh := [],nb := [],res := [(false,[jB])],g := laws_eqNode n }
def G140 (n:Nat):List (Nat×FSum) := []
def E140 (n:Nat):Env := { τ := τ,N := 20,Γ := gl (G140 n) [],Λ := (fun q => match q with  | _ => none) }
theorem eq140 (n:Nat) (x):laws_eqNode n x = runF (E140 n) Tryz.f140 (S140 n) x := by kernel_rfl
def laws_eqNodeS_L4 (n:Nat):Nat → jN×jN×Int → Option ((Bool) ⊕ (Unit))
 | 0,_ => none
 | m + 1,x => (cond (decide (x.2.2 < ((x.1).length:Int))) (cond (inb x.2.2 (x.1).length) (cond (inb x.2.2 (x.2.1).length) ((laws_eqNode n ((x.1.getD (x.2.2).toNat ((0:Int),((0:Int),(0:Int)))).1,(x.1.getD (x.2.2).toNat ((0:Int),((0:Int),(0:Int)))).2.1,(x.1.getD (x.2.2).toNat ((0:Int),((0:Int),(0:Int)))).2.2,(x.2.1.getD (x.2.2).toNat ((0:Int),((0:Int),(0:Int)))).1,(x.2.1.getD (x.2.2).toNat ((0:Int),((0:Int),(0:Int)))).2.1,(x.2.1.getD (x.2.2).toNat ((0:Int),((0:Int),(0:Int)))).2.2)).bind fun r1 => (cond (!r1) (some (Sum.inl false)) (laws_eqNodeS_L4 n m (x.1,x.2.1,(IntKind.i64.wrap (x.2.2 + (1:Int))))))) none) none) (some (Sum.inr ())))
def laws_eqNodeS (n:Nat) (x:jN×jN):Option (Bool) :=
 (cond (((x.1).length:Int) != ((x.2).length:Int)) (some false) ((laws_eqNodeS_L4 n n (x.1,x.2,(0:Int))).bind fun e2 => (match e2 with | Sum.inl a3 => (some a3) | Sum.inr b4 => (some true))))
def S99 (n:Nat):FSum := { pars := [.c (.i jTN), .c (.i jTN)],gh := [],nb := [],res := [(false,[jB])],g := laws_eqNodeS n }
def Slaws_eqNodeS_L4 (n:Nat) (g:jN×jN×Int → Option ((Bool) ⊕ (Unit))):LSum := { ent := [.val 0 (.i jTN), .val 1 (.i jTN), .val 5 (jI)],exs := [(.ret,[.val 4 (jB)]),(.exit 0,[])],g := g }
def G99 (n:Nat):List (Nat×FSum) := [(140,S140 n)]
def E99 (n:Nat):Env := { τ := τ,N := 27,Γ := gl (G99 n) [],Λ := (fun q => match q with   | 4 => some (Slaws_eqNodeS_L4 n (laws_eqNodeS_L4 n n))  | _ => none) }
theorem eqlaws_eqNodeS_L4 (n m:Nat) (x):laws_eqNodeS_L4 n (m + 1) x = runL (E99 n) (loopAt (bodyOf Tryz.f99) 0) (Slaws_eqNodeS_L4 n (laws_eqNodeS_L4 n n)) (laws_eqNodeS_L4 n m) x := by kernel_rfl
theorem eq99 (n:Nat) (x):laws_eqNodeS n x = runF (E99 n) Tryz.f99 (S99 n) x := by kernel_rfl
def laws_eqPool (n:Nat) (x:jN×jN):Option (Bool) :=
 ((laws_eqNodeS n (x.1,x.2)).bind fun r1 => (cond (!r1) (some false) (some true)))
def S42 (n:Nat):FSum := { pars := [.g [.i jTN], .g [.i jTN]],gh := [],nb := [],res := [(false,[jB])],g := laws_eqPool n }
def G42 (n:Nat):List (Nat×FSum) := [(99,S99 n)]
def E42 (n:Nat):Env := { τ := τ,N := 11,Γ := gl (G42 n) [],Λ := (fun q => match q with  | _ => none) }
theorem eq42 (n:Nat) (x):laws_eqPool n x = runF (E42 n) Tryz.f42 (S42 n) x := by kernel_rfl
def laws_eqIntS_L4 (n:Nat):Nat → jL×jL×Int → Option ((Bool) ⊕ (Unit))
 | 0,_ => none
 | m + 1,x => (cond (decide (x.2.2 < ((x.1).length:Int))) (cond (inb x.2.2 (x.1).length) (cond (inb x.2.2 (x.2.1).length) (cond ((x.1.getD (x.2.2).toNat (0:Int)) != (x.2.1.getD (x.2.2).toNat (0:Int))) (some (Sum.inl false)) (laws_eqIntS_L4 n m (x.1,x.2.1,(IntKind.i64.wrap (x.2.2 + (1:Int)))))) none) none) (some (Sum.inr ())))
def laws_eqIntS (n:Nat) (x:jL×jL):Option (Bool) :=
 (cond (((x.1).length:Int) != ((x.2).length:Int)) (some false) ((laws_eqIntS_L4 n n (x.1,x.2,(0:Int))).bind fun e1 => (match e1 with | Sum.inl a2 => (some a2) | Sum.inr b3 => (some true))))
def S14 (n:Nat):FSum := { pars := [.c (.i (.sl (.int .i64))), .c (.i (.sl (.int .i64)))],gh := [],nb := [],res := [(false,[jB])],g := laws_eqIntS n }
def Slaws_eqIntS_L4 (n:Nat) (g:jL×jL×Int → Option ((Bool) ⊕ (Unit))):LSum := { ent := [.val 0 (.i (.sl (.int .i64))), .val 1 (.i (.sl (.int .i64))), .val 5 (jI)],exs := [(.ret,[.val 4 (jB)]),(.exit 0,[])],g := g }
def G14 (n:Nat):List (Nat×FSum) := []
def E14 (n:Nat):Env := { τ := τ,N := 26,Γ := gl (G14 n) [],Λ := (fun q => match q with   | 4 => some (Slaws_eqIntS_L4 n (laws_eqIntS_L4 n n))  | _ => none) }
theorem eqlaws_eqIntS_L4 (n m:Nat) (x):laws_eqIntS_L4 n (m + 1) x = runL (E14 n) (loopAt (bodyOf Tryz.f14) 0) (Slaws_eqIntS_L4 n (laws_eqIntS_L4 n n)) (laws_eqIntS_L4 n m) x := by kernel_rfl
theorem eq14 (n:Nat) (x):laws_eqIntS n x = runF (E14 n) Tryz.f14 (S14 n) x := by kernel_rfl
def laws_eqInst (n:Nat) (x:Int×Int×Int×Int×Int×jL×Bool×Bool×Int×Int×Int×Int×Int×Int×jL×Bool×Bool×Int):Option (Bool) :=
 (cond (x.1 != x.2.2.2.2.2.2.2.2.2.1) (some false) (cond (x.2.1 != x.2.2.2.2.2.2.2.2.2.2.1) (some false) (cond (x.2.2.1 != x.2.2.2.2.2.2.2.2.2.2.2.1) (some false) (cond (x.2.2.2.1 != x.2.2.2.2.2.2.2.2.2.2.2.2.1) (some false) (cond (x.2.2.2.2.1 != x.2.2.2.2.2.2.2.2.2.2.2.2.2.1) (some false) ((laws_eqIntS n (x.2.2.2.2.2.1,x.2.2.2.2.2.2.2.2.2.2.2.2.2.2.1)).bind fun r1 => (cond (!r1) (some false) (cond (x.2.2.2.2.2.2.1 != x.2.2.2.2.2.2.2.2.2.2.2.2.2.2.2.1) (some false) (cond (x.2.2.2.2.2.2.2.1 != x.2.2.2.2.2.2.2.2.2.2.2.2.2.2.2.2.1) (some false) (cond (x.2.2.2.2.2.2.2.2.1 != x.2.2.2.2.2.2.2.2.2.2.2.2.2.2.2.2.2) (some false) (some true)))))))))))
def S100 (n:Nat):FSum := { pars := [.g [jI,jI,jI,jI,jI, .i (.sl (.int .i64)),jB,jB,jI], .g [jI,jI,jI,jI,jI, .i (.sl (.int .i64)),jB,jB,jI]],gh := [],nb := [],res := [(false,[jB])],g := laws_eqInst n }
def G100 (n:Nat):List (Nat×FSum) := [(14,S14 n)]
def E100 (n:Nat):Env := { τ := τ,N := 51,Γ := gl (G100 n) [],Λ := (fun q => match q with  | _ => none) }
theorem eq100 (n:Nat) (x):laws_eqInst n x = runF (E100 n) Tryz.f100 (S100 n) x := by kernel_rfl
def laws_eqInstS_L4 (n:Nat):Nat → jW×jW×Int → Option ((Bool) ⊕ (Unit))
 | 0,_ => none
 | m + 1,x => (cond (decide (x.2.2 < ((x.1).length:Int))) (cond (inb x.2.2 (x.1).length) (cond (inb x.2.2 (x.2.1).length) ((laws_eqInst n ((x.1.getD (x.2.2).toNat ((0:Int),((0:Int),((0:Int),((0:Int),((0:Int),([],(false,(false,(0:Int)))))))))).1,(x.1.getD (x.2.2).toNat ((0:Int),((0:Int),((0:Int),((0:Int),((0:Int),([],(false,(false,(0:Int)))))))))).2.1,(x.1.getD (x.2.2).toNat ((0:Int),((0:Int),((0:Int),((0:Int),((0:Int),([],(false,(false,(0:Int)))))))))).2.2.1,(x.1.getD (x.2.2).toNat ((0:Int),((0:Int),((0:Int),((0:Int),((0:Int),([],(false,(false,(0:Int)))))))))).2.2.2.1,(x.1.getD (x.2.2).toNat ((0:Int),((0:Int),((0:Int),((0:Int),((0:Int),([],(false,(false,(0:Int)))))))))).2.2.2.2.1,(x.1.getD (x.2.2).toNat ((0:Int),((0:Int),((0:Int),((0:Int),((0:Int),([],(false,(false,(0:Int)))))))))).2.2.2.2.2.1,(x.1.getD (x.2.2).toNat ((0:Int),((0:Int),((0:Int),((0:Int),((0:Int),([],(false,(false,(0:Int)))))))))).2.2.2.2.2.2.1,(x.1.getD (x.2.2).toNat ((0:Int),((0:Int),((0:Int),((0:Int),((0:Int),([],(false,(false,(0:Int)))))))))).2.2.2.2.2.2.2.1,(x.1.getD (x.2.2).toNat ((0:Int),((0:Int),((0:Int),((0:Int),((0:Int),([],(false,(false,(0:Int)))))))))).2.2.2.2.2.2.2.2,(x.2.1.getD (x.2.2).toNat ((0:Int),((0:Int),((0:Int),((0:Int),((0:Int),([],(false,(false,(0:Int)))))))))).1,(x.2.1.getD (x.2.2).toNat ((0:Int),((0:Int),((0:Int),((0:Int),((0:Int),([],(false,(false,(0:Int)))))))))).2.1,(x.2.1.getD (x.2.2).toNat ((0:Int),((0:Int),((0:Int),((0:Int),((0:Int),([],(false,(false,(0:Int)))))))))).2.2.1,(x.2.1.getD (x.2.2).toNat ((0:Int),((0:Int),((0:Int),((0:Int),((0:Int),([],(false,(false,(0:Int)))))))))).2.2.2.1,(x.2.1.getD (x.2.2).toNat ((0:Int),((0:Int),((0:Int),((0:Int),((0:Int),([],(false,(false,(0:Int)))))))))).2.2.2.2.1,(x.2.1.getD (x.2.2).toNat ((0:Int),((0:Int),((0:Int),((0:Int),((0:Int),([],(false,(false,(0:Int)))))))))).2.2.2.2.2.1,(x.2.1.getD (x.2.2).toNat ((0:Int),((0:Int),((0:Int),((0:Int),((0:Int),([],(false,(false,(0:Int)))))))))).2.2.2.2.2.2.1,(x.2.1.getD (x.2.2).toNat ((0:Int),((0:Int),((0:Int),((0:Int),((0:Int),([],(false,(false,(0:Int)))))))))).2.2.2.2.2.2.2.1,(x.2.1.getD (x.2.2).toNat ((0:Int),((0:Int),((0:Int),((0:Int),((0:Int),([],(false,(false,(0:Int)))))))))).2.2.2.2.2.2.2.2)).bind fun r1 => (cond (!r1) (some (Sum.inl false)) (laws_eqInstS_L4 n m (x.1,x.2.1,(IntKind.i64.wrap (x.2.2 + (1:Int))))))) none) none) (some (Sum.inr ())))
def laws_eqInstS (n:Nat) (x:jW×jW):Option (Bool) :=
 (cond (((x.1).length:Int) != ((x.2).length:Int)) (some false) ((laws_eqInstS_L4 n n (x.1,x.2,(0:Int))).bind fun e2 => (match e2 with | Sum.inl a3 => (some a3) | Sum.inr b4 => (some true))))
def S43 (n:Nat):FSum := { pars := [.c (.i jTW), .c (.i jTW)],gh := [],nb := [],res := [(false,[jB])],g := laws_eqInstS n }
def Slaws_eqInstS_L4 (n:Nat) (g:jW×jW×Int → Option ((Bool) ⊕ (Unit))):LSum := { ent := [.val 0 (.i jTW), .val 1 (.i jTW), .val 5 (jI)],exs := [(.ret,[.val 4 (jB)]),(.exit 0,[])],g := g }
def G43 (n:Nat):List (Nat×FSum) := [(100,S100 n)]
def E43 (n:Nat):Env := { τ := τ,N := 27,Γ := gl (G43 n) [],Λ := (fun q => match q with   | 4 => some (Slaws_eqInstS_L4 n (laws_eqInstS_L4 n n))  | _ => none) }
theorem eqlaws_eqInstS_L4 (n m:Nat) (x):laws_eqInstS_L4 n (m + 1) x = runL (E43 n) (loopAt (bodyOf Tryz.f43) 0) (Slaws_eqInstS_L4 n (laws_eqInstS_L4 n n)) (laws_eqInstS_L4 n m) x := by kernel_rfl
theorem eq43 (n:Nat) (x):laws_eqInstS n x = runF (E43 n) Tryz.f43 (S43 n) x := by kernel_rfl
def laws_eqClaim (n:Nat) (x:Int×Bool×Bool×Int×Bool×Bool):Option (Bool) :=
 (cond (x.1 != x.2.2.2.1) (some false) (cond (x.2.1 != x.2.2.2.2.1) (some false) (cond (x.2.2.1 != x.2.2.2.2.2) (some false) (some true))))
def S101 (n:Nat):FSum := { pars := [.g [jI,jB,jB], .g [jI,jB,jB]],gh := [],nb := [],res := [(false,[jB])],g := laws_eqClaim n }
def G101 (n:Nat):List (Nat×FSum) := []
def E101 (n:Nat):Env := { τ := τ,N := 20,Γ := gl (G101 n) [],Λ := (fun q => match q with  | _ => none) }
theorem eq101 (n:Nat) (x):laws_eqClaim n x = runF (E101 n) Tryz.f101 (S101 n) x := by kernel_rfl
def laws_eqClaimS_L4 (n:Nat):Nat → jC×jC×Int → Option ((Bool) ⊕ (Unit))
 | 0,_ => none
 | m + 1,x => (cond (decide (x.2.2 < ((x.1).length:Int))) (cond (inb x.2.2 (x.1).length) (cond (inb x.2.2 (x.2.1).length) ((laws_eqClaim n ((x.1.getD (x.2.2).toNat ((0:Int),(false,false))).1,(x.1.getD (x.2.2).toNat ((0:Int),(false,false))).2.1,(x.1.getD (x.2.2).toNat ((0:Int),(false,false))).2.2,(x.2.1.getD (x.2.2).toNat ((0:Int),(false,false))).1,(x.2.1.getD (x.2.2).toNat ((0:Int),(false,false))).2.1,(x.2.1.getD (x.2.2).toNat ((0:Int),(false,false))).2.2)).bind fun r1 => (cond (!r1) (some (Sum.inl false)) (laws_eqClaimS_L4 n m (x.1,x.2.1,(IntKind.i64.wrap (x.2.2 + (1:Int))))))) none) none) (some (Sum.inr ())))
def laws_eqClaimS (n:Nat) (x:jC×jC):Option (Bool) :=
 (cond (((x.1).length:Int) != ((x.2).length:Int)) (some false) ((laws_eqClaimS_L4 n n (x.1,x.2,(0:Int))).bind fun e2 => (match e2 with | Sum.inl a3 => (some a3) | Sum.inr b4 => (some true))))
def S44 (n:Nat):FSum := { pars := [.c (.i (.sl (.pr (.int .i64) (.pr .bool .bool)))), .c (.i (.sl (.pr (.int .i64) (.pr .bool .bool))))],gh := [],nb := [],res := [(false,[jB])],g := laws_eqClaimS n }
def Slaws_eqClaimS_L4 (n:Nat) (g:jC×jC×Int → Option ((Bool) ⊕ (Unit))):LSum := { ent := [.val 0 (.i (.sl (.pr (.int .i64) (.pr .bool .bool)))), .val 1 (.i (.sl (.pr (.int .i64) (.pr .bool .bool)))), .val 5 (jI)],exs := [(.ret,[.val 4 (jB)]),(.exit 0,[])],g := g }
def G44 (n:Nat):List (Nat×FSum) := [(101,S101 n)]
def E44 (n:Nat):Env := { τ := τ,N := 27,Γ := gl (G44 n) [],Λ := (fun q => match q with   | 4 => some (Slaws_eqClaimS_L4 n (laws_eqClaimS_L4 n n))  | _ => none) }
theorem eqlaws_eqClaimS_L4 (n m:Nat) (x):laws_eqClaimS_L4 n (m + 1) x = runL (E44 n) (loopAt (bodyOf Tryz.f44) 0) (Slaws_eqClaimS_L4 n (laws_eqClaimS_L4 n n)) (laws_eqClaimS_L4 n m) x := by kernel_rfl
theorem eq44 (n:Nat) (x):laws_eqClaimS n x = runF (E44 n) Tryz.f44 (S44 n) x := by kernel_rfl
def laws_eqWorld (n:Nat) (x:jN×jL×jW×Int×jL×jL×jC×jN×jL×jW×Int×jL×jL×jC):Option (Bool) :=
 ((laws_eqPool n (x.1,x.2.2.2.2.2.2.2.1)).bind fun r1 => (cond (!r1) (some false) ((laws_eqIntS n (x.2.1,x.2.2.2.2.2.2.2.2.1)).bind fun r2 => (cond (!r2) (some false) ((laws_eqInstS n (x.2.2.1,x.2.2.2.2.2.2.2.2.2.1)).bind fun r3 => (cond (!r3) (some false) (cond (x.2.2.2.1 != x.2.2.2.2.2.2.2.2.2.2.1) (some false) ((laws_eqIntS n (x.2.2.2.2.1,x.2.2.2.2.2.2.2.2.2.2.2.1)).bind fun r4 => (cond (!r4) (some false) ((laws_eqIntS n (x.2.2.2.2.2.1,x.2.2.2.2.2.2.2.2.2.2.2.2.1)).bind fun r5 => (cond (!r5) (some false) ((laws_eqClaimS n (x.2.2.2.2.2.2.1,x.2.2.2.2.2.2.2.2.2.2.2.2.2)).bind fun r6 => (cond (!r6) (some false) (some true))))))))))))))
def S11 (n:Nat):FSum := { pars := [.g [.i jTN, .i (.sl (.int .i64)), .i jTW,jI, .i (.sl (.int .i64)), .i (.sl (.int .i64)), .i (.sl (.pr (.int .i64) (.pr .bool .bool)))], .g [.i jTN, .i (.sl (.int .i64)), .i jTW,jI, .i (.sl (.int .i64)), .i (.sl (.int .i64)), .i (.sl (.pr (.int .i64) (.pr .bool .bool)))]],gh := [],nb := [],res := [(false,[jB])],g := laws_eqWorld n }
def G11 (n:Nat):List (Nat×FSum) := [(42,S42 n),(14,S14 n),(43,S43 n),(44,S44 n)]
def E11 (n:Nat):Env := { τ := τ,N := 46,Γ := gl (G11 n) [],Λ := (fun q => match q with  | _ => none) }
theorem eq11 (n:Nat) (x):laws_eqWorld n x = runF (E11 n) Tryz.f11 (S11 n) x := by kernel_rfl
def laws_FnExactJudgeSecret (n:Nat) (x:jN×jL×jW×Int×jL×jL×jC):Option (Bool) :=
 ((laws_szWorld n (x.1,x.2.1,x.2.2.1,x.2.2.2.1,x.2.2.2.2.1,x.2.2.2.2.2.1,x.2.2.2.2.2.2,(1048576:Int))).bind fun r1 => (cond (decide (r1 < (0:Int))) (some true) ((laws_toWorld n (x.1,x.2.1,x.2.2.1,x.2.2.2.1,x.2.2.2.2.1,x.2.2.2.2.2.1,x.2.2.2.2.2.2)).bind fun r2 => ((spec_JudgeSecret n (r2.1,r2.2.1,r2.2.2.1,r2.2.2.2.1,r2.2.2.2.2.1,r2.2.2.2.2.2.1,r2.2.2.2.2.2.2)).bind fun r3 => ((laws_toWorld n (x.1,x.2.1,x.2.2.1,x.2.2.2.1,x.2.2.2.2.1,x.2.2.2.2.2.1,x.2.2.2.2.2.2)).bind fun r4 => ((impl_JudgeSecret n (r4.1,r4.2.1,r4.2.2.1,r4.2.2.2.1,r4.2.2.2.2.1,r4.2.2.2.2.2.1,r4.2.2.2.2.2.2)).bind fun r5 => (cond (r5 != r3) (some false) ((laws_toWorld n (x.1,x.2.1,x.2.2.1,x.2.2.2.1,x.2.2.2.2.1,x.2.2.2.2.2.1,x.2.2.2.2.2.2)).bind fun r6 => ((laws_eqWorld n (r4.1,r4.2.1,r4.2.2.1,r4.2.2.2.1,r4.2.2.2.2.1,r4.2.2.2.2.2.1,r4.2.2.2.2.2.2,r6.1,r6.2.1,r6.2.2.1,r6.2.2.2.1,r6.2.2.2.2.1,r6.2.2.2.2.2.1,r6.2.2.2.2.2.2)).bind fun r7 => (cond (!r7) (some false) (some true)))))))))))
def S3 (n:Nat):FSum := { pars := [.g [.i jTN, .i (.sl (.int .i64)), .i jTW,jI, .i (.sl (.int .i64)), .i (.sl (.int .i64)), .i (.sl (.pr (.int .i64) (.pr .bool .bool)))]],gh := [],nb := [],res := [(false,[jB])],g := laws_FnExactJudgeSecret n }
def G3 (n:Nat):List (Nat×FSum) := [(7,S7 n),(9,S9 n),(8,S8 n),(10,S10 n),(11,S11 n)]
def E3 (n:Nat):Env := { τ := τ,N := 27,Γ := gl (G3 n) [],Λ := (fun q => match q with  | _ => none) }
theorem eq3 (n:Nat) (x):laws_FnExactJudgeSecret n x = runF (E3 n) Tryz.f3 (S3 n) x := by kernel_rfl
theorem tabOk:TabOk Tryz.prog τ := tabB_sound (by kernel_rfl)
theorem mixed:Tryz.prog.follows .mixedOrders = true := by kernel_rfl
end AM
end Go.Proofs.YtobpcllkonomlabGreatDoor
