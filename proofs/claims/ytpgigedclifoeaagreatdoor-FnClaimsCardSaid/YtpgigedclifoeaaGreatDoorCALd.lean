/- The functions that the laws reach, as plain Lean functions, and that the evaluator gives just these. No condition. -/
import Derived.Test.YtpgigedclifoeaaGreatDoorCALd2
import Derived.Test.YtpgigedclifoeaaGreatDoorCW3
import Derived.Test.YtpgigedclifoeaaGreatDoorCW4
import Derived.Test.YtpgigedclifoeaaGreatDoorProg
import Derived.Lib.AtoiAll
import Derived.Lib.IndexMore
import Derived.Lib.ItoaNum
import Derived.Lib.Split
import Derived.Lib.CountLaws
import Derived.Lib.SlicesCompact
namespace Go.Proofs.YtpgigedclifoeaaGreatDoor
namespace AM
open Go
set_option linter.unusedVariables false
def jj (n:Nat) (x:jN×jL×jW×Int×jL×jL×jC×Int):Option (Bool) :=
 ((dQ n (x.1,x.2.1,x.2.2.1,x.2.2.2.1,x.2.2.2.2.1,x.2.2.2.2.2.1,x.2.2.2.2.2.2.1)).bind fun r1=>(cond r1 ((dr n (x.1,x.2.1,x.2.2.1,x.2.2.2.1,x.2.2.2.2.1,x.2.2.2.2.2.1,x.2.2.2.2.2.2.1,x.2.2.2.2.2.2.2)).bind fun r2=>(some r2.2.2.2.2.2.2.2)) (some false)))
def Y8 (n:Nat):aa:={ pars:=[.g [.i aT, .i (.sl (.int .i64)), .i gA,jI, .i (.sl (.int .i64)), .i (.sl (.int .i64)), .i (.sl (.pr (.int .i64) (.pr .bool .bool)))], .c (jI)],gh:=[],nb:=[],res:=[(false,[jB])],g:=jj n }
def G15 (n:Nat):List (Nat×aa):=[(9,S9 n),(54,WC n)]
def E15 (n:Nat):aC:={ τ:=τ,N:=11,Γ:=gl (G15 n) [],Λ:=(fun q=>match q with  | _=>none) }
theorem Yv (n:Nat) (x):jj n x=am (E15 n) Tryz.f15 (Y8 n) x:=by kernel_rfl
def eY (n:Nat) (x:jN×jL×jW×Int×jL×jL×jC×Int):Option (Bool) :=
 ((gJ n (x.1,x.2.1,x.2.2.1,x.2.2.2.1,x.2.2.2.2.1,x.2.2.2.2.2.1,x.2.2.2.2.2.2.1,x.2.2.2.2.2.2.2)).bind fun r1=>(cond r1.2.2.2 (cond (!r1.2.1) (cond (aY x.2.2.2.2.2.2.2 (x.2.2.1).length) (cond ((x.2.2.1.getD (x.2.2.2.2.2.2.2).toNat ((0:Int),((0:Int),((0:Int),((0:Int),((0:Int),([],(false,(false,(0:Int)))))))))).1 != (2:Int)) (some true) (some (!r1.2.2.1))) none) (some false)) (some false)))
def WB (n:Nat):aa:={ pars:=[.g [.i aT, .i (.sl (.int .i64)), .i gA,jI, .i (.sl (.int .i64)), .i (.sl (.int .i64)), .i (.sl (.pr (.int .i64) (.pr .bool .bool)))], .c (jI)],gh:=[],nb:=[],res:=[(false,[jB])],g:=eY n }
def G55 (n:Nat):List (Nat×aa):=[(51,WE n)]
def E55 (n:Nat):aC:={ τ:=τ,N:=33,Γ:=gl (G55 n) [],Λ:=(fun q=>match q with  | _=>none) }
theorem X9 (n:Nat) (x):eY n x=am (E55 n) Tryz.f55 (WB n) x:=by kernel_rfl
def kr (n:Nat) (x:jN×jL×jW×Int×jL×jL×jC×Int):Option (Bool) :=
 ((co n (x.1,x.2.1,x.2.2.1,x.2.2.2.1,x.2.2.2.2.1,x.2.2.2.2.2.1,x.2.2.2.2.2.2.1)).bind fun r1=>(cond r1 ((eY n (x.1,x.2.1,x.2.2.1,x.2.2.2.1,x.2.2.2.2.1,x.2.2.2.2.2.1,x.2.2.2.2.2.2.1,x.2.2.2.2.2.2.2)).bind fun r2=>(some r2)) (some false)))
def Y7 (n:Nat):aa:={ pars:=[.g [.i aT, .i (.sl (.int .i64)), .i gA,jI, .i (.sl (.int .i64)), .i (.sl (.int .i64)), .i (.sl (.pr (.int .i64) (.pr .bool .bool)))], .c (jI)],gh:=[],nb:=[],res:=[(false,[jB])],g:=kr n }
def G16 (n:Nat):List (Nat×aa):=[(10,MO n),(55,WB n)]
def E16 (n:Nat):aC:={ τ:=τ,N:=12,Γ:=gl (G16 n) [],Λ:=(fun q=>match q with  | _=>none) }
theorem Yu (n:Nat) (x):kr n x=am (E16 n) Tryz.f16 (Y7 n) x:=by kernel_rfl
def bl (n:Nat):Nat→Int×jN×jL×jW×Int×jL×jL×jC×Int→Option ((Bool)⊕(Unit))
 |0,_=>none
 |m+1,x=>(cond (decide (x.2.2.2.2.2.2.2.2<((x.2.2.2.2.2.2.1).length:Int))) (cond (aY x.2.2.2.2.2.2.2.2 (x.2.2.2.2.2.2.1).length) (cond (aY (x.2.2.2.2.2.2.1.getD (x.2.2.2.2.2.2.2.2).toNat (0:Int)) (x.2.2.2.1).length) (cond (aY x.1 (x.2.2.2.1).length) (cond ((x.2.2.2.1.getD ((x.2.2.2.2.2.2.1.getD (x.2.2.2.2.2.2.2.2).toNat (0:Int))).toNat ((0:Int),((0:Int),((0:Int),((0:Int),((0:Int),([],(false,(false,(0:Int)))))))))).2.2.2.2.2.2.2.2==(x.2.2.2.1.getD (x.1).toNat ((0:Int),((0:Int),((0:Int),((0:Int),((0:Int),([],(false,(false,(0:Int)))))))))).2.2.2.2.2.2.2.2) (some (Sum.inl true)) (bl n m (x.1,x.2.1,x.2.2.1,x.2.2.2.1,x.2.2.2.2.1,x.2.2.2.2.2.1,x.2.2.2.2.2.2.1,x.2.2.2.2.2.2.2.1,(IntKind.i64.wrap (x.2.2.2.2.2.2.2.2+(1:Int)))))) none) none) none) (some (Sum.inr ())))
def gI (n:Nat) (x:jN×jL×jW×Int×jL×jL×jC×Int):Option (Bool) :=
 ((bI n (x.2.2.2.2.2.2.2,(0:Int),(IntKind.i64.wrap (((x.2.2.1).length:Int)-(1:Int))))).bind fun r1=>(cond (!r1) (some false) (cond (aY x.2.2.2.2.2.2.2 (x.2.2.1).length) (cond (!(x.2.2.1.getD (x.2.2.2.2.2.2.2).toNat ((0:Int),((0:Int),((0:Int),((0:Int),((0:Int),([],(false,(false,(0:Int)))))))))).2.2.2.2.2.2.1) (some false) ((bl n n (x.2.2.2.2.2.2.2,x.1,x.2.1,x.2.2.1,x.2.2.2.1,x.2.2.2.2.1,x.2.2.2.2.2.1,x.2.2.2.2.2.2.1,(0:Int))).bind fun e2=>(match e2 with|Sum.inl a3=>(some a3)|Sum.inr b4=>(some false)))) none)))
def WA (n:Nat):aa:={ pars:=[.g [.i aT, .i (.sl (.int .i64)), .i gA,jI, .i (.sl (.int .i64)), .i (.sl (.int .i64)), .i (.sl (.pr (.int .i64) (.pr .bool .bool)))], .c (jI)],gh:=[],nb:=[],res:=[(false,[jB])],g:=gI n }
def kK (n:Nat) (g:Int×jN×jL×jW×Int×jL×jL×jC×Int→Option ((Bool)⊕(Unit))):dC:={ ent:=[.val 1 (jI), .box 2 [2,0] [.i aT, .i (.sl (.int .i64)), .i gA,jI, .i (.sl (.int .i64)), .i (.sl (.int .i64)), .i (.sl (.pr (.int .i64) (.pr .bool .bool)))], .val 5 (jI)],exs:=[(.ret,[.val 4 (jB)]),(.exit 0,[])],g:=g }
def G57 (n:Nat):List (Nat×aa):=[(46,Ge n)]
def Zo (n:Nat):aC:={ τ:=τ,N:=46,Γ:=gl (G57 n) [],Λ:=(fun q=>match q with   | 4=>some (kK n (bl n n))  | _=>none) }
theorem tE (n m:Nat) (x):bl n (m+1) x=dx (Zo n) (aP (af Tryz.f57) 0) (kK n (bl n n)) (bl n m) x:=by kernel_rfl
theorem X7 (n:Nat) (x):gI n x=am (Zo n) Tryz.f57 (WA n) x:=by kernel_rfl
def ii (n:Nat) (x:jN×jL×jW×Int×jL×jL×jC×Int):Option (Bool) :=
 ((eY n (x.1,x.2.1,x.2.2.1,x.2.2.2.1,x.2.2.2.2.1,x.2.2.2.2.2.1,x.2.2.2.2.2.2.1,x.2.2.2.2.2.2.2)).bind fun r1=>(cond (!r1) (some false) ((gI n (x.1,x.2.1,x.2.2.1,x.2.2.2.1,x.2.2.2.2.1,x.2.2.2.2.2.1,x.2.2.2.2.2.2.1,x.2.2.2.2.2.2.2)).bind fun r2=>(cond r2 (some false) (cond (aY x.2.2.2.2.2.2.2 (x.2.2.1).length) (cond ((x.2.2.1.getD (x.2.2.2.2.2.2.2).toNat ((0:Int),((0:Int),((0:Int),((0:Int),((0:Int),([],(false,(false,(0:Int)))))))))).1==(1:Int)) (some true) ((cV n (x.2.2.2.2.1,(x.2.2.1.getD (x.2.2.2.2.2.2.2).toNat ((0:Int),((0:Int),((0:Int),((0:Int),((0:Int),([],(false,(false,(0:Int)))))))))).2.2.1)).bind fun r3=>(cond (!r3) ((cV n (x.2.2.2.2.1,(x.2.2.1.getD (x.2.2.2.2.2.2.2).toNat ((0:Int),((0:Int),((0:Int),((0:Int),((0:Int),([],(false,(false,(0:Int)))))))))).2.2.2.1)).bind fun r4=>(some (!r4))) (some false)))) none)))))
def YW (n:Nat):aa:={ pars:=[.g [.i aT, .i (.sl (.int .i64)), .i gA,jI, .i (.sl (.int .i64)), .i (.sl (.int .i64)), .i (.sl (.pr (.int .i64) (.pr .bool .bool)))], .c (jI)],gh:=[],nb:=[],res:=[(false,[jB])],g:=ii n }
def G56 (n:Nat):List (Nat×aa):=[(55,WB n),(57,WA n),(49,Mr n)]
def E56 (n:Nat):aC:={ τ:=τ,N:=39,Γ:=gl (G56 n) [],Λ:=(fun q=>match q with  | _=>none) }
theorem X8 (n:Nat) (x):ii n x=am (E56 n) Tryz.f56 (YW n) x:=by kernel_rfl
def lP (n:Nat) (x:jN×jL×jW×Int×jL×jL×jC×Int):Option (Bool) :=
 ((co n (x.1,x.2.1,x.2.2.1,x.2.2.2.1,x.2.2.2.2.1,x.2.2.2.2.2.1,x.2.2.2.2.2.2.1)).bind fun r1=>(cond r1 ((ii n (x.1,x.2.1,x.2.2.1,x.2.2.2.1,x.2.2.2.2.1,x.2.2.2.2.2.1,x.2.2.2.2.2.2.1,x.2.2.2.2.2.2.2)).bind fun r2=>(some r2)) (some false)))
def Y6 (n:Nat):aa:={ pars:=[.g [.i aT, .i (.sl (.int .i64)), .i gA,jI, .i (.sl (.int .i64)), .i (.sl (.int .i64)), .i (.sl (.pr (.int .i64) (.pr .bool .bool)))], .c (jI)],gh:=[],nb:=[],res:=[(false,[jB])],g:=lP n }
def G17 (n:Nat):List (Nat×aa):=[(10,MO n),(56,YW n)]
def E17 (n:Nat):aC:={ τ:=τ,N:=12,Γ:=gl (G17 n) [],Λ:=(fun q=>match q with  | _=>none) }
theorem Yt (n:Nat) (x):lP n x=am (E17 n) Tryz.f17 (Y6 n) x:=by kernel_rfl
def jg (n:Nat) (x:jN×jL×jW×Int×jL×jL×jC×Int):Option (Bool) :=
 ((co n (x.1,x.2.1,x.2.2.1,x.2.2.2.1,x.2.2.2.2.1,x.2.2.2.2.2.1,x.2.2.2.2.2.2.1)).bind fun r1=>(cond r1 ((gI n (x.1,x.2.1,x.2.2.1,x.2.2.2.1,x.2.2.2.2.1,x.2.2.2.2.2.1,x.2.2.2.2.2.2.1,x.2.2.2.2.2.2.2)).bind fun r2=>(some r2)) (some false)))
def Y5 (n:Nat):aa:={ pars:=[.g [.i aT, .i (.sl (.int .i64)), .i gA,jI, .i (.sl (.int .i64)), .i (.sl (.int .i64)), .i (.sl (.pr (.int .i64) (.pr .bool .bool)))], .c (jI)],gh:=[],nb:=[],res:=[(false,[jB])],g:=jg n }
def G18 (n:Nat):List (Nat×aa):=[(10,MO n),(57,WA n)]
def E18 (n:Nat):aC:={ τ:=τ,N:=12,Γ:=gl (G18 n) [],Λ:=(fun q=>match q with  | _=>none) }
theorem Ys (n:Nat) (x):jg n x=am (E18 n) Tryz.f18 (Y5 n) x:=by kernel_rfl
def gN (n:Nat) (x:jL):Option (Bool) :=
 ((uw n x).bind fun r1=>(cond r1 (some true) ((iL n x).bind fun r2=>((dQ n (r2.1,r2.2.1,r2.2.2.1,r2.2.2.2.1,r2.2.2.2.2.1,r2.2.2.2.2.2.1,r2.2.2.2.2.2.2.1)).bind fun r3=>((co n (r2.1,r2.2.1,r2.2.2.1,r2.2.2.2.1,r2.2.2.2.2.1,r2.2.2.2.2.2.1,r2.2.2.2.2.2.2.1)).bind fun r4=>(cond (r3 != r4) (some false) ((gq n (r2.1,r2.2.1,r2.2.2.1,r2.2.2.2.1,r2.2.2.2.2.1,r2.2.2.2.2.2.1,r2.2.2.2.2.2.2.1,r2.2.2.2.2.2.2.2)).bind fun r5=>((gm n (r2.1,r2.2.1,r2.2.2.1,r2.2.2.2.1,r2.2.2.2.2.1,r2.2.2.2.2.2.1,r2.2.2.2.2.2.2.1,r2.2.2.2.2.2.2.2)).bind fun r6=>(cond (r5.2.2.2 != r6.2.2.2) (some false) (cond (!(r5.1==r6.1&&(r5.2.1==r6.2.1&&(r5.2.2.1==r6.2.2.1&&true)))) (some false) ((kA n (r2.1,r2.2.1,r2.2.2.1,r2.2.2.2.1,r2.2.2.2.2.1,r2.2.2.2.2.2.1,r2.2.2.2.2.2.2.1,r2.2.2.2.2.2.2.2)).bind fun r7=>((lV n (r2.1,r2.2.1,r2.2.2.1,r2.2.2.2.1,r2.2.2.2.2.1,r2.2.2.2.2.2.1,r2.2.2.2.2.2.2.1,r2.2.2.2.2.2.2.2)).bind fun r8=>((jj n (r2.1,r2.2.1,r2.2.2.1,r2.2.2.2.1,r2.2.2.2.2.1,r2.2.2.2.2.2.1,r2.2.2.2.2.2.2.1,r2.2.2.2.2.2.2.2)).bind fun r9=>((kr n (r2.1,r2.2.1,r2.2.2.1,r2.2.2.2.1,r2.2.2.2.2.1,r2.2.2.2.2.2.1,r2.2.2.2.2.2.2.1,r2.2.2.2.2.2.2.2)).bind fun r10=>(cond (r7 != r10) (some false) ((lP n (r2.1,r2.2.1,r2.2.2.1,r2.2.2.2.1,r2.2.2.2.2.1,r2.2.2.2.2.2.1,r2.2.2.2.2.2.2.1,r2.2.2.2.2.2.2.2)).bind fun r11=>(cond (r8 != r11) (some false) ((jg n (r2.1,r2.2.1,r2.2.2.1,r2.2.2.2.1,r2.2.2.2.2.1,r2.2.2.2.2.2.1,r2.2.2.2.2.2.2.1,r2.2.2.2.2.2.2.2)).bind fun r12=>(cond (r9 != r12) (some false) ((co n (r2.1,r2.2.1,r2.2.2.1,r2.2.2.2.1,r2.2.2.2.2.1,r2.2.2.2.2.2.1,r2.2.2.2.2.2.2.1)).bind fun r13=>(cond (!r13) (cond (!r5.2.2.2) (cond (!r7) (cond (!r8) (some (!r9)) (some false)) (some false)) (some false)) (cond (decide (r2.2.2.2.2.2.2.2<(0:Int))) (cond (!r5.2.2.2) (cond (!r7) (cond (!r8) (some (!r9)) (some false)) (some false)) (some false)) (cond (decide (r2.2.2.2.2.2.2.2≥((r2.2.2.1).length:Int))) (cond (!r5.2.2.2) (cond (!r7) (cond (!r8) (some (!r9)) (some false)) (some false)) (some false)) (cond (aY r2.2.2.2.2.2.2.2 (r2.2.2.1).length) (cond (r5.2.2.2==(r2.2.2.1.getD (r2.2.2.2.2.2.2.2).toNat ((0:Int),((0:Int),((0:Int),((0:Int),((0:Int),([],(false,(false,(0:Int)))))))))).2.2.2.2.2.2.1) (cond (!r7) (cond (!r8) (some true) (cond r7 (some (!r9)) (some false))) (cond r5.2.2.2 (cond (!r5.2.1) (cond (!r8) (some true) (cond r7 (some (!r9)) (some false))) (some false)) (some false))) (some false)) none))))))))))))))))))))))))
def S3 (n:Nat):aa:={ pars:=[.c (.i (.sl (.int .u8)))],gh:=[],nb:=[],res:=[(false,[jB])],g:=gN n }
def G3 (n:Nat):List (Nat×aa):=[(7,S7 n),(8,S8 n),(9,S9 n),(10,MO n),(11,Zc n),(12,Zb n),(13,Za n),(14,Y9 n),(15,Y8 n),(16,Y7 n),(17,Y6 n),(18,Y5 n)]
def E3 (n:Nat):aC:={ τ:=τ,N:=131,Γ:=gl (G3 n) [],Λ:=(fun q=>match q with  | _=>none) }
theorem eq3 (n:Nat) (x):gN n x=am (E3 n) Tryz.f3 (S3 n) x:=by kernel_rfl
theorem ag:dq Tryz.prog τ:=xN (by kernel_rfl)
theorem mixed:Tryz.prog.follows .mixedOrders=true:=by kernel_rfl
end AM
end Go.Proofs.YtpgigedclifoeaaGreatDoor
