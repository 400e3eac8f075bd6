/- The functions that the laws reach, as plain Lean functions, and that the evaluator gives just these. No condition. -/
import Derived.Test.YtlkgapiohfgenaaGreatDoorJW4
import Derived.Test.YtlkgapiohfgenaaGreatDoorJW3
import Derived.Test.YtlkgapiohfgenaaGreatDoorProg
import Derived.Lib.AtoiAll
import Derived.Lib.IndexMore
import Derived.Lib.ItoaNum
import Derived.Lib.Split
import Derived.Lib.CountLaws
import Derived.Lib.SlicesCompact
namespace Go.Proofs.YtlkgapiohfgenaaGreatDoor
namespace AM
open Go
set_option linter.unusedVariables false
abbrev jW:=List (Int×(Int×(Int×(Int×(Int×((List Int)×(Bool×(Bool×Int))))))))
abbrev jN:=List (Int×(Int×Int))
abbrev jC:=List (Int×(Bool×Bool))
abbrev jL:=List Int
abbrev dW:Ty := .sl (.pr (.int .i64) (.pr (.int .i64) (.pr (.int .i64) (.pr (.int .i64) (.pr (.int .i64) (.pr (.sl (.int .i64)) (.pr .bool (.pr .bool (.int .i64)))))))))
abbrev bR:Ty := .sl (.pr (.int .i64) (.pr (.int .i64) (.int .i64)))
abbrev jI:PS := .i (.int .i64)
abbrev jB:PS := .i .bool
abbrev jS:PS := .i .str
abbrev jA:=List (Int×ByteArray)
abbrev jP:=List (Int×(Int×jL))
abbrev jD:=List (Int×(Int×(Int×Bool)))
abbrev jO:PS := .o 3 (.int .i64)
abbrev rt:PS := .o 89 (.pr (.int .i64) (.pr (.int .i64) (.int .i64)))
abbrev Q9:ByteArray:=⟨#[102,114,101,115,104,32,120,10,115,101,110,100,32,94,36,120,10,116,97,107,101,32,40,63,121,44,91,40,110,53,44,40,40,94,36,120,44,36,121,41,44,36,109,41,41,44,36,113,93,41,10,115,101,110,100,32,91,40,110,54,44,40,40,36,121,44,94,36,120,41,44,36,112,41,41,44,36,115,93,10,99,108,97,105,109,32,107,40,120,40,36,120,44,36,121,41,44,40,94,36,120,44,36,121,41,41,10]⟩
abbrev QO:ByteArray:=⟨#[102,114,101,115,104,32,121,10,116,97,107,101,32,63,120,10,115,101,110,100,32,40,94,36,121,44,91,40,110,53,44,40,40,36,120,44,94,36,121,41,44,36,112,41,41,44,36,115,93,41,10,116,97,107,101,32,91,40,110,54,44,40,40,94,36,121,44,36,120,41,44,36,109,41,41,44,36,113,93,10,99,108,97,105,109,32,107,40,120,40,36,121,44,36,120,41,44,40,36,120,44,94,36,121,41,41,10]⟩
abbrev Mq:ByteArray:=⟨#[102,114,101,115,104,32,120,10,115,101,110,100,32,36,120,10,116,97,107,101,32,123,40,110,53,44,40,40,36,120,44,63,121,41,44,36,112,41,41,44,36,107,125,10,115,101,110,100,32,123,40,110,54,44,40,40,36,121,44,36,120,41,44,36,109,41,41,44,36,107,125,10,99,108,97,105,109,32,107,40,36,107,44,40,36,120,44,36,121,41,41,10]⟩
abbrev II:ByteArray:=⟨#[102,114,101,115,104,32,121,10,116,97,107,101,32,63,120,10,115,101,110,100,32,123,40,110,53,44,40,40,36,120,44,36,121,41,44,36,109,41,41,44,36,107,125,10,116,97,107,101,32,123,40,110,54,44,40,40,36,121,44,36,120,41,44,36,112,41,41,44,36,107,125,10,99,108,97,105,109,32,107,40,36,107,44,40,36,120,44,36,121,41,41,10]⟩
abbrev Ay:ByteArray:=⟨#[102,114,101,115,104,32,120,10,115,101,110,100,32,94,36,120,10,116,97,107,101,32,40,63,121,44,35,40,110,53,44,107,40,40,120,40,36,120,44,36,117,41,44,120,40,36,116,44,36,121,41,41,44,40,120,40,36,120,44,36,121,41,44,40,40,94,36,120,44,36,121,41,44,40,36,109,44,36,112,41,41,41,41,41,41,10,115,101,110,100,32,35,40,110,54,44,107,40,40,120,40,36,120,44,36,117,41,44,120,40,36,116,44,36,121,41,41,44,40,120,40,36,120,44,36,121,41,44,40,40,94,36,120,44,36,121,41,44,40,36,109,44,36,112,41,41,41,41,41,10,99,108,97,105,109,32,107,40,40,120,40,36,120,44,36,117,41,44,120,40,36,116,44,36,121,41,41,44,40,120,40,36,120,44,36,121,41,44,40,40,94,36,120,44,36,121,41,44,40,36,109,44,36,112,41,41,41,41,10]⟩
abbrev qe:ByteArray:=⟨#[102,114,101,115,104,32,121,10,116,97,107,101,32,63,120,10,115,101,110,100,32,40,94,36,121,44,35,40,110,53,44,107,40,40,120,40,36,116,44,36,120,41,44,120,40,36,121,44,36,117,41,41,44,40,120,40,36,121,44,36,120,41,44,40,40,36,120,44,94,36,121,41,44,40,36,112,44,36,109,41,41,41,41,41,41,10,116,97,107,101,32,35,40,110,54,44,107,40,40,120,40,36,116,44,36,120,41,44,120,40,36,121,44,36,117,41,41,44,40,120,40,36,121,44,36,120,41,44,40,40,36,120,44,94,36,121,41,44,40,36,112,44,36,109,41,41,41,41,41,10,99,108,97,105,109,32,107,40,40,120,40,36,116,44,36,120,41,44,120,40,36,121,44,36,117,41,41,44,40,120,40,36,121,44,36,120,41,44,40,40,36,120,44,94,36,121,41,44,40,36,112,44,36,109,41,41,41,41,10]⟩
def sU (x:Int):Option ByteArray:=if -9223372036854775808≤x∧x≤9223372036854775807 then some ⟨(Lib.itoa x).toArray⟩else none
def sV (s:ByteArray):Option (Int×Bool):=if s.size≤281474976710656 then(match Lib.atoiAll s.data.toList with
 | .ok v=>some (v,false)
 | .range=>some (Lib.atoiSat s.data.toList,true)
 |_=>some (0,true))else none
def vR (x:ByteArray×ByteArray):Option (ByteArray×ByteArray×Bool):=if x.1.size<4294967281 then some (⟨(Lib.cut x.1.data.toList x.2.data.toList).1.toArray⟩,⟨(Lib.cut x.1.data.toList x.2.data.toList).2.1.toArray⟩,(Lib.cut x.1.data.toList x.2.data.toList).2.2)else none
def lh (x:List Int):Option jL:=if x.length≤4294967296 then some (x.mergeSort fun a b=>decide (a≤b))else none
def gX (x:List Int):Option jL:=if x.length≤4294967296 then some (Lib.compact x)else none
def m7 (x:List Int):Option jL:=some x
def eU (x:List Int):Option jL:=bif decide (x.length≤4294967296)then some x else none
def gj (x:List (Int×(Int×Int))):Option jN:=bif decide (x.length≤4294967296)then some x else none
def τ:kE:=[
 (3,{ ty:=some (.int .i64),kind:=1 }),
 (4,{ ty:=some .bool,bytes:=1,kind:=6 }),
 (5,{ ty:=some (.int .u8),bytes:=1,kind:=1,ik := .u8 }),
 (9,{ ty:=some .str,bytes:=16,kind:=5 }),
 (22,{ ty:=some bR,bytes:=24,kind:=3,el:=91 }),
 (24,{ ty:=some bR,agg:=true,bytes:=24,kind:=2,fs:=[(0,1,false)] }),
 (25,{ ty:=some (.sl (.int .i64)),bytes:=24,kind:=3,el:=3 }),
 (26,{ ty:=some dW,bytes:=24,kind:=3,el:=57 }),
 (27,{ ty:=some (.sl (.pr (.int .i64) (.pr .bool .bool))),bytes:=24,kind:=3,el:=70 }),
 (29,{ ty:=some (.pr bR (.pr (.sl (.int .i64)) (.pr dW (.pr (.int .i64) (.pr (.sl (.int .i64)) (.pr (.sl (.int .i64)) (.sl (.pr (.int .i64) (.pr .bool .bool))))))))),agg:=true,size:=7,bytes:=152,kind:=2,fs:=[(0,1,true),(1,1,false),(2,1,false),(3,1,false),(4,1,false),(5,1,false),(6,1,false)] }),
 (32,{ ty:=some bR,bytes:=24,kind:=3,el:=89 }),
 (34,{ ty:=some bR,agg:=true,bytes:=24,kind:=2,fs:=[(0,1,false)] }),
 (35,{ ty:=some dW,bytes:=24,kind:=3,el:=63 }),
 (36,{ ty:=some (.sl (.pr (.int .i64) (.pr .bool .bool))),bytes:=24,kind:=3,el:=68 }),
 (38,{ ty:=some (.pr bR (.pr (.sl (.int .i64)) (.pr dW (.pr (.int .i64) (.pr (.sl (.int .i64)) (.pr (.sl (.int .i64)) (.sl (.pr (.int .i64) (.pr .bool .bool))))))))),agg:=true,size:=7,bytes:=152,kind:=2,fs:=[(0,1,true),(1,1,false),(2,1,false),(3,1,false),(4,1,false),(5,1,false),(6,1,false)] }),
 (57,{ ty:=some (.pr (.int .i64) (.pr (.int .i64) (.pr (.int .i64) (.pr (.int .i64) (.pr (.int .i64) (.pr (.sl (.int .i64)) (.pr .bool (.pr .bool (.int .i64))))))))),agg:=true,size:=9,bytes:=80,kind:=2,fs:=[(0,1,false),(1,1,false),(2,1,false),(3,1,false),(4,1,false),(5,1,false),(6,1,false),(7,1,false),(8,1,false)] }),
 (60,{ ty:=some (.sl .bool),bytes:=24,kind:=3,el:=4 }),
 (63,{ ty:=some (.pr (.int .i64) (.pr (.int .i64) (.pr (.int .i64) (.pr (.int .i64) (.pr (.int .i64) (.pr (.sl (.int .i64)) (.pr .bool (.pr .bool (.int .i64))))))))),agg:=true,size:=9,bytes:=80,kind:=2,fs:=[(0,1,false),(1,1,false),(2,1,false),(3,1,false),(4,1,false),(5,1,false),(6,1,false),(7,1,false),(8,1,false)] }),
 (68,{ ty:=some (.pr (.int .i64) (.pr .bool .bool)),agg:=true,size:=3,bytes:=16,kind:=2,fs:=[(0,1,false),(1,1,false),(2,1,false)] }),
 (70,{ ty:=some (.pr (.int .i64) (.pr .bool .bool)),agg:=true,size:=3,bytes:=16,kind:=2,fs:=[(0,1,false),(1,1,false),(2,1,false)] }),
 (89,{ ty:=some (.pr (.int .i64) (.pr (.int .i64) (.int .i64))),agg:=true,size:=3,bytes:=24,kind:=2,fs:=[(0,1,false),(1,1,false),(2,1,false)],eqs:=some [(.int .i64),(.int .i64),(.int .i64)] }),
 (91,{ ty:=some (.pr (.int .i64) (.pr (.int .i64) (.int .i64))),agg:=true,size:=3,bytes:=24,kind:=2,fs:=[(0,1,false),(1,1,false),(2,1,false)] }),
 (96,{ kind:=8,zs:=some [.ptr] }),
 (102,{ ty:=some (.sl (.pr (.int .i64) .str)),bytes:=24,kind:=3,el:=111 }),
 (107,{ ty:=some (.sl (.pr (.int .i64) (.pr (.int .i64) (.pr (.int .i64) .bool)))),bytes:=24,kind:=3,el:=127 }),
 (111,{ ty:=some (.pr (.int .i64) .str),agg:=true,size:=2,bytes:=24,kind:=2,fs:=[(0,1,false),(1,1,false)] }),
 (116,{ kind:=9,el:=3,ky:=3 }),
 (127,{ ty:=some (.pr (.int .i64) (.pr (.int .i64) (.pr (.int .i64) .bool))),agg:=true,size:=4,bytes:=32,kind:=2,fs:=[(0,1,false),(1,1,false),(2,1,false),(3,1,false)] }),
 (132,{ kind:=9,el:=3,ky:=89 }),
 (136,{ kind:=8,zs:=some [.ptr] }),
 (156,{ ty:=some (.pr .str .str),agg:=true,size:=2,bytes:=32,kind:=4,el:=9 }),
 (157,{ ty:=some (.pr (.pr .str .str) (.pr (.pr .str .str) (.pr .str .str))),agg:=true,size:=6,bytes:=96,kind:=4,el:=156 }),
 (162,{ ty:=some (.sl (.pr (.int .u8) (.pr (.int .i64) (.sl (.int .i64))))),bytes:=24,kind:=3,el:=172 }),
 (164,{ ty:=some (.sl (.pr (.int .u8) (.pr (.int .i64) (.sl (.int .i64))))),agg:=true,bytes:=24,kind:=2,fs:=[(0,1,false)] }),
 (166,{ zs:=some [.fn] }),
 (167,{ zs:=some [.fn] }),
 (169,{ agg:=true,size:=6,bytes:=64,kind:=2,fs:=[(0,1,false),(1,1,false),(2,1,false),(3,1,false),(4,1,false),(5,1,false)],zs:=some [.t .str, .t (.int .i64), .t (.int .i64), .t .str, .fn, .fn] }),
 (172,{ ty:=some (.pr (.int .u8) (.pr (.int .i64) (.sl (.int .i64)))),agg:=true,size:=3,bytes:=40,kind:=2,fs:=[(0,1,false),(1,1,false),(2,1,false)] }),
 (174,{ ty:=some (.pr (.int .i64) (.int .i64)),agg:=true,size:=2,bytes:=16,kind:=4,el:=3 }),
 (189,{ bytes:=16,kind:=7,zs:=some [.ifc] }),
 (206,{ ty:=some (.sl .str),bytes:=24,kind:=3,el:=9 }),
 (208,{ ty:=some (.pr .str (.pr .str (.pr .str .str))),agg:=true,size:=4,bytes:=64,kind:=4,el:=9 })]
def OT:aa:={ pars:=[.c (jI)],gh:=[],nb:=[],res:=[(false,[jS])],g:=sU }
def OU:aa:={ pars:=[.c (jS)],gh:=[],nb:=[],res:=[(false,[jI]),(false,[.e])],g:=sV }
def OX:aa:={ pars:=[.c (jS), .c (jS)],gh:=[],nb:=[],res:=[(false,[jS]),(false,[jS]),(false,[jB])],g:=vR }
def O0:aa:={ pars:=[.c (.b 3 (.int .i64))],gh:=[],nb:=[],res:=[],g:=lh }
def OY:aa:={ pars:=[.c (jO)],gh:=[],nb:=[],res:=[(false,[jO])],g:=gX }
def OZ:aa:={ pars:=[.c (jO)],gh:=[],nb:=[],res:=[(false,[.i (.sl (.int .i64))])],g:=m7 }
def O1:aa:={ pars:=[.c (.i (.sl (.int .i64)))],gh:=[],nb:=[],res:=[(false,[jO])],g:=eU }
def OW:aa:={ pars:=[.c (.i bR)],gh:=[],nb:=[],res:=[(false,[rt])],g:=gj }
def l6 (n:Nat) (x:jN×Int):Option (Int) :=
 (cond (decide ((IntKind.i64.wrap (x.2-((x.1).length:Int)))<(0:Int))) (some (-1:Int)) (some (IntKind.i64.wrap (x.2-((x.1).length:Int)))))
def UP (n:Nat):aa:={ pars:=[.c (.i bR), .c (jI)],gh:=[],nb:=[],res:=[(false,[jI])],g:=l6 n }
def W8 (n:Nat):List (Nat×aa):=[]
def X7 (n:Nat):aK:={ τ:=τ,N:=12,Γ:=gl (W8 n) [],Λ:=(fun q=>match q with  | _=>none) }
theorem TL (n:Nat) (x):l6 n x=ar (X7 n) Tryz.f27 (UP n) x:=by kernel_rfl
def ll (n:Nat) (x:jN×Int):Option (Int) :=
 ((l6 n (x.1,x.2)).bind fun r1=>(cond (decide (r1<(0:Int))) (some (-1:Int)) (some r1)))
def S9 (n:Nat):aa:={ pars:=[.g [.i bR], .c (jI)],gh:=[],nb:=[],res:=[(false,[jI])],g:=ll n }
def G9 (n:Nat):List (Nat×aa):=[(27,UP n)]
def E9 (n:Nat):aK:={ τ:=τ,N:=12,Γ:=gl (G9 n) [],Λ:=(fun q=>match q with  | _=>none) }
theorem Yu (n:Nat) (x):ll n x=ar (E9 n) Tryz.f9 (S9 n) x:=by kernel_rfl
def eV (n:Nat) (x:jL×Int):Option (Int) :=
 (cond (decide ((IntKind.i64.wrap (x.2-((x.1).length:Int)))<(0:Int))) (some (-1:Int)) (some (IntKind.i64.wrap (x.2-((x.1).length:Int)))))
def Q3 (n:Nat):aa:={ pars:=[.c (.i (.sl (.int .i64))), .c (jI)],gh:=[],nb:=[],res:=[(false,[jI])],g:=eV n }
def Xp (n:Nat):List (Nat×aa):=[]
def Yb (n:Nat):aK:={ τ:=τ,N:=12,Γ:=gl (Xp n) [],Λ:=(fun q=>match q with  | _=>none) }
theorem T4 (n:Nat) (x):eV n x=ar (Yb n) Tryz.f10 (Q3 n) x:=by kernel_rfl
def lm (n:Nat) (x:Int×Int×Int×Int×Int×jL×Bool×Bool×Int×Int):Option (Int) :=
 ((eV n (x.2.2.2.2.2.1,x.2.2.2.2.2.2.2.2.2)).bind fun r1=>(cond (decide (r1<(0:Int))) (some (-1:Int)) (some r1)))
def UO (n:Nat):aa:={ pars:=[.g [jI,jI,jI,jI,jI, .i (.sl (.int .i64)),jB,jB,jI], .c (jI)],gh:=[],nb:=[],res:=[(false,[jI])],g:=lm n }
def W7 (n:Nat):List (Nat×aa):=[(10,Q3 n)]
def X6 (n:Nat):aK:={ τ:=τ,N:=12,Γ:=gl (W7 n) [],Λ:=(fun q=>match q with  | _=>none) }
theorem TK (n:Nat) (x):lm n x=ar (X6 n) Tryz.f28 (UO n) x:=by kernel_rfl
def bd (n:Nat):Nat→jW×Int×Int→Option ((Int)⊕(Int))
 |0,_=>none
 |m+1,x=>(cond (decide (x.2.2<((x.1).length:Int))) (cond (aY x.2.2 (x.1).length) ((lm n ((x.1.getD (x.2.2).toNat ((0:Int),((0:Int),((0:Int),((0:Int),((0:Int),([],(false,(false,(0:Int)))))))))).1,(x.1.getD (x.2.2).toNat ((0:Int),((0:Int),((0:Int),((0:Int),((0:Int),([],(false,(false,(0:Int)))))))))).2.1,(x.1.getD (x.2.2).toNat ((0:Int),((0:Int),((0:Int),((0:Int),((0:Int),([],(false,(false,(0:Int)))))))))).2.2.1,(x.1.getD (x.2.2).toNat ((0:Int),((0:Int),((0:Int),((0:Int),((0:Int),([],(false,(false,(0:Int)))))))))).2.2.2.1,(x.1.getD (x.2.2).toNat ((0:Int),((0:Int),((0:Int),((0:Int),((0:Int),([],(false,(false,(0:Int)))))))))).2.2.2.2.1,(x.1.getD (x.2.2).toNat ((0:Int),((0:Int),((0:Int),((0:Int),((0:Int),([],(false,(false,(0:Int)))))))))).2.2.2.2.2.1,(x.1.getD (x.2.2).toNat ((0:Int),((0:Int),((0:Int),((0:Int),((0:Int),([],(false,(false,(0:Int)))))))))).2.2.2.2.2.2.1,(x.1.getD (x.2.2).toNat ((0:Int),((0:Int),((0:Int),((0:Int),((0:Int),([],(false,(false,(0:Int)))))))))).2.2.2.2.2.2.2.1,(x.1.getD (x.2.2).toNat ((0:Int),((0:Int),((0:Int),((0:Int),((0:Int),([],(false,(false,(0:Int)))))))))).2.2.2.2.2.2.2.2,x.2.1)).bind fun r1=>(cond (decide (r1<(0:Int))) (some (Sum.inl (-1:Int))) (bd n m (x.1,r1,(IntKind.i64.wrap (x.2.2+(1:Int))))))) none) (some (Sum.inr x.2.1)))
def jE (n:Nat) (x:jW×Int):Option (Int) :=
 (cond (decide ((IntKind.i64.wrap (x.2-((x.1).length:Int)))<(0:Int))) (some (-1:Int)) ((bd n n (x.1,(IntKind.i64.wrap (x.2-((x.1).length:Int))),(0:Int))).bind fun e2=>(match e2 with|Sum.inl a3=>(some a3)|Sum.inr b4=>(some b4))))
def U3 (n:Nat):aa:={ pars:=[.c (.i dW), .c (jI)],gh:=[],nb:=[],res:=[(false,[jI])],g:=jE n }
def kK (n:Nat) (g:jW×Int×Int→Option ((Int)⊕(Int))):cI:={ ent:=[.val 0 (.i dW), .val 1 (jI), .val 5 (jI)],exs:=[(.ret,[.val 4 (jI)]),(.exit 0,[.val 1 (jI)])],g:=g }
def Xo (n:Nat):List (Nat×aa):=[(28,UO n)]
def VE (n:Nat):aK:={ τ:=τ,N:=27,Γ:=gl (Xo n) [],Λ:=(fun q=>match q with   | 5=>some (kK n (bd n n))  | _=>none) }
theorem tn (n m:Nat) (x):bd n (m+1) x=cE (VE n) (aC (aj Tryz.f11) 0) (kK n (bd n n)) (bd n m) x:=by kernel_rfl
theorem T3 (n:Nat) (x):jE n x=ar (VE n) Tryz.f11 (U3 n) x:=by kernel_rfl
def iQ (n:Nat) (x:jC×Int):Option (Int) :=
 (cond (decide ((IntKind.i64.wrap (x.2-((x.1).length:Int)))<(0:Int))) (some (-1:Int)) (some (IntKind.i64.wrap (x.2-((x.1).length:Int)))))
def U2 (n:Nat):aa:={ pars:=[.c (.i (.sl (.pr (.int .i64) (.pr .bool .bool)))), .c (jI)],gh:=[],nb:=[],res:=[(false,[jI])],g:=iQ n }
def Xn (n:Nat):List (Nat×aa):=[]
def Ya (n:Nat):aK:={ τ:=τ,N:=12,Γ:=gl (Xn n) [],Λ:=(fun q=>match q with  | _=>none) }
theorem T1 (n:Nat) (x):iQ n x=ar (Ya n) Tryz.f12 (U2 n) x:=by kernel_rfl
def jz (n:Nat) (x:jN×jL×jW×Int×jL×jL×jC×Int):Option (Int) :=
 ((ll n (x.1,x.2.2.2.2.2.2.2)).bind fun r1=>(cond (decide (r1<(0:Int))) (some (-1:Int)) ((eV n (x.2.1,r1)).bind fun r2=>(cond (decide (r2<(0:Int))) (some (-1:Int)) ((jE n (x.2.2.1,r2)).bind fun r3=>(cond (decide (r3<(0:Int))) (some (-1:Int)) ((eV n (x.2.2.2.2.1,r3)).bind fun r4=>(cond (decide (r4<(0:Int))) (some (-1:Int)) ((eV n (x.2.2.2.2.2.1,r4)).bind fun r5=>(cond (decide (r5<(0:Int))) (some (-1:Int)) ((iQ n (x.2.2.2.2.2.2.1,r5)).bind fun r6=>(cond (decide (r6<(0:Int))) (some (-1:Int)) (some r6)))))))))))))
def S4 (n:Nat):aa:={ pars:=[.g [.i bR, .i (.sl (.int .i64)), .i dW,jI, .i (.sl (.int .i64)), .i (.sl (.int .i64)), .i (.sl (.pr (.int .i64) (.pr .bool .bool)))], .c (jI)],gh:=[],nb:=[],res:=[(false,[jI])],g:=jz n }
def G4 (n:Nat):List (Nat×aa):=[(9,S9 n),(10,Q3 n),(11,U3 n),(12,U2 n)]
def E4 (n:Nat):aK:={ τ:=τ,N:=42,Γ:=gl (G4 n) [],Λ:=(fun q=>match q with  | _=>none) }
theorem Yz (n:Nat) (x):jz n x=ar (E4 n) Tryz.f4 (S4 n) x:=by kernel_rfl
def pO (n:Nat) (x:Int×Int×Int):Option (Int×Int×Int) :=
 (some (x.1,x.2.1,x.2.2))
def Uv (n:Nat):aa:={ pars:=[.g [jI,jI,jI]],gh:=[],nb:=[],res:=[(true,[jI,jI,jI])],g:=pO n }
def WE (n:Nat):List (Nat×aa):=[]
def XP (n:Nat):aK:={ τ:=τ,N:=14,Γ:=gl (WE n) [],Λ:=(fun q=>match q with  | _=>none) }
theorem Te (n:Nat) (x):pO n x=ar (XP n) Tryz.f56 (Uv n) x:=by kernel_rfl
def cy (n:Nat):Nat→jN×jN×Int→Option (jN)
 |0,_=>none
 |m+1,x=>(cond (decide (x.2.2<((x.1).length:Int))) (cond (aY x.2.2 (x.1).length) ((pO n ((x.1.getD (x.2.2).toNat ((0:Int),((0:Int),(0:Int)))).1,(x.1.getD (x.2.2).toNat ((0:Int),((0:Int),(0:Int)))).2.1,(x.1.getD (x.2.2).toNat ((0:Int),((0:Int),(0:Int)))).2.2)).bind fun r1=>(cond (aY x.2.2 (x.2.1).length) (cy n m (x.1,(x.2.1.set (x.2.2).toNat (r1.1,(r1.2.1,r1.2.2))),(IntKind.i64.wrap (x.2.2+(1:Int))))) none)) none) (some x.2.1))
def it (n:Nat) (x:jN):Option (jN) :=
 (cond (decide (0≤((x).length:Int)∧((x).length:Int)≤((x).length:Int)∧((x).length:Int)≤4294967296)) ((cy n n (x,(List.replicate (((x).length:Int)).toNat ((0:Int),((0:Int),(0:Int)))),(0:Int))).bind fun e2=>(some e2)) none)
def Q0 (n:Nat):aa:={ pars:=[.c (.i bR)],gh:=[],nb:=[],res:=[(false,[rt])],g:=it n }
def kH (n:Nat) (g:jN×jN×Int→Option (jN)):cI:={ ent:=[.val 0 (.i bR), .val 3 (rt), .val 4 (jI)],exs:=[(.exit 0,[.val 3 (rt)])],g:=g }
def W0 (n:Nat):List (Nat×aa):=[(56,Uv n)]
def Vq (n:Nat):aK:={ τ:=τ,N:=23,Γ:=gl (W0 n) [],Λ:=(fun q=>match q with   | 3=>some (kH n (cy n n))  | _=>none) }
theorem tl (n m:Nat) (x):cy n (m+1) x=cE (Vq n) (aC (aj Tryz.f35) 0) (kH n (cy n n)) (cy n m) x:=by kernel_rfl
theorem TB (n:Nat) (x):it n x=ar (Vq n) Tryz.f35 (Q0 n) x:=by kernel_rfl
def lj (n:Nat) (x:jN):Option (jN) :=
 ((it n x).bind fun r1=>(some r1))
def UY (n:Nat):aa:={ pars:=[.g [.i bR]],gh:=[],nb:=[],res:=[(true,[rt])],g:=lj n }
def Xj (n:Nat):List (Nat×aa):=[(35,Q0 n)]
def X9 (n:Nat):aK:={ τ:=τ,N:=9,Γ:=gl (Xj n) [],Λ:=(fun q=>match q with  | _=>none) }
theorem TX (n:Nat) (x):lj n x=ar (X9 n) Tryz.f16 (UY n) x:=by kernel_rfl
def rk (n:Nat) (x:jN):Option (jN) :=
 ((it n x).bind fun r1=>(some r1))
def Kn (n:Nat):aa:={ pars:=[.g [.i bR]],gh:=[],nb:=[],res:=[(true,[.i bR])],g:=rk n }
def KC (n:Nat):List (Nat×aa):=[(35,Q0 n)]
def KH (n:Nat):aK:={ τ:=τ,N:=9,Γ:=gl (KC n) [],Λ:=(fun q=>match q with  | _=>none) }
theorem Ls (n:Nat) (x):rk n x=ar (KH n) Tryz.f16 (Kn n) x:=by kernel_rfl
def cQ (n:Nat):Nat→jL×jL×Int→Option (jL)
 |0,_=>none
 |m+1,x=>(cond (decide (x.2.2<((x.1).length:Int))) (cond (aY x.2.2 (x.1).length) (cond (aY x.2.2 (x.2.1).length) (cQ n m (x.1,(x.2.1.set (x.2.2).toNat (x.1.getD (x.2.2).toNat (0:Int))),(IntKind.i64.wrap (x.2.2+(1:Int))))) none) none) (some x.2.1))
def dZ (n:Nat) (x:jL):Option (jL) :=
 (cond (decide (0≤((x).length:Int)∧((x).length:Int)≤((x).length:Int)∧((x).length:Int)≤4294967296)) ((cQ n n (x,(List.replicate (((x).length:Int)).toNat (0:Int)),(0:Int))).bind fun e1=>(some e1)) none)
def OV (n:Nat):aa:={ pars:=[.c (.i (.sl (.int .i64)))],gh:=[],nb:=[],res:=[(false,[jO])],g:=dZ n }
def lS (n:Nat) (g:jL×jL×Int→Option (jL)):cI:={ ent:=[.val 0 (.i (.sl (.int .i64))), .val 3 (jO), .val 4 (jI)],exs:=[(.exit 0,[.val 3 (jO)])],g:=g }
def Xi (n:Nat):List (Nat×aa):=[]
def VB (n:Nat):aK:={ τ:=τ,N:=22,Γ:=gl (Xi n) [],Λ:=(fun q=>match q with   | 3=>some (lS n (cQ n n))  | _=>none) }
theorem uC (n m:Nat) (x):cQ n (m+1) x=cE (VB n) (aC (aj Tryz.f17) 0) (lS n (cQ n n)) (cQ n m) x:=by kernel_rfl
theorem TW (n:Nat) (x):dZ n x=ar (VB n) Tryz.f17 (OV n) x:=by kernel_rfl
def m8 (n:Nat) (x:Int×Int×Int×Int×Int×jL×Bool×Bool×Int):Option (Int×Int×Int×Int×Int×jL×Bool×Bool×Int) :=
 ((dZ n x.2.2.2.2.2.1).bind fun r1=>(some (x.1,x.2.1,x.2.2.1,x.2.2.2.1,x.2.2.2.2.1,r1,x.2.2.2.2.2.2.1,x.2.2.2.2.2.2.2.1,x.2.2.2.2.2.2.2.2)))
def VP (n:Nat):aa:={ pars:=[.g [jI,jI,jI,jI,jI, .i (.sl (.int .i64)),jB,jB,jI]],gh:=[],nb:=[],res:=[(true,[jI,jI,jI,jI,jI,jO,jB,jB,jI])],g:=m8 n }
def WZ (n:Nat):List (Nat×aa):=[(17,OV n)]
def X3 (n:Nat):aK:={ τ:=τ,N:=33,Γ:=gl (WZ n) [],Λ:=(fun q=>match q with  | _=>none) }
theorem TA (n:Nat) (x):m8 n x=ar (X3 n) Tryz.f36 (VP n) x:=by kernel_rfl
def kV (n:Nat) (x:Int×Int×Int×Int×Int×jL×Bool×Bool×Int):Option (Int×Int×Int×Int×Int×jL×Bool×Bool×Int) :=
 ((dZ n x.2.2.2.2.2.1).bind fun r1=>(some (x.1,x.2.1,x.2.2.1,x.2.2.2.1,x.2.2.2.2.1,r1,x.2.2.2.2.2.2.1,x.2.2.2.2.2.2.2.1,x.2.2.2.2.2.2.2.2)))
def Ix (n:Nat):aa:={ pars:=[.g [jI,jI,jI,jI,jI, .i (.sl (.int .i64)),jB,jB,jI]],gh:=[],nb:=[],res:=[(true,[jI,jI,jI,jI,jI, .i (.sl (.int .i64)),jB,jB,jI])],g:=kV n }
def KB (n:Nat):List (Nat×aa):=[(17,OV n)]
def KG (n:Nat):aK:={ τ:=τ,N:=33,Γ:=gl (KB n) [],Λ:=(fun q=>match q with  | _=>none) }
theorem Lr (n:Nat) (x):kV n x=ar (KG n) Tryz.f36 (Ix n) x:=by kernel_rfl
def bB (n:Nat):Nat→jW×jW×Int→Option (jW)
 |0,_=>none
 |m+1,x=>(cond (decide (x.2.2<((x.1).length:Int))) (cond (aY x.2.2 (x.1).length) ((kV n ((x.1.getD (x.2.2).toNat ((0:Int),((0:Int),((0:Int),((0:Int),((0:Int),([],(false,(false,(0:Int)))))))))).1,(x.1.getD (x.2.2).toNat ((0:Int),((0:Int),((0:Int),((0:Int),((0:Int),([],(false,(false,(0:Int)))))))))).2.1,(x.1.getD (x.2.2).toNat ((0:Int),((0:Int),((0:Int),((0:Int),((0:Int),([],(false,(false,(0:Int)))))))))).2.2.1,(x.1.getD (x.2.2).toNat ((0:Int),((0:Int),((0:Int),((0:Int),((0:Int),([],(false,(false,(0:Int)))))))))).2.2.2.1,(x.1.getD (x.2.2).toNat ((0:Int),((0:Int),((0:Int),((0:Int),((0:Int),([],(false,(false,(0:Int)))))))))).2.2.2.2.1,(x.1.getD (x.2.2).toNat ((0:Int),((0:Int),((0:Int),((0:Int),((0:Int),([],(false,(false,(0:Int)))))))))).2.2.2.2.2.1,(x.1.getD (x.2.2).toNat ((0:Int),((0:Int),((0:Int),((0:Int),((0:Int),([],(false,(false,(0:Int)))))))))).2.2.2.2.2.2.1,(x.1.getD (x.2.2).toNat ((0:Int),((0:Int),((0:Int),((0:Int),((0:Int),([],(false,(false,(0:Int)))))))))).2.2.2.2.2.2.2.1,(x.1.getD (x.2.2).toNat ((0:Int),((0:Int),((0:Int),((0:Int),((0:Int),([],(false,(false,(0:Int)))))))))).2.2.2.2.2.2.2.2)).bind fun r1=>(cond (aY x.2.2 (x.2.1).length) (bB n m (x.1,(x.2.1.set (x.2.2).toNat (r1.1,(r1.2.1,(r1.2.2.1,(r1.2.2.2.1,(r1.2.2.2.2.1,(r1.2.2.2.2.2.1,(r1.2.2.2.2.2.2.1,(r1.2.2.2.2.2.2.2.1,r1.2.2.2.2.2.2.2.2))))))))),(IntKind.i64.wrap (x.2.2+(1:Int))))) none)) none) (some x.2.1))
def jy (n:Nat) (x:jW):Option (jW) :=
 (cond (decide (0≤((x).length:Int)∧((x).length:Int)≤((x).length:Int)∧((x).length:Int)≤4294967296)) ((bB n n (x,(List.replicate (((x).length:Int)).toNat ((0:Int),((0:Int),((0:Int),((0:Int),((0:Int),([],(false,(false,(0:Int)))))))))),(0:Int))).bind fun e2=>(some e2)) none)
def UX (n:Nat):aa:={ pars:=[.c (.i dW)],gh:=[],nb:=[],res:=[(false,[.i dW])],g:=jy n }
def kJ (n:Nat) (g:jW×jW×Int→Option (jW)):cI:={ ent:=[.val 0 (.i dW), .val 3 (.o 63 (.pr (.int .i64) (.pr (.int .i64) (.pr (.int .i64) (.pr (.int .i64) (.pr (.int .i64) (.pr (.sl (.int .i64)) (.pr .bool (.pr .bool (.int .i64)))))))))), .val 4 (jI)],exs:=[(.exit 0,[.val 3 (.o 63 (.pr (.int .i64) (.pr (.int .i64) (.pr (.int .i64) (.pr (.int .i64) (.pr (.int .i64) (.pr (.sl (.int .i64)) (.pr .bool (.pr .bool (.int .i64))))))))))])],g:=g }
def Xh (n:Nat):List (Nat×aa):=[]
def VW (n:Nat):List ((Nat×Nat)×aa):=[((36,20),Ix n)]
def VA (n:Nat):aK:={ τ:=τ,N:=23,Γ:=gl (Xh n) (VW n),Λ:=(fun q=>match q with   | 3=>some (kJ n (bB n n))  | _=>none) }
theorem tm (n m:Nat) (x):bB n (m+1) x=cE (VA n) (aC (aj Tryz.f18) 0) (kJ n (bB n n)) (bB n m) x:=by kernel_rfl
theorem TV (n:Nat) (x):jy n x=ar (VA n) Tryz.f18 (UX n) x:=by kernel_rfl
def l5 (n:Nat) (x:Int×Bool×Bool):Option (Int×Bool×Bool) :=
 (some (x.1,x.2.1,x.2.2))
def UK (n:Nat):aa:={ pars:=[.g [jI,jB,jB]],gh:=[],nb:=[],res:=[(true,[jI,jB,jB])],g:=l5 n }
def WY (n:Nat):List (Nat×aa):=[]
def X0 (n:Nat):aK:={ τ:=τ,N:=14,Γ:=gl (WY n) [],Λ:=(fun q=>match q with  | _=>none) }
theorem Tz (n:Nat) (x):l5 n x=ar (X0 n) Tryz.f37 (UK n) x:=by kernel_rfl
def bi (n:Nat):Nat→jC×jC×Int→Option (jC)
 |0,_=>none
 |m+1,x=>(cond (decide (x.2.2<((x.1).length:Int))) (cond (aY x.2.2 (x.1).length) ((l5 n ((x.1.getD (x.2.2).toNat ((0:Int),(false,false))).1,(x.1.getD (x.2.2).toNat ((0:Int),(false,false))).2.1,(x.1.getD (x.2.2).toNat ((0:Int),(false,false))).2.2)).bind fun r1=>(cond (aY x.2.2 (x.2.1).length) (bi n m (x.1,(x.2.1.set (x.2.2).toNat (r1.1,(r1.2.1,r1.2.2))),(IntKind.i64.wrap (x.2.2+(1:Int))))) none)) none) (some x.2.1))
def iP (n:Nat) (x:jC):Option (jC) :=
 (cond (decide (0≤((x).length:Int)∧((x).length:Int)≤((x).length:Int)∧((x).length:Int)≤4294967296)) ((bi n n (x,(List.replicate (((x).length:Int)).toNat ((0:Int),(false,false))),(0:Int))).bind fun e2=>(some e2)) none)
def UW (n:Nat):aa:={ pars:=[.c (.i (.sl (.pr (.int .i64) (.pr .bool .bool))))],gh:=[],nb:=[],res:=[(false,[.i (.sl (.pr (.int .i64) (.pr .bool .bool)))])],g:=iP n }
def j8 (n:Nat) (g:jC×jC×Int→Option (jC)):cI:={ ent:=[.val 0 (.i (.sl (.pr (.int .i64) (.pr .bool .bool)))), .val 3 (.o 68 (.pr (.int .i64) (.pr .bool .bool))), .val 4 (jI)],exs:=[(.exit 0,[.val 3 (.o 68 (.pr (.int .i64) (.pr .bool .bool)))])],g:=g }
def Xg (n:Nat):List (Nat×aa):=[(37,UK n)]
def Vz (n:Nat):aK:={ τ:=τ,N:=23,Γ:=gl (Xg n) [],Λ:=(fun q=>match q with   | 3=>some (j8 n (bi n n))  | _=>none) }
theorem se (n m:Nat) (x):bi n (m+1) x=cE (Vz n) (aC (aj Tryz.f19) 0) (j8 n (bi n n)) (bi n m) x:=by kernel_rfl
theorem TU (n:Nat) (x):iP n x=ar (Vz n) Tryz.f19 (UW n) x:=by kernel_rfl
def fX (n:Nat) (x:jN×jL×jW×Int×jL×jL×jC):Option (jN×jL×jW×Int×jL×jL×jC) :=
 ((lj n x.1).bind fun r1=>((dZ n x.2.1).bind fun r2=>((jy n x.2.2.1).bind fun r3=>((dZ n x.2.2.2.2.1).bind fun r4=>((dZ n x.2.2.2.2.2.1).bind fun r5=>((iP n x.2.2.2.2.2.2).bind fun r6=>(some (r1,r2,r3,x.2.2.2.1,r4,r5,r6))))))))
def S6 (n:Nat):aa:={ pars:=[.g [.i bR, .i (.sl (.int .i64)), .i dW,jI, .i (.sl (.int .i64)), .i (.sl (.int .i64)), .i (.sl (.pr (.int .i64) (.pr .bool .bool)))]],gh:=[],nb:=[],res:=[(true,[.i bR, .i (.sl (.int .i64)), .i dW,jI, .i (.sl (.int .i64)), .i (.sl (.int .i64)), .i (.sl (.pr (.int .i64) (.pr .bool .bool)))])],g:=fX n }
def G6 (n:Nat):List (Nat×aa):=[(16,UY n),(17,OV n),(18,UX n),(19,UW n)]
def E6 (n:Nat):aK:={ τ:=τ,N:=32,Γ:=gl (G6 n) [],Λ:=(fun q=>match q with  | _=>none) }
theorem Yx (n:Nat) (x):fX n x=ar (E6 n) Tryz.f6 (S6 n) x:=by kernel_rfl
def eS (n:Nat) (x:Int):Option (Int) :=
 (cond (x==(1:Int)) (some (0:Int)) (cond (x==(5:Int)) (some (1:Int)) (cond (x==(7:Int)) (some (1:Int)) (cond (x==(2:Int)) (some (2:Int)) (cond (x==(3:Int)) (some (2:Int)) (cond (x==(4:Int)) (some (2:Int)) (cond (x==(6:Int)) (some (2:Int)) (cond (x==(8:Int)) (some (2:Int)) (some (-1:Int))))))))))
def ON (n:Nat):aa:={ pars:=[.c (jI)],gh:=[],nb:=[],res:=[(false,[jI])],g:=eS n }
def Wg (n:Nat):List (Nat×aa):=[]
def XC (n:Nat):aK:={ τ:=τ,N:=15,Γ:=gl (Wg n) [],Λ:=(fun q=>match q with  | _=>none) }
theorem SJ (n:Nat) (x):eS n x=ar (XC n) Tryz.f80 (ON n) x:=by kernel_rfl
def cr (n:Nat) (x:Int×Int×Int):Option (Bool) :=
 (cond (decide (x.1≥x.2.1)) (some (decide (x.1≤x.2.2))) (some false))
def FR (n:Nat):aa:={ pars:=[.c (jI), .c (jI), .c (jI)],gh:=[],nb:=[],res:=[(false,[jB])],g:=cr n }
def WO (n:Nat):List (Nat×aa):=[]
def XT (n:Nat):aK:={ τ:=τ,N:=15,Γ:=gl (WO n) [],Λ:=(fun q=>match q with  | _=>none) }
theorem Tn (n:Nat) (x):cr n x=ar (XT n) Tryz.f47 (FR n) x:=by kernel_rfl
def dU (n:Nat) (x:Int×Int×Int×Int):Option (Bool) :=
 ((eS n x.1).bind fun r1=>(cond (r1==(0:Int)) ((cr n (x.2.1,(0:Int),(199:Int))).bind fun r2=>(cond r2 (some (x.2.2.1==(0:Int))) (some false))) (cond (r1==(1:Int)) ((cr n (x.2.1,(0:Int),(IntKind.i64.wrap (x.2.2.2-(1:Int))))).bind fun r3=>(cond r3 (some (x.2.2.1==(0:Int))) (some false))) (cond (r1==(2:Int)) ((cr n (x.2.1,(0:Int),(IntKind.i64.wrap (x.2.2.2-(1:Int))))).bind fun r4=>(cond r4 ((cr n (x.2.2.1,(0:Int),(IntKind.i64.wrap (x.2.2.2-(1:Int))))).bind fun r5=>(cond r5 (cond (x.1 != (8:Int)) (some true) (some (decide (x.2.1≤x.2.2.1)))) (some false))) (some false))) (some false)))))
def QT (n:Nat):aa:={ pars:=[.g [jI,jI,jI], .c (jI)],gh:=[],nb:=[],res:=[(false,[jB])],g:=dU n }
def V1 (n:Nat):List (Nat×aa):=[(80,ON n),(47,FR n)]
def Xs (n:Nat):aK:={ τ:=τ,N:=56,Γ:=gl (V1 n) [],Λ:=(fun q=>match q with  | _=>none) }
theorem Su (n:Nat) (x):dU n x=ar (Xs n) Tryz.f95 (QT n) x:=by kernel_rfl
def bC (n:Nat):Nat→jN×Int×Int×Int×Int→Option ((Int)⊕(Unit))
 |0,_=>none
 |m+1,x=>(cond (decide (x.2.2.2.2<((x.1).length:Int))) (cond (aY x.2.2.2.2 (x.1).length) (cond ((x.1.getD (x.2.2.2.2).toNat ((0:Int),((0:Int),(0:Int)))).1==x.2.1&&((x.1.getD (x.2.2.2.2).toNat ((0:Int),((0:Int),(0:Int)))).2.1==x.2.2.1&&((x.1.getD (x.2.2.2.2).toNat ((0:Int),((0:Int),(0:Int)))).2.2==x.2.2.2.1&&true))) (some (Sum.inl x.2.2.2.2)) (bC n m (x.1,x.2.1,x.2.2.1,x.2.2.2.1,(IntKind.i64.wrap (x.2.2.2.2+(1:Int)))))) none) (some (Sum.inr ())))
def dm (n:Nat) (x:jN×Int×Int×Int):Option (Int) :=
 ((bC n n (x.1,x.2.1,x.2.2.1,x.2.2.2,(0:Int))).bind fun e1=>(match e1 with|Sum.inl a2=>(some a2)|Sum.inr b3=>(some (-1:Int))))
def OL (n:Nat):aa:={ pars:=[.g [.i bR], .g [jI,jI,jI]],gh:=[],nb:=[],res:=[(false,[jI])],g:=dm n }
def lM (n:Nat) (g:jN×Int×Int×Int×Int→Option ((Int)⊕(Unit))):cI:={ ent:=[.box 2 [2,0] [.i bR], .box 3 [3,0] [jI,jI,jI], .val 5 (jI)],exs:=[(.ret,[.val 4 (jI)]),(.exit 0,[])],g:=g }
def V0 (n:Nat):List (Nat×aa):=[]
def U8 (n:Nat):aK:={ τ:=τ,N:=21,Γ:=gl (V0 n) [],Λ:=(fun q=>match q with   | 2=>some (lM n (bC n n))  | _=>none) }
theorem uw (n m:Nat) (x):bC n (m+1) x=cE (U8 n) (aC (aj Tryz.f96) 0) (lM n (bC n n)) (bC n m) x:=by kernel_rfl
theorem Ss (n:Nat) (x):dm n x=ar (U8 n) Tryz.f96 (OL n) x:=by kernel_rfl
def ct (n:Nat):Nat→jN×Int→Option ((Bool)⊕(Unit))
 |0,_=>none
 |m+1,x=>(cond (decide (x.2<((x.1).length:Int))) (cond (aY x.2 (x.1).length) ((dU n ((x.1.getD (x.2).toNat ((0:Int),((0:Int),(0:Int)))).1,(x.1.getD (x.2).toNat ((0:Int),((0:Int),(0:Int)))).2.1,(x.1.getD (x.2).toNat ((0:Int),((0:Int),(0:Int)))).2.2,x.2)).bind fun r1=>(cond (!r1) (some (Sum.inl false)) (cond (aY x.2 (x.1).length) ((dm n (x.1,(x.1.getD (x.2).toNat ((0:Int),((0:Int),(0:Int)))).1,(x.1.getD (x.2).toNat ((0:Int),((0:Int),(0:Int)))).2.1,(x.1.getD (x.2).toNat ((0:Int),((0:Int),(0:Int)))).2.2)).bind fun r2=>(cond (r2 != x.2) (some (Sum.inl false)) (ct n m (x.1,(IntKind.i64.wrap (x.2+(1:Int))))))) none))) none) (some (Sum.inr ())))
def gS (n:Nat) (x:jN):Option (Bool) :=
 (cond (decide (((x).length:Int)>(500:Int))) (some false) ((ct n n (x,(0:Int))).bind fun e3=>(match e3 with|Sum.inl a4=>(some a4)|Sum.inr b5=>(some true))))
def Uk (n:Nat):aa:={ pars:=[.g [.i bR]],gh:=[],nb:=[],res:=[(false,[jB])],g:=gS n }
def lR (n:Nat) (g:jN×Int→Option ((Bool)⊕(Unit))):cI:={ ent:=[.box 1 [1,0] [.i bR], .val 3 (jI)],exs:=[(.ret,[.val 2 (jB)]),(.exit 0,[])],g:=g }
def Wp (n:Nat):List (Nat×aa):=[(95,QT n),(96,OL n)]
def Vf (n:Nat):aK:={ τ:=τ,N:=34,Γ:=gl (Wp n) [],Λ:=(fun q=>match q with   | 4=>some (lR n (ct n n))  | _=>none) }
theorem uB (n m:Nat) (x):ct n (m+1) x=cE (Vf n) (aC (aj Tryz.f71) 0) (lR n (ct n n)) (ct n m) x:=by kernel_rfl
theorem SS (n:Nat) (x):gS n x=ar (Vf n) Tryz.f71 (Uk n) x:=by kernel_rfl
def fh (n:Nat) (x:jN×Int):Option (Bool) :=
 ((cr n (x.2,(0:Int),(IntKind.i64.wrap (((x.1).length:Int)-(1:Int))))).bind fun r1=>(some r1))
def Mw (n:Nat):aa:={ pars:=[.g [.i bR], .c (jI)],gh:=[],nb:=[],res:=[(false,[jB])],g:=fh n }
def Wj (n:Nat):List (Nat×aa):=[(47,FR n)]
def XE (n:Nat):aK:={ τ:=τ,N:=11,Γ:=gl (Wj n) [],Λ:=(fun q=>match q with  | _=>none) }
theorem SM (n:Nat) (x):fh n x=ar (XE n) Tryz.f77 (Mw n) x:=by kernel_rfl
def bn (n:Nat):Nat→jL×jN×Int→Option ((Bool)⊕(Unit))
 |0,_=>none
 |m+1,x=>(cond (decide (x.2.2<((x.1).length:Int))) (cond (aY x.2.2 (x.1).length) ((fh n (x.2.1,(x.1.getD (x.2.2).toNat (0:Int)))).bind fun r1=>(cond (!r1) (some (Sum.inl false)) (cond (decide (x.2.2>(0:Int))) (cond (aY (IntKind.i64.wrap (x.2.2-(1:Int))) (x.1).length) (cond (aY x.2.2 (x.1).length) (cond (decide ((x.1.getD ((IntKind.i64.wrap (x.2.2-(1:Int)))).toNat (0:Int))≥(x.1.getD (x.2.2).toNat (0:Int)))) (some (Sum.inl false)) (bn n m (x.1,x.2.1,(IntKind.i64.wrap (x.2.2+(1:Int)))))) none) none) (bn n m (x.1,x.2.1,(IntKind.i64.wrap (x.2.2+(1:Int)))))))) none) (some (Sum.inr ())))
def ld (n:Nat) (x:jN×jL):Option (Bool) :=
 (cond (decide (((x.2).length:Int)>(200:Int))) (some false) ((bn n n (x.2,x.1,(0:Int))).bind fun e2=>(match e2 with|Sum.inl a3=>(some a3)|Sum.inr b4=>(some true))))
def Uj (n:Nat):aa:={ pars:=[.g [.i bR], .c (.i (.sl (.int .i64)))],gh:=[],nb:=[],res:=[(false,[jB])],g:=ld n }
def lK (n:Nat) (g:jL×jN×Int→Option ((Bool)⊕(Unit))):cI:={ ent:=[.val 1 (.i (.sl (.int .i64))), .box 2 [2,0] [.i bR], .val 5 (jI)],exs:=[(.ret,[.val 4 (jB)]),(.exit 0,[])],g:=g }
def Wo (n:Nat):List (Nat×aa):=[(77,Mw n)]
def Ve (n:Nat):aK:={ τ:=τ,N:=38,Γ:=gl (Wo n) [],Λ:=(fun q=>match q with   | 4=>some (lK n (bn n n))  | _=>none) }
theorem uu (n m:Nat) (x):bn n (m+1) x=cE (Ve n) (aC (aj Tryz.f72) 0) (lK n (bn n n)) (bn n m) x:=by kernel_rfl
theorem SR (n:Nat) (x):ld n x=ar (Ve n) Tryz.f72 (Uj n) x:=by kernel_rfl
def mY (n:Nat) (x:jN×jL):Option (Bool) :=
 ((gS n x.1).bind fun r1=>(cond r1 ((ld n (x.1,x.2)).bind fun r2=>(some r2)) (some false)))
def UD (n:Nat):aa:={ pars:=[.g [.i bR], .c (.i (.sl (.int .i64)))],gh:=[],nb:=[],res:=[(false,[jB])],g:=mY n }
def WP (n:Nat):List (Nat×aa):=[(71,Uk n),(72,Uj n)]
def XU (n:Nat):aK:={ τ:=τ,N:=12,Γ:=gl (WP n) [],Λ:=(fun q=>match q with  | _=>none) }
theorem To (n:Nat) (x):mY n x=ar (XU n) Tryz.f46 (UD n) x:=by kernel_rfl
def bo (n:Nat):Nat→jL×Int×Int×Int→Option ((Bool)⊕(Unit))
 |0,_=>none
 |m+1,x=>(cond (decide (x.2.2.2<((x.1).length:Int))) (cond (aY x.2.2.2 (x.1).length) ((cr n ((x.1.getD (x.2.2.2).toNat (0:Int)),x.2.1,x.2.2.1)).bind fun r1=>(cond (!r1) (some (Sum.inl false)) (cond (decide (x.2.2.2>(0:Int))) (cond (aY (IntKind.i64.wrap (x.2.2.2-(1:Int))) (x.1).length) (cond (aY x.2.2.2 (x.1).length) (cond (decide ((x.1.getD ((IntKind.i64.wrap (x.2.2.2-(1:Int)))).toNat (0:Int))≥(x.1.getD (x.2.2.2).toNat (0:Int)))) (some (Sum.inl false)) (bo n m (x.1,x.2.1,x.2.2.1,(IntKind.i64.wrap (x.2.2.2+(1:Int)))))) none) none) (bo n m (x.1,x.2.1,x.2.2.1,(IntKind.i64.wrap (x.2.2.2+(1:Int)))))))) none) (some (Sum.inr ())))
def lf (n:Nat) (x:jL×Int×Int):Option (Bool) :=
 ((bo n n (x.1,x.2.1,x.2.2,(0:Int))).bind fun e2=>(match e2 with|Sum.inl a3=>(some a3)|Sum.inr b4=>(some true)))
def UC (n:Nat):aa:={ pars:=[.c (.i (.sl (.int .i64))), .c (jI), .c (jI)],gh:=[],nb:=[],res:=[(false,[jB])],g:=lf n }
def lN (n:Nat) (g:jL×Int×Int×Int→Option ((Bool)⊕(Unit))):cI:={ ent:=[.val 0 (.i (.sl (.int .i64))), .val 1 (jI), .val 2 (jI), .val 7 (jI)],exs:=[(.ret,[.val 6 (jB)]),(.exit 0,[])],g:=g }
def WN (n:Nat):List (Nat×aa):=[(47,FR n)]
def Vn (n:Nat):aK:={ τ:=τ,N:=38,Γ:=gl (WN n) [],Λ:=(fun q=>match q with   | 2=>some (lN n (bo n n))  | _=>none) }
theorem ux (n m:Nat) (x):bo n (m+1) x=cE (Vn n) (aC (aj Tryz.f48) 0) (lN n (bo n n)) (bo n m) x:=by kernel_rfl
theorem Tm (n:Nat) (x):lf n x=ar (Vn n) Tryz.f48 (UC n) x:=by kernel_rfl
def fi (n:Nat) (x:Int×Int):Option (ByteArray) :=
 (cond (x.1==(1:Int)) (cond (x.2==(0:Int)) (some Q9) (cond (x.1==(1:Int)) (cond (x.2==(1:Int)) (some QO) (cond (x.1==(2:Int)) (cond (x.2==(0:Int)) (some Mq) (cond (x.1==(2:Int)) (cond (x.2==(1:Int)) (some II) (cond (x.1==(3:Int)) (cond (x.2==(0:Int)) (some Ay) (cond (x.1==(3:Int)) (cond (x.2==(1:Int)) (some qe) (some (⟨#[]⟩:ByteArray))) (some (⟨#[]⟩:ByteArray)))) (cond (x.1==(3:Int)) (cond (x.2==(1:Int)) (some qe) (some (⟨#[]⟩:ByteArray))) (some (⟨#[]⟩:ByteArray))))) (cond (x.1==(3:Int)) (cond (x.2==(0:Int)) (some Ay) (cond (x.1==(3:Int)) (cond (x.2==(1:Int)) (some qe) (some (⟨#[]⟩:ByteArray))) (some (⟨#[]⟩:ByteArray)))) (cond (x.1==(3:Int)) (cond (x.2==(1:Int)) (some qe) (some (⟨#[]⟩:ByteArray))) (some (⟨#[]⟩:ByteArray)))))) (cond (x.1==(2:Int)) (cond (x.2==(1:Int)) (some II) (cond (x.1==(3:Int)) (cond (x.2==(0:Int)) (some Ay) (cond (x.1==(3:Int)) (cond (x.2==(1:Int)) (some qe) (some (⟨#[]⟩:ByteArray))) (some (⟨#[]⟩:ByteArray)))) (cond (x.1==(3:Int)) (cond (x.2==(1:Int)) (some qe) (some (⟨#[]⟩:ByteArray))) (some (⟨#[]⟩:ByteArray))))) (cond (x.1==(3:Int)) (cond (x.2==(0:Int)) (some Ay) (cond (x.1==(3:Int)) (cond (x.2==(1:Int)) (some qe) (some (⟨#[]⟩:ByteArray))) (some (⟨#[]⟩:ByteArray)))) (cond (x.1==(3:Int)) (cond (x.2==(1:Int)) (some qe) (some (⟨#[]⟩:ByteArray))) (some (⟨#[]⟩:ByteArray))))))) (cond (x.1==(2:Int)) (cond (x.2==(0:Int)) (some Mq) (cond (x.1==(2:Int)) (cond (x.2==(1:Int)) (some II) (cond (x.1==(3:Int)) (cond (x.2==(0:Int)) (some Ay) (cond (x.1==(3:Int)) (cond (x.2==(1:Int)) (some qe) (some (⟨#[]⟩:ByteArray))) (some (⟨#[]⟩:ByteArray)))) (cond (x.1==(3:Int)) (cond (x.2==(1:Int)) (some qe) (some (⟨#[]⟩:ByteArray))) (some (⟨#[]⟩:ByteArray))))) (cond (x.1==(3:Int)) (cond (x.2==(0:Int)) (some Ay) (cond (x.1==(3:Int)) (cond (x.2==(1:Int)) (some qe) (some (⟨#[]⟩:ByteArray))) (some (⟨#[]⟩:ByteArray)))) (cond (x.1==(3:Int)) (cond (x.2==(1:Int)) (some qe) (some (⟨#[]⟩:ByteArray))) (some (⟨#[]⟩:ByteArray)))))) (cond (x.1==(2:Int)) (cond (x.2==(1:Int)) (some II) (cond (x.1==(3:Int)) (cond (x.2==(0:Int)) (some Ay) (cond (x.1==(3:Int)) (cond (x.2==(1:Int)) (some qe) (some (⟨#[]⟩:ByteArray))) (some (⟨#[]⟩:ByteArray)))) (cond (x.1==(3:Int)) (cond (x.2==(1:Int)) (some qe) (some (⟨#[]⟩:ByteArray))) (some (⟨#[]⟩:ByteArray))))) (cond (x.1==(3:Int)) (cond (x.2==(0:Int)) (some Ay) (cond (x.1==(3:Int)) (cond (x.2==(1:Int)) (some qe) (some (⟨#[]⟩:ByteArray))) (some (⟨#[]⟩:ByteArray)))) (cond (x.1==(3:Int)) (cond (x.2==(1:Int)) (some qe) (some (⟨#[]⟩:ByteArray))) (some (⟨#[]⟩:ByteArray)))))))) (cond (x.1==(1:Int)) (cond (x.2==(1:Int)) (some QO) (cond (x.1==(2:Int)) (cond (x.2==(0:Int)) (some Mq) (cond (x.1==(2:Int)) (cond (x.2==(1:Int)) (some II) (cond (x.1==(3:Int)) (cond (x.2==(0:Int)) (some Ay) (cond (x.1==(3:Int)) (cond (x.2==(1:Int)) (some qe) (some (⟨#[]⟩:ByteArray))) (some (⟨#[]⟩:ByteArray)))) (cond (x.1==(3:Int)) (cond (x.2==(1:Int)) (some qe) (some (⟨#[]⟩:ByteArray))) (some (⟨#[]⟩:ByteArray))))) (cond (x.1==(3:Int)) (cond (x.2==(0:Int)) (some Ay) (cond (x.1==(3:Int)) (cond (x.2==(1:Int)) (some qe) (some (⟨#[]⟩:ByteArray))) (some (⟨#[]⟩:ByteArray)))) (cond (x.1==(3:Int)) (cond (x.2==(1:Int)) (some qe) (some (⟨#[]⟩:ByteArray))) (some (⟨#[]⟩:ByteArray)))))) (cond (x.1==(2:Int)) (cond (x.2==(1:Int)) (some II) (cond (x.1==(3:Int)) (cond (x.2==(0:Int)) (some Ay) (cond (x.1==(3:Int)) (cond (x.2==(1:Int)) (some qe) (some (⟨#[]⟩:ByteArray))) (some (⟨#[]⟩:ByteArray)))) (cond (x.1==(3:Int)) (cond (x.2==(1:Int)) (some qe) (some (⟨#[]⟩:ByteArray))) (some (⟨#[]⟩:ByteArray))))) (cond (x.1==(3:Int)) (cond (x.2==(0:Int)) (some Ay) (cond (x.1==(3:Int)) (cond (x.2==(1:Int)) (some qe) (some (⟨#[]⟩:ByteArray))) (some (⟨#[]⟩:ByteArray)))) (cond (x.1==(3:Int)) (cond (x.2==(1:Int)) (some qe) (some (⟨#[]⟩:ByteArray))) (some (⟨#[]⟩:ByteArray))))))) (cond (x.1==(2:Int)) (cond (x.2==(0:Int)) (some Mq) (cond (x.1==(2:Int)) (cond (x.2==(1:Int)) (some II) (cond (x.1==(3:Int)) (cond (x.2==(0:Int)) (some Ay) (cond (x.1==(3:Int)) (cond (x.2==(1:Int)) (some qe) (some (⟨#[]⟩:ByteArray))) (some (⟨#[]⟩:ByteArray)))) (cond (x.1==(3:Int)) (cond (x.2==(1:Int)) (some qe) (some (⟨#[]⟩:ByteArray))) (some (⟨#[]⟩:ByteArray))))) (cond (x.1==(3:Int)) (cond (x.2==(0:Int)) (some Ay) (cond (x.1==(3:Int)) (cond (x.2==(1:Int)) (some qe) (some (⟨#[]⟩:ByteArray))) (some (⟨#[]⟩:ByteArray)))) (cond (x.1==(3:Int)) (cond (x.2==(1:Int)) (some qe) (some (⟨#[]⟩:ByteArray))) (some (⟨#[]⟩:ByteArray)))))) (cond (x.1==(2:Int)) (cond (x.2==(1:Int)) (some II) (cond (x.1==(3:Int)) (cond (x.2==(0:Int)) (some Ay) (cond (x.1==(3:Int)) (cond (x.2==(1:Int)) (some qe) (some (⟨#[]⟩:ByteArray))) (some (⟨#[]⟩:ByteArray)))) (cond (x.1==(3:Int)) (cond (x.2==(1:Int)) (some qe) (some (⟨#[]⟩:ByteArray))) (some (⟨#[]⟩:ByteArray))))) (cond (x.1==(3:Int)) (cond (x.2==(0:Int)) (some Ay) (cond (x.1==(3:Int)) (cond (x.2==(1:Int)) (some qe) (some (⟨#[]⟩:ByteArray))) (some (⟨#[]⟩:ByteArray)))) (cond (x.1==(3:Int)) (cond (x.2==(1:Int)) (some qe) (some (⟨#[]⟩:ByteArray))) (some (⟨#[]⟩:ByteArray))))))))
def QS (n:Nat):aa:={ pars:=[.c (jI), .c (jI)],gh:=[],nb:=[],res:=[(false,[jS])],g:=fi n }
def VZ (n:Nat):List (Nat×aa):=[]
def Xr (n:Nat):aK:={ τ:=τ,N:=47,Γ:=gl (VZ n) [],Λ:=(fun q=>match q with  | _=>none) }
theorem Sr (n:Nat) (x):fi n x=ar (Xr n) Tryz.f97 (QS n) x:=by kernel_rfl
def fU (n:Nat) (x:Int×Int):Option (Bool) :=
 ((fi n (x.1,x.2)).bind fun r1=>(some (!jr r1 (⟨#[]⟩:ByteArray))))
def Ui (n:Nat):aa:={ pars:=[.c (jI), .c (jI)],gh:=[],nb:=[],res:=[(false,[jB])],g:=fU n }
def Wn (n:Nat):List (Nat×aa):=[(97,QS n)]
def XH (n:Nat):aK:={ τ:=τ,N:=9,Γ:=gl (Wn n) [],Λ:=(fun q=>match q with  | _=>none) }
theorem SQ (n:Nat) (x):fU n x=ar (XH n) Tryz.f73 (Ui n) x:=by kernel_rfl
def jt (n:Nat) (x:Int):Option (Bool) :=
 ((cr n (x,(0:Int),(4:Int))).bind fun r1=>(some r1))
def Uh (n:Nat):aa:={ pars:=[.c (jI)],gh:=[],nb:=[],res:=[(false,[jB])],g:=jt n }
def Wm (n:Nat):List (Nat×aa):=[(47,FR n)]
def XG (n:Nat):aK:={ τ:=τ,N:=5,Γ:=gl (Wm n) [],Λ:=(fun q=>match q with  | _=>none) }
theorem SP (n:Nat) (x):jt n x=ar (XG n) Tryz.f74 (Uh n) x:=by kernel_rfl
def bK (n:Nat):Nat→jL×jN×Int→Option ((Bool)⊕(Unit))
 |0,_=>none
 |m+1,x=>(cond (decide (x.2.2<(26:Int))) (cond (aY x.2.2 (x.1).length) (cond ((x.1.getD (x.2.2).toNat (0:Int)) != (-1:Int)) (cond (aY x.2.2 (x.1).length) ((fh n (x.2.1,(x.1.getD (x.2.2).toNat (0:Int)))).bind fun r1=>(cond (!r1) (some (Sum.inl false)) (bK n m (x.1,x.2.1,(IntKind.i64.wrap (x.2.2+(1:Int))))))) none) (bK n m (x.1,x.2.1,(IntKind.i64.wrap (x.2.2+(1:Int)))))) none) (some (Sum.inr ())))
def mX (n:Nat) (x:jN×jL):Option (Bool) :=
 (cond (((x.2).length:Int) != (26:Int)) (some false) ((bK n n (x.2,x.1,(0:Int))).bind fun e2=>(match e2 with|Sum.inl a3=>(some a3)|Sum.inr b4=>(some true))))
def Ug (n:Nat):aa:={ pars:=[.g [.i bR], .c (.i (.sl (.int .i64)))],gh:=[],nb:=[],res:=[(false,[jB])],g:=mX n }
def lP (n:Nat) (g:jL×jN×Int→Option ((Bool)⊕(Unit))):cI:={ ent:=[.val 1 (.i (.sl (.int .i64))), .box 2 [2,0] [.i bR], .val 5 (jI)],exs:=[(.ret,[.val 4 (jB)]),(.exit 0,[])],g:=g }
def Wl (n:Nat):List (Nat×aa):=[(77,Mw n)]
def Vd (n:Nat):aK:={ τ:=τ,N:=27,Γ:=gl (Wl n) [],Λ:=(fun q=>match q with   | 4=>some (lP n (bK n n))  | _=>none) }
theorem uz (n m:Nat) (x):bK n (m+1) x=cE (Vd n) (aC (aj Tryz.f75) 0) (lP n (bK n n)) (bK n m) x:=by kernel_rfl
theorem SO (n:Nat) (x):mX n x=ar (Vd n) Tryz.f75 (Ug n) x:=by kernel_rfl
def oh (n:Nat) (x:Int):Option (ByteArray) :=
 (cond (aY x ([(⟨#[]⟩:ByteArray),(⟨#[102,114,101,115,104,32]⟩:ByteArray),(⟨#[115,101,110,100,32]⟩:ByteArray),(⟨#[116,97,107,101,32]⟩:ByteArray),(⟨#[99,108,97,105,109,32]⟩:ByteArray)]).length) (some ([(⟨#[]⟩:ByteArray),(⟨#[102,114,101,115,104,32]⟩:ByteArray),(⟨#[115,101,110,100,32]⟩:ByteArray),(⟨#[116,97,107,101,32]⟩:ByteArray),(⟨#[99,108,97,105,109,32]⟩:ByteArray)].getD (x).toNat (⟨#[]⟩:ByteArray))) none)
def LO (n:Nat):aa:={ pars:=[.c (jI)],gh:=[],nb:=[],res:=[(false,[jS])],g:=oh n }
def Ps (n:Nat):List (Nat×aa):=[]
def Qp (n:Nat):aK:={ τ:=τ,N:=7,Γ:=gl (Ps n) [],Λ:=(fun q=>match q with  | _=>none) }
theorem N4 (n:Nat) (x):oh n x=ar (Qp n) Tryz.f146 (LO n) x:=by kernel_rfl
def dg (n:Nat):Nat→ByteArray×Int×ByteArray×Int→Option ((Int×ByteArray×Bool)⊕(Int×ByteArray))
 |0,_=>none
 |m+1,x=>(cond (decide (x.2.2.2≤(4:Int))) ((oh n x.2.2.2).bind fun r1=>(cond (decide (((x.1).size:Int)>((r1).size:Int))) (cond (zB 0 ((r1).size:Int) (x.1).size) (cond (jr (sub x.1 0 ((r1).size:Int)) r1) (cond (zB ((r1).size:Int) (x.1).size (x.1).size) (some (Sum.inl (x.2.2.2,(sub x.1 ((r1).size:Int) (x.1).size),true))) none) (dg n m (x.1,x.2.1,x.2.2.1,(IntKind.i64.wrap (x.2.2.2+(1:Int)))))) none) (dg n m (x.1,x.2.1,x.2.2.1,(IntKind.i64.wrap (x.2.2.2+(1:Int))))))) (some (Sum.inr (x.2.1,x.2.2.1))))
def pw (n:Nat) (x:ByteArray):Option (Int×ByteArray×Bool) :=
 ((dg n n (x,(0:Int),(⟨#[]⟩:ByteArray),(1:Int))).bind fun e2=>(match e2 with|Sum.inl a3=>(some (a3.1,a3.2.1,a3.2.2))|Sum.inr b4=>(some ((0:Int),(⟨#[]⟩:ByteArray),false))))
def L3 (n:Nat):aa:={ pars:=[.c (jS)],gh:=[],nb:=[],res:=[(true,[jI,jS]),(false,[jB])],g:=pw n }
def lO (n:Nat) (g:ByteArray×Int×ByteArray×Int→Option ((Int×ByteArray×Bool)⊕(Int×ByteArray))):cI:={ ent:=[.val 0 (jS), .box 2 [2,0] [jI,jS], .val 4 (jI)],exs:=[(.ret,[.box 2 [2,0] [jI,jS], .val 3 (jB)]),(.exit 0,[.box 2 [2,0] [jI,jS]])],g:=g }
def PM (n:Nat):List (Nat×aa):=[(146,LO n)]
def Mk (n:Nat):aK:={ τ:=τ,N:=32,Γ:=gl (PM n) [],Λ:=(fun q=>match q with   | 2=>some (lO n (dg n n))  | _=>none) }
theorem uy (n m:Nat) (x):dg n (m+1) x=cE (Mk n) (aC (aj Tryz.f121) 0) (lO n (dg n n)) (dg n m) x:=by kernel_rfl
theorem Oq (n:Nat) (x):pw n x=ar (Mk n) Tryz.f121 (L3 n) x:=by kernel_rfl
def dC (n:Nat):Nat→ByteArray×Int×Int×Int→Option (ByteArray×Int×Int×Int)
 |0,_=>none
 |m+1,x=>(cond (decide (x.2.1<((x.1).size:Int))) (cond (aY x.2.1 (x.1).size) (cond (decide ((bt x.1 x.2.1)≥(48:Int))) (cond (aY x.2.1 (x.1).size) (cond (decide ((bt x.1 x.2.1)≤(57:Int))) (cond (decide ((IntKind.i64.wrap (x.2.1-x.2.2.1))<(4:Int))) (cond (aY x.2.1 (x.1).size) (dC n m (x.1,(IntKind.i64.wrap (x.2.1+(1:Int))),x.2.2.1,(IntKind.i64.wrap ((IntKind.i64.wrap ((IntKind.i64.wrap ((10:Int)*x.2.2.2))+(IntKind.i64.wrap (bt x.1 x.2.1))))-(48:Int))))) none) (some (x.1,x.2.1,x.2.2.1,x.2.2.2))) (some (x.1,x.2.1,x.2.2.1,x.2.2.2))) none) (some (x.1,x.2.1,x.2.2.1,x.2.2.2))) none) (some (x.1,x.2.1,x.2.2.1,x.2.2.2)))
def pu (n:Nat) (x:ByteArray×Int):Option (Int×Int×Bool) :=
 ((dC n n (x.1,x.2,x.2,(0:Int))).bind fun e1=>(cond (e1.2.1==e1.2.2.1) (some ((0:Int),(0:Int),false)) (cond (decide ((IntKind.i64.wrap (e1.2.1-e1.2.2.1))>(3:Int))) (some ((0:Int),(0:Int),false)) (cond (aY e1.2.2.1 (e1.1).size) (cond ((bt e1.1 e1.2.2.1)==(48:Int)) (cond (decide ((IntKind.i64.wrap (e1.2.1-e1.2.2.1))>(1:Int))) (some ((0:Int),(0:Int),false)) (cond (decide (e1.2.2.2≥(200:Int))) (some ((0:Int),(0:Int),false)) (some (e1.2.2.2,e1.2.1,true)))) (cond (decide (e1.2.2.2≥(200:Int))) (some ((0:Int),(0:Int),false)) (some (e1.2.2.2,e1.2.1,true)))) none))))
def LZ (n:Nat):aa:={ pars:=[.c (jS), .c (jI)],gh:=[],nb:=[],res:=[(false,[jI]),(false,[jI]),(false,[jB])],g:=pu n }
def lL (n:Nat) (g:ByteArray×Int×Int×Int→Option (ByteArray×Int×Int×Int)):cI:={ ent:=[.val 0 (jS), .val 1 (jI), .val 7 (jI), .val 8 (jI)],exs:=[(.exit 0,[.val 0 (jS), .val 1 (jI), .val 7 (jI), .val 8 (jI)])],g:=g }
def PK (n:Nat):List (Nat×aa):=[]
def Mi (n:Nat):aK:={ τ:=τ,N:=69,Γ:=gl (PK n) [],Λ:=(fun q=>match q with   | 3=>some (lL n (dC n n))  | _=>none) }
theorem uv (n m:Nat) (x):dC n (m+1) x=cE (Mi n) (aC (aj Tryz.f123) 0) (lL n (dC n n)) (dC n m) x:=by kernel_rfl
theorem On (n:Nat) (x):pu n x=ar (Mi n) Tryz.f123 (LZ n) x:=by kernel_rfl
def gP (n:Nat) (x:ByteArray×Int×Int):Option (Int×Int) :=
 (cond (decide (x.2.1≥((x.1).size:Int))) (some (((x.1).size:Int),(2:Int))) (cond (aY x.2.1 (x.1).size) (cond ((bt x.1 x.2.1) != x.2.2) (some (x.2.1,(3:Int))) (some ((IntKind.i64.wrap (x.2.1+(1:Int))),(0:Int)))) none))
def LM (n:Nat):aa:={ pars:=[.c (jS), .c (jI), .c (.i (.int .u8))],gh:=[],nb:=[],res:=[(false,[jI]),(false,[jI])],g:=gP n }
def Pq (n:Nat):List (Nat×aa):=[]
def Qn (n:Nat):aK:={ τ:=τ,N:=24,Γ:=gl (Pq n) [],Λ:=(fun q=>match q with  | _=>none) }
theorem N2 (n:Nat) (x):gP n x=ar (Qn n) Tryz.f148 (LM n) x:=by kernel_rfl
def pv (n:Nat) (x:ByteArray×Int):Option (Int×Int×Int) :=
 (cond (aY x.2 (x.1).size) (cond ((bt x.1 x.2)==(40:Int)) (some ((2:Int),(1:Int),(41:Int))) (cond ((bt x.1 x.2)==(123:Int)) (some ((3:Int),(1:Int),(125:Int))) (cond ((bt x.1 x.2)==(91:Int)) (some ((4:Int),(1:Int),(93:Int))) (cond ((bt x.1 x.2)==(35:Int)) (some ((5:Int),(1:Int),(0:Int))) (cond ((bt x.1 x.2)==(94:Int)) (some ((7:Int),(1:Int),(0:Int))) (cond ((bt x.1 x.2)==(107:Int)) (some ((6:Int),(2:Int),(41:Int))) (cond ((bt x.1 x.2)==(42:Int)) (some ((8:Int),(2:Int),(41:Int))) (some ((0:Int),(0:Int),(0:Int)))))))))) none)
def LY (n:Nat):aa:={ pars:=[.c (jS), .c (jI)],gh:=[],nb:=[],res:=[(false,[jI]),(false,[jI]),(false,[.i (.int .u8)])],g:=pv n }
def PI (n:Nat):List (Nat×aa):=[]
def QB (n:Nat):aK:={ τ:=τ,N:=24,Γ:=gl (PI n) [],Λ:=(fun q=>match q with  | _=>none) }
theorem Ol (n:Nat) (x):pv n x=ar (QB n) Tryz.f125 (LY n) x:=by kernel_rfl
def ca (n:Nat) (x:Int×Int×Int×Bool):Option (Int) :=
 (cond (x.1==(9:Int)) (some (0:Int)) (cond (x.1==(10:Int)) (some (2:Int)) ((eS n x.1).bind fun r1=>(some r1))))
def Iy (n:Nat):aa:={ pars:=[.g [jI,jI,jI,jB]],gh:=[],nb:=[],res:=[(false,[jI])],g:=ca n }
def P3 (n:Nat):List (Nat×aa):=[(80,ON n)]
def QM (n:Nat):aK:={ τ:=τ,N:=12,Γ:=gl (P3 n) [],Λ:=(fun q=>match q with  | _=>none) }
theorem OI (n:Nat) (x):ca n x=ar (QM n) Tryz.f101 (Iy n) x:=by kernel_rfl
def mW (n:Nat) (rec_:ByteArray×Int×jD→Option (jD×Int×Int×Bool)) (x:ByteArray×Int×Bool×Int×jD):Option (jD×Int×Int×Int×Bool) :=
 (cond x.2.2.1 ((gP n (x.1,x.2.1,(40:Int))).bind fun r1=>(cond (r1.2 != (0:Int)) (some (x.2.2.2.2,(0:Int),(0:Int),(0:Int),false)) ((rec_ (x.1,r1.1,x.2.2.2.2)).bind fun r2=>(cond (!r2.2.2.2) (some (r2.1,(0:Int),(0:Int),(0:Int),false)) ((gP n (x.1,r2.2.2.1,(44:Int))).bind fun r3=>(cond (r3.2 != (0:Int)) (some (r2.1,(0:Int),(0:Int),(0:Int),false)) ((rec_ (x.1,r3.1,r2.1)).bind fun r4=>(cond (!r4.2.2.2) (some (r4.1,(0:Int),(0:Int),(0:Int),false)) ((gP n (x.1,r4.2.2.1,x.2.2.2.1)).bind fun r5=>(some (r4.1,r2.2.1,r4.2.1,r5.1,(r5.2==(0:Int))))))))))))) (cond ((0:Int) != (0:Int)) (some (x.2.2.2.2,(0:Int),(0:Int),(0:Int),false)) ((rec_ (x.1,x.2.1,x.2.2.2.2)).bind fun r6=>(cond (!r6.2.2.2) (some (r6.1,(0:Int),(0:Int),(0:Int),false)) ((gP n (x.1,r6.2.2.1,(44:Int))).bind fun r7=>(cond (r7.2 != (0:Int)) (some (r6.1,(0:Int),(0:Int),(0:Int),false)) ((rec_ (x.1,r7.1,r6.1)).bind fun r8=>(cond (!r8.2.2.2) (some (r8.1,(0:Int),(0:Int),(0:Int),false)) ((gP n (x.1,r8.2.2.1,x.2.2.2.1)).bind fun r9=>(some (r8.1,r6.2.1,r8.2.1,r9.1,(r9.2==(0:Int)))))))))))))
def rG (n:Nat) (rec_:ByteArray×Int×jD→Option (jD×Int×Int×Bool)) (x:ByteArray×Int×jD):Option (jD×Int×Int×Bool) :=
 (cond (decide (x.2.1≥((x.1).size:Int))) (some (x.2.2,(0:Int),(0:Int),false)) (cond (aY x.2.1 (x.1).size) (cond ((bt x.1 x.2.1)==(36:Int)) (cond (decide ((IntKind.i64.wrap (x.2.1+(1:Int)))≥((x.1).size:Int))) (some (x.2.2,(0:Int),(0:Int),false)) (cond (aY (IntKind.i64.wrap (x.2.1+(1:Int))) (x.1).size) (cond (decide ((bt x.1 (IntKind.i64.wrap (x.2.1+(1:Int))))<(97:Int))) (some (x.2.2,(0:Int),(0:Int),false)) (cond (aY (IntKind.i64.wrap (x.2.1+(1:Int))) (x.1).size) (cond (decide ((bt x.1 (IntKind.i64.wrap (x.2.1+(1:Int))))>(122:Int))) (some (x.2.2,(0:Int),(0:Int),false)) (cond (aY (IntKind.i64.wrap (x.2.1+(1:Int))) (x.1).size) (cond (aY x.2.1 (x.1).size) ((ca n ((9:Int),(IntKind.i64.wrap ((IntKind.i64.wrap (bt x.1 (IntKind.i64.wrap (x.2.1+(1:Int)))))-(97:Int))),(0:Int),((bt x.1 x.2.1)==(63:Int)))).bind fun r1=>(cond (decide (r1>(0:Int))) (cond (aY (IntKind.i64.wrap ((IntKind.i64.wrap (bt x.1 (IntKind.i64.wrap (x.2.1+(1:Int)))))-(97:Int))) (x.2.2).length) (cond (decide (r1>(1:Int))) (cond (x.2.2.getD ((IntKind.i64.wrap ((IntKind.i64.wrap (bt x.1 (IntKind.i64.wrap (x.2.1+(1:Int)))))-(97:Int)))).toNat ((0:Int),((0:Int),((0:Int),false)))).2.2.2 (cond (co ((x.2.2).length+([((9:Int),((IntKind.i64.wrap ((IntKind.i64.wrap (bt x.1 (IntKind.i64.wrap (x.2.1+(1:Int)))))-(97:Int))),((0:Int),true)))]).length)) (some ((x.2.2++[((9:Int),((IntKind.i64.wrap ((IntKind.i64.wrap (bt x.1 (IntKind.i64.wrap (x.2.1+(1:Int)))))-(97:Int))),((0:Int),true)))]),(((x.2.2).length:Nat):Int),(IntKind.i64.wrap (x.2.1+(2:Int))),true)) none) (cond (aY (0:Int) (x.2.2).length) (cond (co ((x.2.2).length+([((9:Int),((IntKind.i64.wrap ((IntKind.i64.wrap (bt x.1 (IntKind.i64.wrap (x.2.1+(1:Int)))))-(97:Int))),((0:Int),(x.2.2.getD ((0:Int)).toNat ((0:Int),((0:Int),((0:Int),false)))).2.2.2)))]).length)) (some ((x.2.2++[((9:Int),((IntKind.i64.wrap ((IntKind.i64.wrap (bt x.1 (IntKind.i64.wrap (x.2.1+(1:Int)))))-(97:Int))),((0:Int),(x.2.2.getD ((0:Int)).toNat ((0:Int),((0:Int),((0:Int),false)))).2.2.2)))]),(((x.2.2).length:Nat):Int),(IntKind.i64.wrap (x.2.1+(2:Int))),true)) none) none)) (cond (co ((x.2.2).length+([((9:Int),((IntKind.i64.wrap ((IntKind.i64.wrap (bt x.1 (IntKind.i64.wrap (x.2.1+(1:Int)))))-(97:Int))),((0:Int),(x.2.2.getD ((IntKind.i64.wrap ((IntKind.i64.wrap (bt x.1 (IntKind.i64.wrap (x.2.1+(1:Int)))))-(97:Int)))).toNat ((0:Int),((0:Int),((0:Int),false)))).2.2.2)))]).length)) (some ((x.2.2++[((9:Int),((IntKind.i64.wrap ((IntKind.i64.wrap (bt x.1 (IntKind.i64.wrap (x.2.1+(1:Int)))))-(97:Int))),((0:Int),(x.2.2.getD ((IntKind.i64.wrap ((IntKind.i64.wrap (bt x.1 (IntKind.i64.wrap (x.2.1+(1:Int)))))-(97:Int)))).toNat ((0:Int),((0:Int),((0:Int),false)))).2.2.2)))]),(((x.2.2).length:Nat):Int),(IntKind.i64.wrap (x.2.1+(2:Int))),true)) none)) none) (cond (decide (r1>(1:Int))) (cond ((bt x.1 x.2.1)==(63:Int)) (cond (co ((x.2.2).length+([((9:Int),((IntKind.i64.wrap ((IntKind.i64.wrap (bt x.1 (IntKind.i64.wrap (x.2.1+(1:Int)))))-(97:Int))),((0:Int),true)))]).length)) (some ((x.2.2++[((9:Int),((IntKind.i64.wrap ((IntKind.i64.wrap (bt x.1 (IntKind.i64.wrap (x.2.1+(1:Int)))))-(97:Int))),((0:Int),true)))]),(((x.2.2).length:Nat):Int),(IntKind.i64.wrap (x.2.1+(2:Int))),true)) none) (cond (aY (0:Int) (x.2.2).length) (cond (co ((x.2.2).length+([((9:Int),((IntKind.i64.wrap ((IntKind.i64.wrap (bt x.1 (IntKind.i64.wrap (x.2.1+(1:Int)))))-(97:Int))),((0:Int),(x.2.2.getD ((0:Int)).toNat ((0:Int),((0:Int),((0:Int),false)))).2.2.2)))]).length)) (some ((x.2.2++[((9:Int),((IntKind.i64.wrap ((IntKind.i64.wrap (bt x.1 (IntKind.i64.wrap (x.2.1+(1:Int)))))-(97:Int))),((0:Int),(x.2.2.getD ((0:Int)).toNat ((0:Int),((0:Int),((0:Int),false)))).2.2.2)))]),(((x.2.2).length:Nat):Int),(IntKind.i64.wrap (x.2.1+(2:Int))),true)) none) none)) (cond (co ((x.2.2).length+([((9:Int),((IntKind.i64.wrap ((IntKind.i64.wrap (bt x.1 (IntKind.i64.wrap (x.2.1+(1:Int)))))-(97:Int))),((0:Int),((bt x.1 x.2.1)==(63:Int)))))]).length)) (some ((x.2.2++[((9:Int),((IntKind.i64.wrap ((IntKind.i64.wrap (bt x.1 (IntKind.i64.wrap (x.2.1+(1:Int)))))-(97:Int))),((0:Int),((bt x.1 x.2.1)==(63:Int)))))]),(((x.2.2).length:Nat):Int),(IntKind.i64.wrap (x.2.1+(2:Int))),true)) none)))) none) none)) none)) none)) (cond ((bt x.1 x.2.1)==(63:Int)) (cond (decide ((IntKind.i64.wrap (x.2.1+(1:Int)))≥((x.1).size:Int))) (some (x.2.2,(0:Int),(0:Int),false)) (cond (aY (IntKind.i64.wrap (x.2.1+(1:Int))) (x.1).size) (cond (decide ((bt x.1 (IntKind.i64.wrap (x.2.1+(1:Int))))<(97:Int))) (some (x.2.2,(0:Int),(0:Int),false)) (cond (aY (IntKind.i64.wrap (x.2.1+(1:Int))) (x.1).size) (cond (decide ((bt x.1 (IntKind.i64.wrap (x.2.1+(1:Int))))>(122:Int))) (some (x.2.2,(0:Int),(0:Int),false)) (cond (aY (IntKind.i64.wrap (x.2.1+(1:Int))) (x.1).size) (cond (aY x.2.1 (x.1).size) ((ca n ((9:Int),(IntKind.i64.wrap ((IntKind.i64.wrap (bt x.1 (IntKind.i64.wrap (x.2.1+(1:Int)))))-(97:Int))),(0:Int),((bt x.1 x.2.1)==(63:Int)))).bind fun r2=>(cond (decide (r2>(0:Int))) (cond (aY (IntKind.i64.wrap ((IntKind.i64.wrap (bt x.1 (IntKind.i64.wrap (x.2.1+(1:Int)))))-(97:Int))) (x.2.2).length) (cond (decide (r2>(1:Int))) (cond (x.2.2.getD ((IntKind.i64.wrap ((IntKind.i64.wrap (bt x.1 (IntKind.i64.wrap (x.2.1+(1:Int)))))-(97:Int)))).toNat ((0:Int),((0:Int),((0:Int),false)))).2.2.2 (cond (co ((x.2.2).length+([((9:Int),((IntKind.i64.wrap ((IntKind.i64.wrap (bt x.1 (IntKind.i64.wrap (x.2.1+(1:Int)))))-(97:Int))),((0:Int),true)))]).length)) (some ((x.2.2++[((9:Int),((IntKind.i64.wrap ((IntKind.i64.wrap (bt x.1 (IntKind.i64.wrap (x.2.1+(1:Int)))))-(97:Int))),((0:Int),true)))]),(((x.2.2).length:Nat):Int),(IntKind.i64.wrap (x.2.1+(2:Int))),true)) none) (cond (aY (0:Int) (x.2.2).length) (cond (co ((x.2.2).length+([((9:Int),((IntKind.i64.wrap ((IntKind.i64.wrap (bt x.1 (IntKind.i64.wrap (x.2.1+(1:Int)))))-(97:Int))),((0:Int),(x.2.2.getD ((0:Int)).toNat ((0:Int),((0:Int),((0:Int),false)))).2.2.2)))]).length)) (some ((x.2.2++[((9:Int),((IntKind.i64.wrap ((IntKind.i64.wrap (bt x.1 (IntKind.i64.wrap (x.2.1+(1:Int)))))-(97:Int))),((0:Int),(x.2.2.getD ((0:Int)).toNat ((0:Int),((0:Int),((0:Int),false)))).2.2.2)))]),(((x.2.2).length:Nat):Int),(IntKind.i64.wrap (x.2.1+(2:Int))),true)) none) none)) (cond (co ((x.2.2).length+([((9:Int),((IntKind.i64.wrap ((IntKind.i64.wrap (bt x.1 (IntKind.i64.wrap (x.2.1+(1:Int)))))-(97:Int))),((0:Int),(x.2.2.getD ((IntKind.i64.wrap ((IntKind.i64.wrap (bt x.1 (IntKind.i64.wrap (x.2.1+(1:Int)))))-(97:Int)))).toNat ((0:Int),((0:Int),((0:Int),false)))).2.2.2)))]).length)) (some ((x.2.2++[((9:Int),((IntKind.i64.wrap ((IntKind.i64.wrap (bt x.1 (IntKind.i64.wrap (x.2.1+(1:Int)))))-(97:Int))),((0:Int),(x.2.2.getD ((IntKind.i64.wrap ((IntKind.i64.wrap (bt x.1 (IntKind.i64.wrap (x.2.1+(1:Int)))))-(97:Int)))).toNat ((0:Int),((0:Int),((0:Int),false)))).2.2.2)))]),(((x.2.2).length:Nat):Int),(IntKind.i64.wrap (x.2.1+(2:Int))),true)) none)) none) (cond (decide (r2>(1:Int))) (cond ((bt x.1 x.2.1)==(63:Int)) (cond (co ((x.2.2).length+([((9:Int),((IntKind.i64.wrap ((IntKind.i64.wrap (bt x.1 (IntKind.i64.wrap (x.2.1+(1:Int)))))-(97:Int))),((0:Int),true)))]).length)) (some ((x.2.2++[((9:Int),((IntKind.i64.wrap ((IntKind.i64.wrap (bt x.1 (IntKind.i64.wrap (x.2.1+(1:Int)))))-(97:Int))),((0:Int),true)))]),(((x.2.2).length:Nat):Int),(IntKind.i64.wrap (x.2.1+(2:Int))),true)) none) (cond (aY (0:Int) (x.2.2).length) (cond (co ((x.2.2).length+([((9:Int),((IntKind.i64.wrap ((IntKind.i64.wrap (bt x.1 (IntKind.i64.wrap (x.2.1+(1:Int)))))-(97:Int))),((0:Int),(x.2.2.getD ((0:Int)).toNat ((0:Int),((0:Int),((0:Int),false)))).2.2.2)))]).length)) (some ((x.2.2++[((9:Int),((IntKind.i64.wrap ((IntKind.i64.wrap (bt x.1 (IntKind.i64.wrap (x.2.1+(1:Int)))))-(97:Int))),((0:Int),(x.2.2.getD ((0:Int)).toNat ((0:Int),((0:Int),((0:Int),false)))).2.2.2)))]),(((x.2.2).length:Nat):Int),(IntKind.i64.wrap (x.2.1+(2:Int))),true)) none) none)) (cond (co ((x.2.2).length+([((9:Int),((IntKind.i64.wrap ((IntKind.i64.wrap (bt x.1 (IntKind.i64.wrap (x.2.1+(1:Int)))))-(97:Int))),((0:Int),((bt x.1 x.2.1)==(63:Int)))))]).length)) (some ((x.2.2++[((9:Int),((IntKind.i64.wrap ((IntKind.i64.wrap (bt x.1 (IntKind.i64.wrap (x.2.1+(1:Int)))))-(97:Int))),((0:Int),((bt x.1 x.2.1)==(63:Int)))))]),(((x.2.2).length:Nat):Int),(IntKind.i64.wrap (x.2.1+(2:Int))),true)) none)))) none) none)) none)) none)) (cond ((bt x.1 x.2.1)==(110:Int)) ((pu n (x.1,(IntKind.i64.wrap (x.2.1+(1:Int))))).bind fun r3=>(cond (!r3.2.2) (some (x.2.2,(0:Int),(0:Int),false)) ((ca n ((1:Int),r3.1,(0:Int),false)).bind fun r4=>(cond (decide (r4>(0:Int))) (cond (aY r3.1 (x.2.2).length) (cond (decide (r4>(1:Int))) (cond (x.2.2.getD (r3.1).toNat ((0:Int),((0:Int),((0:Int),false)))).2.2.2 (cond (co ((x.2.2).length+([((1:Int),(r3.1,((0:Int),true)))]).length)) (some ((x.2.2++[((1:Int),(r3.1,((0:Int),true)))]),(((x.2.2).length:Nat):Int),r3.2.1,true)) none) (cond (aY (0:Int) (x.2.2).length) (cond (co ((x.2.2).length+([((1:Int),(r3.1,((0:Int),(x.2.2.getD ((0:Int)).toNat ((0:Int),((0:Int),((0:Int),false)))).2.2.2)))]).length)) (some ((x.2.2++[((1:Int),(r3.1,((0:Int),(x.2.2.getD ((0:Int)).toNat ((0:Int),((0:Int),((0:Int),false)))).2.2.2)))]),(((x.2.2).length:Nat):Int),r3.2.1,true)) none) none)) (cond (co ((x.2.2).length+([((1:Int),(r3.1,((0:Int),(x.2.2.getD (r3.1).toNat ((0:Int),((0:Int),((0:Int),false)))).2.2.2)))]).length)) (some ((x.2.2++[((1:Int),(r3.1,((0:Int),(x.2.2.getD (r3.1).toNat ((0:Int),((0:Int),((0:Int),false)))).2.2.2)))]),(((x.2.2).length:Nat):Int),r3.2.1,true)) none)) none) (cond (decide (r4>(1:Int))) (cond (aY (0:Int) (x.2.2).length) (cond (co ((x.2.2).length+([((1:Int),(r3.1,((0:Int),(x.2.2.getD ((0:Int)).toNat ((0:Int),((0:Int),((0:Int),false)))).2.2.2)))]).length)) (some ((x.2.2++[((1:Int),(r3.1,((0:Int),(x.2.2.getD ((0:Int)).toNat ((0:Int),((0:Int),((0:Int),false)))).2.2.2)))]),(((x.2.2).length:Nat):Int),r3.2.1,true)) none) none) (cond (co ((x.2.2).length+([((1:Int),(r3.1,((0:Int),false)))]).length)) (some ((x.2.2++[((1:Int),(r3.1,((0:Int),false)))]),(((x.2.2).length:Nat):Int),r3.2.1,true)) none)))))) (cond ((bt x.1 x.2.1)==(120:Int)) ((mW n rec_ (x.1,(IntKind.i64.wrap (x.2.1+(1:Int))),true,(41:Int),x.2.2)).bind fun r5=>(cond (!r5.2.2.2.2) (some (r5.1,(0:Int),(0:Int),false)) ((ca n ((10:Int),r5.2.1,r5.2.2.1,false)).bind fun r6=>(cond (decide (r6>(0:Int))) (cond (aY r5.2.1 (r5.1).length) (cond (decide (r6>(1:Int))) (cond (r5.1.getD (r5.2.1).toNat ((0:Int),((0:Int),((0:Int),false)))).2.2.2 (cond (co ((r5.1).length+([((10:Int),(r5.2.1,(r5.2.2.1,true)))]).length)) (some ((r5.1++[((10:Int),(r5.2.1,(r5.2.2.1,true)))]),(((r5.1).length:Nat):Int),r5.2.2.2.1,true)) none) (cond (aY r5.2.2.1 (r5.1).length) (cond (co ((r5.1).length+([((10:Int),(r5.2.1,(r5.2.2.1,(r5.1.getD (r5.2.2.1).toNat ((0:Int),((0:Int),((0:Int),false)))).2.2.2)))]).length)) (some ((r5.1++[((10:Int),(r5.2.1,(r5.2.2.1,(r5.1.getD (r5.2.2.1).toNat ((0:Int),((0:Int),((0:Int),false)))).2.2.2)))]),(((r5.1).length:Nat):Int),r5.2.2.2.1,true)) none) none)) (cond (co ((r5.1).length+([((10:Int),(r5.2.1,(r5.2.2.1,(r5.1.getD (r5.2.1).toNat ((0:Int),((0:Int),((0:Int),false)))).2.2.2)))]).length)) (some ((r5.1++[((10:Int),(r5.2.1,(r5.2.2.1,(r5.1.getD (r5.2.1).toNat ((0:Int),((0:Int),((0:Int),false)))).2.2.2)))]),(((r5.1).length:Nat):Int),r5.2.2.2.1,true)) none)) none) (cond (decide (r6>(1:Int))) (cond (aY r5.2.2.1 (r5.1).length) (cond (co ((r5.1).length+([((10:Int),(r5.2.1,(r5.2.2.1,(r5.1.getD (r5.2.2.1).toNat ((0:Int),((0:Int),((0:Int),false)))).2.2.2)))]).length)) (some ((r5.1++[((10:Int),(r5.2.1,(r5.2.2.1,(r5.1.getD (r5.2.2.1).toNat ((0:Int),((0:Int),((0:Int),false)))).2.2.2)))]),(((r5.1).length:Nat):Int),r5.2.2.2.1,true)) none) none) (cond (co ((r5.1).length+([((10:Int),(r5.2.1,(r5.2.2.1,false)))]).length)) (some ((r5.1++[((10:Int),(r5.2.1,(r5.2.2.1,false)))]),(((r5.1).length:Nat):Int),r5.2.2.2.1,true)) none)))))) ((pv n (x.1,x.2.1)).bind fun r7=>(cond (r7.1==(0:Int)) (some (x.2.2,(0:Int),(0:Int),false)) (cond (decide (r7.2.2>(0:Int))) ((mW n rec_ (x.1,(IntKind.i64.wrap (x.2.1+(1:Int))),(r7.2.1==(2:Int)),r7.2.2,x.2.2)).bind fun r8=>(cond (!r8.2.2.2.2) (some (r8.1,(0:Int),(0:Int),false)) ((ca n (r7.1,r8.2.1,r8.2.2.1,false)).bind fun r9=>(cond (decide (r9>(0:Int))) (cond (aY r8.2.1 (r8.1).length) (cond (decide (r9>(1:Int))) (cond (r8.1.getD (r8.2.1).toNat ((0:Int),((0:Int),((0:Int),false)))).2.2.2 (cond (co ((r8.1).length+([(r7.1,(r8.2.1,(r8.2.2.1,true)))]).length)) (some ((r8.1++[(r7.1,(r8.2.1,(r8.2.2.1,true)))]),(((r8.1).length:Nat):Int),r8.2.2.2.1,true)) none) (cond (aY r8.2.2.1 (r8.1).length) (cond (co ((r8.1).length+([(r7.1,(r8.2.1,(r8.2.2.1,(r8.1.getD (r8.2.2.1).toNat ((0:Int),((0:Int),((0:Int),false)))).2.2.2)))]).length)) (some ((r8.1++[(r7.1,(r8.2.1,(r8.2.2.1,(r8.1.getD (r8.2.2.1).toNat ((0:Int),((0:Int),((0:Int),false)))).2.2.2)))]),(((r8.1).length:Nat):Int),r8.2.2.2.1,true)) none) none)) (cond (co ((r8.1).length+([(r7.1,(r8.2.1,(r8.2.2.1,(r8.1.getD (r8.2.1).toNat ((0:Int),((0:Int),((0:Int),false)))).2.2.2)))]).length)) (some ((r8.1++[(r7.1,(r8.2.1,(r8.2.2.1,(r8.1.getD (r8.2.1).toNat ((0:Int),((0:Int),((0:Int),false)))).2.2.2)))]),(((r8.1).length:Nat):Int),r8.2.2.2.1,true)) none)) none) (cond (decide (r9>(1:Int))) (cond (aY r8.2.2.1 (r8.1).length) (cond (co ((r8.1).length+([(r7.1,(r8.2.1,(r8.2.2.1,(r8.1.getD (r8.2.2.1).toNat ((0:Int),((0:Int),((0:Int),false)))).2.2.2)))]).length)) (some ((r8.1++[(r7.1,(r8.2.1,(r8.2.2.1,(r8.1.getD (r8.2.2.1).toNat ((0:Int),((0:Int),((0:Int),false)))).2.2.2)))]),(((r8.1).length:Nat):Int),r8.2.2.2.1,true)) none) none) (cond (co ((r8.1).length+([(r7.1,(r8.2.1,(r8.2.2.1,false)))]).length)) (some ((r8.1++[(r7.1,(r8.2.1,(r8.2.2.1,false)))]),(((r8.1).length:Nat):Int),r8.2.2.2.1,true)) none)))))) ((rec_ (x.1,(IntKind.i64.wrap (x.2.1+(1:Int))),x.2.2)).bind fun r10=>(cond (!r10.2.2.2) (some (r10.1,(0:Int),(0:Int),false)) ((ca n (r7.1,r10.2.1,(0:Int),false)).bind fun r11=>(cond (decide (r11>(0:Int))) (cond (aY r10.2.1 (r10.1).length) (cond (decide (r11>(1:Int))) (cond (r10.1.getD (r10.2.1).toNat ((0:Int),((0:Int),((0:Int),false)))).2.2.2 (cond (co ((r10.1).length+([(r7.1,(r10.2.1,((0:Int),true)))]).length)) (some ((r10.1++[(r7.1,(r10.2.1,((0:Int),true)))]),(((r10.1).length:Nat):Int),r10.2.2.1,true)) none) (cond (aY (0:Int) (r10.1).length) (cond (co ((r10.1).length+([(r7.1,(r10.2.1,((0:Int),(r10.1.getD ((0:Int)).toNat ((0:Int),((0:Int),((0:Int),false)))).2.2.2)))]).length)) (some ((r10.1++[(r7.1,(r10.2.1,((0:Int),(r10.1.getD ((0:Int)).toNat ((0:Int),((0:Int),((0:Int),false)))).2.2.2)))]),(((r10.1).length:Nat):Int),r10.2.2.1,true)) none) none)) (cond (co ((r10.1).length+([(r7.1,(r10.2.1,((0:Int),(r10.1.getD (r10.2.1).toNat ((0:Int),((0:Int),((0:Int),false)))).2.2.2)))]).length)) (some ((r10.1++[(r7.1,(r10.2.1,((0:Int),(r10.1.getD (r10.2.1).toNat ((0:Int),((0:Int),((0:Int),false)))).2.2.2)))]),(((r10.1).length:Nat):Int),r10.2.2.1,true)) none)) none) (cond (decide (r11>(1:Int))) (cond (aY (0:Int) (r10.1).length) (cond (co ((r10.1).length+([(r7.1,(r10.2.1,((0:Int),(r10.1.getD ((0:Int)).toNat ((0:Int),((0:Int),((0:Int),false)))).2.2.2)))]).length)) (some ((r10.1++[(r7.1,(r10.2.1,((0:Int),(r10.1.getD ((0:Int)).toNat ((0:Int),((0:Int),((0:Int),false)))).2.2.2)))]),(((r10.1).length:Nat):Int),r10.2.2.1,true)) none) none) (cond (co ((r10.1).length+([(r7.1,(r10.2.1,((0:Int),false)))]).length)) (some ((r10.1++[(r7.1,(r10.2.1,((0:Int),false)))]),(((r10.1).length:Nat):Int),r10.2.2.1,true)) none))))))))))))) none))
def gi (n:Nat):Nat→(ByteArray×Int×jD)→Option (jD×Int×Int×Bool)
 |0,_=>none
 |k+1,x=>rG n (gi n k) x
def JO (n:Nat) (k:Nat):aa:={ pars:=[.c (jS), .c (jI), .c (jB), .c (.i (.int .u8)), .c (.o 127 (.pr (.int .i64) (.pr (.int .i64) (.pr (.int .i64) .bool))))],gh:=[],nb:=[],res:=[(false,[.o 127 (.pr (.int .i64) (.pr (.int .i64) (.pr (.int .i64) .bool)))]),(false,[jI]),(false,[jI]),(false,[jI]),(false,[jB])],g:=mW n (gi n k) }
def Mt (n:Nat) (k:Nat):aa:={ pars:=[.c (jS), .c (jI), .c (.o 127 (.pr (.int .i64) (.pr (.int .i64) (.pr (.int .i64) .bool))))],gh:=[],nb:=[],res:=[(false,[.o 127 (.pr (.int .i64) (.pr (.int .i64) (.pr (.int .i64) .bool)))]),(false,[jI]),(false,[jI]),(false,[jB])],g:=gi n k }
def PJ (n:Nat) (k:Nat):List (Nat×aa):=[(148,LM n),(99,Mt n k)]
def QC (n:Nat) (k:Nat):aK:={ τ:=τ,N:=75,Γ:=gl (PJ n k) [],Λ:=(fun q=>match q with  | _=>none) }
theorem Om (n k:Nat) (x):mW n (gi n k) x=ar (QC n k) Tryz.f124 (JO n k) x:=by kernel_rfl
def VX (n:Nat) (k:Nat):List (Nat×aa):=[(101,Iy n),(123,LZ n),(124,JO n k),(125,LY n),(99,Mt n k)]
def Xq (n:Nat) (k:Nat):aK:={ τ:=τ,N:=170,Γ:=gl (VX n k) [],Λ:=(fun q=>match q with  | _=>none) }
theorem Sp (n k:Nat) (x):gi n (k+1) x=ar (Xq n k) Tryz.f99 (Mt n (k+1)) x:=by kernel_rfl
def fW (n:Nat) (x:ByteArray):Option (jD×Bool) :=
 (cond (decide (((x).size:Int)>(200:Int))) (some (([]:List (Int×(Int×(Int×Bool)))),false)) ((gi n n (x,(0:Int),([]:List (Int×(Int×(Int×Bool)))))).bind fun r1=>(cond r1.2.2.2 (some (r1.1,(r1.2.2.1==((x).size:Int)))) (some (r1.1,false)))))
def QW (n:Nat):aa:={ pars:=[.c (jS)],gh:=[],nb:=[],res:=[(false,[.i (.sl (.pr (.int .i64) (.pr (.int .i64) (.pr (.int .i64) .bool))))]),(false,[jB])],g:=fW n }
def We (n:Nat):List (Nat×aa):=[(99,Mt n n)]
def XA (n:Nat):aK:={ τ:=τ,N:=28,Γ:=gl (We n) [],Λ:=(fun q=>match q with  | _=>none) }
theorem SH (n:Nat) (x):fW n x=ar (XA n) Tryz.f82 (QW n) x:=by kernel_rfl
def rH (n:Nat) (x:Int×ByteArray):Option (Bool) :=
 ((fW n x.2).bind fun r1=>(cond (x.1==(1:Int)) (cond (((x.2).size:Int)==(1:Int)) (cond (aY (0:Int) (x.2).size) (cond (decide ((bt x.2 (0:Int))≥(97:Int))) (cond (aY (0:Int) (x.2).size) (some (decide ((bt x.2 (0:Int))≤(122:Int)))) none) (some false)) none) (some false)) (cond (x.1==(2:Int)) (cond r1.2 (cond (aY (IntKind.i64.wrap (((r1.1).length:Int)-(1:Int))) (r1.1).length) (some (!(r1.1.getD ((IntKind.i64.wrap (((r1.1).length:Int)-(1:Int)))).toNat ((0:Int),((0:Int),((0:Int),false)))).2.2.2)) none) (some false)) (cond (x.1==(4:Int)) (cond r1.2 (cond (aY (IntKind.i64.wrap (((r1.1).length:Int)-(1:Int))) (r1.1).length) (some (!(r1.1.getD ((IntKind.i64.wrap (((r1.1).length:Int)-(1:Int)))).toNat ((0:Int),((0:Int),((0:Int),false)))).2.2.2)) none) (some false)) (cond (x.1==(3:Int)) (some r1.2) (some false))))))
def LN (n:Nat):aa:={ pars:=[.g [jI,jS]],gh:=[],nb:=[],res:=[(false,[jB])],g:=rH n }
def Pr (n:Nat):List (Nat×aa):=[(82,QW n)]
def Qo (n:Nat):aK:={ τ:=τ,N:=48,Γ:=gl (Pr n) [],Λ:=(fun q=>match q with  | _=>none) }
theorem N3 (n:Nat) (x):rH n x=ar (Qo n) Tryz.f147 (LN n) x:=by kernel_rfl
def dE (n:Nat):Nat→jA×Int×Int→Option ((Bool)⊕(Unit))
 |0,_=>none
 |m+1,x=>(cond (decide (x.2.2<x.2.1)) (cond (aY x.2.2 (x.1).length) ((rH n ((x.1.getD (x.2.2).toNat ((0:Int),(⟨#[]⟩:ByteArray))).1,(x.1.getD (x.2.2).toNat ((0:Int),(⟨#[]⟩:ByteArray))).2)).bind fun r2=>(cond (!r2) (some (Sum.inl false)) (cond (aY x.2.2 (x.1).length) (cond (((x.1.getD (x.2.2).toNat ((0:Int),(⟨#[]⟩:ByteArray))).1==(4:Int)) != (x.2.2==(IntKind.i64.wrap (x.2.1-(1:Int))))) (some (Sum.inl false)) (dE n m (x.1,x.2.1,(IntKind.i64.wrap (x.2.2+(1:Int)))))) none))) none) (some (Sum.inr ())))
def px (n:Nat) (x:jA):Option (Bool) :=
 ((cr n (((x).length:Int),(1:Int),(20:Int))).bind fun r1=>(cond (!r1) (some false) ((dE n n (x,((x).length:Int),(0:Int))).bind fun e3=>(match e3 with|Sum.inl a4=>(some a4)|Sum.inr b5=>(some true)))))
def L0 (n:Nat):aa:={ pars:=[.c (.i (.sl (.pr (.int .i64) .str)))],gh:=[],nb:=[],res:=[(false,[jB])],g:=px n }
def lQ (n:Nat) (g:jA×Int×Int→Option ((Bool)⊕(Unit))):cI:={ ent:=[.val 0 (.i (.sl (.pr (.int .i64) .str))), .val 3 (jI), .val 4 (jI)],exs:=[(.ret,[.val 2 (jB)]),(.exit 0,[])],g:=g }
def PL (n:Nat):List (Nat×aa):=[(47,FR n),(147,LN n)]
def Mj (n:Nat):aK:={ τ:=τ,N:=34,Γ:=gl (PL n) [],Λ:=(fun q=>match q with   | 5=>some (lQ n (dE n n))  | _=>none) }
theorem uA (n m:Nat) (x):dE n (m+1) x=cE (Mj n) (aC (aj Tryz.f122) 0) (lQ n (dE n n)) (dE n m) x:=by kernel_rfl
theorem Oo (n:Nat) (x):px n x=ar (Mj n) Tryz.f122 (L0 n) x:=by kernel_rfl
def cn (n:Nat):Nat→ByteArray×jA×Int×Int→Option ((jA×Bool)⊕(ByteArray×jA×Int))
 |0,_=>none
 |m+1,x=>(cond (decide (x.2.2.2<((x.1).size:Int))) (cond (aY x.2.2.2 (x.1).size) (cond ((bt x.1 x.2.2.2) != (10:Int)) (cn n m (x.1,x.2.1,x.2.2.1,(IntKind.i64.wrap (x.2.2.2+(1:Int))))) (cond (zB x.2.2.1 x.2.2.2 (x.1).size) ((pw n (sub x.1 x.2.2.1 x.2.2.2)).bind fun r1=>(cond (!r1.2.2) (some (Sum.inl (([]:List (Int×ByteArray)),false))) (cond (((x.2.1).length:Int)==(20:Int)) (some (Sum.inl (([]:List (Int×ByteArray)),false))) (cond (co ((x.2.1).length+([(r1.1,r1.2.1)]).length)) (cn n m (x.1,(x.2.1++[(r1.1,r1.2.1)]),(IntKind.i64.wrap (x.2.2.2+(1:Int))),(IntKind.i64.wrap (x.2.2.2+(1:Int))))) none)))) none)) none) (some (Sum.inr (x.1,x.2.1,x.2.2.1))))
def mq (n:Nat) (x:ByteArray):Option (jA×Bool) :=
 ((cn n n (x,([]:List (Int×ByteArray)),(0:Int),(0:Int))).bind fun e2=>(match e2 with|Sum.inl a3=>(some (a3.1,a3.2))|Sum.inr b4=>(cond (b4.2.2 != ((b4.1).size:Int)) (some (([]:List (Int×ByteArray)),false)) ((px n b4.2.1).bind fun r5=>(cond (!r5) (some (([]:List (Int×ByteArray)),false)) (some (b4.2.1,true)))))))
def T6 (n:Nat):aa:={ pars:=[.c (jS)],gh:=[],nb:=[],res:=[(false,[.i (.sl (.pr (.int .i64) .str))]),(false,[jB])],g:=mq n }
def jb (n:Nat) (g:ByteArray×jA×Int×Int→Option ((jA×Bool)⊕(ByteArray×jA×Int))):cI:={ ent:=[.val 0 (jS), .val 4 (.o 111 (.pr (.int .i64) .str)), .val 5 (jI), .val 6 (jI)],exs:=[(.ret,[.val 2 (.o 111 (.pr (.int .i64) .str)), .val 3 (jB)]),(.exit 0,[.val 0 (jS), .val 4 (.o 111 (.pr (.int .i64) .str)), .val 5 (jI)])],g:=g }
def VY (n:Nat):List (Nat×aa):=[(121,L3 n),(122,L0 n)]
def U7 (n:Nat):aK:={ τ:=τ,N:=53,Γ:=gl (VY n) [],Λ:=(fun q=>match q with   | 4=>some (jb n (cn n n))  | _=>none) }
theorem qP (n m:Nat) (x):cn n (m+1) x=cE (U7 n) (aC (aj Tryz.f98) 0) (jb n (cn n n)) (cn n m) x:=by kernel_rfl
theorem Sq (n:Nat) (x):mq n x=ar (U7 n) Tryz.f98 (T6 n) x:=by kernel_rfl
def de (n:Nat) (x:Int×Int):Option (jA) :=
 ((fi n (x.1,x.2)).bind fun r1=>((mq n r1).bind fun r2=>(some r2.1)))
def QX (n:Nat):aa:={ pars:=[.c (jI), .c (jI)],gh:=[],nb:=[],res:=[(false,[.i (.sl (.pr (.int .i64) .str))])],g:=de n }
def Wk (n:Nat):List (Nat×aa):=[(97,QS n),(98,T6 n)]
def XF (n:Nat):aK:={ τ:=τ,N:=15,Γ:=gl (Wk n) [],Λ:=(fun q=>match q with  | _=>none) }
theorem SN (n:Nat) (x):de n x=ar (XF n) Tryz.f76 (QX n) x:=by kernel_rfl
def fV (n:Nat) (x:jN×Int×Int×Int×Int×Int×jL×Bool×Bool×Int):Option (Bool) :=
 ((fU n (x.2.1,x.2.2.1)).bind fun r1=>(cond (!r1) (some false) ((jt n x.2.2.2.1).bind fun r2=>(cond (!r2) (some false) ((jt n x.2.2.2.2.1).bind fun r3=>(cond (!r3) (some false) (cond (x.2.2.2.1==x.2.2.2.2.1) (some false) ((mX n (x.1,x.2.2.2.2.2.2.1)).bind fun r4=>(cond (!r4) (some false) (cond x.2.2.2.2.2.2.2.1 (cond x.2.2.2.2.2.2.2.2.1 (some false) ((de n (x.2.1,x.2.2.1)).bind fun r5=>(cond x.2.2.2.2.2.2.2.1 (cond (x.2.2.2.2.2.1==((r5).length:Int)) ((fh n (x.1,x.2.2.2.2.2.2.2.2.2)).bind fun r6=>(some r6)) (some false)) ((cr n (x.2.2.2.2.2.1,(0:Int),(IntKind.i64.wrap (((r5).length:Int)-(1:Int))))).bind fun r7=>(cond r7 (some (x.2.2.2.2.2.2.2.2.2==(-1:Int))) (some false)))))) ((de n (x.2.1,x.2.2.1)).bind fun r8=>(cond x.2.2.2.2.2.2.2.1 (cond (x.2.2.2.2.2.1==((r8).length:Int)) ((fh n (x.1,x.2.2.2.2.2.2.2.2.2)).bind fun r9=>(some r9)) (some false)) ((cr n (x.2.2.2.2.2.1,(0:Int),(IntKind.i64.wrap (((r8).length:Int)-(1:Int))))).bind fun r10=>(cond r10 (some (x.2.2.2.2.2.2.2.2.2==(-1:Int))) (some false)))))))))))))))
def UB (n:Nat):aa:={ pars:=[.g [.i bR], .g [jI,jI,jI,jI,jI, .i (.sl (.int .i64)),jB,jB,jI]],gh:=[],nb:=[],res:=[(false,[jB])],g:=fV n }
def WM (n:Nat):List (Nat×aa):=[(73,Ui n),(74,Uh n),(75,Ug n),(76,QX n),(77,Mw n),(47,FR n)]
def XS (n:Nat):aK:={ τ:=τ,N:=74,Γ:=gl (WM n) [],Λ:=(fun q=>match q with  | _=>none) }
theorem Tl (n:Nat) (x):fV n x=ar (XS n) Tryz.f49 (UB n) x:=by kernel_rfl
def bH (n:Nat):Nat→jL×Int×Int→Option ((Bool)⊕(Unit))
 |0,_=>none
 |m+1,x=>(cond (decide (x.2.2<((x.1).length:Int))) (cond (aY x.2.2 (x.1).length) (cond ((x.1.getD (x.2.2).toNat (0:Int))==x.2.1) (some (Sum.inl true)) (bH n m (x.1,x.2.1,(IntKind.i64.wrap (x.2.2+(1:Int)))))) none) (some (Sum.inr ())))
def dV (n:Nat) (x:jL×Int):Option (Bool) :=
 ((bH n n (x.1,x.2,(0:Int))).bind fun e1=>(match e1 with|Sum.inl a2=>(some a2)|Sum.inr b3=>(some false)))
def LB (n:Nat):aa:={ pars:=[.c (.i (.sl (.int .i64))), .c (jI)],gh:=[],nb:=[],res:=[(false,[jB])],g:=dV n }
def kG (n:Nat) (g:jL×Int×Int→Option ((Bool)⊕(Unit))):cI:={ ent:=[.val 0 (.i (.sl (.int .i64))), .val 1 (jI), .val 5 (jI)],exs:=[(.ret,[.val 4 (jB)]),(.exit 0,[])],g:=g }
def WK (n:Nat):List (Nat×aa):=[]
def Vm (n:Nat):aK:={ τ:=τ,N:=18,Γ:=gl (WK n) [],Λ:=(fun q=>match q with   | 2=>some (kG n (bH n n))  | _=>none) }
theorem tj (n m:Nat) (x):bH n (m+1) x=cE (Vm n) (aC (aj Tryz.f50) 0) (kG n (bH n n)) (bH n m) x:=by kernel_rfl
theorem Tk (n:Nat) (x):dV n x=ar (Vm n) Tryz.f50 (LB n) x:=by kernel_rfl
def bk (n:Nat):Nat→jN×jL×jW×Int×jL×jL×jC×Int×Int×Int→Option ((Bool)⊕(jN×jL×jW×Int×jL×jL×jC×Int×Int))
 |0,_=>none
 |m+1,x=>(cond (decide (x.2.2.2.2.2.2.2.2.2<x.2.2.2.2.2.2.2.1)) (cond (aY x.2.2.2.2.2.2.2.2.2 (x.2.2.1).length) ((fV n (x.1,(x.2.2.1.getD (x.2.2.2.2.2.2.2.2.2).toNat ((0:Int),((0:Int),((0:Int),((0:Int),((0:Int),([],(false,(false,(0:Int)))))))))).1,(x.2.2.1.getD (x.2.2.2.2.2.2.2.2.2).toNat ((0:Int),((0:Int),((0:Int),((0:Int),((0:Int),([],(false,(false,(0:Int)))))))))).2.1,(x.2.2.1.getD (x.2.2.2.2.2.2.2.2.2).toNat ((0:Int),((0:Int),((0:Int),((0:Int),((0:Int),([],(false,(false,(0:Int)))))))))).2.2.1,(x.2.2.1.getD (x.2.2.2.2.2.2.2.2.2).toNat ((0:Int),((0:Int),((0:Int),((0:Int),((0:Int),([],(false,(false,(0:Int)))))))))).2.2.2.1,(x.2.2.1.getD (x.2.2.2.2.2.2.2.2.2).toNat ((0:Int),((0:Int),((0:Int),((0:Int),((0:Int),([],(false,(false,(0:Int)))))))))).2.2.2.2.1,(x.2.2.1.getD (x.2.2.2.2.2.2.2.2.2).toNat ((0:Int),((0:Int),((0:Int),((0:Int),((0:Int),([],(false,(false,(0:Int)))))))))).2.2.2.2.2.1,(x.2.2.1.getD (x.2.2.2.2.2.2.2.2.2).toNat ((0:Int),((0:Int),((0:Int),((0:Int),((0:Int),([],(false,(false,(0:Int)))))))))).2.2.2.2.2.2.1,(x.2.2.1.getD (x.2.2.2.2.2.2.2.2.2).toNat ((0:Int),((0:Int),((0:Int),((0:Int),((0:Int),([],(false,(false,(0:Int)))))))))).2.2.2.2.2.2.2.1,(x.2.2.1.getD (x.2.2.2.2.2.2.2.2.2).toNat ((0:Int),((0:Int),((0:Int),((0:Int),((0:Int),([],(false,(false,(0:Int)))))))))).2.2.2.2.2.2.2.2)).bind fun r5=>(cond (!r5) (some (Sum.inl false)) ((dV n (x.2.2.2.2.2.1,x.2.2.2.2.2.2.2.2.2)).bind fun r6=>(cond r6 (cond (aY x.2.2.2.2.2.2.2.2.2 (x.2.2.1).length) (cond (!(x.2.2.1.getD (x.2.2.2.2.2.2.2.2.2).toNat ((0:Int),((0:Int),((0:Int),((0:Int),((0:Int),([],(false,(false,(0:Int)))))))))).2.2.2.2.2.2.1) (some (Sum.inl false)) (cond (aY x.2.2.2.2.2.2.2.2.2 (x.2.2.1).length) (cond (x.2.2.1.getD (x.2.2.2.2.2.2.2.2.2).toNat ((0:Int),((0:Int),((0:Int),((0:Int),((0:Int),([],(false,(false,(0:Int)))))))))).2.2.2.2.2.2.1 (bk n m (x.1,x.2.1,x.2.2.1,x.2.2.2.1,x.2.2.2.2.1,x.2.2.2.2.2.1,x.2.2.2.2.2.2.1,x.2.2.2.2.2.2.2.1,(IntKind.i64.wrap (x.2.2.2.2.2.2.2.2.1+(1:Int))),(IntKind.i64.wrap (x.2.2.2.2.2.2.2.2.2+(1:Int))))) (bk n m (x.1,x.2.1,x.2.2.1,x.2.2.2.1,x.2.2.2.2.1,x.2.2.2.2.2.1,x.2.2.2.2.2.2.1,x.2.2.2.2.2.2.2.1,x.2.2.2.2.2.2.2.2.1,(IntKind.i64.wrap (x.2.2.2.2.2.2.2.2.2+(1:Int)))))) none)) none) (cond (aY x.2.2.2.2.2.2.2.2.2 (x.2.2.1).length) (cond (x.2.2.1.getD (x.2.2.2.2.2.2.2.2.2).toNat ((0:Int),((0:Int),((0:Int),((0:Int),((0:Int),([],(false,(false,(0:Int)))))))))).2.2.2.2.2.2.1 (bk n m (x.1,x.2.1,x.2.2.1,x.2.2.2.1,x.2.2.2.2.1,x.2.2.2.2.2.1,x.2.2.2.2.2.2.1,x.2.2.2.2.2.2.2.1,(IntKind.i64.wrap (x.2.2.2.2.2.2.2.2.1+(1:Int))),(IntKind.i64.wrap (x.2.2.2.2.2.2.2.2.2+(1:Int))))) (bk n m (x.1,x.2.1,x.2.2.1,x.2.2.2.1,x.2.2.2.2.1,x.2.2.2.2.2.1,x.2.2.2.2.2.2.1,x.2.2.2.2.2.2.2.1,x.2.2.2.2.2.2.2.2.1,(IntKind.i64.wrap (x.2.2.2.2.2.2.2.2.2+(1:Int)))))) none))))) none) (some (Sum.inr (x.1,x.2.1,x.2.2.1,x.2.2.2.1,x.2.2.2.2.1,x.2.2.2.2.2.1,x.2.2.2.2.2.2.1,x.2.2.2.2.2.2.2.1,x.2.2.2.2.2.2.2.2.1))))
def bG (n:Nat):Nat→jN×jL×jW×Int×jL×jL×jC×Int×Int×Int×Int×Int→Option ((Bool)⊕(jN×jL×jW×Int×jL×jL×jC×Int×Int×Int))
 |0,_=>none
 |m+1,x=>(cond (decide (x.2.2.2.2.2.2.2.2.2.2.2<x.2.2.2.2.2.2.2.2.2.1)) (cond (aY x.2.2.2.2.2.2.2.2.2.2.2 (x.2.2.2.2.2.2.1).length) (cond ((x.2.2.2.2.2.2.1.getD (x.2.2.2.2.2.2.2.2.2.2.2).toNat ((0:Int),(false,false))).1==x.2.2.2.2.2.2.2.2.2.2.1) (some (Sum.inl false)) (bG n m (x.1,x.2.1,x.2.2.1,x.2.2.2.1,x.2.2.2.2.1,x.2.2.2.2.2.1,x.2.2.2.2.2.2.1,x.2.2.2.2.2.2.2.1,x.2.2.2.2.2.2.2.2.1,x.2.2.2.2.2.2.2.2.2.1,x.2.2.2.2.2.2.2.2.2.2.1,(IntKind.i64.wrap (x.2.2.2.2.2.2.2.2.2.2.2+(1:Int)))))) none) (some (Sum.inr (x.1,x.2.1,x.2.2.1,x.2.2.2.1,x.2.2.2.2.1,x.2.2.2.2.2.1,x.2.2.2.2.2.2.1,x.2.2.2.2.2.2.2.1,x.2.2.2.2.2.2.2.2.1,x.2.2.2.2.2.2.2.2.2.1))))
def bh (n:Nat):Nat→jN×jL×jW×Int×jL×jL×jC×Int×Int×Int→Option ((Bool)⊕(jN×jL×jW×Int×jL×jL×jC×Int))
 |0,_=>none
 |m+1,x=>(cond (decide (x.2.2.2.2.2.2.2.2.2<((x.2.2.2.2.2.2.1).length:Int))) (cond (aY x.2.2.2.2.2.2.2.2.2 (x.2.2.2.2.2.2.1).length) ((cr n ((x.2.2.2.2.2.2.1.getD (x.2.2.2.2.2.2.2.2.2).toNat ((0:Int),(false,false))).1,(0:Int),(IntKind.i64.wrap (x.2.2.2.2.2.2.2.1-(1:Int))))).bind fun r10=>(cond (!r10) (some (Sum.inl false)) (cond (aY (x.2.2.2.2.2.2.1.getD (x.2.2.2.2.2.2.2.2.2).toNat ((0:Int),(false,false))).1 (x.2.2.1).length) (cond (!(x.2.2.1.getD ((x.2.2.2.2.2.2.1.getD (x.2.2.2.2.2.2.2.2.2).toNat ((0:Int),(false,false))).1).toNat ((0:Int),((0:Int),((0:Int),((0:Int),((0:Int),([],(false,(false,(0:Int)))))))))).2.2.2.2.2.2.1) (some (Sum.inl false)) ((bG n n (x.1,x.2.1,x.2.2.1,x.2.2.2.1,x.2.2.2.2.1,x.2.2.2.2.2.1,x.2.2.2.2.2.2.1,x.2.2.2.2.2.2.2.1,x.2.2.2.2.2.2.2.2.1,x.2.2.2.2.2.2.2.2.2,(x.2.2.2.2.2.2.1.getD (x.2.2.2.2.2.2.2.2.2).toNat ((0:Int),(false,false))).1,(0:Int))).bind fun e11=>(match e11 with|Sum.inl a12=>(some (Sum.inl a12))|Sum.inr b13=>(bh n m (b13.1,b13.2.1,b13.2.2.1,b13.2.2.2.1,b13.2.2.2.2.1,b13.2.2.2.2.2.1,b13.2.2.2.2.2.2.1,b13.2.2.2.2.2.2.2.1,b13.2.2.2.2.2.2.2.2.1,(IntKind.i64.wrap (b13.2.2.2.2.2.2.2.2.2+(1:Int)))))))) none))) none) (some (Sum.inr (x.1,x.2.1,x.2.2.1,x.2.2.2.1,x.2.2.2.2.1,x.2.2.2.2.2.1,x.2.2.2.2.2.2.1,x.2.2.2.2.2.2.2.2.1))))
def eT (n:Nat) (x:jN×jL×jW×Int×jL×jL×jC):Option (Bool) :=
 ((mY n (x.1,x.2.1)).bind fun r1=>(cond (!r1) (some false) (cond (decide (((x.2.2.1).length:Int)>(8:Int))) (some false) ((cr n (x.2.2.2.1,(0:Int),(8:Int))).bind fun r2=>(cond (!r2) (some false) ((lf n (x.2.2.2.2.1,(0:Int),(4:Int))).bind fun r3=>(cond (!r3) (some false) ((lf n (x.2.2.2.2.2.1,(0:Int),(IntKind.i64.wrap (((x.2.2.1).length:Int)-(1:Int))))).bind fun r4=>(cond (!r4) (some false) ((bk n n (x.1,x.2.1,x.2.2.1,x.2.2.2.1,x.2.2.2.2.1,x.2.2.2.2.2.1,x.2.2.2.2.2.2,((x.2.2.1).length:Int),(0:Int),(0:Int))).bind fun e7=>(match e7 with|Sum.inl a8=>(some a8)|Sum.inr b9=>((bh n n (b9.1,b9.2.1,b9.2.2.1,b9.2.2.2.1,b9.2.2.2.2.1,b9.2.2.2.2.2.1,b9.2.2.2.2.2.2.1,b9.2.2.2.2.2.2.2.1,b9.2.2.2.2.2.2.2.2,(0:Int))).bind fun e14=>(match e14 with|Sum.inl a15=>(some a15)|Sum.inr b16=>(some (((b16.2.2.2.2.2.2.1).length:Int)==b16.2.2.2.2.2.2.2)))))))))))))))
def OS (n:Nat):aa:={ pars:=[.g [.i bR, .i (.sl (.int .i64)), .i dW,jI, .i (.sl (.int .i64)), .i (.sl (.int .i64)), .i (.sl (.pr (.int .i64) (.pr .bool .bool)))]],gh:=[],nb:=[],res:=[(false,[jB])],g:=eT n }
def kF (n:Nat) (g:jN×jL×jW×Int×jL×jL×jC×Int×Int×Int→Option ((Bool)⊕(jN×jL×jW×Int×jL×jL×jC×Int×Int))):cI:={ ent:=[.box 1 [1,0] [.i bR, .i (.sl (.int .i64)), .i dW,jI, .i (.sl (.int .i64)), .i (.sl (.int .i64)), .i (.sl (.pr (.int .i64) (.pr .bool .bool)))], .val 3 (jI), .val 4 (jI), .val 5 (jI)],exs:=[(.ret,[.val 2 (jB)]),(.exit 0,[.box 1 [1,0] [.i bR, .i (.sl (.int .i64)), .i dW,jI, .i (.sl (.int .i64)), .i (.sl (.int .i64)), .i (.sl (.pr (.int .i64) (.pr .bool .bool)))], .val 3 (jI), .val 4 (jI)])],g:=g }
def j6 (n:Nat) (g:jN×jL×jW×Int×jL×jL×jC×Int×Int×Int×Int×Int→Option ((Bool)⊕(jN×jL×jW×Int×jL×jL×jC×Int×Int×Int))):cI:={ ent:=[.box 1 [1,0] [.i bR, .i (.sl (.int .i64)), .i dW,jI, .i (.sl (.int .i64)), .i (.sl (.int .i64)), .i (.sl (.pr (.int .i64) (.pr .bool .bool)))], .val 3 (jI), .val 4 (jI), .val 6 (jI), .val 7 (jI), .val 8 (jI)],exs:=[(.ret,[.val 2 (jB)]),(.exit 4,[.box 1 [1,0] [.i bR, .i (.sl (.int .i64)), .i dW,jI, .i (.sl (.int .i64)), .i (.sl (.int .i64)), .i (.sl (.pr (.int .i64) (.pr .bool .bool)))], .val 3 (jI), .val 4 (jI), .val 6 (jI)])],g:=g }
def j7 (n:Nat) (g:jN×jL×jW×Int×jL×jL×jC×Int×Int×Int→Option ((Bool)⊕(jN×jL×jW×Int×jL×jL×jC×Int))):cI:={ ent:=[.box 1 [1,0] [.i bR, .i (.sl (.int .i64)), .i dW,jI, .i (.sl (.int .i64)), .i (.sl (.int .i64)), .i (.sl (.pr (.int .i64) (.pr .bool .bool)))], .val 3 (jI), .val 4 (jI), .val 6 (jI)],exs:=[(.ret,[.val 2 (jB)]),(.exit 2,[.box 1 [1,0] [.i bR, .i (.sl (.int .i64)), .i dW,jI, .i (.sl (.int .i64)), .i (.sl (.int .i64)), .i (.sl (.pr (.int .i64) (.pr .bool .bool)))], .val 4 (jI)])],g:=g }
def W6 (n:Nat):List (Nat×aa):=[(46,UD n),(47,FR n),(48,UC n),(49,UB n),(50,LB n)]
def P9 (n:Nat):aK:={ τ:=τ,N:=124,Γ:=gl (W6 n) [],Λ:=(fun q=>match q with   | 6=>some (kF n (bk n n))   | 19=>some (j6 n (bG n n))   | 13=>some (j7 n (bh n n))  | _=>none) }
theorem th (n m:Nat) (x):bk n (m+1) x=cE (P9 n) (aC (aj Tryz.f29) 0) (kF n (bk n n)) (bk n m) x:=by kernel_rfl
theorem r0 (n m:Nat) (x):bG n (m+1) x=cE (P9 n) (aC (aj Tryz.f29) 2) (j6 n (bG n n)) (bG n m) x:=by kernel_rfl
theorem sd (n m:Nat) (x):bh n (m+1) x=cE (P9 n) (aC (aj Tryz.f29) 1) (j7 n (bh n n)) (bh n m) x:=by kernel_rfl
theorem TJ (n:Nat) (x):eT n x=ar (P9 n) Tryz.f29 (OS n) x:=by kernel_rfl
def kS (n:Nat) (x:Int):Option (Bool) :=
 ((cr n (x,(0:Int),(49:Int))).bind fun r1=>(some r1))
def Ue (n:Nat):aa:={ pars:=[.c (jI)],gh:=[],nb:=[],res:=[(false,[jB])],g:=kS n }
def Wh (n:Nat):List (Nat×aa):=[(47,FR n)]
def XD (n:Nat):aK:={ τ:=τ,N:=5,Γ:=gl (Wh n) [],Λ:=(fun q=>match q with  | _=>none) }
theorem SK (n:Nat) (x):kS n x=ar (XD n) Tryz.f79 (Ue n) x:=by kernel_rfl
def dB (n:Nat) (x:jN×(List Bool)×jL×Int):Option (Bool) :=
 ((dm n (x.1,(7:Int),x.2.2.2,(0:Int))).bind fun r1=>(cond (decide (r1≥(0:Int))) (cond (aY x.2.2.2 (x.2.1).length) (cond (x.2.1.getD (x.2.2.2).toNat false) (some true) ((dV n (x.2.2.1,r1)).bind fun r2=>(some r2))) none) (some false)))
def Ud (n:Nat):aa:={ pars:=[.g [.i bR], .c (.i (.sl .bool)), .c (.i (.sl (.int .i64))), .c (jI)],gh:=[],nb:=[],res:=[(false,[jB])],g:=dB n }
def Wf (n:Nat):List (Nat×aa):=[(96,OL n),(50,LB n)]
def XB (n:Nat):aK:={ τ:=τ,N:=27,Γ:=gl (Wf n) [],Λ:=(fun q=>match q with  | _=>none) }
theorem SI (n:Nat) (x):dB n x=ar (XB n) Tryz.f81 (Ud n) x:=by kernel_rfl
def lc (n:Nat) (x:jN×(List Bool)×Int×jL):Option (Bool) :=
 (cond (aY x.2.2.1 (x.1).length) (cond ((x.1.getD (x.2.2.1).toNat ((0:Int),((0:Int),(0:Int)))).1==(1:Int)) ((kS n (x.1.getD (x.2.2.1).toNat ((0:Int),((0:Int),(0:Int)))).2.1).bind fun r1=>(some r1)) ((eS n (x.1.getD (x.2.2.1).toNat ((0:Int),((0:Int),(0:Int)))).1).bind fun r2=>(cond (r2==(1:Int)) (cond (aY (x.1.getD (x.2.2.1).toNat ((0:Int),((0:Int),(0:Int)))).2.1 (x.2.1).length) (some (x.2.1.getD ((x.1.getD (x.2.2.1).toNat ((0:Int),((0:Int),(0:Int)))).2.1).toNat false)) none) (cond (aY (x.1.getD (x.2.2.1).toNat ((0:Int),((0:Int),(0:Int)))).2.1 (x.2.1).length) (cond (x.2.1.getD ((x.1.getD (x.2.2.1).toNat ((0:Int),((0:Int),(0:Int)))).2.1).toNat false) (cond (aY (x.1.getD (x.2.2.1).toNat ((0:Int),((0:Int),(0:Int)))).2.2 (x.2.1).length) (cond (x.2.1.getD ((x.1.getD (x.2.2.1).toNat ((0:Int),((0:Int),(0:Int)))).2.2).toNat false) (some true) (cond ((x.1.getD (x.2.2.1).toNat ((0:Int),((0:Int),(0:Int)))).1==(8:Int)) (cond (aY (x.1.getD (x.2.2.1).toNat ((0:Int),((0:Int),(0:Int)))).2.1 (x.2.1).length) (cond (x.2.1.getD ((x.1.getD (x.2.2.1).toNat ((0:Int),((0:Int),(0:Int)))).2.1).toNat false) ((dB n (x.1,x.2.1,x.2.2.2,(x.1.getD (x.2.2.1).toNat ((0:Int),((0:Int),(0:Int)))).2.2)).bind fun r3=>(cond r3 (some true) (cond (aY (x.1.getD (x.2.2.1).toNat ((0:Int),((0:Int),(0:Int)))).2.2 (x.2.1).length) (cond (x.2.1.getD ((x.1.getD (x.2.2.1).toNat ((0:Int),((0:Int),(0:Int)))).2.2).toNat false) ((dB n (x.1,x.2.1,x.2.2.2,(x.1.getD (x.2.2.1).toNat ((0:Int),((0:Int),(0:Int)))).2.1)).bind fun r4=>(some r4)) (some false)) none))) (cond (aY (x.1.getD (x.2.2.1).toNat ((0:Int),((0:Int),(0:Int)))).2.2 (x.2.1).length) (cond (x.2.1.getD ((x.1.getD (x.2.2.1).toNat ((0:Int),((0:Int),(0:Int)))).2.2).toNat false) ((dB n (x.1,x.2.1,x.2.2.2,(x.1.getD (x.2.2.1).toNat ((0:Int),((0:Int),(0:Int)))).2.1)).bind fun r5=>(some r5)) (some false)) none)) none) (some false))) none) (cond ((x.1.getD (x.2.2.1).toNat ((0:Int),((0:Int),(0:Int)))).1==(8:Int)) (cond (aY (x.1.getD (x.2.2.1).toNat ((0:Int),((0:Int),(0:Int)))).2.1 (x.2.1).length) (cond (x.2.1.getD ((x.1.getD (x.2.2.1).toNat ((0:Int),((0:Int),(0:Int)))).2.1).toNat false) ((dB n (x.1,x.2.1,x.2.2.2,(x.1.getD (x.2.2.1).toNat ((0:Int),((0:Int),(0:Int)))).2.2)).bind fun r6=>(cond r6 (some true) (cond (aY (x.1.getD (x.2.2.1).toNat ((0:Int),((0:Int),(0:Int)))).2.2 (x.2.1).length) (cond (x.2.1.getD ((x.1.getD (x.2.2.1).toNat ((0:Int),((0:Int),(0:Int)))).2.2).toNat false) ((dB n (x.1,x.2.1,x.2.2.2,(x.1.getD (x.2.2.1).toNat ((0:Int),((0:Int),(0:Int)))).2.1)).bind fun r7=>(some r7)) (some false)) none))) (cond (aY (x.1.getD (x.2.2.1).toNat ((0:Int),((0:Int),(0:Int)))).2.2 (x.2.1).length) (cond (x.2.1.getD ((x.1.getD (x.2.2.1).toNat ((0:Int),((0:Int),(0:Int)))).2.2).toNat false) ((dB n (x.1,x.2.1,x.2.2.2,(x.1.getD (x.2.2.1).toNat ((0:Int),((0:Int),(0:Int)))).2.1)).bind fun r8=>(some r8)) (some false)) none)) none) (some false))) none)))) none)
def Uz (n:Nat):aa:={ pars:=[.g [.i bR], .c (.i (.sl .bool)), .c (jI), .c (.i (.sl (.int .i64)))],gh:=[],nb:=[],res:=[(false,[jB])],g:=lc n }
def WI (n:Nat):List (Nat×aa):=[(79,Ue n),(80,ON n),(81,Ud n)]
def XR (n:Nat):aK:={ τ:=τ,N:=77,Γ:=gl (WI n) [],Λ:=(fun q=>match q with  | _=>none) }
theorem Ti (n:Nat) (x):lc n x=ar (XR n) Tryz.f52 (Uz n) x:=by kernel_rfl
def ci (n:Nat):Nat→jL×jN×(List Bool)×Int→Option ((List Bool))
 |0,_=>none
 |m+1,x=>(cond (decide (x.2.2.2<((x.2.1).length:Int))) ((dV n (x.1,x.2.2.2)).bind fun r1=>(cond r1 (cond (co ((x.2.2.1).length+([true]).length)) (ci n m (x.1,x.2.1,(x.2.2.1++[true]),(IntKind.i64.wrap (x.2.2.2+(1:Int))))) none) ((lc n (x.2.1,x.2.2.1,x.2.2.2,x.1)).bind fun r2=>(cond (co ((x.2.2.1).length+([r2]).length)) (ci n m (x.1,x.2.1,(x.2.2.1++[r2]),(IntKind.i64.wrap (x.2.2.2+(1:Int))))) none)))) (some x.2.2.1))
def iZ (n:Nat) (x:jN×jL):Option ((List Bool)) :=
 ((ci n n (x.2,x.1,([]:List Bool),(0:Int))).bind fun e3=>(some e3))
def Q1 (n:Nat):aa:={ pars:=[.g [.i bR], .c (.i (.sl (.int .i64)))],gh:=[],nb:=[],res:=[(false,[.i (.sl .bool)])],g:=iZ n }
def mE (n:Nat) (g:jL×jN×(List Bool)×Int→Option ((List Bool))):cI:={ ent:=[.val 1 (.i (.sl (.int .i64))), .box 2 [2,0] [.i bR], .val 5 (.o 4 .bool), .val 6 (jI)],exs:=[(.exit 0,[.val 5 (.o 4 .bool)])],g:=g }
def W4 (n:Nat):List (Nat×aa):=[(50,LB n),(52,Uz n)]
def Vs (n:Nat):aK:={ τ:=τ,N:=29,Γ:=gl (W4 n) [],Λ:=(fun q=>match q with   | 3=>some (mE n (ci n n))  | _=>none) }
theorem vC (n m:Nat) (x):ci n (m+1) x=cE (Vs n) (aC (aj Tryz.f31) 0) (mE n (ci n n)) (ci n m) x:=by kernel_rfl
theorem TG (n:Nat) (x):iZ n x=ar (Vs n) Tryz.f31 (Q1 n) x:=by kernel_rfl
def bP (n:Nat):Nat→jL×Int×jL×Bool×Int→Option (Int×jL×Bool)
 |0,_=>none
 |m+1,x=>(cond (decide (x.2.2.2.2<((x.1).length:Int))) (cond (!x.2.2.2.1) (cond (aY x.2.2.2.2 (x.1).length) (cond (decide ((x.1.getD (x.2.2.2.2).toNat (0:Int))>x.2.1)) (cond (co ((x.2.2.1).length+([x.2.1]).length)) (cond (aY x.2.2.2.2 (x.1).length) (cond (co (((x.2.2.1++[x.2.1])).length+([(x.1.getD (x.2.2.2.2).toNat (0:Int))]).length)) (bP n m (x.1,x.2.1,((x.2.2.1++[x.2.1])++[(x.1.getD (x.2.2.2.2).toNat (0:Int))]),true,(IntKind.i64.wrap (x.2.2.2.2+(1:Int))))) none) none) none) (cond (aY x.2.2.2.2 (x.1).length) (cond (co ((x.2.2.1).length+([(x.1.getD (x.2.2.2.2).toNat (0:Int))]).length)) (bP n m (x.1,x.2.1,(x.2.2.1++[(x.1.getD (x.2.2.2.2).toNat (0:Int))]),x.2.2.2.1,(IntKind.i64.wrap (x.2.2.2.2+(1:Int))))) none) none)) none) (cond (aY x.2.2.2.2 (x.1).length) (cond (co ((x.2.2.1).length+([(x.1.getD (x.2.2.2.2).toNat (0:Int))]).length)) (bP n m (x.1,x.2.1,(x.2.2.1++[(x.1.getD (x.2.2.2.2).toNat (0:Int))]),x.2.2.2.1,(IntKind.i64.wrap (x.2.2.2.2+(1:Int))))) none) none)) (some (x.2.1,x.2.2.1,x.2.2.2.1)))
def gO (n:Nat) (x:jL×Int):Option (jL) :=
 ((dV n (x.1,x.2)).bind fun r1=>((bP n n (x.1,x.2,([]:List Int),r1,(0:Int))).bind fun e2=>(cond (!e2.2.2) (cond (co ((e2.2.1).length+([e2.1]).length)) (some (e2.2.1++[e2.1])) none) (some e2.2.1))))
def Uf (n:Nat):aa:={ pars:=[.c (.i (.sl (.int .i64))), .c (jI)],gh:=[],nb:=[],res:=[(false,[.i (.sl (.int .i64))])],g:=gO n }
def mF (n:Nat) (g:jL×Int×jL×Bool×Int→Option (Int×jL×Bool)):cI:={ ent:=[.val 0 (.i (.sl (.int .i64))), .val 1 (jI), .val 5 (jO), .val 6 (jB), .val 7 (jI)],exs:=[(.exit 0,[.val 1 (jI), .val 5 (jO), .val 6 (jB)])],g:=g }
def Wi (n:Nat):List (Nat×aa):=[(50,LB n)]
def Vc (n:Nat):aK:={ τ:=τ,N:=46,Γ:=gl (Wi n) [],Λ:=(fun q=>match q with   | 4=>some (mF n (bP n n))  | _=>none) }
theorem vD (n m:Nat) (x):bP n (m+1) x=cE (Vc n) (aC (aj Tryz.f78) 0) (mF n (bP n n)) (bP n m) x:=by kernel_rfl
theorem SL (n:Nat) (x):gO n x=ar (Vc n) Tryz.f78 (Uf n) x:=by kernel_rfl
def js (n:Nat) (x:jL×jN×(List Bool)×jL×Int):Option (jL×jN×(List Bool)×jL×Int×Int×Int×Int) :=
 (cond (aY x.2.2.2.2 (x.1).length) (cond (aY (x.1.getD (x.2.2.2.2).toNat (0:Int)) (x.2.1).length) (some (x.1,x.2.1,x.2.2.1,x.2.2.2.1,x.2.2.2.2,(x.2.1.getD ((x.1.getD (x.2.2.2.2).toNat (0:Int))).toNat ((0:Int),((0:Int),(0:Int)))).1,(x.2.1.getD ((x.1.getD (x.2.2.2.2).toNat (0:Int))).toNat ((0:Int),((0:Int),(0:Int)))).2.1,(x.2.1.getD ((x.1.getD (x.2.2.2.2).toNat (0:Int))).toNat ((0:Int),((0:Int),(0:Int)))).2.2)) none) none)
def bg (n:Nat):Nat→jL×jN×(List Bool)×jL×Int→Option (jL)
 |0,_=>none
 |m+1,x=>(cond (decide (x.2.2.2.2<((x.1).length:Int))) ((js n (x.1,x.2.1,x.2.2.1,x.2.2.2.1,x.2.2.2.2)).bind fun g2=>(cond (g2.2.2.2.2.2.1==(2:Int)) ((gO n (g2.2.2.2.1,g2.2.2.2.2.2.2.1)).bind fun r3=>((gO n (r3,g2.2.2.2.2.2.2.2)).bind fun r4=>(bg n m (g2.1,g2.2.1,g2.2.2.1,r4,(IntKind.i64.wrap (g2.2.2.2.2.1+(1:Int))))))) (cond (g2.2.2.2.2.2.1==(4:Int)) ((gO n (g2.2.2.2.1,g2.2.2.2.2.2.2.1)).bind fun r5=>(bg n m (g2.1,g2.2.1,g2.2.2.1,r5,(IntKind.i64.wrap (g2.2.2.2.2.1+(1:Int)))))) (cond (g2.2.2.2.2.2.1==(3:Int)) (cond (aY g2.2.2.2.2.2.2.2 (g2.2.2.1).length) (cond (g2.2.2.1.getD (g2.2.2.2.2.2.2.2).toNat false) ((gO n (g2.2.2.2.1,g2.2.2.2.2.2.2.1)).bind fun r6=>(bg n m (g2.1,g2.2.1,g2.2.2.1,r6,(IntKind.i64.wrap (g2.2.2.2.2.1+(1:Int)))))) (bg n m (g2.1,g2.2.1,g2.2.2.1,g2.2.2.2.1,(IntKind.i64.wrap (g2.2.2.2.2.1+(1:Int)))))) none) (bg n m (g2.1,g2.2.1,g2.2.2.1,g2.2.2.2.1,(IntKind.i64.wrap (g2.2.2.2.2.1+(1:Int))))))))) (some x.2.2.2.1))
def lb (n:Nat) (x:jN×jL):Option (jL×Bool) :=
 ((iZ n (x.1,x.2)).bind fun r1=>(cond (co ((([]:List Int)).length+(x.2).length)) ((bg n n (x.2,x.1,r1,(([]:List Int)++x.2),(0:Int))).bind fun e7=>(some (e7,(decide (((e7).length:Int)≤(200:Int)))))) none))
def UA (n:Nat):aa:={ pars:=[.g [.i bR], .c (.i (.sl (.int .i64)))],gh:=[],nb:=[],res:=[(false,[.i (.sl (.int .i64))]),(false,[jB])],g:=lb n }
def lJ (n:Nat) (g:jL×jN×(List Bool)×jL×Int→Option (jL)):cI:={ ent:=[.val 1 (.i (.sl (.int .i64))), .box 2 [2,0] [.i bR], .val 6 (.i (.sl .bool)), .val 7 (.i (.sl (.int .i64))), .val 8 (jI)],exs:=[(.exit 0,[.val 7 (.i (.sl (.int .i64)))])],g:=g }
def WJ (n:Nat):List (Nat×aa):=[(31,Q1 n),(78,Uf n)]
def oY (n:Nat) (g:jL×jN×(List Bool)×jL×Int→Option (jL×jN×(List Bool)×jL×Int×Int×Int×Int)):iw:={ ent:=[.val 1 (.i (.sl (.int .i64))), .box 2 [2,0] [.i bR], .val 6 (.i (.sl .bool)), .val 7 (.i (.sl (.int .i64))), .val 8 (jI)],out:=[.val 1 (.i (.sl (.int .i64))), .box 2 [2,0] [.i bR], .val 6 (.i (.sl .bool)), .val 7 (.i (.sl (.int .i64))), .val 8 (jI), .box 9 [9,0] [jI,jI,jI]],g:=g }
def VT (n:Nat):List (Nat×iw):=[(6,oY n (js n))]
def P7 (n:Nat):aK:={ τ:=τ,N:=65,Γ:=gl (WJ n) [],Λ:=(fun q=>match q with   | 4=>some (lJ n (bg n n))  | _=>none),Ω:=Cc (VT n) }
theorem uj (n:Nat):JT true (P7 n) (aj Tryz.f51) 6 [8,0,1,2,3,4,5,6,7,9] (oY n (js n)):=fun x=>by kernel_rfl
theorem ut (n m:Nat) (x):bg n (m+1) x=cE (P7 n) (aC (aj Tryz.f51) 0) (lJ n (bg n n)) (bg n m) x:=by kernel_rfl
theorem Tj (n:Nat) (x):lb n x=ar (P7 n) Tryz.f51 (UA n) x:=by kernel_rfl
def cZ (n:Nat):Nat→jN×jL×Int→Option (jL×Int)
 |0,_=>none
 |m+1,x=>((lb n (x.1,x.2.1)).bind fun r1=>(cond (!r1.2) (some (x.2.1,x.2.2)) (cond (((r1.1).length:Int)==((x.2.1).length:Int)) (some (x.2.1,x.2.2)) (cZ n m (x.1,r1.1,(IntKind.i64.wrap (x.2.2+(1:Int))))))))
def ml (n:Nat) (x:jN×jL):Option (jL×Int) :=
 (cond (co ((([]:List Int)).length+(x.2).length)) ((cZ n n (x.1,(([]:List Int)++x.2),(0:Int))).bind fun e2=>(some (e2.1,e2.2))) none)
def UN (n:Nat):aa:={ pars:=[.g [.i bR], .c (.i (.sl (.int .i64)))],gh:=[],nb:=[],res:=[(false,[.i (.sl (.int .i64))]),(false,[jI])],g:=ml n }
def mD (n:Nat) (g:jN×jL×Int→Option (jL×Int)):cI:={ ent:=[.box 2 [2,0] [.i bR], .val 6 (.i (.sl (.int .i64))), .val 7 (jI)],exs:=[(.ret,[.val 4 (.i (.sl (.int .i64))), .val 5 (jI)])],g:=g }
def W5 (n:Nat):List (Nat×aa):=[(51,UA n)]
def Vt (n:Nat):aK:={ τ:=τ,N:=33,Γ:=gl (W5 n) [],Λ:=(fun q=>match q with   | 3=>some (mD n (cZ n n))  | _=>none) }
theorem vB (n m:Nat) (x):cZ n (m+1) x=cE (Vt n) (aC (aj Tryz.f30) 0) (mD n (cZ n n)) (cZ n m) x:=by kernel_rfl
theorem TH (n:Nat) (x):ml n x=ar (Vt n) Tryz.f30 (UN n) x:=by kernel_rfl
def bF (n:Nat):Nat→Int×jN×jL×jW×Int×jL×jL×jC×Int×Bool×Bool×Int→Option ((Int×Bool×Bool×Bool)⊕(Int×Bool×Bool))
 |0,_=>none
 |m+1,x=>(cond (decide (x.2.2.2.2.2.2.2.2.2.2.2<((x.2.2.2.2.2.2.2.1).length:Int))) (cond (aY x.2.2.2.2.2.2.2.2.2.2.2 (x.2.2.2.2.2.2.2.1).length) (cond ((x.2.2.2.2.2.2.2.1.getD (x.2.2.2.2.2.2.2.2.2.2.2).toNat ((0:Int),(false,false))).1==x.1) (cond (aY x.2.2.2.2.2.2.2.2.2.2.2 (x.2.2.2.2.2.2.2.1).length) (some (Sum.inl ((x.2.2.2.2.2.2.2.1.getD (x.2.2.2.2.2.2.2.2.2.2.2).toNat ((0:Int),(false,false))).1,(x.2.2.2.2.2.2.2.1.getD (x.2.2.2.2.2.2.2.2.2.2.2).toNat ((0:Int),(false,false))).2.1,(x.2.2.2.2.2.2.2.1.getD (x.2.2.2.2.2.2.2.2.2.2.2).toNat ((0:Int),(false,false))).2.2,true))) none) (bF n m (x.1,x.2.1,x.2.2.1,x.2.2.2.1,x.2.2.2.2.1,x.2.2.2.2.2.1,x.2.2.2.2.2.2.1,x.2.2.2.2.2.2.2.1,x.2.2.2.2.2.2.2.2.1,x.2.2.2.2.2.2.2.2.2.1,x.2.2.2.2.2.2.2.2.2.2.1,(IntKind.i64.wrap (x.2.2.2.2.2.2.2.2.2.2.2+(1:Int)))))) none) (some (Sum.inr (x.2.2.2.2.2.2.2.2.1,x.2.2.2.2.2.2.2.2.2.1,x.2.2.2.2.2.2.2.2.2.2.1))))
def iK (n:Nat) (x:jN×jL×jW×Int×jL×jL×jC×Int):Option (Int×Bool×Bool×Bool) :=
 ((bF n n (x.2.2.2.2.2.2.2,x.1,x.2.1,x.2.2.1,x.2.2.2.1,x.2.2.2.2.1,x.2.2.2.2.2.1,x.2.2.2.2.2.2.1,(0:Int),false,false,(0:Int))).bind fun e1=>(match e1 with|Sum.inl a2=>(some (a2.1,a2.2.1,a2.2.2.1,a2.2.2.2))|Sum.inr b3=>(some ((0:Int),false,false,false))))
def Ux (n:Nat):aa:={ pars:=[.g [.i bR, .i (.sl (.int .i64)), .i dW,jI, .i (.sl (.int .i64)), .i (.sl (.int .i64)), .i (.sl (.pr (.int .i64) (.pr .bool .bool)))], .c (jI)],gh:=[],nb:=[],res:=[(true,[jI,jB,jB]),(false,[jB])],g:=iK n }
def j5 (n:Nat) (g:Int×jN×jL×jW×Int×jL×jL×jC×Int×Bool×Bool×Int→Option ((Int×Bool×Bool×Bool)⊕(Int×Bool×Bool))):cI:={ ent:=[.val 1 (jI), .box 2 [2,0] [.i bR, .i (.sl (.int .i64)), .i dW,jI, .i (.sl (.int .i64)), .i (.sl (.int .i64)), .i (.sl (.pr (.int .i64) (.pr .bool .bool)))], .box 4 [4,0] [jI,jB,jB], .val 6 (jI)],exs:=[(.ret,[.box 4 [4,0] [jI,jB,jB], .val 5 (jB)]),(.exit 0,[.box 4 [4,0] [jI,jB,jB]])],g:=g }
def WG (n:Nat):List (Nat×aa):=[]
def Vk (n:Nat):aK:={ τ:=τ,N:=28,Γ:=gl (WG n) [],Λ:=(fun q=>match q with   | 2=>some (j5 n (bF n n))  | _=>none) }
theorem rZ (n m:Nat) (x):bF n (m+1) x=cE (Vk n) (aC (aj Tryz.f54) 0) (j5 n (bF n n)) (bF n m) x:=by kernel_rfl
theorem Tg (n:Nat) (x):iK n x=ar (Vk n) Tryz.f54 (Ux n) x:=by kernel_rfl
def dp (n:Nat) (x:jN×jL×jW×Int×jL×jL×jC×Int):Option (Bool) :=
 ((iK n (x.1,x.2.1,x.2.2.1,x.2.2.2.1,x.2.2.2.2.1,x.2.2.2.2.2.1,x.2.2.2.2.2.2.1,x.2.2.2.2.2.2.2)).bind fun r1=>(cond r1.2.2.2 (cond (!r1.2.1) (cond (aY x.2.2.2.2.2.2.2 (x.2.2.1).length) (cond ((x.2.2.1.getD (x.2.2.2.2.2.2.2).toNat ((0:Int),((0:Int),((0:Int),((0:Int),((0:Int),([],(false,(false,(0:Int)))))))))).1 != (2:Int)) (some true) (some (!r1.2.2.1))) none) (some false)) (some false)))
def OR (n:Nat):aa:={ pars:=[.g [.i bR, .i (.sl (.int .i64)), .i dW,jI, .i (.sl (.int .i64)), .i (.sl (.int .i64)), .i (.sl (.pr (.int .i64) (.pr .bool .bool)))], .c (jI)],gh:=[],nb:=[],res:=[(false,[jB])],g:=dp n }
def W2 (n:Nat):List (Nat×aa):=[(54,Ux n)]
def X4 (n:Nat):aK:={ τ:=τ,N:=33,Γ:=gl (W2 n) [],Λ:=(fun q=>match q with  | _=>none) }
theorem TE (n:Nat) (x):dp n x=ar (X4 n) Tryz.f33 (OR n) x:=by kernel_rfl
def bv (n:Nat):Nat→Int×jN×jL×jW×Int×jL×jL×jC×Int→Option ((Bool)⊕(Unit))
 |0,_=>none
 |m+1,x=>(cond (decide (x.2.2.2.2.2.2.2.2<((x.2.2.2.2.2.2.1).length:Int))) (cond (aY x.2.2.2.2.2.2.2.2 (x.2.2.2.2.2.2.1).length) (cond (aY (x.2.2.2.2.2.2.1.getD (x.2.2.2.2.2.2.2.2).toNat (0:Int)) (x.2.2.2.1).length) (cond (aY x.1 (x.2.2.2.1).length) (cond ((x.2.2.2.1.getD ((x.2.2.2.2.2.2.1.getD (x.2.2.2.2.2.2.2.2).toNat (0:Int))).toNat ((0:Int),((0:Int),((0:Int),((0:Int),((0:Int),([],(false,(false,(0:Int)))))))))).2.2.2.2.2.2.2.2==(x.2.2.2.1.getD (x.1).toNat ((0:Int),((0:Int),((0:Int),((0:Int),((0:Int),([],(false,(false,(0:Int)))))))))).2.2.2.2.2.2.2.2) (some (Sum.inl true)) (bv n m (x.1,x.2.1,x.2.2.1,x.2.2.2.1,x.2.2.2.2.1,x.2.2.2.2.2.1,x.2.2.2.2.2.2.1,x.2.2.2.2.2.2.2.1,(IntKind.i64.wrap (x.2.2.2.2.2.2.2.2+(1:Int)))))) none) none) none) (some (Sum.inr ())))
def iJ (n:Nat) (x:jN×jL×jW×Int×jL×jL×jC×Int):Option (Bool) :=
 ((cr n (x.2.2.2.2.2.2.2,(0:Int),(IntKind.i64.wrap (((x.2.2.1).length:Int)-(1:Int))))).bind fun r1=>(cond (!r1) (some false) (cond (aY x.2.2.2.2.2.2.2 (x.2.2.1).length) (cond (!(x.2.2.1.getD (x.2.2.2.2.2.2.2).toNat ((0:Int),((0:Int),((0:Int),((0:Int),((0:Int),([],(false,(false,(0:Int)))))))))).2.2.2.2.2.2.1) (some false) ((bv n n (x.2.2.2.2.2.2.2,x.1,x.2.1,x.2.2.1,x.2.2.2.1,x.2.2.2.2.1,x.2.2.2.2.2.1,x.2.2.2.2.2.2.1,(0:Int))).bind fun e2=>(match e2 with|Sum.inl a3=>(some a3)|Sum.inr b4=>(some false)))) none)))
def Uy (n:Nat):aa:={ pars:=[.g [.i bR, .i (.sl (.int .i64)), .i dW,jI, .i (.sl (.int .i64)), .i (.sl (.int .i64)), .i (.sl (.pr (.int .i64) (.pr .bool .bool)))], .c (jI)],gh:=[],nb:=[],res:=[(false,[jB])],g:=iJ n }
def j4 (n:Nat) (g:Int×jN×jL×jW×Int×jL×jL×jC×Int→Option ((Bool)⊕(Unit))):cI:={ ent:=[.val 1 (jI), .box 2 [2,0] [.i bR, .i (.sl (.int .i64)), .i dW,jI, .i (.sl (.int .i64)), .i (.sl (.int .i64)), .i (.sl (.pr (.int .i64) (.pr .bool .bool)))], .val 5 (jI)],exs:=[(.ret,[.val 4 (jB)]),(.exit 0,[])],g:=g }
def WH (n:Nat):List (Nat×aa):=[(47,FR n)]
def Vl (n:Nat):aK:={ τ:=τ,N:=46,Γ:=gl (WH n) [],Λ:=(fun q=>match q with   | 4=>some (j4 n (bv n n))  | _=>none) }
theorem rY (n m:Nat) (x):bv n (m+1) x=cE (Vl n) (aC (aj Tryz.f53) 0) (j4 n (bv n n)) (bv n m) x:=by kernel_rfl
theorem Th (n:Nat) (x):iJ n x=ar (Vl n) Tryz.f53 (Uy n) x:=by kernel_rfl
def gQ (n:Nat) (x:jN×jL×jW×Int×jL×jL×jC×Int):Option (Bool) :=
 ((dp n (x.1,x.2.1,x.2.2.1,x.2.2.2.1,x.2.2.2.2.1,x.2.2.2.2.2.1,x.2.2.2.2.2.2.1,x.2.2.2.2.2.2.2)).bind fun r1=>(cond (!r1) (some false) ((iJ n (x.1,x.2.1,x.2.2.1,x.2.2.2.1,x.2.2.2.2.1,x.2.2.2.2.2.1,x.2.2.2.2.2.2.1,x.2.2.2.2.2.2.2)).bind fun r2=>(cond r2 (some false) (cond (aY x.2.2.2.2.2.2.2 (x.2.2.1).length) (cond ((x.2.2.1.getD (x.2.2.2.2.2.2.2).toNat ((0:Int),((0:Int),((0:Int),((0:Int),((0:Int),([],(false,(false,(0:Int)))))))))).1==(1:Int)) (some true) ((dV n (x.2.2.2.2.1,(x.2.2.1.getD (x.2.2.2.2.2.2.2).toNat ((0:Int),((0:Int),((0:Int),((0:Int),((0:Int),([],(false,(false,(0:Int)))))))))).2.2.1)).bind fun r3=>(cond (!r3) ((dV n (x.2.2.2.2.1,(x.2.2.1.getD (x.2.2.2.2.2.2.2).toNat ((0:Int),((0:Int),((0:Int),((0:Int),((0:Int),([],(false,(false,(0:Int)))))))))).2.2.2.1)).bind fun r4=>(some (!r4))) (some false)))) none)))))
def UM (n:Nat):aa:={ pars:=[.g [.i bR, .i (.sl (.int .i64)), .i dW,jI, .i (.sl (.int .i64)), .i (.sl (.int .i64)), .i (.sl (.pr (.int .i64) (.pr .bool .bool)))], .c (jI)],gh:=[],nb:=[],res:=[(false,[jB])],g:=gQ n }
def W3 (n:Nat):List (Nat×aa):=[(33,OR n),(53,Uy n),(50,LB n)]
def X5 (n:Nat):aK:={ τ:=τ,N:=39,Γ:=gl (W3 n) [],Λ:=(fun q=>match q with  | _=>none) }
theorem TF (n:Nat) (x):gQ n x=ar (X5 n) Tryz.f32 (UM n) x:=by kernel_rfl
def aS (n:Nat):Nat→jN×jL×jW×Int×jL×jL×jC×(List Bool)×Int→Option ((Bool)⊕(Unit))
 |0,_=>none
 |m+1,x=>(cond (decide (x.2.2.2.2.2.2.2.2<((x.2.2.1).length:Int))) ((gQ n (x.1,x.2.1,x.2.2.1,x.2.2.2.1,x.2.2.2.2.1,x.2.2.2.2.2.1,x.2.2.2.2.2.2.1,x.2.2.2.2.2.2.2.2)).bind fun r4=>(cond r4 (cond (aY x.2.2.2.2.2.2.2.2 (x.2.2.1).length) (cond (aY (x.2.2.1.getD (x.2.2.2.2.2.2.2.2).toNat ((0:Int),((0:Int),((0:Int),((0:Int),((0:Int),([],(false,(false,(0:Int)))))))))).2.2.2.2.2.2.2.2 (x.2.2.2.2.2.2.2.1).length) (cond (x.2.2.2.2.2.2.2.1.getD ((x.2.2.1.getD (x.2.2.2.2.2.2.2.2).toNat ((0:Int),((0:Int),((0:Int),((0:Int),((0:Int),([],(false,(false,(0:Int)))))))))).2.2.2.2.2.2.2.2).toNat false) (some (Sum.inl false)) (aS n m (x.1,x.2.1,x.2.2.1,x.2.2.2.1,x.2.2.2.2.1,x.2.2.2.2.2.1,x.2.2.2.2.2.2.1,x.2.2.2.2.2.2.2.1,(IntKind.i64.wrap (x.2.2.2.2.2.2.2.2+(1:Int)))))) none) none) (aS n m (x.1,x.2.1,x.2.2.1,x.2.2.2.1,x.2.2.2.2.1,x.2.2.2.2.2.1,x.2.2.2.2.2.2.1,x.2.2.2.2.2.2.2.1,(IntKind.i64.wrap (x.2.2.2.2.2.2.2.2+(1:Int))))))) (some (Sum.inr ())))
def fw (n:Nat) (x:jN×jL×jW×Int×jL×jL×jC):Option (Bool) :=
 ((eT n (x.1,x.2.1,x.2.2.1,x.2.2.2.1,x.2.2.2.2.1,x.2.2.2.2.2.1,x.2.2.2.2.2.2)).bind fun r1=>(cond (!r1) (some false) ((ml n (x.1,x.2.1)).bind fun r2=>((iZ n (x.1,r2.1)).bind fun r3=>((aS n n (x.1,x.2.1,x.2.2.1,x.2.2.2.1,x.2.2.2.2.1,x.2.2.2.2.2.1,x.2.2.2.2.2.2,r3,(0:Int))).bind fun e5=>(match e5 with|Sum.inl a6=>(some a6)|Sum.inr b7=>(some true)))))))
def U1 (n:Nat):aa:={ pars:=[.g [.i bR, .i (.sl (.int .i64)), .i dW,jI, .i (.sl (.int .i64)), .i (.sl (.int .i64)), .i (.sl (.pr (.int .i64) (.pr .bool .bool)))]],gh:=[],nb:=[],res:=[(false,[jB])],g:=fw n }
def ig (n:Nat) (g:jN×jL×jW×Int×jL×jL×jC×(List Bool)×Int→Option ((Bool)⊕(Unit))):cI:={ ent:=[.box 1 [1,0] [.i bR, .i (.sl (.int .i64)), .i dW,jI, .i (.sl (.int .i64)), .i (.sl (.int .i64)), .i (.sl (.pr (.int .i64) (.pr .bool .bool)))], .val 5 (.i (.sl .bool)), .val 6 (jI)],exs:=[(.ret,[.val 2 (jB)]),(.exit 0,[])],g:=g }
def Xm (n:Nat):List (Nat×aa):=[(29,OS n),(30,UN n),(31,Q1 n),(32,UM n)]
def VD (n:Nat):aK:={ τ:=τ,N:=43,Γ:=gl (Xm n) [],Λ:=(fun q=>match q with   | 6=>some (ig n (aS n n))  | _=>none) }
theorem pc (n m:Nat) (x):aS n (m+1) x=cE (VD n) (aC (aj Tryz.f13) 0) (ig n (aS n n)) (aS n m) x:=by kernel_rfl
theorem T0 (n:Nat) (x):fw n x=ar (VD n) Tryz.f13 (U1 n) x:=by kernel_rfl
def fQ (n:Nat) (x:jN):Option (jN) :=
 (cond (co ((([]:List (Int×(Int×Int)))).length+(x).length)) (some (([]:List (Int×(Int×Int)))++x)) none)
def LX (n:Nat):aa:={ pars:=[.g [.i bR]],gh:=[],nb:=[],res:=[(true,[rt])],g:=fQ n }
def PH (n:Nat):List (Nat×aa):=[]
def QA (n:Nat):aK:={ τ:=τ,N:=8,Γ:=gl (PH n) [],Λ:=(fun q=>match q with  | _=>none) }
theorem Ok (n:Nat) (x):fQ n x=ar (QA n) Tryz.f126 (LX n) x:=by kernel_rfl
def fu (n:Nat) (x:jN×jN×jN):Option (jN×Int) :=
 (some (x.2.2,((x.1).length:Int)))
def dc (n:Nat) (x:jN×Int×Int×Int):Option (jN×Int) :=
 (cond (x.2.1==(8:Int)) (cond (decide (x.2.2.1>x.2.2.2)) ((dm n (x.1,x.2.1,x.2.2.2,x.2.2.1)).bind fun r1=>(cond (decide (r1≥(0:Int))) (some (x.1,r1)) ((dU n (x.2.1,x.2.2.2,x.2.2.1,((x.1).length:Int))).bind fun r2=>(cond (!r2) (some (x.1,(-1:Int))) (cond (((x.1).length:Int)==(500:Int)) (some (x.1,(-1:Int))) ((fQ n x.1).bind fun r3=>(cond (co ((r3).length+([(x.2.1,(x.2.2.2,x.2.2.1))]).length)) ((fu n (x.1,[],(r3++[(x.2.1,(x.2.2.2,x.2.2.1))]))).bind fun g4=>(some (g4.1,g4.2))) none))))))) ((dm n (x.1,x.2.1,x.2.2.1,x.2.2.2)).bind fun r5=>(cond (decide (r5≥(0:Int))) (some (x.1,r5)) ((dU n (x.2.1,x.2.2.1,x.2.2.2,((x.1).length:Int))).bind fun r6=>(cond (!r6) (some (x.1,(-1:Int))) (cond (((x.1).length:Int)==(500:Int)) (some (x.1,(-1:Int))) ((fQ n x.1).bind fun r7=>(cond (co ((r7).length+([(x.2.1,(x.2.2.1,x.2.2.2))]).length)) ((fu n (x.1,[],(r7++[(x.2.1,(x.2.2.1,x.2.2.2))]))).bind fun g8=>(some (g8.1,g8.2))) none)))))))) ((dm n (x.1,x.2.1,x.2.2.1,x.2.2.2)).bind fun r9=>(cond (decide (r9≥(0:Int))) (some (x.1,r9)) ((dU n (x.2.1,x.2.2.1,x.2.2.2,((x.1).length:Int))).bind fun r10=>(cond (!r10) (some (x.1,(-1:Int))) (cond (((x.1).length:Int)==(500:Int)) (some (x.1,(-1:Int))) ((fQ n x.1).bind fun r11=>(cond (co ((r11).length+([(x.2.1,(x.2.2.1,x.2.2.2))]).length)) ((fu n (x.1,[],(r11++[(x.2.1,(x.2.2.1,x.2.2.2))]))).bind fun g12=>(some (g12.1,g12.2))) none))))))))
def FN (n:Nat):aa:={ pars:=[.g [.i bR], .g [jI,jI,jI]],gh:=[],nb:=[],res:=[(true,[.i bR]),(false,[jI])],g:=dc n }
def P2 (n:Nat):List (Nat×aa):=[(96,OL n),(95,QT n),(126,LX n)]
def oZ (n:Nat) (g:jN×jN×jN→Option (jN×Int)):iw:={ ent:=[.box 2 [2,0] [.i bR], .box 4 [4,0] [rt], .box 7 [7,0] [rt]],out:=[.box 4 [4,0] [rt], .val 5 (jI)],g:=g }
def O5 (n:Nat):List (Nat×iw):=[(10,oZ n (fu n))]
def JW (n:Nat):aK:={ τ:=τ,N:=57,Γ:=gl (P2 n) [],Λ:=(fun q=>match q with  | _=>none),Ω:=Cc (O5 n) }
theorem uk (n:Nat):JT true (JW n) (aj Tryz.f102) 10 [0,1,2,3,4,5] (oZ n (fu n)):=fun x=>by kernel_rfl
theorem OH (n:Nat) (x):dc n x=ar (JW n) Tryz.f102 (FN n) x:=by kernel_rfl
def fP (n:Nat) (x:jN×Int):Option (jN×Int) :=
 ((dc n (x.1,(1:Int),x.2,(0:Int))).bind fun r1=>(some (r1.1,r1.2)))
def JS (n:Nat):aa:={ pars:=[.g [.i bR], .c (jI)],gh:=[],nb:=[],res:=[(true,[.i bR]),(false,[jI])],g:=fP n }
def P4 (n:Nat):List (Nat×aa):=[(102,FN n)]
def QN (n:Nat):aK:={ τ:=τ,N:=12,Γ:=gl (P4 n) [],Λ:=(fun q=>match q with  | _=>none) }
theorem OJ (n:Nat) (x):fP n x=ar (QN n) Tryz.f100 (JS n) x:=by kernel_rfl
def dT (n:Nat) (x:jN×Int×Int):Option (jN×Int) :=
 ((fh n (x.1,x.2.1)).bind fun r1=>(cond (!r1) (some (x.1,(-1:Int))) ((fh n (x.1,x.2.2)).bind fun r2=>(cond (!r2) (some (x.1,(-1:Int))) (cond (aY x.2.1 (x.1).length) (cond ((x.1.getD (x.2.1).toNat ((0:Int),((0:Int),(0:Int)))).1 != (7:Int)) (some (x.1,(-1:Int))) (cond (aY x.2.1 (x.1).length) ((dc n (x.1,(8:Int),x.2.2,(x.1.getD (x.2.1).toNat ((0:Int),((0:Int),(0:Int)))).2.1)).bind fun r3=>(some (r3.1,r3.2))) none)) none)))))
def JR (n:Nat):aa:={ pars:=[.g [.i bR], .c (jI), .c (jI)],gh:=[],nb:=[],res:=[(true,[.i bR]),(false,[jI])],g:=dT n }
def P1 (n:Nat):List (Nat×aa):=[(77,Mw n),(102,FN n)]
def QL (n:Nat):aK:={ τ:=τ,N:=40,Γ:=gl (P1 n) [],Λ:=(fun q=>match q with  | _=>none) }
theorem OG (n:Nat) (x):dT n x=ar (QL n) Tryz.f103 (JR n) x:=by kernel_rfl
def eP (n:Nat) (rec_:jN×jL×jD×Int→Option (jN×Int)) (x:jL×jN×jN×Int×Int×Int×Bool):Option (jN×Int) :=
 (cond (aY x.2.2.2.2.1 (x.1).length) (some (x.2.1,(x.1.getD (x.2.2.2.2.1).toNat (0:Int)))) none)
def sC (n:Nat) (rec_:jN×jL×jD×Int→Option (jN×Int)) (x:jN×jL×jD×Int):Option (jN×Int) :=
 (cond (aY x.2.2.2 (x.2.2.1).length) (cond (x.2.2.1.getD (x.2.2.2).toNat ((0:Int),((0:Int),((0:Int),false)))).2.2.2 (some (x.1,(-1:Int))) (cond ((x.2.2.1.getD (x.2.2.2).toNat ((0:Int),((0:Int),((0:Int),false)))).1==(9:Int)) ((eP n rec_ (x.2.1,x.1,[],(x.2.2.1.getD (x.2.2.2).toNat ((0:Int),((0:Int),((0:Int),false)))).1,(x.2.2.1.getD (x.2.2.2).toNat ((0:Int),((0:Int),((0:Int),false)))).2.1,(x.2.2.1.getD (x.2.2.2).toNat ((0:Int),((0:Int),((0:Int),false)))).2.2.1,(x.2.2.1.getD (x.2.2.2).toNat ((0:Int),((0:Int),((0:Int),false)))).2.2.2)).bind fun g1=>(some (g1.1,g1.2))) (cond ((x.2.2.1.getD (x.2.2.2).toNat ((0:Int),((0:Int),((0:Int),false)))).1==(1:Int)) ((fP n (x.1,(x.2.2.1.getD (x.2.2.2).toNat ((0:Int),((0:Int),((0:Int),false)))).2.1)).bind fun r2=>(some (r2.1,r2.2))) ((rec_ (x.1,x.2.1,x.2.2.1,(x.2.2.1.getD (x.2.2.2).toNat ((0:Int),((0:Int),((0:Int),false)))).2.1)).bind fun r3=>(cond (decide (r3.2<(0:Int))) (some (x.1,(-1:Int))) ((ca n ((x.2.2.1.getD (x.2.2.2).toNat ((0:Int),((0:Int),((0:Int),false)))).1,(x.2.2.1.getD (x.2.2.2).toNat ((0:Int),((0:Int),((0:Int),false)))).2.1,(x.2.2.1.getD (x.2.2.2).toNat ((0:Int),((0:Int),((0:Int),false)))).2.2.1,(x.2.2.1.getD (x.2.2.2).toNat ((0:Int),((0:Int),((0:Int),false)))).2.2.2)).bind fun r4=>(cond (r4==(1:Int)) ((dc n (r3.1,(x.2.2.1.getD (x.2.2.2).toNat ((0:Int),((0:Int),((0:Int),false)))).1,r3.2,(0:Int))).bind fun r5=>(some (r5.1,r5.2))) ((rec_ (r3.1,x.2.1,x.2.2.1,(x.2.2.1.getD (x.2.2.2).toNat ((0:Int),((0:Int),((0:Int),false)))).2.2.1)).bind fun r6=>(cond (decide (r6.2<(0:Int))) (some (x.1,(-1:Int))) (cond ((x.2.2.1.getD (x.2.2.2).toNat ((0:Int),((0:Int),((0:Int),false)))).1==(10:Int)) ((dT n (r6.1,r6.2,r3.2)).bind fun r7=>(some (r7.1,r7.2))) ((dc n (r6.1,(x.2.2.1.getD (x.2.2.2).toNat ((0:Int),((0:Int),((0:Int),false)))).1,r3.2,r6.2)).bind fun r8=>(some (r8.1,r8.2))))))))))))) none)
def cm (n:Nat):Nat→(jN×jL×jD×Int)→Option (jN×Int)
 |0,_=>none
 |k+1,x=>sC n (cm n k) x
def QV (n:Nat) (k:Nat):aa:={ pars:=[.g [.i bR], .c (.i (.sl (.int .i64))), .c (.i (.sl (.pr (.int .i64) (.pr (.int .i64) (.pr (.int .i64) .bool))))), .c (jI)],gh:=[],nb:=[],res:=[(true,[.i bR]),(false,[jI])],g:=cm n k }
def Wd (n:Nat) (k:Nat):List (Nat×aa):=[(100,JS n),(83,QV n k),(101,Iy n),(102,FN n),(103,JR n)]
def n6 (n:Nat) (g:jL×jN×jN×Int×Int×Int×Bool→Option (jN×Int)):iw:={ ent:=[.val 1 (.i (.sl (.int .i64))), .box 4 [4,0] [.i bR], .box 8 [8,0] [rt], .box 10 [10,0] [jI,jI,jI,jB]],out:=[.box 8 [8,0] [.i bR], .val 9 (jI)],g:=g }
def VR (n:Nat) (k:Nat):List (Nat×iw):=[(5,n6 n (eP n (cm n k)))]
def Q4 (n:Nat) (k:Nat):aK:={ τ:=τ,N:=93,Γ:=gl (Wd n k) [],Λ:=(fun q=>match q with  | _=>none),Ω:=Cc (VR n k) }
theorem tf (n k:Nat):JT true (Q4 n k) (aj Tryz.f83) 5 [0,1,2,3,4,5,6,7] (n6 n (eP n (cm n k))):=fun x=>by kernel_rfl
theorem SG (n k:Nat) (x):cm n (k+1) x=ar (Q4 n k) Tryz.f83 (QV n (k+1)) x:=by kernel_rfl
def ju (n:Nat) (rec_:jN×jL×jD×Int→Option (jL×jN×Int)) (x:jL×jN×jN×Int×Int×Int×Bool):Option (jL×jN×Int) :=
 (cond (aY x.2.2.2.2.1 (x.1).length) (some (x.1,x.2.1,(x.1.getD (x.2.2.2.2.1).toNat (0:Int)))) none)
def qH (n:Nat) (rec_:jN×jL×jD×Int→Option (jL×jN×Int)) (x:jN×jL×jD×Int):Option (jL×jN×Int) :=
 (cond (aY x.2.2.2 (x.2.2.1).length) (cond (x.2.2.1.getD (x.2.2.2).toNat ((0:Int),((0:Int),((0:Int),false)))).2.2.2 (some (x.2.1,x.1,(-1:Int))) (cond ((x.2.2.1.getD (x.2.2.2).toNat ((0:Int),((0:Int),((0:Int),false)))).1==(9:Int)) ((ju n rec_ (x.2.1,x.1,[],(x.2.2.1.getD (x.2.2.2).toNat ((0:Int),((0:Int),((0:Int),false)))).1,(x.2.2.1.getD (x.2.2.2).toNat ((0:Int),((0:Int),((0:Int),false)))).2.1,(x.2.2.1.getD (x.2.2.2).toNat ((0:Int),((0:Int),((0:Int),false)))).2.2.1,(x.2.2.1.getD (x.2.2.2).toNat ((0:Int),((0:Int),((0:Int),false)))).2.2.2)).bind fun g1=>(some (g1.1,g1.2.1,g1.2.2))) (cond ((x.2.2.1.getD (x.2.2.2).toNat ((0:Int),((0:Int),((0:Int),false)))).1==(1:Int)) ((fP n (x.1,(x.2.2.1.getD (x.2.2.2).toNat ((0:Int),((0:Int),((0:Int),false)))).2.1)).bind fun r2=>(some (x.2.1,r2.1,r2.2))) ((rec_ (x.1,x.2.1,x.2.2.1,(x.2.2.1.getD (x.2.2.2).toNat ((0:Int),((0:Int),((0:Int),false)))).2.1)).bind fun r3=>(cond (decide (r3.2.2<(0:Int))) (some (r3.1,x.1,(-1:Int))) ((ca n ((x.2.2.1.getD (x.2.2.2).toNat ((0:Int),((0:Int),((0:Int),false)))).1,(x.2.2.1.getD (x.2.2.2).toNat ((0:Int),((0:Int),((0:Int),false)))).2.1,(x.2.2.1.getD (x.2.2.2).toNat ((0:Int),((0:Int),((0:Int),false)))).2.2.1,(x.2.2.1.getD (x.2.2.2).toNat ((0:Int),((0:Int),((0:Int),false)))).2.2.2)).bind fun r4=>(cond (r4==(1:Int)) ((dc n (r3.2.1,(x.2.2.1.getD (x.2.2.2).toNat ((0:Int),((0:Int),((0:Int),false)))).1,r3.2.2,(0:Int))).bind fun r5=>(some (r3.1,r5.1,r5.2))) ((rec_ (r3.2.1,r3.1,x.2.2.1,(x.2.2.1.getD (x.2.2.2).toNat ((0:Int),((0:Int),((0:Int),false)))).2.2.1)).bind fun r6=>(cond (decide (r6.2.2<(0:Int))) (some (r6.1,x.1,(-1:Int))) (cond ((x.2.2.1.getD (x.2.2.2).toNat ((0:Int),((0:Int),((0:Int),false)))).1==(10:Int)) ((dT n (r6.2.1,r6.2.2,r3.2.2)).bind fun r7=>(some (r6.1,r7.1,r7.2))) ((dc n (r6.2.1,(x.2.2.1.getD (x.2.2.2).toNat ((0:Int),((0:Int),((0:Int),false)))).1,r3.2.2,r6.2.2)).bind fun r8=>(some (r6.1,r8.1,r8.2))))))))))))) none)
def gR (n:Nat):Nat→(jN×jL×jD×Int)→Option (jL×jN×Int)
 |0,_=>none
 |k+1,x=>qH n (gR n k) x
def Ei (n:Nat) (k:Nat):aa:={ pars:=[.g [.i bR], .c (.b 3 (.int .i64)), .c (.i (.sl (.pr (.int .i64) (.pr (.int .i64) (.pr (.int .i64) .bool))))), .c (jI)],gh:=[],nb:=[],res:=[(true,[.i bR]),(false,[jI])],g:=gR n k }
def KA (n:Nat) (k:Nat):List (Nat×aa):=[(100,JS n),(101,Iy n),(102,FN n),(103,JR n)]
def Kv (n:Nat) (k:Nat):List ((Nat×Nat)×aa):=[((83,46),Ei n k),((83,69),Ei n k)]
def mI (n:Nat) (g:jL×jN×jN×Int×Int×Int×Bool→Option (jL×jN×Int)):iw:={ ent:=[.val 1 (.b 3 (.int .i64)), .box 4 [4,0] [.i bR], .box 8 [8,0] [rt], .box 10 [10,0] [jI,jI,jI,jB]],out:=[.val 1 (.b 3 (.int .i64)), .box 8 [8,0] [.i bR], .val 9 (jI)],g:=g }
def Kp (n:Nat) (k:Nat):List (Nat×iw):=[(5,mI n (ju n (gR n k)))]
def Ej (n:Nat) (k:Nat):aK:={ τ:=τ,N:=93,Γ:=gl (KA n k) (Kv n k),Λ:=(fun q=>match q with  | _=>none),Ω:=Cc (Kp n k) }
theorem qM (n k:Nat):JT true (Ej n k) (aj Tryz.f83) 5 [0,1,2,3,4,5,6,7] (mI n (ju n (gR n k))):=fun x=>by kernel_rfl
theorem Lq (n k:Nat) (x):gR n (k+1) x=ar (Ej n k) Tryz.f83 (Ei n (k+1)) x:=by kernel_rfl
def dD (n:Nat) (x:jN×jL×jW×Int×jL×jL×jC×Int):Option (Int) :=
 ((cr n (x.2.2.2.2.2.2.2,(0:Int),(IntKind.i64.wrap (((x.2.2.1).length:Int)-(1:Int))))).bind fun r1=>(cond (!r1) (some (-1:Int)) (cond (aY x.2.2.2.2.2.2.2 (x.2.2.1).length) (cond (x.2.2.1.getD (x.2.2.2.2.2.2.2).toNat ((0:Int),((0:Int),((0:Int),((0:Int),((0:Int),([],(false,(false,(0:Int)))))))))).2.2.2.2.2.2.1 (some (x.2.2.1.getD (x.2.2.2.2.2.2.2).toNat ((0:Int),((0:Int),((0:Int),((0:Int),((0:Int),([],(false,(false,(0:Int)))))))))).2.2.2.2.2.2.2.2) ((de n ((x.2.2.1.getD (x.2.2.2.2.2.2.2).toNat ((0:Int),((0:Int),((0:Int),((0:Int),((0:Int),([],(false,(false,(0:Int)))))))))).1,(x.2.2.1.getD (x.2.2.2.2.2.2.2).toNat ((0:Int),((0:Int),((0:Int),((0:Int),((0:Int),([],(false,(false,(0:Int)))))))))).2.1)).bind fun r2=>(cond (aY (IntKind.i64.wrap (((r2).length:Int)-(1:Int))) (r2).length) ((fW n (r2.getD ((IntKind.i64.wrap (((r2).length:Int)-(1:Int)))).toNat ((0:Int),(⟨#[]⟩:ByteArray))).2).bind fun r3=>((cm n n (x.1,(x.2.2.1.getD (x.2.2.2.2.2.2.2).toNat ((0:Int),((0:Int),((0:Int),((0:Int),((0:Int),([],(false,(false,(0:Int)))))))))).2.2.2.2.2.1,r3.1,(IntKind.i64.wrap (((r3.1).length:Int)-(1:Int))))).bind fun r4=>(cond (decide (r4.2<((x.1).length:Int))) (some r4.2) (some (-1:Int))))) none))) none)))
def Uw (n:Nat):aa:={ pars:=[.g [.i bR, .i (.sl (.int .i64)), .i dW,jI, .i (.sl (.int .i64)), .i (.sl (.int .i64)), .i (.sl (.pr (.int .i64) (.pr .bool .bool)))], .c (jI)],gh:=[],nb:=[],res:=[(false,[jI])],g:=dD n }
def WF (n:Nat):List (Nat×aa):=[(47,FR n),(76,QX n),(82,QW n),(83,QV n n)]
def XQ (n:Nat):aK:={ τ:=τ,N:=62,Γ:=gl (WF n) [],Λ:=(fun q=>match q with  | _=>none) }
theorem Tf (n:Nat) (x):dD n x=ar (XQ n) Tryz.f55 (Uw n) x:=by kernel_rfl
def au (n:Nat):Nat→jN×jL×jW×Int×jL×jL×jC×jL×Int×Int×Int×Int×Int×Int×jL×Bool×Bool×Int×Int→Option (jL)
 |0,_=>none
 |m+1,x=>(cond (decide (x.2.2.2.2.2.2.2.2.2.2.2.2.2.2.2.2.2.2<((x.2.2.1).length:Int))) (cond (aY x.2.2.2.2.2.2.2.2.2.2.2.2.2.2.2.2.2.2 (x.2.2.1).length) (cond ((x.2.2.1.getD (x.2.2.2.2.2.2.2.2.2.2.2.2.2.2.2.2.2.2).toNat ((0:Int),((0:Int),((0:Int),((0:Int),((0:Int),([],(false,(false,(0:Int)))))))))).1==x.2.2.2.2.2.2.2.2.2.1) (cond ((x.2.2.1.getD (x.2.2.2.2.2.2.2.2.2.2.2.2.2.2.2.2.2.2).toNat ((0:Int),((0:Int),((0:Int),((0:Int),((0:Int),([],(false,(false,(0:Int)))))))))).2.1 != x.2.2.2.2.2.2.2.2.2.2.1) (cond ((x.2.2.1.getD (x.2.2.2.2.2.2.2.2.2.2.2.2.2.2.2.2.2.2).toNat ((0:Int),((0:Int),((0:Int),((0:Int),((0:Int),([],(false,(false,(0:Int)))))))))).2.2.1==x.2.2.2.2.2.2.2.2.2.2.2.2.1) (cond ((x.2.2.1.getD (x.2.2.2.2.2.2.2.2.2.2.2.2.2.2.2.2.2.2).toNat ((0:Int),((0:Int),((0:Int),((0:Int),((0:Int),([],(false,(false,(0:Int)))))))))).2.2.2.1==x.2.2.2.2.2.2.2.2.2.2.2.1) ((dD n (x.1,x.2.1,x.2.2.1,x.2.2.2.1,x.2.2.2.2.1,x.2.2.2.2.2.1,x.2.2.2.2.2.2.1,x.2.2.2.2.2.2.2.2.2.2.2.2.2.2.2.2.2.2)).bind fun r2=>(cond (r2==x.2.2.2.2.2.2.2.2.1) (cond (x.2.2.2.2.2.2.2.2.2.2.1==(0:Int)) (cond (co ((x.2.2.2.2.2.2.2.1).length+([x.2.2.2.2.2.2.2.2.2.2.2.2.2.2.2.2.2.2]).length)) (au n m (x.1,x.2.1,x.2.2.1,x.2.2.2.1,x.2.2.2.2.1,x.2.2.2.2.2.1,x.2.2.2.2.2.2.1,(x.2.2.2.2.2.2.2.1++[x.2.2.2.2.2.2.2.2.2.2.2.2.2.2.2.2.2.2]),x.2.2.2.2.2.2.2.2.1,x.2.2.2.2.2.2.2.2.2.1,x.2.2.2.2.2.2.2.2.2.2.1,x.2.2.2.2.2.2.2.2.2.2.2.1,x.2.2.2.2.2.2.2.2.2.2.2.2.1,x.2.2.2.2.2.2.2.2.2.2.2.2.2.1,x.2.2.2.2.2.2.2.2.2.2.2.2.2.2.1,x.2.2.2.2.2.2.2.2.2.2.2.2.2.2.2.1,x.2.2.2.2.2.2.2.2.2.2.2.2.2.2.2.2.1,x.2.2.2.2.2.2.2.2.2.2.2.2.2.2.2.2.2.1,(IntKind.i64.wrap (x.2.2.2.2.2.2.2.2.2.2.2.2.2.2.2.2.2.2+(1:Int))))) none) (cond (x.2.2.1.getD (x.2.2.2.2.2.2.2.2.2.2.2.2.2.2.2.2.2.2).toNat ((0:Int),((0:Int),((0:Int),((0:Int),((0:Int),([],(false,(false,(0:Int)))))))))).2.2.2.2.2.2.1 (cond (co ((x.2.2.2.2.2.2.2.1).length+([x.2.2.2.2.2.2.2.2.2.2.2.2.2.2.2.2.2.2]).length)) (au n m (x.1,x.2.1,x.2.2.1,x.2.2.2.1,x.2.2.2.2.1,x.2.2.2.2.2.1,x.2.2.2.2.2.2.1,(x.2.2.2.2.2.2.2.1++[x.2.2.2.2.2.2.2.2.2.2.2.2.2.2.2.2.2.2]),x.2.2.2.2.2.2.2.2.1,x.2.2.2.2.2.2.2.2.2.1,x.2.2.2.2.2.2.2.2.2.2.1,x.2.2.2.2.2.2.2.2.2.2.2.1,x.2.2.2.2.2.2.2.2.2.2.2.2.1,x.2.2.2.2.2.2.2.2.2.2.2.2.2.1,x.2.2.2.2.2.2.2.2.2.2.2.2.2.2.1,x.2.2.2.2.2.2.2.2.2.2.2.2.2.2.2.1,x.2.2.2.2.2.2.2.2.2.2.2.2.2.2.2.2.1,x.2.2.2.2.2.2.2.2.2.2.2.2.2.2.2.2.2.1,(IntKind.i64.wrap (x.2.2.2.2.2.2.2.2.2.2.2.2.2.2.2.2.2.2+(1:Int))))) none) (au n m (x.1,x.2.1,x.2.2.1,x.2.2.2.1,x.2.2.2.2.1,x.2.2.2.2.2.1,x.2.2.2.2.2.2.1,x.2.2.2.2.2.2.2.1,x.2.2.2.2.2.2.2.2.1,x.2.2.2.2.2.2.2.2.2.1,x.2.2.2.2.2.2.2.2.2.2.1,x.2.2.2.2.2.2.2.2.2.2.2.1,x.2.2.2.2.2.2.2.2.2.2.2.2.1,x.2.2.2.2.2.2.2.2.2.2.2.2.2.1,x.2.2.2.2.2.2.2.2.2.2.2.2.2.2.1,x.2.2.2.2.2.2.2.2.2.2.2.2.2.2.2.1,x.2.2.2.2.2.2.2.2.2.2.2.2.2.2.2.2.1,x.2.2.2.2.2.2.2.2.2.2.2.2.2.2.2.2.2.1,(IntKind.i64.wrap (x.2.2.2.2.2.2.2.2.2.2.2.2.2.2.2.2.2.2+(1:Int))))))) (au n m (x.1,x.2.1,x.2.2.1,x.2.2.2.1,x.2.2.2.2.1,x.2.2.2.2.2.1,x.2.2.2.2.2.2.1,x.2.2.2.2.2.2.2.1,x.2.2.2.2.2.2.2.2.1,x.2.2.2.2.2.2.2.2.2.1,x.2.2.2.2.2.2.2.2.2.2.1,x.2.2.2.2.2.2.2.2.2.2.2.1,x.2.2.2.2.2.2.2.2.2.2.2.2.1,x.2.2.2.2.2.2.2.2.2.2.2.2.2.1,x.2.2.2.2.2.2.2.2.2.2.2.2.2.2.1,x.2.2.2.2.2.2.2.2.2.2.2.2.2.2.2.1,x.2.2.2.2.2.2.2.2.2.2.2.2.2.2.2.2.1,x.2.2.2.2.2.2.2.2.2.2.2.2.2.2.2.2.2.1,(IntKind.i64.wrap (x.2.2.2.2.2.2.2.2.2.2.2.2.2.2.2.2.2.2+(1:Int))))))) (au n m (x.1,x.2.1,x.2.2.1,x.2.2.2.1,x.2.2.2.2.1,x.2.2.2.2.2.1,x.2.2.2.2.2.2.1,x.2.2.2.2.2.2.2.1,x.2.2.2.2.2.2.2.2.1,x.2.2.2.2.2.2.2.2.2.1,x.2.2.2.2.2.2.2.2.2.2.1,x.2.2.2.2.2.2.2.2.2.2.2.1,x.2.2.2.2.2.2.2.2.2.2.2.2.1,x.2.2.2.2.2.2.2.2.2.2.2.2.2.1,x.2.2.2.2.2.2.2.2.2.2.2.2.2.2.1,x.2.2.2.2.2.2.2.2.2.2.2.2.2.2.2.1,x.2.2.2.2.2.2.2.2.2.2.2.2.2.2.2.2.1,x.2.2.2.2.2.2.2.2.2.2.2.2.2.2.2.2.2.1,(IntKind.i64.wrap (x.2.2.2.2.2.2.2.2.2.2.2.2.2.2.2.2.2.2+(1:Int)))))) (au n m (x.1,x.2.1,x.2.2.1,x.2.2.2.1,x.2.2.2.2.1,x.2.2.2.2.2.1,x.2.2.2.2.2.2.1,x.2.2.2.2.2.2.2.1,x.2.2.2.2.2.2.2.2.1,x.2.2.2.2.2.2.2.2.2.1,x.2.2.2.2.2.2.2.2.2.2.1,x.2.2.2.2.2.2.2.2.2.2.2.1,x.2.2.2.2.2.2.2.2.2.2.2.2.1,x.2.2.2.2.2.2.2.2.2.2.2.2.2.1,x.2.2.2.2.2.2.2.2.2.2.2.2.2.2.1,x.2.2.2.2.2.2.2.2.2.2.2.2.2.2.2.1,x.2.2.2.2.2.2.2.2.2.2.2.2.2.2.2.2.1,x.2.2.2.2.2.2.2.2.2.2.2.2.2.2.2.2.2.1,(IntKind.i64.wrap (x.2.2.2.2.2.2.2.2.2.2.2.2.2.2.2.2.2.2+(1:Int)))))) (au n m (x.1,x.2.1,x.2.2.1,x.2.2.2.1,x.2.2.2.2.1,x.2.2.2.2.2.1,x.2.2.2.2.2.2.1,x.2.2.2.2.2.2.2.1,x.2.2.2.2.2.2.2.2.1,x.2.2.2.2.2.2.2.2.2.1,x.2.2.2.2.2.2.2.2.2.2.1,x.2.2.2.2.2.2.2.2.2.2.2.1,x.2.2.2.2.2.2.2.2.2.2.2.2.1,x.2.2.2.2.2.2.2.2.2.2.2.2.2.1,x.2.2.2.2.2.2.2.2.2.2.2.2.2.2.1,x.2.2.2.2.2.2.2.2.2.2.2.2.2.2.2.1,x.2.2.2.2.2.2.2.2.2.2.2.2.2.2.2.2.1,x.2.2.2.2.2.2.2.2.2.2.2.2.2.2.2.2.2.1,(IntKind.i64.wrap (x.2.2.2.2.2.2.2.2.2.2.2.2.2.2.2.2.2.2+(1:Int)))))) (au n m (x.1,x.2.1,x.2.2.1,x.2.2.2.1,x.2.2.2.2.1,x.2.2.2.2.2.1,x.2.2.2.2.2.2.1,x.2.2.2.2.2.2.2.1,x.2.2.2.2.2.2.2.2.1,x.2.2.2.2.2.2.2.2.2.1,x.2.2.2.2.2.2.2.2.2.2.1,x.2.2.2.2.2.2.2.2.2.2.2.1,x.2.2.2.2.2.2.2.2.2.2.2.2.1,x.2.2.2.2.2.2.2.2.2.2.2.2.2.1,x.2.2.2.2.2.2.2.2.2.2.2.2.2.2.1,x.2.2.2.2.2.2.2.2.2.2.2.2.2.2.2.1,x.2.2.2.2.2.2.2.2.2.2.2.2.2.2.2.2.1,x.2.2.2.2.2.2.2.2.2.2.2.2.2.2.2.2.2.1,(IntKind.i64.wrap (x.2.2.2.2.2.2.2.2.2.2.2.2.2.2.2.2.2.2+(1:Int)))))) none) (some x.2.2.2.2.2.2.2.1))
def fv (n:Nat) (x:jN×jL×jW×Int×jL×jL×jC×Int):Option (jL) :=
 ((dD n (x.1,x.2.1,x.2.2.1,x.2.2.2.1,x.2.2.2.2.1,x.2.2.2.2.2.1,x.2.2.2.2.2.2.1,x.2.2.2.2.2.2.2)).bind fun r1=>(cond (decide (r1<(0:Int))) (some ([]:List Int)) (cond (aY x.2.2.2.2.2.2.2 (x.2.2.1).length) ((au n n (x.1,x.2.1,x.2.2.1,x.2.2.2.1,x.2.2.2.2.1,x.2.2.2.2.2.1,x.2.2.2.2.2.2.1,([]:List Int),r1,(x.2.2.1.getD (x.2.2.2.2.2.2.2).toNat ((0:Int),((0:Int),((0:Int),((0:Int),((0:Int),([],(false,(false,(0:Int)))))))))).1,(x.2.2.1.getD (x.2.2.2.2.2.2.2).toNat ((0:Int),((0:Int),((0:Int),((0:Int),((0:Int),([],(false,(false,(0:Int)))))))))).2.1,(x.2.2.1.getD (x.2.2.2.2.2.2.2).toNat ((0:Int),((0:Int),((0:Int),((0:Int),((0:Int),([],(false,(false,(0:Int)))))))))).2.2.1,(x.2.2.1.getD (x.2.2.2.2.2.2.2).toNat ((0:Int),((0:Int),((0:Int),((0:Int),((0:Int),([],(false,(false,(0:Int)))))))))).2.2.2.1,(x.2.2.1.getD (x.2.2.2.2.2.2.2).toNat ((0:Int),((0:Int),((0:Int),((0:Int),((0:Int),([],(false,(false,(0:Int)))))))))).2.2.2.2.1,(x.2.2.1.getD (x.2.2.2.2.2.2.2).toNat ((0:Int),((0:Int),((0:Int),((0:Int),((0:Int),([],(false,(false,(0:Int)))))))))).2.2.2.2.2.1,(x.2.2.1.getD (x.2.2.2.2.2.2.2).toNat ((0:Int),((0:Int),((0:Int),((0:Int),((0:Int),([],(false,(false,(0:Int)))))))))).2.2.2.2.2.2.1,(x.2.2.1.getD (x.2.2.2.2.2.2.2).toNat ((0:Int),((0:Int),((0:Int),((0:Int),((0:Int),([],(false,(false,(0:Int)))))))))).2.2.2.2.2.2.2.1,(x.2.2.1.getD (x.2.2.2.2.2.2.2).toNat ((0:Int),((0:Int),((0:Int),((0:Int),((0:Int),([],(false,(false,(0:Int)))))))))).2.2.2.2.2.2.2.2,(0:Int))).bind fun e3=>(some e3)) none)))
def UL (n:Nat):aa:={ pars:=[.g [.i bR, .i (.sl (.int .i64)), .i dW,jI, .i (.sl (.int .i64)), .i (.sl (.int .i64)), .i (.sl (.pr (.int .i64) (.pr .bool .bool)))], .c (jI)],gh:=[],nb:=[],res:=[(false,[.i (.sl (.int .i64))])],g:=fv n }
def ie (n:Nat) (g:jN×jL×jW×Int×jL×jL×jC×jL×Int×Int×Int×Int×Int×Int×jL×Bool×Bool×Int×Int→Option (jL)):cI:={ ent:=[.box 2 [2,0] [.i bR, .i (.sl (.int .i64)), .i dW,jI, .i (.sl (.int .i64)), .i (.sl (.int .i64)), .i (.sl (.pr (.int .i64) (.pr .bool .bool)))], .val 5 (jO), .val 6 (jI), .box 7 [7,0] [jI,jI,jI,jI,jI, .i (.sl (.int .i64)),jB,jB,jI], .val 8 (jI)],exs:=[(.exit 0,[.val 5 (jO)])],g:=g }
def W1 (n:Nat):List (Nat×aa):=[(55,Uw n)]
def Vr (n:Nat):aK:={ τ:=τ,N:=81,Γ:=gl (W1 n) [],Λ:=(fun q=>match q with   | 7=>some (ie n (au n n))  | _=>none) }
theorem o9 (n m:Nat) (x):au n (m+1) x=cE (Vr n) (aC (aj Tryz.f34) 0) (ie n (au n n)) (au n m) x:=by kernel_rfl
theorem TC (n:Nat) (x):fv n x=ar (Vr n) Tryz.f34 (UL n) x:=by kernel_rfl
def aP (n:Nat):Nat→jN×jL×jW×Int×jL×jL×jC×Int→Option ((Bool)⊕(Unit))
 |0,_=>none
 |m+1,x=>(cond (decide (x.2.2.2.2.2.2.2<((x.2.2.1).length:Int))) ((dp n (x.1,x.2.1,x.2.2.1,x.2.2.2.1,x.2.2.2.2.1,x.2.2.2.2.2.1,x.2.2.2.2.2.2.1,x.2.2.2.2.2.2.2)).bind fun r2=>(cond r2 ((fv n (x.1,x.2.1,x.2.2.1,x.2.2.2.1,x.2.2.2.2.1,x.2.2.2.2.2.1,x.2.2.2.2.2.2.1,x.2.2.2.2.2.2.2)).bind fun r3=>(cond (((r3).length:Int) != (1:Int)) (some (Sum.inl false)) (aP n m (x.1,x.2.1,x.2.2.1,x.2.2.2.1,x.2.2.2.2.1,x.2.2.2.2.2.1,x.2.2.2.2.2.2.1,(IntKind.i64.wrap (x.2.2.2.2.2.2.2+(1:Int))))))) (aP n m (x.1,x.2.1,x.2.2.1,x.2.2.2.1,x.2.2.2.2.1,x.2.2.2.2.2.1,x.2.2.2.2.2.2.1,(IntKind.i64.wrap (x.2.2.2.2.2.2.2+(1:Int))))))) (some (Sum.inr ())))
def ge (n:Nat) (x:jN×jL×jW×Int×jL×jL×jC):Option (Bool) :=
 ((eT n (x.1,x.2.1,x.2.2.1,x.2.2.2.1,x.2.2.2.2.1,x.2.2.2.2.2.1,x.2.2.2.2.2.2)).bind fun r1=>(cond (!r1) (some false) ((aP n n (x.1,x.2.1,x.2.2.1,x.2.2.2.1,x.2.2.2.2.1,x.2.2.2.2.2.1,x.2.2.2.2.2.2,(0:Int))).bind fun e4=>(match e4 with|Sum.inl a5=>(some a5)|Sum.inr b6=>(some true)))))
def U0 (n:Nat):aa:={ pars:=[.g [.i bR, .i (.sl (.int .i64)), .i dW,jI, .i (.sl (.int .i64)), .i (.sl (.int .i64)), .i (.sl (.pr (.int .i64) (.pr .bool .bool)))]],gh:=[],nb:=[],res:=[(false,[jB])],g:=ge n }
def iF (n:Nat) (g:jN×jL×jW×Int×jL×jL×jC×Int→Option ((Bool)⊕(Unit))):cI:={ ent:=[.box 1 [1,0] [.i bR, .i (.sl (.int .i64)), .i dW,jI, .i (.sl (.int .i64)), .i (.sl (.int .i64)), .i (.sl (.pr (.int .i64) (.pr .bool .bool)))], .val 3 (jI)],exs:=[(.ret,[.val 2 (jB)]),(.exit 0,[])],g:=g }
def Xl (n:Nat):List (Nat×aa):=[(29,OS n),(33,OR n),(34,UL n)]
def VC (n:Nat):aK:={ τ:=τ,N:=24,Γ:=gl (Xl n) [],Λ:=(fun q=>match q with   | 4=>some (iF n (aP n n))  | _=>none) }
theorem pV (n m:Nat) (x):aP n (m+1) x=cE (VC n) (aC (aj Tryz.f14) 0) (iF n (aP n n)) (aP n m) x:=by kernel_rfl
theorem TZ (n:Nat) (x):ge n x=ar (VC n) Tryz.f14 (U0 n) x:=by kernel_rfl
def gB (n:Nat) (x:jN×jL×jW×Int×jL×jL×jC×Int×Int):Option (jN×jL×jW×Int×jL×jL×jC×Int×Int×Int×Int×Int×Int×Int×jL×Bool×Bool×Int×Int×Int×Int×Int×Int×jL×Bool×Bool×Int) :=
 (cond (aY x.2.2.2.2.2.2.2.1 (x.2.2.1).length) (cond (aY x.2.2.2.2.2.2.2.2 (x.2.2.1).length) (some (x.1,x.2.1,x.2.2.1,x.2.2.2.1,x.2.2.2.2.1,x.2.2.2.2.2.1,x.2.2.2.2.2.2.1,x.2.2.2.2.2.2.2.1,x.2.2.2.2.2.2.2.2,(x.2.2.1.getD (x.2.2.2.2.2.2.2.1).toNat ((0:Int),((0:Int),((0:Int),((0:Int),((0:Int),([],(false,(false,(0:Int)))))))))).1,(x.2.2.1.getD (x.2.2.2.2.2.2.2.1).toNat ((0:Int),((0:Int),((0:Int),((0:Int),((0:Int),([],(false,(false,(0:Int)))))))))).2.1,(x.2.2.1.getD (x.2.2.2.2.2.2.2.1).toNat ((0:Int),((0:Int),((0:Int),((0:Int),((0:Int),([],(false,(false,(0:Int)))))))))).2.2.1,(x.2.2.1.getD (x.2.2.2.2.2.2.2.1).toNat ((0:Int),((0:Int),((0:Int),((0:Int),((0:Int),([],(false,(false,(0:Int)))))))))).2.2.2.1,(x.2.2.1.getD (x.2.2.2.2.2.2.2.1).toNat ((0:Int),((0:Int),((0:Int),((0:Int),((0:Int),([],(false,(false,(0:Int)))))))))).2.2.2.2.1,(x.2.2.1.getD (x.2.2.2.2.2.2.2.1).toNat ((0:Int),((0:Int),((0:Int),((0:Int),((0:Int),([],(false,(false,(0:Int)))))))))).2.2.2.2.2.1,(x.2.2.1.getD (x.2.2.2.2.2.2.2.1).toNat ((0:Int),((0:Int),((0:Int),((0:Int),((0:Int),([],(false,(false,(0:Int)))))))))).2.2.2.2.2.2.1,(x.2.2.1.getD (x.2.2.2.2.2.2.2.1).toNat ((0:Int),((0:Int),((0:Int),((0:Int),((0:Int),([],(false,(false,(0:Int)))))))))).2.2.2.2.2.2.2.1,(x.2.2.1.getD (x.2.2.2.2.2.2.2.1).toNat ((0:Int),((0:Int),((0:Int),((0:Int),((0:Int),([],(false,(false,(0:Int)))))))))).2.2.2.2.2.2.2.2,(x.2.2.1.getD (x.2.2.2.2.2.2.2.2).toNat ((0:Int),((0:Int),((0:Int),((0:Int),((0:Int),([],(false,(false,(0:Int)))))))))).1,(x.2.2.1.getD (x.2.2.2.2.2.2.2.2).toNat ((0:Int),((0:Int),((0:Int),((0:Int),((0:Int),([],(false,(false,(0:Int)))))))))).2.1,(x.2.2.1.getD (x.2.2.2.2.2.2.2.2).toNat ((0:Int),((0:Int),((0:Int),((0:Int),((0:Int),([],(false,(false,(0:Int)))))))))).2.2.1,(x.2.2.1.getD (x.2.2.2.2.2.2.2.2).toNat ((0:Int),((0:Int),((0:Int),((0:Int),((0:Int),([],(false,(false,(0:Int)))))))))).2.2.2.1,(x.2.2.1.getD (x.2.2.2.2.2.2.2.2).toNat ((0:Int),((0:Int),((0:Int),((0:Int),((0:Int),([],(false,(false,(0:Int)))))))))).2.2.2.2.1,(x.2.2.1.getD (x.2.2.2.2.2.2.2.2).toNat ((0:Int),((0:Int),((0:Int),((0:Int),((0:Int),([],(false,(false,(0:Int)))))))))).2.2.2.2.2.1,(x.2.2.1.getD (x.2.2.2.2.2.2.2.2).toNat ((0:Int),((0:Int),((0:Int),((0:Int),((0:Int),([],(false,(false,(0:Int)))))))))).2.2.2.2.2.2.1,(x.2.2.1.getD (x.2.2.2.2.2.2.2.2).toNat ((0:Int),((0:Int),((0:Int),((0:Int),((0:Int),([],(false,(false,(0:Int)))))))))).2.2.2.2.2.2.2.1,(x.2.2.1.getD (x.2.2.2.2.2.2.2.2).toNat ((0:Int),((0:Int),((0:Int),((0:Int),((0:Int),([],(false,(false,(0:Int)))))))))).2.2.2.2.2.2.2.2)) none) none)
def aI (n:Nat):Nat→jN×jL×jW×Int×jL×jL×jC×Int×Int→Option ((Bool)⊕(jN×jL×jW×Int×jL×jL×jC×Int))
 |0,_=>none
 |m+1,x=>(cond (decide (x.2.2.2.2.2.2.2.2<x.2.2.2.2.2.2.2.1)) ((gB n (x.1,x.2.1,x.2.2.1,x.2.2.2.1,x.2.2.2.2.1,x.2.2.2.2.2.1,x.2.2.2.2.2.2.1,x.2.2.2.2.2.2.2.1,x.2.2.2.2.2.2.2.2)).bind fun g2=>((dp n (g2.1,g2.2.1,g2.2.2.1,g2.2.2.2.1,g2.2.2.2.2.1,g2.2.2.2.2.2.1,g2.2.2.2.2.2.2.1,g2.2.2.2.2.2.2.2.1)).bind fun r3=>(cond r3 ((dp n (g2.1,g2.2.1,g2.2.2.1,g2.2.2.2.1,g2.2.2.2.2.1,g2.2.2.2.2.2.1,g2.2.2.2.2.2.2.1,g2.2.2.2.2.2.2.2.2.1)).bind fun r4=>(cond r4 (cond (g2.2.2.2.2.2.2.2.2.2.1==g2.2.2.2.2.2.2.2.2.2.2.2.2.2.2.2.2.2.2.1) (cond (g2.2.2.2.2.2.2.2.2.2.2.1==g2.2.2.2.2.2.2.2.2.2.2.2.2.2.2.2.2.2.2.2.1) (cond (g2.2.2.2.2.2.2.2.2.2.2.2.2.2.2.2.2.2.1==g2.2.2.2.2.2.2.2.2.2.2.2.2.2.2.2.2.2.2.2.2.2.2.2.2.2.2) (some (Sum.inl false)) (aI n m (g2.1,g2.2.1,g2.2.2.1,g2.2.2.2.1,g2.2.2.2.2.1,g2.2.2.2.2.2.1,g2.2.2.2.2.2.2.1,g2.2.2.2.2.2.2.2.1,(IntKind.i64.wrap (g2.2.2.2.2.2.2.2.2.1+(1:Int)))))) (aI n m (g2.1,g2.2.1,g2.2.2.1,g2.2.2.2.1,g2.2.2.2.2.1,g2.2.2.2.2.2.1,g2.2.2.2.2.2.2.1,g2.2.2.2.2.2.2.2.1,(IntKind.i64.wrap (g2.2.2.2.2.2.2.2.2.1+(1:Int)))))) (aI n m (g2.1,g2.2.1,g2.2.2.1,g2.2.2.2.1,g2.2.2.2.2.1,g2.2.2.2.2.2.1,g2.2.2.2.2.2.2.1,g2.2.2.2.2.2.2.2.1,(IntKind.i64.wrap (g2.2.2.2.2.2.2.2.2.1+(1:Int)))))) (aI n m (g2.1,g2.2.1,g2.2.2.1,g2.2.2.2.1,g2.2.2.2.2.1,g2.2.2.2.2.2.1,g2.2.2.2.2.2.2.1,g2.2.2.2.2.2.2.2.1,(IntKind.i64.wrap (g2.2.2.2.2.2.2.2.2.1+(1:Int))))))) (aI n m (g2.1,g2.2.1,g2.2.2.1,g2.2.2.2.1,g2.2.2.2.2.1,g2.2.2.2.2.2.1,g2.2.2.2.2.2.2.1,g2.2.2.2.2.2.2.2.1,(IntKind.i64.wrap (g2.2.2.2.2.2.2.2.2.1+(1:Int)))))))) (some (Sum.inr (x.1,x.2.1,x.2.2.1,x.2.2.2.1,x.2.2.2.2.1,x.2.2.2.2.2.1,x.2.2.2.2.2.2.1,x.2.2.2.2.2.2.2.1))))
def a0 (n:Nat):Nat→jN×jL×jW×Int×jL×jL×jC×Int→Option ((Bool)⊕(Unit))
 |0,_=>none
 |m+1,x=>(cond (decide (x.2.2.2.2.2.2.2<((x.2.2.1).length:Int))) ((aI n n (x.1,x.2.1,x.2.2.1,x.2.2.2.1,x.2.2.2.2.1,x.2.2.2.2.2.1,x.2.2.2.2.2.2.1,x.2.2.2.2.2.2.2,(0:Int))).bind fun e5=>(match e5 with|Sum.inl a6=>(some (Sum.inl a6))|Sum.inr b7=>(a0 n m (b7.1,b7.2.1,b7.2.2.1,b7.2.2.2.1,b7.2.2.2.2.1,b7.2.2.2.2.2.1,b7.2.2.2.2.2.2.1,(IntKind.i64.wrap (b7.2.2.2.2.2.2.2+(1:Int))))))) (some (Sum.inr ())))
def gT (n:Nat) (x:jN×jL×jW×Int×jL×jL×jC):Option (Bool) :=
 ((eT n (x.1,x.2.1,x.2.2.1,x.2.2.2.1,x.2.2.2.2.1,x.2.2.2.2.2.1,x.2.2.2.2.2.2)).bind fun r1=>(cond (!r1) (some false) ((a0 n n (x.1,x.2.1,x.2.2.1,x.2.2.2.1,x.2.2.2.2.1,x.2.2.2.2.2.1,x.2.2.2.2.2.2,(0:Int))).bind fun e8=>(match e8 with|Sum.inl a9=>(some a9)|Sum.inr b10=>(some true)))))
def UZ (n:Nat):aa:={ pars:=[.g [.i bR, .i (.sl (.int .i64)), .i dW,jI, .i (.sl (.int .i64)), .i (.sl (.int .i64)), .i (.sl (.pr (.int .i64) (.pr .bool .bool)))]],gh:=[],nb:=[],res:=[(false,[jB])],g:=gT n }
def jc (n:Nat) (g:jN×jL×jW×Int×jL×jL×jC×Int×Int→Option ((Bool)⊕(jN×jL×jW×Int×jL×jL×jC×Int))):cI:={ ent:=[.box 1 [1,0] [.i bR, .i (.sl (.int .i64)), .i dW,jI, .i (.sl (.int .i64)), .i (.sl (.int .i64)), .i (.sl (.pr (.int .i64) (.pr .bool .bool)))], .val 3 (jI), .val 4 (jI)],exs:=[(.ret,[.val 2 (jB)]),(.exit 2,[.box 1 [1,0] [.i bR, .i (.sl (.int .i64)), .i dW,jI, .i (.sl (.int .i64)), .i (.sl (.int .i64)), .i (.sl (.pr (.int .i64) (.pr .bool .bool)))], .val 3 (jI)])],g:=g }
def jd (n:Nat) (g:jN×jL×jW×Int×jL×jL×jC×Int→Option ((Bool)⊕(Unit))):cI:={ ent:=[.box 1 [1,0] [.i bR, .i (.sl (.int .i64)), .i dW,jI, .i (.sl (.int .i64)), .i (.sl (.int .i64)), .i (.sl (.pr (.int .i64) (.pr .bool .bool)))], .val 3 (jI)],exs:=[(.ret,[.val 2 (jB)]),(.exit 0,[])],g:=g }
def Xk (n:Nat):List (Nat×aa):=[(29,OS n),(33,OR n)]
def mJ (n:Nat) (g:jN×jL×jW×Int×jL×jL×jC×Int×Int→Option (jN×jL×jW×Int×jL×jL×jC×Int×Int×Int×Int×Int×Int×Int×jL×Bool×Bool×Int×Int×Int×Int×Int×Int×jL×Bool×Bool×Int)):iw:={ ent:=[.box 1 [1,0] [.i bR, .i (.sl (.int .i64)), .i dW,jI, .i (.sl (.int .i64)), .i (.sl (.int .i64)), .i (.sl (.pr (.int .i64) (.pr .bool .bool)))], .val 3 (jI), .val 4 (jI)],out:=[.box 1 [1,0] [.i bR, .i (.sl (.int .i64)), .i dW,jI, .i (.sl (.int .i64)), .i (.sl (.int .i64)), .i (.sl (.pr (.int .i64) (.pr .bool .bool)))], .val 3 (jI), .val 4 (jI), .box 5 [5,0] [jI,jI,jI,jI,jI, .i (.sl (.int .i64)),jB,jB,jI], .box 6 [6,0] [jI,jI,jI,jI,jI, .i (.sl (.int .i64)),jB,jB,jI]],g:=g }
def VU (n:Nat):List (Nat×iw):=[(9,mJ n (gB n))]
def My (n:Nat):aK:={ τ:=τ,N:=61,Γ:=gl (Xk n) [],Λ:=(fun q=>match q with   | 7=>some (jc n (aI n n))   | 4=>some (jd n (a0 n n))  | _=>none),Ω:=Cc (VU n) }
theorem qN (n:Nat):JT true (My n) (aj Tryz.f15) 9 [10,11,0,1,2,3,4,5,6,7,8,9,12,13] (mJ n (gB n)):=fun x=>by kernel_rfl
theorem qQ (n m:Nat) (x):aI n (m+1) x=cE (My n) (aC (aj Tryz.f15) 1) (jc n (aI n n)) (aI n m) x:=by kernel_rfl
theorem qR (n m:Nat) (x):a0 n (m+1) x=cE (My n) (aC (aj Tryz.f15) 0) (jd n (a0 n n)) (a0 n m) x:=by kernel_rfl
theorem TY (n:Nat) (x):gT n x=ar (My n) Tryz.f15 (UZ n) x:=by kernel_rfl
def iL (n:Nat) (x:jN×jL×jW×Int×jL×jL×jC):Option (Bool) :=
 ((fw n (x.1,x.2.1,x.2.2.1,x.2.2.2.1,x.2.2.2.2.1,x.2.2.2.2.2.1,x.2.2.2.2.2.2)).bind fun r1=>(cond r1 ((ge n (x.1,x.2.1,x.2.2.1,x.2.2.2.1,x.2.2.2.2.1,x.2.2.2.2.2.1,x.2.2.2.2.2.2)).bind fun r2=>(cond r2 ((gT n (x.1,x.2.1,x.2.2.1,x.2.2.2.1,x.2.2.2.2.1,x.2.2.2.2.2.1,x.2.2.2.2.2.2)).bind fun r3=>(some r3)) (some false))) (some false)))
def S5 (n:Nat):aa:={ pars:=[.g [.i bR, .i (.sl (.int .i64)), .i dW,jI, .i (.sl (.int .i64)), .i (.sl (.int .i64)), .i (.sl (.pr (.int .i64) (.pr .bool .bool)))]],gh:=[],nb:=[],res:=[(false,[jB])],g:=iL n }
def G5 (n:Nat):List (Nat×aa):=[(13,U1 n),(14,U0 n),(15,UZ n)]
def E5 (n:Nat):aK:={ τ:=τ,N:=13,Γ:=gl (G5 n) [],Λ:=(fun q=>match q with  | _=>none) }
theorem Yy (n:Nat) (x):iL n x=ar (E5 n) Tryz.f5 (S5 n) x:=by kernel_rfl
def aQ (n:Nat) (x:Int×Int×Int):Option (Bool) :=
 (cond (decide (x.1≥x.2.1)) (some (decide (x.1≤x.2.2))) (some false))
def FI (n:Nat):aa:={ pars:=[.c (jI), .c (jI), .c (jI)],gh:=[],nb:=[],res:=[(false,[jB])],g:=aQ n }
def WC (n:Nat):List (Nat×aa):=[]
def XO (n:Nat):aK:={ τ:=τ,N:=15,Γ:=gl (WC n) [],Λ:=(fun q=>match q with  | _=>none) }
theorem Tc (n:Nat) (x):aQ n x=ar (XO n) Tryz.f58 (FI n) x:=by kernel_rfl
def cH (n:Nat) (x:jN×Int):Option (jN×Bool) :=
 ((aQ n (x.2,(0:Int),(IntKind.i64.wrap (((x.1).length:Int)-(1:Int))))).bind fun r1=>(some (x.1,r1)))
def Mv (n:Nat):aa:={ pars:=[.p [.i bR], .c (jI)],gh:=[],nb:=[],res:=[(false,[jB])],g:=cH n }
def Wc (n:Nat):List (Nat×aa):=[(58,FI n)]
def Xz (n:Nat):aK:={ τ:=τ,N:=13,Γ:=gl (Wc n) [],Λ:=(fun q=>match q with  | _=>none) }
theorem SF (n:Nat) (x):cH n x=ar (Xz n) Tryz.f84 (Mv n) x:=by kernel_rfl
def eI (n:Nat) (x:jN×Int):Option (jN×Bool) :=
 ((aQ n (x.2,(0:Int),(IntKind.i64.wrap (((x.1).length:Int)-(1:Int))))).bind fun r1=>(some (x.1,r1)))
def Eh (n:Nat):aa:={ pars:=[.p [rt], .c (jI)],gh:=[],nb:=[],res:=[(false,[jB])],g:=eI n }
def Kz (n:Nat):List (Nat×aa):=[(58,FI n)]
def KF (n:Nat):aK:={ τ:=τ,N:=13,Γ:=gl (Kz n) [],Λ:=(fun q=>match q with  | _=>none) }
theorem Lp (n:Nat) (x):eI n x=ar (KF n) Tryz.f84 (Eh n) x:=by kernel_rfl
def ce (n:Nat) (x:Int):Option (Int) :=
 (cond (x==(1:Int)) (some (0:Int)) (cond (x==(5:Int)) (some (1:Int)) (cond (x==(7:Int)) (some (1:Int)) (cond (x==(2:Int)) (some (2:Int)) (cond (x==(3:Int)) (some (2:Int)) (cond (x==(4:Int)) (some (2:Int)) (cond (x==(6:Int)) (some (2:Int)) (cond (x==(8:Int)) (some (2:Int)) (some (-1:Int))))))))))
def JN (n:Nat):aa:={ pars:=[.c (jI)],gh:=[],nb:=[],res:=[(false,[jI])],g:=ce n }
def PG (n:Nat):List (Nat×aa):=[]
def Qz (n:Nat):aK:={ τ:=τ,N:=15,Γ:=gl (PG n) [],Λ:=(fun q=>match q with  | _=>none) }
theorem Oj (n:Nat) (x):ce n x=ar (Qz n) Tryz.f127 (JN n) x:=by kernel_rfl
def cL (n:Nat) (x:Int×Int×Int×Int):Option (Bool) :=
 ((ce n x.1).bind fun r1=>(cond (r1==(0:Int)) ((aQ n (x.2.1,(0:Int),(199:Int))).bind fun r2=>(cond r2 (some (x.2.2.1==(0:Int))) (some false))) (cond (r1==(1:Int)) ((aQ n (x.2.1,(0:Int),(IntKind.i64.wrap (x.2.2.2-(1:Int))))).bind fun r3=>(cond r3 (some (x.2.2.1==(0:Int))) (some false))) (cond (r1==(2:Int)) ((aQ n (x.2.1,(0:Int),(IntKind.i64.wrap (x.2.2.2-(1:Int))))).bind fun r4=>(cond r4 ((aQ n (x.2.2.1,(0:Int),(IntKind.i64.wrap (x.2.2.2-(1:Int))))).bind fun r5=>(cond r5 (cond (x.1 != (8:Int)) (some true) (some (decide (x.2.1≤x.2.2.1)))) (some false))) (some false))) (some false)))))
def JQ (n:Nat):aa:={ pars:=[.g [jI,jI,jI], .c (jI)],gh:=[],nb:=[],res:=[(false,[jB])],g:=cL n }
def P0 (n:Nat):List (Nat×aa):=[(127,JN n),(58,FI n)]
def QK (n:Nat):aK:={ τ:=τ,N:=56,Γ:=gl (P0 n) [],Λ:=(fun q=>match q with  | _=>none) }
theorem OF (n:Nat) (x):cL n x=ar (QK n) Tryz.f104 (JQ n) x:=by kernel_rfl
def az (n:Nat) (x:(List ((Int×(Int×Int))×Int))×Int×Int×Int×Int×jN×Int×Int):Option ((List ((Int×(Int×Int))×Int))×Int×Int×Int×Int×jN×Int×Int) :=
 (cond (aY (rP (.pr (.int .i64) (.pr (.int .i64) (.int .i64))) (x.2.2.1,(x.2.2.2.1,x.2.2.2.2.1)) x.1) ((kg (.pr (.int .i64) (.pr (.int .i64) (.int .i64))) (x.2.2.1,(x.2.2.2.1,x.2.2.2.2.1)) (eg (.pr (.int .i64) (.pr (.int .i64) (.int .i64))) (x.2.2.1,(x.2.2.2.1,x.2.2.2.2.1)) x.1) x.1)).length) (some ((E1 (rP (.pr (.int .i64) (.pr (.int .i64) (.int .i64))) (x.2.2.1,(x.2.2.2.1,x.2.2.2.2.1)) x.1) (IntKind.i64.wrap ((eg (.pr (.int .i64) (.pr (.int .i64) (.int .i64))) (x.2.2.1,(x.2.2.2.1,x.2.2.2.2.1)) x.1)+(1:Int))) (kg (.pr (.int .i64) (.pr (.int .i64) (.int .i64))) (x.2.2.1,(x.2.2.2.1,x.2.2.2.2.1)) (eg (.pr (.int .i64) (.pr (.int .i64) (.int .i64))) (x.2.2.1,(x.2.2.2.1,x.2.2.2.2.1)) x.1) x.1)),x.2.1,x.2.2.1,x.2.2.2.1,x.2.2.2.2.1,x.2.2.2.2.2.1,x.2.2.2.2.2.2.1,x.2.2.2.2.2.2.2)) none)
def bj (n:Nat) (x:(List ((Int×(Int×Int))×Int))×Int×Int×Int×Int×jN×Int×Int):Option ((List ((Int×(Int×Int))×Int))×Int×Int×Int×Int×jN×Int×Int) :=
 (cond (aY (rP (.pr (.int .i64) (.pr (.int .i64) (.int .i64))) (x.2.2.1,(x.2.2.2.1,x.2.2.2.2.1)) x.1) ((kg (.pr (.int .i64) (.pr (.int .i64) (.int .i64))) (x.2.2.1,(x.2.2.2.1,x.2.2.2.2.1)) (eg (.pr (.int .i64) (.pr (.int .i64) (.int .i64))) (x.2.2.1,(x.2.2.2.1,x.2.2.2.2.1)) x.1) x.1)).length) (some ((E1 (rP (.pr (.int .i64) (.pr (.int .i64) (.int .i64))) (x.2.2.1,(x.2.2.2.1,x.2.2.2.2.1)) x.1) (IntKind.i64.wrap ((eg (.pr (.int .i64) (.pr (.int .i64) (.int .i64))) (x.2.2.1,(x.2.2.2.1,x.2.2.2.2.1)) (kg (.pr (.int .i64) (.pr (.int .i64) (.int .i64))) (x.2.2.1,(x.2.2.2.1,x.2.2.2.2.1)) (eg (.pr (.int .i64) (.pr (.int .i64) (.int .i64))) (x.2.2.1,(x.2.2.2.1,x.2.2.2.2.1)) x.1) x.1))+(1:Int))) (kg (.pr (.int .i64) (.pr (.int .i64) (.int .i64))) (x.2.2.1,(x.2.2.2.1,x.2.2.2.2.1)) (eg (.pr (.int .i64) (.pr (.int .i64) (.int .i64))) (x.2.2.1,(x.2.2.2.1,x.2.2.2.2.1)) x.1) x.1)),x.2.1,x.2.2.1,x.2.2.2.1,x.2.2.2.2.1,x.2.2.2.2.2.1,x.2.2.2.2.2.2.1,x.2.2.2.2.2.2.2)) none)
def cw (n:Nat):Nat→(List ((Int×(Int×Int))×Int))×jN×Int×Int→Option ((Bool)⊕(Unit))
 |0,_=>none
 |m+1,x=>(cond (decide (x.2.2.2<x.2.2.1)) (cond (aY x.2.2.2 (x.2.1).length) ((az n (x.1,x.2.2.2,(x.2.1.getD (x.2.2.2).toNat ((0:Int),((0:Int),(0:Int)))).1,(x.2.1.getD (x.2.2.2).toNat ((0:Int),((0:Int),(0:Int)))).2.1,(x.2.1.getD (x.2.2.2).toNat ((0:Int),((0:Int),(0:Int)))).2.2,x.2.1,x.2.2.1,x.2.2.2)).bind fun g1=>(cond (decide ((eg (.pr (.int .i64) (.pr (.int .i64) (.int .i64))) (g1.2.2.1,(g1.2.2.2.1,g1.2.2.2.2.1)) g1.1)>(1:Int))) (some (Sum.inl false)) ((cL n (g1.2.2.1,g1.2.2.2.1,g1.2.2.2.2.1,g1.2.1)).bind fun r2=>(cond (!r2) (some (Sum.inl false)) (cw n m (g1.1,g1.2.2.2.2.2.1,g1.2.2.2.2.2.2.1,(IntKind.i64.wrap (g1.2.2.2.2.2.2.2+(1:Int))))))))) none) (some (Sum.inr ())))
def d9 (n:Nat) (x:jN):Option (Bool) :=
 (cond (decide (((x).length:Int)>(500:Int))) (some false) ((cw n n ([],x,((x).length:Int),(0:Int))).bind fun e3=>(match e3 with|Sum.inl a4=>(some a4)|Sum.inr b5=>(some true))))
def Mu (n:Nat):aa:={ pars:=[.g [.i bR]],gh:=[],nb:=[],res:=[(false,[jB])],g:=d9 n }
def lV (n:Nat) (g:(List ((Int×(Int×Int))×Int))×jN×Int×Int→Option ((Bool)⊕(Unit))):cI:={ ent:=[.val 3 (.m (.pr (.int .i64) (.pr (.int .i64) (.int .i64))) (.int .i64) true), .val 12 (.i bR), .val 13 (jI), .val 14 (jI)],exs:=[(.ret,[.val 2 (jB)]),(.exit 0,[])],g:=g }
def Wb (n:Nat):List (Nat×aa):=[(104,JQ n)]
def lX (n:Nat) (g:(List ((Int×(Int×Int))×Int))×Int×Int×Int×Int×jN×Int×Int→Option ((List ((Int×(Int×Int))×Int))×Int×Int×Int×Int×jN×Int×Int)):iw:={ ent:=[.val 3 (.m (.pr (.int .i64) (.pr (.int .i64) (.int .i64))) (.int .i64) true), .val 4 (jI), .box 5 [5,0] [jI,jI,jI], .val 12 (.i bR), .val 13 (jI), .val 14 (jI)],out:=[.val 3 (.m (.pr (.int .i64) (.pr (.int .i64) (.int .i64))) (.int .i64) true), .val 4 (jI), .box 5 [5,0] [jI,jI,jI], .val 12 (.i bR), .val 13 (jI), .val 14 (jI)],g:=g }
def VQ (n:Nat):List (Nat×iw):=[(7,lX n (az n))]
def Mx (n:Nat):aK:={ τ:=τ,N:=36,Γ:=gl (Wb n) [],Λ:=(fun q=>match q with   | 5=>some (lV n (cw n n))  | _=>none),Ω:=Cc (VQ n) }
theorem um (n:Nat) (x):(Ft (eK (aj Tryz.f85) 7)).map (fun π=>cY (Mx n) (eK (aj Tryz.f85) 7) (gE (eK (aj Tryz.f85) 7) π) (eC (lX n (az n)).ent x) (fun s=>ja (Mx n).N (lX n (az n)).out s))=[az n x,az n x,az n x,bj n x,bj n x,bj n x,az n x,az n x,az n x,bj n x,bj n x,bj n x]:=by kernel_rfl
theorem uF (n m:Nat) (x):cw n (m+1) x=cE (Mx n) (aC (aj Tryz.f85) 0) (lV n (cw n n)) (cw n m) x:=by kernel_rfl
theorem SE (n:Nat) (x):d9 n x=ar (Mx n) Tryz.f85 (Mu n) x:=by kernel_rfl
def br (n:Nat):Nat→jL×jN×jL×Int×Int→Option ((Bool)⊕(jL×jN))
 |0,_=>none
 |m+1,x=>(cond (decide (x.2.2.2.2<x.2.2.2.1)) (cond (aY x.2.2.2.2 (x.2.2.1).length) ((cH n (x.2.1,(x.2.2.1.getD (x.2.2.2.2).toNat (0:Int)))).bind fun r1=>(cond (!r1.2) (some (Sum.inl false)) (cond (decide (x.2.2.2.2>(0:Int))) (cond (aY (IntKind.i64.wrap (x.2.2.2.2-(1:Int))) (x.1).length) (cond (decide ((x.2.2.1.getD (x.2.2.2.2).toNat (0:Int))≤(x.1.getD ((IntKind.i64.wrap (x.2.2.2.2-(1:Int)))).toNat (0:Int)))) (some (Sum.inl false)) (br n m (x.1,r1.1,x.2.2.1,x.2.2.2.1,(IntKind.i64.wrap (x.2.2.2.2+(1:Int)))))) none) (br n m (x.1,r1.1,x.2.2.1,x.2.2.2.1,(IntKind.i64.wrap (x.2.2.2.2+(1:Int)))))))) none) (some (Sum.inr (x.1,x.2.1))))
def ni (n:Nat) (x:jN×jL):Option (Bool) :=
 ((br n n (x.2,x.1,x.2,((x.2).length:Int),(0:Int))).bind fun e2=>(match e2 with|Sum.inl a3=>(some a3)|Sum.inr b4=>(cond (decide (((b4.1).length:Int)≤(200:Int))) ((d9 n b4.2).bind fun r5=>(some r5)) (some false))))
def Uu (n:Nat):aa:={ pars:=[.g [.i bR], .c (.i (.sl (.int .i64)))],gh:=[],nb:=[],res:=[(false,[jB])],g:=ni n }
def lW (n:Nat) (g:jL×jN×jL×Int×Int→Option ((Bool)⊕(jL×jN))):cI:={ ent:=[.val 1 (.i (.sl (.int .i64))), .box 2 [2,0] [.i bR], .val 7 (.i (.sl (.int .i64))), .val 8 (jI), .val 9 (jI)],exs:=[(.ret,[.val 4 (jB)]),(.exit 0,[.val 1 (.i (.sl (.int .i64))), .box 2 [2,0] [.i bR]])],g:=g }
def WD (n:Nat):List (Nat×aa):=[(84,Mv n),(85,Mu n)]
def Vj (n:Nat):aK:={ τ:=τ,N:=38,Γ:=gl (WD n) [],Λ:=(fun q=>match q with   | 2=>some (lW n (br n n))  | _=>none) }
theorem uG (n m:Nat) (x):br n (m+1) x=cE (Vj n) (aC (aj Tryz.f57) 0) (lW n (br n n)) (br n m) x:=by kernel_rfl
theorem Td (n:Nat) (x):ni n x=ar (Vj n) Tryz.f57 (Uu n) x:=by kernel_rfl
def ay (n:Nat):Nat→jL×Int→Option ((Bool)⊕(Unit))
 |0,_=>none
 |m+1,x=>(cond (decide (x.2<((x.1).length:Int))) (cond (aY x.2 (x.1).length) (cond (aY (IntKind.i64.wrap (x.2-(1:Int))) (x.1).length) (cond (decide ((x.1.getD (x.2).toNat (0:Int))≤(x.1.getD ((IntKind.i64.wrap (x.2-(1:Int)))).toNat (0:Int)))) (some (Sum.inl false)) (ay n m (x.1,(IntKind.i64.wrap (x.2+(1:Int)))))) none) none) (some (Sum.inr ())))
def fI (n:Nat) (x:jL):Option (Bool) :=
 ((ay n n (x,(1:Int))).bind fun e1=>(match e1 with|Sum.inl a2=>(some a2)|Sum.inr b3=>(some true)))
def Ut (n:Nat):aa:={ pars:=[.c (.i (.sl (.int .i64)))],gh:=[],nb:=[],res:=[(false,[jB])],g:=fI n }
def ij (n:Nat) (g:jL×Int→Option ((Bool)⊕(Unit))):cI:={ ent:=[.val 0 (.i (.sl (.int .i64))), .val 3 (jI)],exs:=[(.ret,[.val 2 (jB)]),(.exit 0,[])],g:=g }
def WB (n:Nat):List (Nat×aa):=[]
def Vi (n:Nat):aK:={ τ:=τ,N:=20,Γ:=gl (WB n) [],Λ:=(fun q=>match q with   | 2=>some (ij n (ay n n))  | _=>none) }
theorem pg (n m:Nat) (x):ay n (m+1) x=cE (Vi n) (aC (aj Tryz.f59) 0) (ij n (ay n n)) (ay n m) x:=by kernel_rfl
theorem Tb (n:Nat) (x):fI n x=ar (Vi n) Tryz.f59 (Ut n) x:=by kernel_rfl
def gm (n:Nat) (x:Int×Int):Option (ByteArray) :=
 ((aQ n (x.1,(1:Int),(3:Int))).bind fun r1=>(cond (!r1) (some (⟨#[]⟩:ByteArray)) ((aQ n (x.2,(0:Int),(1:Int))).bind fun r2=>(cond (!r2) (some (⟨#[]⟩:ByteArray)) (cond (aY (IntKind.i64.wrap (x.1-(1:Int))) 3) (cond (aY x.2 2) (some ([([(Q9,QO),(Mq,II),(Ay,qe)].getD ((IntKind.i64.wrap (x.1-(1:Int)))).toNat ((⟨#[]⟩:ByteArray),(⟨#[]⟩:ByteArray))).1,([(Q9,QO),(Mq,II),(Ay,qe)].getD ((IntKind.i64.wrap (x.1-(1:Int)))).toNat ((⟨#[]⟩:ByteArray),(⟨#[]⟩:ByteArray))).2].getD (x.2).toNat (⟨#[]⟩:ByteArray))) none) none)))))
def L9 (n:Nat):aa:={ pars:=[.c (jI), .c (jI)],gh:=[],nb:=[],res:=[(false,[jS])],g:=gm n }
def PY (n:Nat):List (Nat×aa):=[(58,FI n)]
def QJ (n:Nat):aK:={ τ:=τ,N:=22,Γ:=gl (PY n) [],Λ:=(fun q=>match q with  | _=>none) }
theorem OD (n:Nat) (x):gm n x=ar (QJ n) Tryz.f106 (L9 n) x:=by kernel_rfl
def lu (n:Nat) (x:Int):Option (ByteArray) :=
 (cond (aY (IntKind.i64.wrap (x-(1:Int))) 4) (some ([(⟨#[102,114,101,115,104,32]⟩:ByteArray),(⟨#[115,101,110,100,32]⟩:ByteArray),(⟨#[116,97,107,101,32]⟩:ByteArray),(⟨#[99,108,97,105,109,32]⟩:ByteArray)].getD ((IntKind.i64.wrap (x-(1:Int)))).toNat (⟨#[]⟩:ByteArray))) none)
def Dn (n:Nat):aa:={ pars:=[.c (jI)],gh:=[],nb:=[],res:=[(false,[jS])],g:=lu n }
def Po (n:Nat):List (Nat×aa):=[]
def Ql (n:Nat):aK:={ τ:=τ,N:=7,Γ:=gl (Po n) [],Λ:=(fun q=>match q with  | _=>none) }
theorem NZ (n:Nat) (x):lu n x=ar (Ql n) Tryz.f151 (Dn n) x:=by kernel_rfl
def dw (n:Nat) (x:ByteArray×ByteArray):Option (Bool) :=
 (cond (decide (((x.1).size:Int)≥((x.2).size:Int))) (cond (zB 0 ((x.2).size:Int) (x.1).size) (some (jr (sub x.1 0 ((x.2).size:Int)) x.2)) none) (some false))
def LC (n:Nat):aa:={ pars:=[.c (jS), .c (jS)],gh:=[],nb:=[],res:=[(false,[jB])],g:=dw n }
def Pa (n:Nat):List (Nat×aa):=[]
def Qa (n:Nat):aK:={ τ:=τ,N:=18,Γ:=gl (Pa n) [],Λ:=(fun q=>match q with  | _=>none) }
theorem NL (n:Nat) (x):dw n x=ar (Qa n) Tryz.f192 (LC n) x:=by kernel_rfl
def dx (n:Nat) (x:ByteArray×ByteArray):Option (ByteArray×Bool) :=
 ((dw n (x.1,x.2)).bind fun r1=>(cond (!r1) (some (x.1,false)) (cond (zB ((x.2).size:Int) (x.1).size (x.1).size) (some ((sub x.1 ((x.2).size:Int) (x.1).size),true)) none)))
def LI (n:Nat):aa:={ pars:=[.c (jS), .c (jS)],gh:=[],nb:=[],res:=[(false,[jS]),(false,[jB])],g:=dx n }
def Ph (n:Nat):List (Nat×aa):=[(192,LC n)]
def Qg (n:Nat):aK:={ τ:=τ,N:=15,Γ:=gl (Ph n) [],Λ:=(fun q=>match q with  | _=>none) }
theorem NS (n:Nat) (x):dx n x=ar (Qg n) Tryz.f172 (LI n) x:=by kernel_rfl
def jq (n:Nat) (x:ByteArray×ByteArray):Option (ByteArray×Bool) :=
 ((dx n (x.1,x.2)).bind fun r1=>(some (r1.1,r1.2)))
def LL (n:Nat):aa:={ pars:=[.c (jS), .c (jS)],gh:=[],nb:=[],res:=[(false,[jS]),(false,[jB])],g:=jq n }
def Pp (n:Nat):List (Nat×aa):=[(172,LI n)]
def Qm (n:Nat):aK:={ τ:=τ,N:=11,Γ:=gl (Pp n) [],Λ:=(fun q=>match q with  | _=>none) }
theorem N1 (n:Nat) (x):jq n x=ar (Qm n) Tryz.f150 (LL n) x:=by kernel_rfl
def d7 (n:Nat):Nat→ByteArray×Int×ByteArray×Int→Option ((Int×ByteArray)⊕(Int×ByteArray))
 |0,_=>none
 |m+1,x=>(cond (decide (x.2.2.2≤(4:Int))) ((lu n x.2.2.2).bind fun r1=>((jq n (x.1,r1)).bind fun r2=>(cond r2.2 (some (Sum.inl (x.2.2.2,r2.1))) (d7 n m (x.1,x.2.1,x.2.2.1,(IntKind.i64.wrap (x.2.2.2+(1:Int)))))))) (some (Sum.inr (x.2.1,x.2.2.1))))
def rS (n:Nat) (x:ByteArray):Option (Int×ByteArray) :=
 ((d7 n n (x,(0:Int),(⟨#[]⟩:ByteArray),(1:Int))).bind fun e3=>(match e3 with|Sum.inl a4=>(some (a4.1,a4.2))|Sum.inr b5=>(some ((0:Int),(⟨#[]⟩:ByteArray)))))
def LW (n:Nat):aa:={ pars:=[.c (jS)],gh:=[],nb:=[],res:=[(true,[jI,jS])],g:=rS n }
def mG (n:Nat) (g:ByteArray×Int×ByteArray×Int→Option ((Int×ByteArray)⊕(Int×ByteArray))):cI:={ ent:=[.val 0 (jS), .box 2 [2,0] [jI,jS], .val 3 (jI)],exs:=[(.ret,[.box 2 [2,0] [jI,jS]]),(.exit 0,[.box 2 [2,0] [jI,jS]])],g:=g }
def PF (n:Nat):List (Nat×aa):=[(151,Dn n),(150,LL n)]
def Mh (n:Nat):aK:={ τ:=τ,N:=22,Γ:=gl (PF n) [],Λ:=(fun q=>match q with   | 2=>some (mG n (d7 n n))  | _=>none) }
theorem vE (n m:Nat) (x):d7 n (m+1) x=cE (Mh n) (aC (aj Tryz.f129) 0) (mG n (d7 n n)) (d7 n m) x:=by kernel_rfl
theorem Oi (n:Nat) (x):rS n x=ar (Mh n) Tryz.f129 (LW n) x:=by kernel_rfl
def fF (n:Nat) (x:ByteArray×Int×Int×ByteArray):Option (ByteArray×Int×Int×ByteArray×Int) :=
 (cond (decide (x.2.1≥((x.1).size:Int))) (some (x.1,x.2.1,x.2.2.1,x.2.2.2,(0:Int))) (cond (aY x.2.1 (x.1).size) (some (x.1,x.2.1,x.2.2.1,x.2.2.2,(bt x.1 x.2.1))) none))
def Ir (n:Nat):aa:={ pars:=[.p [jS,jI,jI,jS]],gh:=[],nb:=[],res:=[(false,[.i (.int .u8)])],g:=fF n }
def Pj (n:Nat):List (Nat×aa):=[]
def Qi (n:Nat):aK:={ τ:=τ,N:=22,Γ:=gl (Pj n) [],Λ:=(fun q=>match q with  | _=>none) }
theorem NU (n:Nat) (x):fF n x=ar (Qi n) Tryz.f169 (Ir n) x:=by kernel_rfl
def nz (n:Nat) (x:Int):Option (Bool) :=
 (cond (decide (x≥(48:Int))) (some (decide (x≤(57:Int)))) (some false))
def LG (n:Nat):aa:={ pars:=[.c (.i (.int .u8))],gh:=[],nb:=[],res:=[(false,[jB])],g:=nz n }
def Pf (n:Nat):List (Nat×aa):=[]
def Qe (n:Nat):aK:={ τ:=τ,N:=9,Γ:=gl (Pf n) [],Λ:=(fun q=>match q with  | _=>none) }
theorem NQ (n:Nat) (x):nz n x=ar (Qe n) Tryz.f181 (LG n) x:=by kernel_rfl
def bM (n:Nat):Nat→ByteArray×Int×Int×ByteArray×Int×Int→Option (ByteArray×Int×Int×ByteArray×Int×Int)
 |0,_=>none
 |m+1,x=>((fF n (x.1,x.2.1,x.2.2.1,x.2.2.2.1)).bind fun r1=>((nz n r1.2.2.2.2).bind fun r2=>(cond r2 (bM n m (r1.1,(IntKind.i64.wrap (r1.2.1+(1:Int))),r1.2.2.1,r1.2.2.2.1,x.2.2.2.2.1,x.2.2.2.2.2)) (some (r1.1,r1.2.1,r1.2.2.1,r1.2.2.2.1,x.2.2.2.2.1,x.2.2.2.2.2)))))
def iC (n:Nat) (x:ByteArray×Int×Int×ByteArray×Int):Option (ByteArray×Int×Int×ByteArray×Int) :=
 ((bM n n (x.1,x.2.1,x.2.2.1,x.2.2.2.1,x.2.2.2.2,x.2.1)).bind fun e3=>(cond (zB e3.2.2.2.2.2 e3.2.1 (e3.1).size) ((sV (sub e3.1 e3.2.2.2.2.2 e3.2.1)).bind fun r4=>(cond (!(!r4.2)) (some (e3.1,e3.2.1,e3.2.2.1,e3.2.2.2.1,(-1:Int))) (cond (decide ((((sub e3.1 e3.2.2.2.2.2 e3.2.1)).size:Int)>e3.2.2.2.2.1)) (some (e3.1,e3.2.1,e3.2.2.1,e3.2.2.2.1,(-1:Int))) ((sU r4.1).bind fun r5=>(cond (!jr r5 (sub e3.1 e3.2.2.2.2.2 e3.2.1)) (some (e3.1,e3.2.1,e3.2.2.1,e3.2.2.2.1,(-1:Int))) (some (e3.1,e3.2.1,e3.2.2.1,e3.2.2.2.1,r4.1))))))) none))
def LJ (n:Nat):aa:={ pars:=[.p [jS,jI,jI,jS], .c (jI)],gh:=[],nb:=[],res:=[(false,[jI])],g:=iC n }
def fK (n:Nat) (g:ByteArray×Int×Int×ByteArray×Int×Int→Option (ByteArray×Int×Int×ByteArray×Int×Int)):cI:={ ent:=[.box 0 [0] [jS,jI,jI,jS], .val 1 (jI), .val 5 (jI)],exs:=[(.exit 0,[.box 0 [0] [jS,jI,jI,jS], .val 1 (jI), .val 5 (jI)])],g:=g }
def Pl (n:Nat):List (Nat×aa):=[(169,Ir n),(181,LG n),(182,OU),(183,OT)]
def Me (n:Nat):aK:={ τ:=τ,N:=53,Γ:=gl (Pl n) [],Λ:=(fun q=>match q with   | 2=>some (fK n (bM n n))  | _=>none) }
theorem nE (n m:Nat) (x):bM n (m+1) x=cE (Me n) (aC (aj Tryz.f167) 0) (fK n (bM n n)) (bM n m) x:=by kernel_rfl
theorem NW (n:Nat) (x):iC n x=ar (Me n) Tryz.f167 (LJ n) x:=by kernel_rfl
def aH (n:Nat) (x:ByteArray×Int×Int×ByteArray×Int×Int):Option (ByteArray×Int×Int×ByteArray×Int) :=
 (cond (x.2.2.1==(0:Int)) (some (x.1,x.2.2.2.2.2,x.2.2.2.2.1,x.2.2.2.1,(-1:Int))) (some (x.1,x.2.1,x.2.2.1,x.2.2.2.1,(-1:Int))))
def Dm (n:Nat):aa:={ pars:=[.p [jS,jI,jI,jS], .c (jI), .c (jI)],gh:=[],nb:=[],res:=[(false,[jI])],g:=aH n }
def Pk (n:Nat):List (Nat×aa):=[]
def Qj (n:Nat):aK:={ τ:=τ,N:=20,Γ:=gl (Pk n) [],Λ:=(fun q=>match q with  | _=>none) }
theorem NV (n:Nat) (x):aH n x=ar (Qj n) Tryz.f168 (Dm n) x:=by kernel_rfl
def i8 (n:Nat) (x:ByteArray×Int×Int×ByteArray×Int):Option (ByteArray×Int×Int×ByteArray×Int) :=
 ((iC n (x.1,x.2.1,x.2.2.1,x.2.2.2.1,(9:Int))).bind fun r1=>((aQ n (r1.2.2.2.2,(0:Int),(199:Int))).bind fun r2=>(cond (!r2) ((aH n (r1.1,r1.2.1,r1.2.2.1,r1.2.2.2.1,(4:Int),x.2.2.2.2)).bind fun r3=>(some (r3.1,r3.2.1,r3.2.2.1,r3.2.2.2.1,r3.2.2.2.2))) (some (r1.1,r1.2.1,r1.2.2.1,r1.2.2.2.1,r1.2.2.2.2)))))
def LS (n:Nat):aa:={ pars:=[.p [jS,jI,jI,jS], .c (jI)],gh:=[],nb:=[],res:=[(false,[jI])],g:=i8 n }
def PB (n:Nat):List (Nat×aa):=[(167,LJ n),(58,FI n),(168,Dm n)]
def Qw (n:Nat):aK:={ τ:=τ,N:=15,Γ:=gl (PB n) [],Λ:=(fun q=>match q with  | _=>none) }
theorem Oe (n:Nat) (x):i8 n x=ar (Qw n) Tryz.f136 (LS n) x:=by kernel_rfl
def i9 (n:Nat) (x:ByteArray×Int×Int×ByteArray):Option (ByteArray×Int×Int×ByteArray×Int) :=
 ((fF n (x.1,(IntKind.i64.wrap (x.2.1+(1:Int))),x.2.2.1,x.2.2.2)).bind fun r1=>(cond (decide (r1.2.2.2.2<(97:Int))) ((aH n (r1.1,r1.2.1,r1.2.2.1,r1.2.2.2.1,(3:Int),r1.2.1)).bind fun r2=>(some (r2.1,r2.2.1,r2.2.2.1,r2.2.2.2.1,r2.2.2.2.2))) (cond (decide (r1.2.2.2.2>(122:Int))) ((aH n (r1.1,r1.2.1,r1.2.2.1,r1.2.2.2.1,(3:Int),r1.2.1)).bind fun r3=>(some (r3.1,r3.2.1,r3.2.2.1,r3.2.2.2.1,r3.2.2.2.2))) (some (r1.1,(IntKind.i64.wrap (r1.2.1+(1:Int))),r1.2.2.1,r1.2.2.2.1,(IntKind.i64.wrap (IntKind.u8.wrap (r1.2.2.2.2-(97:Int)))))))))
def LR (n:Nat):aa:={ pars:=[.p [jS,jI,jI,jS]],gh:=[],nb:=[],res:=[(false,[jI])],g:=i9 n }
def PA (n:Nat):List (Nat×aa):=[(169,Ir n),(168,Dm n)]
def Qv (n:Nat):aK:={ τ:=τ,N:=35,Γ:=gl (PA n) [],Λ:=(fun q=>match q with  | _=>none) }
theorem Od (n:Nat) (x):i9 n x=ar (Qv n) Tryz.f137 (LR n) x:=by kernel_rfl
def iD (n:Nat) (x:jP×Int×Int×jL):Option (jP) :=
 (cond (co ((x.1).length+([(x.2.1,(x.2.2.1,x.2.2.2))]).length)) (some (x.1++[(x.2.1,(x.2.2.1,x.2.2.2))])) none)
def fG (n:Nat) (x:jP×Int×Int×jL):Option (jP×Int) :=
 ((iD n (x.1,x.2.1,x.2.2.1,x.2.2.2)).bind fun g1=>(some (g1,(IntKind.i64.wrap (((g1).length:Int)-(1:Int))))))
def JL (n:Nat):aa:={ pars:=[.p [.o 172 (.pr (.int .u8) (.pr (.int .i64) (.sl (.int .i64))))], .g [.i (.int .u8),jI, .i (.sl (.int .i64))]],gh:=[],nb:=[],res:=[(false,[jI])],g:=fG n }
def Pz (n:Nat):List (Nat×aa):=[]
def lz (n:Nat) (g:jP×Int×Int×jL→Option (jP)):iw:={ ent:=[.box 0 [0] [.o 172 (.pr (.int .u8) (.pr (.int .i64) (.sl (.int .i64))))], .box 3 [3,0] [.i (.int .u8),jI, .i (.sl (.int .i64))]],out:=[.box 0 [0] [.o 172 (.pr (.int .u8) (.pr (.int .i64) (.sl (.int .i64))))]],g:=g }
def O3 (n:Nat):List (Nat×iw):=[(1,lz n (iD n))]
def JV (n:Nat):aK:={ τ:=τ,N:=21,Γ:=gl (Pz n) [],Λ:=(fun q=>match q with  | _=>none),Ω:=Cc (O3 n) }
theorem o7 (n:Nat):U6 (JV n) (aj Tryz.f138) 1 120 (lz n (iD n)):=fun x=>by kernel_rfl
theorem Oc (n:Nat) (x):fG n x=ar (JV n) Tryz.f138 (JL n) x:=by kernel_rfl
def iu (n:Nat) (x:ByteArray×Int×Int×ByteArray×Int×Bool×jP):Option (ByteArray×Int×Int×ByteArray×Bool×jP×Int) :=
 (cond (x.2.2.2.2.1==(110:Int)) ((i8 n (x.1,(IntKind.i64.wrap (x.2.1+(1:Int))),x.2.2.1,x.2.2.2.1,x.2.1)).bind fun r1=>((fG n (x.2.2.2.2.2.2,x.2.2.2.2.1,r1.2.2.2.2,([]:List Int))).bind fun r2=>(some (r1.1,r1.2.1,r1.2.2.1,r1.2.2.2.1,false,r2.1,r2.2)))) ((i9 n (x.1,x.2.1,x.2.2.1,x.2.2.2.1)).bind fun r3=>((fG n (x.2.2.2.2.2.2,x.2.2.2.2.1,r3.2.2.2.2,([]:List Int))).bind fun r4=>(some (r3.1,r3.2.1,r3.2.2.1,r3.2.2.2.1,false,r4.1,r4.2)))))
def LU (n:Nat):aa:={ pars:=[.p [jS,jI,jI,jS], .c (.i (.int .u8)), .p [.q [3] 0], .p [.o 172 (.pr (.int .u8) (.pr (.int .i64) (.sl (.int .i64))))]],gh:=[(2,0,none)],nb:=[],res:=[(false,[jI])],g:=iu n }
def PC (n:Nat):List (Nat×aa):=[(136,LS n),(138,JL n),(137,LR n)]
def Qx (n:Nat):aK:={ τ:=τ,N:=31,Γ:=gl (PC n) [],Λ:=(fun q=>match q with  | _=>none) }
theorem Of (n:Nat) (x):iu n x=ar (Qx n) Tryz.f135 (LU n) x:=by kernel_rfl
def aT (n:Nat) (x:ByteArray×Int×Int×ByteArray×Int×jL×Bool×jP):Option (ByteArray×Int×Int×ByteArray×Bool×jP×Int) :=
 ((fG n (x.2.2.2.2.2.2.2,x.2.2.2.2.1,(0:Int),x.2.2.2.2.2.1)).bind fun r1=>(some (x.1,x.2.1,x.2.2.1,x.2.2.2.1,false,r1.1,r1.2)))
def LQ (n:Nat):aa:={ pars:=[.p [jS,jI,jI,jS], .c (.i (.int .u8)), .c (.i (.sl (.int .i64))), .p [.q [4] 0], .p [.o 172 (.pr (.int .u8) (.pr (.int .i64) (.sl (.int .i64))))]],gh:=[(3,0,none)],nb:=[],res:=[(false,[jI])],g:=aT n }
def Py (n:Nat):List (Nat×aa):=[(138,JL n)]
def Qu (n:Nat):aK:={ τ:=τ,N:=13,Γ:=gl (Py n) [],Λ:=(fun q=>match q with  | _=>none) }
theorem Oa (n:Nat) (x):aT n x=ar (Qu n) Tryz.f139 (LQ n) x:=by kernel_rfl
def dq (n:Nat):Nat→Int×ByteArray×Int→Option ((Bool)⊕(Unit))
 |0,_=>none
 |m+1,x=>(cond (decide (x.2.2<((x.2.1).size:Int))) (cond (aY x.2.2 (x.2.1).size) (cond ((bt x.2.1 x.2.2)==x.1) (some (Sum.inl true)) (dq n m (x.1,x.2.1,(IntKind.i64.wrap (x.2.2+(1:Int)))))) none) (some (Sum.inr ())))
def aN (n:Nat) (x:Int×ByteArray):Option (Bool) :=
 ((dq n n (x.1,x.2,(0:Int))).bind fun e1=>(match e1 with|Sum.inl a2=>(some a2)|Sum.inr b3=>(some false)))
def LF (n:Nat):aa:={ pars:=[.c (.i (.int .u8)), .c (jS)],gh:=[],nb:=[],res:=[(false,[jB])],g:=aN n }
def kO (n:Nat) (g:Int×ByteArray×Int→Option ((Bool)⊕(Unit))):cI:={ ent:=[.val 0 (.i (.int .u8)), .val 1 (jS), .val 5 (jI)],exs:=[(.ret,[.val 4 (jB)]),(.exit 0,[])],g:=g }
def Pe (n:Nat):List (Nat×aa):=[]
def Md (n:Nat):aK:={ τ:=τ,N:=17,Γ:=gl (Pe n) [],Λ:=(fun q=>match q with   | 2=>some (kO n (dq n n))  | _=>none) }
theorem tv (n m:Nat) (x):dq n (m+1) x=cE (Md n) (aC (aj Tryz.f184) 0) (kO n (dq n n)) (dq n m) x:=by kernel_rfl
theorem NP (n:Nat) (x):aN n x=ar (Md n) Tryz.f184 (LF n) x:=by kernel_rfl
def l9 (n:Nat) (x:Int):Option (Int) :=
 (cond (x==(123:Int)) (some (125:Int)) (cond (x==(91:Int)) (some (93:Int)) (some (41:Int))))
def LD (n:Nat):aa:={ pars:=[.c (.i (.int .u8))],gh:=[],nb:=[],res:=[(false,[.i (.int .u8)])],g:=l9 n }
def Pc (n:Nat):List (Nat×aa):=[]
def Qc (n:Nat):aK:={ τ:=τ,N:=8,Γ:=gl (Pc n) [],Λ:=(fun q=>match q with  | _=>none) }
theorem NN (n:Nat) (x):l9 n x=ar (Qc n) Tryz.f186 (LD n) x:=by kernel_rfl
def bJ (n:Nat) (x:ByteArray×Int×Int×ByteArray×Int):Option (ByteArray×Int×Int×ByteArray) :=
 (cond (x.2.2.1 != (0:Int)) (some (x.1,x.2.1,x.2.2.1,x.2.2.2.1)) (cond (decide (x.2.1≥((x.1).size:Int))) ((aH n (x.1,x.2.1,x.2.2.1,x.2.2.2.1,(2:Int),((x.1).size:Int))).bind fun r1=>(some (r1.1,r1.2.1,r1.2.2.1,r1.2.2.2.1))) (cond (aY x.2.1 (x.1).size) (cond ((bt x.1 x.2.1) != x.2.2.2.2) ((aH n (x.1,x.2.1,x.2.2.1,x.2.2.2.1,(3:Int),x.2.1)).bind fun r2=>(some (r2.1,r2.2.1,r2.2.2.1,r2.2.2.2.1))) (some (x.1,(IntKind.i64.wrap (x.2.1+(1:Int))),x.2.2.1,x.2.2.2.1))) none)))
def JF (n:Nat):aa:={ pars:=[.p [jS,jI,jI,jS], .c (.i (.int .u8))],gh:=[],nb:=[],res:=[],g:=bJ n }
def Pb (n:Nat):List (Nat×aa):=[(168,Dm n)]
def Qb (n:Nat):aK:={ τ:=τ,N:=53,Γ:=gl (Pb n) [],Λ:=(fun q=>match q with  | _=>none) }
theorem NM (n:Nat) (x):bJ n x=ar (Qb n) Tryz.f187 (JF n) x:=by kernel_rfl
def bW (n:Nat) (rec_:ByteArray×Int×Int×ByteArray×Bool×Bool×Bool×jP→Option (ByteArray×Int×Int×ByteArray×Bool×Bool×Bool×jP×Int)) (x:ByteArray×Int×Int×ByteArray×Bool×Bool×Int×Bool×jP):Option (ByteArray×Int×Int×ByteArray×Bool×Bool×Bool×jP×jL) :=
 ((rec_ (x.1,x.2.1,x.2.2.1,x.2.2.2.1,false,false,false,x.2.2.2.2.2.2.2.2)).bind fun r1=>((bJ n (r1.1,r1.2.1,r1.2.2.1,r1.2.2.2.1,(44:Int))).bind fun r2=>((rec_ (r2.1,r2.2.1,r2.2.2.1,r2.2.2.2,false,false,false,r1.2.2.2.2.2.2.2.1)).bind fun r3=>((bJ n (r3.1,r3.2.1,r3.2.2.1,r3.2.2.2.1,x.2.2.2.2.2.2.1)).bind fun r4=>(some (r4.1,r4.2.1,r4.2.2.1,r4.2.2.2,false,false,false,r3.2.2.2.2.2.2.2.1,[r1.2.2.2.2.2.2.2.2,r3.2.2.2.2.2.2.2.2]))))))
def o5 (n:Nat) (rec_:ByteArray×Int×Int×ByteArray×Bool×Bool×Bool×jP→Option (ByteArray×Int×Int×ByteArray×Bool×Bool×Bool×jP×Int)) (x:ByteArray×Int×Int×ByteArray×Bool×Bool×Bool×jP):Option (ByteArray×Int×Int×ByteArray×Bool×Bool×Bool×jP×Int) :=
 (cond (x.2.2.1 != (0:Int)) (some (x.1,x.2.1,x.2.2.1,x.2.2.2.1,false,false,false,x.2.2.2.2.2.2.2,(-1:Int))) ((fF n (x.1,x.2.1,x.2.2.1,x.2.2.2.1)).bind fun r1=>(cond (decide (r1.2.1≥((r1.1).size:Int))) ((aH n (r1.1,r1.2.1,r1.2.2.1,r1.2.2.2.1,(2:Int),((r1.1).size:Int))).bind fun r2=>(some (r2.1,r2.2.1,r2.2.2.1,r2.2.2.2.1,false,false,false,x.2.2.2.2.2.2.2,r2.2.2.2.2))) (cond (r1.2.2.2.2==(110:Int)) ((iu n (r1.1,r1.2.1,r1.2.2.1,r1.2.2.2.1,r1.2.2.2.2,false,x.2.2.2.2.2.2.2)).bind fun r3=>(some (r3.1,r3.2.1,r3.2.2.1,r3.2.2.2.1,false,false,false,r3.2.2.2.2.2.1,r3.2.2.2.2.2.2))) ((aN n (r1.2.2.2.2,(⟨#[64,36,63]⟩:ByteArray))).bind fun r4=>(cond r4 ((aN n (r1.2.2.2.2,r1.2.2.2.1)).bind fun r5=>(cond r5 ((iu n (r1.1,r1.2.1,r1.2.2.1,r1.2.2.2.1,r1.2.2.2.2,false,x.2.2.2.2.2.2.2)).bind fun r6=>(some (r6.1,r6.2.1,r6.2.2.1,r6.2.2.2.1,false,false,false,r6.2.2.2.2.2.1,r6.2.2.2.2.2.2))) ((aN n (r1.2.2.2.2,(⟨#[40,123,91]⟩:ByteArray))).bind fun r7=>(cond r7 ((l9 n r1.2.2.2.2).bind fun r8=>((bW n rec_ (r1.1,(IntKind.i64.wrap (r1.2.1+(1:Int))),r1.2.2.1,r1.2.2.2.1,false,false,r8,false,x.2.2.2.2.2.2.2)).bind fun r9=>(cond (r9.2.2.1 != (0:Int)) (some (r9.1,r9.2.1,r9.2.2.1,r9.2.2.2.1,false,false,false,r9.2.2.2.2.2.2.2.1,(-1:Int))) ((aT n (r9.1,r9.2.1,r9.2.2.1,r9.2.2.2.1,r1.2.2.2.2,r9.2.2.2.2.2.2.2.2,false,r9.2.2.2.2.2.2.2.1)).bind fun r10=>(some (r10.1,r10.2.1,r10.2.2.1,r10.2.2.2.1,false,false,false,r10.2.2.2.2.2.1,r10.2.2.2.2.2.2)))))) ((aN n (r1.2.2.2.2,(⟨#[35,94]⟩:ByteArray))).bind fun r11=>(cond r11 ((rec_ (r1.1,(IntKind.i64.wrap (r1.2.1+(1:Int))),r1.2.2.1,r1.2.2.2.1,false,false,false,x.2.2.2.2.2.2.2)).bind fun r12=>(cond (r12.2.2.1 != (0:Int)) (some (r12.1,r12.2.1,r12.2.2.1,r12.2.2.2.1,false,false,false,r12.2.2.2.2.2.2.2.1,(-1:Int))) ((aT n (r12.1,r12.2.1,r12.2.2.1,r12.2.2.2.1,r1.2.2.2.2,[r12.2.2.2.2.2.2.2.2],false,r12.2.2.2.2.2.2.2.1)).bind fun r13=>(some (r13.1,r13.2.1,r13.2.2.1,r13.2.2.2.1,false,false,false,r13.2.2.2.2.2.1,r13.2.2.2.2.2.2))))) ((aN n (r1.2.2.2.2,(⟨#[60,62,33]⟩:ByteArray))).bind fun r14=>(cond r14 ((aN n (r1.2.2.2.2,r1.2.2.2.1)).bind fun r15=>(cond r15 ((rec_ (r1.1,(IntKind.i64.wrap (r1.2.1+(1:Int))),r1.2.2.1,r1.2.2.2.1,false,false,false,x.2.2.2.2.2.2.2)).bind fun r16=>(cond (r16.2.2.1 != (0:Int)) (some (r16.1,r16.2.1,r16.2.2.1,r16.2.2.2.1,false,false,false,r16.2.2.2.2.2.2.2.1,(-1:Int))) ((aT n (r16.1,r16.2.1,r16.2.2.1,r16.2.2.2.1,r1.2.2.2.2,[r16.2.2.2.2.2.2.2.2],false,r16.2.2.2.2.2.2.2.1)).bind fun r17=>(some (r17.1,r17.2.1,r17.2.2.1,r17.2.2.2.1,false,false,false,r17.2.2.2.2.2.1,r17.2.2.2.2.2.2))))) ((aN n (r1.2.2.2.2,(⟨#[107,42]⟩:ByteArray))).bind fun r18=>(cond r18 ((bJ n (r1.1,(IntKind.i64.wrap (r1.2.1+(1:Int))),r1.2.2.1,r1.2.2.2.1,(40:Int))).bind fun r19=>((bW n rec_ (r19.1,r19.2.1,r19.2.2.1,r19.2.2.2,false,false,(41:Int),false,x.2.2.2.2.2.2.2)).bind fun r20=>(cond (r20.2.2.1 != (0:Int)) (some (r20.1,r20.2.1,r20.2.2.1,r20.2.2.2.1,false,false,false,r20.2.2.2.2.2.2.2.1,(-1:Int))) ((aT n (r20.1,r20.2.1,r20.2.2.1,r20.2.2.2.1,r1.2.2.2.2,r20.2.2.2.2.2.2.2.2,false,r20.2.2.2.2.2.2.2.1)).bind fun r21=>(some (r21.1,r21.2.1,r21.2.2.1,r21.2.2.2.1,false,false,false,r21.2.2.2.2.2.1,r21.2.2.2.2.2.2)))))) ((aN n (r1.2.2.2.2,(⟨#[111,120]⟩:ByteArray))).bind fun r22=>(cond r22 ((aN n (r1.2.2.2.2,r1.2.2.2.1)).bind fun r23=>(cond r23 ((bJ n (r1.1,(IntKind.i64.wrap (r1.2.1+(1:Int))),r1.2.2.1,r1.2.2.2.1,(40:Int))).bind fun r24=>((bW n rec_ (r24.1,r24.2.1,r24.2.2.1,r24.2.2.2,false,false,(41:Int),false,x.2.2.2.2.2.2.2)).bind fun r25=>(cond (r25.2.2.1 != (0:Int)) (some (r25.1,r25.2.1,r25.2.2.1,r25.2.2.2.1,false,false,false,r25.2.2.2.2.2.2.2.1,(-1:Int))) ((aT n (r25.1,r25.2.1,r25.2.2.1,r25.2.2.2.1,r1.2.2.2.2,r25.2.2.2.2.2.2.2.2,false,r25.2.2.2.2.2.2.2.1)).bind fun r26=>(some (r26.1,r26.2.1,r26.2.2.1,r26.2.2.2.1,false,false,false,r26.2.2.2.2.2.1,r26.2.2.2.2.2.2)))))) ((aH n (r1.1,r1.2.1,r1.2.2.1,r1.2.2.2.1,(3:Int),r1.2.1)).bind fun r27=>(some (r27.1,r27.2.1,r27.2.2.1,r27.2.2.2.1,false,false,false,x.2.2.2.2.2.2.2,r27.2.2.2.2))))) ((aH n (r1.1,r1.2.1,r1.2.2.1,r1.2.2.2.1,(3:Int),r1.2.1)).bind fun r28=>(some (r28.1,r28.2.1,r28.2.2.1,r28.2.2.2.1,false,false,false,x.2.2.2.2.2.2.2,r28.2.2.2.2))))))))) ((aN n (r1.2.2.2.2,(⟨#[107,42]⟩:ByteArray))).bind fun r29=>(cond r29 ((bJ n (r1.1,(IntKind.i64.wrap (r1.2.1+(1:Int))),r1.2.2.1,r1.2.2.2.1,(40:Int))).bind fun r30=>((bW n rec_ (r30.1,r30.2.1,r30.2.2.1,r30.2.2.2,false,false,(41:Int),false,x.2.2.2.2.2.2.2)).bind fun r31=>(cond (r31.2.2.1 != (0:Int)) (some (r31.1,r31.2.1,r31.2.2.1,r31.2.2.2.1,false,false,false,r31.2.2.2.2.2.2.2.1,(-1:Int))) ((aT n (r31.1,r31.2.1,r31.2.2.1,r31.2.2.2.1,r1.2.2.2.2,r31.2.2.2.2.2.2.2.2,false,r31.2.2.2.2.2.2.2.1)).bind fun r32=>(some (r32.1,r32.2.1,r32.2.2.1,r32.2.2.2.1,false,false,false,r32.2.2.2.2.2.1,r32.2.2.2.2.2.2)))))) ((aN n (r1.2.2.2.2,(⟨#[111,120]⟩:ByteArray))).bind fun r33=>(cond r33 ((aN n (r1.2.2.2.2,r1.2.2.2.1)).bind fun r34=>(cond r34 ((bJ n (r1.1,(IntKind.i64.wrap (r1.2.1+(1:Int))),r1.2.2.1,r1.2.2.2.1,(40:Int))).bind fun r35=>((bW n rec_ (r35.1,r35.2.1,r35.2.2.1,r35.2.2.2,false,false,(41:Int),false,x.2.2.2.2.2.2.2)).bind fun r36=>(cond (r36.2.2.1 != (0:Int)) (some (r36.1,r36.2.1,r36.2.2.1,r36.2.2.2.1,false,false,false,r36.2.2.2.2.2.2.2.1,(-1:Int))) ((aT n (r36.1,r36.2.1,r36.2.2.1,r36.2.2.2.1,r1.2.2.2.2,r36.2.2.2.2.2.2.2.2,false,r36.2.2.2.2.2.2.2.1)).bind fun r37=>(some (r37.1,r37.2.1,r37.2.2.1,r37.2.2.2.1,false,false,false,r37.2.2.2.2.2.1,r37.2.2.2.2.2.2)))))) ((aH n (r1.1,r1.2.1,r1.2.2.1,r1.2.2.2.1,(3:Int),r1.2.1)).bind fun r38=>(some (r38.1,r38.2.1,r38.2.2.1,r38.2.2.2.1,false,false,false,x.2.2.2.2.2.2.2,r38.2.2.2.2))))) ((aH n (r1.1,r1.2.1,r1.2.2.1,r1.2.2.2.1,(3:Int),r1.2.1)).bind fun r39=>(some (r39.1,r39.2.1,r39.2.2.1,r39.2.2.2.1,false,false,false,x.2.2.2.2.2.2.2,r39.2.2.2.2))))))))))))))) ((aN n (r1.2.2.2.2,(⟨#[40,123,91]⟩:ByteArray))).bind fun r40=>(cond r40 ((l9 n r1.2.2.2.2).bind fun r41=>((bW n rec_ (r1.1,(IntKind.i64.wrap (r1.2.1+(1:Int))),r1.2.2.1,r1.2.2.2.1,false,false,r41,false,x.2.2.2.2.2.2.2)).bind fun r42=>(cond (r42.2.2.1 != (0:Int)) (some (r42.1,r42.2.1,r42.2.2.1,r42.2.2.2.1,false,false,false,r42.2.2.2.2.2.2.2.1,(-1:Int))) ((aT n (r42.1,r42.2.1,r42.2.2.1,r42.2.2.2.1,r1.2.2.2.2,r42.2.2.2.2.2.2.2.2,false,r42.2.2.2.2.2.2.2.1)).bind fun r43=>(some (r43.1,r43.2.1,r43.2.2.1,r43.2.2.2.1,false,false,false,r43.2.2.2.2.2.1,r43.2.2.2.2.2.2)))))) ((aN n (r1.2.2.2.2,(⟨#[35,94]⟩:ByteArray))).bind fun r44=>(cond r44 ((rec_ (r1.1,(IntKind.i64.wrap (r1.2.1+(1:Int))),r1.2.2.1,r1.2.2.2.1,false,false,false,x.2.2.2.2.2.2.2)).bind fun r45=>(cond (r45.2.2.1 != (0:Int)) (some (r45.1,r45.2.1,r45.2.2.1,r45.2.2.2.1,false,false,false,r45.2.2.2.2.2.2.2.1,(-1:Int))) ((aT n (r45.1,r45.2.1,r45.2.2.1,r45.2.2.2.1,r1.2.2.2.2,[r45.2.2.2.2.2.2.2.2],false,r45.2.2.2.2.2.2.2.1)).bind fun r46=>(some (r46.1,r46.2.1,r46.2.2.1,r46.2.2.2.1,false,false,false,r46.2.2.2.2.2.1,r46.2.2.2.2.2.2))))) ((aN n (r1.2.2.2.2,(⟨#[60,62,33]⟩:ByteArray))).bind fun r47=>(cond r47 ((aN n (r1.2.2.2.2,r1.2.2.2.1)).bind fun r48=>(cond r48 ((rec_ (r1.1,(IntKind.i64.wrap (r1.2.1+(1:Int))),r1.2.2.1,r1.2.2.2.1,false,false,false,x.2.2.2.2.2.2.2)).bind fun r49=>(cond (r49.2.2.1 != (0:Int)) (some (r49.1,r49.2.1,r49.2.2.1,r49.2.2.2.1,false,false,false,r49.2.2.2.2.2.2.2.1,(-1:Int))) ((aT n (r49.1,r49.2.1,r49.2.2.1,r49.2.2.2.1,r1.2.2.2.2,[r49.2.2.2.2.2.2.2.2],false,r49.2.2.2.2.2.2.2.1)).bind fun r50=>(some (r50.1,r50.2.1,r50.2.2.1,r50.2.2.2.1,false,false,false,r50.2.2.2.2.2.1,r50.2.2.2.2.2.2))))) ((aN n (r1.2.2.2.2,(⟨#[107,42]⟩:ByteArray))).bind fun r51=>(cond r51 ((bJ n (r1.1,(IntKind.i64.wrap (r1.2.1+(1:Int))),r1.2.2.1,r1.2.2.2.1,(40:Int))).bind fun r52=>((bW n rec_ (r52.1,r52.2.1,r52.2.2.1,r52.2.2.2,false,false,(41:Int),false,x.2.2.2.2.2.2.2)).bind fun r53=>(cond (r53.2.2.1 != (0:Int)) (some (r53.1,r53.2.1,r53.2.2.1,r53.2.2.2.1,false,false,false,r53.2.2.2.2.2.2.2.1,(-1:Int))) ((aT n (r53.1,r53.2.1,r53.2.2.1,r53.2.2.2.1,r1.2.2.2.2,r53.2.2.2.2.2.2.2.2,false,r53.2.2.2.2.2.2.2.1)).bind fun r54=>(some (r54.1,r54.2.1,r54.2.2.1,r54.2.2.2.1,false,false,false,r54.2.2.2.2.2.1,r54.2.2.2.2.2.2)))))) ((aN n (r1.2.2.2.2,(⟨#[111,120]⟩:ByteArray))).bind fun r55=>(cond r55 ((aN n (r1.2.2.2.2,r1.2.2.2.1)).bind fun r56=>(cond r56 ((bJ n (r1.1,(IntKind.i64.wrap (r1.2.1+(1:Int))),r1.2.2.1,r1.2.2.2.1,(40:Int))).bind fun r57=>((bW n rec_ (r57.1,r57.2.1,r57.2.2.1,r57.2.2.2,false,false,(41:Int),false,x.2.2.2.2.2.2.2)).bind fun r58=>(cond (r58.2.2.1 != (0:Int)) (some (r58.1,r58.2.1,r58.2.2.1,r58.2.2.2.1,false,false,false,r58.2.2.2.2.2.2.2.1,(-1:Int))) ((aT n (r58.1,r58.2.1,r58.2.2.1,r58.2.2.2.1,r1.2.2.2.2,r58.2.2.2.2.2.2.2.2,false,r58.2.2.2.2.2.2.2.1)).bind fun r59=>(some (r59.1,r59.2.1,r59.2.2.1,r59.2.2.2.1,false,false,false,r59.2.2.2.2.2.1,r59.2.2.2.2.2.2)))))) ((aH n (r1.1,r1.2.1,r1.2.2.1,r1.2.2.2.1,(3:Int),r1.2.1)).bind fun r60=>(some (r60.1,r60.2.1,r60.2.2.1,r60.2.2.2.1,false,false,false,x.2.2.2.2.2.2.2,r60.2.2.2.2))))) ((aH n (r1.1,r1.2.1,r1.2.2.1,r1.2.2.2.1,(3:Int),r1.2.1)).bind fun r61=>(some (r61.1,r61.2.1,r61.2.2.1,r61.2.2.2.1,false,false,false,x.2.2.2.2.2.2.2,r61.2.2.2.2))))))))) ((aN n (r1.2.2.2.2,(⟨#[107,42]⟩:ByteArray))).bind fun r62=>(cond r62 ((bJ n (r1.1,(IntKind.i64.wrap (r1.2.1+(1:Int))),r1.2.2.1,r1.2.2.2.1,(40:Int))).bind fun r63=>((bW n rec_ (r63.1,r63.2.1,r63.2.2.1,r63.2.2.2,false,false,(41:Int),false,x.2.2.2.2.2.2.2)).bind fun r64=>(cond (r64.2.2.1 != (0:Int)) (some (r64.1,r64.2.1,r64.2.2.1,r64.2.2.2.1,false,false,false,r64.2.2.2.2.2.2.2.1,(-1:Int))) ((aT n (r64.1,r64.2.1,r64.2.2.1,r64.2.2.2.1,r1.2.2.2.2,r64.2.2.2.2.2.2.2.2,false,r64.2.2.2.2.2.2.2.1)).bind fun r65=>(some (r65.1,r65.2.1,r65.2.2.1,r65.2.2.2.1,false,false,false,r65.2.2.2.2.2.1,r65.2.2.2.2.2.2)))))) ((aN n (r1.2.2.2.2,(⟨#[111,120]⟩:ByteArray))).bind fun r66=>(cond r66 ((aN n (r1.2.2.2.2,r1.2.2.2.1)).bind fun r67=>(cond r67 ((bJ n (r1.1,(IntKind.i64.wrap (r1.2.1+(1:Int))),r1.2.2.1,r1.2.2.2.1,(40:Int))).bind fun r68=>((bW n rec_ (r68.1,r68.2.1,r68.2.2.1,r68.2.2.2,false,false,(41:Int),false,x.2.2.2.2.2.2.2)).bind fun r69=>(cond (r69.2.2.1 != (0:Int)) (some (r69.1,r69.2.1,r69.2.2.1,r69.2.2.2.1,false,false,false,r69.2.2.2.2.2.2.2.1,(-1:Int))) ((aT n (r69.1,r69.2.1,r69.2.2.1,r69.2.2.2.1,r1.2.2.2.2,r69.2.2.2.2.2.2.2.2,false,r69.2.2.2.2.2.2.2.1)).bind fun r70=>(some (r70.1,r70.2.1,r70.2.2.1,r70.2.2.2.1,false,false,false,r70.2.2.2.2.2.1,r70.2.2.2.2.2.2)))))) ((aH n (r1.1,r1.2.1,r1.2.2.1,r1.2.2.2.1,(3:Int),r1.2.1)).bind fun r71=>(some (r71.1,r71.2.1,r71.2.2.1,r71.2.2.2.1,false,false,false,x.2.2.2.2.2.2.2,r71.2.2.2.2))))) ((aH n (r1.1,r1.2.1,r1.2.2.1,r1.2.2.2.1,(3:Int),r1.2.1)).bind fun r72=>(some (r72.1,r72.2.1,r72.2.2.1,r72.2.2.2.1,false,false,false,x.2.2.2.2.2.2.2,r72.2.2.2.2)))))))))))))))))))
def ej (n:Nat):Nat→(ByteArray×Int×Int×ByteArray×Bool×Bool×Bool×jP)→Option (ByteArray×Int×Int×ByteArray×Bool×Bool×Bool×jP×Int)
 |0,_=>none
 |k+1,x=>o5 n (ej n k) x
def JG (n:Nat) (k:Nat):aa:={ pars:=[.p [jS,jI,jI,jS, .f 135 [([2],0)], .f 139 [([2],0)]], .c (.i (.int .u8)), .p [.q [3] 0], .p [.o 172 (.pr (.int .u8) (.pr (.int .i64) (.sl (.int .i64))))]],gh:=[(0,4,some 0),(2,0,none)],nb:=[],res:=[(false,[.i (.sl (.int .i64))])],g:=bW n (ej n k) }
def FJ (n:Nat) (k:Nat):aa:={ pars:=[.p [jS,jI,jI,jS, .f 135 [([1],0)], .f 139 [([1],0)]], .p [.q [2] 0], .p [.o 172 (.pr (.int .u8) (.pr (.int .i64) (.sl (.int .i64))))]],gh:=[(0,4,some 0),(1,0,none)],nb:=[],res:=[(false,[jI])],g:=ej n k }
def Pd (n:Nat) (k:Nat):List (Nat×aa):=[(170,FJ n k),(187,JF n)]
def Qd (n:Nat) (k:Nat):aK:={ τ:=τ,N:=19,Γ:=gl (Pd n k) [],Λ:=(fun q=>match q with  | _=>none) }
theorem NO (n k:Nat) (x):bW n (ej n k) x=ar (Qd n k) Tryz.f185 (JG n k) x:=by kernel_rfl
def Pi (n:Nat) (k:Nat):List (Nat×aa):=[(169,Ir n),(168,Dm n),(135,LU n),(184,LF n),(186,LD n),(185,JG n k),(139,LQ n),(170,FJ n k),(187,JF n)]
def Qh (n:Nat) (k:Nat):aK:={ τ:=τ,N:=135,Γ:=gl (Pi n k) [],Λ:=(fun q=>match q with  | _=>none) }
theorem NT (n k:Nat) (x):ej n (k+1) x=ar (Qh n k) Tryz.f170 (FJ n (k+1)) x:=by kernel_rfl
def lG (n:Nat) (x:ByteArray×Int×Int×ByteArray×Bool×Bool×Int×Bool×jP):Option (ByteArray×Int×Int×ByteArray×Bool×Bool×Bool×jP×Int) :=
 (cond (decide (((x.1).size:Int)>x.2.2.2.2.2.2.1)) ((aH n (x.1,x.2.1,x.2.2.1,x.2.2.2.1,(1:Int),(0:Int))).bind fun r1=>(some (r1.1,r1.2.1,r1.2.2.1,r1.2.2.2.1,false,false,false,x.2.2.2.2.2.2.2.2,r1.2.2.2.2))) ((ej n n (x.1,x.2.1,x.2.2.1,x.2.2.2.1,false,false,false,x.2.2.2.2.2.2.2.2)).bind fun r2=>(cond (r2.2.2.1==(0:Int)) (cond (decide (r2.2.1<((r2.1).size:Int))) ((aH n (r2.1,r2.2.1,r2.2.2.1,r2.2.2.2.1,(6:Int),r2.2.1)).bind fun r3=>(some (r3.1,r3.2.1,r3.2.2.1,r3.2.2.2.1,false,false,false,r2.2.2.2.2.2.2.2.1,r3.2.2.2.2))) (some (r2.1,r2.2.1,r2.2.2.1,r2.2.2.2.1,false,false,false,r2.2.2.2.2.2.2.2.1,r2.2.2.2.2.2.2.2.2))) (some (r2.1,r2.2.1,r2.2.2.1,r2.2.2.2.1,false,false,false,r2.2.2.2.2.2.2.2.1,r2.2.2.2.2.2.2.2.2)))))
def LP (n:Nat):aa:={ pars:=[.p [jS,jI,jI,jS, .f 135 [([2],0)], .f 139 [([2],0)]], .c (jI), .p [.q [3] 0], .p [.o 172 (.pr (.int .u8) (.pr (.int .i64) (.sl (.int .i64))))]],gh:=[(0,4,some 0),(2,0,none)],nb:=[],res:=[(false,[jI])],g:=lG n }
def Px (n:Nat):List (Nat×aa):=[(168,Dm n),(170,FJ n n)]
def Qt (n:Nat):aK:={ τ:=τ,N:=41,Γ:=gl (Px n) [],Λ:=(fun q=>match q with  | _=>none) }
theorem N9 (n:Nat) (x):lG n x=ar (Qt n) Tryz.f140 (LP n) x:=by kernel_rfl
def dh (n:Nat) (x:ByteArray):Option (Bool×Bool×jP) :=
 ((lG n (x,(0:Int),(0:Int),(⟨#[36,63,120]⟩:ByteArray),false,false,(200:Int),false,[])).bind fun r1=>(some (false,(r1.2.2.1==(0:Int)),r1.2.2.2.2.2.2.2.1)))
def FM (n:Nat):aa:={ pars:=[.c (jS)],gh:=[],nb:=[(0,[77,77],[.o 172 (.pr (.int .u8) (.pr (.int .i64) (.sl (.int .i64))))])],res:=[(false,[.q [77,77] 0]),(false,[jB])],g:=dh n }
def PR (n:Nat):List (Nat×aa):=[(140,LP n)]
def QF (n:Nat):aK:={ τ:=τ,N:=27,Γ:=gl (PR n) [],Λ:=(fun q=>match q with  | _=>none) }
theorem Ox (n:Nat) (x):dh n x=ar (QF n) Tryz.f116 (FM n) x:=by kernel_rfl
def bQ (n:Nat) (x:jP):Option (jP×Int) :=
 (some (x,(IntKind.i64.wrap (((x).length:Int)-(1:Int)))))
def It (n:Nat):aa:={ pars:=[.p [.i (.sl (.pr (.int .u8) (.pr (.int .i64) (.sl (.int .i64)))))]],gh:=[],nb:=[],res:=[(false,[jI])],g:=bQ n }
def PP (n:Nat):List (Nat×aa):=[]
def QE (n:Nat):aK:={ τ:=τ,N:=9,Γ:=gl (PP n) [],Λ:=(fun q=>match q with  | _=>none) }
theorem Ov (n:Nat) (x):bQ n x=ar (QE n) Tryz.f118 (It n) x:=by kernel_rfl
def be (n:Nat) (rec_:jP×Int×Int→Option (jP×Bool)):Nat→jP×Int×Int×Int×jL×jL×Int×Int→Option ((jP×Bool)⊕(jP×Int×Int×Int×jL))
 |0,_=>none
 |m+1,x=>(cond (decide (x.2.2.2.2.2.2.2<x.2.2.2.2.2.2.1)) (cond (aY x.2.2.2.2.2.2.2 (x.2.2.2.2.2.1).length) ((rec_ (x.1,(x.2.2.2.2.2.1.getD (x.2.2.2.2.2.2.2).toNat (0:Int)),x.2.1)).bind fun r1=>(cond r1.2 (some (Sum.inl (r1.1,true))) (be n rec_ m (r1.1,x.2.1,x.2.2.1,x.2.2.2.1,x.2.2.2.2.1,x.2.2.2.2.2.1,x.2.2.2.2.2.2.1,(IntKind.i64.wrap (x.2.2.2.2.2.2.2+(1:Int))))))) none) (some (Sum.inr (x.1,x.2.1,x.2.2.1,x.2.2.2.1,x.2.2.2.2.1))))
def o6 (n:Nat) (rec_:jP×Int×Int→Option (jP×Bool)) (x:jP×Int×Int):Option (jP×Bool) :=
 (cond (aY x.2.1 (x.1).length) ((be n rec_ n (x.1,x.2.2,(x.1.getD (x.2.1).toNat ((0:Int),((0:Int),[]))).1,(x.1.getD (x.2.1).toNat ((0:Int),((0:Int),[]))).2.1,(x.1.getD (x.2.1).toNat ((0:Int),((0:Int),[]))).2.2,(x.1.getD (x.2.1).toNat ((0:Int),((0:Int),[]))).2.2,(((x.1.getD (x.2.1).toNat ((0:Int),((0:Int),[]))).2.2).length:Int),(0:Int))).bind fun e2=>(match e2 with|Sum.inl a3=>(some (a3.1,a3.2))|Sum.inr b4=>(some (b4.1,(b4.2.2.1==b4.2.1))))) none)
def aD (n:Nat):Nat→(jP×Int×Int)→Option (jP×Bool)
 |0,_=>none
 |k+1,x=>o6 n (aD n k) x
def FL (n:Nat) (k:Nat):aa:={ pars:=[.p [.i (.sl (.pr (.int .u8) (.pr (.int .i64) (.sl (.int .i64)))))], .c (jI), .c (.i (.int .u8))],gh:=[],nb:=[],res:=[(false,[jB])],g:=aD n k }
def ii (n:Nat) (g:jP×Int×Int×Int×jL×jL×Int×Int→Option ((jP×Bool)⊕(jP×Int×Int×Int×jL))):cI:={ ent:=[.box 0 [0] [.i (.sl (.pr (.int .u8) (.pr (.int .i64) (.sl (.int .i64)))))], .val 2 (.i (.int .u8)), .box 7 [7,0] [.i (.int .u8),jI, .i (.sl (.int .i64))], .val 18 (.i (.sl (.int .i64))), .val 19 (jI), .val 20 (jI)],exs:=[(.ret,[.box 0 [0] [.i (.sl (.pr (.int .u8) (.pr (.int .i64) (.sl (.int .i64)))))], .val 6 (jB)]),(.exit 0,[.box 0 [0] [.i (.sl (.pr (.int .u8) (.pr (.int .i64) (.sl (.int .i64)))))], .val 2 (.i (.int .u8)), .box 7 [7,0] [.i (.int .u8),jI, .i (.sl (.int .i64))]])],g:=g }
def PQ (n:Nat) (k:Nat):List (Nat×aa):=[(117,FL n k)]
def Ml (n:Nat) (k:Nat):aK:={ τ:=τ,N:=33,Γ:=gl (PQ n k) [],Λ:=(fun q=>match q with   | 3=>some (ii n (be n (aD n k) n))  | _=>none) }
theorem pd (n m k:Nat) (x):be n (aD n k) (m+1) x=cE (Ml n k) (aC (aj Tryz.f117) 0) (ii n (be n (aD n k) n)) (be n (aD n k) m) x:=by kernel_rfl
theorem Ow (n k:Nat) (x):aD n (k+1) x=ar (Ml n k) Tryz.f117 (FL n (k+1)) x:=by kernel_rfl
def rT (n:Nat) (x:ByteArray):Option (Bool) :=
 ((dh n x).bind fun r1=>(some r1.2.1))
def LH (n:Nat):aa:={ pars:=[.c (jS)],gh:=[],nb:=[],res:=[(false,[jB])],g:=rT n }
def Pg (n:Nat):List (Nat×aa):=[(116,FM n)]
def Qf (n:Nat):aK:={ τ:=τ,N:=11,Γ:=gl (Pg n) [],Λ:=(fun q=>match q with  | _=>none) }
theorem NR (n:Nat) (x):rT n x=ar (Qf n) Tryz.f173 (LH n) x:=by kernel_rfl
def rU (n:Nat) (x:Int×ByteArray):Option (Bool) :=
 (cond (x.1==(1:Int)) (cond (((x.2).size:Int)==(1:Int)) (cond (aY (0:Int) (x.2).size) (cond (decide ((bt x.2 (0:Int))≥(97:Int))) (cond (aY (0:Int) (x.2).size) (some (decide ((bt x.2 (0:Int))≤(122:Int)))) none) (some false)) none) (some false)) (cond (x.1==(2:Int)) ((dh n x.2).bind fun r1=>(cond r1.2.1 ((bQ n r1.2.2).bind fun r2=>((aD n n (r2.1,r2.2,(63:Int))).bind fun r3=>(some (!r3.2)))) (some false))) (cond (x.1==(4:Int)) ((dh n x.2).bind fun r4=>(cond r4.2.1 ((bQ n r4.2.2).bind fun r5=>((aD n n (r5.1,r5.2,(63:Int))).bind fun r6=>(some (!r6.2)))) (some false))) (cond (x.1==(3:Int)) ((rT n x.2).bind fun r7=>(some r7)) (some false)))))
def LK (n:Nat):aa:={ pars:=[.g [jI,jS]],gh:=[],nb:=[],res:=[(false,[jB])],g:=rU n }
def Pn (n:Nat):List (Nat×aa):=[(116,FM n),(118,It n),(117,FL n n),(173,LH n)]
def Qk (n:Nat):aK:={ τ:=τ,N:=47,Γ:=gl (Pn n) [],Λ:=(fun q=>match q with  | _=>none) }
theorem NY (n:Nat) (x):rU n x=ar (Qk n) Tryz.f152 (LK n) x:=by kernel_rfl
def dI (n:Nat):Nat→jA×jA×Int×Int→Option ((Bool)⊕(jA))
 |0,_=>none
 |m+1,x=>(cond (decide (x.2.2.2<x.2.2.1)) (cond (aY x.2.2.2 (x.2.1).length) ((rU n ((x.2.1.getD (x.2.2.2).toNat ((0:Int),(⟨#[]⟩:ByteArray))).1,(x.2.1.getD (x.2.2.2).toNat ((0:Int),(⟨#[]⟩:ByteArray))).2)).bind fun r1=>(cond (!r1) (some (Sum.inl false)) (cond (((x.2.1.getD (x.2.2.2).toNat ((0:Int),(⟨#[]⟩:ByteArray))).1==(4:Int)) != (x.2.2.2==(IntKind.i64.wrap (((x.1).length:Int)-(1:Int))))) (some (Sum.inl false)) (dI n m (x.1,x.2.1,x.2.2.1,(IntKind.i64.wrap (x.2.2.2+(1:Int)))))))) none) (some (Sum.inr x.1)))
def lw (n:Nat) (x:jA):Option (Bool) :=
 ((dI n n (x,x,((x).length:Int),(0:Int))).bind fun e2=>(match e2 with|Sum.inl a3=>(some a3)|Sum.inr b4=>((aQ n (((b4).length:Int),(1:Int),(20:Int))).bind fun r5=>(some r5))))
def Do (n:Nat):aa:={ pars:=[.c (.i (.sl (.pr (.int .i64) .str)))],gh:=[],nb:=[],res:=[(false,[jB])],g:=lw n }
def lU (n:Nat) (g:jA×jA×Int×Int→Option ((Bool)⊕(jA))):cI:={ ent:=[.val 0 (.i (.sl (.pr (.int .i64) .str))), .val 5 (.i (.sl (.pr (.int .i64) .str))), .val 6 (jI), .val 7 (jI)],exs:=[(.ret,[.val 2 (jB)]),(.exit 0,[.val 0 (.i (.sl (.pr (.int .i64) .str)))])],g:=g }
def PE (n:Nat):List (Nat×aa):=[(152,LK n),(58,FI n)]
def Mg (n:Nat):aK:={ τ:=τ,N:=30,Γ:=gl (PE n) [],Λ:=(fun q=>match q with   | 2=>some (lU n (dI n n))  | _=>none) }
theorem uE (n m:Nat) (x):dI n (m+1) x=cE (Mg n) (aC (aj Tryz.f130) 0) (lU n (dI n n)) (dI n m) x:=by kernel_rfl
theorem Oh (n:Nat) (x):lw n x=ar (Mg n) Tryz.f130 (Do n) x:=by kernel_rfl
def rI (n:Nat):List (Int×ByteArray)→ByteArray→Option ByteArray
 |[],s=>some s
 |a::r,s=>(lu n a.1).bind fun w=>bif oc w a.2&&(oc (w++a.2) (⟨#[10]⟩:ByteArray)&&decide (s.size+(w++a.2++(⟨#[10]⟩:ByteArray)).size≤1073741824))then rI n r (s++(w++a.2++(⟨#[10]⟩:ByteArray)))else none
def jK (n:Nat) (x:List (Int×ByteArray)):Option ByteArray :=
 (lw n x).bind fun ok=>bif ok then rI n x (⟨#[]⟩:ByteArray)else some (⟨#[]⟩:ByteArray)
def JM (n:Nat):aa:={ pars:=[.c (.i (.sl (.pr (.int .i64) .str)))],gh:=[],nb:=[],res:=[(false,[jS])],g:=jK n }
def cM (n:Nat):Nat→ByteArray×jA×ByteArray→Option ((jA×Bool)⊕(ByteArray×jA))
 |0,_=>none
 |m+1,x=>(cond (!jr x.2.2 (⟨#[]⟩:ByteArray)) (cond (decide (((x.2.1).length:Int)≤(20:Int))) ((vR (x.2.2,(⟨#[10]⟩:ByteArray))).bind fun r1=>(cond (!r1.2.2) (some (Sum.inl ([],false))) ((rS n r1.1).bind fun r2=>(cond (co ((x.2.1).length+([(r2.1,r2.2)]).length)) (cM n m (x.1,(x.2.1++[(r2.1,r2.2)]),r1.2.1)) none)))) (some (Sum.inr (x.1,x.2.1)))) (some (Sum.inr (x.1,x.2.1))))
def gZ (n:Nat) (x:ByteArray):Option (jA×Bool) :=
 ((cM n n (x,[],x)).bind fun e3=>(match e3 with|Sum.inl a4=>(some (a4.1,a4.2))|Sum.inr b5=>((lw n b5.2).bind fun r6=>(cond (!r6) (some (([]:List (Int×ByteArray)),false)) ((jK n b5.2).bind fun r7=>(cond (!jr r7 b5.1) (some (([]:List (Int×ByteArray)),false)) (some (b5.2,true))))))))
def Ma (n:Nat):aa:={ pars:=[.c (jS)],gh:=[],nb:=[],res:=[(false,[.i (.sl (.pr (.int .i64) .str))]),(false,[jB])],g:=gZ n }
def je (n:Nat) (g:ByteArray×jA×ByteArray→Option ((jA×Bool)⊕(ByteArray×jA))):cI:={ ent:=[.val 0 (jS), .val 4 (.o 111 (.pr (.int .i64) .str)), .val 5 (jS)],exs:=[(.ret,[.val 2 (.o 111 (.pr (.int .i64) .str)), .val 3 (jB)]),(.exit 0,[.val 0 (jS), .val 4 (.o 111 (.pr (.int .i64) .str))])],g:=g }
def PZ (n:Nat):List (Nat×aa):=[(128,OX),(129,LW n),(130,Do n),(131,JM n)]
def Mo (n:Nat):aK:={ τ:=τ,N:=41,Γ:=gl (PZ n) [],Λ:=(fun q=>match q with   | 3=>some (je n (cM n n))  | _=>none) }
theorem qS (n m:Nat) (x):cM n (m+1) x=cE (Mo n) (aC (aj Tryz.f105) 0) (je n (cM n n)) (cM n m) x:=by kernel_rfl
theorem OE (n:Nat) (x):gZ n x=ar (Mo n) Tryz.f105 (Ma n) x:=by kernel_rfl
def d6 (n:Nat) (x:Int×Int):Option (jA×Bool) :=
 ((gm n (x.1,x.2)).bind fun r1=>((gZ n r1).bind fun r2=>(some (r2.1,r2.2))))
def QU (n:Nat):aa:={ pars:=[.c (jI), .c (jI)],gh:=[],nb:=[],res:=[(false,[.i (.sl (.pr (.int .i64) .str))]),(false,[jB])],g:=d6 n }
def Wa (n:Nat):List (Nat×aa):=[(106,L9 n),(105,Ma n)]
def Xy (n:Nat):aK:={ τ:=τ,N:=12,Γ:=gl (Wa n) [],Λ:=(fun q=>match q with  | _=>none) }
theorem SD (n:Nat) (x):d6 n x=ar (Xy n) Tryz.f86 (QU n) x:=by kernel_rfl
def iv (n:Nat) (x:Int):Option (Bool) :=
 ((aQ n (x,(0:Int),(4:Int))).bind fun r1=>(some r1))
def QZ (n:Nat):aa:={ pars:=[.c (jI)],gh:=[],nb:=[],res:=[(false,[jB])],g:=iv n }
def Wz (n:Nat):List (Nat×aa):=[(58,FI n)]
def XM (n:Nat):aK:={ τ:=τ,N:=5,Γ:=gl (Wz n) [],Λ:=(fun q=>match q with  | _=>none) }
theorem S2 (n:Nat) (x):iv n x=ar (XM n) Tryz.f61 (QZ n) x:=by kernel_rfl
def cd (n:Nat):Nat→jL×jN×jL×Int×Int→Option ((Bool)⊕(jL×jN))
 |0,_=>none
 |m+1,x=>(cond (decide (x.2.2.2.2<x.2.2.2.1)) (cond (aY x.2.2.2.2 (x.2.2.1).length) (cond ((x.2.2.1.getD (x.2.2.2.2).toNat (0:Int)) != (-1:Int)) ((cH n (x.2.1,(x.2.2.1.getD (x.2.2.2.2).toNat (0:Int)))).bind fun r1=>(cond (!r1.2) (some (Sum.inl false)) (cd n m (x.1,r1.1,x.2.2.1,x.2.2.2.1,(IntKind.i64.wrap (x.2.2.2.2+(1:Int))))))) (cd n m (x.1,x.2.1,x.2.2.1,x.2.2.2.1,(IntKind.i64.wrap (x.2.2.2.2+(1:Int)))))) none) (some (Sum.inr (x.1,x.2.1))))
def kB (n:Nat) (x:jN×jL):Option (Bool) :=
 ((cd n n (x.2,x.1,x.2,((x.2).length:Int),(0:Int))).bind fun e2=>(match e2 with|Sum.inl a3=>(some a3)|Sum.inr b4=>(cond (((b4.1).length:Int)==(26:Int)) ((d9 n b4.2).bind fun r5=>(some r5)) (some false))))
def OM (n:Nat):aa:={ pars:=[.g [.i bR], .c (.i (.sl (.int .i64)))],gh:=[],nb:=[],res:=[(false,[jB])],g:=kB n }
def mH (n:Nat) (g:jL×jN×jL×Int×Int→Option ((Bool)⊕(jL×jN))):cI:={ ent:=[.val 1 (.i (.sl (.int .i64))), .box 2 [2,0] [.i bR], .val 7 (.i (.sl (.int .i64))), .val 8 (jI), .val 9 (jI)],exs:=[(.ret,[.val 4 (jB)]),(.exit 0,[.val 1 (.i (.sl (.int .i64))), .box 2 [2,0] [.i bR]])],g:=g }
def V9 (n:Nat):List (Nat×aa):=[(84,Mv n),(85,Mu n)]
def Vb (n:Nat):aK:={ τ:=τ,N:=28,Γ:=gl (V9 n) [],Λ:=(fun q=>match q with   | 2=>some (mH n (cd n n))  | _=>none) }
theorem vF (n m:Nat) (x):cd n (m+1) x=cE (Vb n) (aC (aj Tryz.f87) 0) (mH n (cd n n)) (cd n m) x:=by kernel_rfl
theorem SC (n:Nat) (x):kB n x=ar (Vb n) Tryz.f87 (OM n) x:=by kernel_rfl
def fT (n:Nat) (x:jN×Int×Int×Int×Int×Int×jL×Bool×Bool×Int):Option (Bool) :=
 ((d6 n (x.2.1,x.2.2.1)).bind fun r1=>(cond (!r1.2) (some false) ((iv n x.2.2.2.1).bind fun r2=>(cond (!r2) (some false) ((iv n x.2.2.2.2.1).bind fun r3=>(cond (!r3) (some false) (cond (x.2.2.2.1==x.2.2.2.2.1) (some false) ((kB n (x.1,x.2.2.2.2.2.2.1)).bind fun r4=>(cond (!r4) (some false) ((aQ n (x.2.2.2.2.2.1,(0:Int),((r1.1).length:Int))).bind fun r5=>(cond (!r5) (some false) (cond ((x.2.2.2.2.2.1==((r1.1).length:Int)) != x.2.2.2.2.2.2.2.1) (some false) (cond x.2.2.2.2.2.2.2.1 (cond x.2.2.2.2.2.2.2.2.1 (some false) (cond x.2.2.2.2.2.2.2.1 ((cH n (x.1,x.2.2.2.2.2.2.2.2.2)).bind fun r6=>(some r6.2)) (some (x.2.2.2.2.2.2.2.2.2==(-1:Int))))) (cond x.2.2.2.2.2.2.2.1 ((cH n (x.1,x.2.2.2.2.2.2.2.2.2)).bind fun r7=>(some r7.2)) (some (x.2.2.2.2.2.2.2.2.2==(-1:Int)))))))))))))))))
def Us (n:Nat):aa:={ pars:=[.g [.i bR], .g [jI,jI,jI,jI,jI, .i (.sl (.int .i64)),jB,jB,jI]],gh:=[],nb:=[],res:=[(false,[jB])],g:=fT n }
def WA (n:Nat):List (Nat×aa):=[(86,QU n),(61,QZ n),(87,OM n),(58,FI n),(84,Mv n)]
def XN (n:Nat):aK:={ τ:=τ,N:=75,Γ:=gl (WA n) [],Λ:=(fun q=>match q with  | _=>none) }
theorem Ta (n:Nat) (x):fT n x=ar (XN n) Tryz.f60 (Us n) x:=by kernel_rfl
def eX (n:Nat) (x:jN×jL×jW×Int×jL×jL×jC×Int):Option (jN×jL×jW×Int×jL×jL×jC×Bool) :=
 ((aQ n (x.2.2.2.2.2.2.2,(0:Int),(IntKind.i64.wrap (((x.2.2.1).length:Int)-(1:Int))))).bind fun r1=>(some (x.1,x.2.1,x.2.2.1,x.2.2.2.1,x.2.2.2.2.1,x.2.2.2.2.2.1,x.2.2.2.2.2.2.1,r1)))
def Uc (n:Nat):aa:={ pars:=[.p [.i bR, .i (.sl (.int .i64)), .i dW,jI, .i (.sl (.int .i64)), .i (.sl (.int .i64)), .i (.sl (.pr (.int .i64) (.pr .bool .bool)))], .c (jI)],gh:=[],nb:=[],res:=[(false,[jB])],g:=eX n }
def V8 (n:Nat):List (Nat×aa):=[(58,FI n)]
def Xx (n:Nat):aK:={ τ:=τ,N:=13,Γ:=gl (V8 n) [],Λ:=(fun q=>match q with  | _=>none) }
theorem SB (n:Nat) (x):eX n x=ar (Xx n) Tryz.f88 (Uc n) x:=by kernel_rfl
def di (n:Nat) (x:jN×jL×jW×Int×jL×jL×jC×Int):Option (jN×jL×jW×Int×jL×jL×jC×Bool) :=
 ((eX n (x.1,x.2.1,x.2.2.1,x.2.2.2.1,x.2.2.2.2.1,x.2.2.2.2.2.1,x.2.2.2.2.2.2.1,x.2.2.2.2.2.2.2)).bind fun r1=>(cond r1.2.2.2.2.2.2.2 (cond (aY x.2.2.2.2.2.2.2 (r1.2.2.1).length) (some (r1.1,r1.2.1,r1.2.2.1,r1.2.2.2.1,r1.2.2.2.2.1,r1.2.2.2.2.2.1,r1.2.2.2.2.2.2.1,(r1.2.2.1.getD (x.2.2.2.2.2.2.2).toNat ((0:Int),((0:Int),((0:Int),((0:Int),((0:Int),([],(false,(false,(0:Int)))))))))).2.2.2.2.2.2.1)) none) (some (r1.1,r1.2.1,r1.2.2.1,r1.2.2.2.1,r1.2.2.2.2.1,r1.2.2.2.2.2.1,r1.2.2.2.2.2.2.1,false))))
def OO (n:Nat):aa:={ pars:=[.p [.i bR, .i (.sl (.int .i64)), .i dW,jI, .i (.sl (.int .i64)), .i (.sl (.int .i64)), .i (.sl (.pr (.int .i64) (.pr .bool .bool)))], .c (jI)],gh:=[],nb:=[],res:=[(false,[jB])],g:=di n }
def Wy (n:Nat):List (Nat×aa):=[(88,Uc n)]
def XL (n:Nat):aK:={ τ:=τ,N:=18,Γ:=gl (Wy n) [],Λ:=(fun q=>match q with  | _=>none) }
theorem S1 (n:Nat) (x):di n x=ar (XL n) Tryz.f62 (OO n) x:=by kernel_rfl
def aU (n:Nat):Nat→jN×jL×jW×Int×jL×jL×jC×(List (Int×Int))×jC×Int×Int→Option ((jN×jL×jW×Int×jL×jL×jC×Bool)⊕(jN×jL×jW×Int×jL×jL×jC×(List (Int×Int))))
 |0,_=>none
 |m+1,x=>(cond (decide (x.2.2.2.2.2.2.2.2.2.2<x.2.2.2.2.2.2.2.2.2.1)) (cond (aY x.2.2.2.2.2.2.2.2.2.2 (x.2.2.2.2.2.2.2.2.1).length) ((di n (x.1,x.2.1,x.2.2.1,x.2.2.2.1,x.2.2.2.2.1,x.2.2.2.2.2.1,x.2.2.2.2.2.2.1,(x.2.2.2.2.2.2.2.2.1.getD (x.2.2.2.2.2.2.2.2.2.2).toNat ((0:Int),(false,false))).1)).bind fun r1=>(cond (!r1.2.2.2.2.2.2.2) (some (Sum.inl (r1.1,r1.2.1,r1.2.2.1,r1.2.2.2.1,r1.2.2.2.2.1,r1.2.2.2.2.2.1,r1.2.2.2.2.2.2.1,false))) (cond (decide ((eg (.int .i64) (x.2.2.2.2.2.2.2.2.1.getD (x.2.2.2.2.2.2.2.2.2.2).toNat ((0:Int),(false,false))).1 (kg (.int .i64) (x.2.2.2.2.2.2.2.2.1.getD (x.2.2.2.2.2.2.2.2.2.2).toNat ((0:Int),(false,false))).1 (IntKind.i64.wrap ((eg (.int .i64) (x.2.2.2.2.2.2.2.2.1.getD (x.2.2.2.2.2.2.2.2.2.2).toNat ((0:Int),(false,false))).1 x.2.2.2.2.2.2.2.1)+(1:Int))) x.2.2.2.2.2.2.2.1))>(1:Int))) (some (Sum.inl (r1.1,r1.2.1,r1.2.2.1,r1.2.2.2.1,r1.2.2.2.2.1,r1.2.2.2.2.2.1,r1.2.2.2.2.2.2.1,false))) (aU n m (r1.1,r1.2.1,r1.2.2.1,r1.2.2.2.1,r1.2.2.2.2.1,r1.2.2.2.2.2.1,r1.2.2.2.2.2.2.1,(kg (.int .i64) (x.2.2.2.2.2.2.2.2.1.getD (x.2.2.2.2.2.2.2.2.2.2).toNat ((0:Int),(false,false))).1 (IntKind.i64.wrap ((eg (.int .i64) (x.2.2.2.2.2.2.2.2.1.getD (x.2.2.2.2.2.2.2.2.2.2).toNat ((0:Int),(false,false))).1 x.2.2.2.2.2.2.2.1)+(1:Int))) x.2.2.2.2.2.2.2.1),x.2.2.2.2.2.2.2.2.1,x.2.2.2.2.2.2.2.2.2.1,(IntKind.i64.wrap (x.2.2.2.2.2.2.2.2.2.2+(1:Int)))))))) none) (some (Sum.inr (x.1,x.2.1,x.2.2.1,x.2.2.2.1,x.2.2.2.2.1,x.2.2.2.2.2.1,x.2.2.2.2.2.2.1,x.2.2.2.2.2.2.2.1))))
def aF (n:Nat):Nat→jN×jL×jW×Int×jL×jL×jC×(List (Int×Int))×jW×Int×Int→Option ((jN×jL×jW×Int×jL×jL×jC×Bool)⊕(jN×jL×jW×Int×jL×jL×jC))
 |0,_=>none
 |m+1,x=>(cond (decide (x.2.2.2.2.2.2.2.2.2.2<x.2.2.2.2.2.2.2.2.2.1)) (cond (aY x.2.2.2.2.2.2.2.2.2.2 (x.2.2.2.2.2.2.2.2.1).length) (cond (x.2.2.2.2.2.2.2.2.1.getD (x.2.2.2.2.2.2.2.2.2.2).toNat ((0:Int),((0:Int),((0:Int),((0:Int),((0:Int),([],(false,(false,(0:Int)))))))))).2.2.2.2.2.2.1 (cond ((eg (.int .i64) x.2.2.2.2.2.2.2.2.2.2 x.2.2.2.2.2.2.2.1)==(0:Int)) (some (Sum.inl (x.1,x.2.1,x.2.2.1,x.2.2.2.1,x.2.2.2.2.1,x.2.2.2.2.2.1,x.2.2.2.2.2.2.1,false))) (aF n m (x.1,x.2.1,x.2.2.1,x.2.2.2.1,x.2.2.2.2.1,x.2.2.2.2.2.1,x.2.2.2.2.2.2.1,x.2.2.2.2.2.2.2.1,x.2.2.2.2.2.2.2.2.1,x.2.2.2.2.2.2.2.2.2.1,(IntKind.i64.wrap (x.2.2.2.2.2.2.2.2.2.2+(1:Int)))))) (aF n m (x.1,x.2.1,x.2.2.1,x.2.2.2.1,x.2.2.2.2.1,x.2.2.2.2.2.1,x.2.2.2.2.2.2.1,x.2.2.2.2.2.2.2.1,x.2.2.2.2.2.2.2.2.1,x.2.2.2.2.2.2.2.2.2.1,(IntKind.i64.wrap (x.2.2.2.2.2.2.2.2.2.2+(1:Int)))))) none) (some (Sum.inr (x.1,x.2.1,x.2.2.1,x.2.2.2.1,x.2.2.2.2.1,x.2.2.2.2.2.1,x.2.2.2.2.2.2.1))))
def ep (n:Nat) (x:jN×jL×jW×Int×jL×jL×jC):Option (jN×jL×jW×Int×jL×jL×jC×Bool) :=
 ((aU n n (x.1,x.2.1,x.2.2.1,x.2.2.2.1,x.2.2.2.2.1,x.2.2.2.2.2.1,x.2.2.2.2.2.2,[],x.2.2.2.2.2.2,((x.2.2.2.2.2.2).length:Int),(0:Int))).bind fun e2=>(match e2 with|Sum.inl a3=>(some (a3.1,a3.2.1,a3.2.2.1,a3.2.2.2.1,a3.2.2.2.2.1,a3.2.2.2.2.2.1,a3.2.2.2.2.2.2.1,a3.2.2.2.2.2.2.2))|Sum.inr b4=>((aF n n (b4.1,b4.2.1,b4.2.2.1,b4.2.2.2.1,b4.2.2.2.2.1,b4.2.2.2.2.2.1,b4.2.2.2.2.2.2.1,b4.2.2.2.2.2.2.2,b4.2.2.1,((b4.2.2.1).length:Int),(0:Int))).bind fun e5=>(match e5 with|Sum.inl a6=>(some (a6.1,a6.2.1,a6.2.2.1,a6.2.2.2.1,a6.2.2.2.2.1,a6.2.2.2.2.2.1,a6.2.2.2.2.2.2.1,a6.2.2.2.2.2.2.2))|Sum.inr b7=>(some (b7.1,b7.2.1,b7.2.2.1,b7.2.2.2.1,b7.2.2.2.2.1,b7.2.2.2.2.2.1,b7.2.2.2.2.2.2,true))))))
def Ur (n:Nat):aa:={ pars:=[.p [.i bR, .i (.sl (.int .i64)), .i dW,jI, .i (.sl (.int .i64)), .i (.sl (.int .i64)), .i (.sl (.pr (.int .i64) (.pr .bool .bool)))]],gh:=[],nb:=[],res:=[(false,[jB])],g:=ep n }
def il (n:Nat) (g:jN×jL×jW×Int×jL×jL×jC×(List (Int×Int))×jC×Int×Int→Option ((jN×jL×jW×Int×jL×jL×jC×Bool)⊕(jN×jL×jW×Int×jL×jL×jC×(List (Int×Int))))):cI:={ ent:=[.box 0 [0] [.i bR, .i (.sl (.int .i64)), .i dW,jI, .i (.sl (.int .i64)), .i (.sl (.int .i64)), .i (.sl (.pr (.int .i64) (.pr .bool .bool)))], .val 3 (.m (.int .i64) (.int .i64) false), .val 12 (.i (.sl (.pr (.int .i64) (.pr .bool .bool)))), .val 13 (jI), .val 14 (jI)],exs:=[(.ret,[.box 0 [0] [.i bR, .i (.sl (.int .i64)), .i dW,jI, .i (.sl (.int .i64)), .i (.sl (.int .i64)), .i (.sl (.pr (.int .i64) (.pr .bool .bool)))], .val 2 (jB)]),(.exit 0,[.box 0 [0] [.i bR, .i (.sl (.int .i64)), .i dW,jI, .i (.sl (.int .i64)), .i (.sl (.int .i64)), .i (.sl (.pr (.int .i64) (.pr .bool .bool)))], .val 3 (.m (.int .i64) (.int .i64) false)])],g:=g }
def gx (n:Nat) (g:jN×jL×jW×Int×jL×jL×jC×(List (Int×Int))×jW×Int×Int→Option ((jN×jL×jW×Int×jL×jL×jC×Bool)⊕(jN×jL×jW×Int×jL×jL×jC))):cI:={ ent:=[.box 0 [0] [.i bR, .i (.sl (.int .i64)), .i dW,jI, .i (.sl (.int .i64)), .i (.sl (.int .i64)), .i (.sl (.pr (.int .i64) (.pr .bool .bool)))], .val 3 (.m (.int .i64) (.int .i64) false), .val 39 (.i dW), .val 40 (jI), .val 41 (jI)],exs:=[(.ret,[.box 0 [0] [.i bR, .i (.sl (.int .i64)), .i dW,jI, .i (.sl (.int .i64)), .i (.sl (.int .i64)), .i (.sl (.pr (.int .i64) (.pr .bool .bool)))], .val 2 (jB)]),(.exit 2,[.box 0 [0] [.i bR, .i (.sl (.int .i64)), .i dW,jI, .i (.sl (.int .i64)), .i (.sl (.int .i64)), .i (.sl (.pr (.int .i64) (.pr .bool .bool)))]])],g:=g }
def Wx (n:Nat):List (Nat×aa):=[(62,OO n)]
def Q6 (n:Nat):aK:={ τ:=τ,N:=55,Γ:=gl (Wx n) [],Λ:=(fun q=>match q with   | 3=>some (il n (aU n n))   | 10=>some (gx n (aF n n))  | _=>none) }
theorem ph (n m:Nat) (x):aU n (m+1) x=cE (Q6 n) (aC (aj Tryz.f63) 0) (il n (aU n n)) (aU n m) x:=by kernel_rfl
theorem oM (n m:Nat) (x):aF n (m+1) x=cE (Q6 n) (aC (aj Tryz.f63) 1) (gx n (aF n n)) (aF n m) x:=by kernel_rfl
theorem S0 (n:Nat) (x):ep n x=ar (Q6 n) Tryz.f63 (Ur n) x:=by kernel_rfl
end AM
end Go.Proofs.YtlkgapiohfgenaaGreatDoor
