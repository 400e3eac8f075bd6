/- The functions that the laws reach, as plain Lean functions, and that the evaluator gives just these. No condition. -/
import Derived.Test.YtpgigedclifoeaaGreatDoorJALd1
import Derived.Test.YtpgigedclifoeaaGreatDoorJW3
import Derived.Test.YtpgigedclifoeaaGreatDoorJW4
import Derived.Test.YtpgigedclifoeaaGreatDoorProg
import Derived.Lib.AtoiAll
import Derived.Lib.IndexMore
import Derived.Lib.ItoaNum
import Derived.Lib.Split
import Derived.Lib.CountLaws
import Derived.Lib.SlicesCompact
namespace Go.Proofs.YtpgigedclifoeaaGreatDoor
namespace AM
open Go
set_option linter.unusedVariables false
def S69 (n:Nat):aa:={ pars:=[.g [.i aJ,ah,fh,jI,ah,ah,fw], .g [jI,jI,jI,jI,jI,jS]],gh:=[],nb:=[],res:=[(true,[dr,jO,eU,jI,jO,jO,fv]),(false,[jI])],g:=fJ n }
def G69 (n:Nat):List (Nat×aa):=[(10,RV n),(103,RU n),(105,RS n),(104,RT n)]
def sk (n:Nat):bT:={ ent:=[.box 2 [2,0] [.i aJ,ah,fh,jI,ah,ah,fw], .box 3 [3,0] [jI,jI,jI,jI,jI,jS], .box 4 [4,0] [dr,jO,eU,jI,jO,jO,fv]],out:=[.box 2 [2,0] [.i aJ,ah,fh,jI,ah,ah,fw], .box 4 [4,0] [dr,jO,eU,jI,jO,jO,fv], .box 6 [6,0] [.i aJ,ah,eU,jI,ah,ah,fv], .val 7 (jI)],g:=oQ n }
def Q69 (n:Nat):List (Nat×bT):=[(3,sk n)]
def E69 (n:Nat):aB:={ τ:=τ,N:=32,Γ:=gl (G69 n) [],Λ:=dL,Ω:=tO (Q69 n) }
theorem yo (n:Nat):Tj (E69 n) (ae Tryz.f69) 3 69 (sk n):=fun x=>by kernel_rfl
theorem aeP (n:Nat) (x):fJ n x=am (E69 n) Tryz.f69 (S69 n) x:=by kernel_rfl
def mf (n:Nat):jN×jL×jW×Int×jL×jL×jC×Int×Int×Int×Int×Int×ByteArray×jN×jL×jW×Int×jL×jL×jC→Option (jN×jL×jW×Int×jL×jL×jC×jN×jL×jW×Int×jL×jL×jC×jN×jL×jW×Int×jL×jL×jC×Int):=fun(x0,x1,x2,x3,x4,x5,x6,x7,x8,x9,x10,x11,x12,x13,x14,x15,x16,x17,x18,x19) =>
 ((eS n (x0,x1,x2,x3,x4,x5,x6)).bind fun(r3a,r3b,r3c,r3d,r3e,r3f,r3g)=>((nh n (r3a,r3b,r3c,r3d,r3e,r3f,r3g,x7,x8,x9,x10,x11,x12)).bind fun(r4a,r4b,r4c,r4d,r4e,r4f,r4g,r4h)=>(some (x0,x1,x2,x3,x4,x5,x6,x13,x14,x15,x16,x17,x18,x19,r4a,r4b,r4c,r4d,r4e,r4f,r4g,r4h))))
def ij (n:Nat):jN×jL×jW×Int×jL×jL×jC×Int×Int×Int×Int×Int×ByteArray→Option (Int×Int×Int×Int×Int×Int×Int×Int):=fun(x0,x1,x2,x3,x4,x5,x6,x7,x8,x9,x10,x11,x12) =>
 ((cC n (x0,x1,x2,x3,x4,x5,x6)).bind fun r1=>(cond (!r1) (some ((0:Int),(0:Int),(0:Int),(0:Int),(0:Int),(0:Int),(0:Int),(1:Int))) ((ki n (x7,x8,x9,x10,x11,x12)).bind fun r2=>(cond (!r2) (some ((0:Int),(0:Int),(0:Int),(0:Int),(0:Int),(0:Int),(0:Int),(1:Int))) ((mf n (x0,x1,x2,x3,x4,x5,x6,x7,x8,x9,x10,x11,x12,[],[],[],(0:Int),[],[],[])).bind fun(g3a,g3b,g3c,g3d,g3e,g3f,g3g,_,_,_,_,_,_,_,g3o,g3p,g3q,g3r,g3s,g3t,g3u,g3v)=>(cond (g3v != (0:Int)) ((eS n (g3a,g3b,g3c,g3d,g3e,g3f,g3g)).bind fun(r4a,r4b,r4c,r4d,r4e,r4f,r4g)=>(some (((r4a).length:Int),((r4b).length:Int),((r4c).length:Int),r4d,((r4e).length:Int),((r4f).length:Int),((r4g).length:Int),g3v))) ((eS n (g3o,g3p,g3q,g3r,g3s,g3t,g3u)).bind fun(r5a,r5b,r5c,r5d,r5e,r5f,r5g)=>(some (((r5a).length:Int),((r5b).length:Int),((r5c).length:Int),r5d,((r5e).length:Int),((r5f).length:Int),((r5g).length:Int),g3v)))))))))
def LK (n:Nat):aa:={ pars:=[.g [.i aJ,ah,fh,jI,ah,ah,fw], .g [jI,jI,jI,jI,jI,jS]],gh:=[],nb:=[],res:=[(true,[.l, .l, .l,jI, .l, .l, .l]),(false,[jI])],g:=ij n }
def Th (n:Nat):List (Nat×aa):=[(10,RV n),(103,RU n),(105,RS n),(104,RT n)]
def qB (n:Nat):bT:={ ent:=[.box 2 [2,0] [.i aJ,ah,fh,jI,ah,ah,fw], .box 3 [3,0] [jI,jI,jI,jI,jI,jS], .box 4 [4,0] [dr,jO,eU,jI,jO,jO,fv]],out:=[.box 2 [2,0] [.i aJ,ah,fh,jI,ah,ah,fw], .box 4 [4,0] [dr,jO,eU,jI,jO,jO,fv], .box 6 [6,0] [.i aJ,ah,eU,jI,ah,ah,fv], .val 7 (jI)],g:=mf n }
def SR (n:Nat):List (Nat×bT):=[(3,qB n)]
def LQ (n:Nat):aB:={ τ:=τ,N:=32,Γ:=gl (Th n) [],Λ:=dL,Ω:=tO (SR n) }
theorem vJ (n:Nat):Tj (LQ n) (ae Tryz.f69) 3 69 (qB n):=fun x=>by kernel_rfl
theorem UF (n:Nat) (x):ij n x=am (LQ n) Tryz.f69 (LK n) x:=by kernel_rfl
def P4 (r:Int×Int×Int×Int×Int×Int×Int×Int):Bool:=r.2.2.2.2.2.2.2==(0:Int)
def lc (n:Nat) (x:jN×jL×jW×Int×jL×jL×jC×Int×Int×Int×Int×Int×ByteArray):Option (Int×Int×Int×Int×Int×Int×Int×Int):=(ij n x).bind fun r=>cond (P4 r) none (some r)
def P0 (n:Nat):aa:={ LK n with g:=lc n }
def d5 (n:Nat):Nat→jL×Int×Int×jN×jL×jW×Int×jL×jL×jC×jN×jL×jW×Int×jL×jL×jC×(List (Int×(Int×(Int×(Int×(Int×ByteArray))))))×Int×Int×Int×Int×Int×Int×Int×ByteArray×jN×jL×jW×Int×jL×jL×jC×Int×Int→Option (jL×Int×Int×jN×jL×jW×Int×jL×jL×jC×jN×jL×jW×Int×jL×jL×jC×(List (Int×(Int×(Int×(Int×(Int×ByteArray))))))×Int×Int×Int×Int×Int×Int×Int×ByteArray×jN×jL×jW×Int×jL×jL×jC×Int)
 |0,_=>none
 |m+1,x=>match x with|(x0,x1,x2,x3,x4,x5,x6,x7,x8,x9,x10,x11,x12,x13,x14,x15,x16,x17,x18,x19,x20,x21,x22,x23,x24,x25,x26,x27,x28,x29,x30,x31,x32,x33,x34)=>(cond (decide (x34<(6:Int))) (cond (x33==(4:Int)) ((kg n (x0,x1,x2,x10,x11,x12,x13,x14,x15,x16)).bind fun(r5a,r5b,r5c,r5d,r5e,r5f,r5g,r5h,r5i)=>((fJ n (x10,x11,x12,x13,x14,x15,x16,r5d,r5e,r5f,r5g,r5h,r5i)).bind fun(r6a,r6b,r6c,r6d,r6e,r6f,r6g,r6h)=>(d5 n m (r5a,r5b,r5c,x3,x4,x5,x6,x7,x8,x9,x10,x11,x12,x13,x14,x15,x16,x17,x18,x19,r5d,r5e,r5f,r5g,r5h,r5i,r6a,r6b,r6c,r6d,r6e,r6f,r6g,r6h,(IntKind.i64.wrap (x34+(1:Int))))))) (some (x0,x1,x2,x3,x4,x5,x6,x7,x8,x9,x10,x11,x12,x13,x14,x15,x16,x17,x18,x19,x20,x21,x22,x23,x24,x25,x26,x27,x28,x29,x30,x31,x32,x33))) (some (x0,x1,x2,x3,x4,x5,x6,x7,x8,x9,x10,x11,x12,x13,x14,x15,x16,x17,x18,x19,x20,x21,x22,x23,x24,x25,x26,x27,x28,x29,x30,x31,x32,x33)))
def dG (n:Nat):Nat→jL×Int×Int×jN×jL×jW×Int×jL×jL×jC×jN×jL×jW×Int×jL×jL×jC×(List (Int×(Int×(Int×(Int×(Int×ByteArray))))))×Int×Int→Option (jL×Int×Int×jN×jL×jW×Int×jL×jL×jC×jN×jL×jW×Int×jL×jL×jC×(List (Int×(Int×(Int×(Int×(Int×ByteArray)))))))
 |0,_=>none
 |m+1,x=>match x with|(x0,x1,x2,x3,x4,x5,x6,x7,x8,x9,x10,x11,x12,x13,x14,x15,x16,x17,x18,x19)=>(cond (decide (x19<x18)) ((kg n (x0,x1,x2,x10,x11,x12,x13,x14,x15,x16)).bind fun(r3a,r3b,r3c,r3d,r3e,r3f,r3g,r3h,r3i)=>((fJ n (x10,x11,x12,x13,x14,x15,x16,r3d,r3e,r3f,r3g,r3h,r3i)).bind fun(r4a,r4b,r4c,r4d,r4e,r4f,r4g,r4h)=>((d5 n n (r3a,r3b,r3c,x3,x4,x5,x6,x7,x8,x9,x10,x11,x12,x13,x14,x15,x16,x17,x18,x19,r3d,r3e,r3f,r3g,r3h,r3i,r4a,r4b,r4c,r4d,r4e,r4f,r4g,r4h,(0:Int))).bind fun(e7a,e7b,e7c,e7d,e7e,e7f,e7g,e7h,e7i,e7j,e7k,e7l,e7m,e7n,e7o,e7p,e7q,e7r,e7s,e7t,e7u,e7v,e7w,e7x,e7y,e7z,e7A,e7B,e7C,e7D,e7E,e7F,e7G,e7H)=>(cond (aO ((e7r).length+([(e7u,(e7v,(e7w,(e7x,(e7y,e7z)))))]).length)) (cond (e7H==(0:Int)) (dG n m (e7a,e7b,e7c,e7d,e7e,e7f,e7g,e7h,e7i,e7j,e7A,e7B,e7C,e7D,e7E,e7F,e7G,(e7r++[(e7u,(e7v,(e7w,(e7x,(e7y,e7z)))))]),e7s,(IntKind.i64.wrap (e7t+(1:Int))))) (dG n m (e7a,e7b,e7c,e7d,e7e,e7f,e7g,e7h,e7i,e7j,e7k,e7l,e7m,e7n,e7o,e7p,e7q,(e7r++[(e7u,(e7v,(e7w,(e7x,(e7y,e7z)))))]),e7s,(IntKind.i64.wrap (e7t+(1:Int)))))) none)))) (some (x0,x1,x2,x3,x4,x5,x6,x7,x8,x9,x10,x11,x12,x13,x14,x15,x16,x17)))
def tv (n:Nat) (x:jL×Int×Int×Int):Option (jL×Int×Int×jN×jL×jW×Int×jL×jL×jC×(List (Int×(Int×(Int×(Int×(Int×ByteArray))))))) :=
 ((gX n ()).bind fun(r1a,r1b,r1c,r1d,r1e,r1f,r1g)=>((ai n (x.1,x.2.1,x.2.2.1,(IntKind.i64.wrap (x.2.2.2+(1:Int))))).bind fun r2=>((dG n n (r2.1,r2.2.1,r2.2.2.1,[],[],[],(0:Int),[],[],[],r1a,r1b,r1c,r1d,r1e,r1f,r1g,([]:List (Int×(Int×(Int×(Int×(Int×ByteArray)))))),r2.2.2.2,(0:Int))).bind fun(e8a,e8b,e8c,_,_,_,_,_,_,_,e8k,e8l,e8m,e8n,e8o,e8p,e8q,e8r)=>(some (e8a,e8b,e8c,e8k,e8l,e8m,e8n,e8o,e8p,e8q,e8r)))))
def S97 (n:Nat):aa:={ pars:=[.p [.i (.sl (.int .u8)),jI,jI], .c (jI)],gh:=[],nb:=[],res:=[(true,[.i aJ,ah,fh,jI,ah,ah,fw]),(false,[.i (.sl (.pr (.int .i64) (.pr (.int .i64) (.pr (.int .i64) (.pr (.int .i64) (.pr (.int .i64) .str))))))])],g:=tv n }
def j4 (n:Nat):cx:={ ent:=[.box 0 [0] [.i (.sl (.int .u8)),jI,jI], .box 4 [4,0] [dr,jO,eU,jI,jO,jO,fv], .box 6 [6,0] [.i aJ,ah,fh,jI,ah,ah,fw], .val 7 (.o 71 (.pr (.int .i64) (.pr (.int .i64) (.pr (.int .i64) (.pr (.int .i64) (.pr (.int .i64) .str)))))), .val 8 (jI), .val 9 (jI), .box 10 [10,0] [jI,jI,jI,jI,jI,jS], .box 11 [11,0] [dr,jO,eU,jI,jO,jO,fv], .val 12 (jI), .val 13 (jI)],exs:=[(.exit 2,[.box 0 [0] [.i (.sl (.int .u8)),jI,jI], .box 4 [4,0] [dr,jO,eU,jI,jO,jO,fv], .box 6 [6,0] [.i aJ,ah,fh,jI,ah,ah,fw], .val 7 (.o 71 (.pr (.int .i64) (.pr (.int .i64) (.pr (.int .i64) (.pr (.int .i64) (.pr (.int .i64) .str)))))), .val 8 (jI), .val 9 (jI), .box 10 [10,0] [jI,jI,jI,jI,jI,jS], .box 11 [11,0] [dr,jO,eU,jI,jO,jO,fv], .val 12 (jI)])],g:=d5 n n }
def kL (n:Nat):cx:={ ent:=[.box 0 [0] [.i (.sl (.int .u8)),jI,jI], .box 4 [4,0] [dr,jO,eU,jI,jO,jO,fv], .box 6 [6,0] [.i aJ,ah,fh,jI,ah,ah,fw], .val 7 (.o 71 (.pr (.int .i64) (.pr (.int .i64) (.pr (.int .i64) (.pr (.int .i64) (.pr (.int .i64) .str)))))), .val 8 (jI), .val 9 (jI)],exs:=[(.exit 0,[.box 0 [0] [.i (.sl (.int .u8)),jI,jI], .box 4 [4,0] [dr,jO,eU,jI,jO,jO,fv], .box 6 [6,0] [.i aJ,ah,fh,jI,ah,ah,fw], .val 7 (.o 71 (.pr (.int .i64) (.pr (.int .i64) (.pr (.int .i64) (.pr (.int .i64) (.pr (.int .i64) .str))))))])],g:=dG n n }
def G97 (n:Nat):List (Nat×aa):=[(68,S68 n),(76,PJ n),(70,S70 n),(69,S69 n)]
def E97 (n:Nat):aB:={ τ:=τ,N:=60,Γ:=gl (G97 n) [],Λ:=(fun q=>match q with   | 10=>some (j4 n)   | 5=>some (kL n)  | _=>none) }
theorem tX (n m:Nat) (x):d5 n (m+1) x=cy (E97 n) (ax (ae Tryz.f97) 1) (j4 n) (d5 n m) x:=by kernel_rfl
theorem uL (n m:Nat) (x):dG n (m+1) x=cy (E97 n) (ax (ae Tryz.f97) 0) (kL n) (dG n m) x:=by kernel_rfl
theorem aep (n:Nat) (x):tv n x=am (E97 n) Tryz.f97 (S97 n) x:=by kernel_rfl
def cg (n:Nat):Nat→jL×Int×Int×jN×jL×jW×Int×jL×jL×jC×jN×jL×jW×Int×jL×jL×jC×(List (Int×(Int×(Int×(Int×(Int×ByteArray))))))×Int×Int×Int×Int×Int×Int×Int×ByteArray×Int×Int×Int×Int×Int×Int×Int×Int×Int→Option ((jL×Int×Int×jN×jL×jW×Int×jL×jL×jC×jN×jL×jW×Int×jL×jL×jC×(List (Int×(Int×(Int×(Int×(Int×ByteArray))))))×Int×Int×Int×Int×Int×Int×Int×ByteArray×jN×jL×jW×Int×jL×jL×jC×Int)⊕(jL×Int×Int×jN×jL×jW×Int×jL×jL×jC×jN×jL×jW×Int×jL×jL×jC×(List (Int×(Int×(Int×(Int×(Int×ByteArray))))))×Int×Int×Int×Int×Int×Int×Int×ByteArray×Int×Int×Int×Int×Int×Int×Int×Int))
 |0,_=>none
 |m+1,x=>match x with|(x0,x1,x2,x3,x4,x5,x6,x7,x8,x9,x10,x11,x12,x13,x14,x15,x16,x17,x18,x19,x20,x21,x22,x23,x24,x25,x26,x27,x28,x29,x30,x31,x32,x33,x34)=>(cond (decide (x34<(6:Int))) (cond (x33==(4:Int)) ((eG n (x0,x1,x2,((x10).length:Int),((x11).length:Int),x12,x13,((x14).length:Int),((x15).length:Int),((x16).length:Int))).bind fun(r5a,r5b,r5c,_,_,r5f,_,_,_,_,r5k,r5l,r5m,r5n,r5o,r5p)=>(QM ((lc n (x10,x11,r5f,x13,x14,x15,x16,r5k,r5l,r5m,r5n,r5o,r5p)).bind fun(r6a,r6b,r6c,r6d,r6e,r6f,r6g,r6h)=>(cg n m (r5a,r5b,r5c,x3,x4,x5,x6,x7,x8,x9,x10,x11,r5f,x13,x14,x15,x16,x17,x18,x19,r5k,r5l,r5m,r5n,r5o,r5p,(((r6a).toNat:Nat):Int),(((r6b).toNat:Nat):Int),(((r6c).toNat:Nat):Int),r6d,(((r6e).toNat:Nat):Int),(((r6f).toNat:Nat):Int),(((r6g).toNat:Nat):Int),r6h,(IntKind.i64.wrap (x34+(1:Int)))))) ((fJ n (x10,x11,r5f,x13,x14,x15,x16,r5k,r5l,r5m,r5n,r5o,r5p)).bind fun(r7a,r7b,r7c,r7d,r7e,r7f,r7g,r7h)=>(cond (decide ((IntKind.i64.wrap (x34+(1:Int)))<(6:Int))) (cond (r7h==(4:Int)) none (some (Sum.inl (r5a,r5b,r5c,x3,x4,x5,x6,x7,x8,x9,x10,x11,r5f,x13,x14,x15,x16,x17,x18,x19,r5k,r5l,r5m,r5n,r5o,r5p,r7a,r7b,r7c,r7d,r7e,r7f,r7g,r7h)))) (some (Sum.inl (r5a,r5b,r5c,x3,x4,x5,x6,x7,x8,x9,x10,x11,r5f,x13,x14,x15,x16,x17,x18,x19,r5k,r5l,r5m,r5n,r5o,r5p,r7a,r7b,r7c,r7d,r7e,r7f,r7g,r7h))))))) (some (Sum.inr (x0,x1,x2,x3,x4,x5,x6,x7,x8,x9,x10,x11,x12,x13,x14,x15,x16,x17,x18,x19,x20,x21,x22,x23,x24,x25,(((x26).toNat:Nat):Int),(((x27).toNat:Nat):Int),(((x28).toNat:Nat):Int),x29,(((x30).toNat:Nat):Int),(((x31).toNat:Nat):Int),(((x32).toNat:Nat):Int),x33)))) (some (Sum.inr (x0,x1,x2,x3,x4,x5,x6,x7,x8,x9,x10,x11,x12,x13,x14,x15,x16,x17,x18,x19,x20,x21,x22,x23,x24,x25,(((x26).toNat:Nat):Int),(((x27).toNat:Nat):Int),(((x28).toNat:Nat):Int),x29,(((x30).toNat:Nat):Int),(((x31).toNat:Nat):Int),(((x32).toNat:Nat):Int),x33))))
def bl (n:Nat):Nat→jL×Int×Int×jN×jL×jW×Int×jL×jL×jC×jN×jL×jW×Int×jL×jL×jC×(List (Int×(Int×(Int×(Int×(Int×ByteArray))))))×Int×Int→Option (jL×Int×Int×jN×jL×jW×Int×jL×jL×jC×jN×jL×jW×Int×jL×jL×jC×(List (Int×(Int×(Int×(Int×(Int×ByteArray)))))))
 |0,_=>none
 |m+1,x=>match x with|(x0,x1,x2,x3,x4,x5,x6,x7,x8,x9,x10,x11,x12,x13,x14,x15,x16,x17,x18,x19)=>(cond (decide (x19<x18)) ((eG n (x0,x1,x2,((x10).length:Int),((x11).length:Int),x12,x13,((x14).length:Int),((x15).length:Int),((x16).length:Int))).bind fun(r3a,r3b,r3c,_,_,r3f,_,_,_,_,r3k,r3l,r3m,r3n,r3o,r3p)=>(QM ((lc n (x10,x11,r3f,x13,x14,x15,x16,r3k,r3l,r3m,r3n,r3o,r3p)).bind fun(r4a,r4b,r4c,r4d,r4e,r4f,r4g,r4h)=>((cg n n (r3a,r3b,r3c,x3,x4,x5,x6,x7,x8,x9,x10,x11,r3f,x13,x14,x15,x16,x17,x18,x19,r3k,r3l,r3m,r3n,r3o,r3p,(((r4a).toNat:Nat):Int),(((r4b).toNat:Nat):Int),(((r4c).toNat:Nat):Int),r4d,(((r4e).toNat:Nat):Int),(((r4f).toNat:Nat):Int),(((r4g).toNat:Nat):Int),r4h,(0:Int))).bind fun e8=>(match e8 with|Sum.inl (a9a,a9b,a9c,a9d,a9e,a9f,a9g,a9h,a9i,a9j,_,_,_,_,_,_,_,a9r,a9s,a9t,a9u,a9v,a9w,a9x,a9y,a9z,a9A,a9B,a9C,a9D,a9E,a9F,a9G,a9H)=>(cond (aO ((a9r).length+([(a9u,(a9v,(a9w,(a9x,(a9y,a9z)))))]).length)) (cond (a9H==(0:Int)) (bl n m (a9a,a9b,a9c,a9d,a9e,a9f,a9g,a9h,a9i,a9j,a9A,a9B,a9C,a9D,a9E,a9F,a9G,(a9r++[(a9u,(a9v,(a9w,(a9x,(a9y,a9z)))))]),a9s,(IntKind.i64.wrap (a9t+(1:Int))))) none) none)|Sum.inr (b10a,b10b,b10c,b10d,b10e,b10f,b10g,b10h,b10i,b10j,b10k,b10l,b10m,b10n,b10o,b10p,b10q,b10r,b10s,b10t,b10u,b10v,b10w,b10x,b10y,b10z,_,_,_,_,_,_,_,b10H)=>(cond (aO ((b10r).length+([(b10u,(b10v,(b10w,(b10x,(b10y,b10z)))))]).length)) (cond (b10H==(0:Int)) none (bl n m (b10a,b10b,b10c,b10d,b10e,b10f,b10g,b10h,b10i,b10j,b10k,b10l,b10m,b10n,b10o,b10p,b10q,(b10r++[(b10u,(b10v,(b10w,(b10x,(b10y,b10z)))))]),b10s,(IntKind.i64.wrap (b10t+(1:Int)))))) none)))) ((fJ n (x10,x11,r3f,x13,x14,x15,x16,r3k,r3l,r3m,r3n,r3o,r3p)).bind fun(r11a,r11b,r11c,r11d,r11e,r11f,r11g,r11h)=>(cond (decide ((0:Int)<(6:Int))) (cond (r11h==(4:Int)) none (cond (aO ((x17).length+([(r3k,(r3l,(r3m,(r3n,(r3o,r3p)))))]).length)) (cond (r11h==(0:Int)) (bl n m (r3a,r3b,r3c,x3,x4,x5,x6,x7,x8,x9,r11a,r11b,r11c,r11d,r11e,r11f,r11g,(x17++[(r3k,(r3l,(r3m,(r3n,(r3o,r3p)))))]),x18,(IntKind.i64.wrap (x19+(1:Int))))) none) none)) (cond (aO ((x17).length+([(r3k,(r3l,(r3m,(r3n,(r3o,r3p)))))]).length)) (cond (r11h==(0:Int)) (bl n m (r3a,r3b,r3c,x3,x4,x5,x6,x7,x8,x9,r11a,r11b,r11c,r11d,r11e,r11f,r11g,(x17++[(r3k,(r3l,(r3m,(r3n,(r3o,r3p)))))]),x18,(IntKind.i64.wrap (x19+(1:Int))))) none) none))))) (some (x0,x1,x2,x3,x4,x5,x6,x7,x8,x9,x10,x11,x12,x13,x14,x15,x16,x17)))
def gK (n:Nat) (x:jL×Int×Int×Int):Option (jL×Int×Int×jN×jL×jW×Int×jL×jL×jC) :=
 ((iR n ()).bind fun(r1a,r1b,r1c,r1d,r1e,r1f,r1g)=>((ai n (x.1,x.2.1,x.2.2.1,(IntKind.i64.wrap (x.2.2.2+(1:Int))))).bind fun r2=>((bl n n (r2.1,r2.2.1,r2.2.2.1,[],[],[],(0:Int),[],[],[],r1a,r1b,r1c,r1d,r1e,r1f,r1g,([]:List (Int×(Int×(Int×(Int×(Int×ByteArray)))))),r2.2.2.2,(0:Int))).bind fun(e12a,e12b,e12c,_,_,_,_,_,_,_,e12k,e12l,e12m,e12n,e12o,e12p,e12q,_)=>(some (e12a,e12b,e12c,e12k,e12l,e12m,e12n,e12o,e12p,e12q)))))
def PY (n:Nat):aa:={ pars:=[.p [.i (.sl (.int .u8)),jI,jI], .c (jI)],gh:=[],nb:=[],res:=[(true,[dr,jO,eU,jI,jO,jO,fv]),(false,[])],g:=gK n }
def iL (n:Nat):cx:={ peel:=true,ent:=[.box 0 [0] [.i (.sl (.int .u8)),jI,jI], .box 4 [4,0] [dr,jO,eU,jI,jO,jO,fv], .box 6 [6,0] [dr,jO,eU,jI,jO,jO,fv], .val 7 (.o 71 (.pr (.int .i64) (.pr (.int .i64) (.pr (.int .i64) (.pr (.int .i64) (.pr (.int .i64) .str)))))), .val 8 (jI), .val 9 (jI), .box 10 [10,0] [jI,jI,jI,jI,jI,jS], .box 11 [11,0] [.l, .l, .l,jI, .l, .l, .l], .val 12 (jI), .val 13 (jI)],exs:=[(.exit 2,[.box 0 [0] [.i (.sl (.int .u8)),jI,jI], .box 4 [4,0] [dr,jO,eU,jI,jO,jO,fv], .box 6 [6,0] [.i aJ,ah,fh,jI,ah,ah,fw], .val 7 (.o 71 (.pr (.int .i64) (.pr (.int .i64) (.pr (.int .i64) (.pr (.int .i64) (.pr (.int .i64) .str)))))), .val 8 (jI), .val 9 (jI), .box 10 [10,0] [jI,jI,jI,jI,jI,jS], .box 11 [11,0] [dr,jO,eU,jI,jO,jO,fv], .val 12 (jI)]),(.exit 2,[.box 0 [0] [.i (.sl (.int .u8)),jI,jI], .box 4 [4,0] [dr,jO,eU,jI,jO,jO,fv], .box 6 [6,0] [dr,jO,eU,jI,jO,jO,fv], .val 7 (.o 71 (.pr (.int .i64) (.pr (.int .i64) (.pr (.int .i64) (.pr (.int .i64) (.pr (.int .i64) .str)))))), .val 8 (jI), .val 9 (jI), .box 10 [10,0] [jI,jI,jI,jI,jI,jS], .box 11 [11,0] [.l, .l, .l,jI, .l, .l, .l], .val 12 (jI)])],g:=cg n n }
def jj (n:Nat):cx:={ ent:=[.box 0 [0] [.i (.sl (.int .u8)),jI,jI], .box 4 [4,0] [dr,jO,eU,jI,jO,jO,fv], .box 6 [6,0] [dr,jO,eU,jI,jO,jO,fv], .val 7 (.o 71 (.pr (.int .i64) (.pr (.int .i64) (.pr (.int .i64) (.pr (.int .i64) (.pr (.int .i64) .str)))))), .val 8 (jI), .val 9 (jI)],exs:=[(.exit 0,[.box 0 [0] [.i (.sl (.int .u8)),jI,jI], .box 4 [4,0] [dr,jO,eU,jI,jO,jO,fv], .box 6 [6,0] [dr,jO,eU,jI,jO,jO,fv], .val 7 (.o 71 (.pr (.int .i64) (.pr (.int .i64) (.pr (.int .i64) (.pr (.int .i64) (.pr (.int .i64) .str))))))])],g:=bl n n }
def Td (n:Nat):List (Nat×aa):=[(76,PJ n),(69,S69 n)]
def S1 (n:Nat):List ((Nat×Nat)×aa):=[((68,14),P1 n),((70,27),LJ n),((70,44),LJ n)]
def SW (n:Nat):List (Nat×aa):=[(69,P0 n)]
def LO (n:Nat):aB:={ τ:=τ,N:=60,Γ:=gl (Td n) (S1 n),Λ:=(fun q=>match q with   | 10=>some (iL n)   | 5=>some (jj n)  | _=>none),Γ2:=SW n,A:=(fun q=>Nat.beq q 8 || Nat.beq q 13) }
theorem rR (n m:Nat) (x):cg n (m+1) x=cy (LO n) (ax (ae Tryz.f97) 1) (iL n) (cg n m) x:=by kernel_rfl
theorem td (n m:Nat) (x):bl n (m+1) x=cy (LO n) (ax (ae Tryz.f97) 0) (jj n) (bl n m) x:=by kernel_rfl
theorem UB (n:Nat) (x):gK n x=am (LO n) Tryz.f97 (PY n) x:=by kernel_rfl
def jy (n:Nat) (x:jL×Int×Int×jL):Option (jL×Int×Int×Int) :=
 ((ai n (x.1,x.2.1,x.2.2.1,((x.2.2.2).length:Int))).bind fun r1=>(cond (aI r1.2.2.2 (x.2.2.2).length) (some (r1.1,r1.2.1,r1.2.2.1,(x.2.2.2.getD (r1.2.2.2).toNat (0:Int)))) none))
def S99 (n:Nat):aa:={ pars:=[.p [.i (.sl (.int .u8)),jI,jI], .c (ah)],gh:=[],nb:=[],res:=[(false,[jI])],g:=jy n }
def G99 (n:Nat):List (Nat×aa):=[(76,PJ n)]
def E99 (n:Nat):aB:={ τ:=τ,N:=12,Γ:=gl (G99 n) [],Λ:=dL }
theorem aen (n:Nat) (x):jy n x=am (E99 n) Tryz.f99 (S99 n) x:=by kernel_rfl
def jH (n:Nat):jL×Int×Int×jN×jL×jW×Int×jL×jL×jC×jN×jL×jW×Int×jL×jL×jC→Option (jL×Int×Int×jN×jL×jW×Int×jL×jL×jC×jN×jL×jW×Int×jL×jL×jC):=fun(x0,x1,x2,x3,x4,x5,x6,x7,x8,x9,x10,x11,x12,x13,x14,x15,x16) =>
 ((ai n (x0,x1,x2,(4:Int))).bind fun r5=>(cond (aO ((x15).length+([r5.2.2.2]).length)) (some (r5.1,r5.2.1,r5.2.2.1,x3,x4,x5,x6,x7,x8,x9,x10,x11,x12,x13,x14,(x15++[r5.2.2.2]),x16)) none))
def gJ (n:Nat) (x:jL×Int×Int×jL):Option (jL×Int×Int×jN×jL×jW×Int×jL×jL×jC) :=
 ((ol n (x.2.2.2,(14:Int),(30:Int))).bind fun r1=>((gK n (x.1,x.2.1,x.2.2.1,r1)).bind fun(r2a,r2b,r2c,r2d,r2e,r2f,r2g,r2h,r2i,r2j)=>((ai n (r2a,r2b,r2c,(30:Int))).bind fun r3=>(cond (r3.2.2.2==(0:Int)) ((jy n (r3.1,r3.2.1,r3.2.2.1,[(-1:Int),(9:Int),(8:Int)])).bind fun r4=>(some (r4.1,r4.2.1,r4.2.2.1,r2d,r2e,r2f,r4.2.2.2,r2h,r2i,r2j))) (cond (r3.2.2.2==(1:Int)) (cond (aO ((r2h).length+([(1:Int)]).length)) (some (r3.1,r3.2.1,r3.2.2.1,r2d,r2e,r2f,r2g,(r2h++[(1:Int)]),r2i,r2j)) none) (cond (r3.2.2.2==(2:Int)) ((jH n (r3.1,r3.2.1,r3.2.2.1,[],[],[],(0:Int),[],[],[],r2d,r2e,r2f,r2g,r2h,r2i,r2j)).bind fun(g5a,g5b,g5c,_,_,_,_,_,_,_,g5k,g5l,g5m,g5n,g5o,g5p,g5q)=>(some (g5a,g5b,g5c,g5k,g5l,g5m,g5n,g5o,g5p,g5q))) (cond (r3.2.2.2==(3:Int)) (cond (decide (((r2j).length:Int)>(0:Int))) (cond (CW (1:Int) (r2j).length (r2j).length) (some (r3.1,r3.2.1,r3.2.2.1,r2d,r2e,r2f,r2g,r2h,r2i,(sl r2j (1:Int) (r2j).length))) none) (some (r3.1,r3.2.1,r3.2.2.1,r2d,r2e,r2f,r2g,r2h,r2i,r2j))) (cond (r3.2.2.2==(4:Int)) (cond (aO ((r2e).length+([(IntKind.i64.wrap (((r2d).length:Int)-(1:Int)))]).length)) (some (r3.1,r3.2.1,r3.2.2.1,r2d,(r2e++[(IntKind.i64.wrap (((r2d).length:Int)-(1:Int)))]),r2f,r2g,r2h,r2i,r2j)) none) (cond (r3.2.2.2==(5:Int)) (cond (decide (((r2f).length:Int)>(0:Int))) (cond (aI (0:Int) (r2f).length) (cond (aI (0:Int) (r2f).length) (some (r3.1,r3.2.1,r3.2.2.1,r2d,r2e,(r2f.set ((0:Int)).toNat ((r2f.getD ((0:Int)).toNat ((0:Int),((0:Int),((0:Int),((0:Int),((0:Int),([],(false,(false,(0:Int)))))))))).1,((r2f.getD ((0:Int)).toNat ((0:Int),((0:Int),((0:Int),((0:Int),((0:Int),([],(false,(false,(0:Int)))))))))).2.1,((r2f.getD ((0:Int)).toNat ((0:Int),((0:Int),((0:Int),((0:Int),((0:Int),([],(false,(false,(0:Int)))))))))).2.2.1,((r2f.getD ((0:Int)).toNat ((0:Int),((0:Int),((0:Int),((0:Int),((0:Int),([],(false,(false,(0:Int)))))))))).2.2.2.1,((IntKind.i64.wrap ((r2f.getD ((0:Int)).toNat ((0:Int),((0:Int),((0:Int),((0:Int),((0:Int),([],(false,(false,(0:Int)))))))))).2.2.2.2.1+(1:Int))),((r2f.getD ((0:Int)).toNat ((0:Int),((0:Int),((0:Int),((0:Int),((0:Int),([],(false,(false,(0:Int)))))))))).2.2.2.2.2.1,((r2f.getD ((0:Int)).toNat ((0:Int),((0:Int),((0:Int),((0:Int),((0:Int),([],(false,(false,(0:Int)))))))))).2.2.2.2.2.2.1,((r2f.getD ((0:Int)).toNat ((0:Int),((0:Int),((0:Int),((0:Int),((0:Int),([],(false,(false,(0:Int)))))))))).2.2.2.2.2.2.2.1,(r2f.getD ((0:Int)).toNat ((0:Int),((0:Int),((0:Int),((0:Int),((0:Int),([],(false,(false,(0:Int)))))))))).2.2.2.2.2.2.2.2))))))))),r2g,r2h,r2i,r2j)) none) none) (some (r3.1,r3.2.1,r3.2.2.1,r2d,r2e,r2f,r2g,r2h,r2i,r2j))) (cond (r3.2.2.2==(6:Int)) (cond (aO ((r2d).length+([((0:Int),((0:Int),(0:Int)))]).length)) (some (r3.1,r3.2.1,r3.2.2.1,(r2d++[((0:Int),((0:Int),(0:Int)))]),r2e,r2f,r2g,r2h,r2i,r2j)) none) (some (r3.1,r3.2.1,r3.2.2.1,r2d,r2e,r2f,r2g,r2h,r2i,r2j))))))))))))
def S66 (n:Nat):aa:={ pars:=[.p [.i (.sl (.int .u8)),jI,jI], .c (.i (.sl (.int .u8)))],gh:=[],nb:=[],res:=[(true,[.i aJ,ah,eU,jI,ah,ah,fw])],g:=gJ n }
def G66 (n:Nat):List (Nat×aa):=[(98,S98 n),(76,PJ n),(99,S99 n)]
def H66 (n:Nat):List ((Nat×Nat)×aa):=[((97,11),PY n)]
def mZ (n:Nat):bT:={ ent:=[.box 0 [0] [.i (.sl (.int .u8)),jI,jI], .box 4 [4,0] [dr,jO,eU,jI,jO,jO,fv], .box 5 [5,0] [dr,jO,eU,jI,jO,jO,fv]],out:=[.box 0 [0] [.i (.sl (.int .u8)),jI,jI], .box 4 [4,0] [dr,jO,eU,jI,jO,jO,fv], .box 5 [5,0] [dr,jO,eU,jI,jO,jO,fv]],g:=jH n }
def Q66 (n:Nat):List (Nat×bT):=[(8,mZ n)]
def E66 (n:Nat):aB:={ τ:=τ,N:=87,Γ:=gl (G66 n) (H66 n),Λ:=dL,Ω:=tO (Q66 n) }
theorem ta (n:Nat):Tj (E66 n) (ae Tryz.f66) 8 10 (mZ n):=fun x=>by kernel_rfl
theorem aeS (n:Nat) (x):gJ n x=am (E66 n) Tryz.f66 (S66 n) x:=by kernel_rfl
def jF (n:Nat):jN×jL×jW×Int×jL×jL×jC×jL×Int×Int×jN×jL×jW×Int×jL×jL×jC→Option (jN×jL×jW×Int×jL×jL×jC×jL×Int×Int×jN×jL×jW×Int×jL×jL×jC×Int):=fun(x0,x1,x2,x3,x4,x5,x6,x7,x8,x9,x10,x11,x12,x13,x14,x15,x16) =>
 ((ai n (x7,x8,x9,((x16).length:Int))).bind fun r4=>(cond (aI r4.2.2.2 (x16).length) (some (x0,x1,x2,x3,x4,x5,x6,r4.1,r4.2.1,r4.2.2.1,x10,x11,x12,x13,x14,x15,x16,(x16.getD (r4.2.2.2).toNat ((0:Int),(false,false))).1)) none))
def jd (n:Nat):jN×jL×jW×Int×jL×jL×jC×jL×Int×Int×jN×jL×jW×Int×jL×jL×jC×Int→Option (jN×jL×jW×Int×jL×jL×jC×jN×jL×jW×Int×jL×jL×jC):=fun(x0,x1,x2,x3,x4,x5,x6,x7,x8,x9,x10,x11,x12,x13,x14,x15,x16,x17) =>
 ((ai n (x7,x8,x9,((x10).length:Int))).bind fun r7=>(cond (aI x17 (x12).length) (some (x0,x1,x2,x3,x4,x5,x6,x10,x11,(x12.set (x17).toNat ((x12.getD (x17).toNat ((0:Int),((0:Int),((0:Int),((0:Int),((0:Int),([],(false,(false,(0:Int)))))))))).1,((x12.getD (x17).toNat ((0:Int),((0:Int),((0:Int),((0:Int),((0:Int),([],(false,(false,(0:Int)))))))))).2.1,((x12.getD (x17).toNat ((0:Int),((0:Int),((0:Int),((0:Int),((0:Int),([],(false,(false,(0:Int)))))))))).2.2.1,((x12.getD (x17).toNat ((0:Int),((0:Int),((0:Int),((0:Int),((0:Int),([],(false,(false,(0:Int)))))))))).2.2.2.1,((x12.getD (x17).toNat ((0:Int),((0:Int),((0:Int),((0:Int),((0:Int),([],(false,(false,(0:Int)))))))))).2.2.2.2.1,((x12.getD (x17).toNat ((0:Int),((0:Int),((0:Int),((0:Int),((0:Int),([],(false,(false,(0:Int)))))))))).2.2.2.2.2.1,((x12.getD (x17).toNat ((0:Int),((0:Int),((0:Int),((0:Int),((0:Int),([],(false,(false,(0:Int)))))))))).2.2.2.2.2.2.1,((x12.getD (x17).toNat ((0:Int),((0:Int),((0:Int),((0:Int),((0:Int),([],(false,(false,(0:Int)))))))))).2.2.2.2.2.2.2.1,r7.2.2.2))))))))),x13,x14,x15,x16)) none))
def jo (n:Nat) (x:jL):Option (jN×jL×jW×Int×jL×jL×jC) :=
 ((pY n x).bind fun r1=>((gJ n (r1.2.1,r1.2.2.1,r1.2.2.2,x)).bind fun(r2a,r2b,r2c,r2d,r2e,r2f,r2g,r2h,r2i,r2j)=>(cond (((r2j).length:Int)==(0:Int)) (some (r2d,r2e,r2f,r2g,r2h,r2i,r2j)) ((cC n (r2d,r2e,r2f,r2g,r2h,r2i,r2j)).bind fun r3=>(cond (!r3) (some (r2d,r2e,r2f,r2g,r2h,r2i,r2j)) ((jF n ([],[],[],(0:Int),[],[],[],r2a,r2b,r2c,r2d,r2e,r2f,r2g,r2h,r2i,r2j)).bind fun(g4a,g4b,g4c,g4d,g4e,g4f,g4g,g4h,g4i,g4j,g4k,g4l,g4m,g4n,g4o,g4p,g4q,g4r)=>((ai n (g4h,g4i,g4j,(5:Int))).bind fun r5=>(cond (r5.2.2.2==(0:Int)) (cond (aI g4r (g4m).length) ((dF n (g4l,(g4m.getD (g4r).toNat ((0:Int),((0:Int),((0:Int),((0:Int),((0:Int),([],(false,(false,(0:Int)))))))))).2.2.2.2.2.2.2.2)).bind fun r6=>(some (g4k,r6,g4m,g4n,g4o,g4p,g4q))) none) (cond (r5.2.2.2==(1:Int)) ((jd n (g4a,g4b,g4c,g4d,g4e,g4f,g4g,r5.1,r5.2.1,r5.2.2.1,g4k,g4l,g4m,g4n,g4o,g4p,g4q,g4r)).bind fun(_,_,_,_,_,_,_,g7h,g7i,g7j,g7k,g7l,g7m,g7n)=>(some (g7h,g7i,g7j,g7k,g7l,g7m,g7n))) (cond (r5.2.2.2==(2:Int)) (cond (aI g4r (g4m).length) (cond ((5:Int) != 0) (cond (aI g4r (g4m).length) (some (g4k,g4l,(g4m.set (g4r).toNat ((g4m.getD (g4r).toNat ((0:Int),((0:Int),((0:Int),((0:Int),((0:Int),([],(false,(false,(0:Int)))))))))).1,((g4m.getD (g4r).toNat ((0:Int),((0:Int),((0:Int),((0:Int),((0:Int),([],(false,(false,(0:Int)))))))))).2.1,((g4m.getD (g4r).toNat ((0:Int),((0:Int),((0:Int),((0:Int),((0:Int),([],(false,(false,(0:Int)))))))))).2.2.1,((((IntKind.i64.wrap ((g4m.getD (g4r).toNat ((0:Int),((0:Int),((0:Int),((0:Int),((0:Int),([],(false,(false,(0:Int)))))))))).2.2.1+(1:Int)))).tmod (5:Int)),((g4m.getD (g4r).toNat ((0:Int),((0:Int),((0:Int),((0:Int),((0:Int),([],(false,(false,(0:Int)))))))))).2.2.2.2.1,((g4m.getD (g4r).toNat ((0:Int),((0:Int),((0:Int),((0:Int),((0:Int),([],(false,(false,(0:Int)))))))))).2.2.2.2.2.1,((g4m.getD (g4r).toNat ((0:Int),((0:Int),((0:Int),((0:Int),((0:Int),([],(false,(false,(0:Int)))))))))).2.2.2.2.2.2.1,((g4m.getD (g4r).toNat ((0:Int),((0:Int),((0:Int),((0:Int),((0:Int),([],(false,(false,(0:Int)))))))))).2.2.2.2.2.2.2.1,(g4m.getD (g4r).toNat ((0:Int),((0:Int),((0:Int),((0:Int),((0:Int),([],(false,(false,(0:Int)))))))))).2.2.2.2.2.2.2.2))))))))),g4n,g4o,g4p,g4q)) none) none) none) (some (g4k,g4l,g4m,g4n,g4o,g4p,g4q))))))))))))
def S58 (n:Nat):aa:={ pars:=[.c (.i (.sl (.int .u8)))],gh:=[],nb:=[],res:=[(true,[.i aJ,ah,fh,jI,ah,ah,fw])],g:=jo n }
def G58 (n:Nat):List (Nat×aa):=[(65,S65 n),(66,S66 n),(10,RV n),(76,PJ n),(91,SM n)]
def mY (n:Nat):bT:={ ent:=[.box 2 [2,0] [dr,jO,eU,jI,jO,jO,fv], .box 3 [7,77,77] [.i (.sl (.int .u8)),jI,jI], .box 4 [4,0] [.i aJ,ah,eU,jI,ah,ah,fw]],out:=[.box 2 [2,0] [dr,jO,eU,jI,jO,jO,fv], .box 3 [7,77,77] [.i (.sl (.int .u8)),jI,jI], .box 4 [4,0] [.i aJ,ah,eU,jI,ah,ah,fw], .val 5 (jI)],g:=jF n }
def mQ (n:Nat):bT:={ ent:=[.box 2 [2,0] [dr,jO,eU,jI,jO,jO,fv], .box 3 [7,77,77] [.i (.sl (.int .u8)),jI,jI], .box 4 [4,0] [.i aJ,ah,eU,jI,ah,ah,fw], .val 5 (jI)],out:=[.box 2 [2,0] [dr,jO,eU,jI,jO,jO,fv], .box 4 [4,0] [.i aJ,ah,eU,jI,ah,ah,fw]],g:=jd n }
def Q58 (n:Nat):List (Nat×bT):=[(5,mY n),(10,mQ n)]
def E58 (n:Nat):aB:={ τ:=τ,N:=74,Γ:=gl (G58 n) [],Λ:=dL,Ω:=tO (Q58 n) }
theorem s9 (n:Nat):Ex7 [(27,[[7,77,77]])] (E58 n) (ae Tryz.f58) 5 [0,1,2,3,4,5,6,7,8,9,10] (mY n):=fun x=>by kernel_rfl
theorem rN (n:Nat):Ex7 [(55,[[7,77,77]])] (E58 n) (ae Tryz.f58) 10 [0,1,2,3,4,5,6,7,8,9,10,11] (mQ n):=fun x=>by kernel_rfl
theorem ae0 (n:Nat) (x):jo n x=am (E58 n) Tryz.f58 (S58 n) x:=by kernel_rfl
def gN (n:Nat) (x:jL):Option (jN×jL×jW×Int×jL×jL×jC) :=
 ((jo n x).bind fun(r1a,r1b,r1c,r1d,r1e,r1f,r1g)=>(some (r1a,r1b,r1c,r1d,r1e,r1f,r1g)))
def S19 (n:Nat):aa:={ pars:=[.c (.i (.sl (.int .u8)))],gh:=[],nb:=[],res:=[(true,[.i aJ,ah,fh,jI,ah,ah,fw])],g:=gN n }
def G19 (n:Nat):List (Nat×aa):=[(58,S58 n)]
def E19 (n:Nat):aB:={ τ:=τ,N:=5,Γ:=gl (G19 n) [],Λ:=dL }
theorem afu (n:Nat) (x):gN n x=am (E19 n) Tryz.f19 (S19 n) x:=by kernel_rfl
def aD (n:Nat) (x:Int×Int×Int):Option (Bool) :=
 (cond (decide (x.1≥x.2.1)) (some (decide (x.1≤x.2.2))) (some false))
def Nv (n:Nat):aa:={ pars:=[.c (jI), .c (jI), .c (jI)],gh:=[],nb:=[],res:=[(false,[jB])],g:=aD n }
def G39 (n:Nat):List (Nat×aa):=[]
def E39 (n:Nat):aB:={ τ:=τ,N:=15,Γ:=gl (G39 n) [],Λ:=dL }
theorem afj (n:Nat) (x):aD n x=am (E39 n) Tryz.f39 (Nv n) x:=by kernel_rfl
def dp (n:Nat) (x:jN×Int):Option (jN×Bool) :=
 ((aD n (x.2,(0:Int),(IntKind.i64.wrap (((x.1).length:Int)-(1:Int))))).bind fun r1=>(some (x.1,r1)))
def V9 (n:Nat):aa:={ pars:=[.p [.i aJ], .c (jI)],gh:=[],nb:=[],res:=[(false,[jB])],g:=dp n }
def G77 (n:Nat):List (Nat×aa):=[(39,Nv n)]
def E77 (n:Nat):aB:={ τ:=τ,N:=13,Γ:=gl (G77 n) [],Λ:=dL }
theorem aeJ (n:Nat) (x):dp n x=am (E77 n) Tryz.f77 (V9 n) x:=by kernel_rfl
def gq (n:Nat) (x:jN×Int):Option (jN×Bool) :=
 ((aD n (x.2,(0:Int),(IntKind.i64.wrap (((x.1).length:Int)-(1:Int))))).bind fun r1=>(some (x.1,r1)))
def LI (n:Nat):aa:={ pars:=[.p [dr], .c (jI)],gh:=[],nb:=[],res:=[(false,[jB])],g:=gq n }
def Tf (n:Nat):List (Nat×aa):=[(39,Nv n)]
def Tp (n:Nat):aB:={ τ:=τ,N:=13,Γ:=gl (Tf n) [],Λ:=dL }
theorem UD (n:Nat) (x):gq n x=am (Tp n) Tryz.f77 (LI n) x:=by kernel_rfl
def bh (n:Nat) (x:Int):Option (Int) :=
 (cond (x==(1:Int)) (some (0:Int)) (cond (x==(5:Int)) (some (1:Int)) (cond (x==(7:Int)) (some (1:Int)) (cond (x==(2:Int)) (some (2:Int)) (cond (x==(3:Int)) (some (2:Int)) (cond (x==(4:Int)) (some (2:Int)) (cond (x==(6:Int)) (some (2:Int)) (cond (x==(8:Int)) (some (2:Int)) (some (-1:Int))))))))))
def RI (n:Nat):aa:={ pars:=[.c (jI)],gh:=[],nb:=[],res:=[(false,[jI])],g:=bh n }
def aa9 (n:Nat):List (Nat×aa):=[]
def acv (n:Nat):aB:={ τ:=τ,N:=15,Γ:=gl (aa9 n) [],Λ:=dL }
theorem YT (n:Nat) (x):bh n x=am (acv n) Tryz.f140 (RI n) x:=by kernel_rfl
def bH (n:Nat) (x:Int×Int×Int×Int):Option (Bool) :=
 ((bh n x.1).bind fun r1=>(cond (r1==(0:Int)) ((aD n (x.2.1,(0:Int),(199:Int))).bind fun r2=>(cond r2 (some (x.2.2.1==(0:Int))) (some false))) (cond (r1==(1:Int)) ((aD n (x.2.1,(0:Int),(IntKind.i64.wrap (x.2.2.2-(1:Int))))).bind fun r3=>(cond r3 (some (x.2.2.1==(0:Int))) (some false))) (cond (r1==(2:Int)) ((aD n (x.2.1,(0:Int),(IntKind.i64.wrap (x.2.2.2-(1:Int))))).bind fun r4=>(cond r4 ((aD n (x.2.2.1,(0:Int),(IntKind.i64.wrap (x.2.2.2-(1:Int))))).bind fun r5=>(cond r5 (cond (x.1 != (8:Int)) (some true) (some (decide (x.2.1≤x.2.2.1)))) (some false))) (some false))) (some false)))))
def RM (n:Nat):aa:={ pars:=[.g [jI,jI,jI], .c (jI)],gh:=[],nb:=[],res:=[(false,[jB])],g:=bH n }
def abA (n:Nat):List (Nat×aa):=[(140,RI n),(39,Nv n)]
def acL (n:Nat):aB:={ τ:=τ,N:=56,Γ:=gl (abA n) [],Λ:=dL }
theorem Zk (n:Nat) (x):bH n x=am (acL n) Tryz.f113 (RM n) x:=by kernel_rfl
def aP (n:Nat):(List ((Int×(Int×Int))×Int))×Int×Int×Int×Int×jN×Int×Int→Option ((List ((Int×(Int×Int))×Int))×Int×Int×Int×Int×jN×Int×Int):=fun(x0,x1,x2,x3,x4,x5,x6,x7) =>
 (cond (aI (wD (.pr (.int .i64) (.pr (.int .i64) (.int .i64))) (x2,(x3,x4)) x0) ((mU (.pr (.int .i64) (.pr (.int .i64) (.int .i64))) (x2,(x3,x4)) (fZ (.pr (.int .i64) (.pr (.int .i64) (.int .i64))) (x2,(x3,x4)) x0) x0)).length) (some ((MF (wD (.pr (.int .i64) (.pr (.int .i64) (.int .i64))) (x2,(x3,x4)) x0) (IntKind.i64.wrap ((fZ (.pr (.int .i64) (.pr (.int .i64) (.int .i64))) (x2,(x3,x4)) x0)+(1:Int))) (mU (.pr (.int .i64) (.pr (.int .i64) (.int .i64))) (x2,(x3,x4)) (fZ (.pr (.int .i64) (.pr (.int .i64) (.int .i64))) (x2,(x3,x4)) x0) x0)),x1,x2,x3,x4,x5,x6,x7)) none)
def bu (n:Nat):(List ((Int×(Int×Int))×Int))×Int×Int×Int×Int×jN×Int×Int→Option ((List ((Int×(Int×Int))×Int))×Int×Int×Int×Int×jN×Int×Int):=fun(x0,x1,x2,x3,x4,x5,x6,x7) =>
 (cond (aI (wD (.pr (.int .i64) (.pr (.int .i64) (.int .i64))) (x2,(x3,x4)) x0) ((mU (.pr (.int .i64) (.pr (.int .i64) (.int .i64))) (x2,(x3,x4)) (fZ (.pr (.int .i64) (.pr (.int .i64) (.int .i64))) (x2,(x3,x4)) x0) x0)).length) (some ((MF (wD (.pr (.int .i64) (.pr (.int .i64) (.int .i64))) (x2,(x3,x4)) x0) (IntKind.i64.wrap ((fZ (.pr (.int .i64) (.pr (.int .i64) (.int .i64))) (x2,(x3,x4)) (mU (.pr (.int .i64) (.pr (.int .i64) (.int .i64))) (x2,(x3,x4)) (fZ (.pr (.int .i64) (.pr (.int .i64) (.int .i64))) (x2,(x3,x4)) x0) x0))+(1:Int))) (mU (.pr (.int .i64) (.pr (.int .i64) (.int .i64))) (x2,(x3,x4)) (fZ (.pr (.int .i64) (.pr (.int .i64) (.int .i64))) (x2,(x3,x4)) x0) x0)),x1,x2,x3,x4,x5,x6,x7)) none)
def dX (n:Nat):Nat→(List ((Int×(Int×Int))×Int))×jN×Int×Int→Option ((Bool)⊕(Unit))
 |0,_=>none
 |m+1,x=>(cond (decide (x.2.2.2<x.2.2.1)) (cond (aI x.2.2.2 (x.2.1).length) ((aP n (x.1,x.2.2.2,(x.2.1.getD (x.2.2.2).toNat ((0:Int),((0:Int),(0:Int)))).1,(x.2.1.getD (x.2.2.2).toNat ((0:Int),((0:Int),(0:Int)))).2.1,(x.2.1.getD (x.2.2.2).toNat ((0:Int),((0:Int),(0:Int)))).2.2,x.2.1,x.2.2.1,x.2.2.2)).bind fun(g1a,g1b,g1c,g1d,g1e,g1f,g1g,g1h)=>(cond (decide ((fZ (.pr (.int .i64) (.pr (.int .i64) (.int .i64))) (g1c,(g1d,g1e)) g1a)>(1:Int))) (some (Sum.inl false)) ((bH n (g1c,g1d,g1e,g1b)).bind fun r2=>(cond (!r2) (some (Sum.inl false)) (dX n m (g1a,g1f,g1g,(IntKind.i64.wrap (g1h+(1:Int))))))))) none) (some (Sum.inr ())))
def fX (n:Nat) (x:jN):Option (Bool) :=
 (cond (decide (((x).length:Int)>(500:Int))) (some false) ((dX n n ([],x,((x).length:Int),(0:Int))).bind fun e3=>(match e3 with|Sum.inl a4=>(some a4)|Sum.inr b5=>(some true))))
def V8 (n:Nat):aa:={ pars:=[.g [.i aJ]],gh:=[],nb:=[],res:=[(false,[jB])],g:=fX n }
def pj (n:Nat):cx:={ ent:=[.val 3 (.m (.pr (.int .i64) (.pr (.int .i64) (.int .i64))) (.int .i64) true), .val 12 (.i aJ), .val 13 (jI), .val 14 (jI)],exs:=[(.ret,[.val 2 (jB)]),(.exit 0,[])],g:=dX n n }
def G78 (n:Nat):List (Nat×aa):=[(113,RM n)]
def pn (n:Nat):bT:={ ent:=[.val 3 (.m (.pr (.int .i64) (.pr (.int .i64) (.int .i64))) (.int .i64) true), .val 4 (jI), .box 5 [5,0] [jI,jI,jI], .val 12 (.i aJ), .val 13 (jI), .val 14 (jI)],out:=[.val 3 (.m (.pr (.int .i64) (.pr (.int .i64) (.int .i64))) (.int .i64) true), .val 4 (jI), .box 5 [5,0] [jI,jI,jI], .val 12 (.i aJ), .val 13 (jI), .val 14 (jI)],g:=aP n }
def Q78 (n:Nat):List (Nat×bT):=[(7,pn n)]
def Wa (n:Nat):aB:={ τ:=τ,N:=36,Γ:=gl (G78 n) [],Λ:=(fun q=>match q with   | 5=>some (pj n)  | _=>none),Ω:=tO (Q78 n) }
theorem zB (n:Nat) (x):(FK (cQ (ae Tryz.f78) 7)).map (fun π=>dk (Wa n) (cQ (ae Tryz.f78) 7) (cU (cQ (ae Tryz.f78) 7) π) (fu (pn n).ent x) (fun s=>kH (Wa n).N (pn n).out s))=[aP n x,aP n x,aP n x,bu n x,bu n x,bu n x,aP n x,aP n x,aP n x,bu n x,bu n x,bu n x]:=by kernel_rfl
theorem zU (n m:Nat) (x):dX n (m+1) x=cy (Wa n) (ax (ae Tryz.f78) 0) (pj n) (dX n m) x:=by kernel_rfl
theorem aeI (n:Nat) (x):fX n x=am (Wa n) Tryz.f78 (V8 n) x:=by kernel_rfl
def bW (n:Nat):Nat→jL×jN×jL×Int×Int→Option ((Bool)⊕(jL×jN))
 |0,_=>none
 |m+1,x=>(cond (decide (x.2.2.2.2<x.2.2.2.1)) (cond (aI x.2.2.2.2 (x.2.2.1).length) ((dp n (x.2.1,(x.2.2.1.getD (x.2.2.2.2).toNat (0:Int)))).bind fun r1=>(cond (!r1.2) (some (Sum.inl false)) (cond (decide (x.2.2.2.2>(0:Int))) (cond (aI (IntKind.i64.wrap (x.2.2.2.2-(1:Int))) (x.1).length) (cond (decide ((x.2.2.1.getD (x.2.2.2.2).toNat (0:Int))≤(x.1.getD ((IntKind.i64.wrap (x.2.2.2.2-(1:Int)))).toNat (0:Int)))) (some (Sum.inl false)) (bW n m (x.1,r1.1,x.2.2.1,x.2.2.2.1,(IntKind.i64.wrap (x.2.2.2.2+(1:Int)))))) none) (bW n m (x.1,r1.1,x.2.2.1,x.2.2.2.1,(IntKind.i64.wrap (x.2.2.2.2+(1:Int)))))))) none) (some (Sum.inr (x.1,x.2.1))))
def qT (n:Nat) (x:jN×jL):Option (Bool) :=
 ((bW n n (x.2,x.1,x.2,((x.2).length:Int),(0:Int))).bind fun e2=>(match e2 with|Sum.inl a3=>(some a3)|Sum.inr b4=>(cond (decide (((b4.1).length:Int)≤(200:Int))) ((fX n b4.2).bind fun r5=>(some r5)) (some false))))
def S38 (n:Nat):aa:={ pars:=[.g [.i aJ], .c (ah)],gh:=[],nb:=[],res:=[(false,[jB])],g:=qT n }
def pm (n:Nat):cx:={ ent:=[.val 1 (ah), .box 2 [2,0] [.i aJ], .val 7 (ah), .val 8 (jI), .val 9 (jI)],exs:=[(.ret,[.val 4 (jB)]),(.exit 0,[.val 1 (ah), .box 2 [2,0] [.i aJ]])],g:=bW n n }
def G38 (n:Nat):List (Nat×aa):=[(77,V9 n),(78,V8 n)]
def E38 (n:Nat):aB:={ τ:=τ,N:=38,Γ:=gl (G38 n) [],Λ:=(fun q=>match q with   | 2=>some (pm n)  | _=>none) }
theorem zV (n m:Nat) (x):bW n (m+1) x=cy (E38 n) (ax (ae Tryz.f38) 0) (pm n) (bW n m) x:=by kernel_rfl
theorem afk (n:Nat) (x):qT n x=am (E38 n) Tryz.f38 (S38 n) x:=by kernel_rfl
def aR (n:Nat):Nat→jL×Int→Option ((Bool)⊕(Unit))
 |0,_=>none
 |m+1,x=>(cond (decide (x.2<((x.1).length:Int))) (cond (aI x.2 (x.1).length) (cond (aI (IntKind.i64.wrap (x.2-(1:Int))) (x.1).length) (cond (decide ((x.1.getD (x.2).toNat (0:Int))≤(x.1.getD ((IntKind.i64.wrap (x.2-(1:Int)))).toNat (0:Int)))) (some (Sum.inl false)) (aR n m (x.1,(IntKind.i64.wrap (x.2+(1:Int)))))) none) none) (some (Sum.inr ())))
def ix (n:Nat) (x:jL):Option (Bool) :=
 ((aR n n (x,(1:Int))).bind fun e1=>(match e1 with|Sum.inl a2=>(some a2)|Sum.inr b3=>(some true)))
def S40 (n:Nat):aa:={ pars:=[.c (ah)],gh:=[],nb:=[],res:=[(false,[jB])],g:=ix n }
def j7 (n:Nat):cx:={ ent:=[.val 0 (ah), .val 3 (jI)],exs:=[(.ret,[.val 2 (jB)]),(.exit 0,[])],g:=aR n n }
def G40 (n:Nat):List (Nat×aa):=[]
def E40 (n:Nat):aB:={ τ:=τ,N:=20,Γ:=gl (G40 n) [],Λ:=(fun q=>match q with   | 2=>some (j7 n)  | _=>none) }
theorem t3 (n m:Nat) (x):aR n (m+1) x=cy (E40 n) (ax (ae Tryz.f40) 0) (j7 n) (aR n m) x:=by kernel_rfl
theorem afi (n:Nat) (x):ix n x=am (E40 n) Tryz.f40 (S40 n) x:=by kernel_rfl
def jb (n:Nat) (x:Int×Int):Option (ByteArray) :=
 ((aD n (x.1,(1:Int),(3:Int))).bind fun r1=>(cond (!r1) (some (⟨#[]⟩:ByteArray)) ((aD n (x.2,(0:Int),(1:Int))).bind fun r2=>(cond (!r2) (some (⟨#[]⟩:ByteArray)) (cond (aI (IntKind.i64.wrap (x.1-(1:Int))) 3) (cond (aI x.2 2) (some ([([(zL2,zL3),(V2,Qd),(F6,u5)].getD ((IntKind.i64.wrap (x.1-(1:Int)))).toNat ((⟨#[]⟩:ByteArray),(⟨#[]⟩:ByteArray))).1,([(zL2,zL3),(V2,Qd),(F6,u5)].getD ((IntKind.i64.wrap (x.1-(1:Int)))).toNat ((⟨#[]⟩:ByteArray),(⟨#[]⟩:ByteArray))).2].getD (x.2).toNat (⟨#[]⟩:ByteArray))) none) none)))))
def Vz (n:Nat):aa:={ pars:=[.c (jI), .c (jI)],gh:=[],nb:=[],res:=[(false,[jS])],g:=jb n }
def aby (n:Nat):List (Nat×aa):=[(39,Nv n)]
def acK (n:Nat):aB:={ τ:=τ,N:=22,Γ:=gl (aby n) [],Λ:=dL }
theorem Zi (n:Nat) (x):jb n x=am (acK n) Tryz.f115 (Vz n) x:=by kernel_rfl
def oy (n:Nat) (x:Int):Option (ByteArray) :=
 (cond (aI (IntKind.i64.wrap (x-(1:Int))) 4) (some ([(⟨#[102,114,101,115,104,32]⟩:ByteArray),(⟨#[115,101,110,100,32]⟩:ByteArray),(⟨#[116,97,107,101,32]⟩:ByteArray),(⟨#[99,108,97,105,109,32]⟩:ByteArray)].getD ((IntKind.i64.wrap (x-(1:Int)))).toNat (⟨#[]⟩:ByteArray))) none)
def Kt (n:Nat):aa:={ pars:=[.c (jI)],gh:=[],nb:=[],res:=[(false,[jS])],g:=oy n }
def aaG (n:Nat):List (Nat×aa):=[]
def acd (n:Nat):aB:={ τ:=τ,N:=7,Γ:=gl (aaG n) [],Λ:=dL }
theorem Yq (n:Nat) (x):oy n x=am (acd n) Tryz.f177 (Kt n) x:=by kernel_rfl
def eH (n:Nat) (x:ByteArray×ByteArray):Option (Bool) :=
 (cond (decide (((x.1).size:Int)≥((x.2).size:Int))) (cond (CW 0 ((x.2).size:Int) (x.1).size) (some (jn (sub x.1 0 ((x.2).size:Int)) x.2)) none) (some false))
def UR (n:Nat):aa:={ pars:=[.c (jS), .c (jS)],gh:=[],nb:=[],res:=[(false,[jB])],g:=eH n }
def aad (n:Nat):List (Nat×aa):=[]
def abS (n:Nat):aB:={ τ:=τ,N:=18,Γ:=gl (aad n) [],Λ:=dL }
theorem XV (n:Nat) (x):eH n x=am (abS n) Tryz.f229 (UR n) x:=by kernel_rfl
def eI (n:Nat) (x:ByteArray×ByteArray):Option (ByteArray×Bool) :=
 ((eH n (x.1,x.2)).bind fun r1=>(cond (!r1) (some (x.1,false)) (cond (CW ((x.2).size:Int) (x.1).size (x.1).size) (some ((sub x.1 ((x.2).size:Int) (x.1).size),true)) none)))
def U0 (n:Nat):aa:={ pars:=[.c (jS), .c (jS)],gh:=[],nb:=[],res:=[(false,[jS]),(false,[jB])],g:=eI n }
def aar (n:Nat):List (Nat×aa):=[(229,UR n)]
def ab1 (n:Nat):aB:={ τ:=τ,N:=15,Γ:=gl (aar n) [],Λ:=dL }
theorem Yb (n:Nat) (x):eI n x=am (ab1 n) Tryz.f197 (U0 n) x:=by kernel_rfl
def lV (n:Nat) (x:ByteArray×ByteArray):Option (ByteArray×Bool) :=
 ((eI n (x.1,x.2)).bind fun r1=>(some (r1.1,r1.2)))
def Va (n:Nat):aa:={ pars:=[.c (jS), .c (jS)],gh:=[],nb:=[],res:=[(false,[jS]),(false,[jB])],g:=lV n }
def aaH (n:Nat):List (Nat×aa):=[(197,U0 n)]
def ace (n:Nat):aB:={ τ:=τ,N:=11,Γ:=gl (aaH n) [],Λ:=dL }
theorem Yr (n:Nat) (x):lV n x=am (ace n) Tryz.f176 (Va n) x:=by kernel_rfl
def ja (n:Nat):Nat→ByteArray×Int×ByteArray×Int→Option ((Int×ByteArray)⊕(Int×ByteArray))
 |0,_=>none
 |m+1,x=>(cond (decide (x.2.2.2≤(4:Int))) ((oy n x.2.2.2).bind fun r1=>((lV n (x.1,r1)).bind fun r2=>(cond r2.2 (some (Sum.inl (x.2.2.2,r2.1))) (ja n m (x.1,x.2.1,x.2.2.1,(IntKind.i64.wrap (x.2.2.2+(1:Int)))))))) (some (Sum.inr (x.2.1,x.2.2.1))))
def wG (n:Nat) (x:ByteArray):Option (Int×ByteArray) :=
 ((ja n n (x,(0:Int),(⟨#[]⟩:ByteArray),(1:Int))).bind fun e3=>(match e3 with|Sum.inl a4=>(some (a4.1,a4.2))|Sum.inr b5=>(some ((0:Int),(⟨#[]⟩:ByteArray)))))
def Vo (n:Nat):aa:={ pars:=[.c (jS)],gh:=[],nb:=[],res:=[(true,[jI,jS])],g:=wG n }
def qv (n:Nat):cx:={ ent:=[.val 0 (jS), .box 2 [2,0] [jI,jS], .val 3 (jI)],exs:=[(.ret,[.box 2 [2,0] [jI,jS]]),(.exit 0,[.box 2 [2,0] [jI,jS]])],g:=ja n n }
def aa8 (n:Nat):List (Nat×aa):=[(177,Kt n),(176,Va n)]
def VP (n:Nat):aB:={ τ:=τ,N:=22,Γ:=gl (aa8 n) [],Λ:=(fun q=>match q with   | 2=>some (qv n)  | _=>none) }
theorem A5 (n m:Nat) (x):ja n (m+1) x=cy (VP n) (ax (ae Tryz.f142) 0) (qv n) (ja n m) x:=by kernel_rfl
theorem YS (n:Nat) (x):wG n x=am (VP n) Tryz.f142 (Vo n) x:=by kernel_rfl
def iv (n:Nat) (x:ByteArray×Int×Int×ByteArray):Option (ByteArray×Int×Int×ByteArray×Int) :=
 (cond (decide (x.2.1≥((x.1).size:Int))) (some (x.1,x.2.1,x.2.2.1,x.2.2.2,(0:Int))) (cond (aI x.2.1 (x.1).size) (some (x.1,x.2.1,x.2.2.1,x.2.2.2,(bt x.1 x.2.1))) none))
def PL (n:Nat):aa:={ pars:=[.p [jS,jI,jI,jS]],gh:=[],nb:=[],res:=[(false,[.i (.int .u8)])],g:=iv n }
def aau (n:Nat):List (Nat×aa):=[]
def ab4 (n:Nat):aB:={ τ:=τ,N:=22,Γ:=gl (aau n) [],Λ:=dL }
theorem Ye (n:Nat) (x):iv n x=am (ab4 n) Tryz.f193 (PL n) x:=by kernel_rfl
def rh (n:Nat) (x:Int):Option (Bool) :=
 (cond (decide (x≥(48:Int))) (some (decide (x≤(57:Int)))) (some false))
def UU (n:Nat):aa:={ pars:=[.c (.i (.int .u8))],gh:=[],nb:=[],res:=[(false,[jB])],g:=rh n }
def aai (n:Nat):List (Nat×aa):=[]
def abW (n:Nat):aB:={ τ:=τ,N:=9,Γ:=gl (aai n) [],Λ:=dL }
theorem X0 (n:Nat) (x):rh n x=am (abW n) Tryz.f218 (UU n) x:=by kernel_rfl
def dl (n:Nat):Nat→ByteArray×Int×Int×ByteArray×Int×Int→Option (ByteArray×Int×Int×ByteArray×Int×Int)
 |0,_=>none
 |m+1,x=>((iv n (x.1,x.2.1,x.2.2.1,x.2.2.2.1)).bind fun r1=>((rh n r1.2.2.2.2).bind fun r2=>(cond r2 (dl n m (r1.1,(IntKind.i64.wrap (r1.2.1+(1:Int))),r1.2.2.1,r1.2.2.2.1,x.2.2.2.2.1,x.2.2.2.2.2)) (some (r1.1,r1.2.1,r1.2.2.1,r1.2.2.2.1,x.2.2.2.2.1,x.2.2.2.2.2)))))
def kF (n:Nat) (x:ByteArray×Int×Int×ByteArray×Int):Option (ByteArray×Int×Int×ByteArray×Int) :=
 ((dl n n (x.1,x.2.1,x.2.2.1,x.2.2.2.1,x.2.2.2.2,x.2.1)).bind fun e3=>(cond (CW e3.2.2.2.2.2 e3.2.1 (e3.1).size) ((xO (sub e3.1 e3.2.2.2.2.2 e3.2.1)).bind fun r4=>(cond (!(!r4.2)) (some (e3.1,e3.2.1,e3.2.2.1,e3.2.2.2.1,(-1:Int))) (cond (decide ((((sub e3.1 e3.2.2.2.2.2 e3.2.1)).size:Int)>e3.2.2.2.2.1)) (some (e3.1,e3.2.1,e3.2.2.1,e3.2.2.2.1,(-1:Int))) ((xN r4.1).bind fun r5=>(cond (!jn r5 (sub e3.1 e3.2.2.2.2.2 e3.2.1)) (some (e3.1,e3.2.1,e3.2.2.1,e3.2.2.2.1,(-1:Int))) (some (e3.1,e3.2.1,e3.2.2.1,e3.2.2.2.1,r4.1))))))) none))
def U1 (n:Nat):aa:={ pars:=[.p [jS,jI,jI,jS], .c (jI)],gh:=[],nb:=[],res:=[(false,[jI])],g:=kF n }
def iA (n:Nat):cx:={ ent:=[.box 0 [0] [jS,jI,jI,jS], .val 1 (jI), .val 5 (jI)],exs:=[(.exit 0,[.box 0 [0] [jS,jI,jI,jS], .val 1 (jI), .val 5 (jI)])],g:=dl n n }
def aaw (n:Nat):List (Nat×aa):=[(193,PL n),(218,UU n),(219,ZH),(220,ZG)]
def VJ (n:Nat):aB:={ τ:=τ,N:=53,Γ:=gl (aaw n) [],Λ:=(fun q=>match q with   | 2=>some (iA n)  | _=>none) }
theorem ru (n m:Nat) (x):dl n (m+1) x=cy (VJ n) (ax (ae Tryz.f191) 0) (iA n) (dl n m) x:=by kernel_rfl
theorem Yg (n:Nat) (x):kF n x=am (VJ n) Tryz.f191 (U1 n) x:=by kernel_rfl
def aN (n:Nat) (x:ByteArray×Int×Int×ByteArray×Int×Int):Option (ByteArray×Int×Int×ByteArray×Int) :=
 (cond (x.2.2.1==(0:Int)) (some (x.1,x.2.2.2.2.2,x.2.2.2.2.1,x.2.2.2.1,(-1:Int))) (some (x.1,x.2.1,x.2.2.1,x.2.2.2.1,(-1:Int))))
def Ks (n:Nat):aa:={ pars:=[.p [jS,jI,jI,jS], .c (jI), .c (jI)],gh:=[],nb:=[],res:=[(false,[jI])],g:=aN n }
def aav (n:Nat):List (Nat×aa):=[]
def ab5 (n:Nat):aB:={ τ:=τ,N:=20,Γ:=gl (aav n) [],Λ:=dL }
theorem Yf (n:Nat) (x):aN n x=am (ab5 n) Tryz.f192 (Ks n) x:=by kernel_rfl
def lx (n:Nat) (x:ByteArray×Int×Int×ByteArray×Int):Option (ByteArray×Int×Int×ByteArray×Int) :=
 ((kF n (x.1,x.2.1,x.2.2.1,x.2.2.2.1,(9:Int))).bind fun r1=>((aD n (r1.2.2.2.2,(0:Int),(199:Int))).bind fun r2=>(cond (!r2) ((aN n (r1.1,r1.2.1,r1.2.2.1,r1.2.2.2.1,(4:Int),x.2.2.2.2)).bind fun r3=>(some (r3.1,r3.2.1,r3.2.2.1,r3.2.2.2.1,r3.2.2.2.2))) (some (r1.1,r1.2.1,r1.2.2.1,r1.2.2.2.1,r1.2.2.2.2)))))
def Ve (n:Nat):aa:={ pars:=[.p [jS,jI,jI,jS], .c (jI)],gh:=[],nb:=[],res:=[(false,[jI])],g:=lx n }
def aaT (n:Nat):List (Nat×aa):=[(191,U1 n),(39,Nv n),(192,Ks n)]
def acn (n:Nat):aB:={ τ:=τ,N:=15,Γ:=gl (aaT n) [],Λ:=dL }
theorem YD (n:Nat) (x):lx n x=am (acn n) Tryz.f162 (Ve n) x:=by kernel_rfl
def ly (n:Nat) (x:ByteArray×Int×Int×ByteArray):Option (ByteArray×Int×Int×ByteArray×Int) :=
 ((iv n (x.1,(IntKind.i64.wrap (x.2.1+(1:Int))),x.2.2.1,x.2.2.2)).bind fun r1=>(cond (decide (r1.2.2.2.2<(97:Int))) ((aN n (r1.1,r1.2.1,r1.2.2.1,r1.2.2.2.1,(3:Int),r1.2.1)).bind fun r2=>(some (r2.1,r2.2.1,r2.2.2.1,r2.2.2.2.1,r2.2.2.2.2))) (cond (decide (r1.2.2.2.2>(122:Int))) ((aN n (r1.1,r1.2.1,r1.2.2.1,r1.2.2.2.1,(3:Int),r1.2.1)).bind fun r3=>(some (r3.1,r3.2.1,r3.2.2.1,r3.2.2.2.1,r3.2.2.2.2))) (some (r1.1,(IntKind.i64.wrap (r1.2.1+(1:Int))),r1.2.2.1,r1.2.2.2.1,(IntKind.i64.wrap (IntKind.u8.wrap (r1.2.2.2.2-(97:Int)))))))))
def Vd (n:Nat):aa:={ pars:=[.p [jS,jI,jI,jS]],gh:=[],nb:=[],res:=[(false,[jI])],g:=ly n }
def aaS (n:Nat):List (Nat×aa):=[(193,PL n),(192,Ks n)]
def acm (n:Nat):aB:={ τ:=τ,N:=35,Γ:=gl (aaS n) [],Λ:=dL }
theorem YC (n:Nat) (x):ly n x=am (acm n) Tryz.f163 (Vd n) x:=by kernel_rfl
def pv (n:Nat) (x:jP×Int×Int×jL):Option (jP) :=
 (cond (aO ((x.1).length+([(x.2.1,(x.2.2.1,x.2.2.2))]).length)) (some (x.1++[(x.2.1,(x.2.2.1,x.2.2.2))])) none)
def iw (n:Nat) (x:jP×Int×Int×jL):Option (jP×Int) :=
 ((pv n (x.1,x.2.1,x.2.2.1,x.2.2.2)).bind fun g1=>(some (g1,(IntKind.i64.wrap (((g1).length:Int)-(1:Int))))))
def RD (n:Nat):aa:={ pars:=[.p [.o 171 (.pr (.int .u8) (.pr (.int .i64) (.sl (.int .i64))))], .g [.i (.int .u8),jI,ah]],gh:=[],nb:=[],res:=[(false,[jI])],g:=iw n }
def aaR (n:Nat):List (Nat×aa):=[]
def oG (n:Nat):bT:={ ent:=[.box 0 [0] [.o 171 (.pr (.int .u8) (.pr (.int .i64) (.sl (.int .i64))))], .box 3 [3,0] [.i (.int .u8),jI,ah]],out:=[.box 0 [0] [.o 171 (.pr (.int .u8) (.pr (.int .i64) (.sl (.int .i64))))]],g:=pv n }
def ZU (n:Nat):List (Nat×bT):=[(1,oG n)]
def R0 (n:Nat):aB:={ τ:=τ,N:=21,Γ:=gl (aaR n) [],Λ:=dL,Ω:=tO (ZU n) }
theorem tU (n:Nat):Tj (R0 n) (ae Tryz.f164) 1 120 (oG n):=fun x=>by kernel_rfl
theorem YB (n:Nat) (x):iw n x=am (R0 n) Tryz.f164 (RD n) x:=by kernel_rfl
def kp (n:Nat):ByteArray×Int×Int×ByteArray×Int×Bool×jP→Option (ByteArray×Int×Int×ByteArray×Bool×jP×Int):=fun(x0,x1,x2,x3,x4,_,x6) =>
 (cond (x4==(110:Int)) ((lx n (x0,(IntKind.i64.wrap (x1+(1:Int))),x2,x3,x1)).bind fun r1=>((iw n (x6,x4,r1.2.2.2.2,([]:List Int))).bind fun r2=>(some (r1.1,r1.2.1,r1.2.2.1,r1.2.2.2.1,false,r2.1,r2.2)))) ((ly n (x0,x1,x2,x3)).bind fun r3=>((iw n (x6,x4,r3.2.2.2.2,([]:List Int))).bind fun r4=>(some (r3.1,r3.2.1,r3.2.2.1,r3.2.2.2.1,false,r4.1,r4.2)))))
def Vf (n:Nat):aa:={ pars:=[.p [jS,jI,jI,jS], .c (.i (.int .u8)), .p [.q [3] 0], .p [.o 171 (.pr (.int .u8) (.pr (.int .i64) (.sl (.int .i64))))]],gh:=[(2,0,none)],nb:=[],res:=[(false,[jI])],g:=kp n }
def aaU (n:Nat):List (Nat×aa):=[(162,Ve n),(164,RD n),(163,Vd n)]
def aco (n:Nat):aB:={ τ:=τ,N:=31,Γ:=gl (aaU n) [],Λ:=dL }
theorem YE (n:Nat) (x):kp n x=am (aco n) Tryz.f161 (Vf n) x:=by kernel_rfl
def aY (n:Nat):ByteArray×Int×Int×ByteArray×Int×jL×Bool×jP→Option (ByteArray×Int×Int×ByteArray×Bool×jP×Int):=fun(x0,x1,x2,x3,x4,x5,_,x7) =>
 ((iw n (x7,x4,(0:Int),x5)).bind fun r1=>(some (x0,x1,x2,x3,false,r1.1,r1.2)))
def Vc (n:Nat):aa:={ pars:=[.p [jS,jI,jI,jS], .c (.i (.int .u8)), .c (ah), .p [.q [4] 0], .p [.o 171 (.pr (.int .u8) (.pr (.int .i64) (.sl (.int .i64))))]],gh:=[(3,0,none)],nb:=[],res:=[(false,[jI])],g:=aY n }
def aaQ (n:Nat):List (Nat×aa):=[(164,RD n)]
def acl (n:Nat):aB:={ τ:=τ,N:=13,Γ:=gl (aaQ n) [],Λ:=dL }
theorem YA (n:Nat) (x):aY n x=am (acl n) Tryz.f165 (Vc n) x:=by kernel_rfl
def gE (n:Nat):Nat→Int×ByteArray×Int→Option ((Bool)⊕(Unit))
 |0,_=>none
 |m+1,x=>(cond (decide (x.2.2<((x.2.1).size:Int))) (cond (aI x.2.2 (x.2.1).size) (cond ((bt x.2.1 x.2.2)==x.1) (some (Sum.inl true)) (gE n m (x.1,x.2.1,(IntKind.i64.wrap (x.2.2+(1:Int)))))) none) (some (Sum.inr ())))
def aT (n:Nat) (x:Int×ByteArray):Option (Bool) :=
 ((gE n n (x.1,x.2,(0:Int))).bind fun e1=>(match e1 with|Sum.inl a2=>(some a2)|Sum.inr b3=>(some false)))
def UT (n:Nat):aa:={ pars:=[.c (.i (.int .u8)), .c (jS)],gh:=[],nb:=[],res:=[(false,[jB])],g:=aT n }
def nR (n:Nat):cx:={ ent:=[.val 0 (.i (.int .u8)), .val 1 (jS), .val 5 (jI)],exs:=[(.ret,[.val 4 (jB)]),(.exit 0,[])],g:=gE n n }
def aah (n:Nat):List (Nat×aa):=[]
def VG (n:Nat):aB:={ τ:=τ,N:=17,Γ:=gl (aah n) [],Λ:=(fun q=>match q with   | 2=>some (nR n)  | _=>none) }
theorem yw (n m:Nat) (x):gE n (m+1) x=cy (VG n) (ax (ae Tryz.f221) 0) (nR n) (gE n m) x:=by kernel_rfl
theorem XZ (n:Nat) (x):aT n x=am (VG n) Tryz.f221 (UT n) x:=by kernel_rfl
def pG (n:Nat) (x:Int):Option (Int) :=
 (cond (x==(123:Int)) (some (125:Int)) (cond (x==(91:Int)) (some (93:Int)) (some (41:Int))))
def US (n:Nat):aa:={ pars:=[.c (.i (.int .u8))],gh:=[],nb:=[],res:=[(false,[.i (.int .u8)])],g:=pG n }
def aaf (n:Nat):List (Nat×aa):=[]
def abU (n:Nat):aB:={ τ:=τ,N:=8,Γ:=gl (aaf n) [],Λ:=dL }
theorem XX (n:Nat) (x):pG n x=am (abU n) Tryz.f223 (US n) x:=by kernel_rfl
def bS (n:Nat) (x:ByteArray×Int×Int×ByteArray×Int):Option (ByteArray×Int×Int×ByteArray) :=
 (cond (x.2.2.1 != (0:Int)) (some (x.1,x.2.1,x.2.2.1,x.2.2.2.1)) (cond (decide (x.2.1≥((x.1).size:Int))) ((aN n (x.1,x.2.1,x.2.2.1,x.2.2.2.1,(2:Int),((x.1).size:Int))).bind fun r1=>(some (r1.1,r1.2.1,r1.2.2.1,r1.2.2.2.1))) (cond (aI x.2.1 (x.1).size) (cond ((bt x.1 x.2.1) != x.2.2.2.2) ((aN n (x.1,x.2.1,x.2.2.1,x.2.2.2.1,(3:Int),x.2.1)).bind fun r2=>(some (r2.1,r2.2.1,r2.2.2.1,r2.2.2.2.1))) (some (x.1,(IntKind.i64.wrap (x.2.1+(1:Int))),x.2.2.1,x.2.2.2.1))) none)))
def Rp (n:Nat):aa:={ pars:=[.p [jS,jI,jI,jS], .c (.i (.int .u8))],gh:=[],nb:=[],res:=[],g:=bS n }
def aae (n:Nat):List (Nat×aa):=[(192,Ks n)]
def abT (n:Nat):aB:={ τ:=τ,N:=53,Γ:=gl (aae n) [],Λ:=dL }
theorem XW (n:Nat) (x):bS n x=am (abT n) Tryz.f224 (Rp n) x:=by kernel_rfl
def cj (n:Nat) (rec_:ByteArray×Int×Int×ByteArray×Bool×Bool×Bool×jP→Option (ByteArray×Int×Int×ByteArray×Bool×Bool×Bool×jP×Int)):ByteArray×Int×Int×ByteArray×Bool×Bool×Int×Bool×jP→Option (ByteArray×Int×Int×ByteArray×Bool×Bool×Bool×jP×jL):=fun(x0,x1,x2,x3,_,_,x6,_,x8) =>
 ((rec_ (x0,x1,x2,x3,false,false,false,x8)).bind fun(r1a,r1b,r1c,r1d,_,_,_,r1h,r1i)=>((bS n (r1a,r1b,r1c,r1d,(44:Int))).bind fun r2=>((rec_ (r2.1,r2.2.1,r2.2.2.1,r2.2.2.2,false,false,false,r1h)).bind fun(r3a,r3b,r3c,r3d,_,_,_,r3h,r3i)=>((bS n (r3a,r3b,r3c,r3d,x6)).bind fun r4=>(some (r4.1,r4.2.1,r4.2.2.1,r4.2.2.2,false,false,false,r3h,[r1i,r3i]))))))
def tQ (n:Nat) (rec_:ByteArray×Int×Int×ByteArray×Bool×Bool×Bool×jP→Option (ByteArray×Int×Int×ByteArray×Bool×Bool×Bool×jP×Int)):ByteArray×Int×Int×ByteArray×Bool×Bool×Bool×jP→Option (ByteArray×Int×Int×ByteArray×Bool×Bool×Bool×jP×Int):=fun(x0,x1,x2,x3,_,_,_,x7) =>
 (cond (x2 != (0:Int)) (some (x0,x1,x2,x3,false,false,false,x7,(-1:Int))) ((iv n (x0,x1,x2,x3)).bind fun r1=>(cond (decide (r1.2.1≥((r1.1).size:Int))) ((aN n (r1.1,r1.2.1,r1.2.2.1,r1.2.2.2.1,(2:Int),((r1.1).size:Int))).bind fun r2=>(some (r2.1,r2.2.1,r2.2.2.1,r2.2.2.2.1,false,false,false,x7,r2.2.2.2.2))) (cond (r1.2.2.2.2==(110:Int)) ((kp n (r1.1,r1.2.1,r1.2.2.1,r1.2.2.2.1,r1.2.2.2.2,false,x7)).bind fun(r3a,r3b,r3c,r3d,_,r3f,r3g)=>(some (r3a,r3b,r3c,r3d,false,false,false,r3f,r3g))) ((aT n (r1.2.2.2.2,(⟨#[64,36,63]⟩:ByteArray))).bind fun r4=>(cond r4 ((aT n (r1.2.2.2.2,r1.2.2.2.1)).bind fun r5=>(cond r5 ((kp n (r1.1,r1.2.1,r1.2.2.1,r1.2.2.2.1,r1.2.2.2.2,false,x7)).bind fun(r6a,r6b,r6c,r6d,_,r6f,r6g)=>(some (r6a,r6b,r6c,r6d,false,false,false,r6f,r6g))) ((aT n (r1.2.2.2.2,(⟨#[40,123,91]⟩:ByteArray))).bind fun r7=>(cond r7 ((pG n r1.2.2.2.2).bind fun r8=>((cj n rec_ (r1.1,(IntKind.i64.wrap (r1.2.1+(1:Int))),r1.2.2.1,r1.2.2.2.1,false,false,r8,false,x7)).bind fun(r9a,r9b,r9c,r9d,_,_,_,r9h,r9i)=>(cond (r9c != (0:Int)) (some (r9a,r9b,r9c,r9d,false,false,false,r9h,(-1:Int))) ((aY n (r9a,r9b,r9c,r9d,r1.2.2.2.2,r9i,false,r9h)).bind fun(r10a,r10b,r10c,r10d,_,r10f,r10g)=>(some (r10a,r10b,r10c,r10d,false,false,false,r10f,r10g)))))) ((aT n (r1.2.2.2.2,(⟨#[35,94]⟩:ByteArray))).bind fun r11=>(cond r11 ((rec_ (r1.1,(IntKind.i64.wrap (r1.2.1+(1:Int))),r1.2.2.1,r1.2.2.2.1,false,false,false,x7)).bind fun(r12a,r12b,r12c,r12d,_,_,_,r12h,r12i)=>(cond (r12c != (0:Int)) (some (r12a,r12b,r12c,r12d,false,false,false,r12h,(-1:Int))) ((aY n (r12a,r12b,r12c,r12d,r1.2.2.2.2,[r12i],false,r12h)).bind fun(r13a,r13b,r13c,r13d,_,r13f,r13g)=>(some (r13a,r13b,r13c,r13d,false,false,false,r13f,r13g))))) ((aT n (r1.2.2.2.2,(⟨#[60,62,33]⟩:ByteArray))).bind fun r14=>(cond r14 ((aT n (r1.2.2.2.2,r1.2.2.2.1)).bind fun r15=>(cond r15 ((rec_ (r1.1,(IntKind.i64.wrap (r1.2.1+(1:Int))),r1.2.2.1,r1.2.2.2.1,false,false,false,x7)).bind fun(r16a,r16b,r16c,r16d,_,_,_,r16h,r16i)=>(cond (r16c != (0:Int)) (some (r16a,r16b,r16c,r16d,false,false,false,r16h,(-1:Int))) ((aY n (r16a,r16b,r16c,r16d,r1.2.2.2.2,[r16i],false,r16h)).bind fun(r17a,r17b,r17c,r17d,_,r17f,r17g)=>(some (r17a,r17b,r17c,r17d,false,false,false,r17f,r17g))))) ((aT n (r1.2.2.2.2,(⟨#[107,42]⟩:ByteArray))).bind fun r18=>(cond r18 ((bS n (r1.1,(IntKind.i64.wrap (r1.2.1+(1:Int))),r1.2.2.1,r1.2.2.2.1,(40:Int))).bind fun r19=>((cj n rec_ (r19.1,r19.2.1,r19.2.2.1,r19.2.2.2,false,false,(41:Int),false,x7)).bind fun(r20a,r20b,r20c,r20d,_,_,_,r20h,r20i)=>(cond (r20c != (0:Int)) (some (r20a,r20b,r20c,r20d,false,false,false,r20h,(-1:Int))) ((aY n (r20a,r20b,r20c,r20d,r1.2.2.2.2,r20i,false,r20h)).bind fun(r21a,r21b,r21c,r21d,_,r21f,r21g)=>(some (r21a,r21b,r21c,r21d,false,false,false,r21f,r21g)))))) ((aT n (r1.2.2.2.2,(⟨#[111,120]⟩:ByteArray))).bind fun r22=>(cond r22 ((aT n (r1.2.2.2.2,r1.2.2.2.1)).bind fun r23=>(cond r23 ((bS n (r1.1,(IntKind.i64.wrap (r1.2.1+(1:Int))),r1.2.2.1,r1.2.2.2.1,(40:Int))).bind fun r24=>((cj n rec_ (r24.1,r24.2.1,r24.2.2.1,r24.2.2.2,false,false,(41:Int),false,x7)).bind fun(r25a,r25b,r25c,r25d,_,_,_,r25h,r25i)=>(cond (r25c != (0:Int)) (some (r25a,r25b,r25c,r25d,false,false,false,r25h,(-1:Int))) ((aY n (r25a,r25b,r25c,r25d,r1.2.2.2.2,r25i,false,r25h)).bind fun(r26a,r26b,r26c,r26d,_,r26f,r26g)=>(some (r26a,r26b,r26c,r26d,false,false,false,r26f,r26g)))))) ((aN n (r1.1,r1.2.1,r1.2.2.1,r1.2.2.2.1,(3:Int),r1.2.1)).bind fun r27=>(some (r27.1,r27.2.1,r27.2.2.1,r27.2.2.2.1,false,false,false,x7,r27.2.2.2.2))))) ((aN n (r1.1,r1.2.1,r1.2.2.1,r1.2.2.2.1,(3:Int),r1.2.1)).bind fun r28=>(some (r28.1,r28.2.1,r28.2.2.1,r28.2.2.2.1,false,false,false,x7,r28.2.2.2.2))))))))) ((aT n (r1.2.2.2.2,(⟨#[107,42]⟩:ByteArray))).bind fun r29=>(cond r29 ((bS n (r1.1,(IntKind.i64.wrap (r1.2.1+(1:Int))),r1.2.2.1,r1.2.2.2.1,(40:Int))).bind fun r30=>((cj n rec_ (r30.1,r30.2.1,r30.2.2.1,r30.2.2.2,false,false,(41:Int),false,x7)).bind fun(r31a,r31b,r31c,r31d,_,_,_,r31h,r31i)=>(cond (r31c != (0:Int)) (some (r31a,r31b,r31c,r31d,false,false,false,r31h,(-1:Int))) ((aY n (r31a,r31b,r31c,r31d,r1.2.2.2.2,r31i,false,r31h)).bind fun(r32a,r32b,r32c,r32d,_,r32f,r32g)=>(some (r32a,r32b,r32c,r32d,false,false,false,r32f,r32g)))))) ((aT n (r1.2.2.2.2,(⟨#[111,120]⟩:ByteArray))).bind fun r33=>(cond r33 ((aT n (r1.2.2.2.2,r1.2.2.2.1)).bind fun r34=>(cond r34 ((bS n (r1.1,(IntKind.i64.wrap (r1.2.1+(1:Int))),r1.2.2.1,r1.2.2.2.1,(40:Int))).bind fun r35=>((cj n rec_ (r35.1,r35.2.1,r35.2.2.1,r35.2.2.2,false,false,(41:Int),false,x7)).bind fun(r36a,r36b,r36c,r36d,_,_,_,r36h,r36i)=>(cond (r36c != (0:Int)) (some (r36a,r36b,r36c,r36d,false,false,false,r36h,(-1:Int))) ((aY n (r36a,r36b,r36c,r36d,r1.2.2.2.2,r36i,false,r36h)).bind fun(r37a,r37b,r37c,r37d,_,r37f,r37g)=>(some (r37a,r37b,r37c,r37d,false,false,false,r37f,r37g)))))) ((aN n (r1.1,r1.2.1,r1.2.2.1,r1.2.2.2.1,(3:Int),r1.2.1)).bind fun r38=>(some (r38.1,r38.2.1,r38.2.2.1,r38.2.2.2.1,false,false,false,x7,r38.2.2.2.2))))) ((aN n (r1.1,r1.2.1,r1.2.2.1,r1.2.2.2.1,(3:Int),r1.2.1)).bind fun r39=>(some (r39.1,r39.2.1,r39.2.2.1,r39.2.2.2.1,false,false,false,x7,r39.2.2.2.2))))))))))))))) ((aT n (r1.2.2.2.2,(⟨#[40,123,91]⟩:ByteArray))).bind fun r40=>(cond r40 ((pG n r1.2.2.2.2).bind fun r41=>((cj n rec_ (r1.1,(IntKind.i64.wrap (r1.2.1+(1:Int))),r1.2.2.1,r1.2.2.2.1,false,false,r41,false,x7)).bind fun(r42a,r42b,r42c,r42d,_,_,_,r42h,r42i)=>(cond (r42c != (0:Int)) (some (r42a,r42b,r42c,r42d,false,false,false,r42h,(-1:Int))) ((aY n (r42a,r42b,r42c,r42d,r1.2.2.2.2,r42i,false,r42h)).bind fun(r43a,r43b,r43c,r43d,_,r43f,r43g)=>(some (r43a,r43b,r43c,r43d,false,false,false,r43f,r43g)))))) ((aT n (r1.2.2.2.2,(⟨#[35,94]⟩:ByteArray))).bind fun r44=>(cond r44 ((rec_ (r1.1,(IntKind.i64.wrap (r1.2.1+(1:Int))),r1.2.2.1,r1.2.2.2.1,false,false,false,x7)).bind fun(r45a,r45b,r45c,r45d,_,_,_,r45h,r45i)=>(cond (r45c != (0:Int)) (some (r45a,r45b,r45c,r45d,false,false,false,r45h,(-1:Int))) ((aY n (r45a,r45b,r45c,r45d,r1.2.2.2.2,[r45i],false,r45h)).bind fun(r46a,r46b,r46c,r46d,_,r46f,r46g)=>(some (r46a,r46b,r46c,r46d,false,false,false,r46f,r46g))))) ((aT n (r1.2.2.2.2,(⟨#[60,62,33]⟩:ByteArray))).bind fun r47=>(cond r47 ((aT n (r1.2.2.2.2,r1.2.2.2.1)).bind fun r48=>(cond r48 ((rec_ (r1.1,(IntKind.i64.wrap (r1.2.1+(1:Int))),r1.2.2.1,r1.2.2.2.1,false,false,false,x7)).bind fun(r49a,r49b,r49c,r49d,_,_,_,r49h,r49i)=>(cond (r49c != (0:Int)) (some (r49a,r49b,r49c,r49d,false,false,false,r49h,(-1:Int))) ((aY n (r49a,r49b,r49c,r49d,r1.2.2.2.2,[r49i],false,r49h)).bind fun(r50a,r50b,r50c,r50d,_,r50f,r50g)=>(some (r50a,r50b,r50c,r50d,false,false,false,r50f,r50g))))) ((aT n (r1.2.2.2.2,(⟨#[107,42]⟩:ByteArray))).bind fun r51=>(cond r51 ((bS n (r1.1,(IntKind.i64.wrap (r1.2.1+(1:Int))),r1.2.2.1,r1.2.2.2.1,(40:Int))).bind fun r52=>((cj n rec_ (r52.1,r52.2.1,r52.2.2.1,r52.2.2.2,false,false,(41:Int),false,x7)).bind fun(r53a,r53b,r53c,r53d,_,_,_,r53h,r53i)=>(cond (r53c != (0:Int)) (some (r53a,r53b,r53c,r53d,false,false,false,r53h,(-1:Int))) ((aY n (r53a,r53b,r53c,r53d,r1.2.2.2.2,r53i,false,r53h)).bind fun(r54a,r54b,r54c,r54d,_,r54f,r54g)=>(some (r54a,r54b,r54c,r54d,false,false,false,r54f,r54g)))))) ((aT n (r1.2.2.2.2,(⟨#[111,120]⟩:ByteArray))).bind fun r55=>(cond r55 ((aT n (r1.2.2.2.2,r1.2.2.2.1)).bind fun r56=>(cond r56 ((bS n (r1.1,(IntKind.i64.wrap (r1.2.1+(1:Int))),r1.2.2.1,r1.2.2.2.1,(40:Int))).bind fun r57=>((cj n rec_ (r57.1,r57.2.1,r57.2.2.1,r57.2.2.2,false,false,(41:Int),false,x7)).bind fun(r58a,r58b,r58c,r58d,_,_,_,r58h,r58i)=>(cond (r58c != (0:Int)) (some (r58a,r58b,r58c,r58d,false,false,false,r58h,(-1:Int))) ((aY n (r58a,r58b,r58c,r58d,r1.2.2.2.2,r58i,false,r58h)).bind fun(r59a,r59b,r59c,r59d,_,r59f,r59g)=>(some (r59a,r59b,r59c,r59d,false,false,false,r59f,r59g)))))) ((aN n (r1.1,r1.2.1,r1.2.2.1,r1.2.2.2.1,(3:Int),r1.2.1)).bind fun r60=>(some (r60.1,r60.2.1,r60.2.2.1,r60.2.2.2.1,false,false,false,x7,r60.2.2.2.2))))) ((aN n (r1.1,r1.2.1,r1.2.2.1,r1.2.2.2.1,(3:Int),r1.2.1)).bind fun r61=>(some (r61.1,r61.2.1,r61.2.2.1,r61.2.2.2.1,false,false,false,x7,r61.2.2.2.2))))))))) ((aT n (r1.2.2.2.2,(⟨#[107,42]⟩:ByteArray))).bind fun r62=>(cond r62 ((bS n (r1.1,(IntKind.i64.wrap (r1.2.1+(1:Int))),r1.2.2.1,r1.2.2.2.1,(40:Int))).bind fun r63=>((cj n rec_ (r63.1,r63.2.1,r63.2.2.1,r63.2.2.2,false,false,(41:Int),false,x7)).bind fun(r64a,r64b,r64c,r64d,_,_,_,r64h,r64i)=>(cond (r64c != (0:Int)) (some (r64a,r64b,r64c,r64d,false,false,false,r64h,(-1:Int))) ((aY n (r64a,r64b,r64c,r64d,r1.2.2.2.2,r64i,false,r64h)).bind fun(r65a,r65b,r65c,r65d,_,r65f,r65g)=>(some (r65a,r65b,r65c,r65d,false,false,false,r65f,r65g)))))) ((aT n (r1.2.2.2.2,(⟨#[111,120]⟩:ByteArray))).bind fun r66=>(cond r66 ((aT n (r1.2.2.2.2,r1.2.2.2.1)).bind fun r67=>(cond r67 ((bS n (r1.1,(IntKind.i64.wrap (r1.2.1+(1:Int))),r1.2.2.1,r1.2.2.2.1,(40:Int))).bind fun r68=>((cj n rec_ (r68.1,r68.2.1,r68.2.2.1,r68.2.2.2,false,false,(41:Int),false,x7)).bind fun(r69a,r69b,r69c,r69d,_,_,_,r69h,r69i)=>(cond (r69c != (0:Int)) (some (r69a,r69b,r69c,r69d,false,false,false,r69h,(-1:Int))) ((aY n (r69a,r69b,r69c,r69d,r1.2.2.2.2,r69i,false,r69h)).bind fun(r70a,r70b,r70c,r70d,_,r70f,r70g)=>(some (r70a,r70b,r70c,r70d,false,false,false,r70f,r70g)))))) ((aN n (r1.1,r1.2.1,r1.2.2.1,r1.2.2.2.1,(3:Int),r1.2.1)).bind fun r71=>(some (r71.1,r71.2.1,r71.2.2.1,r71.2.2.2.1,false,false,false,x7,r71.2.2.2.2))))) ((aN n (r1.1,r1.2.1,r1.2.2.1,r1.2.2.2.1,(3:Int),r1.2.1)).bind fun r72=>(some (r72.1,r72.2.1,r72.2.2.1,r72.2.2.2.1,false,false,false,x7,r72.2.2.2.2)))))))))))))))))))
def f8 (n:Nat):Nat→(ByteArray×Int×Int×ByteArray×Bool×Bool×Bool×jP)→Option (ByteArray×Int×Int×ByteArray×Bool×Bool×Bool×jP×Int)
 |0,_=>none
 |k+1,x=>tQ n (f8 n k) x
def Rq (n:Nat) (k:Nat):aa:={ pars:=[.p [jS,jI,jI,jS, .f 161 [([2],0)], .f 165 [([2],0)]], .c (.i (.int .u8)), .p [.q [3] 0], .p [.o 171 (.pr (.int .u8) (.pr (.int .i64) (.sl (.int .i64))))]],gh:=[(0,4,some 0),(2,0,none)],nb:=[],res:=[(false,[ah])],g:=cj n (f8 n k) }
def Nw (n:Nat) (k:Nat):aa:={ pars:=[.p [jS,jI,jI,jS, .f 161 [([1],0)], .f 165 [([1],0)]], .p [.q [2] 0], .p [.o 171 (.pr (.int .u8) (.pr (.int .i64) (.sl (.int .i64))))]],gh:=[(0,4,some 0),(1,0,none)],nb:=[],res:=[(false,[jI])],g:=f8 n k }
def aag (n:Nat) (k:Nat):List (Nat×aa):=[(194,Nw n k),(224,Rp n)]
def abV (n:Nat) (k:Nat):aB:={ τ:=τ,N:=19,Γ:=gl (aag n k) [],Λ:=dL }
theorem XY (n k:Nat) (x):cj n (f8 n k) x=am (abV n k) Tryz.f222 (Rq n k) x:=by kernel_rfl
def aat (n:Nat) (k:Nat):List (Nat×aa):=[(193,PL n),(192,Ks n),(161,Vf n),(221,UT n),(223,US n),(222,Rq n k),(165,Vc n),(194,Nw n k),(224,Rp n)]
def ab3 (n:Nat) (k:Nat):aB:={ τ:=τ,N:=135,Γ:=gl (aat n k) [],Λ:=dL }
theorem Yd (n k:Nat) (x):f8 n (k+1) x=am (ab3 n k) Tryz.f194 (Nw n (k+1)) x:=by kernel_rfl
def oW (n:Nat):ByteArray×Int×Int×ByteArray×Bool×Bool×Int×Bool×jP→Option (ByteArray×Int×Int×ByteArray×Bool×Bool×Bool×jP×Int):=fun(x0,x1,x2,x3,_,_,x6,_,x8) =>
 (cond (decide (((x0).size:Int)>x6)) ((aN n (x0,x1,x2,x3,(1:Int),(0:Int))).bind fun r1=>(some (r1.1,r1.2.1,r1.2.2.1,r1.2.2.2.1,false,false,false,x8,r1.2.2.2.2))) ((f8 n n (x0,x1,x2,x3,false,false,false,x8)).bind fun(r2a,r2b,r2c,r2d,_,_,_,r2h,r2i)=>(cond (r2c==(0:Int)) (cond (decide (r2b<((r2a).size:Int))) ((aN n (r2a,r2b,r2c,r2d,(6:Int),r2b)).bind fun r3=>(some (r3.1,r3.2.1,r3.2.2.1,r3.2.2.2.1,false,false,false,r2h,r3.2.2.2.2))) (some (r2a,r2b,r2c,r2d,false,false,false,r2h,r2i))) (some (r2a,r2b,r2c,r2d,false,false,false,r2h,r2i)))))
def Vb (n:Nat):aa:={ pars:=[.p [jS,jI,jI,jS, .f 161 [([2],0)], .f 165 [([2],0)]], .c (jI), .p [.q [3] 0], .p [.o 171 (.pr (.int .u8) (.pr (.int .i64) (.sl (.int .i64))))]],gh:=[(0,4,some 0),(2,0,none)],nb:=[],res:=[(false,[jI])],g:=oW n }
def aaP (n:Nat):List (Nat×aa):=[(192,Ks n),(194,Nw n n)]
def ack (n:Nat):aB:={ τ:=τ,N:=41,Γ:=gl (aaP n) [],Λ:=dL }
theorem Yz (n:Nat) (x):oW n x=am (ack n) Tryz.f166 (Vb n) x:=by kernel_rfl
def dV (n:Nat) (x:ByteArray):Option (Bool×Bool×jP) :=
 ((oW n (x,(0:Int),(0:Int),(⟨#[36,63,120]⟩:ByteArray),false,false,(200:Int),false,[])).bind fun(_,_,r1c,_,_,_,_,r1h,_)=>(some (false,(r1c==(0:Int)),r1h)))
def NB (n:Nat):aa:={ pars:=[.c (jS)],gh:=[],nb:=[(0,[77,77],[.o 171 (.pr (.int .u8) (.pr (.int .i64) (.sl (.int .i64))))])],res:=[(false,[.q [77,77] 0]),(false,[jB])],g:=dV n }
def abh (n:Nat):List (Nat×aa):=[(166,Vb n)]
def acB (n:Nat):aB:={ τ:=τ,N:=27,Γ:=gl (abh n) [],Λ:=dL }
theorem Y1 (n:Nat) (x):dV n x=am (acB n) Tryz.f132 (NB n) x:=by kernel_rfl
def ca (n:Nat) (x:jP):Option (jP×Int) :=
 (some (x,(IntKind.i64.wrap (((x).length:Int)-(1:Int)))))
def PQ (n:Nat):aa:={ pars:=[.p [.i (.sl (.pr (.int .u8) (.pr (.int .i64) (.sl (.int .i64)))))]],gh:=[],nb:=[],res:=[(false,[jI])],g:=ca n }
def abf (n:Nat):List (Nat×aa):=[]
def acA (n:Nat):aB:={ τ:=τ,N:=9,Γ:=gl (abf n) [],Λ:=dL }
theorem YZ (n:Nat) (x):ca n x=am (acA n) Tryz.f134 (PQ n) x:=by kernel_rfl
def bP (n:Nat) (rec_:jP×Int×Int→Option (jP×Bool)):Nat→jP×Int×Int×Int×jL×jL×Int×Int→Option ((jP×Bool)⊕(jP×Int×Int×Int×jL))
 |0,_=>none
 |m+1,x=>match x with|(x0,x1,x2,x3,x4,x5,x6,x7)=>(cond (decide (x7<x6)) (cond (aI x7 (x5).length) ((rec_ (x0,(x5.getD (x7).toNat (0:Int)),x1)).bind fun r1=>(cond r1.2 (some (Sum.inl (r1.1,true))) (bP n rec_ m (r1.1,x1,x2,x3,x4,x5,x6,(IntKind.i64.wrap (x7+(1:Int))))))) none) (some (Sum.inr (x0,x1,x2,x3,x4))))
def tR (n:Nat) (rec_:jP×Int×Int→Option (jP×Bool)) (x:jP×Int×Int):Option (jP×Bool) :=
 (cond (aI x.2.1 (x.1).length) ((bP n rec_ n (x.1,x.2.2,(x.1.getD (x.2.1).toNat ((0:Int),((0:Int),[]))).1,(x.1.getD (x.2.1).toNat ((0:Int),((0:Int),[]))).2.1,(x.1.getD (x.2.1).toNat ((0:Int),((0:Int),[]))).2.2,(x.1.getD (x.2.1).toNat ((0:Int),((0:Int),[]))).2.2,(((x.1.getD (x.2.1).toNat ((0:Int),((0:Int),[]))).2.2).length:Int),(0:Int))).bind fun e2=>(match e2 with|Sum.inl a3=>(some (a3.1,a3.2))|Sum.inr b4=>(some (b4.1,(b4.2.2.1==b4.2.1))))) none)
def aS (n:Nat):Nat→(jP×Int×Int)→Option (jP×Bool)
 |0,_=>none
 |k+1,x=>tR n (aS n k) x
def NA (n:Nat) (k:Nat):aa:={ pars:=[.p [.i (.sl (.pr (.int .u8) (.pr (.int .i64) (.sl (.int .i64)))))], .c (jI), .c (.i (.int .u8))],gh:=[],nb:=[],res:=[(false,[jB])],g:=aS n k }
def j6 (n:Nat) (k:Nat):cx:={ ent:=[.box 0 [0] [.i (.sl (.pr (.int .u8) (.pr (.int .i64) (.sl (.int .i64)))))], .val 2 (.i (.int .u8)), .box 7 [7,0] [.i (.int .u8),jI,ah], .val 18 (ah), .val 19 (jI), .val 20 (jI)],exs:=[(.ret,[.box 0 [0] [.i (.sl (.pr (.int .u8) (.pr (.int .i64) (.sl (.int .i64)))))], .val 6 (jB)]),(.exit 0,[.box 0 [0] [.i (.sl (.pr (.int .u8) (.pr (.int .i64) (.sl (.int .i64)))))], .val 2 (.i (.int .u8)), .box 7 [7,0] [.i (.int .u8),jI,ah]])],g:=bP n (aS n k) n }
def abg (n:Nat) (k:Nat):List (Nat×aa):=[(133,NA n k)]
def VQ (n:Nat) (k:Nat):aB:={ τ:=τ,N:=33,Γ:=gl (abg n k) [],Λ:=(fun q=>match q with   | 3=>some (j6 n k)  | _=>none) }
theorem tZ (n m k:Nat) (x):bP n (aS n k) (m+1) x=cy (VQ n k) (ax (ae Tryz.f133) 0) (j6 n k) (bP n (aS n k) m) x:=by kernel_rfl
theorem Y0 (n k:Nat) (x):aS n (k+1) x=am (VQ n k) Tryz.f133 (NA n (k+1)) x:=by kernel_rfl
def wH (n:Nat) (x:ByteArray):Option (Bool) :=
 ((dV n x).bind fun r1=>(some r1.2.1))
def UZ (n:Nat):aa:={ pars:=[.c (jS)],gh:=[],nb:=[],res:=[(false,[jB])],g:=wH n }
def aaq (n:Nat):List (Nat×aa):=[(132,NB n)]
def ab0 (n:Nat):aB:={ τ:=τ,N:=11,Γ:=gl (aaq n) [],Λ:=dL }
theorem Ya (n:Nat) (x):wH n x=am (ab0 n) Tryz.f198 (UZ n) x:=by kernel_rfl
def wI (n:Nat) (x:Int×ByteArray):Option (Bool) :=
 (cond (x.1==(1:Int)) (cond (((x.2).size:Int)==(1:Int)) (cond (aI (0:Int) (x.2).size) (cond (decide ((bt x.2 (0:Int))≥(97:Int))) (cond (aI (0:Int) (x.2).size) (some (decide ((bt x.2 (0:Int))≤(122:Int)))) none) (some false)) none) (some false)) (cond (x.1==(2:Int)) ((dV n x.2).bind fun r1=>(cond r1.2.1 ((ca n r1.2.2).bind fun r2=>((aS n n (r2.1,r2.2,(63:Int))).bind fun r3=>(some (!r3.2)))) (some false))) (cond (x.1==(4:Int)) ((dV n x.2).bind fun r4=>(cond r4.2.1 ((ca n r4.2.2).bind fun r5=>((aS n n (r5.1,r5.2,(63:Int))).bind fun r6=>(some (!r6.2)))) (some false))) (cond (x.1==(3:Int)) ((wH n x.2).bind fun r7=>(some r7)) (some false)))))
def U9 (n:Nat):aa:={ pars:=[.g [jI,jS]],gh:=[],nb:=[],res:=[(false,[jB])],g:=wI n }
def aaF (n:Nat):List (Nat×aa):=[(132,NB n),(134,PQ n),(133,NA n n),(198,UZ n)]
def acb (n:Nat):aB:={ τ:=τ,N:=47,Γ:=gl (aaF n) [],Λ:=dL }
theorem Yp (n:Nat) (x):wI n x=am (acb n) Tryz.f178 (U9 n) x:=by kernel_rfl
def iy (n:Nat):Nat→jA×jA×Int×Int→Option ((Bool)⊕(jA))
 |0,_=>none
 |m+1,x=>(cond (decide (x.2.2.2<x.2.2.1)) (cond (aI x.2.2.2 (x.2.1).length) ((wI n ((x.2.1.getD (x.2.2.2).toNat ((0:Int),(⟨#[]⟩:ByteArray))).1,(x.2.1.getD (x.2.2.2).toNat ((0:Int),(⟨#[]⟩:ByteArray))).2)).bind fun r1=>(cond (!r1) (some (Sum.inl false)) (cond (((x.2.1.getD (x.2.2.2).toNat ((0:Int),(⟨#[]⟩:ByteArray))).1==(4:Int)) != (x.2.2.2==(IntKind.i64.wrap (((x.1).length:Int)-(1:Int))))) (some (Sum.inl false)) (iy n m (x.1,x.2.1,x.2.2.1,(IntKind.i64.wrap (x.2.2.2+(1:Int)))))))) none) (some (Sum.inr x.1)))
def oA (n:Nat) (x:jA):Option (Bool) :=
 ((iy n n (x,x,((x).length:Int),(0:Int))).bind fun e2=>(match e2 with|Sum.inl a3=>(some a3)|Sum.inr b4=>((aD n (((b4).length:Int),(1:Int),(20:Int))).bind fun r5=>(some r5))))
def Ku (n:Nat):aa:={ pars:=[.c (.i (.sl (.pr (.int .i64) .str)))],gh:=[],nb:=[],res:=[(false,[jB])],g:=oA n }
def pi (n:Nat):cx:={ ent:=[.val 0 (.i (.sl (.pr (.int .i64) .str))), .val 5 (.i (.sl (.pr (.int .i64) .str))), .val 6 (jI), .val 7 (jI)],exs:=[(.ret,[.val 2 (jB)]),(.exit 0,[.val 0 (.i (.sl (.pr (.int .i64) .str)))])],g:=iy n n }
def aa7 (n:Nat):List (Nat×aa):=[(178,U9 n),(39,Nv n)]
def VO (n:Nat):aB:={ τ:=τ,N:=30,Γ:=gl (aa7 n) [],Λ:=(fun q=>match q with   | 2=>some (pi n)  | _=>none) }
theorem zT (n m:Nat) (x):iy n (m+1) x=cy (VO n) (ax (ae Tryz.f143) 0) (pi n) (iy n m) x:=by kernel_rfl
theorem YR (n:Nat) (x):oA n x=am (VO n) Tryz.f143 (Ku n) x:=by kernel_rfl
def wv (n:Nat):List (Int×ByteArray)→ByteArray→Option ByteArray
 |[],s=>some s
 |a::r,s=>(oy n a.1).bind fun w=>bif aW w a.2&&(aW (w++a.2) (⟨#[10]⟩:ByteArray)&&decide (s.size+(w++a.2++(⟨#[10]⟩:ByteArray)).size≤1073741824))then wv n r (s++(w++a.2++(⟨#[10]⟩:ByteArray)))else none
def mq (n:Nat) (x:List (Int×ByteArray)):Option ByteArray :=
 (oA n x).bind fun ok=>bif ok then wv n x (⟨#[]⟩:ByteArray)else some (⟨#[]⟩:ByteArray)
def RH (n:Nat):aa:={ pars:=[.c (.i (.sl (.pr (.int .i64) .str)))],gh:=[],nb:=[],res:=[(false,[jS])],g:=mq n }
def fj (n:Nat):Nat→ByteArray×jA×ByteArray→Option ((jA×Bool)⊕(ByteArray×jA))
 |0,_=>none
 |m+1,x=>(cond (!jn x.2.2 (⟨#[]⟩:ByteArray)) (cond (decide (((x.2.1).length:Int)≤(20:Int))) ((Bf (x.2.2,(⟨#[10]⟩:ByteArray))).bind fun r1=>(cond (!r1.2.2) (some (Sum.inl ([],false))) ((wG n r1.1).bind fun r2=>(cond (aO ((x.2.1).length+([(r2.1,r2.2)]).length)) (fj n m (x.1,(x.2.1++[(r2.1,r2.2)]),r1.2.1)) none)))) (some (Sum.inr (x.1,x.2.1)))) (some (Sum.inr (x.1,x.2.1))))
def jY (n:Nat) (x:ByteArray):Option (jA×Bool) :=
 ((fj n n (x,[],x)).bind fun e3=>(match e3 with|Sum.inl a4=>(some (a4.1,a4.2))|Sum.inr b5=>((oA n b5.2).bind fun r6=>(cond (!r6) (some (([]:List (Int×ByteArray)),false)) ((mq n b5.2).bind fun r7=>(cond (!jn r7 b5.1) (some (([]:List (Int×ByteArray)),false)) (some (b5.2,true))))))))
def VA (n:Nat):aa:={ pars:=[.c (jS)],gh:=[],nb:=[],res:=[(false,[.i (.sl (.pr (.int .i64) .str))]),(false,[jB])],g:=jY n }
def lD (n:Nat):cx:={ ent:=[.val 0 (jS), .val 4 (.o 112 (.pr (.int .i64) .str)), .val 5 (jS)],exs:=[(.ret,[.val 2 (.o 112 (.pr (.int .i64) .str)), .val 3 (jB)]),(.exit 0,[.val 0 (jS), .val 4 (.o 112 (.pr (.int .i64) .str))])],g:=fj n n }
def abz (n:Nat):List (Nat×aa):=[(141,ZN),(142,Vo n),(143,Ku n),(144,RH n)]
def VW (n:Nat):aB:={ τ:=τ,N:=41,Γ:=gl (abz n) [],Λ:=(fun q=>match q with   | 3=>some (lD n)  | _=>none) }
theorem vQ (n m:Nat) (x):fj n (m+1) x=cy (VW n) (ax (ae Tryz.f114) 0) (lD n) (fj n m) x:=by kernel_rfl
theorem Zj (n:Nat) (x):jY n x=am (VW n) Tryz.f114 (VA n) x:=by kernel_rfl
def fV (n:Nat) (x:Int×Int):Option (jA×Bool) :=
 ((jb n (x.1,x.2)).bind fun r1=>((jY n r1).bind fun r2=>(some (r2.1,r2.2))))
def S79 (n:Nat):aa:={ pars:=[.c (jI), .c (jI)],gh:=[],nb:=[],res:=[(false,[.i (.sl (.pr (.int .i64) .str))]),(false,[jB])],g:=fV n }
def G79 (n:Nat):List (Nat×aa):=[(115,Vz n),(114,VA n)]
def E79 (n:Nat):aB:={ τ:=τ,N:=12,Γ:=gl (G79 n) [],Λ:=dL }
theorem aeH (n:Nat) (x):fV n x=am (E79 n) Tryz.f79 (S79 n) x:=by kernel_rfl
def kq (n:Nat) (x:Int):Option (Bool) :=
 ((aD n (x,(0:Int),(4:Int))).bind fun r1=>(some r1))
def S42 (n:Nat):aa:={ pars:=[.c (jI)],gh:=[],nb:=[],res:=[(false,[jB])],g:=kq n }
def G42 (n:Nat):List (Nat×aa):=[(39,Nv n)]
def E42 (n:Nat):aB:={ τ:=τ,N:=5,Γ:=gl (G42 n) [],Λ:=dL }
theorem afg (n:Nat) (x):kq n x=am (E42 n) Tryz.f42 (S42 n) x:=by kernel_rfl
def dh (n:Nat):Nat→jL×jN×jL×Int×Int→Option ((Bool)⊕(jL×jN))
 |0,_=>none
 |m+1,x=>(cond (decide (x.2.2.2.2<x.2.2.2.1)) (cond (aI x.2.2.2.2 (x.2.2.1).length) (cond ((x.2.2.1.getD (x.2.2.2.2).toNat (0:Int)) != (-1:Int)) ((dp n (x.2.1,(x.2.2.1.getD (x.2.2.2.2).toNat (0:Int)))).bind fun r1=>(cond (!r1.2) (some (Sum.inl false)) (dh n m (x.1,r1.1,x.2.2.1,x.2.2.2.1,(IntKind.i64.wrap (x.2.2.2.2+(1:Int))))))) (dh n m (x.1,x.2.1,x.2.2.1,x.2.2.2.1,(IntKind.i64.wrap (x.2.2.2.2+(1:Int)))))) none) (some (Sum.inr (x.1,x.2.1))))
def nG (n:Nat) (x:jN×jL):Option (Bool) :=
 ((dh n n (x.2,x.1,x.2,((x.2).length:Int),(0:Int))).bind fun e2=>(match e2 with|Sum.inl a3=>(some a3)|Sum.inr b4=>(cond (((b4.1).length:Int)==(26:Int)) ((fX n b4.2).bind fun r5=>(some r5)) (some false))))
def ZC (n:Nat):aa:={ pars:=[.g [.i aJ], .c (ah)],gh:=[],nb:=[],res:=[(false,[jB])],g:=nG n }
def qw (n:Nat):cx:={ ent:=[.val 1 (ah), .box 2 [2,0] [.i aJ], .val 7 (ah), .val 8 (jI), .val 9 (jI)],exs:=[(.ret,[.val 4 (jB)]),(.exit 0,[.val 1 (ah), .box 2 [2,0] [.i aJ]])],g:=dh n n }
def G80 (n:Nat):List (Nat×aa):=[(77,V9 n),(78,V8 n)]
def E80 (n:Nat):aB:={ τ:=τ,N:=28,Γ:=gl (G80 n) [],Λ:=(fun q=>match q with   | 2=>some (qw n)  | _=>none) }
theorem A6 (n m:Nat) (x):dh n (m+1) x=cy (E80 n) (ax (ae Tryz.f80) 0) (qw n) (dh n m) x:=by kernel_rfl
theorem aeG (n:Nat) (x):nG n x=am (E80 n) Tryz.f80 (ZC n) x:=by kernel_rfl
def gU (n:Nat):jN×Int×Int×Int×Int×Int×jL×Bool×Bool×Int→Option (Bool):=fun(x0,x1,x2,x3,x4,x5,x6,x7,x8,x9) =>
 ((fV n (x1,x2)).bind fun r1=>(cond (!r1.2) (some false) ((kq n x3).bind fun r2=>(cond (!r2) (some false) ((kq n x4).bind fun r3=>(cond (!r3) (some false) (cond (x3==x4) (some false) ((nG n (x0,x6)).bind fun r4=>(cond (!r4) (some false) ((aD n (x5,(0:Int),((r1.1).length:Int))).bind fun r5=>(cond (!r5) (some false) (cond ((x5==((r1.1).length:Int)) != x7) (some false) (cond x7 (cond x8 (some false) (cond x7 ((dp n (x0,x9)).bind fun r6=>(some r6.2)) (some (x9==(-1:Int))))) (cond x7 ((dp n (x0,x9)).bind fun r7=>(some r7.2)) (some (x9==(-1:Int)))))))))))))))))
def S41 (n:Nat):aa:={ pars:=[.g [.i aJ], .g [jI,jI,jI,jI,jI,ah,jB,jB,jI]],gh:=[],nb:=[],res:=[(false,[jB])],g:=gU n }
def G41 (n:Nat):List (Nat×aa):=[(79,S79 n),(42,S42 n),(80,ZC n),(39,Nv n),(77,V9 n)]
def E41 (n:Nat):aB:={ τ:=τ,N:=75,Γ:=gl (G41 n) [],Λ:=dL }
theorem afh (n:Nat) (x):gU n x=am (E41 n) Tryz.f41 (S41 n) x:=by kernel_rfl
def gR (n:Nat):jN×jL×jW×Int×jL×jL×jC×Int→Option (jN×jL×jW×Int×jL×jL×jC×Bool):=fun(x0,x1,x2,x3,x4,x5,x6,x7) =>
 ((aD n (x7,(0:Int),(IntKind.i64.wrap (((x2).length:Int)-(1:Int))))).bind fun r1=>(some (x0,x1,x2,x3,x4,x5,x6,r1)))
def S73 (n:Nat):aa:={ pars:=[.p [.i aJ,ah,fh,jI,ah,ah,fw], .c (jI)],gh:=[],nb:=[],res:=[(false,[jB])],g:=gR n }
def G73 (n:Nat):List (Nat×aa):=[(39,Nv n)]
def E73 (n:Nat):aB:={ τ:=τ,N:=13,Γ:=gl (G73 n) [],Λ:=dL }
theorem aeN (n:Nat) (x):gR n x=am (E73 n) Tryz.f73 (S73 n) x:=by kernel_rfl
def dW (n:Nat):jN×jL×jW×Int×jL×jL×jC×Int→Option (jN×jL×jW×Int×jL×jL×jC×Bool):=fun(x0,x1,x2,x3,x4,x5,x6,x7) =>
 ((gR n (x0,x1,x2,x3,x4,x5,x6,x7)).bind fun(r1a,r1b,r1c,r1d,r1e,r1f,r1g,r1h)=>(cond r1h (cond (aI x7 (r1c).length) (some (r1a,r1b,r1c,r1d,r1e,r1f,r1g,(r1c.getD (x7).toNat ((0:Int),((0:Int),((0:Int),((0:Int),((0:Int),([],(false,(false,(0:Int)))))))))).2.2.2.2.2.2.1)) none) (some (r1a,r1b,r1c,r1d,r1e,r1f,r1g,false))))
def ZF (n:Nat):aa:={ pars:=[.p [.i aJ,ah,fh,jI,ah,ah,fw], .c (jI)],gh:=[],nb:=[],res:=[(false,[jB])],g:=dW n }
def G43 (n:Nat):List (Nat×aa):=[(73,S73 n)]
def E43 (n:Nat):aB:={ τ:=τ,N:=18,Γ:=gl (G43 n) [],Λ:=dL }
theorem aff (n:Nat) (x):dW n x=am (E43 n) Tryz.f43 (ZF n) x:=by kernel_rfl
def bB (n:Nat):Nat→jN×jL×jW×Int×jL×jL×jC×(List (Int×Int))×jC×Int×Int→Option ((jN×jL×jW×Int×jL×jL×jC×Bool)⊕(jN×jL×jW×Int×jL×jL×jC×(List (Int×Int))))
 |0,_=>none
 |m+1,x=>match x with|(x0,x1,x2,x3,x4,x5,x6,x7,x8,x9,x10)=>(cond (decide (x10<x9)) (cond (aI x10 (x8).length) ((dW n (x0,x1,x2,x3,x4,x5,x6,(x8.getD (x10).toNat ((0:Int),(false,false))).1)).bind fun(r1a,r1b,r1c,r1d,r1e,r1f,r1g,r1h)=>(cond (!r1h) (some (Sum.inl (r1a,r1b,r1c,r1d,r1e,r1f,r1g,false))) (cond (decide ((fZ (.int .i64) (x8.getD (x10).toNat ((0:Int),(false,false))).1 (mU (.int .i64) (x8.getD (x10).toNat ((0:Int),(false,false))).1 (IntKind.i64.wrap ((fZ (.int .i64) (x8.getD (x10).toNat ((0:Int),(false,false))).1 x7)+(1:Int))) x7))>(1:Int))) (some (Sum.inl (r1a,r1b,r1c,r1d,r1e,r1f,r1g,false))) (bB n m (r1a,r1b,r1c,r1d,r1e,r1f,r1g,(mU (.int .i64) (x8.getD (x10).toNat ((0:Int),(false,false))).1 (IntKind.i64.wrap ((fZ (.int .i64) (x8.getD (x10).toNat ((0:Int),(false,false))).1 x7)+(1:Int))) x7),x8,x9,(IntKind.i64.wrap (x10+(1:Int)))))))) none) (some (Sum.inr (x0,x1,x2,x3,x4,x5,x6,x7))))
def bc (n:Nat):Nat→jN×jL×jW×Int×jL×jL×jC×(List (Int×Int))×jW×Int×Int→Option ((jN×jL×jW×Int×jL×jL×jC×Bool)⊕(jN×jL×jW×Int×jL×jL×jC))
 |0,_=>none
 |m+1,x=>match x with|(x0,x1,x2,x3,x4,x5,x6,x7,x8,x9,x10)=>(cond (decide (x10<x9)) (cond (aI x10 (x8).length) (cond (x8.getD (x10).toNat ((0:Int),((0:Int),((0:Int),((0:Int),((0:Int),([],(false,(false,(0:Int)))))))))).2.2.2.2.2.2.1 (cond ((fZ (.int .i64) x10 x7)==(0:Int)) (some (Sum.inl (x0,x1,x2,x3,x4,x5,x6,false))) (bc n m (x0,x1,x2,x3,x4,x5,x6,x7,x8,x9,(IntKind.i64.wrap (x10+(1:Int)))))) (bc n m (x0,x1,x2,x3,x4,x5,x6,x7,x8,x9,(IntKind.i64.wrap (x10+(1:Int)))))) none) (some (Sum.inr (x0,x1,x2,x3,x4,x5,x6))))
def ga (n:Nat):jN×jL×jW×Int×jL×jL×jC→Option (jN×jL×jW×Int×jL×jL×jC×Bool):=fun(x0,x1,x2,x3,x4,x5,x6) =>
 ((bB n n (x0,x1,x2,x3,x4,x5,x6,[],x6,((x6).length:Int),(0:Int))).bind fun e2=>(match e2 with|Sum.inl (a3a,a3b,a3c,a3d,a3e,a3f,a3g,a3h)=>(some (a3a,a3b,a3c,a3d,a3e,a3f,a3g,a3h))|Sum.inr (b4a,b4b,b4c,b4d,b4e,b4f,b4g,b4h)=>((bc n n (b4a,b4b,b4c,b4d,b4e,b4f,b4g,b4h,b4c,((b4c).length:Int),(0:Int))).bind fun e5=>(match e5 with|Sum.inl (a6a,a6b,a6c,a6d,a6e,a6f,a6g,a6h)=>(some (a6a,a6b,a6c,a6d,a6e,a6f,a6g,a6h))|Sum.inr (b7a,b7b,b7c,b7d,b7e,b7f,b7g)=>(some (b7a,b7b,b7c,b7d,b7e,b7f,b7g,true))))))
def S44 (n:Nat):aa:={ pars:=[.p [.i aJ,ah,fh,jI,ah,ah,fw]],gh:=[],nb:=[],res:=[(false,[jB])],g:=ga n }
def j8 (n:Nat):cx:={ ent:=[.box 0 [0] [.i aJ,ah,fh,jI,ah,ah,fw], .val 3 (.m (.int .i64) (.int .i64) false), .val 12 (fw), .val 13 (jI), .val 14 (jI)],exs:=[(.ret,[.box 0 [0] [.i aJ,ah,fh,jI,ah,ah,fw], .val 2 (jB)]),(.exit 0,[.box 0 [0] [.i aJ,ah,fh,jI,ah,ah,fw], .val 3 (.m (.int .i64) (.int .i64) false)])],g:=bB n n }
def jk (n:Nat):cx:={ ent:=[.box 0 [0] [.i aJ,ah,fh,jI,ah,ah,fw], .val 3 (.m (.int .i64) (.int .i64) false), .val 39 (fh), .val 40 (jI), .val 41 (jI)],exs:=[(.ret,[.box 0 [0] [.i aJ,ah,fh,jI,ah,ah,fw], .val 2 (jB)]),(.exit 2,[.box 0 [0] [.i aJ,ah,fh,jI,ah,ah,fw]])],g:=bc n n }
def G44 (n:Nat):List (Nat×aa):=[(43,ZF n)]
def E44 (n:Nat):aB:={ τ:=τ,N:=55,Γ:=gl (G44 n) [],Λ:=(fun q=>match q with   | 3=>some (j8 n)   | 10=>some (jk n)  | _=>none) }
theorem t4 (n m:Nat) (x):bB n (m+1) x=cy (E44 n) (ax (ae Tryz.f44) 0) (j8 n) (bB n m) x:=by kernel_rfl
theorem tf (n m:Nat) (x):bc n (m+1) x=cy (E44 n) (ax (ae Tryz.f44) 1) (jk n) (bc n m) x:=by kernel_rfl
theorem afe (n:Nat) (x):ga n x=am (E44 n) Tryz.f44 (S44 n) x:=by kernel_rfl
def dg (n:Nat):Nat→jN×jL×jW×Int×jL×jL×jC×jW×Int×Int→Option ((Bool)⊕(jN×jL×jW×Int×jL×jL×jC))
 |0,_=>none
 |m+1,x=>match x with|(x0,x1,x2,x3,x4,x5,x6,x7,x8,x9)=>(cond (decide (x9<x8)) (cond (aI x9 (x7).length) ((gU n (x0,(x7.getD (x9).toNat ((0:Int),((0:Int),((0:Int),((0:Int),((0:Int),([],(false,(false,(0:Int)))))))))).1,(x7.getD (x9).toNat ((0:Int),((0:Int),((0:Int),((0:Int),((0:Int),([],(false,(false,(0:Int)))))))))).2.1,(x7.getD (x9).toNat ((0:Int),((0:Int),((0:Int),((0:Int),((0:Int),([],(false,(false,(0:Int)))))))))).2.2.1,(x7.getD (x9).toNat ((0:Int),((0:Int),((0:Int),((0:Int),((0:Int),([],(false,(false,(0:Int)))))))))).2.2.2.1,(x7.getD (x9).toNat ((0:Int),((0:Int),((0:Int),((0:Int),((0:Int),([],(false,(false,(0:Int)))))))))).2.2.2.2.1,(x7.getD (x9).toNat ((0:Int),((0:Int),((0:Int),((0:Int),((0:Int),([],(false,(false,(0:Int)))))))))).2.2.2.2.2.1,(x7.getD (x9).toNat ((0:Int),((0:Int),((0:Int),((0:Int),((0:Int),([],(false,(false,(0:Int)))))))))).2.2.2.2.2.2.1,(x7.getD (x9).toNat ((0:Int),((0:Int),((0:Int),((0:Int),((0:Int),([],(false,(false,(0:Int)))))))))).2.2.2.2.2.2.2.1,(x7.getD (x9).toNat ((0:Int),((0:Int),((0:Int),((0:Int),((0:Int),([],(false,(false,(0:Int)))))))))).2.2.2.2.2.2.2.2)).bind fun r5=>(cond (!r5) (some (Sum.inl false)) (dg n m (x0,x1,x2,x3,x4,x5,x6,x7,x8,(IntKind.i64.wrap (x9+(1:Int))))))) none) (some (Sum.inr (x0,x1,x2,x3,x4,x5,x6))))
def cq (n:Nat):Nat→jN×jL×jW×Int×jL×jL×jC×jL×Int×Int→Option ((Bool)⊕(jN×jL×jW×Int×jL×jL×jC))
 |0,_=>none
 |m+1,x=>match x with|(x0,x1,x2,x3,x4,x5,x6,x7,x8,x9)=>(cond (decide (x9<x8)) (cond (aI x9 (x7).length) ((kq n (x7.getD (x9).toNat (0:Int))).bind fun r9=>(cond (!r9) (some (Sum.inl false)) (cq n m (x0,x1,x2,x3,x4,x5,x6,x7,x8,(IntKind.i64.wrap (x9+(1:Int))))))) none) (some (Sum.inr (x0,x1,x2,x3,x4,x5,x6))))
def cp (n:Nat):Nat→jN×jL×jW×Int×jL×jL×jC×jL×Int×Int→Option ((Bool)⊕(jN×jL×jW×Int×jL×jL×jC))
 |0,_=>none
 |m+1,x=>match x with|(x0,x1,x2,x3,x4,x5,x6,x7,x8,x9)=>(cond (decide (x9<x8)) (cond (aI x9 (x7).length) ((dW n (x0,x1,x2,x3,x4,x5,x6,(x7.getD (x9).toNat (0:Int)))).bind fun(r13a,r13b,r13c,r13d,r13e,r13f,r13g,r13h)=>(cond (!r13h) (some (Sum.inl false)) (cp n m (r13a,r13b,r13c,r13d,r13e,r13f,r13g,x7,x8,(IntKind.i64.wrap (x9+(1:Int))))))) none) (some (Sum.inr (x0,x1,x2,x3,x4,x5,x6))))
def fL (n:Nat):jN×jL×jW×Int×jL×jL×jC→Option (Bool):=fun(x0,x1,x2,x3,x4,x5,x6) =>
 ((qT n (x0,x1)).bind fun r1=>(cond (!r1) (some false) (cond (decide (((x2).length:Int)>(8:Int))) (some false) ((aD n (x3,(0:Int),(8:Int))).bind fun r2=>(cond (!r2) (some false) ((ix n x4).bind fun r3=>(cond (!r3) (some false) ((ix n x5).bind fun r4=>(cond (!r4) (some false) ((dg n n (x0,x1,x2,x3,x4,x5,x6,x2,((x2).length:Int),(0:Int))).bind fun e6=>(match e6 with|Sum.inl a7=>(some a7)|Sum.inr (b8a,b8b,b8c,b8d,b8e,b8f,b8g)=>((cq n n (b8a,b8b,b8c,b8d,b8e,b8f,b8g,b8e,((b8e).length:Int),(0:Int))).bind fun e10=>(match e10 with|Sum.inl a11=>(some a11)|Sum.inr (b12a,b12b,b12c,b12d,b12e,b12f,b12g)=>((cp n n (b12a,b12b,b12c,b12d,b12e,b12f,b12g,b12f,((b12f).length:Int),(0:Int))).bind fun e14=>(match e14 with|Sum.inl a15=>(some a15)|Sum.inr (b16a,b16b,b16c,b16d,b16e,b16f,b16g)=>((ga n (b16a,b16b,b16c,b16d,b16e,b16f,b16g)).bind fun(_,_,_,_,_,_,_,r17h)=>(some r17h)))))))))))))))))
def S9 (n:Nat):aa:={ pars:=[.g [.i aJ,ah,fh,jI,ah,ah,fw]],gh:=[],nb:=[],res:=[(false,[jB])],g:=fL n }
def nT (n:Nat):cx:={ ent:=[.box 1 [1,0] [.i aJ,ah,fh,jI,ah,ah,fw], .val 40 (fh), .val 41 (jI), .val 42 (jI)],exs:=[(.ret,[.val 2 (jB)]),(.exit 0,[.box 1 [1,0] [.i aJ,ah,fh,jI,ah,ah,fw]])],g:=dg n n }
def mP (n:Nat):cx:={ ent:=[.box 1 [1,0] [.i aJ,ah,fh,jI,ah,ah,fw], .val 53 (ah), .val 54 (jI), .val 55 (jI)],exs:=[(.ret,[.val 2 (jB)]),(.exit 2,[.box 1 [1,0] [.i aJ,ah,fh,jI,ah,ah,fw]])],g:=cq n n }
def mO (n:Nat):cx:={ ent:=[.box 1 [1,0] [.i aJ,ah,fh,jI,ah,ah,fw], .val 64 (ah), .val 65 (jI), .val 66 (jI)],exs:=[(.ret,[.val 2 (jB)]),(.exit 4,[.box 1 [1,0] [.i aJ,ah,fh,jI,ah,ah,fw]])],g:=cp n n }
def G9 (n:Nat):List (Nat×aa):=[(38,S38 n),(39,Nv n),(40,S40 n),(41,S41 n),(42,S42 n),(43,ZF n),(44,S44 n)]
def E9 (n:Nat):aB:={ τ:=τ,N:=75,Γ:=gl (G9 n) [],Λ:=(fun q=>match q with   | 4=>some (nT n)   | 10=>some (mP n)   | 16=>some (mO n)  | _=>none) }
theorem yx (n m:Nat) (x):dg n (m+1) x=cy (E9 n) (ax (ae Tryz.f9) 0) (nT n) (dg n m) x:=by kernel_rfl
theorem xa (n m:Nat) (x):cq n (m+1) x=cy (E9 n) (ax (ae Tryz.f9) 1) (mP n) (cq n m) x:=by kernel_rfl
theorem w9 (n m:Nat) (x):cp n (m+1) x=cy (E9 n) (ax (ae Tryz.f9) 2) (mO n) (cp n m) x:=by kernel_rfl
theorem eq9 (n:Nat) (x):fL n x=am (E9 n) Tryz.f9 (S9 n) x:=by kernel_rfl
def nX (n:Nat) (x:Int):Option (Bool) :=
 ((aD n (x,(0:Int),(49:Int))).bind fun r1=>(some r1))
def Vl (n:Nat):aa:={ pars:=[.c (jI)],gh:=[],nb:=[],res:=[(false,[jB])],g:=nX n }
def aa4 (n:Nat):List (Nat×aa):=[(39,Nv n)]
def acu (n:Nat):aB:={ τ:=τ,N:=5,Γ:=gl (aa4 n) [],Λ:=dL }
theorem YO (n:Nat) (x):nX n x=am (acu n) Tryz.f151 (Vl n) x:=by kernel_rfl
def lj (n:Nat) (x:jN×Int):Option (jN×jL) :=
 (cond (aI x.2 (x.1).length) ((bh n (x.1.getD (x.2).toNat ((0:Int),((0:Int),(0:Int)))).1).bind fun r1=>(cond (r1==(1:Int)) (some (x.1,[(x.1.getD (x.2).toNat ((0:Int),((0:Int),(0:Int)))).2.1])) (cond (r1==(2:Int)) (some (x.1,[(x.1.getD (x.2).toNat ((0:Int),((0:Int),(0:Int)))).2.1,(x.1.getD (x.2).toNat ((0:Int),((0:Int),(0:Int)))).2.2])) (some (x.1,([]:List Int)))))) none)
def Vk (n:Nat):aa:={ pars:=[.p [.i aJ], .c (jI)],gh:=[],nb:=[],res:=[(false,[ah])],g:=lj n }
def aa3 (n:Nat):List (Nat×aa):=[(140,RI n)]
def act (n:Nat):aB:={ τ:=τ,N:=28,Γ:=gl (aa3 n) [],Λ:=dL }
theorem YN (n:Nat) (x):lj n x=am (act n) Tryz.f152 (Vk n) x:=by kernel_rfl
def aq (n:Nat):Nat→jN×Int×Int×Int×Int×Int→Option ((Int)⊕(Unit))
 |0,_=>none
 |m+1,x=>(cond (decide (x.2.2.2.2.2<x.2.2.2.2.1)) (cond (aI x.2.2.2.2.2 (x.1).length) (cond (x.2.1==(x.1.getD (x.2.2.2.2.2).toNat ((0:Int),((0:Int),(0:Int)))).1&&(x.2.2.1==(x.1.getD (x.2.2.2.2.2).toNat ((0:Int),((0:Int),(0:Int)))).2.1&&(x.2.2.2.1==(x.1.getD (x.2.2.2.2.2).toNat ((0:Int),((0:Int),(0:Int)))).2.2&&true))) (some (Sum.inl x.2.2.2.2.2)) (aq n m (x.1,x.2.1,x.2.2.1,x.2.2.2.1,x.2.2.2.2.1,(IntKind.i64.wrap (x.2.2.2.2.2+(1:Int)))))) none) (some (Sum.inr ())))
def be (n:Nat) (x:jN×Int×Int×Int):Option (Int) :=
 ((aq n n (x.1,x.2.1,x.2.2.1,x.2.2.2,((x.1).length:Int),(0:Int))).bind fun e1=>(match e1 with|Sum.inl a2=>(some a2)|Sum.inr b3=>(some (-1:Int))))
def Rt (n:Nat):aa:={ pars:=[.c (.i aJ), .g [jI,jI,jI]],gh:=[],nb:=[],res:=[(false,[jI])],g:=be n }
def cT (n:Nat):cx:={ ent:=[.val 0 (.i aJ), .box 3 [3,0] [jI,jI,jI], .val 7 (jI), .val 8 (jI)],exs:=[(.ret,[.val 4 (jI)]),(.exit 0,[])],g:=aq n n }
def aap (n:Nat):List (Nat×aa):=[]
def VI (n:Nat):aB:={ τ:=τ,N:=19,Γ:=gl (aap n) [],Λ:=(fun q=>match q with   | 2=>some (cT n)  | _=>none) }
theorem jg (n m:Nat) (x):aq n (m+1) x=cy (VI n) (ax (ae Tryz.f211) 0) (cT n) (aq n m) x:=by kernel_rfl
theorem X9 (n:Nat) (x):be n x=am (VI n) Tryz.f211 (Rt n) x:=by kernel_rfl
def jZ (n:Nat) (x:jN×Int×Int×Int):Option (jN×Int) :=
 ((be n (x.1,x.2.1,x.2.2.1,x.2.2.2)).bind fun r1=>(some (x.1,r1)))
def U6 (n:Nat):aa:={ pars:=[.p [.i aJ], .g [jI,jI,jI]],gh:=[],nb:=[],res:=[(false,[jI])],g:=jZ n }
def aaC (n:Nat):List (Nat×aa):=[(211,Rt n)]
def ab8 (n:Nat):aB:={ τ:=τ,N:=11,Γ:=gl (aaC n) [],Λ:=dL }
theorem Ym (n:Nat) (x):jZ n x=am (ab8 n) Tryz.f185 (U6 n) x:=by kernel_rfl
def eM (n:Nat) (x:jN×Int×Int×Int):Option (jN×Int) :=
 ((be n (x.1,x.2.1,x.2.2.1,x.2.2.2)).bind fun r1=>(some (x.1,r1)))
def PT (n:Nat):aa:={ pars:=[.p [dr], .g [jI,jI,jI]],gh:=[],nb:=[],res:=[(false,[jI])],g:=eM n }
def S3 (n:Nat):List (Nat×aa):=[(211,Rt n)]
def Tl (n:Nat):aB:={ τ:=τ,N:=11,Γ:=gl (S3 n) [],Λ:=dL }
theorem Uu (n:Nat) (x):eM n x=am (Tl n) Tryz.f185 (PT n) x:=by kernel_rfl
def eL (n:Nat) (x:jN×Int×Int×Int×(List Bool)):Option (jN×(List Bool)×Bool) :=
 ((jZ n (x.1,x.2.1,x.2.2.1,x.2.2.2.1)).bind fun r1=>(cond (decide (r1.2≥(0:Int))) (cond (aI r1.2 (x.2.2.2.2).length) (some (r1.1,x.2.2.2.2,(x.2.2.2.2.getD (r1.2).toNat false))) none) (some (r1.1,x.2.2.2.2,false))))
def Vj (n:Nat):aa:={ pars:=[.p [.i aJ], .g [jI,jI,jI], .c (.b 4 .bool)],gh:=[],nb:=[],res:=[(false,[jB])],g:=eL n }
def aa2 (n:Nat):List (Nat×aa):=[(185,U6 n)]
def acs (n:Nat):aB:={ τ:=τ,N:=19,Γ:=gl (aa2 n) [],Λ:=dL }
theorem YM (n:Nat) (x):eL n x=am (acs n) Tryz.f153 (Vj n) x:=by kernel_rfl
def bd (n:Nat):Nat→jN×(List Bool)×Int×Int×Int×Bool×jL×Int×Int→Option (jN×(List Bool)×Int×Int×Int×Bool)
 |0,_=>none
 |m+1,x=>match x with|(x0,x1,x2,x3,x4,x5,x6,x7,x8)=>(cond (decide (x8<x7)) (cond (aI x8 (x6).length) (cond x5 (cond (aI (x6.getD (x8).toNat (0:Int)) (x1).length) (bd n m (x0,x1,x2,x3,x4,(x1.getD ((x6.getD (x8).toNat (0:Int))).toNat false),x6,x7,(IntKind.i64.wrap (x8+(1:Int))))) none) (bd n m (x0,x1,x2,x3,x4,false,x6,x7,(IntKind.i64.wrap (x8+(1:Int)))))) none) (some (x0,x1,x2,x3,x4,x5)))
def gT (n:Nat) (x:jN×Int×(List Bool)):Option (jN×(List Bool)×Bool) :=
 (cond (aI x.2.1 (x.1).length) (cond ((x.1.getD (x.2.1).toNat ((0:Int),((0:Int),(0:Int)))).1==(1:Int)) ((nX n (x.1.getD (x.2.1).toNat ((0:Int),((0:Int),(0:Int)))).2.1).bind fun r1=>(some (x.1,x.2.2,r1))) ((lj n (x.1,x.2.1)).bind fun r2=>((bd n n (r2.1,x.2.2,(x.1.getD (x.2.1).toNat ((0:Int),((0:Int),(0:Int)))).1,(x.1.getD (x.2.1).toNat ((0:Int),((0:Int),(0:Int)))).2.1,(x.1.getD (x.2.1).toNat ((0:Int),((0:Int),(0:Int)))).2.2,true,r2.2,((r2.2).length:Int),(0:Int))).bind fun e3=>(cond e3.2.2.2.2.2 (some (e3.1,e3.2.1,e3.2.2.2.2.2)) (cond (e3.2.2.1 != (8:Int)) (some (e3.1,e3.2.1,e3.2.2.2.2.2)) (cond (aI e3.2.2.2.1 (e3.2.1).length) (cond (e3.2.1.getD (e3.2.2.2.1).toNat false) ((eL n (e3.1,(7:Int),e3.2.2.2.2.1,(0:Int),e3.2.1)).bind fun r4=>(cond r4.2.2 (some (r4.1,r4.2.1,true)) (cond (aI e3.2.2.2.2.1 (r4.2.1).length) (cond (r4.2.1.getD (e3.2.2.2.2.1).toNat false) ((eL n (r4.1,(7:Int),e3.2.2.2.1,(0:Int),r4.2.1)).bind fun r5=>(some (r5.1,r5.2.1,r5.2.2))) (some (r4.1,r4.2.1,false))) none))) (cond (aI e3.2.2.2.2.1 (e3.2.1).length) (cond (e3.2.1.getD (e3.2.2.2.2.1).toNat false) ((eL n (e3.1,(7:Int),e3.2.2.2.1,(0:Int),e3.2.1)).bind fun r6=>(some (r6.1,r6.2.1,r6.2.2))) (some (e3.1,e3.2.1,false))) none)) none)))))) none)
def Vv (n:Nat):aa:={ pars:=[.p [.i aJ], .c (jI), .c (.b 4 .bool)],gh:=[],nb:=[],res:=[(false,[jB])],g:=gT n }
def jm (n:Nat):cx:={ ent:=[.box 0 [0] [.i aJ], .val 2 (.b 4 .bool), .box 7 [7,0] [jI,jI,jI], .val 8 (jB), .val 26 (ah), .val 27 (jI), .val 28 (jI)],exs:=[(.exit 0,[.box 0 [0] [.i aJ], .val 2 (.b 4 .bool), .box 7 [7,0] [jI,jI,jI], .val 8 (jB)])],g:=bd n n }
def abr (n:Nat):List (Nat×aa):=[(151,Vl n),(152,Vk n),(153,Vj n)]
def VR (n:Nat):aB:={ τ:=τ,N:=75,Γ:=gl (abr n) [],Λ:=(fun q=>match q with   | 6=>some (jm n)  | _=>none) }
theorem tj (n m:Nat) (x):bd n (m+1) x=cy (VR n) (ax (ae Tryz.f122) 0) (jm n) (bd n m) x:=by kernel_rfl
theorem Zb (n:Nat) (x):gT n x=am (VR n) Tryz.f122 (Vv n) x:=by kernel_rfl
def cb (n:Nat):Nat→jN×(List Bool)×jL×Int×Int→Option (jN×(List Bool))
 |0,_=>none
 |m+1,x=>(cond (decide (x.2.2.2.2<x.2.2.2.1)) (cond (aI x.2.2.2.2 (x.2.2.1).length) (cond (aI (x.2.2.1.getD (x.2.2.2.2).toNat (0:Int)) (x.2.1).length) (cb n m (x.1,(x.2.1.set ((x.2.2.1.getD (x.2.2.2.2).toNat (0:Int))).toNat true),x.2.2.1,x.2.2.2.1,(IntKind.i64.wrap (x.2.2.2.2+(1:Int))))) none) none) (some (x.1,x.2.1)))
def bC (n:Nat):Nat→jN×(List Bool)×Bool×Int×Int→Option (jN×(List Bool)×Bool)
 |0,_=>none
 |m+1,x=>(cond (decide (x.2.2.2.2<x.2.2.2.1)) (cond (aI x.2.2.2.2 (x.2.1).length) (cond (!(x.2.1.getD (x.2.2.2.2).toNat false)) ((gT n (x.1,x.2.2.2.2,x.2.1)).bind fun r2=>(cond r2.2.2 (cond (aI x.2.2.2.2 (r2.2.1).length) (bC n m (r2.1,(r2.2.1.set (x.2.2.2.2).toNat true),true,x.2.2.2.1,(IntKind.i64.wrap (x.2.2.2.2+(1:Int))))) none) (bC n m (r2.1,r2.2.1,x.2.2.1,x.2.2.2.1,(IntKind.i64.wrap (x.2.2.2.2+(1:Int))))))) (bC n m (x.1,x.2.1,x.2.2.1,x.2.2.2.1,(IntKind.i64.wrap (x.2.2.2.2+(1:Int)))))) none) (some (x.1,x.2.1,x.2.2.1)))
def bN (n:Nat):Nat→jN×(List Bool)×Bool→Option (jN×(List Bool))
 |0,_=>none
 |m+1,x=>(cond x.2.2 ((bC n n (x.1,x.2.1,false,((x.2.1).length:Int),(0:Int))).bind fun e3=>(bN n m (e3.1,e3.2.1,e3.2.2))) (some (x.1,x.2.1)))
def gF (n:Nat) (x:jN×jL):Option (jN×(List Bool)) :=
 (cond (decide (0≤((x.1).length:Int)∧((x.1).length:Int)≤((x.1).length:Int)∧((x.1).length:Int)≤4294967296)) ((cb n n (x.1,(List.replicate (((x.1).length:Int)).toNat false),x.2,((x.2).length:Int),(0:Int))).bind fun e1=>((bN n n (e1.1,e1.2,true)).bind fun e4=>(some (e4.1,e4.2)))) none)
def S93 (n:Nat):aa:={ pars:=[.p [.i aJ], .c (ah)],gh:=[],nb:=[],res:=[(false,[.i (.sl .bool)])],g:=gF n }
def kR (n:Nat):cx:={ ent:=[.box 0 [0] [.i aJ], .val 5 (.o 4 .bool), .val 16 (ah), .val 17 (jI), .val 18 (jI)],exs:=[(.exit 0,[.box 0 [0] [.i aJ], .val 5 (.o 4 .bool)])],g:=cb n n }
def j9 (n:Nat):cx:={ ent:=[.box 0 [0] [.i aJ], .val 5 (.o 4 .bool), .val 8 (jB), .val 28 (jI), .val 29 (jI)],exs:=[(.exit 4,[.box 0 [0] [.i aJ], .val 5 (.o 4 .bool), .val 8 (jB)])],g:=bC n n }
def kQ (n:Nat):cx:={ ent:=[.box 0 [0] [.i aJ], .val 5 (.o 4 .bool), .val 8 (jB)],exs:=[(.exit 2,[.box 0 [0] [.i aJ], .val 5 (.o 4 .bool)])],g:=bN n n }
def G93 (n:Nat):List (Nat×aa):=[(122,Vv n)]
def E93 (n:Nat):aB:={ τ:=τ,N:=48,Γ:=gl (G93 n) [],Λ:=(fun q=>match q with   | 3=>some (kR n)   | 11=>some (j9 n)   | 8=>some (kQ n)  | _=>none) }
theorem uQ (n m:Nat) (x):cb n (m+1) x=cy (E93 n) (ax (ae Tryz.f93) 0) (kR n) (cb n m) x:=by kernel_rfl
theorem t5 (n m:Nat) (x):bC n (m+1) x=cy (E93 n) (ax (ae Tryz.f93) 2) (j9 n) (bC n m) x:=by kernel_rfl
theorem uP (n m:Nat) (x):bN n (m+1) x=cy (E93 n) (ax (ae Tryz.f93) 1) (kQ n) (bN n m) x:=by kernel_rfl
theorem aet (n:Nat) (x):gF n x=am (E93 n) Tryz.f93 (S93 n) x:=by kernel_rfl
def aA (n:Nat):Nat→jN×jL×(List Bool)×jL×jL×Int×Int→Option (jN×jL×jL)
 |0,_=>none
 |m+1,x=>match x with|(x0,x1,x2,x3,x4,x5,x6)=>(cond (decide (x6<x5)) (cond (aI x6 (x4).length) (cond (aI (x4.getD (x6).toNat (0:Int)) (x0).length) (cond ((x0.getD ((x4.getD (x6).toNat (0:Int))).toNat ((0:Int),((0:Int),(0:Int)))).1==(2:Int)) (cond (aO ((x3).length+([(x0.getD ((x4.getD (x6).toNat (0:Int))).toNat ((0:Int),((0:Int),(0:Int)))).2.1,(x0.getD ((x4.getD (x6).toNat (0:Int))).toNat ((0:Int),((0:Int),(0:Int)))).2.2]).length)) (aA n m (x0,x1,x2,(x3++[(x0.getD ((x4.getD (x6).toNat (0:Int))).toNat ((0:Int),((0:Int),(0:Int)))).2.1,(x0.getD ((x4.getD (x6).toNat (0:Int))).toNat ((0:Int),((0:Int),(0:Int)))).2.2]),x4,x5,(IntKind.i64.wrap (x6+(1:Int))))) none) (cond ((x0.getD ((x4.getD (x6).toNat (0:Int))).toNat ((0:Int),((0:Int),(0:Int)))).1==(4:Int)) (cond (aO ((x3).length+([(x0.getD ((x4.getD (x6).toNat (0:Int))).toNat ((0:Int),((0:Int),(0:Int)))).2.1]).length)) (aA n m (x0,x1,x2,(x3++[(x0.getD ((x4.getD (x6).toNat (0:Int))).toNat ((0:Int),((0:Int),(0:Int)))).2.1]),x4,x5,(IntKind.i64.wrap (x6+(1:Int))))) none) (cond ((x0.getD ((x4.getD (x6).toNat (0:Int))).toNat ((0:Int),((0:Int),(0:Int)))).1==(3:Int)) (cond (aI (x0.getD ((x4.getD (x6).toNat (0:Int))).toNat ((0:Int),((0:Int),(0:Int)))).2.2 (x2).length) (cond (x2.getD ((x0.getD ((x4.getD (x6).toNat (0:Int))).toNat ((0:Int),((0:Int),(0:Int)))).2.2).toNat false) (cond (aO ((x3).length+([(x0.getD ((x4.getD (x6).toNat (0:Int))).toNat ((0:Int),((0:Int),(0:Int)))).2.1]).length)) (aA n m (x0,x1,x2,(x3++[(x0.getD ((x4.getD (x6).toNat (0:Int))).toNat ((0:Int),((0:Int),(0:Int)))).2.1]),x4,x5,(IntKind.i64.wrap (x6+(1:Int))))) none) (aA n m (x0,x1,x2,x3,x4,x5,(IntKind.i64.wrap (x6+(1:Int)))))) none) (aA n m (x0,x1,x2,x3,x4,x5,(IntKind.i64.wrap (x6+(1:Int)))))))) none) none) (some (x0,x1,x3)))
def gn (n:Nat) (x:jN×jL):Option (jN×jL) :=
 ((gF n (x.1,x.2)).bind fun r1=>((gQ x.2).bind fun r2=>((aA n n (r1.1,x.2,r1.2,r2,x.2,((x.2).length:Int),(0:Int))).bind fun e3=>((ow e3.2.2).bind fun r4=>((jX r4).bind fun r5=>((qO r5).bind fun r6=>(cond (decide (((r6).length:Int)>(200:Int))) ((gQ e3.2.1).bind fun r7=>(some (e3.1,r7))) (some (e3.1,r6)))))))))
def Vw (n:Nat):aa:={ pars:=[.p [.i aJ], .c (ah)],gh:=[],nb:=[],res:=[(false,[ah])],g:=gn n }
def iO (n:Nat):cx:={ ent:=[.box 0 [0] [.i aJ], .val 1 (ah), .val 5 (.i (.sl .bool)), .val 6 (jO), .val 15 (ah), .val 16 (jI), .val 17 (jI)],exs:=[(.exit 0,[.box 0 [0] [.i aJ], .val 1 (ah), .val 6 (jO)])],g:=aA n n }
def abs (n:Nat):List (Nat×aa):=[(93,S93 n),(147,ZM),(148,ZL),(150,ZJ),(149,ZK)]
def VS (n:Nat):aB:={ τ:=τ,N:=72,Γ:=gl (abs n) [],Λ:=(fun q=>match q with   | 4=>some (iO n)  | _=>none) }
theorem rU (n m:Nat) (x):aA n (m+1) x=cy (VS n) (ax (ae Tryz.f121) 0) (iO n) (aA n m) x:=by kernel_rfl
theorem Zc (n:Nat) (x):gn n x=am (VS n) Tryz.f121 (Vw n) x:=by kernel_rfl
def cA (n:Nat):Nat→jN×jL×Int→Option (jN×jL×Int)
 |0,_=>none
 |m+1,x=>((gn n (x.1,x.2.1)).bind fun r1=>(cond (((r1.2).length:Int)==((x.2.1).length:Int)) (some (r1.1,r1.2,x.2.2)) (cA n m (r1.1,r1.2,(IntKind.i64.wrap (x.2.2+(1:Int)))))))
def jr (n:Nat) (x:jN×jL):Option (jN×jL×Int) :=
 ((cA n n (x.1,x.2,(0:Int))).bind fun e2=>(some (e2.1,e2.2.1,e2.2.2)))
def S92 (n:Nat):aa:={ pars:=[.p [.i aJ], .c (ah)],gh:=[],nb:=[],res:=[(false,[ah]),(false,[jI])],g:=jr n }
def jl (n:Nat):cx:={ ent:=[.box 0 [0] [.i aJ], .val 1 (ah), .val 6 (jI)],exs:=[(.ret,[.box 0 [0] [.i aJ], .val 4 (ah), .val 5 (jI)])],g:=cA n n }
def G92 (n:Nat):List (Nat×aa):=[(121,Vw n)]
def E92 (n:Nat):aB:={ τ:=τ,N:=21,Γ:=gl (G92 n) [],Λ:=(fun q=>match q with   | 2=>some (jl n)  | _=>none) }
theorem th (n m:Nat) (x):cA n (m+1) x=cy (E92 n) (ax (ae Tryz.f92) 0) (jl n) (cA n m) x:=by kernel_rfl
theorem aeu (n:Nat) (x):jr n x=am (E92 n) Tryz.f92 (S92 n) x:=by kernel_rfl
def gS (n:Nat) (x:jN×jL):Option (jN×(List Bool)) :=
 ((jr n (x.1,x.2)).bind fun r1=>((gF n (r1.1,r1.2.1)).bind fun r2=>(some (r2.1,r2.2))))
def S59 (n:Nat):aa:={ pars:=[.p [.i aJ], .c (ah)],gh:=[],nb:=[],res:=[(false,[.i (.sl .bool)])],g:=gS n }
def G59 (n:Nat):List (Nat×aa):=[(92,S92 n),(93,S93 n)]
def E59 (n:Nat):aB:={ τ:=τ,N:=16,Γ:=gl (G59 n) [],Λ:=dL }
theorem aeZ (n:Nat) (x):gS n x=am (E59 n) Tryz.f59 (S59 n) x:=by kernel_rfl
def bv (n:Nat):Nat→jN×jL×jW×Int×jL×jL×jC×Int×Int×Bool×Bool×jC×Int×Int→Option ((jN×jL×jW×Int×jL×jL×jC×Int×Bool×Bool×Bool)⊕(jN×jL×jW×Int×jL×jL×jC×Int×Bool×Bool))
 |0,_=>none
 |m+1,x=>match x with|(x0,x1,x2,x3,x4,x5,x6,x7,x8,x9,x10,x11,x12,x13)=>(cond (decide (x13<x12)) (cond (aI x13 (x11).length) (cond ((x11.getD (x13).toNat ((0:Int),(false,false))).1==x7) (some (Sum.inl (x0,x1,x2,x3,x4,x5,x6,(x11.getD (x13).toNat ((0:Int),(false,false))).1,(x11.getD (x13).toNat ((0:Int),(false,false))).2.1,(x11.getD (x13).toNat ((0:Int),(false,false))).2.2,true))) (bv n m (x0,x1,x2,x3,x4,x5,x6,x7,x8,x9,x10,x11,x12,(IntKind.i64.wrap (x13+(1:Int)))))) none) (some (Sum.inr (x0,x1,x2,x3,x4,x5,x6,x8,x9,x10))))
def gm (n:Nat):jN×jL×jW×Int×jL×jL×jC×Int→Option (jN×jL×jW×Int×jL×jL×jC×Int×Bool×Bool×Bool):=fun(x0,x1,x2,x3,x4,x5,x6,x7) =>
 ((bv n n (x0,x1,x2,x3,x4,x5,x6,x7,(0:Int),false,false,x6,((x6).length:Int),(0:Int))).bind fun e1=>(match e1 with|Sum.inl (a2a,a2b,a2c,a2d,a2e,a2f,a2g,a2h,a2i,a2j,a2k)=>(some (a2a,a2b,a2c,a2d,a2e,a2f,a2g,a2h,a2i,a2j,a2k))|Sum.inr (b3a,b3b,b3c,b3d,b3e,b3f,b3g,_,_,_)=>(some (b3a,b3b,b3c,b3d,b3e,b3f,b3g,(0:Int),false,false,false))))
def S50 (n:Nat):aa:={ pars:=[.p [.i aJ,ah,fh,jI,ah,ah,fw], .c (jI)],gh:=[],nb:=[],res:=[(true,[jI,jB,jB]),(false,[jB])],g:=gm n }
def iN (n:Nat):cx:={ ent:=[.box 0 [0] [.i aJ,ah,fh,jI,ah,ah,fw], .val 1 (jI), .box 4 [4,0] [jI,jB,jB], .val 11 (fw), .val 12 (jI), .val 13 (jI)],exs:=[(.ret,[.box 0 [0] [.i aJ,ah,fh,jI,ah,ah,fw], .box 4 [4,0] [jI,jB,jB], .val 5 (jB)]),(.exit 0,[.box 0 [0] [.i aJ,ah,fh,jI,ah,ah,fw], .box 4 [4,0] [jI,jB,jB]])],g:=bv n n }
def G50 (n:Nat):List (Nat×aa):=[]
def E50 (n:Nat):aB:={ τ:=τ,N:=24,Γ:=gl (G50 n) [],Λ:=(fun q=>match q with   | 2=>some (iN n)  | _=>none) }
theorem rT (n m:Nat) (x):bv n (m+1) x=cy (E50 n) (ax (ae Tryz.f50) 0) (iN n) (bv n m) x:=by kernel_rfl
theorem ae8 (n:Nat) (x):gm n x=am (E50 n) Tryz.f50 (S50 n) x:=by kernel_rfl
def cZ (n:Nat):jN×jL×jW×Int×jL×jL×jC×Int→Option (jN×jL×jW×Int×jL×jL×jC×Bool):=fun(x0,x1,x2,x3,x4,x5,x6,x7) =>
 ((gm n (x0,x1,x2,x3,x4,x5,x6,x7)).bind fun(r1a,r1b,r1c,r1d,r1e,r1f,r1g,_,r1i,r1j,r1k)=>(cond r1k (cond (!r1i) (cond (aI x7 (r1c).length) (cond ((r1c.getD (x7).toNat ((0:Int),((0:Int),((0:Int),((0:Int),((0:Int),([],(false,(false,(0:Int)))))))))).1 != (2:Int)) (some (r1a,r1b,r1c,r1d,r1e,r1f,r1g,true)) (some (r1a,r1b,r1c,r1d,r1e,r1f,r1g,(!r1j)))) none) (some (r1a,r1b,r1c,r1d,r1e,r1f,r1g,false))) (some (r1a,r1b,r1c,r1d,r1e,r1f,r1g,false))))
def ZE (n:Nat):aa:={ pars:=[.p [.i aJ,ah,fh,jI,ah,ah,fw], .c (jI)],gh:=[],nb:=[],res:=[(false,[jB])],g:=cZ n }
def G52 (n:Nat):List (Nat×aa):=[(50,S50 n)]
def E52 (n:Nat):aB:={ τ:=τ,N:=35,Γ:=gl (G52 n) [],Λ:=dL }
theorem ae6 (n:Nat) (x):cZ n x=am (E52 n) Tryz.f52 (ZE n) x:=by kernel_rfl
def eE (n:Nat):Int×Bool×Int×jN×jL×jW×Int×jL×jL×jC→Option (Bool×Int×jN×jL×jW×Int×jL×jL×jC×Bool):=fun(x0,_,x2,x3,x4,x5,x6,x7,x8,x9) =>
 (cond (aI x0 (x5).length) (cond (aI x2 (x5).length) (some (false,x2,x3,x4,x5,x6,x7,x8,x9,((x5.getD (x0).toNat ((0:Int),((0:Int),((0:Int),((0:Int),((0:Int),([],(false,(false,(0:Int)))))))))).2.2.2.2.2.2.2.2==(x5.getD (x2).toNat ((0:Int),((0:Int),((0:Int),((0:Int),((0:Int),([],(false,(false,(0:Int)))))))))).2.2.2.2.2.2.2.2))) none) none)
def S90 (n:Nat):aa:={ pars:=[.c (jI), .p [.q [3] 0], .p [jI], .p [.i aJ,ah,fh,jI,ah,ah,fw]],gh:=[(1,0,none)],nb:=[],res:=[(false,[jB])],g:=eE n }
def G90 (n:Nat):List (Nat×aa):=[]
def E90 (n:Nat):aB:={ τ:=τ,N:=22,Γ:=gl (G90 n) [],Λ:=dL }
theorem aew (n:Nat) (x):eE n x=am (E90 n) Tryz.f90 (S90 n) x:=by kernel_rfl
def ap (n:Nat):Nat→jL×Bool×Int×Int×Bool×Int×jN×jL×jW×Int×jL×jL×jC→Option ((Int×Bool×Int×jN×jL×jW×Int×jL×jL×jC)⊕(Bool×Int×jN×jL×jW×Int×jL×jL×jC))
 |0,_=>none
 |m+1,x=>match x with|(x0,_,x2,x3,_,x5,x6,x7,x8,x9,x10,x11,x12)=>(cond (decide (x3<x2)) (cond (aI x3 (x0).length) ((eE n ((x0.getD (x3).toNat (0:Int)),false,x5,x6,x7,x8,x9,x10,x11,x12)).bind fun(_,r1b,r1c,r1d,r1e,r1f,r1g,r1h,r1i,r1j)=>(cond r1j (some (Sum.inl (x3,false,r1b,r1c,r1d,r1e,r1f,r1g,r1h,r1i))) (ap n m (x0,false,x2,(IntKind.i64.wrap (x3+(1:Int))),false,r1b,r1c,r1d,r1e,r1f,r1g,r1h,r1i)))) none) (some (Sum.inr (false,x5,x6,x7,x8,x9,x10,x11,x12))))
def dK (n:Nat):jL×Bool×Bool×Int×jN×jL×jW×Int×jL×jL×jC→Option (Bool×Int×jN×jL×jW×Int×jL×jL×jC×Int):=fun(x0,_,_,x3,x4,x5,x6,x7,x8,x9,x10) =>
 ((ap n n (x0,false,((x0).length:Int),(0:Int),false,x3,x4,x5,x6,x7,x8,x9,x10)).bind fun e2=>(match e2 with|Sum.inl (a3a,_,a3c,a3d,a3e,a3f,a3g,a3h,a3i,a3j)=>(some (false,a3c,a3d,a3e,a3f,a3g,a3h,a3i,a3j,a3a))|Sum.inr (_,b4b,b4c,b4d,b4e,b4f,b4g,b4h,b4i)=>(some (false,b4b,b4c,b4d,b4e,b4f,b4g,b4h,b4i,(-1:Int)))))
def Vx (n:Nat):aa:={ pars:=[.c (ah), .c (.f 90 [([2],0),([3],0)]), .p [.q [4] 0], .p [jI], .p [.i aJ,ah,fh,jI,ah,ah,fw]],gh:=[(1,0,some 0),(1,0,some 1),(2,0,none)],nb:=[],res:=[(false,[jI])],g:=dK n }
def ep (n:Nat):cx:={ ent:=[.val 0 (ah), .val 1 (.f 90 [([2],0),([3],0)]), .val 7 (jI), .val 8 (jI), .hid [2] [.q [4] 0], .hid [3] [jI], .hid [4] [.i aJ,ah,fh,jI,ah,ah,fw]],exs:=[(.ret,[.val 4 (jI), .hid [2] [.q [4] 0], .hid [3] [jI], .hid [4] [.i aJ,ah,fh,jI,ah,ah,fw]]),(.exit 0,[.hid [2] [.q [4] 0], .hid [3] [jI], .hid [4] [.i aJ,ah,fh,jI,ah,ah,fw]])],g:=ap n n }
def abt (n:Nat):List (Nat×aa):=[(90,S90 n)]
def VT (n:Nat):aB:={ τ:=τ,N:=19,Γ:=gl (abt n) [],Λ:=(fun q=>match q with   | 2=>some (ep n)  | _=>none) }
theorem my (n m:Nat) (x):ap n (m+1) x=cy (VT n) (ax (ae Tryz.f120) 0) (ep n) (ap n m) x:=by kernel_rfl
theorem Zd (n:Nat) (x):dK n x=am (VT n) Tryz.f120 (Vx n) x:=by kernel_rfl
def dj (n:Nat):jL×Bool×Bool×Int×jN×jL×jW×Int×jL×jL×jC→Option (Bool×Int×jN×jL×jW×Int×jL×jL×jC×Bool):=fun(x0,_,_,x3,x4,x5,x6,x7,x8,x9,x10) =>
 ((dK n (x0,false,false,x3,x4,x5,x6,x7,x8,x9,x10)).bind fun(_,r1b,r1c,r1d,r1e,r1f,r1g,r1h,r1i,r1j)=>(some (false,r1b,r1c,r1d,r1e,r1f,r1g,r1h,r1i,(decide (r1j≥(0:Int))))))
def S89 (n:Nat):aa:={ pars:=[.c (ah), .c (.f 90 [([2],0),([3],0)]), .p [.q [4] 0], .p [jI], .p [.i aJ,ah,fh,jI,ah,ah,fw]],gh:=[(1,0,some 0),(1,0,some 1),(2,0,none)],nb:=[],res:=[(false,[jB])],g:=dj n }
def G89 (n:Nat):List (Nat×aa):=[(120,Vx n)]
def E89 (n:Nat):aB:={ τ:=τ,N:=9,Γ:=gl (G89 n) [],Λ:=dL }
theorem aex (n:Nat) (x):dj n x=am (E89 n) Tryz.f89 (S89 n) x:=by kernel_rfl
def fG (n:Nat):jN×jL×jW×Int×jL×jL×jC×Int→Option (jN×jL×jW×Int×jL×jL×jC×Bool):=fun(x0,x1,x2,x3,x4,x5,x6,x7) =>
 ((dW n (x0,x1,x2,x3,x4,x5,x6,x7)).bind fun(r1a,r1b,r1c,r1d,r1e,r1f,r1g,r1h)=>(cond r1h ((dj n (r1f,false,false,x7,r1a,r1b,r1c,r1d,r1e,r1f,r1g)).bind fun(_,_,r2c,r2d,r2e,r2f,r2g,r2h,r2i,r2j)=>(some (r2c,r2d,r2e,r2f,r2g,r2h,r2i,r2j))) (some (r1a,r1b,r1c,r1d,r1e,r1f,r1g,false))))
def S54 (n:Nat):aa:={ pars:=[.p [.i aJ,ah,fh,jI,ah,ah,fw], .c (jI)],gh:=[],nb:=[],res:=[(false,[jB])],g:=fG n }
def G54 (n:Nat):List (Nat×aa):=[(43,ZF n),(89,S89 n)]
def E54 (n:Nat):aB:={ τ:=τ,N:=16,Γ:=gl (G54 n) [],Λ:=dL }
theorem ae4 (n:Nat) (x):fG n x=am (E54 n) Tryz.f54 (S54 n) x:=by kernel_rfl
def ay (n:Nat):Nat→jL×Int×Int×Int→Option ((Int)⊕(Unit))
 |0,_=>none
 |m+1,x=>(cond (decide (x.2.2.2<x.2.2.1)) (cond (aI x.2.2.2 (x.1).length) (cond (x.2.1==(x.1.getD (x.2.2.2).toNat (0:Int))) (some (Sum.inl x.2.2.2)) (ay n m (x.1,x.2.1,x.2.2.1,(IntKind.i64.wrap (x.2.2.2+(1:Int)))))) none) (some (Sum.inr ())))
def dJ (n:Nat) (x:jL×Int):Option (Int) :=
 ((ay n n (x.1,x.2,((x.1).length:Int),(0:Int))).bind fun e1=>(match e1 with|Sum.inl a2=>(some a2)|Sum.inr b3=>(some (-1:Int))))
def S96 (n:Nat):aa:={ pars:=[.c (ah), .c (jI)],gh:=[],nb:=[],res:=[(false,[jI])],g:=dJ n }
def fM (n:Nat):cx:={ ent:=[.val 0 (ah), .val 1 (jI), .val 7 (jI), .val 8 (jI)],exs:=[(.ret,[.val 4 (jI)]),(.exit 0,[])],g:=ay n n }
def G96 (n:Nat):List (Nat×aa):=[]
def E96 (n:Nat):aB:={ τ:=τ,N:=19,Γ:=gl (G96 n) [],Λ:=(fun q=>match q with   | 2=>some (fM n)  | _=>none) }
theorem oY (n m:Nat) (x):ay n (m+1) x=cy (E96 n) (ax (ae Tryz.f96) 0) (fM n) (ay n m) x:=by kernel_rfl
theorem aeq (n:Nat) (x):dJ n x=am (E96 n) Tryz.f96 (S96 n) x:=by kernel_rfl
def bM (n:Nat) (x:jL×Int):Option (Bool) :=
 ((dJ n (x.1,x.2)).bind fun r1=>(some (decide (r1≥(0:Int)))))
def S64 (n:Nat):aa:={ pars:=[.c (ah), .c (jI)],gh:=[],nb:=[],res:=[(false,[jB])],g:=bM n }
def G64 (n:Nat):List (Nat×aa):=[(96,S96 n)]
def E64 (n:Nat):aB:={ τ:=τ,N:=9,Γ:=gl (G64 n) [],Λ:=dL }
theorem aeU (n:Nat) (x):bM n x=am (E64 n) Tryz.f64 (S64 n) x:=by kernel_rfl
def gb (n:Nat):jN×jL×jW×Int×jL×jL×jC×Int→Option (jN×jL×jW×Int×jL×jL×jC×Bool):=fun(x0,x1,x2,x3,x4,x5,x6,x7) =>
 ((bM n (x4,x7)).bind fun r1=>(some (x0,x1,x2,x3,x4,x5,x6,r1)))
def S88 (n:Nat):aa:={ pars:=[.p [.i aJ,ah,fh,jI,ah,ah,fw], .c (jI)],gh:=[],nb:=[],res:=[(false,[jB])],g:=gb n }
def G88 (n:Nat):List (Nat×aa):=[(64,S64 n)]
def E88 (n:Nat):aB:={ τ:=τ,N:=11,Γ:=gl (G88 n) [],Λ:=dL }
theorem aey (n:Nat) (x):gb n x=am (E88 n) Tryz.f88 (S88 n) x:=by kernel_rfl
def fi (n:Nat):jN×jL×jW×Int×jL×jL×jC×Int→Option (jN×jL×jW×Int×jL×jL×jC×Bool):=fun(x0,x1,x2,x3,x4,x5,x6,x7) =>
 ((cZ n (x0,x1,x2,x3,x4,x5,x6,x7)).bind fun(r1a,r1b,r1c,r1d,r1e,r1f,r1g,r1h)=>(cond (!r1h) (some (r1a,r1b,r1c,r1d,r1e,r1f,r1g,false)) ((fG n (r1a,r1b,r1c,r1d,r1e,r1f,r1g,x7)).bind fun(r2a,r2b,r2c,r2d,r2e,r2f,r2g,r2h)=>(cond r2h (some (r2a,r2b,r2c,r2d,r2e,r2f,r2g,false)) (cond (aI x7 (r2c).length) (cond ((r2c.getD (x7).toNat ((0:Int),((0:Int),((0:Int),((0:Int),((0:Int),([],(false,(false,(0:Int)))))))))).1==(1:Int)) (some (r2a,r2b,r2c,r2d,r2e,r2f,r2g,true)) ((gb n (r2a,r2b,r2c,r2d,r2e,r2f,r2g,(r2c.getD (x7).toNat ((0:Int),((0:Int),((0:Int),((0:Int),((0:Int),([],(false,(false,(0:Int)))))))))).2.2.1)).bind fun(r3a,r3b,r3c,r3d,r3e,r3f,r3g,r3h)=>(cond (!r3h) ((gb n (r3a,r3b,r3c,r3d,r3e,r3f,r3g,(r2c.getD (x7).toNat ((0:Int),((0:Int),((0:Int),((0:Int),((0:Int),([],(false,(false,(0:Int)))))))))).2.2.2.1)).bind fun(r4a,r4b,r4c,r4d,r4e,r4f,r4g,r4h)=>(some (r4a,r4b,r4c,r4d,r4e,r4f,r4g,(!r4h)))) (some (r3a,r3b,r3c,r3d,r3e,r3f,r3g,false))))) none)))))
def S53 (n:Nat):aa:={ pars:=[.p [.i aJ,ah,fh,jI,ah,ah,fw], .c (jI)],gh:=[],nb:=[],res:=[(false,[jB])],g:=fi n }
def G53 (n:Nat):List (Nat×aa):=[(52,ZE n),(54,S54 n),(88,S88 n)]
def E53 (n:Nat):aB:={ τ:=τ,N:=39,Γ:=gl (G53 n) [],Λ:=dL }
theorem ae5 (n:Nat) (x):fi n x=am (E53 n) Tryz.f53 (S53 n) x:=by kernel_rfl
def bD (n:Nat):Nat→jN×jL×jW×Int×jL×jL×jC×(List Bool)×jW×Int×Int→Option ((Bool)⊕(Unit))
 |0,_=>none
 |m+1,x=>match x with|(x0,x1,x2,x3,x4,x5,x6,x7,x8,x9,x10)=>(cond (decide (x10<x9)) (cond (aI x10 (x8).length) ((fi n (x0,x1,x2,x3,x4,x5,x6,x10)).bind fun(r3a,r3b,r3c,r3d,r3e,r3f,r3g,r3h)=>(cond r3h (cond (aI (x8.getD (x10).toNat ((0:Int),((0:Int),((0:Int),((0:Int),((0:Int),([],(false,(false,(0:Int)))))))))).2.2.2.2.2.2.2.2 (x7).length) (cond (x7.getD ((x8.getD (x10).toNat ((0:Int),((0:Int),((0:Int),((0:Int),((0:Int),([],(false,(false,(0:Int)))))))))).2.2.2.2.2.2.2.2).toNat false) (some (Sum.inl false)) (bD n m (r3a,r3b,r3c,r3d,r3e,r3f,r3g,x7,x8,x9,(IntKind.i64.wrap (x10+(1:Int)))))) none) (bD n m (r3a,r3b,r3c,r3d,r3e,r3f,r3g,x7,x8,x9,(IntKind.i64.wrap (x10+(1:Int))))))) none) (some (Sum.inr ())))
def gc (n:Nat):jN×jL×jW×Int×jL×jL×jC→Option (Bool):=fun(x0,x1,x2,x3,x4,x5,x6) =>
 ((fL n (x0,x1,x2,x3,x4,x5,x6)).bind fun r1=>(cond (!r1) (some false) ((gS n (x0,x1)).bind fun r2=>((bD n n (r2.1,x1,x2,x3,x4,x5,x6,r2.2,x2,((x2).length:Int),(0:Int))).bind fun e4=>(match e4 with|Sum.inl a5=>(some a5)|Sum.inr b6=>(some true))))))
def S20 (n:Nat):aa:={ pars:=[.g [.i aJ,ah,fh,jI,ah,ah,fw]],gh:=[],nb:=[],res:=[(false,[jB])],g:=gc n }
def kb (n:Nat):cx:={ ent:=[.box 1 [1,0] [.i aJ,ah,fh,jI,ah,ah,fw], .val 3 (.i (.sl .bool)), .val 14 (fh), .val 15 (jI), .val 16 (jI)],exs:=[(.ret,[.val 2 (jB)]),(.exit 0,[])],g:=bD n n }
def G20 (n:Nat):List (Nat×aa):=[(9,S9 n),(59,S59 n),(53,S53 n)]
def E20 (n:Nat):aB:={ τ:=τ,N:=31,Γ:=gl (G20 n) [],Λ:=(fun q=>match q with   | 5=>some (kb n)  | _=>none) }
theorem t6 (n m:Nat) (x):bD n (m+1) x=cy (E20 n) (ax (ae Tryz.f20) 0) (kb n) (bD n m) x:=by kernel_rfl
theorem afs (n:Nat) (x):gc n x=am (E20 n) Tryz.f20 (S20 n) x:=by kernel_rfl
def cw (n:Nat) (x:jN):Option (jN) :=
 ((i8 x).bind fun r1=>(some r1))
def RJ (n:Nat):aa:={ pars:=[.g [.i aJ]],gh:=[],nb:=[],res:=[(true,[dr])],g:=cw n }
def abe (n:Nat):List (Nat×aa):=[(167,ZI)]
def acz (n:Nat):aB:={ τ:=τ,N:=7,Γ:=gl (abe n) [],Λ:=dL }
theorem YY (n:Nat) (x):cw n x=am (acz n) Tryz.f135 (RJ n) x:=by kernel_rfl
def fm (n:Nat) (x:jN×Int×Int×Int):Option (jN) :=
 (cond (aO ((x.1).length+([(x.2.1,(x.2.2.1,x.2.2.2))]).length)) (some (x.1++[(x.2.1,(x.2.2.1,x.2.2.2))])) none)
def fW (n:Nat) (x:jN×Int×Int×Int):Option (jN×Int) :=
 (cond (x.2.1==(8:Int)) ((bH n (x.2.1,(mn x.2.2.1 x.2.2.2),(mx x.2.2.1 x.2.2.2),((x.1).length:Int))).bind fun r1=>(cond (!r1) (some (x.1,(-1:Int))) ((eM n (x.1,x.2.1,(mn x.2.2.1 x.2.2.2),(mx x.2.2.1 x.2.2.2))).bind fun r2=>(cond (decide (r2.2≥(0:Int))) (some (r2.1,r2.2)) (cond (decide (((r2.1).length:Int)≥(500:Int))) (some (r2.1,(-1:Int))) ((fm n (r2.1,x.2.1,(mn x.2.2.1 x.2.2.2),(mx x.2.2.1 x.2.2.2))).bind fun g3=>(some (g3,(IntKind.i64.wrap (((g3).length:Int)-(1:Int))))))))))) ((bH n (x.2.1,x.2.2.1,x.2.2.2,((x.1).length:Int))).bind fun r4=>(cond (!r4) (some (x.1,(-1:Int))) ((eM n (x.1,x.2.1,x.2.2.1,x.2.2.2)).bind fun r5=>(cond (decide (r5.2≥(0:Int))) (some (r5.1,r5.2)) (cond (decide (((r5.1).length:Int)≥(500:Int))) (some (r5.1,(-1:Int))) ((fm n (r5.1,x.2.1,x.2.2.1,x.2.2.2)).bind fun g6=>(some (g6,(IntKind.i64.wrap (((g6).length:Int)-(1:Int))))))))))))
def Ny (n:Nat):aa:={ pars:=[.p [dr], .c (jI), .c (jI), .c (jI)],gh:=[],nb:=[],res:=[(false,[jI])],g:=fW n }
def aaM (n:Nat):List (Nat×aa):=[(113,RM n)]
def Z9 (n:Nat):List ((Nat×Nat)×aa):=[((185,35),PT n)]
def qD (n:Nat):bT:={ ent:=[.box 0 [0] [dr], .box 9 [9,0] [jI,jI,jI]],out:=[.box 0 [0] [dr]],g:=fm n }
def ZT (n:Nat):List (Nat×bT):=[(11,qD n)]
def RZ (n:Nat):aB:={ τ:=τ,N:=61,Γ:=gl (aaM n) (Z9 n),Λ:=dL,Ω:=tO (ZT n) }
theorem vL (n:Nat):Tj (RZ n) (ae Tryz.f170) 11 120 (qD n):=fun x=>by kernel_rfl
theorem Yw (n:Nat) (x):fW n x=am (RZ n) Tryz.f170 (Ny n) x:=by kernel_rfl
def gp (n:Nat) (x:jN×Int):Option (jN×Int) :=
 ((fW n (x.1,(1:Int),x.2,(0:Int))).bind fun r1=>(some (r1.1,r1.2)))
def RB (n:Nat):aa:={ pars:=[.p [dr], .c (jI)],gh:=[],nb:=[],res:=[(false,[jI])],g:=gp n }
def aaO (n:Nat):List (Nat×aa):=[(170,Ny n)]
def acj (n:Nat):aB:={ τ:=τ,N:=8,Γ:=gl (aaO n) [],Λ:=dL }
theorem Yy (n:Nat) (x):gp n x=am (acj n) Tryz.f168 (RB n) x:=by kernel_rfl
def fA (n:Nat) (x:jN×Int×Int):Option (jN×Int) :=
 ((gq n (x.1,x.2.1)).bind fun r1=>(cond (!r1.2) (some (r1.1,(-1:Int))) ((gq n (r1.1,x.2.2)).bind fun r2=>(cond (!r2.2) (some (r2.1,(-1:Int))) (cond (aI x.2.1 (r2.1).length) (cond ((r2.1.getD (x.2.1).toNat ((0:Int),((0:Int),(0:Int)))).1 != (7:Int)) (some (r2.1,(-1:Int))) (cond (aI x.2.1 (r2.1).length) ((fW n (r2.1,(8:Int),x.2.2,(r2.1.getD (x.2.1).toNat ((0:Int),((0:Int),(0:Int)))).2.1)).bind fun r3=>(some (r3.1,r3.2))) none)) none)))))
def Rz (n:Nat):aa:={ pars:=[.p [dr], .c (jI), .c (jI)],gh:=[],nb:=[],res:=[(false,[jI])],g:=fA n }
def aaN (n:Nat):List (Nat×aa):=[(170,Ny n)]
def aaa (n:Nat):List ((Nat×Nat)×aa):=[((77,9),LI n),((77,14),LI n)]
def aci (n:Nat):aB:={ τ:=τ,N:=39,Γ:=gl (aaN n) (aaa n),Λ:=dL }
theorem Yx (n:Nat) (x):fA n x=am (aci n) Tryz.f169 (Rz n) x:=by kernel_rfl
def lQ (n:Nat) (x:Int):Option (Int) :=
 (cond (x==(40:Int)) (some (2:Int)) (cond (x==(123:Int)) (some (3:Int)) (cond (x==(91:Int)) (some (4:Int)) (cond (x==(35:Int)) (some (5:Int)) (cond (x==(107:Int)) (some (6:Int)) (cond (x==(94:Int)) (some (7:Int)) (some (8:Int))))))))
def Ry (n:Nat):aa:={ pars:=[.c (.i (.int .u8))],gh:=[],nb:=[],res:=[(false,[jI])],g:=lQ n }
def aaL (n:Nat):List (Nat×aa):=[]
def ach (n:Nat):aB:={ τ:=τ,N:=16,Γ:=gl (aaL n) [],Λ:=dL }
theorem Yv (n:Nat) (x):lQ n x=am (ach n) Tryz.f171 (Ry n) x:=by kernel_rfl
def eD (n:Nat) (rec_:jP×jN×jL×Int→Option (jP×jN×Int)):jP×jN×Int×Int×jL×Int×Int→Option (jP×jN×Int):=fun(x0,x1,x2,_,_,x5,x6) =>
 ((lQ n x2).bind fun r7=>((fW n (x1,r7,x5,x6)).bind fun r8=>(some (x0,r8.1,r8.2))))
def aU (n:Nat) (rec_:jP×jN×jL×Int→Option (jP×jN×Int)):Nat→jP×jN×jL×Int×Int×jL×Int×Int×jL×Int×Int→Option ((jP×jN×Int)⊕(jP×jN×Int×Int×jL×Int×Int))
 |0,_=>none
 |m+1,x=>match x with|(x0,x1,x2,x3,x4,x5,x6,x7,x8,x9,x10)=>(cond (decide (x10<x9)) (cond (aI x10 (x8).length) ((rec_ (x0,x1,x2,(x8.getD (x10).toNat (0:Int)))).bind fun r2=>(cond (decide (x10=(0:Int))) (cond (decide (x10=(0:Int))) (cond (decide (r2.2.2<(0:Int))) (some (Sum.inl (r2.1,r2.2.1,(-1:Int)))) (aU n rec_ m (r2.1,r2.2.1,x2,x3,x4,x5,r2.2.2,x7,x8,x9,(IntKind.i64.wrap (x10+(1:Int)))))) (cond (decide (x10=(1:Int))) (cond (decide (x7<(0:Int))) (some (Sum.inl (r2.1,r2.2.1,(-1:Int)))) (aU n rec_ m (r2.1,r2.2.1,x2,x3,x4,x5,r2.2.2,x7,x8,x9,(IntKind.i64.wrap (x10+(1:Int)))))) none)) (cond (decide (x10=(1:Int))) (cond (decide (x10=(0:Int))) (cond (decide (x6<(0:Int))) (some (Sum.inl (r2.1,r2.2.1,(-1:Int)))) (aU n rec_ m (r2.1,r2.2.1,x2,x3,x4,x5,x6,r2.2.2,x8,x9,(IntKind.i64.wrap (x10+(1:Int)))))) (cond (decide (x10=(1:Int))) (cond (decide (r2.2.2<(0:Int))) (some (Sum.inl (r2.1,r2.2.1,(-1:Int)))) (aU n rec_ m (r2.1,r2.2.1,x2,x3,x4,x5,x6,r2.2.2,x8,x9,(IntKind.i64.wrap (x10+(1:Int)))))) none)) none))) none) (some (Sum.inr (x0,x1,x3,x4,x5,x6,x7))))
def sX (n:Nat) (rec_:jP×jN×jL×Int→Option (jP×jN×Int)) (x:jP×jN×jL×Int):Option (jP×jN×Int) :=
 (cond (aI x.2.2.2 (x.1).length) (cond ((x.1.getD (x.2.2.2).toNat ((0:Int),((0:Int),[]))).1==(110:Int)) ((gp n (x.2.1,(x.1.getD (x.2.2.2).toNat ((0:Int),((0:Int),[]))).2.1)).bind fun r1=>(some (x.1,r1.1,r1.2))) (cond ((x.1.getD (x.2.2.2).toNat ((0:Int),((0:Int),[]))).1==(36:Int)) (cond (aI (x.1.getD (x.2.2.2).toNat ((0:Int),((0:Int),[]))).2.1 (x.2.2.1).length) (some (x.1,x.2.1,(x.2.2.1.getD ((x.1.getD (x.2.2.2).toNat ((0:Int),((0:Int),[]))).2.1).toNat (0:Int)))) none) (cond ((x.1.getD (x.2.2.2).toNat ((0:Int),((0:Int),[]))).1==(63:Int)) (some (x.1,x.2.1,(-1:Int))) ((aU n rec_ n (x.1,x.2.1,x.2.2.1,(x.1.getD (x.2.2.2).toNat ((0:Int),((0:Int),[]))).1,(x.1.getD (x.2.2.2).toNat ((0:Int),((0:Int),[]))).2.1,(x.1.getD (x.2.2.2).toNat ((0:Int),((0:Int),[]))).2.2,(0:Int),(0:Int),(x.1.getD (x.2.2.2).toNat ((0:Int),((0:Int),[]))).2.2,(((x.1.getD (x.2.2.2).toNat ((0:Int),((0:Int),[]))).2.2).length:Int),(0:Int))).bind fun e3=>(match e3 with|Sum.inl a4=>(some (a4.1,a4.2.1,a4.2.2))|Sum.inr (b5a,b5b,b5c,b5d,b5e,b5f,b5g)=>(cond (b5c==(120:Int)) ((fA n (b5b,b5g,b5f)).bind fun r6=>(some (b5a,r6.1,r6.2))) ((eD n rec_ (b5a,b5b,b5c,b5d,b5e,b5f,b5g)).bind fun g7=>(some (g7.1,g7.2.1,g7.2.2))))))))) none)
def aQ (n:Nat):Nat→(jP×jN×jL×Int)→Option (jP×jN×Int)
 |0,_=>none
 |k+1,x=>sX n (aQ n k) x
def PP (n:Nat) (k:Nat):aa:={ pars:=[.p [.i (.sl (.pr (.int .u8) (.pr (.int .i64) (.sl (.int .i64)))))], .p [dr], .c (ah), .c (jI)],gh:=[],nb:=[],res:=[(false,[jI])],g:=aQ n k }
def iM (n:Nat) (k:Nat):cx:={ ent:=[.box 0 [0] [.i (.sl (.pr (.int .u8) (.pr (.int .i64) (.sl (.int .i64)))))], .box 1 [1] [dr], .val 2 (ah), .box 9 [9,0] [.i (.int .u8),jI,ah], .box 10 [10,0] [jI,jI], .val 39 (ah), .val 40 (jI), .val 41 (jI)],exs:=[(.ret,[.box 0 [0] [.i (.sl (.pr (.int .u8) (.pr (.int .i64) (.sl (.int .i64)))))], .box 1 [1] [dr], .val 8 (jI)]),(.exit 1,[.box 0 [0] [.i (.sl (.pr (.int .u8) (.pr (.int .i64) (.sl (.int .i64)))))], .box 1 [1] [dr], .box 9 [9,0] [.i (.int .u8),jI,ah], .box 10 [10,0] [jI,jI]])],g:=aU n (aQ n k) n }
def abd (n:Nat) (k:Nat):List (Nat×aa):=[(168,RB n),(136,PP n k),(169,Rz n),(171,Ry n),(170,Ny n)]
def mS (n:Nat) (k:Nat):bT:={ ent:=[.box 0 [0] [.i (.sl (.pr (.int .u8) (.pr (.int .i64) (.sl (.int .i64)))))], .box 1 [1] [dr], .box 9 [9,0] [.i (.int .u8),jI,ah], .box 10 [10,0] [jI,jI]],out:=[.box 0 [0] [.i (.sl (.pr (.int .u8) (.pr (.int .i64) (.sl (.int .i64)))))], .box 1 [1] [dr], .val 8 (jI)],g:=eD n (aQ n k) }
def ZZ (n:Nat) (k:Nat):List (Nat×bT):=[(19,mS n k)]
def Qb (n:Nat) (k:Nat):aB:={ τ:=τ,N:=76,Γ:=gl (abd n k) [],Λ:=(fun q=>match q with   | 11=>some (iM n k)  | _=>none),Ω:=tO (ZZ n k) }
theorem rP (n k:Nat):yJ false (Qb n k) (ae Tryz.f136) 19 [0,1,2,4,5,6,7,3,8,9] (mS n k):=fun x=>by kernel_rfl
theorem rS (n m k:Nat) (x):aU n (aQ n k) (m+1) x=cy (Qb n k) (ax (ae Tryz.f136) 0) (iM n k) (aU n (aQ n k) m) x:=by kernel_rfl
theorem YX (n k:Nat) (x):aQ n (k+1) x=am (Qb n k) Tryz.f136 (PP n (k+1)) x:=by kernel_rfl
def lP (n:Nat) (rec_:jP×jN×jL×Int→Option (jP×jN×jL×Int)):jP×jN×jL×Int×Int×jL×Int×Int→Option (jP×jN×jL×Int):=fun(x0,x1,x2,x3,_,_,x6,x7) =>
 ((lQ n x3).bind fun r7=>((fW n (x1,r7,x6,x7)).bind fun r8=>(some (x0,r8.1,x2,r8.2))))
def br (n:Nat) (rec_:jP×jN×jL×Int→Option (jP×jN×jL×Int)):Nat→jP×jN×jL×Int×Int×jL×Int×Int×jL×Int×Int→Option ((jP×jN×jL×Int)⊕(jP×jN×jL×Int×Int×jL×Int×Int))
 |0,_=>none
 |m+1,x=>match x with|(x0,x1,x2,x3,x4,x5,x6,x7,x8,x9,x10)=>(cond (decide (x10<x9)) (cond (aI x10 (x8).length) ((rec_ (x0,x1,x2,(x8.getD (x10).toNat (0:Int)))).bind fun r2=>(cond (decide (x10=(0:Int))) (cond (decide (x10=(0:Int))) (cond (decide (r2.2.2.2<(0:Int))) (some (Sum.inl (r2.1,r2.2.1,r2.2.2.1,(-1:Int)))) (br n rec_ m (r2.1,r2.2.1,r2.2.2.1,x3,x4,x5,r2.2.2.2,x7,x8,x9,(IntKind.i64.wrap (x10+(1:Int)))))) (cond (decide (x10=(1:Int))) (cond (decide (x7<(0:Int))) (some (Sum.inl (r2.1,r2.2.1,r2.2.2.1,(-1:Int)))) (br n rec_ m (r2.1,r2.2.1,r2.2.2.1,x3,x4,x5,r2.2.2.2,x7,x8,x9,(IntKind.i64.wrap (x10+(1:Int)))))) none)) (cond (decide (x10=(1:Int))) (cond (decide (x10=(0:Int))) (cond (decide (x6<(0:Int))) (some (Sum.inl (r2.1,r2.2.1,r2.2.2.1,(-1:Int)))) (br n rec_ m (r2.1,r2.2.1,r2.2.2.1,x3,x4,x5,x6,r2.2.2.2,x8,x9,(IntKind.i64.wrap (x10+(1:Int)))))) (cond (decide (x10=(1:Int))) (cond (decide (r2.2.2.2<(0:Int))) (some (Sum.inl (r2.1,r2.2.1,r2.2.2.1,(-1:Int)))) (br n rec_ m (r2.1,r2.2.1,r2.2.2.1,x3,x4,x5,x6,r2.2.2.2,x8,x9,(IntKind.i64.wrap (x10+(1:Int)))))) none)) none))) none) (some (Sum.inr (x0,x1,x2,x3,x4,x5,x6,x7))))
def rg (n:Nat) (rec_:jP×jN×jL×Int→Option (jP×jN×jL×Int)) (x:jP×jN×jL×Int):Option (jP×jN×jL×Int) :=
 (cond (aI x.2.2.2 (x.1).length) (cond ((x.1.getD (x.2.2.2).toNat ((0:Int),((0:Int),[]))).1==(110:Int)) ((gp n (x.2.1,(x.1.getD (x.2.2.2).toNat ((0:Int),((0:Int),[]))).2.1)).bind fun r1=>(some (x.1,r1.1,x.2.2.1,r1.2))) (cond ((x.1.getD (x.2.2.2).toNat ((0:Int),((0:Int),[]))).1==(36:Int)) (cond (aI (x.1.getD (x.2.2.2).toNat ((0:Int),((0:Int),[]))).2.1 (x.2.2.1).length) (some (x.1,x.2.1,x.2.2.1,(x.2.2.1.getD ((x.1.getD (x.2.2.2).toNat ((0:Int),((0:Int),[]))).2.1).toNat (0:Int)))) none) (cond ((x.1.getD (x.2.2.2).toNat ((0:Int),((0:Int),[]))).1==(63:Int)) (some (x.1,x.2.1,x.2.2.1,(-1:Int))) ((br n rec_ n (x.1,x.2.1,x.2.2.1,(x.1.getD (x.2.2.2).toNat ((0:Int),((0:Int),[]))).1,(x.1.getD (x.2.2.2).toNat ((0:Int),((0:Int),[]))).2.1,(x.1.getD (x.2.2.2).toNat ((0:Int),((0:Int),[]))).2.2,(0:Int),(0:Int),(x.1.getD (x.2.2.2).toNat ((0:Int),((0:Int),[]))).2.2,(((x.1.getD (x.2.2.2).toNat ((0:Int),((0:Int),[]))).2.2).length:Int),(0:Int))).bind fun e3=>(match e3 with|Sum.inl a4=>(some (a4.1,a4.2.1,a4.2.2.1,a4.2.2.2))|Sum.inr (b5a,b5b,b5c,b5d,b5e,b5f,b5g,b5h)=>(cond (b5d==(120:Int)) ((fA n (b5b,b5h,b5g)).bind fun r6=>(some (b5a,r6.1,b5c,r6.2))) ((lP n rec_ (b5a,b5b,b5c,b5d,b5e,b5f,b5g,b5h)).bind fun g7=>(some (g7.1,g7.2.1,g7.2.2.1,g7.2.2.2))))))))) none)
def cO (n:Nat):Nat→(jP×jN×jL×Int)→Option (jP×jN×jL×Int)
 |0,_=>none
 |k+1,x=>rg n (cO n k) x
def PV (n:Nat) (k:Nat):aa:={ pars:=[.p [.i (.sl (.pr (.int .u8) (.pr (.int .i64) (.sl (.int .i64)))))], .p [dr], .c (.b 3 (.int .i64)), .c (jI)],gh:=[],nb:=[],res:=[(false,[jI])],g:=cO n k }
def gZ (n:Nat) (k:Nat):cx:={ ent:=[.box 0 [0] [.i (.sl (.pr (.int .u8) (.pr (.int .i64) (.sl (.int .i64)))))], .box 1 [1] [dr], .val 2 (.b 3 (.int .i64)), .box 9 [9,0] [.i (.int .u8),jI,ah], .box 10 [10,0] [jI,jI], .val 39 (ah), .val 40 (jI), .val 41 (jI)],exs:=[(.ret,[.box 0 [0] [.i (.sl (.pr (.int .u8) (.pr (.int .i64) (.sl (.int .i64)))))], .box 1 [1] [dr], .val 2 (.b 3 (.int .i64)), .val 8 (jI)]),(.exit 1,[.box 0 [0] [.i (.sl (.pr (.int .u8) (.pr (.int .i64) (.sl (.int .i64)))))], .box 1 [1] [dr], .val 2 (.b 3 (.int .i64)), .box 9 [9,0] [.i (.int .u8),jI,ah], .box 10 [10,0] [jI,jI]])],g:=br n (cO n k) n }
def S5 (n:Nat) (k:Nat):List (Nat×aa):=[(168,RB n),(169,Rz n),(171,Ry n),(170,Ny n)]
def SY (n:Nat) (k:Nat):List ((Nat×Nat)×aa):=[((136,51),PV n k)]
def lb (n:Nat) (k:Nat):bT:={ ent:=[.box 0 [0] [.i (.sl (.pr (.int .u8) (.pr (.int .i64) (.sl (.int .i64)))))], .box 1 [1] [dr], .val 2 (.b 3 (.int .i64)), .box 9 [9,0] [.i (.int .u8),jI,ah], .box 10 [10,0] [jI,jI]],out:=[.box 0 [0] [.i (.sl (.pr (.int .u8) (.pr (.int .i64) (.sl (.int .i64)))))], .box 1 [1] [dr], .val 2 (.b 3 (.int .i64)), .val 8 (jI)],g:=lP n (cO n k) }
def SN (n:Nat) (k:Nat):List (Nat×bT):=[(19,lb n k)]
def I4 (n:Nat) (k:Nat):aB:={ τ:=τ,N:=76,Γ:=gl (S5 n k) (SY n k),Λ:=(fun q=>match q with   | 11=>some (gZ n k)  | _=>none),Ω:=tO (SN n k) }
theorem qG (n k:Nat):yJ false (I4 n k) (ae Tryz.f136) 19 [0,1,2,4,5,6,7,3,8,9] (lb n k):=fun x=>by kernel_rfl
theorem qH (n m k:Nat) (x):br n (cO n k) (m+1) x=cy (I4 n k) (ax (ae Tryz.f136) 0) (gZ n k) (br n (cO n k) m) x:=by kernel_rfl
theorem Uv (n k:Nat) (x):cO n (k+1) x=am (I4 n k) Tryz.f136 (PV n (k+1)) x:=by kernel_rfl
def pH (n:Nat) (x:jN×jL×ByteArray):Option (jN×Int) :=
 ((fX n x.1).bind fun r1=>(cond (!r1) (some ([],(-1:Int))) ((dV n x.2.2).bind fun r2=>(cond (!r2.2.1) ((cw n x.1).bind fun r3=>(some (r3,(-1:Int)))) ((nG n (x.1,x.2.1)).bind fun r4=>(cond (!r4) ((cw n x.1).bind fun r5=>(some (r5,(-1:Int)))) ((ca n r2.2.2).bind fun r6=>((aS n n (r6.1,r6.2,(63:Int))).bind fun r7=>(cond r7.2 ((cw n x.1).bind fun r8=>(some (r8,(-1:Int)))) ((cw n x.1).bind fun r9=>((ca n r7.1).bind fun r10=>((aQ n n (r10.1,r9,x.2.1,r10.2)).bind fun r11=>(cond (decide (r11.2.2<(0:Int))) ((cw n x.1).bind fun r12=>(some (r12,(-1:Int)))) (some (r11.2.1,r11.2.2)))))))))))))))
def ZO (n:Nat):aa:={ pars:=[.g [.i aJ], .c (ah), .c (jS)],gh:=[],nb:=[],res:=[(true,[dr]),(false,[jI])],g:=pH n }
def abE (n:Nat):List (Nat×aa):=[(78,V8 n),(132,NB n),(135,RJ n),(80,ZC n),(134,PQ n),(133,NA n n),(136,PP n n)]
def acO (n:Nat):aB:={ τ:=τ,N:=50,Γ:=gl (abE n) [],Λ:=dL }
theorem Zo (n:Nat) (x):pH n x=am (acO n) Tryz.f109 (ZO n) x:=by kernel_rfl
def mr (n:Nat) (x:jN×jL×ByteArray):Option (jN×Int) :=
 ((fX n x.1).bind fun r1=>(cond (!r1) (some (([]:List (Int×(Int×Int))),(-1:Int))) ((dV n x.2.2).bind fun r2=>(cond (!r2.2.1) ((cw n x.1).bind fun r3=>(some (r3,(-1:Int)))) ((nG n (x.1,x.2.1)).bind fun r4=>(cond (!r4) ((cw n x.1).bind fun r5=>(some (r5,(-1:Int)))) ((ca n r2.2.2).bind fun r6=>((aS n n (r6.1,r6.2,(63:Int))).bind fun r7=>(cond r7.2 ((cw n x.1).bind fun r8=>(some (r8,(-1:Int)))) ((cw n x.1).bind fun r9=>((ca n r7.1).bind fun r10=>((aQ n n (r10.1,r9,x.2.1,r10.2)).bind fun r11=>(cond (decide (r11.2.2<(0:Int))) ((cw n x.1).bind fun r12=>(some (r12,(-1:Int)))) (some (r11.2.1,r11.2.2)))))))))))))))
def PX (n:Nat):aa:={ pars:=[.g [.i aJ], .c (ah), .c (jS)],gh:=[],nb:=[],res:=[(true,[.i aJ]),(false,[jI])],g:=mr n }
def Ta (n:Nat):List (Nat×aa):=[(78,V8 n),(132,NB n),(135,RJ n),(80,ZC n),(134,PQ n),(133,NA n n),(136,PP n n)]
def Tn (n:Nat):aB:={ τ:=τ,N:=50,Γ:=gl (Ta n) [],Λ:=dL }
theorem Uy (n:Nat) (x):mr n x=am (Tn n) Tryz.f109 (PX n) x:=by kernel_rfl
def kG (n:Nat):jN×jL×jW×Int×jL×jL×jC×Int×Int×Int×Int×Int×jL×Bool×Bool×Int×jA→Option (jN×jL×jW×Int×jL×jL×jC×Int):=fun(x0,x1,x2,x3,x4,x5,x6,_,_,_,_,_,x12,_,_,_,x16) =>
 (cond (aI (IntKind.i64.wrap (((x16).length:Int)-(1:Int))) (x16).length) ((mr n (x0,x12,(x16.getD ((IntKind.i64.wrap (((x16).length:Int)-(1:Int)))).toNat ((0:Int),(⟨#[]⟩:ByteArray))).2)).bind fun r2=>(some (x0,x1,x2,x3,x4,x5,x6,r2.2))) none)
def dm (n:Nat):jN×jL×jW×Int×jL×jL×jC×Int→Option (jN×jL×jW×Int×jL×jL×jC×Int):=fun(x0,x1,x2,x3,x4,x5,x6,x7) =>
 (cond (aI x7 (x2).length) (cond (x2.getD (x7).toNat ((0:Int),((0:Int),((0:Int),((0:Int),((0:Int),([],(false,(false,(0:Int)))))))))).2.2.2.2.2.2.1 (some (x0,x1,x2,x3,x4,x5,x6,(x2.getD (x7).toNat ((0:Int),((0:Int),((0:Int),((0:Int),((0:Int),([],(false,(false,(0:Int)))))))))).2.2.2.2.2.2.2.2)) ((fV n ((x2.getD (x7).toNat ((0:Int),((0:Int),((0:Int),((0:Int),((0:Int),([],(false,(false,(0:Int)))))))))).1,(x2.getD (x7).toNat ((0:Int),((0:Int),((0:Int),((0:Int),((0:Int),([],(false,(false,(0:Int)))))))))).2.1)).bind fun r1=>((kG n (x0,x1,x2,x3,x4,x5,x6,(x2.getD (x7).toNat ((0:Int),((0:Int),((0:Int),((0:Int),((0:Int),([],(false,(false,(0:Int)))))))))).1,(x2.getD (x7).toNat ((0:Int),((0:Int),((0:Int),((0:Int),((0:Int),([],(false,(false,(0:Int)))))))))).2.1,(x2.getD (x7).toNat ((0:Int),((0:Int),((0:Int),((0:Int),((0:Int),([],(false,(false,(0:Int)))))))))).2.2.1,(x2.getD (x7).toNat ((0:Int),((0:Int),((0:Int),((0:Int),((0:Int),([],(false,(false,(0:Int)))))))))).2.2.2.1,(x2.getD (x7).toNat ((0:Int),((0:Int),((0:Int),((0:Int),((0:Int),([],(false,(false,(0:Int)))))))))).2.2.2.2.1,(x2.getD (x7).toNat ((0:Int),((0:Int),((0:Int),((0:Int),((0:Int),([],(false,(false,(0:Int)))))))))).2.2.2.2.2.1,(x2.getD (x7).toNat ((0:Int),((0:Int),((0:Int),((0:Int),((0:Int),([],(false,(false,(0:Int)))))))))).2.2.2.2.2.2.1,(x2.getD (x7).toNat ((0:Int),((0:Int),((0:Int),((0:Int),((0:Int),([],(false,(false,(0:Int)))))))))).2.2.2.2.2.2.2.1,(x2.getD (x7).toNat ((0:Int),((0:Int),((0:Int),((0:Int),((0:Int),([],(false,(false,(0:Int)))))))))).2.2.2.2.2.2.2.2,r1.1)).bind fun(g2a,g2b,g2c,g2d,g2e,g2f,g2g,g2h)=>((dp n (g2a,g2h)).bind fun r3=>(cond (!r3.2) (some (r3.1,g2b,g2c,g2d,g2e,g2f,g2g,(-1:Int))) (some (r3.1,g2b,g2c,g2d,g2e,g2f,g2g,g2h))))))) none)
def S74 (n:Nat):aa:={ pars:=[.p [.i aJ,ah,fh,jI,ah,ah,fw], .c (jI)],gh:=[],nb:=[],res:=[(false,[jI])],g:=dm n }
def G74 (n:Nat):List (Nat×aa):=[(79,S79 n),(77,V9 n)]
def H74 (n:Nat):List ((Nat×Nat)×aa):=[((109,43),PX n)]
def oH (n:Nat):bT:={ ent:=[.box 0 [0] [.i aJ,ah,fh,jI,ah,ah,fw], .box 5 [5,0] [jI,jI,jI,jI,jI,ah,jB,jB,jI], .val 6 (.i (.sl (.pr (.int .i64) .str)))],out:=[.box 0 [0] [.i aJ,ah,fh,jI,ah,ah,fw], .val 9 (jI)],g:=kG n }
def Q74 (n:Nat):List (Nat×bT):=[(5,oH n)]
def E74 (n:Nat):aB:={ τ:=τ,N:=53,Γ:=gl (G74 n) (H74 n),Λ:=dL,Ω:=tO (Q74 n) }
theorem tV (n:Nat):yJ true (E74 n) (ae Tryz.f74) 5 [17,0,1,2,3,4,5,6,7,8,9,10,11,12,13,14,15,16,18,19] (oH n):=fun x=>by kernel_rfl
theorem aeM (n:Nat) (x):dm n x=am (E74 n) Tryz.f74 (S74 n) x:=by kernel_rfl
def aj (n:Nat):Nat→jN×jL×jW×Int×jL×jL×jC×Int×Int×Int×Int×Int×Int×jL×Bool×Bool×Int×Int×jL×jW×Int×Int→Option (jN×jL×jW×Int×jL×jL×jC×jL)
 |0,_=>none
 |m+1,x=>match x with|(x0,x1,x2,x3,x4,x5,x6,x7,x8,x9,x10,x11,x12,x13,x14,x15,x16,x17,x18,x19,x20,x21)=>(cond (decide (x21<x20)) (cond (aI x21 (x19).length) (cond (x21==x7) (aj n m (x0,x1,x2,x3,x4,x5,x6,x7,x8,x9,x10,x11,x12,x13,x14,x15,x16,x17,x18,x19,x20,(IntKind.i64.wrap (x21+(1:Int))))) (cond ((x19.getD (x21).toNat ((0:Int),((0:Int),((0:Int),((0:Int),((0:Int),([],(false,(false,(0:Int)))))))))).1 != x8) (aj n m (x0,x1,x2,x3,x4,x5,x6,x7,x8,x9,x10,x11,x12,x13,x14,x15,x16,x17,x18,x19,x20,(IntKind.i64.wrap (x21+(1:Int))))) (cond ((x19.getD (x21).toNat ((0:Int),((0:Int),((0:Int),((0:Int),((0:Int),([],(false,(false,(0:Int)))))))))).2.1==x9) (aj n m (x0,x1,x2,x3,x4,x5,x6,x7,x8,x9,x10,x11,x12,x13,x14,x15,x16,x17,x18,x19,x20,(IntKind.i64.wrap (x21+(1:Int))))) (cond ((x19.getD (x21).toNat ((0:Int),((0:Int),((0:Int),((0:Int),((0:Int),([],(false,(false,(0:Int)))))))))).2.2.1 != x11) (aj n m (x0,x1,x2,x3,x4,x5,x6,x7,x8,x9,x10,x11,x12,x13,x14,x15,x16,x17,x18,x19,x20,(IntKind.i64.wrap (x21+(1:Int))))) (cond ((x19.getD (x21).toNat ((0:Int),((0:Int),((0:Int),((0:Int),((0:Int),([],(false,(false,(0:Int)))))))))).2.2.2.1 != x10) (aj n m (x0,x1,x2,x3,x4,x5,x6,x7,x8,x9,x10,x11,x12,x13,x14,x15,x16,x17,x18,x19,x20,(IntKind.i64.wrap (x21+(1:Int))))) (cond (x9==(1:Int)) (cond (!(x19.getD (x21).toNat ((0:Int),((0:Int),((0:Int),((0:Int),((0:Int),([],(false,(false,(0:Int)))))))))).2.2.2.2.2.2.1) (aj n m (x0,x1,x2,x3,x4,x5,x6,x7,x8,x9,x10,x11,x12,x13,x14,x15,x16,x17,x18,x19,x20,(IntKind.i64.wrap (x21+(1:Int))))) (cond (x17 != (-1:Int)) ((dm n (x0,x1,x2,x3,x4,x5,x6,x21)).bind fun(r2a,r2b,r2c,r2d,r2e,r2f,r2g,r2h)=>(cond (r2h==x17) (cond (aO ((x18).length+([x21]).length)) (aj n m (r2a,r2b,r2c,r2d,r2e,r2f,r2g,x7,x8,x9,x10,x11,x12,x13,x14,x15,x16,x17,(x18++[x21]),x19,x20,(IntKind.i64.wrap (x21+(1:Int))))) none) (aj n m (r2a,r2b,r2c,r2d,r2e,r2f,r2g,x7,x8,x9,x10,x11,x12,x13,x14,x15,x16,x17,x18,x19,x20,(IntKind.i64.wrap (x21+(1:Int))))))) (aj n m (x0,x1,x2,x3,x4,x5,x6,x7,x8,x9,x10,x11,x12,x13,x14,x15,x16,x17,x18,x19,x20,(IntKind.i64.wrap (x21+(1:Int))))))) (cond (x17 != (-1:Int)) ((dm n (x0,x1,x2,x3,x4,x5,x6,x21)).bind fun(r3a,r3b,r3c,r3d,r3e,r3f,r3g,r3h)=>(cond (r3h==x17) (cond (aO ((x18).length+([x21]).length)) (aj n m (r3a,r3b,r3c,r3d,r3e,r3f,r3g,x7,x8,x9,x10,x11,x12,x13,x14,x15,x16,x17,(x18++[x21]),x19,x20,(IntKind.i64.wrap (x21+(1:Int))))) none) (aj n m (r3a,r3b,r3c,r3d,r3e,r3f,r3g,x7,x8,x9,x10,x11,x12,x13,x14,x15,x16,x17,x18,x19,x20,(IntKind.i64.wrap (x21+(1:Int))))))) (aj n m (x0,x1,x2,x3,x4,x5,x6,x7,x8,x9,x10,x11,x12,x13,x14,x15,x16,x17,x18,x19,x20,(IntKind.i64.wrap (x21+(1:Int)))))))))))) none) (some (x0,x1,x2,x3,x4,x5,x6,x18)))
def fF (n:Nat):jN×jL×jW×Int×jL×jL×jC×Int→Option (jN×jL×jW×Int×jL×jL×jC×jL):=fun(x0,x1,x2,x3,x4,x5,x6,x7) =>
 (cond (aI x7 (x2).length) ((dm n (x0,x1,x2,x3,x4,x5,x6,x7)).bind fun(r1a,r1b,r1c,r1d,r1e,r1f,r1g,r1h)=>((aj n n (r1a,r1b,r1c,r1d,r1e,r1f,r1g,x7,(x2.getD (x7).toNat ((0:Int),((0:Int),((0:Int),((0:Int),((0:Int),([],(false,(false,(0:Int)))))))))).1,(x2.getD (x7).toNat ((0:Int),((0:Int),((0:Int),((0:Int),((0:Int),([],(false,(false,(0:Int)))))))))).2.1,(x2.getD (x7).toNat ((0:Int),((0:Int),((0:Int),((0:Int),((0:Int),([],(false,(false,(0:Int)))))))))).2.2.1,(x2.getD (x7).toNat ((0:Int),((0:Int),((0:Int),((0:Int),((0:Int),([],(false,(false,(0:Int)))))))))).2.2.2.1,(x2.getD (x7).toNat ((0:Int),((0:Int),((0:Int),((0:Int),((0:Int),([],(false,(false,(0:Int)))))))))).2.2.2.2.1,(x2.getD (x7).toNat ((0:Int),((0:Int),((0:Int),((0:Int),((0:Int),([],(false,(false,(0:Int)))))))))).2.2.2.2.2.1,(x2.getD (x7).toNat ((0:Int),((0:Int),((0:Int),((0:Int),((0:Int),([],(false,(false,(0:Int)))))))))).2.2.2.2.2.2.1,(x2.getD (x7).toNat ((0:Int),((0:Int),((0:Int),((0:Int),((0:Int),([],(false,(false,(0:Int)))))))))).2.2.2.2.2.2.2.1,(x2.getD (x7).toNat ((0:Int),((0:Int),((0:Int),((0:Int),((0:Int),([],(false,(false,(0:Int)))))))))).2.2.2.2.2.2.2.2,r1h,[],r1c,((r1c).length:Int),(0:Int))).bind fun(e4a,e4b,e4c,e4d,e4e,e4f,e4g,e4h)=>(some (e4a,e4b,e4c,e4d,e4e,e4f,e4g,e4h)))) none)
def S60 (n:Nat):aa:={ pars:=[.p [.i aJ,ah,fh,jI,ah,ah,fw], .c (jI)],gh:=[],nb:=[],res:=[(false,[ah])],g:=fF n }
def iB (n:Nat):cx:={ ent:=[.box 0 [0] [.i aJ,ah,fh,jI,ah,ah,fw], .val 1 (jI), .box 5 [5,0] [jI,jI,jI,jI,jI,ah,jB,jB,jI], .val 6 (jI), .val 7 (jO), .val 23 (fh), .val 24 (jI), .val 25 (jI)],exs:=[(.exit 0,[.box 0 [0] [.i aJ,ah,fh,jI,ah,ah,fw], .val 7 (jO)])],g:=aj n n }
def G60 (n:Nat):List (Nat×aa):=[(74,S74 n)]
def E60 (n:Nat):aB:={ τ:=τ,N:=86,Γ:=gl (G60 n) [],Λ:=(fun q=>match q with   | 5=>some (iB n)  | _=>none) }
theorem rz (n m:Nat) (x):aj n (m+1) x=cy (E60 n) (ax (ae Tryz.f60) 0) (iB n) (aj n m) x:=by kernel_rfl
theorem aeY (n:Nat) (x):fF n x=am (E60 n) Tryz.f60 (S60 n) x:=by kernel_rfl
def bz (n:Nat):Nat→jN×jL×jW×Int×jL×jL×jC×Int×Int→Option ((Bool)⊕(Unit))
 |0,_=>none
 |m+1,x=>match x with|(x0,x1,x2,x3,x4,x5,x6,x7,x8)=>(cond (decide (x8<x7)) ((cZ n (x0,x1,x2,x3,x4,x5,x6,x8)).bind fun(r2a,r2b,r2c,r2d,r2e,r2f,r2g,r2h)=>(cond r2h ((fF n (r2a,r2b,r2c,r2d,r2e,r2f,r2g,x8)).bind fun(r3a,r3b,r3c,r3d,r3e,r3f,r3g,r3h)=>(cond (((r3h).length:Int) != (1:Int)) (some (Sum.inl false)) (bz n m (r3a,r3b,r3c,r3d,r3e,r3f,r3g,x7,(IntKind.i64.wrap (x8+(1:Int))))))) (bz n m (r2a,r2b,r2c,r2d,r2e,r2f,r2g,x7,(IntKind.i64.wrap (x8+(1:Int))))))) (some (Sum.inr ())))
def gG (n:Nat):jN×jL×jW×Int×jL×jL×jC→Option (Bool):=fun(x0,x1,x2,x3,x4,x5,x6) =>
 ((fL n (x0,x1,x2,x3,x4,x5,x6)).bind fun r1=>(cond (!r1) (some false) ((bz n n (x0,x1,x2,x3,x4,x5,x6,((x2).length:Int),(0:Int))).bind fun e4=>(match e4 with|Sum.inl a5=>(some a5)|Sum.inr b6=>(some true)))))
def S21 (n:Nat):aa:={ pars:=[.g [.i aJ,ah,fh,jI,ah,ah,fw]],gh:=[],nb:=[],res:=[(false,[jB])],g:=gG n }
def kS (n:Nat):cx:={ ent:=[.box 1 [1,0] [.i aJ,ah,fh,jI,ah,ah,fw], .val 9 (jI), .val 10 (jI)],exs:=[(.ret,[.val 2 (jB)]),(.exit 0,[])],g:=bz n n }
def G21 (n:Nat):List (Nat×aa):=[(9,S9 n),(52,ZE n),(60,S60 n)]
def E21 (n:Nat):aB:={ τ:=τ,N:=22,Γ:=gl (G21 n) [],Λ:=(fun q=>match q with   | 4=>some (kS n)  | _=>none) }
theorem uR (n m:Nat) (x):bz n (m+1) x=cy (E21 n) (ax (ae Tryz.f21) 0) (kS n) (bz n m) x:=by kernel_rfl
theorem afr (n:Nat) (x):gG n x=am (E21 n) Tryz.f21 (S21 n) x:=by kernel_rfl
def bg (n:Nat):Nat→jN×jL×jW×Int×jL×jL×jC×Int×Int×Int×Int×Int×Int×jL×Bool×Bool×Int×jW×Int×Int×jW×Int×Int→Option ((Bool)⊕(jN×jL×jW×Int×jL×jL×jC×jW×Int×Int))
 |0,_=>none
 |m+1,x=>match x with|(x0,x1,x2,x3,x4,x5,x6,x7,x8,x9,x10,x11,x12,x13,x14,x15,x16,x17,x18,x19,x20,x21,x22)=>(cond (decide (x22<x21)) (cond (aI x22 (x20).length) ((cZ n (x0,x1,x2,x3,x4,x5,x6,x7)).bind fun(r2a,r2b,r2c,r2d,r2e,r2f,r2g,r2h)=>(cond r2h ((cZ n (r2a,r2b,r2c,r2d,r2e,r2f,r2g,x22)).bind fun(r3a,r3b,r3c,r3d,r3e,r3f,r3g,r3h)=>(cond r3h (cond (x8==(x20.getD (x22).toNat ((0:Int),((0:Int),((0:Int),((0:Int),((0:Int),([],(false,(false,(0:Int)))))))))).1) (cond (x9==(x20.getD (x22).toNat ((0:Int),((0:Int),((0:Int),((0:Int),((0:Int),([],(false,(false,(0:Int)))))))))).2.1) (cond (x16==(x20.getD (x22).toNat ((0:Int),((0:Int),((0:Int),((0:Int),((0:Int),([],(false,(false,(0:Int)))))))))).2.2.2.2.2.2.2.2) (some (Sum.inl false)) (bg n m (r3a,r3b,r3c,r3d,r3e,r3f,r3g,x7,x8,x9,x10,x11,x12,x13,x14,x15,x16,x17,x18,x19,x20,x21,(IntKind.i64.wrap (x22+(1:Int)))))) (bg n m (r3a,r3b,r3c,r3d,r3e,r3f,r3g,x7,x8,x9,x10,x11,x12,x13,x14,x15,x16,x17,x18,x19,x20,x21,(IntKind.i64.wrap (x22+(1:Int)))))) (bg n m (r3a,r3b,r3c,r3d,r3e,r3f,r3g,x7,x8,x9,x10,x11,x12,x13,x14,x15,x16,x17,x18,x19,x20,x21,(IntKind.i64.wrap (x22+(1:Int)))))) (bg n m (r3a,r3b,r3c,r3d,r3e,r3f,r3g,x7,x8,x9,x10,x11,x12,x13,x14,x15,x16,x17,x18,x19,x20,x21,(IntKind.i64.wrap (x22+(1:Int))))))) (bg n m (r2a,r2b,r2c,r2d,r2e,r2f,r2g,x7,x8,x9,x10,x11,x12,x13,x14,x15,x16,x17,x18,x19,x20,x21,(IntKind.i64.wrap (x22+(1:Int))))))) none) (some (Sum.inr (x0,x1,x2,x3,x4,x5,x6,x17,x18,x19))))
def bK (n:Nat):Nat→jN×jL×jW×Int×jL×jL×jC×jW×Int×Int→Option ((Bool)⊕(Unit))
 |0,_=>none
 |m+1,x=>match x with|(x0,x1,x2,x3,x4,x5,x6,x7,x8,x9)=>(cond (decide (x9<x8)) (cond (aI x9 (x7).length) (cond (CW 0 x9 (x2).length) ((bg n n (x0,x1,x2,x3,x4,x5,x6,x9,(x7.getD (x9).toNat ((0:Int),((0:Int),((0:Int),((0:Int),((0:Int),([],(false,(false,(0:Int)))))))))).1,(x7.getD (x9).toNat ((0:Int),((0:Int),((0:Int),((0:Int),((0:Int),([],(false,(false,(0:Int)))))))))).2.1,(x7.getD (x9).toNat ((0:Int),((0:Int),((0:Int),((0:Int),((0:Int),([],(false,(false,(0:Int)))))))))).2.2.1,(x7.getD (x9).toNat ((0:Int),((0:Int),((0:Int),((0:Int),((0:Int),([],(false,(false,(0:Int)))))))))).2.2.2.1,(x7.getD (x9).toNat ((0:Int),((0:Int),((0:Int),((0:Int),((0:Int),([],(false,(false,(0:Int)))))))))).2.2.2.2.1,(x7.getD (x9).toNat ((0:Int),((0:Int),((0:Int),((0:Int),((0:Int),([],(false,(false,(0:Int)))))))))).2.2.2.2.2.1,(x7.getD (x9).toNat ((0:Int),((0:Int),((0:Int),((0:Int),((0:Int),([],(false,(false,(0:Int)))))))))).2.2.2.2.2.2.1,(x7.getD (x9).toNat ((0:Int),((0:Int),((0:Int),((0:Int),((0:Int),([],(false,(false,(0:Int)))))))))).2.2.2.2.2.2.2.1,(x7.getD (x9).toNat ((0:Int),((0:Int),((0:Int),((0:Int),((0:Int),([],(false,(false,(0:Int)))))))))).2.2.2.2.2.2.2.2,x7,x8,x9,(sl x2 0 x9),(((sl x2 0 x9)).length:Int),(0:Int))).bind fun e4=>(match e4 with|Sum.inl a5=>(some (Sum.inl a5))|Sum.inr (b6a,b6b,b6c,b6d,b6e,b6f,b6g,b6h,b6i,b6j)=>(bK n m (b6a,b6b,b6c,b6d,b6e,b6f,b6g,b6h,b6i,(IntKind.i64.wrap (b6j+(1:Int))))))) none) none) (some (Sum.inr ())))
def iz (n:Nat):jN×jL×jW×Int×jL×jL×jC→Option (Bool):=fun(x0,x1,x2,x3,x4,x5,x6) =>
 ((fL n (x0,x1,x2,x3,x4,x5,x6)).bind fun r1=>(cond (!r1) (some false) ((bK n n (x0,x1,x2,x3,x4,x5,x6,x2,((x2).length:Int),(0:Int))).bind fun e7=>(match e7 with|Sum.inl a8=>(some a8)|Sum.inr b9=>(some true)))))
def S22 (n:Nat):aa:={ pars:=[.g [.i aJ,ah,fh,jI,ah,ah,fw]],gh:=[],nb:=[],res:=[(false,[jB])],g:=iz n }
def lE (n:Nat):cx:={ ent:=[.box 1 [1,0] [.i aJ,ah,fh,jI,ah,ah,fw], .val 3 (jI), .box 4 [4,0] [jI,jI,jI,jI,jI,ah,jB,jB,jI], .val 11 (fh), .val 12 (jI), .val 13 (jI), .val 21 (fh), .val 22 (jI), .val 23 (jI)],exs:=[(.ret,[.val 2 (jB)]),(.exit 2,[.box 1 [1,0] [.i aJ,ah,fh,jI,ah,ah,fw], .val 11 (fh), .val 12 (jI), .val 13 (jI)])],g:=bg n n }
def lF (n:Nat):cx:={ ent:=[.box 1 [1,0] [.i aJ,ah,fh,jI,ah,ah,fw], .val 11 (fh), .val 12 (jI), .val 13 (jI)],exs:=[(.ret,[.val 2 (jB)]),(.exit 0,[])],g:=bK n n }
def G22 (n:Nat):List (Nat×aa):=[(9,S9 n),(52,ZE n)]
def E22 (n:Nat):aB:={ τ:=τ,N:=57,Γ:=gl (G22 n) [],Λ:=(fun q=>match q with   | 7=>some (lE n)   | 4=>some (lF n)  | _=>none) }
theorem vR (n m:Nat) (x):bg n (m+1) x=cy (E22 n) (ax (ae Tryz.f22) 1) (lE n) (bg n m) x:=by kernel_rfl
theorem vS (n m:Nat) (x):bK n (m+1) x=cy (E22 n) (ax (ae Tryz.f22) 0) (lF n) (bK n m) x:=by kernel_rfl
theorem afq (n:Nat) (x):iz n x=am (E22 n) Tryz.f22 (S22 n) x:=by kernel_rfl
def eP (n:Nat) (x:jN×(List Bool)×jL×Int):Option (Bool) :=
 ((cV n (x.1,(7:Int),x.2.2.2,(0:Int))).bind fun r1=>(cond (decide (r1≥(0:Int))) (cond (aI x.2.2.2 (x.2.1).length) (cond (x.2.1.getD (x.2.2.2).toNat false) (some true) ((cP n (x.2.2.1,r1)).bind fun r2=>(some r2))) none) (some false)))
def Vu (n:Nat):aa:={ pars:=[.g [.i aJ], .c (.i (.sl .bool)), .c (ah), .c (jI)],gh:=[],nb:=[],res:=[(false,[jB])],g:=eP n }
def abo (n:Nat):List (Nat×aa):=[(117,NC n),(49,PK n)]
def acF (n:Nat):aB:={ τ:=τ,N:=27,Γ:=gl (abo n) [],Λ:=dL }
theorem Y8 (n:Nat) (x):eP n x=am (acF n) Tryz.f125 (Vu n) x:=by kernel_rfl
def og (n:Nat) (x:jN×(List Bool)×Int×jL):Option (Bool) :=
 (cond (aI x.2.2.1 (x.1).length) (cond ((x.1.getD (x.2.2.1).toNat ((0:Int),((0:Int),(0:Int)))).1==(1:Int)) ((fT n (x.1.getD (x.2.2.1).toNat ((0:Int),((0:Int),(0:Int)))).2.1).bind fun r1=>(some r1)) ((gH n (x.1.getD (x.2.2.1).toNat ((0:Int),((0:Int),(0:Int)))).1).bind fun r2=>(cond (r2==(1:Int)) (cond (aI (x.1.getD (x.2.2.1).toNat ((0:Int),((0:Int),(0:Int)))).2.1 (x.2.1).length) (some (x.2.1.getD ((x.1.getD (x.2.2.1).toNat ((0:Int),((0:Int),(0:Int)))).2.1).toNat false)) none) (cond (aI (x.1.getD (x.2.2.1).toNat ((0:Int),((0:Int),(0:Int)))).2.1 (x.2.1).length) (cond (x.2.1.getD ((x.1.getD (x.2.2.1).toNat ((0:Int),((0:Int),(0:Int)))).2.1).toNat false) (cond (aI (x.1.getD (x.2.2.1).toNat ((0:Int),((0:Int),(0:Int)))).2.2 (x.2.1).length) (cond (x.2.1.getD ((x.1.getD (x.2.2.1).toNat ((0:Int),((0:Int),(0:Int)))).2.2).toNat false) (some true) (cond ((x.1.getD (x.2.2.1).toNat ((0:Int),((0:Int),(0:Int)))).1==(8:Int)) (cond (aI (x.1.getD (x.2.2.1).toNat ((0:Int),((0:Int),(0:Int)))).2.1 (x.2.1).length) (cond (x.2.1.getD ((x.1.getD (x.2.2.1).toNat ((0:Int),((0:Int),(0:Int)))).2.1).toNat false) ((eP n (x.1,x.2.1,x.2.2.2,(x.1.getD (x.2.2.1).toNat ((0:Int),((0:Int),(0:Int)))).2.2)).bind fun r3=>(cond r3 (some true) (cond (aI (x.1.getD (x.2.2.1).toNat ((0:Int),((0:Int),(0:Int)))).2.2 (x.2.1).length) (cond (x.2.1.getD ((x.1.getD (x.2.2.1).toNat ((0:Int),((0:Int),(0:Int)))).2.2).toNat false) ((eP n (x.1,x.2.1,x.2.2.2,(x.1.getD (x.2.2.1).toNat ((0:Int),((0:Int),(0:Int)))).2.1)).bind fun r4=>(some r4)) (some false)) none))) (cond (aI (x.1.getD (x.2.2.1).toNat ((0:Int),((0:Int),(0:Int)))).2.2 (x.2.1).length) (cond (x.2.1.getD ((x.1.getD (x.2.2.1).toNat ((0:Int),((0:Int),(0:Int)))).2.2).toNat false) ((eP n (x.1,x.2.1,x.2.2.2,(x.1.getD (x.2.2.1).toNat ((0:Int),((0:Int),(0:Int)))).2.1)).bind fun r5=>(some r5)) (some false)) none)) none) (some false))) none) (cond ((x.1.getD (x.2.2.1).toNat ((0:Int),((0:Int),(0:Int)))).1==(8:Int)) (cond (aI (x.1.getD (x.2.2.1).toNat ((0:Int),((0:Int),(0:Int)))).2.1 (x.2.1).length) (cond (x.2.1.getD ((x.1.getD (x.2.2.1).toNat ((0:Int),((0:Int),(0:Int)))).2.1).toNat false) ((eP n (x.1,x.2.1,x.2.2.2,(x.1.getD (x.2.2.1).toNat ((0:Int),((0:Int),(0:Int)))).2.2)).bind fun r6=>(cond r6 (some true) (cond (aI (x.1.getD (x.2.2.1).toNat ((0:Int),((0:Int),(0:Int)))).2.2 (x.2.1).length) (cond (x.2.1.getD ((x.1.getD (x.2.2.1).toNat ((0:Int),((0:Int),(0:Int)))).2.2).toNat false) ((eP n (x.1,x.2.1,x.2.2.2,(x.1.getD (x.2.2.1).toNat ((0:Int),((0:Int),(0:Int)))).2.1)).bind fun r7=>(some r7)) (some false)) none))) (cond (aI (x.1.getD (x.2.2.1).toNat ((0:Int),((0:Int),(0:Int)))).2.2 (x.2.1).length) (cond (x.2.1.getD ((x.1.getD (x.2.2.1).toNat ((0:Int),((0:Int),(0:Int)))).2.2).toNat false) ((eP n (x.1,x.2.1,x.2.2.2,(x.1.getD (x.2.2.1).toNat ((0:Int),((0:Int),(0:Int)))).2.1)).bind fun r8=>(some r8)) (some false)) none)) none) (some false))) none)))) none)
def S95 (n:Nat):aa:={ pars:=[.g [.i aJ], .c (.i (.sl .bool)), .c (jI), .c (ah)],gh:=[],nb:=[],res:=[(false,[jB])],g:=og n }
def G95 (n:Nat):List (Nat×aa):=[(123,RK n),(124,PR n),(125,Vu n)]
def E95 (n:Nat):aB:={ τ:=τ,N:=77,Γ:=gl (G95 n) [],Λ:=dL }
theorem aer (n:Nat) (x):og n x=am (E95 n) Tryz.f95 (S95 n) x:=by kernel_rfl
def du (n:Nat):Nat→jL×jN×(List Bool)×Int→Option ((List Bool))
 |0,_=>none
 |m+1,x=>(cond (decide (x.2.2.2<((x.2.1).length:Int))) ((cP n (x.1,x.2.2.2)).bind fun r1=>(cond r1 (cond (aO ((x.2.2.1).length+([true]).length)) (du n m (x.1,x.2.1,(x.2.2.1++[true]),(IntKind.i64.wrap (x.2.2.2+(1:Int))))) none) ((og n (x.2.1,x.2.2.1,x.2.2.2,x.1)).bind fun r2=>(cond (aO ((x.2.2.1).length+([r2]).length)) (du n m (x.1,x.2.1,(x.2.2.1++[r2]),(IntKind.i64.wrap (x.2.2.2+(1:Int))))) none)))) (some x.2.2.1))
def lm (n:Nat) (x:jN×jL):Option ((List Bool)) :=
 ((du n n (x.2,x.1,([]:List Bool),(0:Int))).bind fun e3=>(some e3))
def S62 (n:Nat):aa:={ pars:=[.g [.i aJ], .c (ah)],gh:=[],nb:=[],res:=[(false,[.i (.sl .bool)])],g:=lm n }
def qo (n:Nat):cx:={ ent:=[.val 1 (ah), .box 2 [2,0] [.i aJ], .val 5 (.o 4 .bool), .val 6 (jI)],exs:=[(.exit 0,[.val 5 (.o 4 .bool)])],g:=du n n }
def G62 (n:Nat):List (Nat×aa):=[(49,PK n),(95,S95 n)]
def E62 (n:Nat):aB:={ τ:=τ,N:=29,Γ:=gl (G62 n) [],Λ:=(fun q=>match q with   | 3=>some (qo n)  | _=>none) }
theorem AX (n m:Nat) (x):du n (m+1) x=cy (E62 n) (ax (ae Tryz.f62) 0) (qo n) (du n m) x:=by kernel_rfl
theorem aeW (n:Nat) (x):lm n x=am (E62 n) Tryz.f62 (S62 n) x:=by kernel_rfl
def pW (n:Nat) (x:jL×jN×(List Bool)×jL×Int):Option (jL×jN×(List Bool)×jL×Int×Int×Int×Int) :=
 (cond (aI x.2.2.2.2 (x.1).length) (cond (aI (x.1.getD (x.2.2.2.2).toNat (0:Int)) (x.2.1).length) (some (x.1,x.2.1,x.2.2.1,x.2.2.2.1,x.2.2.2.2,(x.2.1.getD ((x.1.getD (x.2.2.2.2).toNat (0:Int))).toNat ((0:Int),((0:Int),(0:Int)))).1,(x.2.1.getD ((x.1.getD (x.2.2.2.2).toNat (0:Int))).toNat ((0:Int),((0:Int),(0:Int)))).2.1,(x.2.1.getD ((x.1.getD (x.2.2.2.2).toNat (0:Int))).toNat ((0:Int),((0:Int),(0:Int)))).2.2)) none) none)
def bL (n:Nat):Nat→jL×jN×(List Bool)×jL×Int→Option (jL)
 |0,_=>none
 |m+1,x=>(cond (decide (x.2.2.2.2<((x.1).length:Int))) ((pW n (x.1,x.2.1,x.2.2.1,x.2.2.2.1,x.2.2.2.2)).bind fun(g2a,g2b,g2c,g2d,g2e,g2f,g2g,g2h)=>(cond (g2f==(2:Int)) ((dF n (g2d,g2g)).bind fun r3=>((dF n (r3,g2h)).bind fun r4=>(bL n m (g2a,g2b,g2c,r4,(IntKind.i64.wrap (g2e+(1:Int))))))) (cond (g2f==(4:Int)) ((dF n (g2d,g2g)).bind fun r5=>(bL n m (g2a,g2b,g2c,r5,(IntKind.i64.wrap (g2e+(1:Int)))))) (cond (g2f==(3:Int)) (cond (aI g2h (g2c).length) (cond (g2c.getD (g2h).toNat false) ((dF n (g2d,g2g)).bind fun r6=>(bL n m (g2a,g2b,g2c,r6,(IntKind.i64.wrap (g2e+(1:Int)))))) (bL n m (g2a,g2b,g2c,g2d,(IntKind.i64.wrap (g2e+(1:Int)))))) none) (bL n m (g2a,g2b,g2c,g2d,(IntKind.i64.wrap (g2e+(1:Int))))))))) (some x.2.2.2.1))
def od (n:Nat) (x:jN×jL):Option (jL×Bool) :=
 ((lm n (x.1,x.2)).bind fun r1=>(cond (aO ((([]:List Int)).length+(x.2).length)) ((bL n n (x.2,x.1,r1,(([]:List Int)++x.2),(0:Int))).bind fun e7=>(some (e7,(decide (((e7).length:Int)≤(200:Int)))))) none))
def S94 (n:Nat):aa:={ pars:=[.g [.i aJ], .c (ah)],gh:=[],nb:=[],res:=[(false,[ah]),(false,[jB])],g:=od n }
def oZ (n:Nat):cx:={ ent:=[.val 1 (ah), .box 2 [2,0] [.i aJ], .val 6 (.i (.sl .bool)), .val 7 (ah), .val 8 (jI)],exs:=[(.exit 0,[.val 7 (ah)])],g:=bL n n }
def G94 (n:Nat):List (Nat×aa):=[(62,S62 n),(91,SM n)]
def tG (n:Nat):bT:={ ent:=[.val 1 (ah), .box 2 [2,0] [.i aJ], .val 6 (.i (.sl .bool)), .val 7 (ah), .val 8 (jI)],out:=[.val 1 (ah), .box 2 [2,0] [.i aJ], .val 6 (.i (.sl .bool)), .val 7 (ah), .val 8 (jI), .box 9 [9,0] [jI,jI,jI]],g:=pW n }
def Q94 (n:Nat):List (Nat×bT):=[(6,tG n)]
def E94 (n:Nat):aB:={ τ:=τ,N:=65,Γ:=gl (G94 n) [],Λ:=(fun q=>match q with   | 4=>some (oZ n)  | _=>none),Ω:=tO (Q94 n) }
theorem zt (n:Nat):yJ true (E94 n) (ae Tryz.f94) 6 [8,0,1,2,3,4,5,6,7,9] (tG n):=fun x=>by kernel_rfl
theorem zF (n m:Nat) (x):bL n (m+1) x=cy (E94 n) (ax (ae Tryz.f94) 0) (oZ n) (bL n m) x:=by kernel_rfl
theorem aes (n:Nat) (x):od n x=am (E94 n) Tryz.f94 (S94 n) x:=by kernel_rfl
def fO (n:Nat):Nat→jN×jL×Int→Option (jL×Int)
 |0,_=>none
 |m+1,x=>((od n (x.1,x.2.1)).bind fun r1=>(cond (!r1.2) (some (x.2.1,x.2.2)) (cond (((r1.1).length:Int)==((x.2.1).length:Int)) (some (x.2.1,x.2.2)) (fO n m (x.1,r1.1,(IntKind.i64.wrap (x.2.2+(1:Int))))))))
def pX (n:Nat) (x:jN×jL):Option (jL×Int) :=
 (cond (aO ((([]:List Int)).length+(x.2).length)) ((fO n n (x.1,(([]:List Int)++x.2),(0:Int))).bind fun e2=>(some (e2.1,e2.2))) none)
def S61 (n:Nat):aa:={ pars:=[.g [.i aJ], .c (ah)],gh:=[],nb:=[],res:=[(false,[ah]),(false,[jI])],g:=pX n }
def qn (n:Nat):cx:={ ent:=[.box 2 [2,0] [.i aJ], .val 6 (ah), .val 7 (jI)],exs:=[(.ret,[.val 4 (ah), .val 5 (jI)])],g:=fO n n }
def G61 (n:Nat):List (Nat×aa):=[(94,S94 n)]
def E61 (n:Nat):aB:={ τ:=τ,N:=33,Γ:=gl (G61 n) [],Λ:=(fun q=>match q with   | 3=>some (qn n)  | _=>none) }
theorem AW (n m:Nat) (x):fO n (m+1) x=cy (E61 n) (ax (ae Tryz.f61) 0) (qn n) (fO n m) x:=by kernel_rfl
theorem aeX (n:Nat) (x):pX n x=am (E61 n) Tryz.f61 (S61 n) x:=by kernel_rfl
def cI (n:Nat):Nat→Int×jN×jL×jW×Int×jL×jL×jC×Int×Bool×Bool×Int→Option ((Int×Bool×Bool×Bool)⊕(Int×Bool×Bool))
 |0,_=>none
 |m+1,x=>match x with|(x0,x1,x2,x3,x4,x5,x6,x7,x8,x9,x10,x11)=>(cond (decide (x11<((x7).length:Int))) (cond (aI x11 (x7).length) (cond ((x7.getD (x11).toNat ((0:Int),(false,false))).1==x0) (cond (aI x11 (x7).length) (some (Sum.inl ((x7.getD (x11).toNat ((0:Int),(false,false))).1,(x7.getD (x11).toNat ((0:Int),(false,false))).2.1,(x7.getD (x11).toNat ((0:Int),(false,false))).2.2,true))) none) (cI n m (x0,x1,x2,x3,x4,x5,x6,x7,x8,x9,x10,(IntKind.i64.wrap (x11+(1:Int)))))) none) (some (Sum.inr (x8,x9,x10))))
def kW (n:Nat):jN×jL×jW×Int×jL×jL×jC×Int→Option (Int×Bool×Bool×Bool):=fun(x0,x1,x2,x3,x4,x5,x6,x7) =>
 ((cI n n (x7,x0,x1,x2,x3,x4,x5,x6,(0:Int),false,false,(0:Int))).bind fun e1=>(match e1 with|Sum.inl a2=>(some (a2.1,a2.2.1,a2.2.2.1,a2.2.2.2))|Sum.inr b3=>(some ((0:Int),false,false,false))))
def S51 (n:Nat):aa:={ pars:=[.g [.i aJ,ah,fh,jI,ah,ah,fw], .c (jI)],gh:=[],nb:=[],res:=[(true,[jI,jB,jB]),(false,[jB])],g:=kW n }
def mH (n:Nat):cx:={ ent:=[.val 1 (jI), .box 2 [2,0] [.i aJ,ah,fh,jI,ah,ah,fw], .box 4 [4,0] [jI,jB,jB], .val 6 (jI)],exs:=[(.ret,[.box 4 [4,0] [jI,jB,jB], .val 5 (jB)]),(.exit 0,[.box 4 [4,0] [jI,jB,jB]])],g:=cI n n }
def G51 (n:Nat):List (Nat×aa):=[]
def E51 (n:Nat):aB:={ τ:=τ,N:=28,Γ:=gl (G51 n) [],Λ:=(fun q=>match q with   | 2=>some (mH n)  | _=>none) }
theorem wV (n m:Nat) (x):cI n (m+1) x=cy (E51 n) (ax (ae Tryz.f51) 0) (mH n) (cI n m) x:=by kernel_rfl
theorem ae7 (n:Nat) (x):kW n x=am (E51 n) Tryz.f51 (S51 n) x:=by kernel_rfl
def d8 (n:Nat):jN×jL×jW×Int×jL×jL×jC×Int→Option (Bool):=fun(x0,x1,x2,x3,x4,x5,x6,x7) =>
 ((kW n (x0,x1,x2,x3,x4,x5,x6,x7)).bind fun r1=>(cond r1.2.2.2 (cond (!r1.2.1) (cond (aI x7 (x2).length) (cond ((x2.getD (x7).toNat ((0:Int),((0:Int),((0:Int),((0:Int),((0:Int),([],(false,(false,(0:Int)))))))))).1 != (2:Int)) (some true) (some (!r1.2.2.1))) none) (some false)) (some false)))
def ZD (n:Nat):aa:={ pars:=[.g [.i aJ,ah,fh,jI,ah,ah,fw], .c (jI)],gh:=[],nb:=[],res:=[(false,[jB])],g:=d8 n }
def G55 (n:Nat):List (Nat×aa):=[(51,S51 n)]
def E55 (n:Nat):aB:={ τ:=τ,N:=33,Γ:=gl (G55 n) [],Λ:=dL }
theorem ae3 (n:Nat) (x):d8 n x=am (E55 n) Tryz.f55 (ZD n) x:=by kernel_rfl
def co (n:Nat):Nat→Int×jN×jL×jW×Int×jL×jL×jC×Int→Option ((Bool)⊕(Unit))
 |0,_=>none
 |m+1,x=>match x with|(x0,x1,x2,x3,x4,x5,x6,x7,x8)=>(cond (decide (x8<((x6).length:Int))) (cond (aI x8 (x6).length) (cond (aI (x6.getD (x8).toNat (0:Int)) (x3).length) (cond (aI x0 (x3).length) (cond ((x3.getD ((x6.getD (x8).toNat (0:Int))).toNat ((0:Int),((0:Int),((0:Int),((0:Int),((0:Int),([],(false,(false,(0:Int)))))))))).2.2.2.2.2.2.2.2==(x3.getD (x0).toNat ((0:Int),((0:Int),((0:Int),((0:Int),((0:Int),([],(false,(false,(0:Int)))))))))).2.2.2.2.2.2.2.2) (some (Sum.inl true)) (co n m (x0,x1,x2,x3,x4,x5,x6,x7,(IntKind.i64.wrap (x8+(1:Int)))))) none) none) none) (some (Sum.inr ())))
def kV (n:Nat):jN×jL×jW×Int×jL×jL×jC×Int→Option (Bool):=fun(x0,x1,x2,x3,x4,x5,x6,x7) =>
 ((bO n (x7,(0:Int),(IntKind.i64.wrap (((x2).length:Int)-(1:Int))))).bind fun r1=>(cond (!r1) (some false) (cond (aI x7 (x2).length) (cond (!(x2.getD (x7).toNat ((0:Int),((0:Int),((0:Int),((0:Int),((0:Int),([],(false,(false,(0:Int)))))))))).2.2.2.2.2.2.1) (some false) ((co n n (x7,x0,x1,x2,x3,x4,x5,x6,(0:Int))).bind fun e2=>(match e2 with|Sum.inl a3=>(some a3)|Sum.inr b4=>(some false)))) none)))
def S57 (n:Nat):aa:={ pars:=[.g [.i aJ,ah,fh,jI,ah,ah,fw], .c (jI)],gh:=[],nb:=[],res:=[(false,[jB])],g:=kV n }
def mG (n:Nat):cx:={ ent:=[.val 1 (jI), .box 2 [2,0] [.i aJ,ah,fh,jI,ah,ah,fw], .val 5 (jI)],exs:=[(.ret,[.val 4 (jB)]),(.exit 0,[])],g:=co n n }
def G57 (n:Nat):List (Nat×aa):=[(46,Kr n)]
def E57 (n:Nat):aB:={ τ:=τ,N:=46,Γ:=gl (G57 n) [],Λ:=(fun q=>match q with   | 4=>some (mG n)  | _=>none) }
theorem wU (n m:Nat) (x):co n (m+1) x=cy (E57 n) (ax (ae Tryz.f57) 0) (mG n) (co n m) x:=by kernel_rfl
theorem ae1 (n:Nat) (x):kV n x=am (E57 n) Tryz.f57 (S57 n) x:=by kernel_rfl
def jG (n:Nat):jN×jL×jW×Int×jL×jL×jC×Int→Option (Bool):=fun(x0,x1,x2,x3,x4,x5,x6,x7) =>
 ((d8 n (x0,x1,x2,x3,x4,x5,x6,x7)).bind fun r1=>(cond (!r1) (some false) ((kV n (x0,x1,x2,x3,x4,x5,x6,x7)).bind fun r2=>(cond r2 (some false) (cond (aI x7 (x2).length) (cond ((x2.getD (x7).toNat ((0:Int),((0:Int),((0:Int),((0:Int),((0:Int),([],(false,(false,(0:Int)))))))))).1==(1:Int)) (some true) ((cP n (x4,(x2.getD (x7).toNat ((0:Int),((0:Int),((0:Int),((0:Int),((0:Int),([],(false,(false,(0:Int)))))))))).2.2.1)).bind fun r3=>(cond (!r3) ((cP n (x4,(x2.getD (x7).toNat ((0:Int),((0:Int),((0:Int),((0:Int),((0:Int),([],(false,(false,(0:Int)))))))))).2.2.2.1)).bind fun r4=>(some (!r4))) (some false)))) none)))))
def S56 (n:Nat):aa:={ pars:=[.g [.i aJ,ah,fh,jI,ah,ah,fw], .c (jI)],gh:=[],nb:=[],res:=[(false,[jB])],g:=jG n }
def G56 (n:Nat):List (Nat×aa):=[(55,ZD n),(57,S57 n),(49,PK n)]
def E56 (n:Nat):aB:={ τ:=τ,N:=39,Γ:=gl (G56 n) [],Λ:=dL }
theorem ae2 (n:Nat) (x):jG n x=am (E56 n) Tryz.f56 (S56 n) x:=by kernel_rfl
def bA (n:Nat):Nat→jN×jL×jW×Int×jL×jL×jC×(List Bool)×Int→Option ((Bool)⊕(Unit))
 |0,_=>none
 |m+1,x=>match x with|(x0,x1,x2,x3,x4,x5,x6,x7,x8)=>(cond (decide (x8<((x2).length:Int))) ((jG n (x0,x1,x2,x3,x4,x5,x6,x8)).bind fun r4=>(cond r4 (cond (aI x8 (x2).length) (cond (aI (x2.getD (x8).toNat ((0:Int),((0:Int),((0:Int),((0:Int),((0:Int),([],(false,(false,(0:Int)))))))))).2.2.2.2.2.2.2.2 (x7).length) (cond (x7.getD ((x2.getD (x8).toNat ((0:Int),((0:Int),((0:Int),((0:Int),((0:Int),([],(false,(false,(0:Int)))))))))).2.2.2.2.2.2.2.2).toNat false) (some (Sum.inl false)) (bA n m (x0,x1,x2,x3,x4,x5,x6,x7,(IntKind.i64.wrap (x8+(1:Int)))))) none) none) (bA n m (x0,x1,x2,x3,x4,x5,x6,x7,(IntKind.i64.wrap (x8+(1:Int))))))) (some (Sum.inr ())))
def iq (n:Nat):jN×jL×jW×Int×jL×jL×jC→Option (Bool):=fun(x0,x1,x2,x3,x4,x5,x6) =>
 ((cC n (x0,x1,x2,x3,x4,x5,x6)).bind fun r1=>(cond (!r1) (some false) ((pX n (x0,x1)).bind fun r2=>((lm n (x0,r2.1)).bind fun r3=>((bA n n (x0,x1,x2,x3,x4,x5,x6,r3,(0:Int))).bind fun e5=>(match e5 with|Sum.inl a6=>(some a6)|Sum.inr b7=>(some true)))))))
def S23 (n:Nat):aa:={ pars:=[.g [.i aJ,ah,fh,jI,ah,ah,fw]],gh:=[],nb:=[],res:=[(false,[jB])],g:=iq n }
def j5 (n:Nat):cx:={ ent:=[.box 1 [1,0] [.i aJ,ah,fh,jI,ah,ah,fw], .val 5 (.i (.sl .bool)), .val 6 (jI)],exs:=[(.ret,[.val 2 (jB)]),(.exit 0,[])],g:=bA n n }
def G23 (n:Nat):List (Nat×aa):=[(10,RV n),(61,S61 n),(62,S62 n),(56,S56 n)]
def E23 (n:Nat):aB:={ τ:=τ,N:=43,Γ:=gl (G23 n) [],Λ:=(fun q=>match q with   | 6=>some (j5 n)  | _=>none) }
theorem tY (n m:Nat) (x):bA n (m+1) x=cy (E23 n) (ax (ae Tryz.f23) 0) (j5 n) (bA n m) x:=by kernel_rfl
theorem afp (n:Nat) (x):iq n x=am (E23 n) Tryz.f23 (S23 n) x:=by kernel_rfl
def eW (n:Nat):jN×jL×jW×Int×jL×jL×jC×Int→Option (Int):=fun(x0,_,x2,_,_,_,_,x7) =>
 ((bO n (x7,(0:Int),(IntKind.i64.wrap (((x2).length:Int)-(1:Int))))).bind fun r1=>(cond (!r1) (some (-1:Int)) (cond (aI x7 (x2).length) (cond (x2.getD (x7).toNat ((0:Int),((0:Int),((0:Int),((0:Int),((0:Int),([],(false,(false,(0:Int)))))))))).2.2.2.2.2.2.1 (some (x2.getD (x7).toNat ((0:Int),((0:Int),((0:Int),((0:Int),((0:Int),([],(false,(false,(0:Int)))))))))).2.2.2.2.2.2.2.2) ((di n ((x2.getD (x7).toNat ((0:Int),((0:Int),((0:Int),((0:Int),((0:Int),([],(false,(false,(0:Int)))))))))).1,(x2.getD (x7).toNat ((0:Int),((0:Int),((0:Int),((0:Int),((0:Int),([],(false,(false,(0:Int)))))))))).2.1)).bind fun r2=>(cond (aI (IntKind.i64.wrap (((r2).length:Int)-(1:Int))) (r2).length) ((eT n (r2.getD ((IntKind.i64.wrap (((r2).length:Int)-(1:Int)))).toNat ((0:Int),(⟨#[]⟩:ByteArray))).2).bind fun r3=>((cB n n (x0,(x2.getD (x7).toNat ((0:Int),((0:Int),((0:Int),((0:Int),((0:Int),([],(false,(false,(0:Int)))))))))).2.2.2.2.2.1,r3.1,(IntKind.i64.wrap (((r3.1).length:Int)-(1:Int))))).bind fun r4=>(cond (decide (r4.2<((x0).length:Int))) (some r4.2) (some (-1:Int))))) none))) none)))
def S75 (n:Nat):aa:={ pars:=[.g [.i aJ,ah,fh,jI,ah,ah,fw], .c (jI)],gh:=[],nb:=[],res:=[(false,[jI])],g:=eW n }
def G75 (n:Nat):List (Nat×aa):=[(46,Kr n),(86,V7 n),(110,ND n),(111,RN n n)]
def E75 (n:Nat):aB:={ τ:=τ,N:=62,Γ:=gl (G75 n) [],Λ:=dL }
theorem aeL (n:Nat) (x):eW n x=am (E75 n) Tryz.f75 (S75 n) x:=by kernel_rfl
def aE (n:Nat):Nat→jN×jL×jW×Int×jL×jL×jC×jL×Int×Int×Int×Int×Int×Int×jL×Bool×Bool×Int×Int→Option (jL)
 |0,_=>none
 |m+1,x=>match x with|(x0,x1,x2,x3,x4,x5,x6,x7,x8,x9,x10,x11,x12,x13,x14,x15,x16,x17,x18)=>(cond (decide (x18<((x2).length:Int))) (cond (aI x18 (x2).length) (cond ((x2.getD (x18).toNat ((0:Int),((0:Int),((0:Int),((0:Int),((0:Int),([],(false,(false,(0:Int)))))))))).1==x9) (cond ((x2.getD (x18).toNat ((0:Int),((0:Int),((0:Int),((0:Int),((0:Int),([],(false,(false,(0:Int)))))))))).2.1 != x10) (cond ((x2.getD (x18).toNat ((0:Int),((0:Int),((0:Int),((0:Int),((0:Int),([],(false,(false,(0:Int)))))))))).2.2.1==x12) (cond ((x2.getD (x18).toNat ((0:Int),((0:Int),((0:Int),((0:Int),((0:Int),([],(false,(false,(0:Int)))))))))).2.2.2.1==x11) ((eW n (x0,x1,x2,x3,x4,x5,x6,x18)).bind fun r2=>(cond (r2==x8) (cond (x10==(0:Int)) (cond (aO ((x7).length+([x18]).length)) (aE n m (x0,x1,x2,x3,x4,x5,x6,(x7++[x18]),x8,x9,x10,x11,x12,x13,x14,x15,x16,x17,(IntKind.i64.wrap (x18+(1:Int))))) none) (cond (x2.getD (x18).toNat ((0:Int),((0:Int),((0:Int),((0:Int),((0:Int),([],(false,(false,(0:Int)))))))))).2.2.2.2.2.2.1 (cond (aO ((x7).length+([x18]).length)) (aE n m (x0,x1,x2,x3,x4,x5,x6,(x7++[x18]),x8,x9,x10,x11,x12,x13,x14,x15,x16,x17,(IntKind.i64.wrap (x18+(1:Int))))) none) (aE n m (x0,x1,x2,x3,x4,x5,x6,x7,x8,x9,x10,x11,x12,x13,x14,x15,x16,x17,(IntKind.i64.wrap (x18+(1:Int))))))) (aE n m (x0,x1,x2,x3,x4,x5,x6,x7,x8,x9,x10,x11,x12,x13,x14,x15,x16,x17,(IntKind.i64.wrap (x18+(1:Int))))))) (aE n m (x0,x1,x2,x3,x4,x5,x6,x7,x8,x9,x10,x11,x12,x13,x14,x15,x16,x17,(IntKind.i64.wrap (x18+(1:Int)))))) (aE n m (x0,x1,x2,x3,x4,x5,x6,x7,x8,x9,x10,x11,x12,x13,x14,x15,x16,x17,(IntKind.i64.wrap (x18+(1:Int)))))) (aE n m (x0,x1,x2,x3,x4,x5,x6,x7,x8,x9,x10,x11,x12,x13,x14,x15,x16,x17,(IntKind.i64.wrap (x18+(1:Int)))))) (aE n m (x0,x1,x2,x3,x4,x5,x6,x7,x8,x9,x10,x11,x12,x13,x14,x15,x16,x17,(IntKind.i64.wrap (x18+(1:Int)))))) none) (some x7))
def ig (n:Nat):jN×jL×jW×Int×jL×jL×jC×Int→Option (jL):=fun(x0,x1,x2,x3,x4,x5,x6,x7) =>
 ((eW n (x0,x1,x2,x3,x4,x5,x6,x7)).bind fun r1=>(cond (decide (r1<(0:Int))) (some ([]:List Int)) (cond (aI x7 (x2).length) ((aE n n (x0,x1,x2,x3,x4,x5,x6,([]:List Int),r1,(x2.getD (x7).toNat ((0:Int),((0:Int),((0:Int),((0:Int),((0:Int),([],(false,(false,(0:Int)))))))))).1,(x2.getD (x7).toNat ((0:Int),((0:Int),((0:Int),((0:Int),((0:Int),([],(false,(false,(0:Int)))))))))).2.1,(x2.getD (x7).toNat ((0:Int),((0:Int),((0:Int),((0:Int),((0:Int),([],(false,(false,(0:Int)))))))))).2.2.1,(x2.getD (x7).toNat ((0:Int),((0:Int),((0:Int),((0:Int),((0:Int),([],(false,(false,(0:Int)))))))))).2.2.2.1,(x2.getD (x7).toNat ((0:Int),((0:Int),((0:Int),((0:Int),((0:Int),([],(false,(false,(0:Int)))))))))).2.2.2.2.1,(x2.getD (x7).toNat ((0:Int),((0:Int),((0:Int),((0:Int),((0:Int),([],(false,(false,(0:Int)))))))))).2.2.2.2.2.1,(x2.getD (x7).toNat ((0:Int),((0:Int),((0:Int),((0:Int),((0:Int),([],(false,(false,(0:Int)))))))))).2.2.2.2.2.2.1,(x2.getD (x7).toNat ((0:Int),((0:Int),((0:Int),((0:Int),((0:Int),([],(false,(false,(0:Int)))))))))).2.2.2.2.2.2.2.1,(x2.getD (x7).toNat ((0:Int),((0:Int),((0:Int),((0:Int),((0:Int),([],(false,(false,(0:Int)))))))))).2.2.2.2.2.2.2.2,(0:Int))).bind fun e3=>(some e3)) none)))
def S63 (n:Nat):aa:={ pars:=[.g [.i aJ,ah,fh,jI,ah,ah,fw], .c (jI)],gh:=[],nb:=[],res:=[(false,[ah])],g:=ig n }
def j0 (n:Nat):cx:={ ent:=[.box 2 [2,0] [.i aJ,ah,fh,jI,ah,ah,fw], .val 5 (jO), .val 6 (jI), .box 7 [7,0] [jI,jI,jI,jI,jI,ah,jB,jB,jI], .val 8 (jI)],exs:=[(.exit 0,[.val 5 (jO)])],g:=aE n n }
def G63 (n:Nat):List (Nat×aa):=[(75,S75 n)]
def E63 (n:Nat):aB:={ τ:=τ,N:=81,Γ:=gl (G63 n) [],Λ:=(fun q=>match q with   | 7=>some (j0 n)  | _=>none) }
theorem tW (n m:Nat) (x):aE n (m+1) x=cy (E63 n) (ax (ae Tryz.f63) 0) (j0 n) (aE n m) x:=by kernel_rfl
theorem aeV (n:Nat) (x):ig n x=am (E63 n) Tryz.f63 (S63 n) x:=by kernel_rfl
def bx (n:Nat):Nat→jN×jL×jW×Int×jL×jL×jC×Int→Option ((Bool)⊕(Unit))
 |0,_=>none
 |m+1,x=>match x with|(x0,x1,x2,x3,x4,x5,x6,x7)=>(cond (decide (x7<((x2).length:Int))) ((d8 n (x0,x1,x2,x3,x4,x5,x6,x7)).bind fun r2=>(cond r2 ((ig n (x0,x1,x2,x3,x4,x5,x6,x7)).bind fun r3=>(cond (((r3).length:Int) != (1:Int)) (some (Sum.inl false)) (bx n m (x0,x1,x2,x3,x4,x5,x6,(IntKind.i64.wrap (x7+(1:Int))))))) (bx n m (x0,x1,x2,x3,x4,x5,x6,(IntKind.i64.wrap (x7+(1:Int))))))) (some (Sum.inr ())))
def iS (n:Nat):jN×jL×jW×Int×jL×jL×jC→Option (Bool):=fun(x0,x1,x2,x3,x4,x5,x6) =>
 ((cC n (x0,x1,x2,x3,x4,x5,x6)).bind fun r1=>(cond (!r1) (some false) ((bx n n (x0,x1,x2,x3,x4,x5,x6,(0:Int))).bind fun e4=>(match e4 with|Sum.inl a5=>(some a5)|Sum.inr b6=>(some true)))))
def S24 (n:Nat):aa:={ pars:=[.g [.i aJ,ah,fh,jI,ah,ah,fw]],gh:=[],nb:=[],res:=[(false,[jB])],g:=iS n }
def kP (n:Nat):cx:={ ent:=[.box 1 [1,0] [.i aJ,ah,fh,jI,ah,ah,fw], .val 3 (jI)],exs:=[(.ret,[.val 2 (jB)]),(.exit 0,[])],g:=bx n n }
def G24 (n:Nat):List (Nat×aa):=[(10,RV n),(55,ZD n),(63,S63 n)]
def E24 (n:Nat):aB:={ τ:=τ,N:=24,Γ:=gl (G24 n) [],Λ:=(fun q=>match q with   | 4=>some (kP n)  | _=>none) }
theorem uO (n m:Nat) (x):bx n (m+1) x=cy (E24 n) (ax (ae Tryz.f24) 0) (kP n) (bx n m) x:=by kernel_rfl
theorem afo (n:Nat) (x):iS n x=am (E24 n) Tryz.f24 (S24 n) x:=by kernel_rfl
def mg (n:Nat):jN×jL×jW×Int×jL×jL×jC×Int×Int→Option (jN×jL×jW×Int×jL×jL×jC×Int×Int×Int×Int×Int×Int×Int×jL×Bool×Bool×Int×Int×Int×Int×Int×Int×jL×Bool×Bool×Int):=fun(x0,x1,x2,x3,x4,x5,x6,x7,x8) =>
 (cond (aI x7 (x2).length) (cond (aI x8 (x2).length) (some (x0,x1,x2,x3,x4,x5,x6,x7,x8,(x2.getD (x7).toNat ((0:Int),((0:Int),((0:Int),((0:Int),((0:Int),([],(false,(false,(0:Int)))))))))).1,(x2.getD (x7).toNat ((0:Int),((0:Int),((0:Int),((0:Int),((0:Int),([],(false,(false,(0:Int)))))))))).2.1,(x2.getD (x7).toNat ((0:Int),((0:Int),((0:Int),((0:Int),((0:Int),([],(false,(false,(0:Int)))))))))).2.2.1,(x2.getD (x7).toNat ((0:Int),((0:Int),((0:Int),((0:Int),((0:Int),([],(false,(false,(0:Int)))))))))).2.2.2.1,(x2.getD (x7).toNat ((0:Int),((0:Int),((0:Int),((0:Int),((0:Int),([],(false,(false,(0:Int)))))))))).2.2.2.2.1,(x2.getD (x7).toNat ((0:Int),((0:Int),((0:Int),((0:Int),((0:Int),([],(false,(false,(0:Int)))))))))).2.2.2.2.2.1,(x2.getD (x7).toNat ((0:Int),((0:Int),((0:Int),((0:Int),((0:Int),([],(false,(false,(0:Int)))))))))).2.2.2.2.2.2.1,(x2.getD (x7).toNat ((0:Int),((0:Int),((0:Int),((0:Int),((0:Int),([],(false,(false,(0:Int)))))))))).2.2.2.2.2.2.2.1,(x2.getD (x7).toNat ((0:Int),((0:Int),((0:Int),((0:Int),((0:Int),([],(false,(false,(0:Int)))))))))).2.2.2.2.2.2.2.2,(x2.getD (x8).toNat ((0:Int),((0:Int),((0:Int),((0:Int),((0:Int),([],(false,(false,(0:Int)))))))))).1,(x2.getD (x8).toNat ((0:Int),((0:Int),((0:Int),((0:Int),((0:Int),([],(false,(false,(0:Int)))))))))).2.1,(x2.getD (x8).toNat ((0:Int),((0:Int),((0:Int),((0:Int),((0:Int),([],(false,(false,(0:Int)))))))))).2.2.1,(x2.getD (x8).toNat ((0:Int),((0:Int),((0:Int),((0:Int),((0:Int),([],(false,(false,(0:Int)))))))))).2.2.2.1,(x2.getD (x8).toNat ((0:Int),((0:Int),((0:Int),((0:Int),((0:Int),([],(false,(false,(0:Int)))))))))).2.2.2.2.1,(x2.getD (x8).toNat ((0:Int),((0:Int),((0:Int),((0:Int),((0:Int),([],(false,(false,(0:Int)))))))))).2.2.2.2.2.1,(x2.getD (x8).toNat ((0:Int),((0:Int),((0:Int),((0:Int),((0:Int),([],(false,(false,(0:Int)))))))))).2.2.2.2.2.2.1,(x2.getD (x8).toNat ((0:Int),((0:Int),((0:Int),((0:Int),((0:Int),([],(false,(false,(0:Int)))))))))).2.2.2.2.2.2.2.1,(x2.getD (x8).toNat ((0:Int),((0:Int),((0:Int),((0:Int),((0:Int),([],(false,(false,(0:Int)))))))))).2.2.2.2.2.2.2.2)) none) none)
def bf (n:Nat):Nat→jN×jL×jW×Int×jL×jL×jC×Int×Int→Option ((Bool)⊕(jN×jL×jW×Int×jL×jL×jC×Int))
 |0,_=>none
 |m+1,x=>match x with|(x0,x1,x2,x3,x4,x5,x6,x7,x8)=>(cond (decide (x8<x7)) ((mg n (x0,x1,x2,x3,x4,x5,x6,x7,x8)).bind fun(g2a,g2b,g2c,g2d,g2e,g2f,g2g,g2h,g2i,g2j,g2k,_,_,_,_,_,_,g2r,g2s,g2t,_,_,_,_,_,_,g2A)=>((d8 n (g2a,g2b,g2c,g2d,g2e,g2f,g2g,g2h)).bind fun r3=>(cond r3 ((d8 n (g2a,g2b,g2c,g2d,g2e,g2f,g2g,g2i)).bind fun r4=>(cond r4 (cond (g2j==g2s) (cond (g2k==g2t) (cond (g2r==g2A) (some (Sum.inl false)) (bf n m (g2a,g2b,g2c,g2d,g2e,g2f,g2g,g2h,(IntKind.i64.wrap (g2i+(1:Int)))))) (bf n m (g2a,g2b,g2c,g2d,g2e,g2f,g2g,g2h,(IntKind.i64.wrap (g2i+(1:Int)))))) (bf n m (g2a,g2b,g2c,g2d,g2e,g2f,g2g,g2h,(IntKind.i64.wrap (g2i+(1:Int)))))) (bf n m (g2a,g2b,g2c,g2d,g2e,g2f,g2g,g2h,(IntKind.i64.wrap (g2i+(1:Int))))))) (bf n m (g2a,g2b,g2c,g2d,g2e,g2f,g2g,g2h,(IntKind.i64.wrap (g2i+(1:Int)))))))) (some (Sum.inr (x0,x1,x2,x3,x4,x5,x6,x7))))
def bJ (n:Nat):Nat→jN×jL×jW×Int×jL×jL×jC×Int→Option ((Bool)⊕(Unit))
 |0,_=>none
 |m+1,x=>match x with|(x0,x1,x2,x3,x4,x5,x6,x7)=>(cond (decide (x7<((x2).length:Int))) ((bf n n (x0,x1,x2,x3,x4,x5,x6,x7,(0:Int))).bind fun e5=>(match e5 with|Sum.inl a6=>(some (Sum.inl a6))|Sum.inr (b7a,b7b,b7c,b7d,b7e,b7f,b7g,b7h)=>(bJ n m (b7a,b7b,b7c,b7d,b7e,b7f,b7g,(IntKind.i64.wrap (b7h+(1:Int))))))) (some (Sum.inr ())))
def jQ (n:Nat):jN×jL×jW×Int×jL×jL×jC→Option (Bool):=fun(x0,x1,x2,x3,x4,x5,x6) =>
 ((cC n (x0,x1,x2,x3,x4,x5,x6)).bind fun r1=>(cond (!r1) (some false) ((bJ n n (x0,x1,x2,x3,x4,x5,x6,(0:Int))).bind fun e8=>(match e8 with|Sum.inl a9=>(some a9)|Sum.inr b10=>(some true)))))
def S25 (n:Nat):aa:={ pars:=[.g [.i aJ,ah,fh,jI,ah,ah,fw]],gh:=[],nb:=[],res:=[(false,[jB])],g:=jQ n }
def lA (n:Nat):cx:={ ent:=[.box 1 [1,0] [.i aJ,ah,fh,jI,ah,ah,fw], .val 3 (jI), .val 4 (jI)],exs:=[(.ret,[.val 2 (jB)]),(.exit 2,[.box 1 [1,0] [.i aJ,ah,fh,jI,ah,ah,fw], .val 3 (jI)])],g:=bf n n }
def lB (n:Nat):cx:={ ent:=[.box 1 [1,0] [.i aJ,ah,fh,jI,ah,ah,fw], .val 3 (jI)],exs:=[(.ret,[.val 2 (jB)]),(.exit 0,[])],g:=bJ n n }
def G25 (n:Nat):List (Nat×aa):=[(10,RV n),(55,ZD n)]
def qC (n:Nat):bT:={ ent:=[.box 1 [1,0] [.i aJ,ah,fh,jI,ah,ah,fw], .val 3 (jI), .val 4 (jI)],out:=[.box 1 [1,0] [.i aJ,ah,fh,jI,ah,ah,fw], .val 3 (jI), .val 4 (jI), .box 5 [5,0] [jI,jI,jI,jI,jI,ah,jB,jB,jI], .box 6 [6,0] [jI,jI,jI,jI,jI,ah,jB,jB,jI]],g:=mg n }
def Q25 (n:Nat):List (Nat×bT):=[(9,qC n)]
def Wc (n:Nat):aB:={ τ:=τ,N:=61,Γ:=gl (G25 n) [],Λ:=(fun q=>match q with   | 7=>some (lA n)   | 4=>some (lB n)  | _=>none),Ω:=tO (Q25 n) }
theorem vK (n:Nat):yJ true (Wc n) (ae Tryz.f25) 9 [10,11,0,1,2,3,4,5,6,7,8,9,12,13] (qC n):=fun x=>by kernel_rfl
theorem vN (n m:Nat) (x):bf n (m+1) x=cy (Wc n) (ax (ae Tryz.f25) 1) (lA n) (bf n m) x:=by kernel_rfl
theorem vO (n m:Nat) (x):bJ n (m+1) x=cy (Wc n) (ax (ae Tryz.f25) 0) (lB n) (bJ n m) x:=by kernel_rfl
theorem afn (n:Nat) (x):jQ n x=am (Wc n) Tryz.f25 (S25 n) x:=by kernel_rfl
def nW (n:Nat):jN×jL×jW×Int×jL×jL×jC→Option (Bool):=fun(x0,x1,x2,x3,x4,x5,x6) =>
 ((gc n (x0,x1,x2,x3,x4,x5,x6)).bind fun r1=>(cond r1 ((gG n (x0,x1,x2,x3,x4,x5,x6)).bind fun r2=>(cond r2 ((iz n (x0,x1,x2,x3,x4,x5,x6)).bind fun r3=>(some r3)) (some false))) (some false)))
def S26 (n:Nat):aa:={ pars:=[.g [.i aJ,ah,fh,jI,ah,ah,fw]],gh:=[],nb:=[],res:=[(false,[jB])],g:=nW n }
def G26 (n:Nat):List (Nat×aa):=[(20,S20 n),(21,S21 n),(22,S22 n)]
def E26 (n:Nat):aB:={ τ:=τ,N:=13,Γ:=gl (G26 n) [],Λ:=dL }
theorem afm (n:Nat) (x):nW n x=am (E26 n) Tryz.f26 (S26 n) x:=by kernel_rfl
def oz (n:Nat):jN×jL×jW×Int×jL×jL×jC×Int→Option (Bool):=fun(x0,x1,x2,x3,x4,x5,x6,x7) =>
 ((fL n (x0,x1,x2,x3,x4,x5,x6)).bind fun r1=>(cond r1 ((fi n (x0,x1,x2,x3,x4,x5,x6,x7)).bind fun(_,_,_,_,_,_,_,r2h)=>(some r2h)) (some false)))
def S14 (n:Nat):aa:={ pars:=[.g [.i aJ,ah,fh,jI,ah,ah,fw], .c (jI)],gh:=[],nb:=[],res:=[(false,[jB])],g:=oz n }
def G14 (n:Nat):List (Nat×aa):=[(9,S9 n),(53,S53 n)]
def E14 (n:Nat):aB:={ τ:=τ,N:=11,Γ:=gl (G14 n) [],Λ:=dL }
theorem afv (n:Nat) (x):oz n x=am (E14 n) Tryz.f14 (S14 n) x:=by kernel_rfl
def mu (n:Nat) (x:jL×Int):Option (Bool) :=
 ((bM n (x.1,x.2)).bind fun r1=>(some r1))
def S27 (n:Nat):aa:={ pars:=[.c (ah), .c (jI)],gh:=[],nb:=[],res:=[(false,[jB])],g:=mu n }
def G27 (n:Nat):List (Nat×aa):=[(64,S64 n)]
def E27 (n:Nat):aB:={ τ:=τ,N:=8,Γ:=gl (G27 n) [],Λ:=dL }
theorem afl (n:Nat) (x):mu n x=am (E27 n) Tryz.f27 (S27 n) x:=by kernel_rfl
def bp (n:Nat):Nat→jN×jL×jW×Int×jL×jL×jC×Bool×Int→Option ((Bool)⊕(Unit))
 |0,_=>none
 |m+1,x=>match x with|(x0,x1,x2,x3,x4,x5,x6,x7,x8)=>(cond (decide (x8<((x2).length:Int))) ((oz n (x0,x1,x2,x3,x4,x5,x6,x8)).bind fun r11=>(cond r11 (cond (aI x8 (x2).length) ((mu n (x1,(x2.getD (x8).toNat ((0:Int),((0:Int),((0:Int),((0:Int),((0:Int),([],(false,(false,(0:Int)))))))))).2.2.2.2.2.2.2.2)).bind fun r12=>(cond r12 (cond x7 (some (Sum.inl false)) (bp n m (x0,x1,x2,x3,x4,x5,x6,x7,(IntKind.i64.wrap (x8+(1:Int)))))) (bp n m (x0,x1,x2,x3,x4,x5,x6,x7,(IntKind.i64.wrap (x8+(1:Int))))))) none) (bp n m (x0,x1,x2,x3,x4,x5,x6,x7,(IntKind.i64.wrap (x8+(1:Int))))))) (some (Sum.inr ())))
def i9 (n:Nat) (x:jL):Option (Bool) :=
 ((xQ n x).bind fun r1=>(cond r1 (some true) ((gN n x).bind fun(r2a,r2b,r2c,r2d,r2e,r2f,r2g)=>((gc n (r2a,r2b,r2c,r2d,r2e,r2f,r2g)).bind fun r3=>((gG n (r2a,r2b,r2c,r2d,r2e,r2f,r2g)).bind fun r4=>((iz n (r2a,r2b,r2c,r2d,r2e,r2f,r2g)).bind fun r5=>((iq n (r2a,r2b,r2c,r2d,r2e,r2f,r2g)).bind fun r6=>(cond (r3 != r6) (some false) ((iS n (r2a,r2b,r2c,r2d,r2e,r2f,r2g)).bind fun r7=>(cond (r4 != r7) (some false) ((jQ n (r2a,r2b,r2c,r2d,r2e,r2f,r2g)).bind fun r8=>(cond (r5 != r8) (some false) ((nW n (r2a,r2b,r2c,r2d,r2e,r2f,r2g)).bind fun r9=>(cond r3 (cond r4 (cond (r9 != r5) (some false) ((cC n (r2a,r2b,r2c,r2d,r2e,r2f,r2g)).bind fun r10=>(cond (!r10) (cond (!r3) (cond (!r4) (some (!r5)) (some false)) (some false)) ((bp n n (r2a,r2b,r2c,r2d,r2e,r2f,r2g,r3,(0:Int))).bind fun e13=>(match e13 with|Sum.inl a14=>(some a14)|Sum.inr b15=>(some true)))))) (cond (r9 != false) (some false) ((cC n (r2a,r2b,r2c,r2d,r2e,r2f,r2g)).bind fun r16=>(cond (!r16) (cond (!r3) (cond (!r4) (some (!r5)) (some false)) (some false)) ((bp n n (r2a,r2b,r2c,r2d,r2e,r2f,r2g,r3,(0:Int))).bind fun e17=>(match e17 with|Sum.inl a18=>(some a18)|Sum.inr b19=>(some true))))))) (cond (r9 != false) (some false) ((cC n (r2a,r2b,r2c,r2d,r2e,r2f,r2g)).bind fun r20=>(cond (!r20) (cond (!r3) (cond (!r4) (some (!r5)) (some false)) (some false)) ((bp n n (r2a,r2b,r2c,r2d,r2e,r2f,r2g,r3,(0:Int))).bind fun e21=>(match e21 with|Sum.inl a22=>(some a22)|Sum.inr b23=>(some true))))))))))))))))))))
def S4 (n:Nat):aa:={ pars:=[.c (.i (.sl (.int .u8)))],gh:=[],nb:=[],res:=[(false,[jB])],g:=i9 n }
def lC (n:Nat):cx:={ ent:=[.box 3 [3,0] [.i aJ,ah,fh,jI,ah,ah,fw], .val 4 (jB), .val 7 (jI)],exs:=[(.ret,[.val 2 (jB)]),(.exit 0,[])],g:=bp n n }
def G4 (n:Nat):List (Nat×aa):=[(7,S7 n),(19,S19 n),(20,S20 n),(21,S21 n),(22,S22 n),(23,S23 n),(24,S24 n),(25,S25 n),(26,S26 n),(10,RV n),(14,S14 n),(27,S27 n)]
def E4 (n:Nat):aB:={ τ:=τ,N:=83,Γ:=gl (G4 n) [],Λ:=(fun q=>match q with   | 10=>some (lC n)  | _=>none) }
theorem vP (n m:Nat) (x):bp n (m+1) x=cy (E4 n) (ax (ae Tryz.f4) 0) (lC n) (bp n m) x:=by kernel_rfl
theorem eq4 (n:Nat) (x):i9 n x=am (E4 n) Tryz.f4 (S4 n) x:=by kernel_rfl
theorem ag:dZ Tryz.prog τ:=Bs (by kernel_rfl)
theorem mixed:Tryz.prog.follows .mixedOrders=true:=by kernel_rfl
end AM
end Go.Proofs.YtpgigedclifoeaaGreatDoor
