/- Each function that the laws reach obeys its summary. Under: what the rows list of the library's variables. -/
import Derived.Test.YtpgigedclifoeaaGreatDoorCALd
import Derived.Test.YtpgigedclifoeaaGreatDoorCW3
import Derived.Test.YtpgigedclifoeaaGreatDoorCW4
import Derived.Test.YtpgigedclifoeaaGreatDoorProg
import Derived.Test.YtpgigedclifoeaaGreatDoorCShelf
import Derived.Test.YtpgigedclifoeaaGreatDoorCP1
import Derived.Lib.IndexMore
import Derived.Lib.ItoaNum
import Derived.Lib.Split
import Derived.Lib.CountLaws
import Derived.Lib.SlicesCompact
namespace Go.Proofs.YtpgigedclifoeaaGreatDoor
namespace AM
open Go
set_option linter.unusedVariables false
abbrev GG (W:World) (p:Nat×aa):Prop:=rI Tryz.prog (gb.of W) p
theorem ob7{W:World}(hG:ae W) (n:Nat):GG W (7,S7 n) :=
 ac mixed ag Tryz.func7 (E7 n) (G7 n) [] trivial trivial eL (eq7 n)
theorem Xd{W:World}(hG:ae W) (n:Nat):GG W (65,YU n) :=
 ac mixed ag Tryz.func65 (Zn n) (G65 n) [] trivial trivial (qX 1 (fun i hi=>match i,hi with|0,_=>lT n (nv n (di n n)) (di n) (xp n))) (X5 n)
theorem W0{W:World}(hG:ae W) (n:Nat):GG W (98,YH n) :=
 ac mixed ag Tryz.func98 (E98 n) (ZM n) [] trivial trivial eL (XE n)
theorem J9{W:World}(hG:ae W) (n:Nat):GG W (117,K3 n) :=
 ac mixed ag Tryz.func117 (Qd n) (Ve n) [] trivial trivial (qX 1 (fun i hi=>match i,hi with|0,_=>lT n (mr n (bo n n)) (bo n) (wg n))) (Tg n)
theorem Nh{W:World}(hG:ae W) (n:Nat):GG W (124,MH n) :=
 ac mixed ag Tryz.func124 (Wa n) (U9 n) [] trivial trivial eL (Tb n)
theorem xk{W:World}(hG:ae W) (n:Nat):GG W (46,Ge n) :=
 ac mixed ag Tryz.func46 (E46 n) (G46 n) [] trivial trivial eL (Yi n)
theorem Ka{W:World}(hG:ae W) (n:Nat):GG W (116,K4 n) :=
 ac mixed ag Tryz.func116 (Wd n) (Vf n) [] ⟨Nh hG n,xk hG n,trivial⟩ trivial eL (Th n)
theorem CX{W:World}(hG:ae W) (n:Nat):GG W (126,Fg n) :=
 ac mixed ag Tryz.func126 (V9 n) (U8 n) [] trivial trivial eL (Ta n)
theorem QN (n:Nat):eT (MY n) (af Tryz.f102) (T3 n):=⟨nG (vU n) [(4,4)],trivial⟩
theorem ye{W:World}(hG:ae W) (n:Nat):GG W (102,B9 n) :=
 ac mixed ag Tryz.func102 (MY n) (Vs n) [] ⟨J9 hG n,Ka hG n,CX hG n,trivial⟩ trivial (Cc (QN n)) (Tv n)
theorem Og (n:Nat):eT (Gk n) (af Tryz.f102) (NB n):=⟨nG (tu n) [(4,4)],trivial⟩
theorem Kb{W:World}(hG:ae W) (n:Nat):GG W (102,Gf n) :=
 ac mixed ag Tryz.func102 (Gk n) (NN n) [] ⟨J9 hG n,Ka hG n,CX hG n,trivial⟩ trivial (Cc (Og n)) (OU n)
theorem yf{W:World}(hG:ae W) (n:Nat):GG W (100,Ca n) :=
 ac mixed ag Tryz.func100 (Wn n) (Vu n) [] ⟨ye hG n,trivial⟩ trivial eL (Tx n)
theorem Kc{W:World}(hG:ae W) (n:Nat):GG W (100,Gg n) :=
 ac mixed ag Tryz.func100 (NX n) (NO n) (NI n) trivial ⟨Kb hG n,trivial⟩ eL (OV n)
theorem Ev{W:World}(hG:ae W) (n:Nat):GG W (84,Mq n) :=
 ac mixed ag Tryz.func84 (E84 n) (ZW n) [] ⟨xk hG n,trivial⟩ trivial eL (XO n)
theorem FB{W:World}(hG:ae W) (n:Nat):GG W (101,Jc n) :=
 ac mixed ag Tryz.func101 (Wm n) (Vt n) [] ⟨Ev hG n,trivial⟩ trivial eL (Tw n)
theorem Ew{W:World}(hG:ae W) (n:Nat):GG W (49,Mr n) :=
 ac mixed ag Tryz.func49 (Zr n) (G49 n) [] trivial trivial (qX 1 (fun i hi=>match i,hi with|0,_=>lT n (lB n (bz n n)) (bz n) (u4 n))) (Yf n)
theorem LR{W:World}(hG:ae W) (n:Nat):GG W (91,Qp n) :=
 ac mixed ag Tryz.func91 (Zi n) (ZP n) [] ⟨Ew hG n,trivial⟩ trivial (qX 1 (fun i hi=>match i,hi with|0,_=>lT n (nq n (bk n n)) (bk n) (xn n))) (XH n)
theorem OA{W:World}(hG:ae W) (n:Nat):GG W (91,K8 n) :=
 ac mixed ag Tryz.func91 (Li n) (NQ n) [] ⟨Ew hG n,trivial⟩ trivial (qX 1 (fun i hi=>match i,hi with|0,_=>lT n (lw n (bP n n)) (bP n) (uW n))) (OX n)
theorem WV (n:Nat):eT (Qr n) (af Tryz.f68) (ZH n):=⟨QO (su n) [(1,[1,0])],trivial⟩
theorem Xb{W:World}(hG:ae W) (n:Nat):GG W (68,YS n) :=
 ac mixed ag Tryz.func68 (Qr n) (Z8 n) [] ⟨yf hG n,FB hG n,ye hG n,LR hG n,trivial⟩ trivial (Di 2 (fun i hi=>match i,hi with|0,_=>lT n (kR n (bx n n)) (bx n) (tK n)|1,_=>lT n (kQ n (bv n n)) (bv n) (tJ n)) (WV n)) (X0 n)
theorem Oj (n:Nat):eT (A0 n) (af Tryz.f68) (NE n):=⟨GS (qo n),trivial⟩
theorem OC{W:World}(hG:ae W) (n:Nat):GG W (68,La n) :=
 ac mixed ag Tryz.func68 (A0 n) (NU n) (NK n) ⟨FB hG n,trivial⟩ ⟨Kc hG n,Kc hG n,Kb hG n,OA hG n,trivial⟩ (Di 2 (fun i hi=>match i,hi with|0,_=>lT n (jc n (bH n n)) (bH n) (rt n)|1,_=>lT n (jb n (bG n n)) (bG n) (rr n)) (Oj n)) (O1 n)
theorem RS{W:World}(hG:ae W) (n:Nat):GG W (112,PU n) :=
 ac mixed ag Tryz.func112 (Wg n) (Vj n) [] trivial trivial eL (Tl n)
theorem Bv{W:World}(hG:ae W) (n:Nat):GG W (76,KW n) :=
 ac mixed ag Tryz.func76 (E76 n) (Z4 n) [] ⟨RS hG n,trivial⟩ trivial eL (XW n)
theorem Ow{W:World}(hG:ae W) (n:Nat):GG W (67,TG n) :=
 ac mixed ag Tryz.func67 (E67 n) (Z9 n) [] ⟨Bv hG n,trivial⟩ trivial eL (X3 n)
theorem Kf{W:World}(hG:ae W) (n:Nat):GG W (106,Lb n) :=
 ac mixed ag Tryz.func106 (Wj n) (Vo n) [] trivial trivial eL (Tq n)
theorem Nk{W:World}(hG:ae W) (n:Nat):GG W (107,MK n) :=
 ac mixed ag Tryz.func107 (Qf n) (Vn n) [] trivial trivial (qX 1 (fun i hi=>match i,hi with|0,_=>lT n (nu n (cM n n)) (cM n) (xo n))) (Tp n)
theorem Nj{W:World}(hG:ae W) (n:Nat):GG W (108,MJ n) :=
 ac mixed ag Tryz.func108 (Wi n) (Vm n) [] ⟨Bv hG n,trivial⟩ trivial eL (To n)
theorem WT (n:Nat):eT (WJ n) (af Tryz.f70) (ZF n):=⟨LI (qn n),trivial⟩
theorem Xa{W:World}(hG:ae W) (n:Nat):GG W (70,YR n) :=
 ac mixed ag Tryz.func70 (WJ n) (Z6 n) [] ⟨Bv hG n,Ow hG n,Kf hG n,Nk hG n,Nj hG n,trivial⟩ trivial (Cc (WT n)) (XY n)
theorem Oh (n:Nat):eT (Gm n) (af Tryz.f70) (NC n):=⟨LI (oG n),trivial⟩
theorem Ke{W:World}(hG:ae W) (n:Nat):GG W (70,Gh n) :=
 ac mixed ag Tryz.func70 (Gm n) (NS n) [] ⟨Bv hG n,Ow hG n,Kf hG n,Nk hG n,Nj hG n,trivial⟩ trivial (Cc (Oh n)) (OZ n)
theorem Ou{W:World}(hG:ae W) (n:Nat):GG W (81,TE n) :=
 ac mixed ag Tryz.func81 (Zl n) (ZZ n) [] ⟨Ka hG n,J9 hG n,trivial⟩ trivial (qX 1 (fun i hi=>match i,hi with|0,_=>lT n (mB n (cy n n)) (cy n) (wo n))) (XR n)
theorem JY{W:World}(hG:ae W) (n:Nat):GG W (87,Pa n) :=
 ac mixed ag Tryz.func87 (E87 n) (ZT n) [] ⟨xk hG n,trivial⟩ trivial eL (XL n)
theorem W6{W:World}(hG:ae W) (n:Nat):GG W (82,YN n) :=
 ac mixed ag Tryz.func82 (Zk n) (ZY n) [] ⟨JY hG n,trivial⟩ trivial (qX 1 (fun i hi=>match i,hi with|0,_=>lT n (ml n (bd n n)) (bd n) (wc n))) (XQ n)
theorem Q0{W:World}(hG:ae W) (n:Nat):GG W (45,WG n) :=
 ac mixed ag Tryz.func45 (E45 n) (G45 n) [] ⟨Ou hG n,W6 hG n,trivial⟩ trivial eL (Yj n)
theorem Xi{W:World}(hG:ae W) (n:Nat):GG W (47,YZ n) :=
 ac mixed ag Tryz.func47 (Zs n) (G47 n) [] ⟨xk hG n,trivial⟩ trivial (qX 1 (fun i hi=>match i,hi with|0,_=>lT n (mu n (be n n)) (be n) (wh n))) (Yh n)
theorem Ni{W:World}(hG:ae W) (n:Nat):GG W (118,MI n) :=
 ac mixed ag Tryz.func118 (Wc n) (Vd n) [] trivial trivial eL (Tf n)
theorem Ot{W:World}(hG:ae W) (n:Nat):GG W (83,TC n) :=
 ac mixed ag Tryz.func83 (E83 n) (ZX n) [] ⟨Ni hG n,trivial⟩ trivial eL (XP n)
theorem W5{W:World}(hG:ae W) (n:Nat):GG W (85,YM n) :=
 ac mixed ag Tryz.func85 (Zj n) (ZV n) [] ⟨JY hG n,trivial⟩ trivial (qX 1 (fun i hi=>match i,hi with|0,_=>lT n (my n (bC n n)) (bC n) (wl n))) (XN n)
theorem Rk{W:World}(hG:ae W) (n:Nat):GG W (181,Pr n) :=
 ac mixed ag Tryz.func181 (VN n) (Uy n) [] trivial trivial eL (Su n)
theorem Rx{W:World}(hG:ae W) (n:Nat):GG W (145,PE n) :=
 ac mixed ag Tryz.func145 (P7 n) (UT n) [] ⟨Rk hG n,trivial⟩ trivial (qX 1 (fun i hi=>match i,hi with|0,_=>lT n (mw n (dj n n)) (dj n) (wk n))) (SP n)
theorem M8{W:World}(hG:ae W) (n:Nat):GG W (172,Mz n) :=
 ac mixed ag Tryz.func172 (P5 n) (UE n) [] trivial trivial (qX 1 (fun i hi=>match i,hi with|0,_=>lT n (mq n (cN n n)) (cN n) (we n))) (SA n)
theorem M5{W:World}(hG:ae W) (n:Nat):GG W (195,Mw n) :=
 ac mixed ag Tryz.func195 (VG n) (Un n) [] trivial trivial eL (Si n)
theorem M7{W:World}(hG:ae W) (n:Nat):GG W (174,Mx n) :=
 ac mixed ag Tryz.func174 (VR n) (UC n) [] trivial trivial eL (Sy n)
theorem J7{W:World}(hG:ae W) (n:Nat):GG W (138,K0 n) :=
 ac mixed ag Tryz.func138 (V3 n) (UY n) [] ⟨Nh hG n,trivial⟩ trivial eL (SU n)
theorem J4{W:World}(hG:ae W) (n k:Nat) (ih:GG W (137,Jb n k)):GG W (173,My n k) :=
 ac mixed ag Tryz.func173 (VS n k) (UD n k) [] ⟨M5 hG n,ih,trivial⟩ trivial eL (Sz n k)
theorem J8{W:World}(hG:ae W) (n:Nat):∀k,GG W (137,Jb n k)
 |0=>⟨gE Tryz.func137 (by kernel_rfl) (by kernel_rfl),fun _ _ _ _ _ _ _ h=>by cases h⟩
 |k+1 =>
  have ih:=J8 hG n k
  ac mixed ag Tryz.func137 (V4 n k) (UZ n k) [] ⟨J7 hG n,M8 hG n,J4 hG n k ih,M7 hG n,ih,trivial⟩ trivial eL (SV n k)
theorem Zy{W:World}(hG:ae W) (n k:Nat):GG W (173,My n k):=J4 hG n k (J8 hG n k)
theorem Kd{W:World}(hG:ae W) (n:Nat):GG W (110,K6 n) :=
 ac mixed ag Tryz.func110 (Wh n) (Vl n) [] ⟨J8 hG n n,trivial⟩ trivial eL (Tn n)
theorem Rj{W:World}(hG:ae W) (n:Nat):GG W (182,Pq n) :=
 ac mixed ag Tryz.func182 (VM n) (Ux n) [] ⟨Kd hG n,trivial⟩ trivial eL (Ss n)
theorem Rw{W:World}(hG:ae W) (n:Nat):GG W (146,PD n) :=
 ac mixed ag Tryz.func146 (P6 n) (US n) [] ⟨xk hG n,Rj hG n,trivial⟩ trivial (qX 1 (fun i hi=>match i,hi with|0,_=>lT n (mA n (dT n n)) (dT n) (wn n))) (SO n)
theorem RM{W:World}(hG:ae W) (n:Nat):GG W (119,PP n) :=
 ac mixed ag Tryz.func119 (Qc n) (Vc n) [] ⟨Rx hG n,Rw hG n,trivial⟩ trivial (qX 1 (fun i hi=>match i,hi with|0,_=>lT n (jM n (cp n n)) (cp n) (sw n))) (Te n)
theorem Oq{W:World}(hG:ae W) (n:Nat):GG W (86,TB n) :=
 ac mixed ag Tryz.func86 (E86 n) (ZU n) [] ⟨Ni hG n,RM hG n,trivial⟩ trivial eL (XM n)
theorem Xh{W:World}(hG:ae W) (n:Nat):GG W (48,YY n) :=
 ac mixed ag Tryz.func48 (E48 n) (G48 n) [] ⟨Ot hG n,Ev hG n,W5 hG n,Oq hG n,JY hG n,xk hG n,trivial⟩ trivial eL (Yg n)
theorem Ez{W:World}(hG:ae W) (n:Nat):GG W (10,MO n) :=
 ac mixed ag Tryz.func10 (Wo n) (G10 n) [] ⟨Q0 hG n,xk hG n,Xi hG n,Xh hG n,Ew hG n,trivial⟩ trivial (qX 3 (fun i hi=>match i,hi with|0,_=>lT n (lA n (bc n n)) (bc n) (u3 n)|1,_=>lT n (kP n (aZ n n)) (aZ n) (tI n)|2,_=>lT n (kO n (bu n n)) (bu n) (tH n))) (YA n)
theorem No{W:World}(hG:ae W) (n:Nat):GG W (103,MN n) :=
 ac mixed ag Tryz.func103 (Wl n) (Vr n) [] trivial trivial eL (Tu n)
theorem RF{W:World}(hG:ae W) (n:Nat):GG W (131,PI n) :=
 ac mixed ag Tryz.func131 (V7 n) (U3 n) [] trivial trivial eL (SZ n)
theorem Oy{W:World}(hG:ae W) (n:Nat):GG W (131,K5 n) :=
 ac mixed ag Tryz.func131 (NW n) (NL n) [] trivial trivial eL (OS n)
theorem QM (n:Nat):eT (Ji n) (af Tryz.f105) (T0 n):=⟨nG (uO n) [(6,8),(12,14),(16,18),(20,22)],GS (uN n),trivial⟩
theorem Nl{W:World}(hG:ae W) (n:Nat):GG W (105,ML n) :=
 ac mixed ag Tryz.func105 (Ji n) (Vp n) (T7 n) ⟨CX hG n,trivial⟩ ⟨Oy hG n,trivial⟩ (Di 1 (fun i hi=>match i,hi with|0,_=>lT n (lz n (cF n n)) (cF n) (uZ n)) (QM n)) (Tr n)
theorem Ri{W:World}(hG:ae W) (n:Nat):GG W (186,Pp n) :=
 ac mixed ag Tryz.func186 (P4 n) (Uw n) [] trivial trivial (qX 1 (fun i hi=>match i,hi with|0,_=>lT n (mC n (cA n n)) (cA n) (wq n))) (Sr n)
theorem Nb{W:World}(hG:ae W) (n:Nat):GG W (158,MC n) :=
 ac mixed ag Tryz.func158 (VZ n) (UN n) [] ⟨Ev hG n,trivial⟩ trivial eL (SJ n)
theorem Rf{W:World}(hG:ae W) (n:Nat):GG W (190,Pm n) :=
 ac mixed ag Tryz.func190 (VK n) (Us n) [] trivial trivial eL (Sn n)
theorem Na{W:World}(hG:ae W) (n:Nat):GG W (159,MB n) :=
 ac mixed ag Tryz.func159 (VY n) (UM n) [] ⟨Ev hG n,Kf hG n,Rf hG n,trivial⟩ trivial eL (SI n)
theorem QH (n:Nat):eT (Jg n) (af Tryz.f154) (TV n):=⟨nG (tB n) [(10,18)],nG (tA n) [(3,10),(4,11)],trivial⟩
theorem Rv{W:World}(hG:ae W) (n:Nat):GG W (154,PC n) :=
 ac mixed ag Tryz.func154 (Jg n) (UR n) [] ⟨Ou hG n,Ot hG n,CX hG n,Ev hG n,Ri hG n,Nb hG n,Na hG n,FB hG n,yf hG n,ye hG n,trivial⟩ trivial (Di 1 (fun i hi=>match i,hi with|0,_=>lT n (kS n (bA n n)) (bA n) (tL n)) (QH n)) (SN n)
theorem Rb{W:World}(hG:ae W) (n:Nat):GG W (212,Pi n) :=
 ac mixed ag Tryz.func212 (VD n) (Uk n) [] ⟨xk hG n,trivial⟩ trivial eL (Sf n)
theorem J6{W:World}(hG:ae W) (n:Nat):GG W (139,KZ n) :=
 ac mixed ag Tryz.func139 (V2 n) (UX n) [] ⟨JY hG n,ye hG n,trivial⟩ trivial eL (ST n)
theorem QL (n k:Nat):eT (MX n k) (af Tryz.f111) (TZ n k):=⟨nG (uT n k) [(6,8)],trivial⟩
theorem RT{W:World}(hG:ae W) (n:Nat):∀k,GG W (111,PV n k)
 |0=>⟨gE Tryz.func111 (by kernel_rfl) (by kernel_rfl),fun _ _ _ _ _ _ _ h=>by cases h⟩
 |k+1 =>
  have ih:=RT hG n k
  ac mixed ag Tryz.func111 (MX n k) (Vk n k) [] ⟨yf hG n,ih,J7 hG n,ye hG n,J6 hG n,trivial⟩ trivial (Cc (QL n k)) (Tm n k)
theorem Of (n k:Nat):eT (Gj n k) (af Tryz.f111) (NA n k):=⟨nG (ss n k) [(6,8)],trivial⟩
theorem Ey{W:World}(hG:ae W) (n:Nat):∀k,GG W (111,AW n k)
 |0=>⟨gE Tryz.func111 (by kernel_rfl) (by kernel_rfl),fun _ _ _ _ _ _ _ h=>by cases h⟩
 |k+1 =>
  have ih:=Ey hG n k
  ac mixed ag Tryz.func111 (Gj n k) (NM n k) (NH n k) ⟨yf hG n,J7 hG n,ye hG n,J6 hG n,trivial⟩ ⟨ih,ih,trivial⟩ (Cc (Of n k)) (OT n k)
theorem QC (n:Nat):eT (DP n) (af Tryz.f187) (TQ n):=⟨nG (vY n) [(4,6),(5,7)],nG (vX n) [(7,14)],nG (vW n) [(4,6),(5,7)],nG (vV n) [(4,6),(5,7)],trivial⟩
theorem Rh{W:World}(hG:ae W) (n:Nat):GG W (187,Po n) :=
 ac mixed ag Tryz.func187 (DP n) (Uv n) (T6 n) ⟨RF hG n,Oq hG n,Rb hG n,yf hG n,Kd hG n,trivial⟩ ⟨Ey hG n n,trivial⟩ (Di 1 (fun i hi=>match i,hi with|0,_=>lT n (nw n (ap n n)) (ap n) (xq n)) (QC n)) (Sq n)
theorem QE (n:Nat):eT (Lh n) (af Tryz.f160) (TS n):=⟨nG (uM n) [(5,4)],trivial⟩
theorem J5{W:World}(hG:ae W) (n:Nat):GG W (160,KY n) :=
 ac mixed ag Tryz.func160 (Lh n) (UL n) [] ⟨LR hG n,trivial⟩ trivial (Di 1 (fun i hi=>match i,hi with|0,_=>lT n (lx n (cE n n)) (cE n) (uX n)) (QE n)) (SH n)
theorem QG (n:Nat):eT (MU n) (af Tryz.f155) (TU n):=⟨LI (xm n),trivial⟩
theorem Nc{W:World}(hG:ae W) (n:Nat):GG W (155,MD n) :=
 ac mixed ag Tryz.func155 (MU n) (UQ n) [] ⟨Rh hG n,Ew hG n,J5 hG n,trivial⟩ trivial (Cc (QG n)) (SM n)
theorem RJ{W:World}(hG:ae W) (n:Nat):GG W (127,PM n) :=
 ac mixed ag Tryz.func127 (V8 n) (U7 n) [] ⟨Ot hG n,Ev hG n,Rv hG n,Nc hG n,trivial⟩ trivial eL (S6 n)
theorem Ra{W:World}(hG:ae W) (n:Nat):GG W (213,Ph n) :=
 ac mixed ag Tryz.func213 (P2 n) (Uj n) [] trivial trivial (qX 1 (fun i hi=>match i,hi with|0,_=>lT n (mz n (cO n n)) (cO n) (wm n))) (Se n)
theorem RK{W:World}(hG:ae W) (n:Nat):GG W (123,PN n) :=
 ac mixed ag Tryz.func123 (Wb n) (Va n) [] ⟨xk hG n,trivial⟩ trivial eL (Tc n)
theorem Q9{W:World}(hG:ae W) (n:Nat):GG W (214,Pg n) :=
 ac mixed ag Tryz.func214 (VC n) (Ui n) [] trivial trivial eL (Sd n)
theorem QA (n:Nat):eT (MQ n) (af Tryz.f216) (TN n):=⟨nG (uU n) [(3,8)],trivial⟩
theorem Q8{W:World}(hG:ae W) (n:Nat):GG W (216,Pf n) :=
 ac mixed ag Tryz.func216 (MQ n) (Ug n) [] ⟨J6 hG n,trivial⟩ trivial (Cc (QA n)) (Sb n)
theorem J0{W:World}(hG:ae W) (n k:Nat) (ih:GG W (188,Ja n k)):GG W (215,Mv n k) :=
 ac mixed ag Tryz.func215 (VB n k) (Uh n k) [] ⟨M5 hG n,ih,trivial⟩ trivial eL (Sc n k)
theorem QB (n k:Nat):eT (MR n k) (af Tryz.f188) (TO n k):=⟨nG (vZ n k) [(6,8)],trivial⟩
theorem J3{W:World}(hG:ae W) (n:Nat):∀k,GG W (188,Ja n k)
 |0=>⟨gE Tryz.func188 (by kernel_rfl) (by kernel_rfl),fun _ _ _ _ _ _ _ h=>by cases h⟩
 |k+1 =>
  have ih:=J3 hG n k
  ac mixed ag Tryz.func188 (MR n k) (Uu n k) [] ⟨Ra hG n,M8 hG n,RK hG n,yf hG n,ih,Q9 hG n,J0 hG n k ih,Q8 hG n,M7 hG n,ye hG n,trivial⟩ trivial (Cc (QB n k)) (Sp n k)
theorem Zx{W:World}(hG:ae W) (n k:Nat):GG W (215,Mv n k):=J0 hG n k (J3 hG n k)
theorem Ru{W:World}(hG:ae W) (n:Nat):GG W (156,PB n) :=
 ac mixed ag Tryz.func156 (V0 n) (UP n) [] ⟨Ou hG n,CX hG n,Q0 hG n,J3 hG n n,trivial⟩ trivial eL (SL n)
theorem Qz (n k:Nat):eT (MP n k) (af Tryz.f217) (TM n k):=⟨nG (tz n k) [(8,10)],trivial⟩
theorem M4{W:World}(hG:ae W) (n:Nat):∀k,GG W (217,Mu n k)
 |0=>⟨gE Tryz.func217 (by kernel_rfl) (by kernel_rfl),fun _ _ _ _ _ _ _ h=>by cases h⟩
 |k+1 =>
  have ih:=M4 hG n k
  ac mixed ag Tryz.func217 (MP n k) (Uf n k) (T5 n k) ⟨ih,trivial⟩ ⟨Ey hG n n,trivial⟩ (Cc (Qz n k)) (Sa n k)
theorem Rg{W:World}(hG:ae W) (n:Nat):GG W (189,Pn n) :=
 ac mixed ag Tryz.func189 (VL n) (Ut n) [] ⟨M4 hG n n,trivial⟩ trivial eL (So n)
theorem QF (n:Nat):eT (DQ n) (af Tryz.f157) (TT n):=⟨nG (uS n) [(2,6),(3,7)],nG (uR n) [],nG (uQ n) [(2,6),(3,7)],nG (uP n) [(2,6),(3,7)],nG (tw n) [(2,6),(3,7)],trivial⟩
theorem Rt{W:World}(hG:ae W) (n:Nat):GG W (157,PA n) :=
 ac mixed ag Tryz.func157 (DQ n) (UO n) [] ⟨JY hG n,Oq hG n,Kd hG n,Rg hG n,trivial⟩ trivial (Cc (QF n)) (SK n)
theorem QK (n:Nat):eT (MW n) (af Tryz.f128) (TY n):=⟨nG (uK n) [(15,10),(16,11)],trivial⟩
theorem RI{W:World}(hG:ae W) (n:Nat):GG W (128,PL n) :=
 ac mixed ag Tryz.func128 (MW n) (U6 n) [] ⟨xk hG n,Ru hG n,Rt hG n,Nc hG n,trivial⟩ trivial (Cc (QK n)) (S5 n)
theorem QJ (n:Nat):eT (Jh n) (af Tryz.f129) (TX n):=⟨nG (tv n) [(11,9)],trivial⟩
theorem RH{W:World}(hG:ae W) (n:Nat):GG W (129,PK n) :=
 ac mixed ag Tryz.func129 (Jh n) (U5 n) [] ⟨Ev hG n,Ew hG n,Nb hG n,FB hG n,Na hG n,LR hG n,yf hG n,J5 hG n,trivial⟩ trivial (Di 2 (fun i hi=>match i,hi with|0,_=>lT n (ly n (cb n n)) (cb n) (uY n)|1,_=>lT n (kM n (cf n n)) (cf n) (tG n)) (QJ n)) (S4 n)
theorem QI (n:Nat):eT (MV n) (af Tryz.f130) (TW n):=⟨LI (uL n),trivial⟩
theorem RG{W:World}(hG:ae W) (n:Nat):GG W (130,PJ n) :=
 ac mixed ag Tryz.func130 (MV n) (U4 n) [] ⟨xk hG n,Ew hG n,LR hG n,J5 hG n,trivial⟩ trivial (Cc (QI n)) (S0 n)
theorem Nn{W:World}(hG:ae W) (n:Nat):GG W (104,MM n) :=
 ac mixed ag Tryz.func104 (Wk n) (Vq n) [] ⟨RJ hG n,RI hG n,RH hG n,RG hG n,trivial⟩ trivial eL (Tt n)
theorem WU (n:Nat):eT (WK n) (af Tryz.f69) (ZG n):=⟨GS (uV n),trivial⟩
theorem QT{W:World}(hG:ae W) (n:Nat):GG W (69,Wz n) :=
 ac mixed ag Tryz.func69 (WK n) (Z7 n) [] ⟨Ez hG n,No hG n,Nl hG n,Nn hG n,trivial⟩ trivial (Cc (WU n)) (XZ n)
theorem Oi (n:Nat):eT (Gn n) (af Tryz.f69) (ND n):=⟨GS (sv n),trivial⟩
theorem OB{W:World}(hG:ae W) (n:Nat):GG W (69,Gi n) :=
 ac mixed ag Tryz.func69 (Gn n) (NT n) [] ⟨Ez hG n,No hG n,Nl hG n,Nn hG n,trivial⟩ trivial (Cc (Oi n)) (O0 n)
theorem LS{W:World}(hG:ae W) (n:Nat):GG W (69,K9 n):=IF (S:=Gi n) (OB hG n) Le
theorem abn{W:World}(hG:ae W) (n:Nat):GG W (97,ZD n) :=
 ac mixed ag Tryz.func97 (WI n) (ZN n) [] ⟨Xb hG n,Bv hG n,Xa hG n,QT hG n,trivial⟩ trivial (qX 2 (fun i hi=>match i,hi with|0,_=>lT n (ja n (bY n n)) (bY n) (rn n)|1,_=>lT n (iy n (cg n n)) (cg n) (qq n))) (XF n)
theorem Oz{W:World}(hG:ae W) (n:Nat):GG W (97,K7 n) :=
 ac mixed ag Tryz.func97 (Gl n) (NP n) (NJ n) ⟨Bv hG n,QT hG n,trivial⟩ ⟨OC hG n,Ke hG n,Ke hG n,trivial⟩ (qX 2 (fun i hi=>match i,hi with|0,_=>lT n (gS n (aG n n)) (aG n) (pO n)|1,_=>lT n (gt n (bb n n)) (bb n) (oI n))) (OW n) (l3:=NG n) (hl3:=⟨LS hG n,trivial⟩)
theorem WZ{W:World}(hG:ae W) (n:Nat):GG W (99,YG n) :=
 ac mixed ag Tryz.func99 (E99 n) (ZL n) [] ⟨Bv hG n,trivial⟩ trivial eL (XD n)
theorem WW (n:Nat):eT (WM n) (af Tryz.f66) (ZI n):=⟨GS (pM n),trivial⟩
theorem Xc{W:World}(hG:ae W) (n:Nat):GG W (66,YT n) :=
 ac mixed ag Tryz.func66 (WM n) (G66 n) (ZK n) ⟨W0 hG n,Bv hG n,WZ hG n,trivial⟩ ⟨Oz hG n,trivial⟩ (Cc (WW n)) (X4 n)
theorem WX (n:Nat):eT (WO n) (af Tryz.f37) (ZJ n):=⟨QO (uJ n) [(4,[8,77,77]),(32,[8,77,77])],trivial⟩
theorem Xn{W:World}(hG:ae W) (n:Nat):GG W (37,Y4 n) :=
 ac mixed ag Tryz.func37 (WO n) (G37 n) [] ⟨Xd hG n,Xc hG n,Bv hG n,Ow hG n,trivial⟩ trivial (Cc (WX n)) (Yr n)
theorem ob8{W:World}(hG:ae W) (n:Nat):GG W (8,S8 n) :=
 ac mixed ag Tryz.func8 (E8 n) (G8 n) [] ⟨Xn hG n,trivial⟩ trivial eL (eq8 n)
theorem zi{W:World}(hG:ae W) (n:Nat):GG W (39,Jm n) :=
 ac mixed ag Tryz.func39 (E39 n) (G39 n) [] trivial trivial eL (Yp n)
theorem Ov{W:World}(hG:ae W) (n:Nat):GG W (77,TF n) :=
 ac mixed ag Tryz.func77 (E77 n) (Z3 n) [] ⟨zi hG n,trivial⟩ trivial eL (XV n)
theorem Xw{W:World}(hG:ae W) (n:Nat):GG W (77,Nz n) :=
 ac mixed ag Tryz.func77 (NY n) (NR n) [] ⟨zi hG n,trivial⟩ trivial eL (OY n)
theorem RD{W:World}(hG:ae W) (n:Nat):GG W (140,PG n) :=
 ac mixed ag Tryz.func140 (V1 n) (UW n) [] trivial trivial eL (SS n)
theorem RR{W:World}(hG:ae W) (n:Nat):GG W (113,PT n) :=
 ac mixed ag Tryz.func113 (Wf n) (Vi n) [] ⟨RD hG n,zi hG n,trivial⟩ trivial eL (Tk n)
theorem WS (n:Nat):eT (Qq n) (af Tryz.f78) (ZE n):=⟨⟨by kernel_rfl,fun x y hy=>Fb (v8 n x) (fun v hv=>((show ∀v∈[ay n x,ay n x,ay n x,ba n x,ba n x,ba n x,ay n x,ay n x,ay n x,ba n x,ba n x,ba n x],v=ay n x from(List.forall_mem_cons.2 ⟨rfl,(List.forall_mem_cons.2 ⟨rfl,(List.forall_mem_cons.2 ⟨rfl,(List.forall_mem_cons.2 ⟨dt n x,(List.forall_mem_cons.2 ⟨dt n x,(List.forall_mem_cons.2 ⟨dt n x,(List.forall_mem_cons.2 ⟨rfl,(List.forall_mem_cons.2 ⟨rfl,(List.forall_mem_cons.2 ⟨rfl,(List.forall_mem_cons.2 ⟨dt n x,(List.forall_mem_cons.2 ⟨dt n x,(List.forall_mem_cons.2 ⟨dt n x,(fun _ h=>by cases h)⟩)⟩)⟩)⟩)⟩)⟩)⟩)⟩)⟩)⟩)⟩)⟩)) v hv).trans (show ay n x=some y from hy))⟩,trivial⟩
theorem QS{W:World}(hG:ae W) (n:Nat):GG W (78,Wy n) :=
 ac mixed ag Tryz.func78 (Qq n) (Z2 n) [] ⟨RR hG n,trivial⟩ trivial (Di 1 (fun i hi=>match i,hi with|0,_=>lT n (mE n (cC n n)) (cC n) (wv n)) (WS n)) (XU n)
theorem Xm{W:World}(hG:ae W) (n:Nat):GG W (38,Y3 n) :=
 ac mixed ag Tryz.func38 (Zu n) (G38 n) [] ⟨Ov hG n,QS hG n,trivial⟩ trivial (qX 1 (fun i hi=>match i,hi with|0,_=>lT n (mF n (bf n n)) (bf n) (ww n))) (Yq n)
theorem Xl{W:World}(hG:ae W) (n:Nat):GG W (40,Y2 n) :=
 ac mixed ag Tryz.func40 (Zt n) (G40 n) [] trivial trivial (qX 1 (fun i hi=>match i,hi with|0,_=>lT n (iA n (aw n n)) (aw n) (qu n))) (Yo n)
theorem RN{W:World}(hG:ae W) (n:Nat):GG W (115,PQ n) :=
 ac mixed ag Tryz.func115 (We n) (Vg n) [] ⟨zi hG n,trivial⟩ trivial eL (Ti n)
theorem M6{W:World}(hG:ae W) (n:Nat):GG W (177,Fe n) :=
 ac mixed ag Tryz.func177 (VP n) (UA n) [] trivial trivial eL (Sw n)
theorem Q2{W:World}(hG:ae W) (n:Nat):GG W (229,Pb n) :=
 ac mixed ag Tryz.func229 (Vw n) (T9 n) [] trivial trivial eL (R4 n)
theorem Rd{W:World}(hG:ae W) (n:Nat):GG W (197,Pk n) :=
 ac mixed ag Tryz.func197 (VF n) (Um n) [] ⟨Q2 hG n,trivial⟩ trivial eL (Sh n)
theorem Rn{W:World}(hG:ae W) (n:Nat):GG W (176,Pt n) :=
 ac mixed ag Tryz.func176 (VQ n) (UB n) [] ⟨Rd hG n,trivial⟩ trivial eL (Sx n)
theorem Rz{W:World}(hG:ae W) (n:Nat):GG W (142,PF n) :=
 ac mixed ag Tryz.func142 (P9 n) (UV n) [] ⟨M6 hG n,Rn hG n,trivial⟩ trivial (qX 1 (fun i hi=>match i,hi with|0,_=>lT n (ny n (eC n n)) (eC n) (xr n))) (SR n)
theorem J2{W:World}(hG:ae W) (n:Nat):GG W (193,KX n) :=
 ac mixed ag Tryz.func193 (VI n) (Up n) [] trivial trivial eL (Sk n)
theorem Q7{W:World}(hG:ae W) (n:Nat):GG W (218,Pe n) :=
 ac mixed ag Tryz.func218 (VA n) (Ue n) [] trivial trivial eL (R9 n)
theorem Re{W:World}(hG:ae W) (n:Nat):GG W (191,Pl n) :=
 ac mixed ag Tryz.func191 (P3 n) (Ur n) [] ⟨J2 hG n,Q7 hG n,Q6 hG,Q5 hG,trivial⟩ trivial (qX 1 (fun i hi=>match i,hi with|0,_=>lT n (fY n (bD n n)) (bD n) (ov n))) (Sm n)
theorem CW{W:World}(hG:ae W) (n:Nat):GG W (192,Fd n) :=
 ac mixed ag Tryz.func192 (VJ n) (Uq n) [] trivial trivial eL (Sl n)
theorem Rr{W:World}(hG:ae W) (n:Nat):GG W (162,Py n) :=
 ac mixed ag Tryz.func162 (VW n) (UJ n) [] ⟨Re hG n,zi hG n,CW hG n,trivial⟩ trivial eL (SF n)
theorem Rq{W:World}(hG:ae W) (n:Nat):GG W (163,Px n) :=
 ac mixed ag Tryz.func163 (VV n) (UI n) [] ⟨J2 hG n,CW hG n,trivial⟩ trivial eL (SE n)
theorem QD (n:Nat):eT (MT n) (af Tryz.f164) (TR n):=⟨GS (qp n),trivial⟩
theorem M9{W:World}(hG:ae W) (n:Nat):GG W (164,MA n) :=
 ac mixed ag Tryz.func164 (MT n) (UH n) [] trivial trivial (Cc (QD n)) (SD n)
theorem Rs{W:World}(hG:ae W) (n:Nat):GG W (161,Pz n) :=
 ac mixed ag Tryz.func161 (VX n) (UK n) [] ⟨Rr hG n,M9 hG n,Rq hG n,trivial⟩ trivial eL (SG n)
theorem Rp{W:World}(hG:ae W) (n:Nat):GG W (165,Pw n) :=
 ac mixed ag Tryz.func165 (VU n) (UG n) [] ⟨M9 hG n,trivial⟩ trivial eL (SC n)
theorem Q4{W:World}(hG:ae W) (n:Nat):GG W (221,Pd n) :=
 ac mixed ag Tryz.func221 (P1 n) (Ud n) [] trivial trivial (qX 1 (fun i hi=>match i,hi with|0,_=>lT n (lC n (dw n n)) (dw n) (u5 n))) (R8 n)
theorem Q3{W:World}(hG:ae W) (n:Nat):GG W (223,Pc n) :=
 ac mixed ag Tryz.func223 (Vy n) (Ub n) [] trivial trivial eL (R6 n)
theorem M3{W:World}(hG:ae W) (n:Nat):GG W (224,Ms n) :=
 ac mixed ag Tryz.func224 (Vx n) (Ua n) [] ⟨CW hG n,trivial⟩ trivial eL (R5 n)
theorem JZ{W:World}(hG:ae W) (n k:Nat) (ih:GG W (194,I9 n k)):GG W (222,Mt n k) :=
 ac mixed ag Tryz.func222 (Vz n k) (Uc n k) [] ⟨ih,M3 hG n,trivial⟩ trivial eL (R7 n k)
theorem J1{W:World}(hG:ae W) (n:Nat):∀k,GG W (194,I9 n k)
 |0=>⟨gE Tryz.func194 (by kernel_rfl) (by kernel_rfl),fun _ _ _ _ _ _ _ h=>by cases h⟩
 |k+1 =>
  have ih:=J1 hG n k
  ac mixed ag Tryz.func194 (VH n k) (Uo n k) [] ⟨J2 hG n,CW hG n,Rs hG n,Q4 hG n,Q3 hG n,JZ hG n k ih,Rp hG n,ih,M3 hG n,trivial⟩ trivial eL (Sj n k)
theorem Zw{W:World}(hG:ae W) (n k:Nat):GG W (222,Mt n k):=JZ hG n k (J1 hG n k)
theorem Ro{W:World}(hG:ae W) (n:Nat):GG W (166,Pv n) :=
 ac mixed ag Tryz.func166 (VT n) (UF n) [] ⟨CW hG n,J1 hG n n,trivial⟩ trivial eL (SB n)
theorem Ng{W:World}(hG:ae W) (n:Nat):GG W (132,MG n) :=
 ac mixed ag Tryz.func132 (V6 n) (U2 n) [] ⟨Ro hG n,trivial⟩ trivial eL (SY n)
theorem RE{W:World}(hG:ae W) (n:Nat):GG W (134,PH n) :=
 ac mixed ag Tryz.func134 (V5 n) (U0 n) [] trivial trivial eL (SW n)
theorem Nf{W:World}(hG:ae W) (n:Nat):∀k,GG W (133,MF n k)
 |0=>⟨gE Tryz.func133 (by kernel_rfl) (by kernel_rfl),fun _ _ _ _ _ _ _ h=>by cases h⟩
 |k+1 =>
  have ih:=Nf hG n k
  ac mixed ag Tryz.func133 (Qa n k) (U1 n k) [] ⟨ih,trivial⟩ trivial (qX 1 (fun i hi=>match i,hi with|0,_=>lT n (iz n (ci n (bT n k) n)) (ci n (bT n k)) (fun m x=>qr n m k x))) (SX n k)
theorem Rc{W:World}(hG:ae W) (n:Nat):GG W (198,Pj n) :=
 ac mixed ag Tryz.func198 (VE n) (Ul n) [] ⟨Ng hG n,trivial⟩ trivial eL (Sg n)
theorem Rm{W:World}(hG:ae W) (n:Nat):GG W (178,Ps n) :=
 ac mixed ag Tryz.func178 (VO n) (Uz n) [] ⟨Ng hG n,RE hG n,Nf hG n n,Rc hG n,trivial⟩ trivial eL (Sv n)
theorem Nd{W:World}(hG:ae W) (n:Nat):GG W (143,Ff n) :=
 ac mixed ag Tryz.func143 (P8 n) (UU n) [] ⟨Rm hG n,zi hG n,trivial⟩ trivial (qX 1 (fun i hi=>match i,hi with|0,_=>lT n (mD n (dW n n)) (dW n) (wu n))) (SQ n)
theorem Ry{W:World}(hG:ae W) (n:Nat):rI Tryz.prog (gb.of W) (144,ME n):=xV (Nd hG n) (M6 hG n)
theorem RQ{W:World}(hG:ae W) (n:Nat):GG W (114,PR n) :=
 ac mixed ag Tryz.func114 (Qe n) (Vh n) [] ⟨RB hG,Rz hG n,Nd hG n,Ry hG n,trivial⟩ trivial (qX 1 (fun i hi=>match i,hi with|0,_=>lT n (jQ n (cJ n n)) (cJ n) (sx n))) (Tj n)
theorem W8{W:World}(hG:ae W) (n:Nat):GG W (79,YP n) :=
 ac mixed ag Tryz.func79 (E79 n) (Z1 n) [] ⟨RN hG n,RQ hG n,trivial⟩ trivial eL (XT n)
theorem Q1{W:World}(hG:ae W) (n:Nat):GG W (42,WH n) :=
 ac mixed ag Tryz.func42 (E42 n) (G42 n) [] ⟨zi hG n,trivial⟩ trivial eL (Ym n)
theorem W7{W:World}(hG:ae W) (n:Nat):GG W (80,YO n) :=
 ac mixed ag Tryz.func80 (Zm n) (Z0 n) [] ⟨Ov hG n,QS hG n,trivial⟩ trivial (qX 1 (fun i hi=>match i,hi with|0,_=>lT n (nz n (bW n n)) (bW n) (xu n))) (XS n)
theorem Xk{W:World}(hG:ae W) (n:Nat):GG W (41,Y1 n) :=
 ac mixed ag Tryz.func41 (E41 n) (G41 n) [] ⟨W8 hG n,Q1 hG n,W7 hG n,zi hG n,Ov hG n,trivial⟩ trivial eL (Yn n)
theorem W9{W:World}(hG:ae W) (n:Nat):GG W (73,YQ n) :=
 ac mixed ag Tryz.func73 (E73 n) (Z5 n) [] ⟨zi hG n,trivial⟩ trivial eL (XX n)
theorem Ox{W:World}(hG:ae W) (n:Nat):GG W (43,TH n) :=
 ac mixed ag Tryz.func43 (E43 n) (G43 n) [] ⟨W9 hG n,trivial⟩ trivial eL (Yl n)
theorem Xj{W:World}(hG:ae W) (n:Nat):GG W (44,Y0 n) :=
 ac mixed ag Tryz.func44 (WN n) (G44 n) [] ⟨Ox hG n,trivial⟩ trivial (qX 2 (fun i hi=>match i,hi with|0,_=>lT n (iB n (aM n n)) (aM n) (qv n)|1,_=>lT n (gT n (aE n n)) (aE n) (pP n))) (Yk n)
theorem QR{W:World}(hG:ae W) (n:Nat):GG W (9,S9 n) :=
 ac mixed ag Tryz.func9 (E9 n) (G9 n) [] ⟨Xm hG n,zi hG n,Xl hG n,Xk hG n,Q1 hG n,Ox hG n,Xj hG n,trivial⟩ trivial (qX 3 (fun i hi=>match i,hi with|0,_=>lT n (lD n (bR n n)) (bR n) (u6 n)|1,_=>lT n (kU n (bn n n)) (bn n) (tN n)|2,_=>lT n (kT n (bm n n)) (bm n) (tM n))) (eq9 n)
theorem QZ{W:World}(hG:ae W) (n:Nat):GG W (50,WF n) :=
 ac mixed ag Tryz.func50 (Zq n) (G50 n) [] trivial trivial (qX 1 (fun i hi=>match i,hi with|0,_=>lT n (gu n (aI n n)) (aI n) (oJ n))) (Ye n)
theorem Xv{W:World}(hG:ae W) (n:Nat):GG W (11,Zc n) :=
 ac mixed ag Tryz.func11 (E11 n) (G11 n) [] ⟨QR hG n,QZ hG n,trivial⟩ trivial eL (Yz n)
theorem QY{W:World}(hG:ae W) (n:Nat):GG W (51,WE n) :=
 ac mixed ag Tryz.func51 (Zp n) (G51 n) [] trivial trivial (qX 1 (fun i hi=>match i,hi with|0,_=>lT n (kL n (br n n)) (br n) (tF n))) (Yd n)
theorem Xu{W:World}(hG:ae W) (n:Nat):GG W (12,Zb n) :=
 ac mixed ag Tryz.func12 (E12 n) (G12 n) [] ⟨Ez hG n,QY hG n,trivial⟩ trivial eL (Yy n)
theorem QX{W:World}(hG:ae W) (n:Nat):GG W (52,WD n) :=
 ac mixed ag Tryz.func52 (E52 n) (G52 n) [] ⟨QZ hG n,trivial⟩ trivial eL (Yc n)
theorem Xt{W:World}(hG:ae W) (n:Nat):GG W (13,Za n) :=
 ac mixed ag Tryz.func13 (E13 n) (G13 n) [] ⟨QR hG n,QX hG n,trivial⟩ trivial eL (Yx n)
theorem W2{W:World}(hG:ae W) (n:Nat):GG W (90,YJ n) :=
 ac mixed ag Tryz.func90 (E90 n) (ZQ n) [] trivial trivial eL (XI n)
theorem RL{W:World}(hG:ae W) (n:Nat):GG W (120,PO n) :=
 ac mixed ag Tryz.func120 (Qb n) (Vb n) [] ⟨W2 hG n,trivial⟩ trivial (qX 1 (fun i hi=>match i,hi with|0,_=>lT n (dA n (ai n n)) (ai n) (kD n))) (Td n)
theorem W3{W:World}(hG:ae W) (n:Nat):GG W (89,YK n) :=
 ac mixed ag Tryz.func89 (E89 n) (ZR n) [] ⟨RL hG n,trivial⟩ trivial eL (XJ n)
theorem QW{W:World}(hG:ae W) (n:Nat):GG W (54,WC n) :=
 ac mixed ag Tryz.func54 (E54 n) (G54 n) [] ⟨Ox hG n,W3 hG n,trivial⟩ trivial eL (Ya n)
theorem W1{W:World}(hG:ae W) (n:Nat):GG W (96,YI n) :=
 ac mixed ag Tryz.func96 (Zh n) (ZO n) [] trivial trivial (qX 1 (fun i hi=>match i,hi with|0,_=>lT n (ej n (ak n n)) (ak n) (mj n))) (XG n)
theorem Xe{W:World}(hG:ae W) (n:Nat):GG W (64,YV n) :=
 ac mixed ag Tryz.func64 (E64 n) (G64 n) [] ⟨W1 hG n,trivial⟩ trivial eL (X6 n)
theorem W4{W:World}(hG:ae W) (n:Nat):GG W (88,YL n) :=
 ac mixed ag Tryz.func88 (E88 n) (ZS n) [] ⟨Xe hG n,trivial⟩ trivial eL (XK n)
theorem Xg{W:World}(hG:ae W) (n:Nat):GG W (53,YX n) :=
 ac mixed ag Tryz.func53 (E53 n) (G53 n) [] ⟨QX hG n,QW hG n,W4 hG n,trivial⟩ trivial eL (Yb n)
theorem Xs{W:World}(hG:ae W) (n:Nat):GG W (14,Y9 n) :=
 ac mixed ag Tryz.func14 (E14 n) (G14 n) [] ⟨QR hG n,Xg hG n,trivial⟩ trivial eL (Yw n)
theorem Xr{W:World}(hG:ae W) (n:Nat):GG W (15,Y8 n) :=
 ac mixed ag Tryz.func15 (E15 n) (G15 n) [] ⟨QR hG n,QW hG n,trivial⟩ trivial eL (Yv n)
theorem QV{W:World}(hG:ae W) (n:Nat):GG W (55,WB n) :=
 ac mixed ag Tryz.func55 (E55 n) (G55 n) [] ⟨QY hG n,trivial⟩ trivial eL (X9 n)
theorem Xq{W:World}(hG:ae W) (n:Nat):GG W (16,Y7 n) :=
 ac mixed ag Tryz.func16 (E16 n) (G16 n) [] ⟨Ez hG n,QV hG n,trivial⟩ trivial eL (Yu n)
theorem QU{W:World}(hG:ae W) (n:Nat):GG W (57,WA n) :=
 ac mixed ag Tryz.func57 (Zo n) (G57 n) [] ⟨xk hG n,trivial⟩ trivial (qX 1 (fun i hi=>match i,hi with|0,_=>lT n (kK n (bl n n)) (bl n) (tE n))) (X7 n)
theorem Xf{W:World}(hG:ae W) (n:Nat):GG W (56,YW n) :=
 ac mixed ag Tryz.func56 (E56 n) (G56 n) [] ⟨QV hG n,QU hG n,Ew hG n,trivial⟩ trivial eL (X8 n)
theorem Xp{W:World}(hG:ae W) (n:Nat):GG W (17,Y6 n) :=
 ac mixed ag Tryz.func17 (E17 n) (G17 n) [] ⟨Ez hG n,Xf hG n,trivial⟩ trivial eL (Yt n)
theorem Xo{W:World}(hG:ae W) (n:Nat):GG W (18,Y5 n) :=
 ac mixed ag Tryz.func18 (E18 n) (G18 n) [] ⟨Ez hG n,QU hG n,trivial⟩ trivial eL (Ys n)
theorem ob3{W:World}(hG:ae W) (n:Nat):GG W (3,S3 n) :=
 ac mixed ag Tryz.func3 (E3 n) (G3 n) [] ⟨ob7 hG n,ob8 hG n,QR hG n,Ez hG n,Xv hG n,Xu hG n,Xt hG n,Xs hG n,Xr hG n,Xq hG n,Xp hG n,Xo hG n,trivial⟩ trivial eL (eq3 n)
end AM
end Go.Proofs.YtpgigedclifoeaaGreatDoor
