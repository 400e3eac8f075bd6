/- Each function that the laws reach obeys its summary. Under: what the rows list of the library's variables. -/
import Derived.Test.YtpgigedclifoeaaGreatDoorNALd
import Derived.Test.YtpgigedclifoeaaGreatDoorNW3
import Derived.Test.YtpgigedclifoeaaGreatDoorNW4
import Derived.Test.YtpgigedclifoeaaGreatDoorProg
import Derived.Test.YtpgigedclifoeaaGreatDoorNShelf
import Derived.Test.YtpgigedclifoeaaGreatDoorNP1
import Derived.Lib.IndexMore
import Derived.Lib.ItoaNum
import Derived.Lib.Split
import Derived.Lib.CountLaws
import Derived.Lib.SlicesCompact
namespace Go.Proofs.YtpgigedclifoeaaGreatDoor
namespace AM
open Go
set_option linter.unusedVariables false
abbrev GG (W:World) (p:Nat×aa):Prop:=qX Tryz.prog (fN.of W) p
theorem ZR{W:World}(hG:ag W) (n:Nat):GG W (7,S7 n) :=
 ac mixed ah Tryz.func7 (E7 n) (G7 n) [] trivial trivial fQ (ZV n)
theorem Wy{W:World}(hG:ag W) (n:Nat):GG W (65,XR n) :=
 ac mixed ah Tryz.func65 (Yg n) (Y1 n) [] trivial trivial (qz 1 (fun i hi=>match i,hi with|0,_=>lw n (mW n (di n n)) (di n) (xb n))) (Xg n)
theorem Wn{W:World}(hG:ag W) (n:Nat):GG W (98,XH n) :=
 ac mixed ah Tryz.func98 (Zn n) (YD n) [] trivial trivial fQ (WS n)
theorem JS{W:World}(hG:ag W) (n:Nat):GG W (117,KL n) :=
 ac mixed ah Tryz.func117 (PM n) (UH n) [] trivial trivial (qz 1 (fun i hi=>match i,hi with|0,_=>lw n (lQ n (bm n n)) (bm n) (vM n))) (SH n)
theorem MX{W:World}(hG:ag W) (n:Nat):GG W (124,Mp n) :=
 ac mixed ah Tryz.func124 (VC n) (UD n) [] trivial trivial fQ (SD n)
theorem xX{W:World}(hG:ag W) (n:Nat):GG W (46,IL n) :=
 ac mixed ah Tryz.func46 (Zz n) (Y6 n) [] trivial trivial fQ (Xl n)
theorem JT{W:World}(hG:ag W) (n:Nat):GG W (116,KM n) :=
 ac mixed ah Tryz.func116 (VF n) (UI n) [] ⟨MX hG n,xX hG n,trivial⟩ trivial fQ (SI n)
theorem CL{W:World}(hG:ag W) (n:Nat):GG W (126,E1 n) :=
 ac mixed ah Tryz.func126 (VB n) (UC n) [] trivial trivial fQ (SC n)
theorem Qq (n:Nat):eL (ME n) (ae Tryz.f102) (Tq n):=⟨mw (vB n) [(4,4)],trivial⟩
theorem xY{W:World}(hG:ag W) (n:Nat):GG W (102,BU n) :=
 ac mixed ah Tryz.func102 (ME n) (UV n) [] ⟨JS hG n,JT hG n,CL hG n,trivial⟩ trivial (BX (Qq n)) (SV n)
theorem NU (n:Nat):eL (F7 n) (ae Tryz.f102) (Ng n):=⟨mw (sV n) [(4,4)],trivial⟩
theorem JU{W:World}(hG:ag W) (n:Nat):GG W (102,F2 n) :=
 ac mixed ah Tryz.func102 (F7 n) (Nt n) [] ⟨JS hG n,JT hG n,CL hG n,trivial⟩ trivial (BX (NU n)) (Ow n)
theorem xZ{W:World}(hG:ag W) (n:Nat):GG W (100,BV n) :=
 ac mixed ah Tryz.func100 (VP n) (UX n) [] ⟨xY hG n,trivial⟩ trivial fQ (SX n)
theorem JV{W:World}(hG:ag W) (n:Nat):GG W (100,F3 n) :=
 ac mixed ah Tryz.func100 (ND n) (Nu n) (No n) trivial ⟨JU hG n,trivial⟩ fQ (Ox n)
theorem Em{W:World}(hG:ag W) (n:Nat):GG W (84,L8 n) :=
 ac mixed ah Tryz.func84 (Zq n) (YK n) [] ⟨xX hG n,trivial⟩ trivial fQ (WZ n)
theorem Fp{W:World}(hG:ag W) (n:Nat):GG W (101,IQ n) :=
 ac mixed ah Tryz.func101 (VO n) (UW n) [] ⟨Em hG n,trivial⟩ trivial fQ (SW n)
theorem Eo{W:World}(hG:ag W) (n:Nat):GG W (49,L9 n) :=
 ac mixed ah Tryz.func49 (Yh n) (Y3 n) [] trivial trivial (qz 1 (fun i hi=>match i,hi with|0,_=>lw n (kT n (bv n n)) (bv n) (uI n))) (Xi n)
theorem Lz{W:World}(hG:ag W) (n:Nat):GG W (91,PZ n) :=
 ac mixed ah Tryz.func91 (X9 n) (YG n) [] ⟨Eo hG n,trivial⟩ trivial (qz 1 (fun i hi=>match i,hi with|0,_=>lw n (mU n (bi n n)) (bi n) (w9 n))) (WV n)
theorem Oc{W:World}(hG:ag W) (n:Nat):GG W (91,KQ n) :=
 ac mixed ah Tryz.func91 (KZ n) (Nw n) [] ⟨Eo hG n,trivial⟩ trivial (qz 1 (fun i hi=>match i,hi with|0,_=>lw n (kM n (bL n n)) (bL n) (uC n))) (Oz n)
theorem Wh (n:Nat):eL (P3 n) (ae Tryz.f68) (Yy n):=⟨Wk (rQ n) [(1,[1,0])],trivial⟩
theorem Qv{W:World}(hG:ag W) (n:Nat):GG W (68,V1 n) :=
 ac mixed ah Tryz.func68 (P3 n) (YY n) [] ⟨xZ hG n,Fp hG n,xY hG n,Lz hG n,trivial⟩ trivial (C9 2 (fun i hi=>match i,hi with|0,_=>lw n (kf n (bu n n)) (bu n) (tf n)|1,_=>lw n (ke n (br n n)) (br n) (td n)) (Wh n)) (Xd n)
theorem NX (n:Nat):eL (AP n) (ae Tryz.f68) (Nj n):=⟨GC (pV n),trivial⟩
theorem Oe{W:World}(hG:ag W) (n:Nat):GG W (68,KS n) :=
 ac mixed ah Tryz.func68 (AP n) (NA n) (Nq n) ⟨Fp hG n,trivial⟩ ⟨JV hG n,JV hG n,JU hG n,Oc hG n,trivial⟩ (C9 2 (fun i hi=>match i,hi with|0,_=>lw n (iJ n (bG n n)) (bG n) (qN n)|1,_=>lw n (iI n (bF n n)) (bF n) (qM n)) (NX n)) (OD n)
theorem Rk{W:World}(hG:ag W) (n:Nat):GG W (112,Pt n) :=
 ac mixed ah Tryz.func112 (VI n) (UM n) [] trivial trivial fQ (SM n)
theorem CJ{W:World}(hG:ag W) (n:Nat):GG W (76,K3 n) :=
 ac mixed ah Tryz.func76 (Zu n) (YS n) [] ⟨Rk hG n,trivial⟩ trivial fQ (W7 n)
theorem N8{W:World}(hG:ag W) (n:Nat):GG W (67,S6 n) :=
 ac mixed ah Tryz.func67 (Zw n) (YZ n) [] ⟨CJ hG n,trivial⟩ trivial fQ (Xe n)
theorem JY{W:World}(hG:ag W) (n:Nat):GG W (106,KT n) :=
 ac mixed ah Tryz.func106 (VL n) (UR n) [] trivial trivial fQ (SR n)
theorem M0{W:World}(hG:ag W) (n:Nat):GG W (107,Ms n) :=
 ac mixed ah Tryz.func107 (PO n) (UQ n) [] trivial trivial (qz 1 (fun i hi=>match i,hi with|0,_=>lw n (mV n (cN n n)) (cN n) (xa n))) (SQ n)
theorem MZ{W:World}(hG:ag W) (n:Nat):GG W (108,Mr n) :=
 ac mixed ah Tryz.func108 (VK n) (UP n) [] ⟨CJ hG n,trivial⟩ trivial fQ (SP n)
theorem Wf (n:Nat):eL (V7 n) (ae Tryz.f70) (Yw n):=⟨Ju (pU n),trivial⟩
theorem Qu{W:World}(hG:ag W) (n:Nat):GG W (70,V0 n) :=
 ac mixed ah Tryz.func70 (V7 n) (YW n) [] ⟨CJ hG n,N8 hG n,JY hG n,M0 hG n,MZ hG n,trivial⟩ trivial (BX (Wf n)) (Xb n)
theorem NV (n:Nat):eL (F9 n) (ae Tryz.f70) (Nh n):=⟨Ju (oq n),trivial⟩
theorem JX{W:World}(hG:ag W) (n:Nat):GG W (70,F4 n) :=
 ac mixed ah Tryz.func70 (F9 n) (Ny n) [] ⟨CJ hG n,N8 hG n,JY hG n,M0 hG n,MZ hG n,trivial⟩ trivial (BX (NV n)) (OB n)
theorem N5{W:World}(hG:ag W) (n:Nat):GG W (81,S2 n) :=
 ac mixed ah Tryz.func81 (Yc n) (YN n) [] ⟨JT hG n,JS hG n,trivial⟩ trivial (qz 1 (fun i hi=>match i,hi with|0,_=>lw n (lW n (cw n n)) (cw n) (vS n))) (W2 n)
theorem JH{W:World}(hG:ag W) (n:Nat):GG W (87,OM n) :=
 ac mixed ah Tryz.func87 (Zo n) (YH n) [] ⟨xX hG n,trivial⟩ trivial fQ (WW n)
theorem Wq{W:World}(hG:ag W) (n:Nat):GG W (82,XK n) :=
 ac mixed ah Tryz.func82 (Yb n) (YM n) [] ⟨JH hG n,trivial⟩ trivial (qz 1 (fun i hi=>match i,hi with|0,_=>lw n (lO n (bb n n)) (bb n) (vK n))) (W1 n)
theorem Qx{W:World}(hG:ag W) (n:Nat):GG W (45,V3 n) :=
 ac mixed ah Tryz.func45 (ZA n) (Y7 n) [] ⟨N5 hG n,Wq hG n,trivial⟩ trivial fQ (Xm n)
theorem WA{W:World}(hG:ag W) (n:Nat):GG W (47,XT n) :=
 ac mixed ah Tryz.func47 (Yi n) (Y5 n) [] ⟨xX hG n,trivial⟩ trivial (qz 1 (fun i hi=>match i,hi with|0,_=>lw n (lR n (bc n n)) (bc n) (vN n))) (Xk n)
theorem MY{W:World}(hG:ag W) (n:Nat):GG W (118,Mq n) :=
 ac mixed ah Tryz.func118 (VE n) (UG n) [] trivial trivial fQ (SG n)
theorem N4{W:World}(hG:ag W) (n:Nat):GG W (83,S1 n) :=
 ac mixed ah Tryz.func83 (Zr n) (YL n) [] ⟨MY hG n,trivial⟩ trivial fQ (W0 n)
theorem Wp{W:World}(hG:ag W) (n:Nat):GG W (85,XJ n) :=
 ac mixed ah Tryz.func85 (Ya n) (YJ n) [] ⟨JH hG n,trivial⟩ trivial (qz 1 (fun i hi=>match i,hi with|0,_=>lw n (lT n (bB n n)) (bB n) (vP n))) (WY n)
theorem QS{W:World}(hG:ag W) (n:Nat):GG W (181,O3 n) :=
 ac mixed ah Tryz.func181 (Vf n) (TZ n) [] trivial trivial fQ (R0 n)
theorem Q4{W:World}(hG:ag W) (n:Nat):GG W (145,Pf n) :=
 ac mixed ah Tryz.func145 (PH n) (Un n) [] ⟨QS hG n,trivial⟩ trivial (qz 1 (fun i hi=>match i,hi with|0,_=>lw n (lS n (dk n n)) (dk n) (vO n))) (Sm n)
theorem MO{W:World}(hG:ag W) (n:Nat):GG W (172,Mh n) :=
 ac mixed ah Tryz.func172 (PF n) (T8 n) [] trivial trivial (qz 1 (fun i hi=>match i,hi with|0,_=>lw n (lP n (cO n n)) (cO n) (vL n))) (R7 n)
theorem ML{W:World}(hG:ag W) (n:Nat):GG W (195,Me n) :=
 ac mixed ah Tryz.func195 (U8 n) (TN n) [] trivial trivial fQ (RN n)
theorem MN{W:World}(hG:ag W) (n:Nat):GG W (174,Mf n) :=
 ac mixed ah Tryz.func174 (Vj n) (T6 n) [] trivial trivial fQ (R5 n)
theorem JQ{W:World}(hG:ag W) (n:Nat):GG W (138,KK n) :=
 ac mixed ah Tryz.func138 (Vv n) (Us n) [] ⟨MX hG n,trivial⟩ trivial fQ (Sr n)
theorem JN{W:World}(hG:ag W) (n k:Nat) (ih:GG W (137,IP n k)):GG W (173,Mg n k) :=
 ac mixed ah Tryz.func173 (Vk n k) (T7 n k) [] ⟨ML hG n,ih,trivial⟩ trivial fQ (R6 n k)
theorem JR{W:World}(hG:ag W) (n:Nat):∀k,GG W (137,IP n k)
 |0=>⟨gf Tryz.func137 (by kernel_rfl) (by kernel_rfl),fun _ _ _ _ _ _ _ h=>by cases h⟩
 |k+1 =>
  have ih:=JR hG n k
  ac mixed ah Tryz.func137 (Vw n k) (Ut n k) [] ⟨JQ hG n,MO hG n,JN hG n k ih,MN hG n,ih,trivial⟩ trivial fQ (Ss n k)
theorem Yp{W:World}(hG:ag W) (n k:Nat):GG W (173,Mg n k):=JN hG n k (JR hG n k)
theorem JW{W:World}(hG:ag W) (n:Nat):GG W (110,KO n) :=
 ac mixed ah Tryz.func110 (VJ n) (UO n) [] ⟨JR hG n n,trivial⟩ trivial fQ (SO n)
theorem QR{W:World}(hG:ag W) (n:Nat):GG W (182,O2 n) :=
 ac mixed ah Tryz.func182 (Ve n) (TY n) [] ⟨JW hG n,trivial⟩ trivial fQ (RZ n)
theorem Q3{W:World}(hG:ag W) (n:Nat):GG W (146,Pe n) :=
 ac mixed ah Tryz.func146 (PG n) (Um n) [] ⟨xX hG n,QR hG n,trivial⟩ trivial (qz 1 (fun i hi=>match i,hi with|0,_=>lw n (lV n (dN n n)) (dN n) (vR n))) (Sl n)
theorem Rg{W:World}(hG:ag W) (n:Nat):GG W (119,Pp n) :=
 ac mixed ah Tryz.func119 (PL n) (UF n) [] ⟨Q4 hG n,Q3 hG n,trivial⟩ trivial (qz 1 (fun i hi=>match i,hi with|0,_=>lw n (jj n (cn n n)) (cn n) (rS n))) (SF n)
theorem N3{W:World}(hG:ag W) (n:Nat):GG W (86,S0 n) :=
 ac mixed ah Tryz.func86 (Zp n) (YI n) [] ⟨MY hG n,Rg hG n,trivial⟩ trivial fQ (WX n)
theorem Wz{W:World}(hG:ag W) (n:Nat):GG W (48,XS n) :=
 ac mixed ah Tryz.func48 (Zy n) (Y4 n) [] ⟨N4 hG n,Em hG n,Wp hG n,N3 hG n,JH hG n,xX hG n,trivial⟩ trivial fQ (Xj n)
theorem LB{W:World}(hG:ag W) (n:Nat):GG W (10,P0 n) :=
 ac mixed ah Tryz.func10 (VQ n) (Zk n) [] ⟨Qx hG n,xX hG n,WA hG n,Wz hG n,Eo hG n,trivial⟩ trivial (qz 3 (fun i hi=>match i,hi with|0,_=>lw n (kS n (aZ n n)) (aZ n) (uH n)|1,_=>lw n (kc n (aW n n)) (aW n) (tc n)|2,_=>lw n (kb n (bp n n)) (bp n) (ta n))) (Xz n)
theorem M3{W:World}(hG:ag W) (n:Nat):GG W (103,Mv n) :=
 ac mixed ah Tryz.func103 (VN n) (UU n) [] trivial trivial fQ (SU n)
theorem Ra{W:World}(hG:ag W) (n:Nat):GG W (131,Pj n) :=
 ac mixed ah Tryz.func131 (Vz n) (Ux n) [] trivial trivial fQ (Sx n)
theorem N9{W:World}(hG:ag W) (n:Nat):GG W (131,KN n) :=
 ac mixed ah Tryz.func131 (NC n) (Nr n) [] trivial trivial fQ (Ou n)
theorem Qp (n:Nat):eL (IW n) (ae Tryz.f105) (Tp n):=⟨mw (uu n) [(6,8),(12,14),(16,18),(20,22)],GC (ut n),trivial⟩
theorem M1{W:World}(hG:ag W) (n:Nat):GG W (105,Mt n) :=
 ac mixed ah Tryz.func105 (IW n) (US n) (Tu n) ⟨CL hG n,trivial⟩ ⟨N9 hG n,trivial⟩ (C9 1 (fun i hi=>match i,hi with|0,_=>lw n (kR n (cE n n)) (cE n) (uG n)) (Qp n)) (SS n)
theorem QQ{W:World}(hG:ag W) (n:Nat):GG W (186,O1 n) :=
 ac mixed ah Tryz.func186 (PE n) (TX n) [] trivial trivial (qz 1 (fun i hi=>match i,hi with|0,_=>lw n (lX n (cx n n)) (cx n) (vT n))) (RY n)
theorem MR{W:World}(hG:ag W) (n:Nat):GG W (158,Mk n) :=
 ac mixed ah Tryz.func158 (Vr n) (Uh n) [] ⟨Em hG n,trivial⟩ trivial fQ (Sg n)
theorem QN{W:World}(hG:ag W) (n:Nat):GG W (190,OY n) :=
 ac mixed ah Tryz.func190 (Vc n) (TT n) [] trivial trivial fQ (RU n)
theorem MQ{W:World}(hG:ag W) (n:Nat):GG W (159,Mj n) :=
 ac mixed ah Tryz.func159 (Vq n) (Ug n) [] ⟨Em hG n,JY hG n,QN hG n,trivial⟩ trivial fQ (Sf n)
theorem Qk (n:Nat):eL (IU n) (ae Tryz.f154) (Tk n):=⟨mw (s5 n) [(10,18)],mw (sZ n) [(3,10),(4,11)],trivial⟩
theorem Q2{W:World}(hG:ag W) (n:Nat):GG W (154,Pd n) :=
 ac mixed ah Tryz.func154 (IU n) (Ul n) [] ⟨N5 hG n,N4 hG n,CL hG n,Em hG n,QQ hG n,MR hG n,MQ hG n,Fp hG n,xZ hG n,xY hG n,trivial⟩ trivial (C9 1 (fun i hi=>match i,hi with|0,_=>lw n (kg n (bx n n)) (bx n) (th n)) (Qk n)) (Sk n)
theorem QJ{W:World}(hG:ag W) (n:Nat):GG W (212,OU n) :=
 ac mixed ah Tryz.func212 (U5 n) (TK n) [] ⟨xX hG n,trivial⟩ trivial fQ (RK n)
theorem JP{W:World}(hG:ag W) (n:Nat):GG W (139,KJ n) :=
 ac mixed ah Tryz.func139 (Vu n) (Ur n) [] ⟨JH hG n,xY hG n,trivial⟩ trivial fQ (Sq n)
theorem Qo (n k:Nat):eL (MD n k) (ae Tryz.f111) (To n k):=⟨mw (uz n k) [(6,8)],trivial⟩
theorem Rm{W:World}(hG:ag W) (n:Nat):∀k,GG W (111,Pv n k)
 |0=>⟨gf Tryz.func111 (by kernel_rfl) (by kernel_rfl),fun _ _ _ _ _ _ _ h=>by cases h⟩
 |k+1 =>
  have ih:=Rm hG n k
  ac mixed ah Tryz.func111 (MD n k) (UN n k) [] ⟨xZ hG n,ih,JQ hG n,xY hG n,JP hG n,trivial⟩ trivial (BX (Qo n k)) (SN n k)
theorem NT (n k:Nat):eL (F6 n k) (ae Tryz.f111) (Nf n k):=⟨mw (rP n k) [(6,8)],trivial⟩
theorem Ep{W:World}(hG:ag W) (n:Nat):∀k,GG W (111,AJ n k)
 |0=>⟨gf Tryz.func111 (by kernel_rfl) (by kernel_rfl),fun _ _ _ _ _ _ _ h=>by cases h⟩
 |k+1 =>
  have ih:=Ep hG n k
  ac mixed ah Tryz.func111 (F6 n k) (Ns n k) (Nn n k) ⟨xZ hG n,JQ hG n,xY hG n,JP hG n,trivial⟩ ⟨ih,ih,trivial⟩ (BX (NT n k)) (Ov n k)
theorem Qf (n:Nat):eL (DI n) (ae Tryz.f187) (Tf n):=⟨mw (vF n) [(4,6),(5,7)],mw (vE n) [(7,14)],mw (vD n) [(4,6),(5,7)],mw (vC n) [(4,6),(5,7)],trivial⟩
theorem QP{W:World}(hG:ag W) (n:Nat):GG W (187,O0 n) :=
 ac mixed ah Tryz.func187 (DI n) (TW n) (Tt n) ⟨Ra hG n,N3 hG n,QJ hG n,xZ hG n,JW hG n,trivial⟩ ⟨Ep hG n n,trivial⟩ (C9 1 (fun i hi=>match i,hi with|0,_=>lw n (mX n (am n n)) (am n) (xc n)) (Qf n)) (RX n)
theorem Qh (n:Nat):eL (KY n) (ae Tryz.f160) (Th n):=⟨mw (ur n) [(5,4)],trivial⟩
theorem JO{W:World}(hG:ag W) (n:Nat):GG W (160,KI n) :=
 ac mixed ah Tryz.func160 (KY n) (Uf n) [] ⟨Lz hG n,trivial⟩ trivial (C9 1 (fun i hi=>match i,hi with|0,_=>lw n (kP n (cD n n)) (cD n) (uE n)) (Qh n)) (Se n)
theorem Qj (n:Nat):eL (MA n) (ae Tryz.f155) (Tj n):=⟨Ju (w8 n),trivial⟩
theorem MT{W:World}(hG:ag W) (n:Nat):GG W (155,Ml n) :=
 ac mixed ah Tryz.func155 (MA n) (Uk n) [] ⟨QP hG n,Eo hG n,JO hG n,trivial⟩ trivial (BX (Qj n)) (Sj n)
theorem Re{W:World}(hG:ag W) (n:Nat):GG W (127,Pn n) :=
 ac mixed ah Tryz.func127 (VA n) (UB n) [] ⟨N4 hG n,Em hG n,Q2 hG n,MT hG n,trivial⟩ trivial fQ (SB n)
theorem QI{W:World}(hG:ag W) (n:Nat):GG W (213,OT n) :=
 ac mixed ah Tryz.func213 (PC n) (TJ n) [] trivial trivial (qz 1 (fun i hi=>match i,hi with|0,_=>lw n (lU n (cP n n)) (cP n) (vQ n))) (RJ n)
theorem Rf{W:World}(hG:ag W) (n:Nat):GG W (123,Po n) :=
 ac mixed ah Tryz.func123 (VD n) (UE n) [] ⟨xX hG n,trivial⟩ trivial fQ (SE n)
theorem QH{W:World}(hG:ag W) (n:Nat):GG W (214,OS n) :=
 ac mixed ah Tryz.func214 (U4 n) (TH n) [] trivial trivial fQ (RI n)
theorem Qd (n:Nat):eL (Mx n) (ae Tryz.f216) (Td n):=⟨mw (uA n) [(3,8)],trivial⟩
theorem QG{W:World}(hG:ag W) (n:Nat):GG W (216,OR n) :=
 ac mixed ah Tryz.func216 (Mx n) (TF n) [] ⟨JP hG n,trivial⟩ trivial (BX (Qd n)) (RG n)
theorem JJ{W:World}(hG:ag W) (n k:Nat) (ih:GG W (188,IN n k)):GG W (215,Md n k) :=
 ac mixed ah Tryz.func215 (U3 n k) (TG n k) [] ⟨ML hG n,ih,trivial⟩ trivial fQ (RH n k)
theorem Qe (n k:Nat):eL (My n k) (ae Tryz.f188) (Te n k):=⟨mw (vG n k) [(6,8)],trivial⟩
theorem JM{W:World}(hG:ag W) (n:Nat):∀k,GG W (188,IN n k)
 |0=>⟨gf Tryz.func188 (by kernel_rfl) (by kernel_rfl),fun _ _ _ _ _ _ _ h=>by cases h⟩
 |k+1 =>
  have ih:=JM hG n k
  ac mixed ah Tryz.func188 (My n k) (TV n k) [] ⟨QI hG n,MO hG n,Rf hG n,xZ hG n,ih,QH hG n,JJ hG n k ih,QG hG n,MN hG n,xY hG n,trivial⟩ trivial (BX (Qe n k)) (RW n k)
theorem Yo{W:World}(hG:ag W) (n k:Nat):GG W (215,Md n k):=JJ hG n k (JM hG n k)
theorem Q1{W:World}(hG:ag W) (n:Nat):GG W (156,Pc n) :=
 ac mixed ah Tryz.func156 (Vs n) (Uj n) [] ⟨N5 hG n,CL hG n,Qx hG n,JM hG n n,trivial⟩ trivial fQ (Si n)
theorem Qc (n k:Nat):eL (Mw n k) (ae Tryz.f217) (Tc n k):=⟨mw (sY n k) [(8,10)],trivial⟩
theorem MK{W:World}(hG:ag W) (n:Nat):∀k,GG W (217,Mc n k)
 |0=>⟨gf Tryz.func217 (by kernel_rfl) (by kernel_rfl),fun _ _ _ _ _ _ _ h=>by cases h⟩
 |k+1 =>
  have ih:=MK hG n k
  ac mixed ah Tryz.func217 (Mw n k) (TE n k) (Tr n k) ⟨ih,trivial⟩ ⟨Ep hG n n,trivial⟩ (BX (Qc n k)) (RF n k)
theorem QO{W:World}(hG:ag W) (n:Nat):GG W (189,OZ n) :=
 ac mixed ah Tryz.func189 (Vd n) (TU n) [] ⟨MK hG n n,trivial⟩ trivial fQ (RV n)
theorem Qi (n:Nat):eL (DJ n) (ae Tryz.f157) (Ti n):=⟨mw (uy n) [(2,6),(3,7)],mw (ux n) [],mw (uw n) [(2,6),(3,7)],mw (uv n) [(2,6),(3,7)],mw (sX n) [(2,6),(3,7)],trivial⟩
theorem Q0{W:World}(hG:ag W) (n:Nat):GG W (157,Pb n) :=
 ac mixed ah Tryz.func157 (DJ n) (Ui n) [] ⟨JH hG n,N3 hG n,JW hG n,QO hG n,trivial⟩ trivial (BX (Qi n)) (Sh n)
theorem Qn (n:Nat):eL (MC n) (ae Tryz.f128) (Tn n):=⟨mw (uo n) [(15,10),(16,11)],trivial⟩
theorem Rd{W:World}(hG:ag W) (n:Nat):GG W (128,Pm n) :=
 ac mixed ah Tryz.func128 (MC n) (UA n) [] ⟨xX hG n,Q1 hG n,Q0 hG n,MT hG n,trivial⟩ trivial (BX (Qn n)) (SA n)
theorem Qm (n:Nat):eL (IV n) (ae Tryz.f129) (Tm n):=⟨mw (sW n) [(11,9)],trivial⟩
theorem Rc{W:World}(hG:ag W) (n:Nat):GG W (129,Pl n) :=
 ac mixed ah Tryz.func129 (IV n) (Uz n) [] ⟨Em hG n,Eo hG n,MR hG n,Fp hG n,MQ hG n,Lz hG n,xZ hG n,JO hG n,trivial⟩ trivial (C9 2 (fun i hi=>match i,hi with|0,_=>lw n (kQ n (ca n n)) (ca n) (uF n)|1,_=>lw n (j9 n (ce n n)) (ce n) (s9 n)) (Qm n)) (Sz n)
theorem Ql (n:Nat):eL (MB n) (ae Tryz.f130) (Tl n):=⟨Ju (uq n),trivial⟩
theorem Rb{W:World}(hG:ag W) (n:Nat):GG W (130,Pk n) :=
 ac mixed ah Tryz.func130 (MB n) (Uy n) [] ⟨xX hG n,Eo hG n,Lz hG n,JO hG n,trivial⟩ trivial (BX (Ql n)) (Sy n)
theorem M2{W:World}(hG:ag W) (n:Nat):GG W (104,Mu n) :=
 ac mixed ah Tryz.func104 (VM n) (UT n) [] ⟨Re hG n,Rd hG n,Rc hG n,Rb hG n,trivial⟩ trivial fQ (ST n)
theorem Wg (n:Nat):eL (V8 n) (ae Tryz.f69) (Yx n):=⟨GC (uB n),trivial⟩
theorem N7{W:World}(hG:ag W) (n:Nat):GG W (69,S4 n) :=
 ac mixed ah Tryz.func69 (V8 n) (YX n) [] ⟨LB hG n,M3 hG n,M1 hG n,M2 hG n,trivial⟩ trivial (BX (Wg n)) (Xc n)
theorem NW (n:Nat):eL (Ga n) (ae Tryz.f69) (Ni n):=⟨GC (rR n),trivial⟩
theorem Od{W:World}(hG:ag W) (n:Nat):GG W (69,F5 n) :=
 ac mixed ah Tryz.func69 (Ga n) (Nz n) [] ⟨LB hG n,M3 hG n,M1 hG n,M2 hG n,trivial⟩ trivial (BX (NW n)) (OC n)
theorem LA{W:World}(hG:ag W) (n:Nat):GG W (69,KR n):=Io (S:=F5 n) (Od hG n) KV
theorem ZP{W:World}(hG:ag W) (n:Nat):GG W (97,Yu n) :=
 ac mixed ah Tryz.func97 (V6 n) (YE n) [] ⟨Qv hG n,CJ hG n,Qu hG n,N7 hG n,trivial⟩ trivial (qz 2 (fun i hi=>match i,hi with|0,_=>lw n (iH n (bU n n)) (bU n) (qL n)|1,_=>lw n (gX n (cf n n)) (cf n) (pX n))) (WT n)
theorem Oa{W:World}(hG:ag W) (n:Nat):GG W (97,KP n) :=
 ac mixed ah Tryz.func97 (F8 n) (Nv n) (Np n) ⟨CJ hG n,N7 hG n,trivial⟩ ⟨Oe hG n,JX hG n,JX hG n,trivial⟩ (qz 2 (fun i hi=>match i,hi with|0,_=>lw n (gA n (aF n n)) (aF n) (py n)|1,_=>lw n (f8 n (aY n n)) (aY n) (ou n))) (Oy n) (l3:=Nl n) (hl3:=⟨LA hG n,trivial⟩)
theorem Wm{W:World}(hG:ag W) (n:Nat):GG W (99,XG n) :=
 ac mixed ah Tryz.func99 (Zm n) (YC n) [] ⟨CJ hG n,trivial⟩ trivial fQ (WR n)
theorem Wi (n:Nat):eL (V9 n) (ae Tryz.f66) (Yz n):=⟨GC (pw n),trivial⟩
theorem Wx{W:World}(hG:ag W) (n:Nat):GG W (66,XQ n) :=
 ac mixed ah Tryz.func66 (V9 n) (Y0 n) (YB n) ⟨Wn hG n,CJ hG n,Wm hG n,trivial⟩ ⟨Oa hG n,trivial⟩ (BX (Wi n)) (Xf n)
theorem Wj (n:Nat):eL (P4 n) (ae Tryz.f28) (YA n):=⟨Ju (qK n),mw (qJ n) [(2,2)],mw (qI n) [(2,2)],trivial⟩
theorem WI{W:World}(hG:ag W) (n:Nat):GG W (28,X3 n) :=
 ac mixed ah Tryz.func28 (P4 n) (Zi n) [] ⟨Wy hG n,Wx hG n,LB hG n,Qv hG n,N8 hG n,Qu hG n,N7 hG n,trivial⟩ trivial (BX (Wj n)) (Xx n)
theorem yX{W:World}(hG:ag W) (n:Nat):GG W (39,I4 n) :=
 ac mixed ah Tryz.func39 (ZE n) (Zd n) [] trivial trivial fQ (Xs n)
theorem N6{W:World}(hG:ag W) (n:Nat):GG W (77,S3 n) :=
 ac mixed ah Tryz.func77 (Zt n) (YR n) [] ⟨yX hG n,trivial⟩ trivial fQ (W6 n)
theorem WK{W:World}(hG:ag W) (n:Nat):GG W (77,Nd n) :=
 ac mixed ah Tryz.func77 (NE n) (Nx n) [] ⟨yX hG n,trivial⟩ trivial fQ (OA n)
theorem Q8{W:World}(hG:ag W) (n:Nat):GG W (140,Ph n) :=
 ac mixed ah Tryz.func140 (Vt n) (Uq n) [] trivial trivial fQ (Sp n)
theorem Rj{W:World}(hG:ag W) (n:Nat):GG W (113,Ps n) :=
 ac mixed ah Tryz.func113 (VH n) (UL n) [] ⟨Q8 hG n,yX hG n,trivial⟩ trivial fQ (SL n)
theorem We (n:Nat):eL (P2 n) (ae Tryz.f78) (Yv n):=⟨⟨by kernel_rfl,fun x y hy=>EV (vH n x) (fun v hv=>((show ∀v∈[ax n x,ax n x,ax n x,aX n x,aX n x,aX n x,ax n x,ax n x,ax n x,aX n x,aX n x,aX n x],v=ax n x from(List.forall_mem_cons.2 ⟨rfl,(List.forall_mem_cons.2 ⟨rfl,(List.forall_mem_cons.2 ⟨rfl,(List.forall_mem_cons.2 ⟨du n x,(List.forall_mem_cons.2 ⟨du n x,(List.forall_mem_cons.2 ⟨du n x,(List.forall_mem_cons.2 ⟨rfl,(List.forall_mem_cons.2 ⟨rfl,(List.forall_mem_cons.2 ⟨rfl,(List.forall_mem_cons.2 ⟨du n x,(List.forall_mem_cons.2 ⟨du n x,(List.forall_mem_cons.2 ⟨du n x,(fun _ h=>by cases h)⟩)⟩)⟩)⟩)⟩)⟩)⟩)⟩)⟩)⟩)⟩)⟩)) v hv).trans (show ax n x=some y from hy))⟩,trivial⟩
theorem Qt{W:World}(hG:ag W) (n:Nat):GG W (78,VZ n) :=
 ac mixed ah Tryz.func78 (P2 n) (YQ n) [] ⟨Rj hG n,trivial⟩ trivial (C9 1 (fun i hi=>match i,hi with|0,_=>lw n (l6 n (cB n n)) (cB n) (vX n)) (We n)) (W5 n)
theorem WE{W:World}(hG:ag W) (n:Nat):GG W (38,XX n) :=
 ac mixed ah Tryz.func38 (Yk n) (Ze n) [] ⟨N6 hG n,Qt hG n,trivial⟩ trivial (qz 1 (fun i hi=>match i,hi with|0,_=>lw n (l7 n (bd n n)) (bd n) (vY n))) (Xt n)
theorem WD{W:World}(hG:ag W) (n:Nat):GG W (40,XW n) :=
 ac mixed ah Tryz.func40 (Yj n) (Zc n) [] trivial trivial (qz 1 (fun i hi=>match i,hi with|0,_=>lw n (gZ n (au n n)) (au n) (pZ n))) (Xr n)
theorem Rh{W:World}(hG:ag W) (n:Nat):GG W (115,Pq n) :=
 ac mixed ah Tryz.func115 (VG n) (UJ n) [] ⟨yX hG n,trivial⟩ trivial fQ (SJ n)
theorem MM{W:World}(hG:ag W) (n:Nat):GG W (177,EZ n) :=
 ac mixed ah Tryz.func177 (Vh n) (T3 n) [] trivial trivial fQ (R3 n)
theorem QA{W:World}(hG:ag W) (n:Nat):GG W (229,ON n) :=
 ac mixed ah Tryz.func229 (UY n) (Tw n) [] trivial trivial fQ (Rx n)
theorem QL{W:World}(hG:ag W) (n:Nat):GG W (197,OW n) :=
 ac mixed ah Tryz.func197 (U7 n) (TM n) [] ⟨QA hG n,trivial⟩ trivial fQ (RM n)
theorem QU{W:World}(hG:ag W) (n:Nat):GG W (176,O5 n) :=
 ac mixed ah Tryz.func176 (Vi n) (T5 n) [] ⟨QL hG n,trivial⟩ trivial fQ (R4 n)
theorem Q6{W:World}(hG:ag W) (n:Nat):GG W (142,Pg n) :=
 ac mixed ah Tryz.func142 (PJ n) (Up n) [] ⟨MM hG n,QU hG n,trivial⟩ trivial (qz 1 (fun i hi=>match i,hi with|0,_=>lw n (mY n (ej n n)) (ej n) (xd n))) (So n)
theorem JL{W:World}(hG:ag W) (n:Nat):GG W (193,KH n) :=
 ac mixed ah Tryz.func193 (Va n) (TQ n) [] trivial trivial fQ (RR n)
theorem QF{W:World}(hG:ag W) (n:Nat):GG W (218,OQ n) :=
 ac mixed ah Tryz.func218 (U2 n) (TC n) [] trivial trivial fQ (RE n)
theorem QM{W:World}(hG:ag W) (n:Nat):GG W (191,OX n) :=
 ac mixed ah Tryz.func191 (PD n) (TS n) [] ⟨JL hG n,QF hG n,QE hG,QD hG,trivial⟩ trivial (qz 1 (fun i hi=>match i,hi with|0,_=>lw n (fK n (bC n n)) (bC n) (nV n))) (RT n)
theorem CK{W:World}(hG:ag W) (n:Nat):GG W (192,EY n) :=
 ac mixed ah Tryz.func192 (Vb n) (TR n) [] trivial trivial fQ (RS n)
theorem QY{W:World}(hG:ag W) (n:Nat):GG W (162,O9 n) :=
 ac mixed ah Tryz.func162 (Vo n) (Ud n) [] ⟨QM hG n,yX hG n,CK hG n,trivial⟩ trivial fQ (Sc n)
theorem QX{W:World}(hG:ag W) (n:Nat):GG W (163,O8 n) :=
 ac mixed ah Tryz.func163 (Vn n) (Uc n) [] ⟨JL hG n,CK hG n,trivial⟩ trivial fQ (Sb n)
theorem Qg (n:Nat):eL (Mz n) (ae Tryz.f164) (Tg n):=⟨GC (pW n),trivial⟩
theorem MP{W:World}(hG:ag W) (n:Nat):GG W (164,Mi n) :=
 ac mixed ah Tryz.func164 (Mz n) (Ub n) [] trivial trivial (BX (Qg n)) (Sa n)
theorem QZ{W:World}(hG:ag W) (n:Nat):GG W (161,Pa n) :=
 ac mixed ah Tryz.func161 (Vp n) (Ue n) [] ⟨QY hG n,MP hG n,QX hG n,trivial⟩ trivial fQ (Sd n)
theorem QW{W:World}(hG:ag W) (n:Nat):GG W (165,O7 n) :=
 ac mixed ah Tryz.func165 (Vm n) (Ua n) [] ⟨MP hG n,trivial⟩ trivial fQ (R9 n)
theorem QC{W:World}(hG:ag W) (n:Nat):GG W (221,OP n) :=
 ac mixed ah Tryz.func221 (PB n) (TB n) [] trivial trivial (qz 1 (fun i hi=>match i,hi with|0,_=>lw n (kU n (dx n n)) (dx n) (uJ n))) (RD n)
theorem QB{W:World}(hG:ag W) (n:Nat):GG W (223,OO n) :=
 ac mixed ah Tryz.func223 (U0 n) (Tz n) [] trivial trivial fQ (Rz n)
theorem MJ{W:World}(hG:ag W) (n:Nat):GG W (224,Ma n) :=
 ac mixed ah Tryz.func224 (UZ n) (Tx n) [] ⟨CK hG n,trivial⟩ trivial fQ (Ry n)
theorem JI{W:World}(hG:ag W) (n k:Nat) (ih:GG W (194,IM n k)):GG W (222,Mb n k) :=
 ac mixed ah Tryz.func222 (U1 n k) (TA n k) [] ⟨ih,MJ hG n,trivial⟩ trivial fQ (RB n k)
theorem JK{W:World}(hG:ag W) (n:Nat):∀k,GG W (194,IM n k)
 |0=>⟨gf Tryz.func194 (by kernel_rfl) (by kernel_rfl),fun _ _ _ _ _ _ _ h=>by cases h⟩
 |k+1 =>
  have ih:=JK hG n k
  ac mixed ah Tryz.func194 (U9 n k) (TO n k) [] ⟨JL hG n,CK hG n,QZ hG n,QC hG n,QB hG n,JI hG n k ih,QW hG n,ih,MJ hG n,trivial⟩ trivial fQ (RQ n k)
theorem Yn{W:World}(hG:ag W) (n k:Nat):GG W (222,Mb n k):=JI hG n k (JK hG n k)
theorem QV{W:World}(hG:ag W) (n:Nat):GG W (166,O6 n) :=
 ac mixed ah Tryz.func166 (Vl n) (T9 n) [] ⟨CK hG n,JK hG n n,trivial⟩ trivial fQ (R8 n)
theorem MW{W:World}(hG:ag W) (n:Nat):GG W (132,Mo n) :=
 ac mixed ah Tryz.func132 (Vy n) (Uw n) [] ⟨QV hG n,trivial⟩ trivial fQ (Sw n)
theorem Q9{W:World}(hG:ag W) (n:Nat):GG W (134,Pi n) :=
 ac mixed ah Tryz.func134 (Vx n) (Uu n) [] trivial trivial fQ (Su n)
theorem MV{W:World}(hG:ag W) (n:Nat):∀k,GG W (133,Mn n k)
 |0=>⟨gf Tryz.func133 (by kernel_rfl) (by kernel_rfl),fun _ _ _ _ _ _ _ h=>by cases h⟩
 |k+1 =>
  have ih:=MV hG n k
  ac mixed ah Tryz.func133 (PK n k) (Uv n k) [] ⟨ih,trivial⟩ trivial (qz 1 (fun i hi=>match i,hi with|0,_=>lw n (gY n (ch n (bP n k) n)) (ch n (bP n k)) (fun m x=>pY n m k x))) (Sv n k)
theorem QK{W:World}(hG:ag W) (n:Nat):GG W (198,OV n) :=
 ac mixed ah Tryz.func198 (U6 n) (TL n) [] ⟨MW hG n,trivial⟩ trivial fQ (RL n)
theorem QT{W:World}(hG:ag W) (n:Nat):GG W (178,O4 n) :=
 ac mixed ah Tryz.func178 (Vg n) (T0 n) [] ⟨MW hG n,Q9 hG n,MV hG n n,QK hG n,trivial⟩ trivial fQ (R1 n)
theorem MU{W:World}(hG:ag W) (n:Nat):GG W (143,E0 n) :=
 ac mixed ah Tryz.func143 (PI n) (Uo n) [] ⟨QT hG n,yX hG n,trivial⟩ trivial (qz 1 (fun i hi=>match i,hi with|0,_=>lw n (l5 n (dQ n n)) (dQ n) (vW n))) (Sn n)
theorem Q5{W:World}(hG:ag W) (n:Nat):qX Tryz.prog (fN.of W) (144,Mm n):=xH (MU hG n) (MM hG n)
theorem Ri{W:World}(hG:ag W) (n:Nat):GG W (114,Pr n) :=
 ac mixed ah Tryz.func114 (PN n) (UK n) [] ⟨Q7 hG,Q6 hG n,MU hG n,Q5 hG n,trivial⟩ trivial (qz 1 (fun i hi=>match i,hi with|0,_=>lw n (jk n (cJ n n)) (cJ n) (rT n))) (SK n)
theorem Wt{W:World}(hG:ag W) (n:Nat):GG W (79,XM n) :=
 ac mixed ah Tryz.func79 (Zs n) (YP n) [] ⟨Rh hG n,Ri hG n,trivial⟩ trivial fQ (W4 n)
theorem Qz{W:World}(hG:ag W) (n:Nat):GG W (42,V5 n) :=
 ac mixed ah Tryz.func42 (ZC n) (Za n) [] ⟨yX hG n,trivial⟩ trivial fQ (Xp n)
theorem Ws{W:World}(hG:ag W) (n:Nat):GG W (80,XL n) :=
 ac mixed ah Tryz.func80 (Yd n) (YO n) [] ⟨N6 hG n,Qt hG n,trivial⟩ trivial (qz 1 (fun i hi=>match i,hi with|0,_=>lw n (mZ n (bS n n)) (bS n) (xe n))) (W3 n)
theorem WC{W:World}(hG:ag W) (n:Nat):GG W (41,XV n) :=
 ac mixed ah Tryz.func41 (ZD n) (Zb n) [] ⟨Wt hG n,Qz hG n,Ws hG n,yX hG n,N6 hG n,trivial⟩ trivial fQ (Xq n)
theorem Wu{W:World}(hG:ag W) (n:Nat):GG W (73,XN n) :=
 ac mixed ah Tryz.func73 (Zv n) (YT n) [] ⟨yX hG n,trivial⟩ trivial fQ (W8 n)
theorem Qy{W:World}(hG:ag W) (n:Nat):GG W (43,V4 n) :=
 ac mixed ah Tryz.func43 (ZB n) (Y9 n) [] ⟨Wu hG n,trivial⟩ trivial fQ (Xo n)
theorem WB{W:World}(hG:ag W) (n:Nat):GG W (44,XU n) :=
 ac mixed ah Tryz.func44 (Wa n) (Y8 n) [] ⟨Qy hG n,trivial⟩ trivial (qz 2 (fun i hi=>match i,hi with|0,_=>lw n (ia n (aK n n)) (aK n) (p5 n)|1,_=>lw n (gB n (aC n n)) (aC n) (pz n))) (Xn n)
theorem ZQ{W:World}(hG:ag W) (n:Nat):GG W (9,S9 n) :=
 ac mixed ah Tryz.func9 (E9 n) (G9 n) [] ⟨WE hG n,yX hG n,WD hG n,WC hG n,Qz hG n,Qy hG n,WB hG n,trivial⟩ trivial (qz 3 (fun i hi=>match i,hi with|0,_=>lw n (kV n (bN n n)) (bN n) (uK n)|1,_=>lw n (km n (bl n n)) (bl n) (tm n)|2,_=>lw n (kj n (bk n n)) (bk n) (tl n))) (ZU n)
theorem Wo{W:World}(hG:ag W) (n:Nat):GG W (96,XI n) :=
 ac mixed ah Tryz.func96 (X8 n) (YF n) [] trivial trivial (qz 1 (fun i hi=>match i,hi with|0,_=>lw n (ee n (aj n n)) (aj n) (lN n))) (WU n)
theorem Qw{W:World}(hG:ag W) (n:Nat):GG W (64,V2 n) :=
 ac mixed ah Tryz.func64 (Zx n) (Y2 n) [] ⟨Wo hG n,trivial⟩ trivial fQ (Xh n)
theorem Ww{W:World}(hG:ag W) (n:Nat):GG W (71,XP n) :=
 ac mixed ah Tryz.func71 (Yf n) (YV n) [] ⟨Qw hG n,trivial⟩ trivial (qz 1 (fun i hi=>match i,hi with|0,_=>lw n (lZ n (cA n n)) (cA n) (vV n))) (Xa n)
theorem WH{W:World}(hG:ag W) (n:Nat):GG W (29,X0 n) :=
 ac mixed ah Tryz.func29 (ZG n) (Zh n) [] ⟨ZQ hG n,Ww hG n,trivial⟩ trivial fQ (Xw n)
theorem Wv{W:World}(hG:ag W) (n:Nat):GG W (72,XO n) :=
 ac mixed ah Tryz.func72 (Ye n) (YU n) [] ⟨Eo hG n,trivial⟩ trivial (qz 1 (fun i hi=>match i,hi with|0,_=>lw n (kO n (bZ n n)) (bZ n) (uD n))) (W9 n)
theorem WF{W:World}(hG:ag W) (n:Nat):GG W (31,XY n) :=
 ac mixed ah Tryz.func31 (ZF n) (Zf n) [] ⟨LB hG n,Wv hG n,trivial⟩ trivial fQ (Xu n)
theorem WG{W:World}(hG:ag W) (n:Nat):GG W (30,XZ n) :=
 ac mixed ah Tryz.func30 (Yl n) (Zg n) [] trivial trivial (qz 1 (fun i hi=>match i,hi with|0,_=>lw n (ki n (bz n n)) (bz n) (tj n))) (Xv n)
theorem WJ{W:World}(hG:ag W) (n:Nat):GG W (27,X4 n) :=
 ac mixed ah Tryz.func27 (ZH n) (Zj n) [] ⟨Qw hG n,trivial⟩ trivial fQ (Xy n)
theorem ZS{W:World}(hG:ag W) (n:Nat):GG W (5,S5 n) :=
 ac mixed ah Tryz.func5 (E5 n) (G5 n) [] ⟨ZR hG n,WI hG n,WH hG n,WF hG n,WG hG n,WJ hG n,trivial⟩ trivial (qz 1 (fun i hi=>match i,hi with|0,_=>lw n (lY n (cb n n)) (cb n) (vU n))) (ZW n)
end AM
end Go.Proofs.YtpgigedclifoeaaGreatDoor
