/- Each function that the laws reach obeys its summary. Under: what the rows list of the library's variables. -/
import Derived.Test.YtlkgapiohfgenaaGreatDoorJALd
import Derived.Test.YtlkgapiohfgenaaGreatDoorJW3
import Derived.Test.YtlkgapiohfgenaaGreatDoorProg
import Derived.Test.YtlkgapiohfgenaaGreatDoorJShelf
import Derived.Test.YtlkgapiohfgenaaGreatDoorJP1
import Derived.Lib.IndexMore
import Derived.Lib.ItoaNum
import Derived.Lib.Split
import Derived.Lib.CountLaws
import Derived.Lib.SlicesCompact
namespace Go.Proofs.YtlkgapiohfgenaaGreatDoor
namespace AM
open Go
set_option linter.unusedVariables false
abbrev GG (W:World) (p:Nat×aa):Prop:=mQ Tryz.prog (eB.of W) p
theorem R6{W:World}(hG:ae W) (n:Nat):GG W (27,UP n) :=
 ab mixed af Tryz.func27 (X7 n) (W8 n) [] trivial trivial dY (TL n)
theorem Yi{W:World}(hG:ae W) (n:Nat):GG W (9,S9 n) :=
 ab mixed af Tryz.func9 (E9 n) (G9 n) [] ⟨R6 hG n,trivial⟩ trivial dY (Yu n)
theorem ND{W:World}(hG:ae W) (n:Nat):GG W (10,Q3 n) :=
 ab mixed af Tryz.func10 (Yb n) (Xp n) [] trivial trivial dY (T4 n)
theorem R5{W:World}(hG:ae W) (n:Nat):GG W (28,UO n) :=
 ab mixed af Tryz.func28 (X6 n) (W7 n) [] ⟨ND hG n,trivial⟩ trivial dY (TK n)
theorem Sk{W:World}(hG:ae W) (n:Nat):GG W (11,U3 n) :=
 ab mixed af Tryz.func11 (VE n) (Xo n) [] ⟨R5 hG n,trivial⟩ trivial (lF 1 (fun i hi=>match i,hi with|0,_=>iO n (kK n (bd n n)) (bd n) (tn n))) (T3 n)
theorem Sj{W:World}(hG:ae W) (n:Nat):GG W (12,U2 n) :=
 ab mixed af Tryz.func12 (Ya n) (Xn n) [] trivial trivial dY (T1 n)
theorem Yn{W:World}(hG:ae W) (n:Nat):GG W (4,S4 n) :=
 ab mixed af Tryz.func4 (E4 n) (G4 n) [] ⟨Yi hG n,ND hG n,Sk hG n,Sj hG n,trivial⟩ trivial dY (Yz n)
theorem RJ{W:World}(hG:ae W) (n:Nat):GG W (56,Uv n) :=
 ab mixed af Tryz.func56 (XP n) (WE n) [] trivial trivial dY (Te n)
theorem MU{W:World}(hG:ae W) (n:Nat):GG W (35,Q0 n) :=
 ab mixed af Tryz.func35 (Vq n) (W0 n) [] ⟨RJ hG n,trivial⟩ trivial (lF 1 (fun i hi=>match i,hi with|0,_=>iO n (kH n (cy n n)) (cy n) (tl n))) (TB n)
theorem Sf{W:World}(hG:ae W) (n:Nat):GG W (16,UY n) :=
 ab mixed af Tryz.func16 (X9 n) (Xj n) [] ⟨MU hG n,trivial⟩ trivial dY (TX n)
theorem Sl{W:World}(hG:ae W) (n:Nat):GG W (16,Kn n) :=
 ab mixed af Tryz.func16 (KH n) (KC n) [] ⟨MU hG n,trivial⟩ trivial dY (Ls n)
theorem K5{W:World}(hG:ae W) (n:Nat):GG W (17,OV n) :=
 ab mixed af Tryz.func17 (VB n) (Xi n) [] trivial trivial (lF 1 (fun i hi=>match i,hi with|0,_=>iO n (lS n (cQ n n)) (cQ n) (uC n))) (TW n)
theorem Yo{W:World}(hG:ae W) (n:Nat):GG W (36,VP n) :=
 ab mixed af Tryz.func36 (X3 n) (WZ n) [] ⟨K5 hG n,trivial⟩ trivial dY (TA n)
theorem La{W:World}(hG:ae W) (n:Nat):GG W (36,Ix n) :=
 ab mixed af Tryz.func36 (KG n) (KB n) [] ⟨K5 hG n,trivial⟩ trivial dY (Lr n)
theorem Se{W:World}(hG:ae W) (n:Nat):GG W (18,UX n) :=
 ab mixed af Tryz.func18 (VA n) (Xh n) (VW n) trivial ⟨La hG n,trivial⟩ (lF 1 (fun i hi=>match i,hi with|0,_=>iO n (kJ n (bB n n)) (bB n) (tm n))) (TV n)
theorem R0{W:World}(hG:ae W) (n:Nat):GG W (37,UK n) :=
 ab mixed af Tryz.func37 (X0 n) (WY n) [] trivial trivial dY (Tz n)
theorem Sd{W:World}(hG:ae W) (n:Nat):GG W (19,UW n) :=
 ab mixed af Tryz.func19 (Vz n) (Xg n) [] ⟨R0 hG n,trivial⟩ trivial (lF 1 (fun i hi=>match i,hi with|0,_=>iO n (j8 n (bi n n)) (bi n) (se n))) (TU n)
theorem Yl{W:World}(hG:ae W) (n:Nat):GG W (6,S6 n) :=
 ab mixed af Tryz.func6 (E6 n) (G6 n) [] ⟨Sf hG n,K5 hG n,Se hG n,Sd hG n,trivial⟩ trivial dY (Yx n)
theorem KZ{W:World}(hG:ae W) (n:Nat):GG W (80,ON n) :=
 ab mixed af Tryz.func80 (XC n) (Wg n) [] trivial trivial dY (SJ n)
theorem xL{W:World}(hG:ae W) (n:Nat):GG W (47,FR n) :=
 ab mixed af Tryz.func47 (XT n) (WO n) [] trivial trivial dY (Tn n)
theorem MN{W:World}(hG:ae W) (n:Nat):GG W (95,QT n) :=
 ab mixed af Tryz.func95 (Xs n) (V1 n) [] ⟨KZ hG n,xL hG n,trivial⟩ trivial dY (Su n)
theorem KX{W:World}(hG:ae W) (n:Nat):GG W (96,OL n) :=
 ab mixed af Tryz.func96 (U8 n) (V0 n) [] trivial trivial (lF 1 (fun i hi=>match i,hi with|0,_=>iO n (lM n (bC n n)) (bC n) (uw n))) (Ss n)
theorem Rw{W:World}(hG:ae W) (n:Nat):GG W (71,Uk n) :=
 ab mixed af Tryz.func71 (Vf n) (Wp n) [] ⟨MN hG n,KX hG n,trivial⟩ trivial (lF 1 (fun i hi=>match i,hi with|0,_=>iO n (lR n (ct n n)) (ct n) (uB n))) (SS n)
theorem Jj{W:World}(hG:ae W) (n:Nat):GG W (77,Mw n) :=
 ab mixed af Tryz.func77 (XE n) (Wj n) [] ⟨xL hG n,trivial⟩ trivial dY (SM n)
theorem Rv{W:World}(hG:ae W) (n:Nat):GG W (72,Uj n) :=
 ab mixed af Tryz.func72 (Ve n) (Wo n) [] ⟨Jj hG n,trivial⟩ trivial (lF 1 (fun i hi=>match i,hi with|0,_=>iO n (lK n (bn n n)) (bn n) (uu n))) (SR n)
theorem RT{W:World}(hG:ae W) (n:Nat):GG W (46,UD n) :=
 ab mixed af Tryz.func46 (XU n) (WP n) [] ⟨Rw hG n,Rv hG n,trivial⟩ trivial dY (To n)
theorem RS{W:World}(hG:ae W) (n:Nat):GG W (48,UC n) :=
 ab mixed af Tryz.func48 (Vn n) (WN n) [] ⟨xL hG n,trivial⟩ trivial (lF 1 (fun i hi=>match i,hi with|0,_=>iO n (lN n (bo n n)) (bo n) (ux n))) (Tm n)
theorem MM{W:World}(hG:ae W) (n:Nat):GG W (97,QS n) :=
 ab mixed af Tryz.func97 (Xr n) (VZ n) [] trivial trivial dY (Sr n)
theorem Ru{W:World}(hG:ae W) (n:Nat):GG W (73,Ui n) :=
 ab mixed af Tryz.func73 (XH n) (Wn n) [] ⟨MM hG n,trivial⟩ trivial dY (SQ n)
theorem Rt{W:World}(hG:ae W) (n:Nat):GG W (74,Uh n) :=
 ab mixed af Tryz.func74 (XG n) (Wm n) [] ⟨xL hG n,trivial⟩ trivial dY (SP n)
theorem Rs{W:World}(hG:ae W) (n:Nat):GG W (75,Ug n) :=
 ab mixed af Tryz.func75 (Vd n) (Wl n) [] ⟨Jj hG n,trivial⟩ trivial (lF 1 (fun i hi=>match i,hi with|0,_=>iO n (lP n (bK n n)) (bK n) (uz n))) (SO n)
theorem Na{W:World}(hG:ae W) (n:Nat):GG W (146,LO n) :=
 ab mixed af Tryz.func146 (Qp n) (Ps n) [] trivial trivial dY (N4 n)
theorem Nr{W:World}(hG:ae W) (n:Nat):GG W (121,L3 n) :=
 ab mixed af Tryz.func121 (Mk n) (PM n) [] ⟨Na hG n,trivial⟩ trivial (lF 1 (fun i hi=>match i,hi with|0,_=>iO n (lO n (dg n n)) (dg n) (uy n))) (Oq n)
theorem Np{W:World}(hG:ae W) (n:Nat):GG W (123,LZ n) :=
 ab mixed af Tryz.func123 (Mi n) (PK n) [] trivial trivial (lF 1 (fun i hi=>match i,hi with|0,_=>iO n (lL n (dC n n)) (dC n) (uv n))) (On n)
theorem M8{W:World}(hG:ae W) (n:Nat):GG W (148,LM n) :=
 ab mixed af Tryz.func148 (Qn n) (Pq n) [] trivial trivial dY (N2 n)
theorem No{W:World}(hG:ae W) (n:Nat):GG W (125,LY n) :=
 ab mixed af Tryz.func125 (QB n) (PI n) [] trivial trivial dY (Ol n)
theorem Gx{W:World}(hG:ae W) (n:Nat):GG W (101,Iy n) :=
 ab mixed af Tryz.func101 (QM n) (P3 n) [] ⟨KZ hG n,trivial⟩ trivial dY (OI n)
theorem Gt{W:World}(hG:ae W) (n k:Nat) (ih:GG W (99,Mt n k)):GG W (124,JO n k) :=
 ab mixed af Tryz.func124 (QC n k) (PJ n k) [] ⟨M8 hG n,ih,trivial⟩ trivial dY (Om n k)
theorem KW{W:World}(hG:ae W) (n:Nat):∀k,GG W (99,Mt n k)
 |0=>⟨dG Tryz.func99 (by kernel_rfl) (by kernel_rfl),fun _ _ _ _ _ _ _ h=>by cases h⟩
 |k+1 =>
  have ih:=KW hG n k
  ab mixed af Tryz.func99 (Xq n k) (VX n k) [] ⟨Gx hG n,Np hG n,Gt hG n k ih,No hG n,ih,trivial⟩ trivial dY (Sp n k)
theorem VL{W:World}(hG:ae W) (n k:Nat):GG W (124,JO n k):=Gt hG n k (KW hG n k)
theorem MQ{W:World}(hG:ae W) (n:Nat):GG W (82,QW n) :=
 ab mixed af Tryz.func82 (XA n) (We n) [] ⟨KW hG n n,trivial⟩ trivial dY (SH n)
theorem M9{W:World}(hG:ae W) (n:Nat):GG W (147,LN n) :=
 ab mixed af Tryz.func147 (Qo n) (Pr n) [] ⟨MQ hG n,trivial⟩ trivial dY (N3 n)
theorem Nq{W:World}(hG:ae W) (n:Nat):GG W (122,L0 n) :=
 ab mixed af Tryz.func122 (Mj n) (PL n) [] ⟨xL hG n,M9 hG n,trivial⟩ trivial (lF 1 (fun i hi=>match i,hi with|0,_=>iO n (lQ n (dE n n)) (dE n) (uA n))) (Oo n)
theorem Rh{W:World}(hG:ae W) (n:Nat):GG W (98,T6 n) :=
 ab mixed af Tryz.func98 (U7 n) (VY n) [] ⟨Nr hG n,Nq hG n,trivial⟩ trivial (lF 1 (fun i hi=>match i,hi with|0,_=>iO n (jb n (cn n n)) (cn n) (qP n))) (Sq n)
theorem MR{W:World}(hG:ae W) (n:Nat):GG W (76,QX n) :=
 ab mixed af Tryz.func76 (XF n) (Wk n) [] ⟨MM hG n,Rh hG n,trivial⟩ trivial dY (SN n)
theorem RR{W:World}(hG:ae W) (n:Nat):GG W (49,UB n) :=
 ab mixed af Tryz.func49 (XS n) (WM n) [] ⟨Ru hG n,Rt hG n,Rs hG n,MR hG n,Jj hG n,xL hG n,trivial⟩ trivial dY (Tl n)
theorem Gp{W:World}(hG:ae W) (n:Nat):GG W (50,LB n) :=
 ab mixed af Tryz.func50 (Vm n) (WK n) [] trivial trivial (lF 1 (fun i hi=>match i,hi with|0,_=>iO n (kG n (bH n n)) (bH n) (tj n))) (Tk n)
theorem K4{W:World}(hG:ae W) (n:Nat):GG W (29,OS n) :=
 ab mixed af Tryz.func29 (P9 n) (W6 n) [] ⟨RT hG n,xL hG n,RS hG n,RR hG n,Gp hG n,trivial⟩ trivial (lF 3 (fun i hi=>match i,hi with|0,_=>iO n (kF n (bk n n)) (bk n) (th n)|1,_=>iO n (j7 n (bh n n)) (bh n) (sd n)|2,_=>iO n (j6 n (bG n n)) (bG n) (r0 n))) (TJ n)
theorem Rq{W:World}(hG:ae W) (n:Nat):GG W (79,Ue n) :=
 ab mixed af Tryz.func79 (XD n) (Wh n) [] ⟨xL hG n,trivial⟩ trivial dY (SK n)
theorem Rp{W:World}(hG:ae W) (n:Nat):GG W (81,Ud n) :=
 ab mixed af Tryz.func81 (XB n) (Wf n) [] ⟨KX hG n,Gp hG n,trivial⟩ trivial dY (SI n)
theorem RN{W:World}(hG:ae W) (n:Nat):GG W (52,Uz n) :=
 ab mixed af Tryz.func52 (XR n) (WI n) [] ⟨Rq hG n,KZ hG n,Rp hG n,trivial⟩ trivial dY (Ti n)
theorem MV{W:World}(hG:ae W) (n:Nat):GG W (31,Q1 n) :=
 ab mixed af Tryz.func31 (Vs n) (W4 n) [] ⟨Gp hG n,RN hG n,trivial⟩ trivial (lF 1 (fun i hi=>match i,hi with|0,_=>iO n (mE n (ci n n)) (ci n) (vC n))) (TG n)
theorem Rr{W:World}(hG:ae W) (n:Nat):GG W (78,Uf n) :=
 ab mixed af Tryz.func78 (Vc n) (Wi n) [] ⟨Gp hG n,trivial⟩ trivial (lF 1 (fun i hi=>match i,hi with|0,_=>iO n (mF n (bP n n)) (bP n) (vD n))) (SL n)
theorem Rf (n:Nat):mL (P7 n) (aj Tryz.f51) (VT n):=⟨A3 (uj n) [],trivial⟩
theorem RQ{W:World}(hG:ae W) (n:Nat):GG W (51,UA n) :=
 ab mixed af Tryz.func51 (P7 n) (WJ n) [] ⟨MV hG n,Rr hG n,trivial⟩ trivial (GF 1 (fun i hi=>match i,hi with|0,_=>iO n (lJ n (bg n n)) (bg n) (ut n)) (Rf n)) (Tj n)
theorem R4{W:World}(hG:ae W) (n:Nat):GG W (30,UN n) :=
 ab mixed af Tryz.func30 (Vt n) (W5 n) [] ⟨RQ hG n,trivial⟩ trivial (lF 1 (fun i hi=>match i,hi with|0,_=>iO n (mD n (cZ n n)) (cZ n) (vB n))) (TH n)
theorem RL{W:World}(hG:ae W) (n:Nat):GG W (54,Ux n) :=
 ab mixed af Tryz.func54 (Vk n) (WG n) [] trivial trivial (lF 1 (fun i hi=>match i,hi with|0,_=>iO n (j5 n (bF n n)) (bF n) (rZ n))) (Tg n)
theorem K3{W:World}(hG:ae W) (n:Nat):GG W (33,OR n) :=
 ab mixed af Tryz.func33 (X4 n) (W2 n) [] ⟨RL hG n,trivial⟩ trivial dY (TE n)
theorem RM{W:World}(hG:ae W) (n:Nat):GG W (53,Uy n) :=
 ab mixed af Tryz.func53 (Vl n) (WH n) [] ⟨xL hG n,trivial⟩ trivial (lF 1 (fun i hi=>match i,hi with|0,_=>iO n (j4 n (bv n n)) (bv n) (rY n))) (Th n)
theorem R3{W:World}(hG:ae W) (n:Nat):GG W (32,UM n) :=
 ab mixed af Tryz.func32 (X5 n) (W3 n) [] ⟨K3 hG n,RM hG n,Gp hG n,trivial⟩ trivial dY (TF n)
theorem Si{W:World}(hG:ae W) (n:Nat):GG W (13,U1 n) :=
 ab mixed af Tryz.func13 (VD n) (Xm n) [] ⟨K4 hG n,R4 hG n,MV hG n,R3 hG n,trivial⟩ trivial (lF 1 (fun i hi=>match i,hi with|0,_=>iO n (ig n (aS n n)) (aS n) (pc n))) (T0 n)
theorem Nn{W:World}(hG:ae W) (n:Nat):GG W (126,LX n) :=
 ab mixed af Tryz.func126 (QA n) (PH n) [] trivial trivial dY (Ok n)
theorem MH (n:Nat):mL (JW n) (aj Tryz.f102) (O5 n):=⟨A3 (uk n) [(4,4)],trivial⟩
theorem DF{W:World}(hG:ae W) (n:Nat):GG W (102,FN n) :=
 ab mixed af Tryz.func102 (JW n) (P2 n) [] ⟨KX hG n,MN hG n,Nn hG n,trivial⟩ trivial (Mr (MH n)) (OH n)
theorem Kd{W:World}(hG:ae W) (n:Nat):GG W (100,JS n) :=
 ab mixed af Tryz.func100 (QN n) (P4 n) [] ⟨DF hG n,trivial⟩ trivial dY (OJ n)
theorem Kc{W:World}(hG:ae W) (n:Nat):GG W (103,JR n) :=
 ab mixed af Tryz.func103 (QL n) (P1 n) [] ⟨Jj hG n,DF hG n,trivial⟩ trivial dY (OG n)
theorem Rd (n k:Nat):mL (Q4 n k) (aj Tryz.f83) (VR n k):=⟨A3 (tf n k) [(6,8)],trivial⟩
theorem MP{W:World}(hG:ae W) (n:Nat):∀k,GG W (83,QV n k)
 |0=>⟨dG Tryz.func83 (by kernel_rfl) (by kernel_rfl),fun _ _ _ _ _ _ _ h=>by cases h⟩
 |k+1 =>
  have ih:=MP hG n k
  ab mixed af Tryz.func83 (Q4 n k) (Wd n k) [] ⟨Kd hG n,ih,Gx hG n,DF hG n,Kc hG n,trivial⟩ trivial (Mr (Rd n k)) (SG n k)
theorem KP (n k:Nat):mL (Ej n k) (aj Tryz.f83) (Kp n k):=⟨A3 (qM n k) [(6,8)],trivial⟩
theorem K9{W:World}(hG:ae W) (n:Nat):∀k,GG W (83,Ei n k)
 |0=>⟨dG Tryz.func83 (by kernel_rfl) (by kernel_rfl),fun _ _ _ _ _ _ _ h=>by cases h⟩
 |k+1 =>
  have ih:=K9 hG n k
  ab mixed af Tryz.func83 (Ej n k) (KA n k) (Kv n k) ⟨Kd hG n,Gx hG n,DF hG n,Kc hG n,trivial⟩ ⟨ih,ih,trivial⟩ (Mr (KP n k)) (Lq n k)
theorem RK{W:World}(hG:ae W) (n:Nat):GG W (55,Uw n) :=
 ab mixed af Tryz.func55 (XQ n) (WF n) [] ⟨xL hG n,MR hG n,MQ hG n,MP hG n n,trivial⟩ trivial dY (Tf n)
theorem R1{W:World}(hG:ae W) (n:Nat):GG W (34,UL n) :=
 ab mixed af Tryz.func34 (Vr n) (W1 n) [] ⟨RK hG n,trivial⟩ trivial (lF 1 (fun i hi=>match i,hi with|0,_=>iO n (ie n (au n n)) (au n) (o9 n))) (TC n)
theorem Sh{W:World}(hG:ae W) (n:Nat):GG W (14,U0 n) :=
 ab mixed af Tryz.func14 (VC n) (Xl n) [] ⟨K4 hG n,K3 hG n,R1 hG n,trivial⟩ trivial (lF 1 (fun i hi=>match i,hi with|0,_=>iO n (iF n (aP n n)) (aP n) (pV n))) (TZ n)
theorem Rg (n:Nat):mL (My n) (aj Tryz.f15) (VU n):=⟨A3 (qN n) [(12,5)],trivial⟩
theorem Sg{W:World}(hG:ae W) (n:Nat):GG W (15,UZ n) :=
 ab mixed af Tryz.func15 (My n) (Xk n) [] ⟨K4 hG n,K3 hG n,trivial⟩ trivial (GF 2 (fun i hi=>match i,hi with|0,_=>iO n (jd n (a0 n n)) (a0 n) (qR n)|1,_=>iO n (jc n (aI n n)) (aI n) (qQ n)) (Rg n)) (TY n)
theorem Ym{W:World}(hG:ae W) (n:Nat):GG W (5,S5 n) :=
 ab mixed af Tryz.func5 (E5 n) (G5 n) [] ⟨Si hG n,Sh hG n,Sg hG n,trivial⟩ trivial dY (Yy n)
theorem wE{W:World}(hG:ae W) (n:Nat):GG W (58,FI n) :=
 ab mixed af Tryz.func58 (XO n) (WC n) [] trivial trivial dY (Tc n)
theorem Ji{W:World}(hG:ae W) (n:Nat):GG W (84,Mv n) :=
 ab mixed af Tryz.func84 (Xz n) (Wc n) [] ⟨wE hG n,trivial⟩ trivial dY (SF n)
theorem Gw{W:World}(hG:ae W) (n:Nat):GG W (84,Eh n) :=
 ab mixed af Tryz.func84 (KF n) (Kz n) [] ⟨wE hG n,trivial⟩ trivial dY (Lp n)
theorem J9{W:World}(hG:ae W) (n:Nat):GG W (127,JN n) :=
 ab mixed af Tryz.func127 (Qz n) (PG n) [] trivial trivial dY (Oj n)
theorem Kb{W:World}(hG:ae W) (n:Nat):GG W (104,JQ n) :=
 ab mixed af Tryz.func104 (QK n) (P0 n) [] ⟨J9 hG n,wE hG n,trivial⟩ trivial dY (OF n)
theorem Rc (n:Nat):mL (Mx n) (aj Tryz.f85) (VQ n):=⟨⟨by kernel_rfl,fun x y hy=>Io (um n x) (fun v hv=>((show ∀v∈[az n x,az n x,az n x,bj n x,bj n x,bj n x,az n x,az n x,az n x,bj n x,bj n x,bj n x],v=az n x from(List.forall_mem_cons.2 ⟨rfl,(List.forall_mem_cons.2 ⟨rfl,(List.forall_mem_cons.2 ⟨rfl,(List.forall_mem_cons.2 ⟨dl n x,(List.forall_mem_cons.2 ⟨dl n x,(List.forall_mem_cons.2 ⟨dl n x,(List.forall_mem_cons.2 ⟨rfl,(List.forall_mem_cons.2 ⟨rfl,(List.forall_mem_cons.2 ⟨rfl,(List.forall_mem_cons.2 ⟨dl n x,(List.forall_mem_cons.2 ⟨dl n x,(List.forall_mem_cons.2 ⟨dl n x,(fun _ h=>by cases h)⟩)⟩)⟩)⟩)⟩)⟩)⟩)⟩)⟩)⟩)⟩)⟩)) v hv).trans (show az n x=some y from hy))⟩,trivial⟩
theorem Jh{W:World}(hG:ae W) (n:Nat):GG W (85,Mu n) :=
 ab mixed af Tryz.func85 (Mx n) (Wb n) [] ⟨Kb hG n,trivial⟩ trivial (GF 1 (fun i hi=>match i,hi with|0,_=>iO n (lV n (cw n n)) (cw n) (uF n)) (Rc n)) (SE n)
theorem RI{W:World}(hG:ae W) (n:Nat):GG W (57,Uu n) :=
 ab mixed af Tryz.func57 (Vj n) (WD n) [] ⟨Ji hG n,Jh hG n,trivial⟩ trivial (lF 1 (fun i hi=>match i,hi with|0,_=>iO n (lW n (br n n)) (br n) (uG n))) (Td n)
theorem RH{W:World}(hG:ae W) (n:Nat):GG W (59,Ut n) :=
 ab mixed af Tryz.func59 (Vi n) (WB n) [] trivial trivial (lF 1 (fun i hi=>match i,hi with|0,_=>iO n (ij n (ay n n)) (ay n) (pg n))) (Tb n)
theorem NB{W:World}(hG:ae W) (n:Nat):GG W (106,L9 n) :=
 ab mixed af Tryz.func106 (QJ n) (PY n) [] ⟨wE hG n,trivial⟩ trivial dY (OD n)
theorem J3{W:World}(hG:ae W) (n:Nat):GG W (151,Dn n) :=
 ab mixed af Tryz.func151 (Ql n) (Po n) [] trivial trivial dY (NZ n)
theorem MX{W:World}(hG:ae W) (n:Nat):GG W (192,LC n) :=
 ab mixed af Tryz.func192 (Qa n) (Pa n) [] trivial trivial dY (NL n)
theorem M4{W:World}(hG:ae W) (n:Nat):GG W (172,LI n) :=
 ab mixed af Tryz.func172 (Qg n) (Ph n) [] ⟨MX hG n,trivial⟩ trivial dY (NS n)
theorem M7{W:World}(hG:ae W) (n:Nat):GG W (150,LL n) :=
 ab mixed af Tryz.func150 (Qm n) (Pp n) [] ⟨M4 hG n,trivial⟩ trivial dY (N1 n)
theorem Nk{W:World}(hG:ae W) (n:Nat):GG W (129,LW n) :=
 ab mixed af Tryz.func129 (Mh n) (PF n) [] ⟨J3 hG n,M7 hG n,trivial⟩ trivial (lF 1 (fun i hi=>match i,hi with|0,_=>iO n (mG n (d7 n n)) (d7 n) (vE n))) (Oi n)
theorem Gs{W:World}(hG:ae W) (n:Nat):GG W (169,Ir n) :=
 ab mixed af Tryz.func169 (Qi n) (Pj n) [] trivial trivial dY (NU n)
theorem M2{W:World}(hG:ae W) (n:Nat):GG W (181,LG n) :=
 ab mixed af Tryz.func181 (Qe n) (Pf n) [] trivial trivial dY (NQ n)
theorem M5{W:World}(hG:ae W) (n:Nat):GG W (167,LJ n) :=
 ab mixed af Tryz.func167 (Me n) (Pl n) [] ⟨Gs hG n,M2 hG n,M1 hG,M0 hG,trivial⟩ trivial (lF 1 (fun i hi=>match i,hi with|0,_=>iO n (fK n (bM n n)) (bM n) (nE n))) (NW n)
theorem Bj{W:World}(hG:ae W) (n:Nat):GG W (168,Dm n) :=
 ab mixed af Tryz.func168 (Qj n) (Pk n) [] trivial trivial dY (NV n)
theorem Ng{W:World}(hG:ae W) (n:Nat):GG W (136,LS n) :=
 ab mixed af Tryz.func136 (Qw n) (PB n) [] ⟨M5 hG n,wE hG n,Bj hG n,trivial⟩ trivial dY (Oe n)
theorem Nf{W:World}(hG:ae W) (n:Nat):GG W (137,LR n) :=
 ab mixed af Tryz.func137 (Qv n) (PA n) [] ⟨Gs hG n,Bj hG n,trivial⟩ trivial dY (Od n)
theorem MF (n:Nat):mL (JV n) (aj Tryz.f138) (O3 n):=⟨MI (o7 n),trivial⟩
theorem J7{W:World}(hG:ae W) (n:Nat):GG W (138,JL n) :=
 ab mixed af Tryz.func138 (JV n) (Pz n) [] trivial trivial (Mr (MF n)) (Oc n)
theorem Nh{W:World}(hG:ae W) (n:Nat):GG W (135,LU n) :=
 ab mixed af Tryz.func135 (Qx n) (PC n) [] ⟨Ng hG n,J7 hG n,Nf hG n,trivial⟩ trivial dY (Of n)
theorem Nd{W:World}(hG:ae W) (n:Nat):GG W (139,LQ n) :=
 ab mixed af Tryz.func139 (Qu n) (Py n) [] ⟨J7 hG n,trivial⟩ trivial dY (Oa n)
theorem MZ{W:World}(hG:ae W) (n:Nat):GG W (184,LF n) :=
 ab mixed af Tryz.func184 (Md n) (Pe n) [] trivial trivial (lF 1 (fun i hi=>match i,hi with|0,_=>iO n (kO n (dq n n)) (dq n) (tv n))) (NP n)
theorem MY{W:World}(hG:ae W) (n:Nat):GG W (186,LD n) :=
 ab mixed af Tryz.func186 (Qc n) (Pc n) [] trivial trivial dY (NN n)
theorem J1{W:World}(hG:ae W) (n:Nat):GG W (187,JF n) :=
 ab mixed af Tryz.func187 (Qb n) (Pb n) [] ⟨Bj hG n,trivial⟩ trivial dY (NM n)
theorem Gq{W:World}(hG:ae W) (n k:Nat) (ih:GG W (170,FJ n k)):GG W (185,JG n k) :=
 ab mixed af Tryz.func185 (Qd n k) (Pd n k) [] ⟨ih,J1 hG n,trivial⟩ trivial dY (NO n k)
theorem Gr{W:World}(hG:ae W) (n:Nat):∀k,GG W (170,FJ n k)
 |0=>⟨dG Tryz.func170 (by kernel_rfl) (by kernel_rfl),fun _ _ _ _ _ _ _ h=>by cases h⟩
 |k+1 =>
  have ih:=Gr hG n k
  ab mixed af Tryz.func170 (Qh n k) (Pi n k) [] ⟨Gs hG n,Bj hG n,Nh hG n,MZ hG n,MY hG n,Gq hG n k ih,Nd hG n,ih,J1 hG n,trivial⟩ trivial dY (NT n k)
theorem VK{W:World}(hG:ae W) (n k:Nat):GG W (185,JG n k):=Gq hG n k (Gr hG n k)
theorem Nc{W:World}(hG:ae W) (n:Nat):GG W (140,LP n) :=
 ab mixed af Tryz.func140 (Qt n) (Px n) [] ⟨Bj hG n,Gr hG n n,trivial⟩ trivial dY (N9 n)
theorem DE{W:World}(hG:ae W) (n:Nat):GG W (116,FM n) :=
 ab mixed af Tryz.func116 (QF n) (PR n) [] ⟨Nc hG n,trivial⟩ trivial dY (Ox n)
theorem Gv{W:World}(hG:ae W) (n:Nat):GG W (118,It n) :=
 ab mixed af Tryz.func118 (QE n) (PP n) [] trivial trivial dY (Ov n)
theorem DD{W:World}(hG:ae W) (n:Nat):∀k,GG W (117,FL n k)
 |0=>⟨dG Tryz.func117 (by kernel_rfl) (by kernel_rfl),fun _ _ _ _ _ _ _ h=>by cases h⟩
 |k+1 =>
  have ih:=DD hG n k
  ab mixed af Tryz.func117 (Ml n k) (PQ n k) [] ⟨ih,trivial⟩ trivial (lF 1 (fun i hi=>match i,hi with|0,_=>iO n (ii n (be n (aD n k) n)) (be n (aD n k)) (fun m x=>pd n m k x))) (Ow n k)
theorem M3{W:World}(hG:ae W) (n:Nat):GG W (173,LH n) :=
 ab mixed af Tryz.func173 (Qf n) (Pg n) [] ⟨DE hG n,trivial⟩ trivial dY (NR n)
theorem M6{W:World}(hG:ae W) (n:Nat):GG W (152,LK n) :=
 ab mixed af Tryz.func152 (Qk n) (Pn n) [] ⟨DE hG n,Gv hG n,DD hG n n,M3 hG n,trivial⟩ trivial dY (NY n)
theorem J8{W:World}(hG:ae W) (n:Nat):GG W (130,Do n) :=
 ab mixed af Tryz.func130 (Mg n) (PE n) [] ⟨M6 hG n,wE hG n,trivial⟩ trivial (lF 1 (fun i hi=>match i,hi with|0,_=>iO n (lU n (dI n n)) (dI n) (uE n))) (Oh n)
theorem Nj{W:World}(hG:ae W) (n:Nat):mQ Tryz.prog (eB.of W) (131,JM n):=wl (J8 hG n) (J3 hG n)
theorem NC{W:World}(hG:ae W) (n:Nat):GG W (105,Ma n) :=
 ab mixed af Tryz.func105 (Mo n) (PZ n) [] ⟨Nl hG,Nk hG n,J8 hG n,Nj hG n,trivial⟩ trivial (lF 1 (fun i hi=>match i,hi with|0,_=>iO n (je n (cM n n)) (cM n) (qS n))) (OE n)
theorem MO{W:World}(hG:ae W) (n:Nat):GG W (86,QU n) :=
 ab mixed af Tryz.func86 (Xy n) (Wa n) [] ⟨NB hG n,NC hG n,trivial⟩ trivial dY (SD n)
theorem MT{W:World}(hG:ae W) (n:Nat):GG W (61,QZ n) :=
 ab mixed af Tryz.func61 (XM n) (Wz n) [] ⟨wE hG n,trivial⟩ trivial dY (S2 n)
theorem KY{W:World}(hG:ae W) (n:Nat):GG W (87,OM n) :=
 ab mixed af Tryz.func87 (Vb n) (V9 n) [] ⟨Ji hG n,Jh hG n,trivial⟩ trivial (lF 1 (fun i hi=>match i,hi with|0,_=>iO n (mH n (cd n n)) (cd n) (vF n))) (SC n)
theorem RG{W:World}(hG:ae W) (n:Nat):GG W (60,Us n) :=
 ab mixed af Tryz.func60 (XN n) (WA n) [] ⟨MO hG n,MT hG n,KY hG n,wE hG n,Ji hG n,trivial⟩ trivial dY (Ta n)
theorem Ro{W:World}(hG:ae W) (n:Nat):GG W (88,Uc n) :=
 ab mixed af Tryz.func88 (Xx n) (V8 n) [] ⟨wE hG n,trivial⟩ trivial dY (SB n)
theorem K0{W:World}(hG:ae W) (n:Nat):GG W (62,OO n) :=
 ab mixed af Tryz.func62 (XL n) (Wy n) [] ⟨Ro hG n,trivial⟩ trivial dY (S1 n)
theorem RF{W:World}(hG:ae W) (n:Nat):GG W (63,Ur n) :=
 ab mixed af Tryz.func63 (Q6 n) (Wx n) [] ⟨K0 hG n,trivial⟩ trivial (lF 2 (fun i hi=>match i,hi with|0,_=>iO n (il n (aU n n)) (aU n) (ph n)|1,_=>iO n (gx n (aF n n)) (aF n) (oM n))) (S0 n)
theorem K2{W:World}(hG:ae W) (n:Nat):GG W (38,OQ n) :=
 ab mixed af Tryz.func38 (P8 n) (WX n) [] ⟨RI hG n,wE hG n,RH hG n,RG hG n,MT hG n,K0 hG n,RF hG n,trivial⟩ trivial (lF 3 (fun i hi=>match i,hi with|0,_=>iO n (kP n (bX n n)) (bX n) (tw n)|1,_=>iO n (kc n (bz n n)) (bz n) (si n)|2,_=>iO n (kb n (bx n n)) (bx n) (sg n))) (Tx n)
theorem Nw{W:World}(hG:ae W) (n:Nat):GG W (111,L8 n) :=
 ab mixed af Tryz.func111 (QI n) (PX n) [] ⟨wE hG n,trivial⟩ trivial dY (OC n)
theorem Nv{W:World}(hG:ae W) (n:Nat):GG W (112,L7 n) :=
 ab mixed af Tryz.func112 (QH n) (PW n) [] ⟨J9 hG n,trivial⟩ trivial dY (OB n)
theorem J2{W:World}(hG:ae W) (n:Nat):GG W (166,JH n) :=
 ab mixed af Tryz.func166 (Mf n) (Pm n) [] trivial trivial (lF 1 (fun i hi=>match i,hi with|0,_=>iO n (cq n (ah n n)) (ah n) (gt n))) (NX n)
theorem Ni{W:World}(hG:ae W) (n:Nat):GG W (134,LV n) :=
 ab mixed af Tryz.func134 (Qy n) (PD n) [] ⟨J2 hG n,trivial⟩ trivial dY (Og n)
theorem K6{W:World}(hG:ae W) (n:Nat):GG W (134,Iu n) :=
 ab mixed af Tryz.func134 (KD n) (Kw n) [] ⟨J2 hG n,trivial⟩ trivial dY (Lm n)
theorem Nu{W:World}(hG:ae W) (n:Nat):GG W (113,L6 n) :=
 ab mixed af Tryz.func113 (QG n) (PV n) [] ⟨Ni hG n,trivial⟩ trivial dY (OA n)
theorem Rm{W:World}(hG:ae W) (n:Nat):GG W (90,Ua n) :=
 ab mixed af Tryz.func90 (U9 n) (V6 n) [] ⟨Nw hG n,Nv hG n,Nu hG n,trivial⟩ trivial (lF 1 (fun i hi=>match i,hi with|0,_=>iO n (gA n (aG n n)) (aG n) (oO n))) (Sz n)
theorem MS{W:World}(hG:ae W) (n:Nat):GG W (65,QY n) :=
 ab mixed af Tryz.func65 (P6 n) (Wv n) [] ⟨Rm hG n,trivial⟩ trivial (lF 3 (fun i hi=>match i,hi with|0,_=>iO n (iH n (bl n n)) (bl n) (pX n)|1,_=>iO n (iG n (bb n n)) (bb n) (pW n)|2,_=>iO n (io n (aV n n)) (aV n) (pi n))) (SY n)
theorem Rn{W:World}(hG:ae W) (n:Nat):GG W (89,Ub n) :=
 ab mixed af Tryz.func89 (Va n) (V7 n) [] ⟨MS hG n,NA hG,Nz hG,Nx hG,Ny hG,trivial⟩ trivial (lF 1 (fun i hi=>match i,hi with|0,_=>iO n (ga n (am n n)) (am n) (nX n))) (SA n)
theorem RE{W:World}(hG:ae W) (n:Nat):GG W (64,Uq n) :=
 ab mixed af Tryz.func64 (Vh n) (Ww n) [] ⟨Rn hG n,trivial⟩ trivial (lF 1 (fun i hi=>match i,hi with|0,_=>iO n (gy n (bu n n)) (bu n) (oN n))) (SZ n)
theorem RZ{W:World}(hG:ae W) (n:Nat):GG W (39,UJ n) :=
 ab mixed af Tryz.func39 (XZ n) (WW n) [] ⟨RE hG n,MS hG n,trivial⟩ trivial dY (Tw n)
theorem Rz{W:World}(hG:ae W) (n:Nat):GG W (68,Un n) :=
 ab mixed af Tryz.func68 (Vg n) (Ws n) [] trivial trivial (lF 1 (fun i hi=>match i,hi with|0,_=>iO n (fZ n (aO n n)) (aO n) (nW n))) (SV n)
theorem K1{W:World}(hG:ae W) (n:Nat):GG W (41,OP n) :=
 ab mixed af Tryz.func41 (XX n) (WU n) [] ⟨Rz hG n,trivial⟩ trivial dY (Tu n)
theorem Rj{W:World}(hG:ae W) (n:Nat):GG W (92,T8 n) :=
 ab mixed af Tryz.func92 (Xv n) (V4 n) [] trivial trivial dY (Sx n)
theorem Nt{W:World}(hG:ae W) (n:Nat):GG W (114,L5 n) :=
 ab mixed af Tryz.func114 (Mn n) (PU n) [] ⟨Rj hG n,trivial⟩ trivial (lF 1 (fun i hi=>match i,hi with|0,_=>iO n (dr n (ai n n)) (ai n) (jT n))) (Oz n)
theorem Rk{W:World}(hG:ae W) (n:Nat):GG W (91,T9 n) :=
 ab mixed af Tryz.func91 (Xw n) (V5 n) [] ⟨Nt hG n,trivial⟩ trivial dY (Sy n)
theorem RD{W:World}(hG:ae W) (n:Nat):GG W (66,Up n) :=
 ab mixed af Tryz.func66 (XK n) (Wu n) [] ⟨K0 hG n,Rk hG n,trivial⟩ trivial dY (SX n)
theorem Ns{W:World}(hG:ae W) (n:Nat):GG W (115,L4 n) :=
 ab mixed af Tryz.func115 (Mm n) (PT n) [] trivial trivial (lF 1 (fun i hi=>match i,hi with|0,_=>iO n (dX n (ak n n)) (ak n) (lI n))) (Oy n)
theorem Ri{W:World}(hG:ae W) (n:Nat):GG W (93,T7 n) :=
 ab mixed af Tryz.func93 (Xu n) (V3 n) [] ⟨Ns hG n,trivial⟩ trivial dY (Sw n)
theorem RB{W:World}(hG:ae W) (n:Nat):GG W (67,Uo n) :=
 ab mixed af Tryz.func67 (XJ n) (Wt n) [] ⟨Ri hG n,trivial⟩ trivial dY (SW n)
theorem RY{W:World}(hG:ae W) (n:Nat):GG W (40,UI n) :=
 ab mixed af Tryz.func40 (XY n) (WV n) [] ⟨K1 hG n,RD hG n,RB hG n,trivial⟩ trivial dY (Tv n)
theorem Sc{W:World}(hG:ae W) (n:Nat):GG W (20,UV n) :=
 ab mixed af Tryz.func20 (Vy n) (Xf n) [] ⟨K2 hG n,RZ hG n,RY hG n,trivial⟩ trivial (lF 1 (fun i hi=>match i,hi with|0,_=>iO n (ip n (aW n n)) (aW n) (pj n))) (TT n)
theorem Ka{W:World}(hG:ae W) (n:Nat):GG W (119,JP n) :=
 ab mixed af Tryz.func119 (QD n) (PO n) [] ⟨Nb hG,trivial⟩ trivial dY (Ou n)
theorem ME (n:Nat):mL (JU n) (aj Tryz.f144) (O2 n):=⟨MI (qO n),trivial⟩
theorem DC{W:World}(hG:ae W) (n:Nat):GG W (144,FK n) :=
 ab mixed af Tryz.func144 (JU n) (Pu n) (O8 n) ⟨Kb hG n,trivial⟩ ⟨K6 hG n,trivial⟩ (Mr (ME n)) (N6 n)
theorem J6{W:World}(hG:ae W) (n:Nat):GG W (142,JK n) :=
 ab mixed af Tryz.func142 (Qs n) (Pw n) [] ⟨DC hG n,trivial⟩ trivial dY (N8 n)
theorem J5{W:World}(hG:ae W) (n:Nat):GG W (143,JJ n) :=
 ab mixed af Tryz.func143 (Qr n) (Pv n) (O9 n) ⟨DC hG n,trivial⟩ ⟨Gw hG n,Gw hG n,trivial⟩ dY (N7 n)
theorem J4{W:World}(hG:ae W) (n:Nat):GG W (145,JI n) :=
 ab mixed af Tryz.func145 (Qq n) (Pt n) [] trivial trivial dY (N5 n)
theorem MG (n k:Nat):mL (IG n k) (aj Tryz.f120) (O4 n k):=⟨A3 (nT n k) [],trivial⟩
theorem Gu{W:World}(hG:ae W) (n:Nat):∀k,GG W (120,Is n k)
 |0=>⟨dG Tryz.func120 (by kernel_rfl) (by kernel_rfl),fun _ _ _ _ _ _ _ h=>by cases h⟩
 |k+1 =>
  have ih:=Gu hG n k
  ab mixed af Tryz.func120 (IG n k) (PN n k) [] ⟨J6 hG n,ih,J5 hG n,J4 hG n,DC hG n,trivial⟩ trivial (GF 1 (fun i hi=>match i,hi with|0,_=>iO n (fY n (aA n (aw n k) n)) (aA n (aw n k)) (fun m x=>nV n m k x)) (MG n k)) (Ot n k)
theorem KO (n k:Nat):mL (Cb n k) (aj Tryz.f120) (Ko n k):=⟨A3 (mO n k) [],trivial⟩
theorem K7{W:World}(hG:ae W) (n:Nat):∀k,GG W (120,Iv n k)
 |0=>⟨dG Tryz.func120 (by kernel_rfl) (by kernel_rfl),fun _ _ _ _ _ _ _ h=>by cases h⟩
 |k+1 =>
  have ih:=K7 hG n k
  ab mixed af Tryz.func120 (Cb n k) (Kx n k) (Ku n k) ⟨J6 hG n,J5 hG n,J4 hG n,DC hG n,trivial⟩ ⟨ih,trivial⟩ (GF 1 (fun i hi=>match i,hi with|0,_=>iO n (fm n (aM n (bp n k) n)) (aM n (bp n k)) (fun m x=>mP n m k x)) (KO n k)) (Ln n k)
theorem Yh{W:World}(hG:ae W) (n:Nat):GG W (94,VO n) :=
 ab mixed af Tryz.func94 (Xt n) (V2 n) [] ⟨Jh hG n,DE hG n,Ka hG n,KY hG n,Gv hG n,DD hG n n,Gu hG n n,trivial⟩ trivial dY (Sv n)
theorem K8{W:World}(hG:ae W) (n:Nat):GG W (94,Iw n) :=
 ab mixed af Tryz.func94 (KE n) (Ky n) [] ⟨Jh hG n,DE hG n,Ka hG n,KY hG n,Gv hG n,DD hG n n,Gu hG n n,trivial⟩ trivial dY (Lo n)
theorem Re (n:Nat):mL (Q5 n) (aj Tryz.f69) (VS n):=⟨A3 (o8 n) [(18,8)],trivial⟩
theorem Ry{W:World}(hG:ae W) (n:Nat):GG W (69,Um n) :=
 ab mixed af Tryz.func69 (Q5 n) (Wr n) (VV n) ⟨MO hG n,Ji hG n,trivial⟩ ⟨K8 hG n,trivial⟩ (Mr (Re n)) (SU n)
theorem RX{W:World}(hG:ae W) (n:Nat):GG W (42,UH n) :=
 ab mixed af Tryz.func42 (Vp n) (WT n) [] ⟨Ry hG n,trivial⟩ trivial (lF 1 (fun i hi=>match i,hi with|0,_=>iO n (fL n (ag n n)) (ag n) (nG n))) (Tt n)
theorem Sb{W:World}(hG:ae W) (n:Nat):GG W (21,UU n) :=
 ab mixed af Tryz.func21 (Vx n) (Xe n) [] ⟨K2 hG n,K1 hG n,RX hG n,trivial⟩ trivial (lF 1 (fun i hi=>match i,hi with|0,_=>iO n (iI n (aR n n)) (aR n) (pY n))) (TS n)
theorem Sa{W:World}(hG:ae W) (n:Nat):GG W (22,UT n) :=
 ab mixed af Tryz.func22 (Q7 n) (Xd n) [] ⟨K2 hG n,K1 hG n,trivial⟩ trivial (lF 2 (fun i hi=>match i,hi with|0,_=>iO n (jg n (ba n n)) (ba n) (qU n)|1,_=>iO n (jf n (aJ n n)) (aJ n) (qT n))) (TR n)
theorem Yk{W:World}(hG:ae W) (n:Nat):GG W (7,S7 n) :=
 ab mixed af Tryz.func7 (E7 n) (G7 n) [] ⟨Sc hG n,Sb hG n,Sa hG n,trivial⟩ trivial dY (Yw n)
theorem Rx{W:World}(hG:ae W) (n:Nat):GG W (70,Ul n) :=
 ab mixed af Tryz.func70 (XI n) (Wq n) [] trivial trivial dY (ST n)
theorem RW{W:World}(hG:ae W) (n:Nat):GG W (43,UG n) :=
 ab mixed af Tryz.func43 (Vo n) (WS n) [] ⟨Rx hG n,trivial⟩ trivial (lF 1 (fun i hi=>match i,hi with|0,_=>iO n (kL n (cA n n)) (cA n) (tp n))) (Tr n)
theorem R9{W:World}(hG:ae W) (n:Nat):GG W (23,US n) :=
 ab mixed af Tryz.func23 (X8 n) (Xc n) [] ⟨RW hG n,trivial⟩ trivial dY (TQ n)
theorem MW{W:World}(hG:ae W) (n:Nat):GG W (24,Q2 n) :=
 ab mixed af Tryz.func24 (Vw n) (Xb n) [] trivial trivial (lF 1 (fun i hi=>match i,hi with|0,_=>iO n (lT n (cR n n)) (cR n) (uD n))) (TO n)
theorem RV{W:World}(hG:ae W) (n:Nat):GG W (44,UF n) :=
 ab mixed af Tryz.func44 (XW n) (WR n) [] ⟨MW hG n,trivial⟩ trivial dY (Tq n)
theorem R8{W:World}(hG:ae W) (n:Nat):GG W (25,UR n) :=
 ab mixed af Tryz.func25 (Vv n) (Xa n) [] ⟨RV hG n,trivial⟩ trivial (lF 1 (fun i hi=>match i,hi with|0,_=>iO n (kM n (bV n n)) (bV n) (tu n))) (TN n)
theorem RU{W:World}(hG:ae W) (n:Nat):GG W (45,UE n) :=
 ab mixed af Tryz.func45 (XV n) (WQ n) [] trivial trivial dY (Tp n)
theorem R7{W:World}(hG:ae W) (n:Nat):GG W (26,UQ n) :=
 ab mixed af Tryz.func26 (Vu n) (W9 n) [] ⟨RU hG n,trivial⟩ trivial (lF 1 (fun i hi=>match i,hi with|0,_=>iO n (j9 n (bI n n)) (bI n) (sf n))) (TM n)
theorem Yj{W:World}(hG:ae W) (n:Nat):GG W (8,S8 n) :=
 ab mixed af Tryz.func8 (E8 n) (G8 n) [] ⟨R9 hG n,MW hG n,R8 hG n,R7 hG n,trivial⟩ trivial dY (Yv n)
theorem Yp{W:World}(hG:ae W) (n:Nat):GG W (3,S3 n) :=
 ab mixed af Tryz.func3 (E3 n) (G3 n) [] ⟨Yn hG n,Yl hG n,Ym hG n,Yk hG n,Yj hG n,trivial⟩ trivial dY (YA n)
end AM
end Go.Proofs.YtlkgapiohfgenaaGreatDoor
