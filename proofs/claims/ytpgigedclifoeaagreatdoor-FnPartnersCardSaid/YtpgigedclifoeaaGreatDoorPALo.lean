/- Each function that the laws reach obeys its summary. Under: what the rows list of the library's variables. -/
import Derived.Test.YtpgigedclifoeaaGreatDoorPALd
import Derived.Test.YtpgigedclifoeaaGreatDoorPW3
import Derived.Test.YtpgigedclifoeaaGreatDoorPW4
import Derived.Test.YtpgigedclifoeaaGreatDoorProg
import Derived.Test.YtpgigedclifoeaaGreatDoorPShelf
import Derived.Test.YtpgigedclifoeaaGreatDoorPP1
import Derived.Lib.IndexMore
import Derived.Lib.ItoaNum
import Derived.Lib.Split
import Derived.Lib.CountLaws
import Derived.Lib.SlicesCompact
namespace Go.Proofs.YtpgigedclifoeaaGreatDoor
namespace AM
open Go
set_option linter.unusedVariables false
abbrev GG (W:World) (p:Nat×aa):Prop:=qB Tryz.prog (fQ.of W) p
theorem ob7{W:World}(hG:af W) (n:Nat):GG W (7,S7 n) :=
 ac mixed ah Tryz.func7 (E7 n) (G7 n) [] trivial trivial fv (eq7 n)
theorem YM{W:World}(hG:af W) (n:Nat):GG W (65,Z5 n) :=
 ac mixed ah Tryz.func65 (E65 n) (G65 n) [] trivial trivial (sD 1 (fun i hi=>match i,hi with|0,_=>lD n (nT n (dr n n)) (dr n) (xW n))) (Zw n)
theorem YG{W:World}(hG:af W) (n:Nat):GG W (98,ZZ n) :=
 ac mixed ah Tryz.func98 (E98 n) (G98 n) [] trivial trivial fv (Y9 n)
theorem KY{W:World}(hG:af W) (n:Nat):GG W (117,L0 n) :=
 ac mixed ah Tryz.func117 (Rx n) (WP n) [] trivial trivial (sD 1 (fun i hi=>match i,hi with|0,_=>lD n (mJ n (bB n n)) (bB n) (wR n))) (UI n)
theorem Oq{W:World}(hG:af W) (n:Nat):GG W (124,NK n) :=
 ac mixed ah Tryz.func124 (XR n) (WK n) [] trivial trivial fv (UE n)
theorem xR{W:World}(hG:af W) (n:Nat):GG W (46,GZ n) :=
 ac mixed ah Tryz.func46 (E46 n) (G46 n) [] trivial trivial fv (ZC n)
theorem KZ{W:World}(hG:af W) (n:Nat):GG W (116,L4 n) :=
 ac mixed ah Tryz.func116 (XU n) (WQ n) [] ⟨Oq hG n,xR hG n,trivial⟩ trivial fv (UJ n)
theorem DB{W:World}(hG:af W) (n:Nat):GG W (126,FS n) :=
 ac mixed ah Tryz.func126 (XQ n) (WJ n) [] trivial trivial fv (UD n)
theorem Sh (n:Nat):ef (N3 n) (ae Tryz.f102) (Vt n):=⟨mc (wG n) [(4,4)],trivial⟩
theorem yL{W:World}(hG:af W) (n:Nat):GG W (102,CM n) :=
 ac mixed ah Tryz.func102 (N3 n) (W4 n) [] ⟨KY hG n,KZ hG n,DB hG n,trivial⟩ trivial (AW (Sh n)) (UX n)
theorem PB (n:Nat):ef (Ia n) (ae Tryz.f102) (OO n):=⟨mc (tZ n) [(4,4)],trivial⟩
theorem K0{W:World}(hG:af W) (n:Nat):GG W (102,G0 n) :=
 ac mixed ah Tryz.func102 (Ia n) (O5 n) [] ⟨KY hG n,KZ hG n,DB hG n,trivial⟩ trivial (AW (PB n)) (Qi n)
theorem yM{W:World}(hG:af W) (n:Nat):GG W (100,CN n) :=
 ac mixed ah Tryz.func100 (X7 n) (W6 n) [] ⟨yL hG n,trivial⟩ trivial fv (UZ n)
theorem K1{W:World}(hG:af W) (n:Nat):GG W (100,G1 n) :=
 ac mixed ah Tryz.func100 (Pi n) (O6 n) (OX n) trivial ⟨K0 hG n,trivial⟩ fv (Qj n)
theorem Fg{W:World}(hG:af W) (n:Nat):GG W (84,Nr n) :=
 ac mixed ah Tryz.func84 (E84 n) (G84 n) [] ⟨xR hG n,trivial⟩ trivial fv (Zf n)
theorem Gi{W:World}(hG:af W) (n:Nat):GG W (101,JZ n) :=
 ac mixed ah Tryz.func101 (X6 n) (W5 n) [] ⟨Fg hG n,trivial⟩ trivial fv (UY n)
theorem IV{W:World}(hG:af W) (n:Nat):GG W (49,OL n) :=
 ac mixed ah Tryz.func49 (E49 n) (G49 n) [] trivial trivial (sD 1 (fun i hi=>match i,hi with|0,_=>lD n (lR n (bG n n)) (bG n) (vH n))) (Zz n)
theorem MT{W:World}(hG:af W) (n:Nat):GG W (91,RL n) :=
 ac mixed ah Tryz.func91 (E91 n) (G91 n) [] ⟨IV hG n,trivial⟩ trivial (sD 1 (fun i hi=>match i,hi with|0,_=>lD n (nQ n (bv n n)) (bv n) (xU n))) (Zb n)
theorem PU{W:World}(hG:af W) (n:Nat):GG W (91,L9 n) :=
 ac mixed ah Tryz.func91 (Ml n) (O8 n) [] ⟨IV hG n,trivial⟩ trivial (sD 1 (fun i hi=>match i,hi with|0,_=>lD n (lM n (bZ n n)) (bZ n) (vC n))) (Ql n)
theorem YC (n:Nat):ef (RS n) (ae Tryz.f68) (Q68 n):=⟨Si (sT n) [(1,[1,0])],trivial⟩
theorem YK{W:World}(hG:af W) (n:Nat):GG W (68,Z3 n) :=
 ac mixed ah Tryz.func68 (RS n) (G68 n) [] ⟨yM hG n,Gi hG n,yL hG n,MT hG n,trivial⟩ trivial (yV 2 (fun i hi=>match i,hi with|0,_=>lD n (kW n (bF n n)) (bF n) (ug n)|1,_=>lD n (kV n (bE n n)) (bE n) (uf n)) (YC n)) (Zt n)
theorem PE (n:Nat):ef (BE n) (ae Tryz.f68) (OR n):=⟨EV (qW n),trivial⟩
theorem PW{W:World}(hG:af W) (n:Nat):GG W (68,Mb n) :=
 ac mixed ah Tryz.func68 (BE n) (Pc n) (OZ n) ⟨Gi hG n,trivial⟩ ⟨K1 hG n,K1 hG n,K0 hG n,PU hG n,trivial⟩ (yV 2 (fun i hi=>match i,hi with|0,_=>lD n (ji n (bP n n)) (bP n) (rV n)|1,_=>lD n (jh n (bO n n)) (bO n) (rU n)) (PE n)) (Qp n)
theorem Tf{W:World}(hG:af W) (n:Nat):GG W (112,Re n) :=
 ac mixed ah Tryz.func112 (XX n) (WU n) [] trivial trivial fv (UN n)
theorem Cb{W:World}(hG:af W) (n:Nat):GG W (76,LR n) :=
 ac mixed ah Tryz.func76 (E76 n) (G76 n) [] ⟨Tf hG n,trivial⟩ trivial fv (Zn n)
theorem PN{W:World}(hG:af W) (n:Nat):GG W (67,U6 n) :=
 ac mixed ah Tryz.func67 (E67 n) (G67 n) [] ⟨Cb hG n,trivial⟩ trivial fv (Zu n)
theorem K4{W:World}(hG:af W) (n:Nat):GG W (106,Mc n) :=
 ac mixed ah Tryz.func106 (X3 n) (W0 n) [] trivial trivial fv (UT n)
theorem Ox{W:World}(hG:af W) (n:Nat):GG W (107,NP n) :=
 ac mixed ah Tryz.func107 (Rz n) (WZ n) [] trivial trivial (sD 1 (fun i hi=>match i,hi with|0,_=>lD n (nR n (cY n n)) (cY n) (xV n))) (US n)
theorem Ow{W:World}(hG:af W) (n:Nat):GG W (108,NO n) :=
 ac mixed ah Tryz.func108 (X0 n) (WY n) [] ⟨Cb hG n,trivial⟩ trivial fv (UR n)
theorem YA (n:Nat):ef (Yq n) (ae Tryz.f70) (Q70 n):=⟨MK (qV n),trivial⟩
theorem YJ{W:World}(hG:af W) (n:Nat):GG W (70,Z2 n) :=
 ac mixed ah Tryz.func70 (Yq n) (G70 n) [] ⟨Cb hG n,PN hG n,K4 hG n,Ox hG n,Ow hG n,trivial⟩ trivial (AW (YA n)) (Zr n)
theorem PC (n:Nat):ef (Ic n) (ae Tryz.f70) (OP n):=⟨MK (pc n),trivial⟩
theorem K3{W:World}(hG:af W) (n:Nat):GG W (70,G3 n) :=
 ac mixed ah Tryz.func70 (Ic n) (Pa n) [] ⟨Cb hG n,PN hG n,K4 hG n,Ox hG n,Ow hG n,trivial⟩ trivial (AW (PC n)) (Qn n)
theorem PK{W:World}(hG:af W) (n:Nat):GG W (81,U3 n) :=
 ac mixed ah Tryz.func81 (E81 n) (G81 n) [] ⟨KZ hG n,KY hG n,trivial⟩ trivial (sD 1 (fun i hi=>match i,hi with|0,_=>lD n (mP n (cI n n)) (cI n) (wX n))) (Zi n)
theorem KL{W:World}(hG:af W) (n:Nat):GG W (87,Qy n) :=
 ac mixed ah Tryz.func87 (E87 n) (G87 n) [] ⟨xR hG n,trivial⟩ trivial fv (Zc n)
theorem YI{W:World}(hG:af W) (n:Nat):GG W (82,Z1 n) :=
 ac mixed ah Tryz.func82 (E82 n) (G82 n) [] ⟨KL hG n,trivial⟩ trivial (sD 1 (fun i hi=>match i,hi with|0,_=>lD n (mH n (bk n n)) (bk n) (wP n))) (Zh n)
theorem Sp{W:World}(hG:af W) (n:Nat):GG W (45,Yl n) :=
 ac mixed ah Tryz.func45 (E45 n) (G45 n) [] ⟨PK hG n,YI hG n,trivial⟩ trivial fv (ZD n)
theorem YQ{W:World}(hG:af W) (n:Nat):GG W (47,Z9 n) :=
 ac mixed ah Tryz.func47 (E47 n) (G47 n) [] ⟨xR hG n,trivial⟩ trivial (sD 1 (fun i hi=>match i,hi with|0,_=>lD n (mK n (bl n n)) (bl n) (wS n))) (ZB n)
theorem Ot{W:World}(hG:af W) (n:Nat):GG W (118,NL n) :=
 ac mixed ah Tryz.func118 (XT n) (WO n) [] trivial trivial fv (UH n)
theorem PJ{W:World}(hG:af W) (n:Nat):GG W (83,U2 n) :=
 ac mixed ah Tryz.func83 (E83 n) (G83 n) [] ⟨Ot hG n,trivial⟩ trivial fv (Zg n)
theorem YH{W:World}(hG:af W) (n:Nat):GG W (85,Z0 n) :=
 ac mixed ah Tryz.func85 (E85 n) (G85 n) [] ⟨KL hG n,trivial⟩ trivial (sD 1 (fun i hi=>match i,hi with|0,_=>lD n (mM n (bK n n)) (bK n) (wU n))) (Ze n)
theorem SL{W:World}(hG:af W) (n:Nat):GG W (181,QP n) :=
 ac mixed ah Tryz.func181 (Xq n) (V2 n) [] trivial trivial fv (TU n)
theorem SY{W:World}(hG:af W) (n:Nat):GG W (145,Q1 n) :=
 ac mixed ah Tryz.func145 (Rs n) (Ws n) [] ⟨SL hG n,trivial⟩ trivial (sD 1 (fun i hi=>match i,hi with|0,_=>lD n (mL n (dt n n)) (dt n) (wT n))) (Um n)
theorem Of{W:World}(hG:af W) (n:Nat):GG W (172,NA n) :=
 ac mixed ah Tryz.func172 (Rq n) (V8 n) [] trivial trivial (sD 1 (fun i hi=>match i,hi with|0,_=>lD n (mI n (cZ n n)) (cZ n) (wQ n))) (T0 n)
theorem Oc{W:World}(hG:af W) (n:Nat):GG W (195,Nx n) :=
 ac mixed ah Tryz.func195 (Xi n) (VQ n) [] trivial trivial fv (TG n)
theorem Oe{W:World}(hG:af W) (n:Nat):GG W (174,Ny n) :=
 ac mixed ah Tryz.func174 (Xu n) (V6 n) [] trivial trivial fv (TY n)
theorem KU{W:World}(hG:af W) (n:Nat):GG W (138,LW n) :=
 ac mixed ah Tryz.func138 (XJ n) (Wx n) [] ⟨Oq hG n,trivial⟩ trivial fv (Ur n)
theorem KR{W:World}(hG:af W) (n k:Nat) (ih:GG W (137,JV n k)):GG W (173,Nz n k) :=
 ac mixed ah Tryz.func173 (Xv n k) (V7 n k) [] ⟨Oc hG n,ih,trivial⟩ trivial fv (TZ n k)
theorem KV{W:World}(hG:af W) (n:Nat):∀k,GG W (137,JV n k)
 |0=>⟨eY Tryz.func137 (by kernel_rfl) (by kernel_rfl),fun _ _ _ _ _ _ _ h=>by cases h⟩
 |k+1 =>
  have ih:=KV hG n k
  ac mixed ah Tryz.func137 (XK n k) (Wy n k) [] ⟨KU hG n,Of hG n,KR hG n k ih,Oe hG n,ih,trivial⟩ trivial fv (Us n k)
theorem aaH{W:World}(hG:af W) (n k:Nat):GG W (173,Nz n k):=KR hG n k (KV hG n k)
theorem Gh{W:World}(hG:af W) (n:Nat):GG W (110,JY n) :=
 ac mixed ah Tryz.func110 (XY n) (WW n) [] ⟨KV hG n n,trivial⟩ trivial fv (UP n)
theorem SK{W:World}(hG:af W) (n:Nat):GG W (182,QO n) :=
 ac mixed ah Tryz.func182 (Xp n) (V1 n) [] ⟨Gh hG n,trivial⟩ trivial fv (TT n)
theorem SX{W:World}(hG:af W) (n:Nat):GG W (146,Q0 n) :=
 ac mixed ah Tryz.func146 (Rr n) (Wq n) [] ⟨xR hG n,SK hG n,trivial⟩ trivial (sD 1 (fun i hi=>match i,hi with|0,_=>lD n (mO n (d6 n n)) (d6 n) (wW n))) (Ul n)
theorem Tc{W:World}(hG:af W) (n:Nat):GG W (119,Rb n) :=
 ac mixed ah Tryz.func119 (Rw n) (WN n) [] ⟨SY hG n,SX hG n,trivial⟩ trivial (sD 1 (fun i hi=>match i,hi with|0,_=>lD n (jZ n (cA n n)) (cA n) (sW n))) (UG n)
theorem MU{W:World}(hG:af W) (n:Nat):GG W (86,RM n) :=
 ac mixed ah Tryz.func86 (E86 n) (G86 n) [] ⟨Ot hG n,Tc hG n,trivial⟩ trivial fv (Zd n)
theorem YP{W:World}(hG:af W) (n:Nat):GG W (48,Z8 n) :=
 ac mixed ah Tryz.func48 (E48 n) (G48 n) [] ⟨PJ hG n,Fg hG n,YH hG n,MU hG n,KL hG n,xR hG n,trivial⟩ trivial fv (ZA n)
theorem K5{W:World}(hG:af W) (n:Nat):GG W (10,Rf n) :=
 ac mixed ah Tryz.func10 (X8 n) (G10 n) [] ⟨Sp hG n,xR hG n,YQ hG n,YP hG n,IV hG n,trivial⟩ trivial (sD 3 (fun i hi=>match i,hi with|0,_=>lD n (lQ n (bj n n)) (bj n) (vG n)|1,_=>lD n (kU n (bf n n)) (bf n) (ue n)|2,_=>lD n (kT n (bD n n)) (bD n) (ud n))) (ZS n)
theorem OA{W:World}(hG:af W) (n:Nat):GG W (103,NS n) :=
 ac mixed ah Tryz.func103 (X5 n) (W3 n) [] trivial trivial fv (UW n)
theorem S3{W:World}(hG:af W) (n:Nat):GG W (131,Q4 n) :=
 ac mixed ah Tryz.func131 (XO n) (WE n) [] trivial trivial fv (Uy n)
theorem PQ{W:World}(hG:af W) (n:Nat):GG W (131,L6 n) :=
 ac mixed ah Tryz.func131 (Pg n) (O2 n) [] trivial trivial fv (Qf n)
theorem Sg (n:Nat):ef (J5 n) (ae Tryz.f105) (Vs n):=⟨mc (vr n) [(6,8),(12,14),(16,18),(20,22)],EV (vq n),trivial⟩
theorem Oy{W:World}(hG:af W) (n:Nat):GG W (105,NQ n) :=
 ac mixed ah Tryz.func105 (J5 n) (W1 n) (Vz n) ⟨DB hG n,trivial⟩ ⟨PQ hG n,trivial⟩ (yV 1 (fun i hi=>match i,hi with|0,_=>lD n (lP n (cN n n)) (cN n) (vF n)) (Sg n)) (UU n)
theorem SJ{W:World}(hG:af W) (n:Nat):GG W (186,QN n) :=
 ac mixed ah Tryz.func186 (Rp n) (VZ n) [] trivial trivial (sD 1 (fun i hi=>match i,hi with|0,_=>lD n (mQ n (cJ n n)) (cJ n) (wY n))) (TR n)
theorem Ol{W:World}(hG:af W) (n:Nat):GG W (158,NG n) :=
 ac mixed ah Tryz.func158 (XF n) (Wl n) [] ⟨Fg hG n,trivial⟩ trivial fv (Ug n)
theorem SG{W:World}(hG:af W) (n:Nat):GG W (190,QK n) :=
 ac mixed ah Tryz.func190 (Xm n) (VV n) [] trivial trivial fv (TM n)
theorem Ok{W:World}(hG:af W) (n:Nat):GG W (159,NF n) :=
 ac mixed ah Tryz.func159 (XE n) (Wk n) [] ⟨Fg hG n,K4 hG n,SG hG n,trivial⟩ trivial fv (Uf n)
theorem Sa (n:Nat):ef (J3 n) (ae Tryz.f154) (Vm n):=⟨mc (t7 n) [(10,18)],mc (t6 n) [(3,10),(4,11)],trivial⟩
theorem SW{W:World}(hG:af W) (n:Nat):GG W (154,QZ n) :=
 ac mixed ah Tryz.func154 (J3 n) (Wp n) [] ⟨PK hG n,PJ hG n,DB hG n,Fg hG n,SJ hG n,Ol hG n,Ok hG n,Gi hG n,yM hG n,yL hG n,trivial⟩ trivial (yV 1 (fun i hi=>match i,hi with|0,_=>lD n (kX n (bH n n)) (bH n) (uh n)) (Sa n)) (Uk n)
theorem SC{W:World}(hG:af W) (n:Nat):GG W (212,QG n) :=
 ac mixed ah Tryz.func212 (Xf n) (VM n) [] ⟨xR hG n,trivial⟩ trivial fv (TB n)
theorem KT{W:World}(hG:af W) (n:Nat):GG W (139,LV n) :=
 ac mixed ah Tryz.func139 (XI n) (Ww n) [] ⟨KL hG n,yL hG n,trivial⟩ trivial fv (Uq n)
theorem Sf (n k:Nat):ef (N2 n k) (ae Tryz.f111) (Vr n k):=⟨mc (vz n k) [(6,8)],trivial⟩
theorem Ov{W:World}(hG:af W) (n:Nat):∀k,GG W (111,NN n k)
 |0=>⟨eY Tryz.func111 (by kernel_rfl) (by kernel_rfl),fun _ _ _ _ _ _ _ h=>by cases h⟩
 |k+1 =>
  have ih:=Ov hG n k
  ac mixed ah Tryz.func111 (N2 n k) (WV n k) [] ⟨yM hG n,ih,KU hG n,yL hG n,KT hG n,trivial⟩ trivial (AW (Sf n k)) (UO n k)
theorem PA (n k:Nat):ef (G8 n k) (ae Tryz.f111) (ON n k):=⟨mc (sS n k) [(6,8)],trivial⟩
theorem Fh{W:World}(hG:af W) (n:Nat):∀k,GG W (111,BA n k)
 |0=>⟨eY Tryz.func111 (by kernel_rfl) (by kernel_rfl),fun _ _ _ _ _ _ _ h=>by cases h⟩
 |k+1 =>
  have ih:=Fh hG n k
  ac mixed ah Tryz.func111 (G8 n k) (O3 n k) (OW n k) ⟨yM hG n,KU hG n,yL hG n,KT hG n,trivial⟩ ⟨ih,ih,trivial⟩ (AW (PA n k)) (Qg n k)
theorem R4 (n:Nat):ef (Ey n) (ae Tryz.f187) (Vg n):=⟨mc (wK n) [(4,6),(5,7)],mc (wJ n) [(7,14)],mc (wI n) [(4,6),(5,7)],mc (wH n) [(4,6),(5,7)],trivial⟩
theorem SI{W:World}(hG:af W) (n:Nat):GG W (187,QM n) :=
 ac mixed ah Tryz.func187 (Ey n) (VY n) (Vw n) ⟨S3 hG n,MU hG n,SC hG n,yM hG n,Gh hG n,trivial⟩ ⟨Fh hG n n,trivial⟩ (yV 1 (fun i hi=>match i,hi with|0,_=>lD n (nU n (ar n n)) (ar n) (xX n)) (R4 n)) (TQ n)
theorem R7 (n:Nat):ef (Mj n) (ae Tryz.f160) (Vj n):=⟨mc (vp n) [(5,4)],trivial⟩
theorem KS{W:World}(hG:af W) (n:Nat):GG W (160,LU n) :=
 ac mixed ah Tryz.func160 (Mj n) (Wj n) [] ⟨MT hG n,trivial⟩ trivial (yV 1 (fun i hi=>match i,hi with|0,_=>lD n (lN n (cM n n)) (cM n) (vD n)) (R7 n)) (Ue n)
theorem R9 (n:Nat):ef (NY n) (ae Tryz.f155) (Vl n):=⟨MK (xT n),trivial⟩
theorem Om{W:World}(hG:af W) (n:Nat):GG W (155,NH n) :=
 ac mixed ah Tryz.func155 (NY n) (Wo n) [] ⟨SI hG n,IV hG n,KS hG n,trivial⟩ trivial (AW (R9 n)) (Uj n)
theorem Ta{W:World}(hG:af W) (n:Nat):GG W (127,Q9 n) :=
 ac mixed ah Tryz.func127 (XP n) (WI n) [] ⟨PJ hG n,Fg hG n,SW hG n,Om hG n,trivial⟩ trivial fv (UC n)
theorem SB{W:World}(hG:af W) (n:Nat):GG W (213,QF n) :=
 ac mixed ah Tryz.func213 (Rm n) (VL n) [] trivial trivial (sD 1 (fun i hi=>match i,hi with|0,_=>lD n (mN n (dc n n)) (dc n) (wV n))) (TA n)
theorem Tb{W:World}(hG:af W) (n:Nat):GG W (123,Ra n) :=
 ac mixed ah Tryz.func123 (XS n) (WM n) [] ⟨xR hG n,trivial⟩ trivial fv (UF n)
theorem SA{W:World}(hG:af W) (n:Nat):GG W (214,QE n) :=
 ac mixed ah Tryz.func214 (Xe n) (VK n) [] trivial trivial fv (Tz n)
theorem R1 (n:Nat):ef (NU n) (ae Tryz.f216) (Ve n):=⟨mc (vA n) [(3,8)],trivial⟩
theorem Sz{W:World}(hG:af W) (n:Nat):GG W (216,QD n) :=
 ac mixed ah Tryz.func216 (NU n) (VI n) [] ⟨KT hG n,trivial⟩ trivial (AW (R1 n)) (Tw n)
theorem KN{W:World}(hG:af W) (n k:Nat) (ih:GG W (188,JT n k)):GG W (215,Nv n k) :=
 ac mixed ah Tryz.func215 (Xd n k) (VJ n k) [] ⟨Oc hG n,ih,trivial⟩ trivial fv (Tx n k)
theorem R3 (n k:Nat):ef (NV n k) (ae Tryz.f188) (Vf n k):=⟨mc (wL n k) [(6,8)],trivial⟩
theorem KQ{W:World}(hG:af W) (n:Nat):∀k,GG W (188,JT n k)
 |0=>⟨eY Tryz.func188 (by kernel_rfl) (by kernel_rfl),fun _ _ _ _ _ _ _ h=>by cases h⟩
 |k+1 =>
  have ih:=KQ hG n k
  ac mixed ah Tryz.func188 (NV n k) (VX n k) [] ⟨SB hG n,Of hG n,Tb hG n,yM hG n,ih,SA hG n,KN hG n k ih,Sz hG n,Oe hG n,yL hG n,trivial⟩ trivial (AW (R3 n k)) (TO n k)
theorem aaF{W:World}(hG:af W) (n k:Nat):GG W (215,Nv n k):=KN hG n k (KQ hG n k)
theorem SV{W:World}(hG:af W) (n:Nat):GG W (156,QY n) :=
 ac mixed ah Tryz.func156 (XG n) (Wn n) [] ⟨PK hG n,DB hG n,Sp hG n,KQ hG n n,trivial⟩ trivial fv (Ui n)
theorem R0 (n k:Nat):ef (NT n k) (ae Tryz.f217) (Vd n k):=⟨mc (t5 n k) [(8,10)],trivial⟩
theorem N9{W:World}(hG:af W) (n:Nat):∀k,GG W (217,Nu n k)
 |0=>⟨eY Tryz.func217 (by kernel_rfl) (by kernel_rfl),fun _ _ _ _ _ _ _ h=>by cases h⟩
 |k+1 =>
  have ih:=N9 hG n k
  ac mixed ah Tryz.func217 (NT n k) (VH n k) (Vv n k) ⟨ih,trivial⟩ ⟨Fh hG n n,trivial⟩ (AW (R0 n k)) (Tv n k)
theorem SH{W:World}(hG:af W) (n:Nat):GG W (189,QL n) :=
 ac mixed ah Tryz.func189 (Xn n) (VW n) [] ⟨N9 hG n n,trivial⟩ trivial fv (TN n)
theorem R8 (n:Nat):ef (Ez n) (ae Tryz.f157) (Vk n):=⟨mc (vy n) [(2,6),(3,7)],mc (vw n) [],mc (vv n) [(2,6),(3,7)],mc (vu n) [(2,6),(3,7)],mc (t4 n) [(2,6),(3,7)],trivial⟩
theorem SU{W:World}(hG:af W) (n:Nat):GG W (157,QX n) :=
 ac mixed ah Tryz.func157 (Ez n) (Wm n) [] ⟨KL hG n,MU hG n,Gh hG n,SH hG n,trivial⟩ trivial (AW (R8 n)) (Uh n)
theorem Se (n:Nat):ef (N1 n) (ae Tryz.f128) (Vq n):=⟨mc (vn n) [(15,10),(16,11)],trivial⟩
theorem S8{W:World}(hG:af W) (n:Nat):GG W (128,Q8 n) :=
 ac mixed ah Tryz.func128 (N1 n) (WH n) [] ⟨xR hG n,SV hG n,SU hG n,Om hG n,trivial⟩ trivial (AW (Se n)) (UB n)
theorem Sd (n:Nat):ef (J4 n) (ae Tryz.f129) (Vp n):=⟨mc (t3 n) [(11,9)],trivial⟩
theorem S5{W:World}(hG:af W) (n:Nat):GG W (129,Q7 n) :=
 ac mixed ah Tryz.func129 (J4 n) (WG n) [] ⟨Fg hG n,IV hG n,Ol hG n,Gi hG n,Ok hG n,MT hG n,yM hG n,KS hG n,trivial⟩ trivial (yV 2 (fun i hi=>match i,hi with|0,_=>lD n (lO n (co n n)) (co n) (vE n)|1,_=>lD n (kS n (cr n n)) (cr n) (uc n)) (Sd n)) (UA n)
theorem Sc (n:Nat):ef (NZ n) (ae Tryz.f130) (Vo n):=⟨MK (vo n),trivial⟩
theorem S4{W:World}(hG:af W) (n:Nat):GG W (130,Q5 n) :=
 ac mixed ah Tryz.func130 (NZ n) (WF n) [] ⟨xR hG n,IV hG n,MT hG n,KS hG n,trivial⟩ trivial (AW (Sc n)) (Uz n)
theorem Oz{W:World}(hG:af W) (n:Nat):GG W (104,NR n) :=
 ac mixed ah Tryz.func104 (X4 n) (W2 n) [] ⟨Ta hG n,S8 hG n,S5 hG n,S4 hG n,trivial⟩ trivial fv (UV n)
theorem YB (n:Nat):ef (Yr n) (ae Tryz.f69) (Q69 n):=⟨EV (vB n),trivial⟩
theorem So{W:World}(hG:af W) (n:Nat):GG W (69,Yk n) :=
 ac mixed ah Tryz.func69 (Yr n) (G69 n) [] ⟨K5 hG n,OA hG n,Oy hG n,Oz hG n,trivial⟩ trivial (AW (YB n)) (Zs n)
theorem PD (n:Nat):ef (Id n) (ae Tryz.f69) (OQ n):=⟨EV (sU n),trivial⟩
theorem PV{W:World}(hG:af W) (n:Nat):GG W (69,G4 n) :=
 ac mixed ah Tryz.func69 (Id n) (Pb n) [] ⟨K5 hG n,OA hG n,Oy hG n,Oz hG n,trivial⟩ trivial (AW (PD n)) (Qo n)
theorem MX{W:World}(hG:af W) (n:Nat):GG W (69,Ma n):=Jv (S:=G4 n) (PV hG n) Me
theorem acf{W:World}(hG:af W) (n:Nat):GG W (97,S97 n) :=
 ac mixed ah Tryz.func97 (Yo n) (G97 n) [] ⟨YK hG n,Cb hG n,YJ hG n,So hG n,trivial⟩ trivial (sD 2 (fun i hi=>match i,hi with|0,_=>lD n (jg n (cm n n)) (cm n) (rT n)|1,_=>lD n (iE n (cw n n)) (cw n) (rd n))) (Za n)
theorem PT{W:World}(hG:af W) (n:Nat):GG W (97,L8 n) :=
 ac mixed ah Tryz.func97 (Ib n) (O7 n) (OY n) ⟨Cb hG n,So hG n,trivial⟩ ⟨PW hG n,K3 hG n,K3 hG n,trivial⟩ (sD 2 (fun i hi=>match i,hi with|0,_=>lD n (gX n (aL n n)) (aL n) (qv n)|1,_=>lD n (gG n (bi n n)) (bi n) (ph n))) (Qk n) (l3:=OT n) (hl3:=⟨MX hG n,trivial⟩)
theorem YF{W:World}(hG:af W) (n:Nat):GG W (99,ZY n) :=
 ac mixed ah Tryz.func99 (E99 n) (G99 n) [] ⟨Cb hG n,trivial⟩ trivial fv (Y8 n)
theorem YD (n:Nat):ef (Ys n) (ae Tryz.f66) (Q66 n):=⟨EV (qr n),trivial⟩
theorem YL{W:World}(hG:af W) (n:Nat):GG W (66,Z4 n) :=
 ac mixed ah Tryz.func66 (Ys n) (G66 n) (H66 n) ⟨YG hG n,Cb hG n,YF hG n,trivial⟩ ⟨PT hG n,trivial⟩ (AW (YD n)) (Zv n)
theorem YE (n:Nat):ef (Yu n) (ae Tryz.f37) (Q37 n):=⟨Si (vj n) [(4,[8,77,77]),(32,[8,77,77])],trivial⟩
theorem YV{W:World}(hG:af W) (n:Nat):GG W (37,S37 n) :=
 ac mixed ah Tryz.func37 (Yu n) (G37 n) [] ⟨YM hG n,YL hG n,Cb hG n,PN hG n,trivial⟩ trivial (AW (YE n)) (ZL n)
theorem Y0{W:World}(hG:af W) (n:Nat):GG W (32,S32 n) :=
 ac mixed ah Tryz.func32 (E32 n) (G32 n) [] ⟨YV hG n,trivial⟩ trivial fv (ZQ n)
theorem zZ{W:World}(hG:af W) (n:Nat):GG W (39,Ka n) :=
 ac mixed ah Tryz.func39 (E39 n) (G39 n) [] trivial trivial fv (ZJ n)
theorem PM{W:World}(hG:af W) (n:Nat):GG W (73,U5 n) :=
 ac mixed ah Tryz.func73 (E73 n) (G73 n) [] ⟨zZ hG n,trivial⟩ trivial fv (Zq n)
theorem MW{W:World}(hG:af W) (n:Nat):GG W (77,RQ n) :=
 ac mixed ah Tryz.func77 (E77 n) (G77 n) [] ⟨zZ hG n,trivial⟩ trivial fv (Zm n)
theorem K2{W:World}(hG:af W) (n:Nat):GG W (77,G2 n) :=
 ac mixed ah Tryz.func77 (Pj n) (O9 n) [] ⟨zZ hG n,trivial⟩ trivial fv (Qm n)
theorem S2{W:World}(hG:af W) (n:Nat):GG W (140,Q3 n) :=
 ac mixed ah Tryz.func140 (XH n) (Wv n) [] trivial trivial fv (Up n)
theorem Ou{W:World}(hG:af W) (n:Nat):GG W (113,NM n) :=
 ac mixed ah Tryz.func113 (XW n) (WT n) [] ⟨S2 hG n,zZ hG n,trivial⟩ trivial fv (UM n)
theorem Yy (n:Nat):ef (RR n) (ae Tryz.f78) (Q78 n):=⟨⟨by kernel_rfl,fun x y hy=>FN (wM n x) (fun v hv=>((show ∀v∈[aA n x,aA n x,aA n x,bg n x,bg n x,bg n x,aA n x,aA n x,aA n x,bg n x,bg n x,bg n x],v=aA n x from(List.forall_mem_cons.2 ⟨rfl,(List.forall_mem_cons.2 ⟨rfl,(List.forall_mem_cons.2 ⟨rfl,(List.forall_mem_cons.2 ⟨dG n x,(List.forall_mem_cons.2 ⟨dG n x,(List.forall_mem_cons.2 ⟨dG n x,(List.forall_mem_cons.2 ⟨rfl,(List.forall_mem_cons.2 ⟨rfl,(List.forall_mem_cons.2 ⟨rfl,(List.forall_mem_cons.2 ⟨dG n x,(List.forall_mem_cons.2 ⟨dG n x,(List.forall_mem_cons.2 ⟨dG n x,(fun _ h=>by cases h)⟩)⟩)⟩)⟩)⟩)⟩)⟩)⟩)⟩)⟩)⟩)⟩)) v hv).trans (show aA n x=some y from hy))⟩,trivial⟩
theorem MV{W:World}(hG:af W) (n:Nat):GG W (78,RN n) :=
 ac mixed ah Tryz.func78 (RR n) (G78 n) [] ⟨Ou hG n,trivial⟩ trivial (yV 1 (fun i hi=>match i,hi with|0,_=>lD n (mS n (cL n n)) (cL n) (w7 n)) (Yy n)) (Zl n)
theorem YU{W:World}(hG:af W) (n:Nat):GG W (38,S38 n) :=
 ac mixed ah Tryz.func38 (E38 n) (G38 n) [] ⟨MW hG n,MV hG n,trivial⟩ trivial (sD 1 (fun i hi=>match i,hi with|0,_=>lD n (mT n (bn n n)) (bn n) (w8 n))) (ZK n)
theorem YT{W:World}(hG:af W) (n:Nat):GG W (40,S40 n) :=
 ac mixed ah Tryz.func40 (E40 n) (G40 n) [] trivial trivial (sD 1 (fun i hi=>match i,hi with|0,_=>lD n (iG n (ay n n)) (ay n) (rf n))) (ZI n)
theorem Td{W:World}(hG:af W) (n:Nat):GG W (115,Rc n) :=
 ac mixed ah Tryz.func115 (XV n) (WR n) [] ⟨zZ hG n,trivial⟩ trivial fv (UK n)
theorem Od{W:World}(hG:af W) (n:Nat):GG W (177,FQ n) :=
 ac mixed ah Tryz.func177 (Xs n) (V4 n) [] trivial trivial fv (TW n)
theorem Ss{W:World}(hG:af W) (n:Nat):GG W (229,Qz n) :=
 ac mixed ah Tryz.func229 (W8 n) (VB n) [] trivial trivial fv (To n)
theorem SE{W:World}(hG:af W) (n:Nat):GG W (197,QI n) :=
 ac mixed ah Tryz.func197 (Xh n) (VP n) [] ⟨Ss hG n,trivial⟩ trivial fv (TF n)
theorem SN{W:World}(hG:af W) (n:Nat):GG W (176,QR n) :=
 ac mixed ah Tryz.func176 (Xt n) (V5 n) [] ⟨SE hG n,trivial⟩ trivial fv (TX n)
theorem S0{W:World}(hG:af W) (n:Nat):GG W (142,Q2 n) :=
 ac mixed ah Tryz.func142 (Ru n) (Wu n) [] ⟨Od hG n,SN hG n,trivial⟩ trivial (sD 1 (fun i hi=>match i,hi with|0,_=>lD n (nV n (eO n n)) (eO n) (xY n))) (Uo n)
theorem KP{W:World}(hG:af W) (n:Nat):GG W (193,LS n) :=
 ac mixed ah Tryz.func193 (Xk n) (VS n) [] trivial trivial fv (TJ n)
theorem Sy{W:World}(hG:af W) (n:Nat):GG W (218,QC n) :=
 ac mixed ah Tryz.func218 (Xc n) (VG n) [] trivial trivial fv (Tu n)
theorem SF{W:World}(hG:af W) (n:Nat):GG W (191,QJ n) :=
 ac mixed ah Tryz.func191 (Ro n) (VU n) [] ⟨KP hG n,Sy hG n,Sx hG,Sw hG,trivial⟩ trivial (sD 1 (fun i hi=>match i,hi with|0,_=>lD n (gp n (bL n n)) (bL n) (oU n))) (TL n)
theorem DA{W:World}(hG:af W) (n:Nat):GG W (192,FP n) :=
 ac mixed ah Tryz.func192 (Xl n) (VT n) [] trivial trivial fv (TK n)
theorem SS{W:World}(hG:af W) (n:Nat):GG W (162,QV n) :=
 ac mixed ah Tryz.func162 (XC n) (Wh n) [] ⟨SF hG n,zZ hG n,DA hG n,trivial⟩ trivial fv (Uc n)
theorem SR{W:World}(hG:af W) (n:Nat):GG W (163,QU n) :=
 ac mixed ah Tryz.func163 (XB n) (Wg n) [] ⟨KP hG n,DA hG n,trivial⟩ trivial fv (Ub n)
theorem R6 (n:Nat):ef (NX n) (ae Tryz.f164) (Vi n):=⟨EV (qY n),trivial⟩
theorem Oj{W:World}(hG:af W) (n:Nat):GG W (164,NE n) :=
 ac mixed ah Tryz.func164 (NX n) (Wf n) [] trivial trivial (AW (R6 n)) (Ua n)
theorem ST{W:World}(hG:af W) (n:Nat):GG W (161,QW n) :=
 ac mixed ah Tryz.func161 (XD n) (Wi n) [] ⟨SS hG n,Oj hG n,SR hG n,trivial⟩ trivial fv (Ud n)
theorem SQ{W:World}(hG:af W) (n:Nat):GG W (165,QT n) :=
 ac mixed ah Tryz.func165 (XA n) (We n) [] ⟨Oj hG n,trivial⟩ trivial fv (T9 n)
theorem Sv{W:World}(hG:af W) (n:Nat):GG W (221,QB n) :=
 ac mixed ah Tryz.func221 (Rk n) (VF n) [] trivial trivial (sD 1 (fun i hi=>match i,hi with|0,_=>lD n (lS n (dI n n)) (dI n) (vI n))) (Tt n)
theorem Su{W:World}(hG:af W) (n:Nat):GG W (223,QA n) :=
 ac mixed ah Tryz.func223 (Xa n) (VD n) [] trivial trivial fv (Tq n)
theorem N8{W:World}(hG:af W) (n:Nat):GG W (224,Ns n) :=
 ac mixed ah Tryz.func224 (W9 n) (VC n) [] ⟨DA hG n,trivial⟩ trivial fv (Tp n)
theorem KM{W:World}(hG:af W) (n k:Nat) (ih:GG W (194,JS n k)):GG W (222,Nt n k) :=
 ac mixed ah Tryz.func222 (Xb n k) (VE n k) [] ⟨ih,N8 hG n,trivial⟩ trivial fv (Tr n k)
theorem KO{W:World}(hG:af W) (n:Nat):∀k,GG W (194,JS n k)
 |0=>⟨eY Tryz.func194 (by kernel_rfl) (by kernel_rfl),fun _ _ _ _ _ _ _ h=>by cases h⟩
 |k+1 =>
  have ih:=KO hG n k
  ac mixed ah Tryz.func194 (Xj n k) (VR n k) [] ⟨KP hG n,DA hG n,ST hG n,Sv hG n,Su hG n,KM hG n k ih,SQ hG n,ih,N8 hG n,trivial⟩ trivial fv (TH n k)
theorem aaE{W:World}(hG:af W) (n k:Nat):GG W (222,Nt n k):=KM hG n k (KO hG n k)
theorem SP{W:World}(hG:af W) (n:Nat):GG W (166,QS n) :=
 ac mixed ah Tryz.func166 (Xz n) (Wd n) [] ⟨DA hG n,KO hG n n,trivial⟩ trivial fv (T8 n)
theorem Gg{W:World}(hG:af W) (n:Nat):GG W (132,JX n) :=
 ac mixed ah Tryz.func132 (XN n) (WD n) [] ⟨SP hG n,trivial⟩ trivial fv (Ux n)
theorem KX{W:World}(hG:af W) (n:Nat):GG W (134,LY n) :=
 ac mixed ah Tryz.func134 (XM n) (WB n) [] trivial trivial fv (Uv n)
theorem Gf{W:World}(hG:af W) (n:Nat):∀k,GG W (133,JW n k)
 |0=>⟨eY Tryz.func133 (by kernel_rfl) (by kernel_rfl),fun _ _ _ _ _ _ _ h=>by cases h⟩
 |k+1 =>
  have ih:=Gf hG n k
  ac mixed ah Tryz.func133 (Rv n k) (WC n k) [] ⟨ih,trivial⟩ trivial (sD 1 (fun i hi=>match i,hi with|0,_=>lD n (iF n (aZ n (aD n k) n)) (aZ n (aD n k)) (fun m x=>re n m k x))) (Uw n k)
theorem SD{W:World}(hG:af W) (n:Nat):GG W (198,QH n) :=
 ac mixed ah Tryz.func198 (Xg n) (VO n) [] ⟨Gg hG n,trivial⟩ trivial fv (TE n)
theorem SM{W:World}(hG:af W) (n:Nat):GG W (178,QQ n) :=
 ac mixed ah Tryz.func178 (Xr n) (V3 n) [] ⟨Gg hG n,KX hG n,Gf hG n n,SD hG n,trivial⟩ trivial fv (TV n)
theorem On{W:World}(hG:af W) (n:Nat):GG W (143,FR n) :=
 ac mixed ah Tryz.func143 (Rt n) (Wt n) [] ⟨SM hG n,zZ hG n,trivial⟩ trivial (sD 1 (fun i hi=>match i,hi with|0,_=>lD n (mR n (d8 n n)) (d8 n) (wZ n))) (Un n)
theorem SZ{W:World}(hG:af W) (n:Nat):qB Tryz.prog (fQ.of W) (144,NI n):=yw (On hG n) (Od hG n)
theorem Te{W:World}(hG:af W) (n:Nat):GG W (114,Rd n) :=
 ac mixed ah Tryz.func114 (Ry n) (WS n) [] ⟨S1 hG,S0 hG n,On hG n,SZ hG n,trivial⟩ trivial (sD 1 (fun i hi=>match i,hi with|0,_=>lD n (j0 n (cT n n)) (cT n) (sX n))) (UL n)
theorem Sl{W:World}(hG:af W) (n:Nat):GG W (79,Yh n) :=
 ac mixed ah Tryz.func79 (E79 n) (G79 n) [] ⟨Td hG n,Te hG n,trivial⟩ trivial fv (Zk n)
theorem Sr{W:World}(hG:af W) (n:Nat):GG W (42,Yn n) :=
 ac mixed ah Tryz.func42 (E42 n) (G42 n) [] ⟨zZ hG n,trivial⟩ trivial fv (ZG n)
theorem PL{W:World}(hG:af W) (n:Nat):GG W (80,U4 n) :=
 ac mixed ah Tryz.func80 (E80 n) (G80 n) [] ⟨MW hG n,MV hG n,trivial⟩ trivial (sD 1 (fun i hi=>match i,hi with|0,_=>lD n (nW n (ch n n)) (ch n) (xZ n))) (Zj n)
theorem YS{W:World}(hG:af W) (n:Nat):GG W (41,S41 n) :=
 ac mixed ah Tryz.func41 (E41 n) (G41 n) [] ⟨Sl hG n,Sr hG n,PL hG n,zZ hG n,MW hG n,trivial⟩ trivial fv (ZH n)
theorem Sq{W:World}(hG:af W) (n:Nat):GG W (43,Ym n) :=
 ac mixed ah Tryz.func43 (E43 n) (G43 n) [] ⟨PM hG n,trivial⟩ trivial fv (ZF n)
theorem YR{W:World}(hG:af W) (n:Nat):GG W (44,S44 n) :=
 ac mixed ah Tryz.func44 (Yt n) (G44 n) [] ⟨Sq hG n,trivial⟩ trivial (sD 2 (fun i hi=>match i,hi with|0,_=>lD n (iH n (aS n n)) (aS n) (rg n)|1,_=>lD n (gY n (aJ n n)) (aJ n) (qw n))) (ZE n)
theorem ob9{W:World}(hG:af W) (n:Nat):GG W (9,S9 n) :=
 ac mixed ah Tryz.func9 (E9 n) (G9 n) [] ⟨YU hG n,zZ hG n,YT hG n,YS hG n,Sr hG n,Sq hG n,YR hG n,trivial⟩ trivial (sD 3 (fun i hi=>match i,hi with|0,_=>lD n (lT n (cb n n)) (cb n) (vJ n)|1,_=>lD n (k9 n (bA n n)) (bA n) (uk n)|2,_=>lD n (kZ n (bz n n)) (bz n) (uj n))) (eq9 n)
theorem Oo{W:World}(hG:af W) (n:Nat):GG W (135,NJ n) :=
 ac mixed ah Tryz.func135 (XL n) (WA n) [] ⟨SO hG,trivial⟩ trivial fv (Uu n)
theorem Oa{W:World}(hG:af W) (n:Nat):GG W (211,Nw n) :=
 ac mixed ah Tryz.func211 (Rn n) (VN n) [] trivial trivial (sD 1 (fun i hi=>match i,hi with|0,_=>lD n (cE n (aj n n)) (aj n) (gU n))) (TC n)
theorem aaG{W:World}(hG:af W) (n:Nat):GG W (185,U9 n) :=
 ac mixed ah Tryz.func185 (Xo n) (V0 n) [] ⟨Oa hG n,trivial⟩ trivial fv (TS n)
theorem PO{W:World}(hG:af W) (n:Nat):GG W (185,LZ n) :=
 ac mixed ah Tryz.func185 (Pf n) (O0 n) [] ⟨Oa hG n,trivial⟩ trivial fv (Qd n)
theorem R5 (n:Nat):ef (NW n) (ae Tryz.f170) (Vh n):=⟨EV (sV n),trivial⟩
theorem Ge{W:World}(hG:af W) (n:Nat):GG W (170,JU n) :=
 ac mixed ah Tryz.func170 (NW n) (Wa n) (Vx n) ⟨Ou hG n,trivial⟩ ⟨PO hG n,trivial⟩ (AW (R5 n)) (T5 n)
theorem Oi{W:World}(hG:af W) (n:Nat):GG W (168,ND n) :=
 ac mixed ah Tryz.func168 (Xy n) (Wc n) [] ⟨Ge hG n,trivial⟩ trivial fv (T7 n)
theorem Oh{W:World}(hG:af W) (n:Nat):GG W (169,NC n) :=
 ac mixed ah Tryz.func169 (Xx n) (Wb n) (Vy n) ⟨Ge hG n,trivial⟩ ⟨K2 hG n,K2 hG n,trivial⟩ fv (T6 n)
theorem Og{W:World}(hG:af W) (n:Nat):GG W (171,NB n) :=
 ac mixed ah Tryz.func171 (Xw n) (V9 n) [] trivial trivial fv (T3 n)
theorem Sb (n k:Nat):ef (Mk n k) (ae Tryz.f136) (Vn n k):=⟨mc (pd n k) [],trivial⟩
theorem KW{W:World}(hG:af W) (n:Nat):∀k,GG W (136,LX n k)
 |0=>⟨eY Tryz.func136 (by kernel_rfl) (by kernel_rfl),fun _ _ _ _ _ _ _ h=>by cases h⟩
 |k+1 =>
  have ih:=KW hG n k
  ac mixed ah Tryz.func136 (Mk n k) (Wz n k) [] ⟨Oi hG n,ih,Oh hG n,Og hG n,Ge hG n,trivial⟩ trivial (yV 1 (fun i hi=>match i,hi with|0,_=>lD n (gH n (aB n (aw n k) n)) (aB n (aw n k)) (fun m x=>pi n m k x)) (Sb n k)) (Ut n k)
theorem Pz (n k:Nat):ef (EA n k) (ae Tryz.f136) (OM n k):=⟨mc (oh n k) [],trivial⟩
theorem PP{W:World}(hG:af W) (n:Nat):∀k,GG W (136,L5 n k)
 |0=>⟨eY Tryz.func136 (by kernel_rfl) (by kernel_rfl),fun _ _ _ _ _ _ _ h=>by cases h⟩
 |k+1 =>
  have ih:=PP hG n k
  ac mixed ah Tryz.func136 (EA n k) (O1 n k) (OV n k) ⟨Oi hG n,Oh hG n,Og hG n,Ge hG n,trivial⟩ ⟨ih,trivial⟩ (yV 1 (fun i hi=>match i,hi with|0,_=>lD n (fP n (aM n (bm n k) n)) (aM n (bm n k)) (fun m x=>ol n m k x)) (Pz n k)) (Qe n k)
theorem aaI{W:World}(hG:af W) (n:Nat):GG W (109,Vc n) :=
 ac mixed ah Tryz.func109 (XZ n) (WX n) [] ⟨MV hG n,Gg hG n,Oo hG n,PL hG n,KX hG n,Gf hG n n,KW hG n n,trivial⟩ trivial fv (UQ n)
theorem PR{W:World}(hG:af W) (n:Nat):GG W (109,L7 n) :=
 ac mixed ah Tryz.func109 (Ph n) (O4 n) [] ⟨MV hG n,Gg hG n,Oo hG n,PL hG n,KX hG n,Gf hG n n,KW hG n n,trivial⟩ trivial fv (Qh n)
theorem Yz (n:Nat):ef (Yp n) (ae Tryz.f74) (Q74 n):=⟨mc (qZ n) [(18,8)],trivial⟩
theorem Sn{W:World}(hG:af W) (n:Nat):GG W (74,Yj n) :=
 ac mixed ah Tryz.func74 (Yp n) (G74 n) (H74 n) ⟨Sl hG n,MW hG n,trivial⟩ ⟨PR hG n,trivial⟩ (AW (Yz n)) (Zp n)
theorem YO{W:World}(hG:af W) (n:Nat):GG W (60,Z7 n) :=
 ac mixed ah Tryz.func60 (E60 n) (G60 n) [] ⟨Sn hG n,trivial⟩ trivial (sD 1 (fun i hi=>match i,hi with|0,_=>lD n (gq n (ai n n)) (ai n) (oV n))) (Zy n)
theorem YZ{W:World}(hG:af W) (n:Nat):GG W (33,S33 n) :=
 ac mixed ah Tryz.func33 (E33 n) (G33 n) [] ⟨PM hG n,ob9 hG n,YO hG n,trivial⟩ trivial fv (ZP n)
theorem Sm{W:World}(hG:af W) (n:Nat):GG W (75,Yi n) :=
 ac mixed ah Tryz.func75 (E75 n) (G75 n) [] ⟨xR hG n,MU hG n,Gh hG n,Ov hG n n,trivial⟩ trivial fv (Zo n)
theorem YN{W:World}(hG:af W) (n:Nat):GG W (63,Z6 n) :=
 ac mixed ah Tryz.func63 (E63 n) (G63 n) [] ⟨Sm hG n,trivial⟩ trivial (sD 1 (fun i hi=>match i,hi with|0,_=>lD n (iD n (ap n n)) (ap n) (q9 n))) (Zx n)
theorem YY{W:World}(hG:af W) (n:Nat):GG W (34,S34 n) :=
 ac mixed ah Tryz.func34 (E34 n) (G34 n) [] ⟨K5 hG n,YN hG n,trivial⟩ trivial fv (ZO n)
theorem Y1{W:World}(hG:af W) (n:Nat):GG W (30,S30 n) :=
 ac mixed ah Tryz.func30 (E30 n) (G30 n) [] trivial trivial (sD 1 (fun i hi=>match i,hi with|0,_=>lD n (kY n (bI n n)) (bI n) (ui n))) (ZR n)
theorem YX{W:World}(hG:af W) (n:Nat):GG W (35,S35 n) :=
 ac mixed ah Tryz.func35 (E35 n) (G35 n) [] ⟨PM hG n,ob9 hG n,Sn hG n,trivial⟩ trivial fv (ZN n)
theorem YW{W:World}(hG:af W) (n:Nat):GG W (36,S36 n) :=
 ac mixed ah Tryz.func36 (E36 n) (G36 n) [] ⟨K5 hG n,Sm hG n,trivial⟩ trivial fv (ZM n)
theorem rg6 (n:Nat):ef (E6 n) (ae Tryz.f6) (Q6 n):=⟨mc (qX n) [(15,7)],trivial⟩
theorem ob6{W:World}(hG:af W) (n:Nat):GG W (6,S6 n) :=
 ac mixed ah Tryz.func6 (E6 n) (G6 n) [] ⟨ob7 hG n,Y0 hG n,YZ hG n,YY hG n,Y1 hG n,YX hG n,YW hG n,K5 hG n,trivial⟩ trivial (yV 1 (fun i hi=>match i,hi with|0,_=>lD n (jj n (aG n n)) (aG n) (rW n)) (rg6 n)) (eq6 n)
end AM
end Go.Proofs.YtpgigedclifoeaaGreatDoor
