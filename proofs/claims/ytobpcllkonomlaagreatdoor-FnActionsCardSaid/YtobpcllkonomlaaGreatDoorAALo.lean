/- Each function that the laws reach obeys its summary. Under: what the rows list of the library's variables. -/
import Derived.Test.YtobpcllkonomlaaGreatDoorAALd
import Derived.Test.YtobpcllkonomlaaGreatDoorAW3
import Derived.Test.YtobpcllkonomlaaGreatDoorAW4
import Derived.Test.YtobpcllkonomlaaGreatDoorProg
import Derived.Test.YtobpcllkonomlaaGreatDoorAShelf
import Derived.Test.YtobpcllkonomlaaGreatDoorAP1
import Derived.Lib.IndexMore
import Derived.Lib.ItoaNum
import Derived.Lib.Split
import Derived.Lib.CountLaws
import Derived.Lib.SlicesCompact
namespace Go.Proofs.YtobpcllkonomlaaGreatDoor
namespace AM
open Go
set_option linter.unusedVariables false
abbrev GG (W:World) (p:Nat×ac):Prop:=xE Tryz.prog (gA.of W) p
theorem WP{W:World}(hG:ap W) (n:Nat):GG W (7,S7 n) :=
 ai mixed ar Tryz.func7 (E7 n) (G7 n) [] trivial trivial f8 (WR n)
theorem NX{W:World}(hG:ap W) (n:Nat):GG W (31,SP n) :=
 ai mixed ar Tryz.func31 (U1 n) (VX n) [] trivial trivial (Aa 1 (fun i hi=>match i,hi with|0,_=>wK n (mi n (cL n n)) (cL n) (vI n))) (Uj n)
theorem OI{W:World}(hG:ap W) (n:Nat):GG W (102,MX n) :=
 ai mixed ar Tryz.func102 (Su n) (RH n) [] trivial trivial f8 (P1 n)
theorem uf{W:World}(hG:ap W) (n:Nat):GG W (35,DC n) :=
 ai mixed ar Tryz.func35 (Wz n) (VV n) [] ⟨OI hG n,trivial⟩ trivial f8 (Uh n)
theorem zV{W:World}(hG:ap W) (n:Nat):GG W (34,IK n) :=
 ai mixed ar Tryz.func34 (WA n) (VW n) [] ⟨uf hG n,trivial⟩ trivial f8 (Ui n)
theorem G3{W:World}(hG:ap W) (n:Nat):GG W (103,IU n) :=
 ai mixed ar Tryz.func103 (Ss n) (RG n) [] ⟨uf hG n,trivial⟩ trivial f8 (P0 n)
theorem yq{W:World}(hG:ap W) (n:Nat):GG W (166,Cp n) :=
 ai mixed ar Tryz.func166 (R6 n) (QW n) [] ⟨zV hG n,uf hG n,trivial⟩ trivial f8 (Pj n)
theorem KF{W:World}(hG:ap W) (n:Nat):GG W (145,Kd n) :=
 ai mixed ar Tryz.func145 (Sj n) (Rg n) [] trivial trivial f8 (PD n)
theorem OJ{W:World}(hG:ap W) (n:Nat):GG W (101,MY n) :=
 ai mixed ar Tryz.func101 (Sv n) (RI n) [] ⟨G3 hG n,zV hG n,yq hG n,KF hG n,trivial⟩ trivial f8 (P2 n)
theorem KK{W:World}(hG:ap W) (n:Nat):GG W (108,Ki n) :=
 ai mixed ar Tryz.func108 (Nb n) (RD n) [] trivial trivial (Aa 1 (fun i hi=>match i,hi with|0,_=>wK n (lh n (bm n n)) (bm n) (uF n))) (PX n)
theorem D0{W:World}(hG:ap W) (n:Nat):GG W (110,F4 n) :=
 ai mixed ar Tryz.func110 (Sq n) (Rz n) [] trivial trivial f8 (PW n)
theorem KL{W:World}(hG:ap W) (n:Nat):GG W (107,Kj n) :=
 ai mixed ar Tryz.func107 (Sr n) (RE n) [] ⟨KF hG n,D0 hG n,trivial⟩ trivial f8 (PY n)
theorem LK{W:World}(hG:ap W) (n:Nat):GG W (49,P6 n) :=
 ai mixed ar Tryz.func49 (Ww n) (VR n) [] trivial trivial f8 (Ud n)
theorem S9 (n:Nat):dG (SW n) (ak Tryz.f55) (Vf n):=⟨gf (uy n) [(4,4)],trivial⟩
theorem Fk{W:World}(hG:ap W) (n:Nat):GG W (55,K1 n) :=
 ai mixed ar Tryz.func55 (SW n) (VP n) [] ⟨KK hG n,KL hG n,LK hG n,trivial⟩ trivial (um (S9 n)) (Ub n)
theorem NK (n:Nat):dG (I4 n) (ak Tryz.f100) (Qw n):=⟨E9 (pO n) [(0,[0]),(5,[5,0]),(20,[0]),(21,[5,0])],trivial⟩
theorem KM{W:World}(hG:ap W) (n:Nat):GG W (100,Kk n) :=
 ai mixed ar Tryz.func100 (I4 n) (RJ n) [] ⟨uf hG n,OJ hG n,Fk hG n,trivial⟩ trivial (JF 1 (fun i hi=>match i,hi with|0,_=>wK n (iD n (bu n n)) (bu n) (pX n)) (NK n)) (P3 n)
theorem N6{W:World}(hG:ap W) (n:Nat):GG W (192,Mt n) :=
 ai mixed ar Tryz.func192 (M3 n) (QL n) [] trivial trivial (Aa 1 (fun i hi=>match i,hi with|0,_=>wK n (ke n (bo n n)) (bo n) (tK n))) (O8 n)
theorem KC{W:World}(hG:ap W) (n:Nat):GG W (155,Ka n) :=
 ai mixed ar Tryz.func155 (M6 n) (Q6 n) [] ⟨N6 hG n,trivial⟩ trivial (Aa 1 (fun i hi=>match i,hi with|0,_=>wK n (mg n (aQ n n)) (aQ n) (vG n))) (Ps n)
theorem KD{W:World}(hG:ap W) (n:Nat):GG W (154,Kb n) :=
 ai mixed ar Tryz.func154 (M7 n) (Q7 n) [] ⟨uf hG n,yq hG n,KC hG n,trivial⟩ trivial (Aa 1 (fun i hi=>match i,hi with|0,_=>wK n (iB n (bc n n)) (bc n) (pW n))) (Pt n)
theorem Fl{W:World}(hG:ap W) (n:Nat):GG W (54,K2 n) :=
 ai mixed ar Tryz.func54 (Wv n) (VQ n) [] ⟨Fk hG n,trivial⟩ trivial f8 (Uc n)
theorem LL{W:World}(hG:ap W) (n:Nat):GG W (46,P7 n) :=
 ai mixed ar Tryz.func46 (U0 n) (VS n) [] ⟨KL hG n,KK hG n,trivial⟩ trivial (Aa 1 (fun i hi=>match i,hi with|0,_=>wK n (ll n (bW n n)) (bW n) (uH n))) (Ue n)
theorem yr{W:World}(hG:ap W) (n:Nat):GG W (129,Cq n) :=
 ai mixed ar Tryz.func129 (Sl n) (Ri n) [] ⟨D0 hG n,trivial⟩ trivial f8 (PF n)
theorem Ov{W:World}(hG:ap W) (n:Nat):GG W (128,MM n) :=
 ai mixed ar Tryz.func128 (M9 n) (Rj n) [] ⟨yr hG n,trivial⟩ trivial (Aa 1 (fun i hi=>match i,hi with|0,_=>wK n (lc n (bd n n)) (bd n) (uD n))) (PG n)
theorem NR{W:World}(hG:ap W) (n:Nat):GG W (71,SJ n) :=
 ai mixed ar Tryz.func71 (Wj n) (VD n) [] ⟨LL hG n,Ov hG n,trivial⟩ trivial f8 (TX n)
theorem NQ{W:World}(hG:ap W) (n:Nat):GG W (72,SI n) :=
 ai mixed ar Tryz.func72 (Wi n) (VC n) [] ⟨yr hG n,D0 hG n,trivial⟩ trivial f8 (TW n)
theorem To{W:World}(hG:ap W) (n:Nat):GG W (73,UK n) :=
 ai mixed ar Tryz.func73 (UZ n) (VB n) [] ⟨yr hG n,trivial⟩ trivial (Aa 1 (fun i hi=>match i,hi with|0,_=>wK n (jH n (bk n n)) (bk n) (sm n))) (TV n)
theorem GZ{W:World}(hG:ap W) (n:Nat):GG W (16,MC n) :=
 ai mixed ar Tryz.func16 (WE n) (V6 n) [] ⟨NR hG n,NQ hG n,To hG n,trivial⟩ trivial f8 (Us n)
theorem S8 (n:Nat):dG (SV n) (ak Tryz.f69) (Ve n):=⟨gf (tp n) [(6,6),(14,14),(18,18)],trivial⟩
theorem Ju{W:World}(hG:ap W) (n:Nat):GG W (69,Nj n) :=
 ai mixed ar Tryz.func69 (SV n) (VF n) [] ⟨LK hG n,trivial⟩ trivial (um (S8 n)) (TZ n)
theorem N7{W:World}(hG:ap W) (n:Nat):GG W (183,Mu n) :=
 ai mixed ar Tryz.func183 (R0 n) (QM n) [] ⟨GZ hG n,Ju hG n,trivial⟩ trivial f8 (O9 n)
theorem LO{W:World}(hG:ap W) (n:Nat):GG W (183,IM n) :=
 ai mixed ar Tryz.func183 (Ll n) (Lb n) [] ⟨GZ hG n,Ju hG n,trivial⟩ trivial f8 (L6 n)
theorem Ou{W:World}(hG:ap W) (n:Nat):GG W (130,ML n) :=
 ai mixed ar Tryz.func130 (Sk n) (Rh n) [] ⟨KM hG n,KD hG n,Fl hG n,zV hG n,yq hG n,N7 hG n,trivial⟩ trivial f8 (PE n)
theorem LQ{W:World}(hG:ap W) (n:Nat):GG W (130,IP n) :=
 ai mixed ar Tryz.func130 (Ln n) (Le n) (K8 n) ⟨KM hG n,KD hG n,Fl hG n,zV hG n,yq hG n,trivial⟩ ⟨LO hG n,trivial⟩ f8 (L8 n)
theorem KI{W:World}(hG:ap W) (n:Nat):GG W (112,Kg n) :=
 ai mixed ar Tryz.func112 (So n) (Rx n) [] trivial trivial f8 (PU n)
theorem OF{W:World}(hG:ap W) (n:Nat):GG W (116,MW n) :=
 ai mixed ar Tryz.func116 (Sn n) (Rw n) [] ⟨zV hG n,G3 hG n,KI hG n,yq hG n,trivial⟩ trivial f8 (PT n)
theorem LS{W:World}(hG:ap W) (n:Nat):GG W (116,IR n) :=
 ai mixed ar Tryz.func116 (Lo n) (Lg n) [] ⟨zV hG n,G3 hG n,KI hG n,yq hG n,trivial⟩ trivial f8 (Ma n)
theorem KH{W:World}(hG:ap W) (n:Nat):GG W (117,Kf n) :=
 ai mixed ar Tryz.func117 (Sm n) (Rv n) [] ⟨uf hG n,trivial⟩ trivial f8 (PR n)
theorem KJ{W:World}(hG:ap W) (n:Nat):GG W (111,Kh n) :=
 ai mixed ar Tryz.func111 (Sp n) (Ry n) [] trivial trivial f8 (PV n)
theorem KG{W:World}(hG:ap W) (n:Nat):GG W (118,Ke n) :=
 ai mixed ar Tryz.func118 (Na n) (Ru n) [] trivial trivial (Aa 1 (fun i hi=>match i,hi with|0,_=>wK n (mh n (cq n n)) (cq n) (vH n))) (PQ n)
theorem NV{W:World}(hG:ap W) (n:Nat):GG W (64,SN n) :=
 ai mixed ar Tryz.func64 (Wp n) (VK n) [] ⟨uf hG n,zV hG n,KH hG n,KJ hG n,KG hG n,OF hG n,trivial⟩ trivial f8 (T6 n)
theorem LV{W:World}(hG:ap W) (n:Nat):GG W (64,IT n) :=
 ai mixed ar Tryz.func64 (Lp n) (Li n) (La n) ⟨uf hG n,zV hG n,KH hG n,KJ hG n,KG hG n,trivial⟩ ⟨LS hG n,trivial⟩ f8 (Mc n)
theorem NT{W:World}(hG:ap W) (n:Nat):GG W (68,SL n) :=
 ai mixed ar Tryz.func68 (Wl n) (VG n) [] trivial trivial f8 (T0 n)
theorem Kz{W:World}(hG:ap W) (n:Nat):GG W (180,J6 n) :=
 ai mixed ar Tryz.func180 (R3 n) (QP n) [] trivial trivial f8 (Pc n)
theorem Ky{W:World}(hG:ap W) (n:Nat):GG W (181,J5 n) :=
 ai mixed ar Tryz.func181 (R2 n) (QO n) [] ⟨Fl hG n,Fk hG n,trivial⟩ trivial f8 (Pb n)
theorem NE (n:Nat):dG (Ga n) (ak Tryz.f123) (Qq n):=⟨gf (tF n) [(2,6),(3,7)],gf (tD n) [(2,6),(3,7)],gf (tC n) [(3,6),(4,7)],trivial⟩
theorem OA{W:World}(hG:ap W) (n:Nat):GG W (123,MR n) :=
 ai mixed ar Tryz.func123 (Ga n) (Rp n) [] ⟨yr hG n,Kz hG n,Ky hG n,trivial⟩ trivial (um (NE n)) (PL n)
theorem ND (n:Nat):dG (Kp n) (ak Tryz.f124) (Qp n):=⟨gf (tn n) [(5,4)],trivial⟩
theorem Oz{W:World}(hG:ap W) (n:Nat):GG W (124,MQ n) :=
 ai mixed ar Tryz.func124 (Kp n) (Ro n) [] ⟨KC hG n,trivial⟩ trivial (um (ND n)) (PK n)
theorem NC (n:Nat):dG (DG n) (ak Tryz.f125) (Qo n):=⟨gf (rX n) [(2,4),(3,5)],gf (rW n) [(2,4),(3,5)],gf (rV n) [(2,4),(3,5)],gf (qM n) [(3,4),(4,5)],trivial⟩
theorem Oy{W:World}(hG:ap W) (n:Nat):GG W (125,MP n) :=
 ai mixed ar Tryz.func125 (DG n) (Rn n) [] ⟨Fl hG n,Ky hG n,trivial⟩ trivial (um (NC n)) (PJ n)
theorem NB (n:Nat):dG (DF n) (ak Tryz.f126) (Qn n):=⟨gf (tz n) [(2,4),(3,5)],gf (tw n) [(2,4),(3,5)],gf (tv n) [(2,4),(3,5)],gf (tu n) [(6,4),(7,5)],trivial⟩
theorem Ox{W:World}(hG:ap W) (n:Nat):GG W (126,MO n) :=
 ai mixed ar Tryz.func126 (DF n) (Rm n) [] ⟨Fl hG n,Fk hG n,trivial⟩ trivial (um (NB n)) (PI n)
theorem Oj{W:World}(hG:ap W) (n:Nat):GG W (156,MG n) :=
 ai mixed ar Tryz.func156 (M5 n) (Q5 n) [] trivial trivial (Aa 1 (fun i hi=>match i,hi with|0,_=>wK n (lj n (bV n n)) (bV n) (uG n))) (Pr n)
theorem Oi{W:World}(hG:ap W) (n:Nat):GG W (157,MF n) :=
 ai mixed ar Tryz.func157 (M4 n) (Q3 n) [] trivial trivial (Aa 1 (fun i hi=>match i,hi with|0,_=>wK n (ld n (bU n n)) (bU n) (uE n))) (Pq n)
theorem Oh{W:World}(hG:ap W) (n:Nat):GG W (158,ME n) :=
 ai mixed ar Tryz.func158 (Sb n) (Q2 n) [] ⟨D0 hG n,trivial⟩ trivial f8 (Pp n)
theorem Og{W:World}(hG:ap W) (n:Nat):GG W (159,MD n) :=
 ai mixed ar Tryz.func159 (Sa n) (Q1 n) [] trivial trivial f8 (Po n)
theorem N2{W:World}(hG:ap W) (n:Nat):GG W (199,Mq n) :=
 ai mixed ar Tryz.func199 (RU n) (QF n) [] trivial trivial f8 (O2 n)
theorem N1{W:World}(hG:ap W) (n:Nat):GG W (200,Mp n) :=
 ai mixed ar Tryz.func200 (RT n) (QE n) [] ⟨yr hG n,Fk hG n,trivial⟩ trivial f8 (O1 n)
theorem Nz (n:Nat):dG (Kn n) (ak Tryz.f161) (Ql n):=⟨gf (tG n) [(3,8)],trivial⟩
theorem Of{W:World}(hG:ap W) (n:Nat):GG W (161,MB n) :=
 ai mixed ar Tryz.func161 (Kn n) (QZ n) [] ⟨N1 hG n,trivial⟩ trivial (um (Nz n)) (Pm n)
theorem Oe{W:World}(hG:ap W) (n:Nat):GG W (162,MA n) :=
 ai mixed ar Tryz.func162 (R8 n) (QY n) [] trivial trivial f8 (Pl n)
theorem GY{W:World}(hG:ap W) (n k:Nat) (ih:GG W (96,Ni n k)):GG W (160,J9 n k) :=
 ai mixed ar Tryz.func160 (R9 n k) (Q0 n k) [] ⟨N2 hG n,ih,trivial⟩ trivial f8 (Pn n k)
theorem S2 (n k:Nat):dG (ST n k) (ak Tryz.f96) (Va n k):=⟨gf (uz n k) [(6,8)],trivial⟩
theorem LJ{W:World}(hG:ap W) (n:Nat):∀k,GG W (96,Ni n k)
 |0=>⟨kH Tryz.func96 (by kernel_rfl) (by kernel_rfl),fun _ _ _ _ _ _ _ h=>by cases h⟩
 |k+1 =>
  have ih:=LJ hG n k
  ai mixed ar Tryz.func96 (ST n k) (Vn n k) [] ⟨Oj hG n,Oi hG n,Oh hG n,Fl hG n,ih,Og hG n,GY hG n k ih,Of hG n,Oe hG n,Fk hG n,trivial⟩ trivial (um (S2 n k)) (TF n k)
theorem U8{W:World}(hG:ap W) (n k:Nat):GG W (160,J9 n k):=GY hG n k (LJ hG n k)
theorem Tr{W:World}(hG:ap W) (n:Nat):GG W (27,UN n) :=
 ai mixed ar Tryz.func27 (WB n) (VZ n) [] ⟨LL hG n,LK hG n,NR hG n,LJ hG n n,trivial⟩ trivial f8 (Ul n)
theorem N8{W:World}(hG:ap W) (n:Nat):GG W (182,Mv n) :=
 ai mixed ar Tryz.func182 (R1 n) (QN n) [] ⟨LL hG n,NQ hG n,trivial⟩ trivial f8 (Pa n)
theorem NA (n:Nat):dG (Ko n) (ak Tryz.f127) (Qm n):=⟨gf (qN n) [(3,6)],trivial⟩
theorem Ow{W:World}(hG:ap W) (n:Nat):GG W (127,MN n) :=
 ai mixed ar Tryz.func127 (Ko n) (Rk n) [] ⟨N8 hG n,yr hG n,Kz hG n,trivial⟩ trivial (um (NA n)) (PH n)
theorem NS{W:World}(hG:ap W) (n:Nat):GG W (70,SK n) :=
 ai mixed ar Tryz.func70 (Wk n) (VE n) [] ⟨OA hG n,Oz hG n,Oy hG n,Ox hG n,Tr hG n,Ow hG n,trivial⟩ trivial f8 (TY n)
theorem Tc (n:Nat):dG (SY n) (ak Tryz.f15) (Vi n):=⟨Jl (rY n),trivial⟩
theorem Om{W:World}(hG:ap W) (n:Nat):GG W (15,SQ n) :=
 ai mixed ar Tryz.func15 (SY n) (V7 n) [] ⟨GZ hG n,NT hG n,Ju hG n,NS hG n,trivial⟩ trivial (um (Tc n)) (Ut n)
theorem LC (n:Nat):dG (EC n) (ak Tryz.f15) (K6 n):=⟨Jl (pP n),trivial⟩
theorem LW{W:World}(hG:ap W) (n:Nat):GG W (15,IV n) :=
 ai mixed ar Tryz.func15 (EC n) (Lk n) [] ⟨GZ hG n,NT hG n,Ju hG n,NS hG n,trivial⟩ trivial (um (LC n)) (Me n)
theorem S6 (n:Nat):dG (RN n) (ak Tryz.f74) (Vd n):=⟨gf (oW n) [(3,4)],trivial⟩
theorem Tn{W:World}(hG:ap W) (n:Nat):GG W (74,UJ n) :=
 ai mixed ar Tryz.func74 (RN n) (VA n) [] ⟨Ou hG n,uf hG n,NV hG n,Om hG n,trivial⟩ trivial (JF 1 (fun i hi=>match i,hi with|0,_=>wK n (iE n (aS n n)) (aS n) (pY n)) (S6 n)) (TU n)
theorem LB (n:Nat):dG (Cx n) (ak Tryz.f74) (K5 n):=⟨gf (nA n) [(3,4)],trivial⟩
theorem LU{W:World}(hG:ap W) (n:Nat):GG W (74,IS n) :=
 ai mixed ar Tryz.func74 (Cx n) (Lh n) (K9 n) ⟨uf hG n,trivial⟩ ⟨LQ hG n,LV hG n,LW hG n,trivial⟩ (JF 1 (fun i hi=>match i,hi with|0,_=>wK n (gy n (aI n n)) (aI n) (oJ n)) (LB n)) (Mb n)
theorem NW{W:World}(hG:ap W) (n:Nat):GG W (63,SO n) :=
 ai mixed ar Tryz.func63 (Wq n) (VL n) (Vl n) ⟨uf hG n,trivial⟩ ⟨LU hG n,trivial⟩ f8 (T7 n)
theorem Td (n:Nat):dG (SZ n) (ak Tryz.f13) (Vj n):=⟨gf (nB n) [(2,2)],trivial⟩
theorem Tz{W:World}(hG:ap W) (n:Nat):GG W (13,UT n) :=
 ai mixed ar Tryz.func13 (SZ n) (V9 n) [] ⟨NX hG n,NW hG n,NV hG n,uf hG n,trivial⟩ trivial (um (Td n)) (Uv n)
theorem C2{W:World}(hG:ap W) (n:Nat):GG W (58,JY n) :=
 ai mixed ar Tryz.func58 (Wu n) (VO n) [] trivial trivial f8 (Ua n)
theorem GW{W:World}(hG:ap W) (n:Nat):GG W (59,Mn n) :=
 ai mixed ar Tryz.func59 (Wt n) (VN n) [] ⟨C2 hG n,trivial⟩ trivial f8 (T9 n)
theorem G2{W:World}(hG:ap W) (n:Nat):GG W (59,EB n) :=
 ai mixed ar Tryz.func59 (Lq n) (Lj n) [] ⟨C2 hG n,trivial⟩ trivial f8 (Md n)
theorem Od{W:World}(hG:ap W) (n:Nat):GG W (163,Mz n) :=
 ai mixed ar Tryz.func163 (R7 n) (QX n) [] trivial trivial f8 (Pk n)
theorem NN{W:World}(hG:ap W) (n:Nat):GG W (97,SF n) :=
 ai mixed ar Tryz.func97 (Wa n) (Vm n) [] ⟨Od hG n,C2 hG n,trivial⟩ trivial f8 (TE n)
theorem Ta (n:Nat):dG (No n) (ak Tryz.f28) (Vg n):=⟨⟨by kernel_rfl,fun x y hy=>Dz (uA n x) (fun v hv=>((show ∀v∈[aA n x,aA n x,aA n x,a7 n x,a7 n x,a7 n x,aA n x,aA n x,aA n x,a7 n x,a7 n x,a7 n x],v=aA n x from(List.forall_mem_cons.2 ⟨rfl,(List.forall_mem_cons.2 ⟨rfl,(List.forall_mem_cons.2 ⟨rfl,(List.forall_mem_cons.2 ⟨cU n x,(List.forall_mem_cons.2 ⟨cU n x,(List.forall_mem_cons.2 ⟨cU n x,(List.forall_mem_cons.2 ⟨rfl,(List.forall_mem_cons.2 ⟨rfl,(List.forall_mem_cons.2 ⟨rfl,(List.forall_mem_cons.2 ⟨cU n x,(List.forall_mem_cons.2 ⟨cU n x,(List.forall_mem_cons.2 ⟨cU n x,(fun _ h=>by cases h)⟩)⟩)⟩)⟩)⟩)⟩)⟩)⟩)⟩)⟩)⟩)⟩)) v hv).trans (show aA n x=some y from hy))⟩,trivial⟩
theorem LM{W:World}(hG:ap W) (n:Nat):GG W (28,P8 n) :=
 ai mixed ar Tryz.func28 (No n) (VY n) [] ⟨NN hG n,trivial⟩ trivial (JF 1 (fun i hi=>match i,hi with|0,_=>wK n (lm n (b8 n n)) (b8 n) (uI n)) (Ta n)) (Uk n)
theorem NP{W:World}(hG:ap W) (n:Nat):GG W (76,SH n) :=
 ai mixed ar Tryz.func76 (UY n) (Vy n) [] ⟨GW hG n,LM hG n,trivial⟩ trivial (Aa 1 (fun i hi=>match i,hi with|0,_=>wK n (lp n (bf n n)) (bf n) (uJ n))) (TS n)
theorem GV{W:World}(hG:ap W) (n:Nat):GG W (77,Mm n) :=
 ai mixed ar Tryz.func77 (Wg n) (Vx n) [] ⟨GW hG n,C2 hG n,LM hG n,trivial⟩ trivial f8 (TR n)
theorem Tl{W:World}(hG:ap W) (n:Nat):GG W (78,UH n) :=
 ai mixed ar Tryz.func78 (UX n) (Vw n) [] ⟨GW hG n,trivial⟩ trivial (Aa 1 (fun i hi=>match i,hi with|0,_=>wK n (fF n (aC n n)) (aC n) (m9 n))) (TQ n)
theorem LN{W:World}(hG:ap W) (n:Nat):GG W (19,Qb n) :=
 ai mixed ar Tryz.func19 (WD n) (V3 n) [] ⟨NP hG n,GV hG n,Tl hG n,trivial⟩ trivial f8 (Up n)
theorem Fm{W:World}(hG:ap W) (n:Nat):GG W (39,K3 n) :=
 ai mixed ar Tryz.func39 (Wy n) (VU n) [] ⟨OH hG,trivial⟩ trivial f8 (Ug n)
theorem NU{W:World}(hG:ap W) (n:Nat):GG W (65,SM n) :=
 ai mixed ar Tryz.func65 (Wo n) (VJ n) [] ⟨Fm hG n,OG hG,trivial⟩ trivial f8 (T5 n)
theorem Ku{W:World}(hG:ap W) (n:Nat):GG W (213,J0 n) :=
 ai mixed ar Tryz.func213 (RR n) (QC n) [] trivial trivial f8 (OZ n)
theorem Jv{W:World}(hG:ap W) (n:Nat):GG W (60,Nk n) :=
 ai mixed ar Tryz.func60 (Ws n) (VM n) [] ⟨LM hG n,Fm hG n,trivial⟩ trivial f8 (T8 n)
theorem Kv{W:World}(hG:ap W) (n:Nat):GG W (205,J1 n) :=
 ai mixed ar Tryz.func205 (M2 n) (QD n) [] trivial trivial (Aa 1 (fun i hi=>match i,hi with|0,_=>wK n (bR n (am n n)) (am n) (gu n))) (O0 n)
theorem U7{W:World}(hG:ap W) (n:Nat):GG W (168,Qc n) :=
 ai mixed ar Tryz.func168 (R5 n) (QV n) [] ⟨Kv hG n,trivial⟩ trivial f8 (Pi n)
theorem LP{W:World}(hG:ap W) (n:Nat):GG W (168,IN n) :=
 ai mixed ar Tryz.func168 (Lm n) (Ld n) [] ⟨Kv hG n,trivial⟩ trivial f8 (L7 n)
theorem NJ (n:Nat):dG (Kq n) (ak Tryz.f106) (Qv n):=⟨Jl (qO n),trivial⟩
theorem Bt{W:World}(hG:ap W) (n:Nat):GG W (106,DD n) :=
 ai mixed ar Tryz.func106 (Kq n) (RF n) (Qz n) ⟨NN hG n,trivial⟩ ⟨LP hG n,trivial⟩ (um (NJ n)) (PZ n)
theorem Jw{W:World}(hG:ap W) (n:Nat):GG W (44,Nl n) :=
 ai mixed ar Tryz.func44 (Wx n) (VT n) [] ⟨Bt hG n,trivial⟩ trivial f8 (Uf n)
theorem Nu (n:Nat):dG (Kl n) (ak Tryz.f214) (Qg n):=⟨GH (qP n),trivial⟩
theorem Kt{W:World}(hG:ap W) (n:Nat):GG W (214,JZ n) :=
 ai mixed ar Tryz.func214 (Kl n) (QB n) [] ⟨Jw hG n,Bt hG n,trivial⟩ trivial (um (Nu n)) (OY n)
theorem Ny (n:Nat):dG (F9 n) (ak Tryz.f175) (Qk n):=⟨gf (sk n) [(3,6),(4,7)],gf (sj n) [(3,6),(4,7)],gf (si n) [(3,6),(4,7)],trivial⟩
theorem Oc{W:World}(hG:ap W) (n:Nat):GG W (175,My n) :=
 ai mixed ar Tryz.func175 (F9 n) (QU n) [] ⟨GW hG n,Jv hG n,GV hG n,Ku hG n,Fm hG n,Kt hG n,trivial⟩ trivial (um (Ny n)) (Ph n)
theorem KB{W:World}(hG:ap W) (n:Nat):GG W (176,J8 n) :=
 ai mixed ar Tryz.func176 (R4 n) (QT n) [] ⟨NZ hG,trivial⟩ trivial f8 (Pg n)
theorem NI (n:Nat):dG (I3 n) (ak Tryz.f119) (Qu n):=⟨gf (o8 n) [(16,5),(17,6)],E9 (o7 n) [(0,[0]),(22,[0]),(23,[0]),(26,[0]),(27,[0]),(28,[0]),(29,[0])],trivial⟩
theorem OE{W:World}(hG:ap W) (n:Nat):GG W (119,MV n) :=
 ai mixed ar Tryz.func119 (I3 n) (Rt n) [] ⟨Oc hG n,KB hG n,trivial⟩ trivial (um (NI n)) (PP n)
theorem Kx{W:World}(hG:ap W) (n:Nat):GG W (194,J4 n) :=
 ai mixed ar Tryz.func194 (RY n) (QJ n) [] trivial trivial f8 (O6 n)
theorem N5{W:World}(hG:ap W) (n:Nat):GG W (193,Ms n) :=
 ai mixed ar Tryz.func193 (RZ n) (QK n) [] trivial trivial f8 (O7 n)
theorem KE{W:World}(hG:ap W) (n:Nat):GG W (146,Kc n) :=
 ai mixed ar Tryz.func146 (M8 n) (Rf n) [] ⟨Kx hG n,N5 hG n,N4 hG,Ot hG,trivial⟩ trivial (Aa 1 (fun i hi=>match i,hi with|0,_=>wK n (fE n (aM n n)) (aM n) (m8 n))) (PC n)
theorem vi{W:World}(hG:ap W) (n:Nat):GG W (147,xX n) :=
 ai mixed ar Tryz.func147 (Si n) (Re n) [] trivial trivial f8 (PB n)
theorem Tj{W:World}(hG:ap W) (n:Nat):GG W (86,UF n) :=
 ai mixed ar Tryz.func86 (We n) (Vu n) [] ⟨KE hG n,C2 hG n,vi hG n,trivial⟩ trivial f8 (TN n)
theorem Oo{W:World}(hG:ap W) (n:Nat):GG W (148,MK n) :=
 ai mixed ar Tryz.func148 (Sh n) (Rd n) [] ⟨KE hG n,C2 hG n,vi hG n,trivial⟩ trivial f8 (PA n)
theorem On{W:World}(hG:ap W) (n:Nat):GG W (149,MJ n) :=
 ai mixed ar Tryz.func149 (Sg n) (Rc n) [] ⟨C2 hG n,trivial⟩ trivial f8 (Pz n)
theorem G1{W:World}(hG:ap W) (n:Nat):GG W (150,IL n) :=
 ai mixed ar Tryz.func150 (Sf n) (Rb n) [] ⟨vi hG n,trivial⟩ trivial f8 (Py n)
theorem Ti{W:World}(hG:ap W) (n:Nat):GG W (87,UE n) :=
 ai mixed ar Tryz.func87 (Wd n) (Vt n) [] ⟨Oo hG n,On hG n,vi hG n,Jw hG n,G1 hG n,trivial⟩ trivial f8 (TM n)
theorem Tk{W:World}(hG:ap W) (n:Nat):GG W (85,UG n) :=
 ai mixed ar Tryz.func85 (Wf n) (Vv n) [] ⟨Tj hG n,Ti hG n,trivial⟩ trivial f8 (TO n)
theorem NO{W:World}(hG:ap W) (n:Nat):GG W (89,SG n) :=
 ai mixed ar Tryz.func89 (UW n) (Vr n) [] trivial trivial (Aa 1 (fun i hi=>match i,hi with|0,_=>wK n (kf n (bI n n)) (bI n) (tL n))) (TK n)
theorem Ol{W:World}(hG:ap W) (n:Nat):GG W (151,MI n) :=
 ai mixed ar Tryz.func151 (Se n) (Ra n) (Qy n) ⟨Bt hG n,trivial⟩ ⟨G2 hG n,G2 hG n,trivial⟩ f8 (Px n)
theorem S5 (n:Nat):dG (RM n) (ak Tryz.f90) (Vc n):=⟨gf (nC n) [],GH (m7 n),trivial⟩
theorem Tg{W:World}(hG:ap W) (n:Nat):GG W (90,UC n) :=
 ai mixed ar Tryz.func90 (RM n) (Vq n) [] ⟨Ol hG n,G1 hG n,vi hG n,trivial⟩ trivial (um (S5 n)) (TJ n)
theorem Ok{W:World}(hG:ap W) (n:Nat):GG W (152,MH n) :=
 ai mixed ar Tryz.func152 (Sd n) (Q9 n) [] trivial trivial f8 (Pw n)
theorem S3 (n:Nat):dG (SU n) (ak Tryz.f91) (Vb n):=⟨GH (oH n),trivial⟩
theorem Tf{W:World}(hG:ap W) (n:Nat):GG W (91,UB n) :=
 ai mixed ar Tryz.func91 (SU n) (Vp n) [] ⟨Ok hG n,Bt hG n,G1 hG n,trivial⟩ trivial (um (S3 n)) (TH n)
theorem Th{W:World}(hG:ap W) (n:Nat):GG W (88,UD n) :=
 ai mixed ar Tryz.func88 (Wc n) (Vs n) [] ⟨NO hG n,Tg hG n,Tf hG n,trivial⟩ trivial f8 (TL n)
theorem N3{W:World}(hG:ap W) (n:Nat):GG W (197,Mr n) :=
 ai mixed ar Tryz.func197 (RW n) (QH n) [] trivial trivial f8 (O4 n)
theorem Kw{W:World}(hG:ap W) (n:Nat):GG W (198,J2 n) :=
 ai mixed ar Tryz.func198 (RV n) (QG n) [] ⟨vi hG n,trivial⟩ trivial f8 (O3 n)
theorem GX{W:World}(hG:ap W) (n k:Nat) (ih:GG W (153,F3 n k)):GG W (196,J3 n k) :=
 ai mixed ar Tryz.func196 (RX n k) (QI n k) [] ⟨ih,Kw hG n,trivial⟩ trivial f8 (O5 n k)
theorem G0{W:World}(hG:ap W) (n:Nat):∀k,GG W (153,F3 n k)
 |0=>⟨kH Tryz.func153 (by kernel_rfl) (by kernel_rfl),fun _ _ _ _ _ _ _ h=>by cases h⟩
 |k+1 =>
  have ih:=G0 hG n k
  ai mixed ar Tryz.func153 (Sc n k) (Q8 n k) [] ⟨Kx hG n,vi hG n,Tk hG n,NO hG n,N3 hG n,GX hG n k ih,Th hG n,ih,Kw hG n,trivial⟩ trivial f8 (Pv n k)
theorem U6{W:World}(hG:ap W) (n k:Nat):GG W (196,J3 n k):=GX hG n k (G0 hG n k)
theorem Te{W:World}(hG:ap W) (n:Nat):GG W (92,UA n) :=
 ai mixed ar Tryz.func92 (Wb n) (Vo n) [] ⟨vi hG n,G0 hG n n,trivial⟩ trivial f8 (TG n)
theorem Tb (n:Nat):dG (SX n) (ak Tryz.f25) (Vh n):=⟨gf (pU n) [(10,6)],trivial⟩
theorem Tt{W:World}(hG:ap W) (n:Nat):GG W (25,UO n) :=
 ai mixed ar Tryz.func25 (SX n) (V0 n) [] ⟨Jv hG n,NP hG n,Fm hG n,Te hG n,trivial⟩ trivial (um (Tb n)) (Um n)
theorem Nx (n:Nat):dG (Km n) (ak Tryz.f177) (Qj n):=⟨gf (qQ n) [(3,6)],trivial⟩
theorem Oa{W:World}(hG:ap W) (n:Nat):GG W (177,Mx n) :=
 ai mixed ar Tryz.func177 (Km n) (QS n) [] ⟨GW hG n,GV hG n,Ku hG n,trivial⟩ trivial (um (Nx n)) (Pf n)
theorem NH (n:Nat):dG (Gb n) (ak Tryz.f120) (Qt n):=⟨gf (o6 n) [(16,5)],gf (o5 n) [(12,9)],E9 (oZ n) [(0,[0]),(41,[0]),(42,[0]),(45,[0]),(46,[0]),(47,[0]),(48,[0])],trivial⟩
theorem OD{W:World}(hG:ap W) (n:Nat):GG W (120,MU n) :=
 ai mixed ar Tryz.func120 (Gb n) (Rs n) [] ⟨Tt hG n,Oa hG n,trivial⟩ trivial (um (NH n)) (PO n)
theorem Nw (n:Nat):dG (DE n) (ak Tryz.f178) (Qi n):=⟨gf (sg n) [(3,4),(4,5)],Jl (sf n),gf (sd n) [(3,4),(4,5)],gf (rZ n) [(6,4),(7,5)],trivial⟩
theorem KA{W:World}(hG:ap W) (n:Nat):GG W (178,J7 n) :=
 ai mixed ar Tryz.func178 (DE n) (QR n) [] ⟨Jv hG n,GV hG n,Fm hG n,Jw hG n,Bt hG n,trivial⟩ trivial (um (Nw n)) (Pe n)
theorem NG (n:Nat):dG (IZ n) (ak Tryz.f121) (Qs n):=⟨gf (oY n) [(14,5),(15,6)],E9 (oX n) [(0,[0]),(1,[0]),(20,[0]),(21,[0]),(24,[0]),(25,[0]),(26,[0])],trivial⟩
theorem OC{W:World}(hG:ap W) (n:Nat):GG W (121,MT n) :=
 ai mixed ar Tryz.func121 (IZ n) (Rr n) [] ⟨KA hG n,trivial⟩ trivial (um (NG n)) (PN n)
theorem LA (n:Nat):dG (Cw n) (ak Tryz.f121) (K4 n):=⟨gf (nE n) [(14,5),(15,6)],E9 (nD n) [(0,[0]),(1,[0]),(20,[0]),(21,[0]),(24,[0]),(25,[0]),(26,[0])],trivial⟩
theorem LR{W:World}(hG:ap W) (n:Nat):GG W (121,IQ n) :=
 ai mixed ar Tryz.func121 (Cw n) (Lf n) [] ⟨KA hG n,trivial⟩ trivial (um (LA n)) (L9 n)
theorem NY{W:World}(hG:ap W) (n:Nat):GG W (216,Mo n) :=
 ai mixed ar Tryz.func216 (RQ n) (QA n) [] ⟨Jw hG n,Kt hG n,trivial⟩ trivial f8 (OX n)
theorem Nv (n:Nat):dG (F8 n) (ak Tryz.f179) (Qh n):=⟨gf (tJ n) [(3,4),(4,5)],gf (tI n) [(3,4),(4,5)],gf (tH n) [(3,4),(4,5)],trivial⟩
theorem N9{W:World}(hG:ap W) (n:Nat):GG W (179,Mw n) :=
 ai mixed ar Tryz.func179 (F8 n) (QQ n) [] ⟨Jv hG n,GV hG n,Fm hG n,NY hG n,trivial⟩ trivial (um (Nv n)) (Pd n)
theorem NF (n:Nat):dG (IY n) (ak Tryz.f122) (Qr n):=⟨gf (pT n) [(15,3),(16,4)],E9 (pS n) [(0,[0]),(19,[0]),(20,[0]),(23,[0]),(24,[0]),(25,[0]),(26,[0])],trivial⟩
theorem OB{W:World}(hG:ap W) (n:Nat):GG W (122,MS n) :=
 ai mixed ar Tryz.func122 (IY n) (Rq n) [] ⟨N9 hG n,KB hG n,trivial⟩ trivial (um (NF n)) (PM n)
theorem Tq{W:World}(hG:ap W) (n:Nat):GG W (66,UM n) :=
 ai mixed ar Tryz.func66 (Wn n) (VI n) (Vk n) ⟨OE hG n,OD hG n,OC hG n,OB hG n,trivial⟩ ⟨LR hG n,trivial⟩ f8 (T4 n)
theorem Tp{W:World}(hG:ap W) (n:Nat):GG W (67,UL n) :=
 ai mixed ar Tryz.func67 (Wm n) (VH n) [] trivial trivial f8 (T3 n)
theorem Oq{W:World}(hG:ap W) (n:Nat):GG W (14,SR n) :=
 ai mixed ar Tryz.func14 (WF n) (V8 n) [] ⟨LN hG n,NU hG n,Tq hG n,Tp hG n,trivial⟩ trivial f8 (Uu n)
theorem Tx{W:World}(hG:ap W) (n:Nat):GG W (17,US n) :=
 ai mixed ar Tryz.func17 (U4 n) (V5 n) [] trivial trivial (Aa 1 (fun i hi=>match i,hi with|0,_=>wK n (jJ n (bp n n)) (bp n) (sn n))) (Ur n)
theorem Tm{W:World}(hG:ap W) (n:Nat):GG W (75,UI n) :=
 ai mixed ar Tryz.func75 (Wh n) (Vz n) [] trivial trivial f8 (TT n)
theorem Tw{W:World}(hG:ap W) (n:Nat):GG W (18,UR n) :=
 ai mixed ar Tryz.func18 (U3 n) (V4 n) [] ⟨NX hG n,Tm hG n,Tn hG n,zV hG n,uf hG n,NW hG n,trivial⟩ trivial (Aa 1 (fun i hi=>match i,hi with|0,_=>wK n (f6 n (a9 n n)) (a9 n) (nG n))) (Uq n)
theorem Tv{W:World}(hG:ap W) (n:Nat):GG W (20,UQ n) :=
 ai mixed ar Tryz.func20 (WC n) (V2 n) [] trivial trivial f8 (Uo n)
theorem Tu{W:World}(hG:ap W) (n:Nat):GG W (21,UP n) :=
 ai mixed ar Tryz.func21 (U2 n) (V1 n) [] ⟨NU hG n,LN hG n,Oq hG n,trivial⟩ trivial (Aa 1 (fun i hi=>match i,hi with|0,_=>wK n (jh n (a6 n n)) (a6 n) (qR n))) (Un n)
theorem WO (n:Nat):dG (E4 n) (ak Tryz.f4) (Q4 n):=⟨GH (pR n),GH (pQ n),trivial⟩
theorem WQ{W:World}(hG:ap W) (n:Nat):GG W (4,S4 n) :=
 ai mixed ar Tryz.func4 (E4 n) (G4 n) [] ⟨WP hG n,Tz hG n,Oq hG n,Om hG n,GZ hG n,Tx hG n,Tw hG n,LN hG n,Tv hG n,Tu hG n,trivial⟩ trivial (um (WO n)) (WS n)
end AM
end Go.Proofs.YtobpcllkonomlaaGreatDoor
