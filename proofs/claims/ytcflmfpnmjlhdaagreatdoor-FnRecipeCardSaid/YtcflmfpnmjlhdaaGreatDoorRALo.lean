/- Each function that the laws reach obeys its summary. Under: what the rows list of the library's variables. -/
import Derived.Test.YtcflmfpnmjlhdaaGreatDoorRALd
import Derived.Test.YtcflmfpnmjlhdaaGreatDoorRW3
import Derived.Test.YtcflmfpnmjlhdaaGreatDoorRW4
import Derived.Test.YtcflmfpnmjlhdaaGreatDoorProg
import Derived.Test.YtcflmfpnmjlhdaaGreatDoorRShelf
import Derived.Test.YtcflmfpnmjlhdaaGreatDoorRP1
import Derived.Lib.IndexMore
import Derived.Lib.ItoaNum
import Derived.Lib.Split
import Derived.Lib.CountLaws
import Derived.Lib.SlicesCompact
namespace Go.Proofs.YtcflmfpnmjlhdaaGreatDoor
namespace AM
open Go
set_option linter.unusedVariables false
abbrev GG (W:World) (p:Nat×ag):Prop:=sW Tryz.prog (eN.of W) p
theorem UL{W:World}(hG:au W) (n:Nat):GG W (5,S5 n) :=
 am mixed aA Tryz.func5 (E5 n) (G5 n) [] trivial trivial gr (UP n)
theorem Pg{W:World}(hG:au W) (n:Nat):GG W (32,Rp n) :=
 am mixed aA Tryz.func32 (R1 n) (Tp n) [] trivial trivial (pg 1 (fun i hi=>match i,hi with|0,_=>lF n (lB n) (dQ n) (tP n))) (Qy n)
theorem L7{W:World}(hG:au W) (n:Nat):GG W (100,KO n) :=
 am mixed aA Tryz.func100 (NV n) (Nw n) [] trivial trivial gr (MN n)
theorem vX{W:World}(hG:au W) (n:Nat):GG W (48,EN n) :=
 am mixed aA Tryz.func48 (Ug n) (Ta n) [] ⟨L7 hG n,trivial⟩ trivial gr (Qj n)
theorem FM{W:World}(hG:au W) (n:Nat):GG W (36,Ks n) :=
 am mixed aA Tryz.func36 (Un n) (Tl n) [] ⟨vX hG n,trivial⟩ trivial gr (Qu n)
theorem L4{W:World}(hG:au W) (n:Nat):GG W (103,KL n) :=
 am mixed aA Tryz.func103 (NU n) (Nt n) [] ⟨vX hG n,trivial⟩ trivial gr (MK n)
theorem Jh{W:World}(hG:au W) (n:Nat):GG W (104,I7 n) :=
 am mixed aA Tryz.func104 (NT n) (Ns n) [] ⟨FM hG n,vX hG n,trivial⟩ trivial gr (MJ n)
theorem D0{W:World}(hG:au W) (n:Nat):GG W (65,Jz n) :=
 am mixed aA Tryz.func65 (T8 n) (SV n) [] trivial trivial gr (P8 n)
theorem Lr{W:World}(hG:au W) (n:Nat):GG W (79,Oc n) :=
 am mixed aA Tryz.func79 (TX n) (SI n) [] ⟨L4 hG n,FM hG n,Jh hG n,D0 hG n,trivial⟩ trivial gr (PV n)
theorem Ik{W:World}(hG:au W) (n:Nat):GG W (85,K7 n) :=
 am mixed aA Tryz.func85 (RR n) (SC n) [] trivial trivial (pg 1 (fun i hi=>match i,hi with|0,_=>lF n (kA n) (bF n) (sH n))) (PO n)
theorem zT{W:World}(hG:au W) (n:Nat):GG W (109,Ca n) :=
 am mixed aA Tryz.func109 (NS n) (Nr n) [] trivial trivial gr (MI n)
theorem Lp{W:World}(hG:au W) (n:Nat):GG W (84,N9 n) :=
 am mixed aA Tryz.func84 (TV n) (SD n) [] ⟨D0 hG n,zT hG n,trivial⟩ trivial gr (PP n)
theorem J1{W:World}(hG:au W) (n:Nat):GG W (39,MT n) :=
 am mixed aA Tryz.func39 (Um n) (Ti n) [] trivial trivial gr (Qr n)
theorem OC (n:Nat):lD (Ot n) (aD Tryz.f80) (Sb n):=⟨DL (sw n) [(4,4)],trivial⟩
theorem FK{W:World}(hG:au W) (n:Nat):GG W (80,Kq n) :=
 am mixed aA Tryz.func80 (Ot n) (SH n) [] ⟨Ik hG n,Lp hG n,J1 hG n,trivial⟩ trivial (Jn (OC n)) (PU n)
theorem OD (n:Nat):lD (Ny n) (aD Tryz.f78) (Sc n):=⟨JQ (og n) [(0,[0]),(5,[5,0]),(20,[0]),(21,[5,0])],trivial⟩
theorem OX{W:World}(hG:au W) (n:Nat):GG W (78,Q6 n) :=
 am mixed aA Tryz.func78 (Ny n) (SJ n) [] ⟨vX hG n,Lr hG n,FK hG n,trivial⟩ trivial (J9 1 (fun i hi=>match i,hi with|0,_=>lF n (gS n) (b6 n) (oq n)) (OD n)) (PW n)
theorem Pf{W:World}(hG:au W) (n:Nat):GG W (33,Ro n) :=
 am mixed aA Tryz.func33 (R0 n) (To n) [] ⟨OX hG n,vX hG n,J1 hG n,Lr hG n,FM hG n,FK hG n,trivial⟩ trivial (pg 1 (fun i hi=>match i,hi with|0,_=>lF n (iy n) (bu n) (pj n))) (Qx n)
theorem wQ{W:World}(hG:au W) (n:Nat):GG W (111,AT n) :=
 am mixed aA Tryz.func111 (K1 n) (Np n) [] trivial trivial (pg 1 (fun i hi=>match i,hi with|0,_=>lF n (jH n) (bO n) (ru n))) (MG n)
theorem OV{W:World}(hG:au W) (n:Nat):GG W (82,Q4 n) :=
 am mixed aA Tryz.func82 (RT n) (SF n) [] ⟨wQ hG n,trivial⟩ trivial (pg 1 (fun i hi=>match i,hi with|0,_=>lF n (lz n) (bA n) (tN n))) (PR n)
theorem FP{W:World}(hG:au W) (n:Nat):GG W (82,Di n) :=
 am mixed aA Tryz.func82 (GK n) (JD n) [] ⟨wQ hG n,trivial⟩ trivial (pg 1 (fun i hi=>match i,hi with|0,_=>lF n (jE n) (cd n) (rn n))) (Kg n)
theorem OW{W:World}(hG:au W) (n:Nat):GG W (81,Q5 n) :=
 am mixed aA Tryz.func81 (RU n) (SG n) (Sj n) ⟨vX hG n,Jh hG n,trivial⟩ ⟨FP hG n,trivial⟩ (pg 1 (fun i hi=>match i,hi with|0,_=>lF n (gR n) (bZ n) (oo n))) (PT n)
theorem Pe{W:World}(hG:au W) (n:Nat):GG W (34,Rn n) :=
 am mixed aA Tryz.func34 (RZ n) (Tn n) (Sm n) ⟨OW hG n,vX hG n,trivial⟩ ⟨FP hG n,trivial⟩ (pg 1 (fun i hi=>match i,hi with|0,_=>lF n (ix n) (cj n) (pi n))) (Qw n)
theorem J2{W:World}(hG:au W) (n:Nat):GG W (38,MU n) :=
 am mixed aA Tryz.func38 (RY n) (Tj n) [] ⟨Lp hG n,Ik hG n,trivial⟩ trivial (pg 1 (fun i hi=>match i,hi with|0,_=>lF n (kC n) (cQ n) (sJ n))) (Qs n)
theorem Il{W:World}(hG:au W) (n:Nat):GG W (59,K9 n) :=
 am mixed aA Tryz.func59 (Ud n) (S1 n) [] ⟨zT hG n,trivial⟩ trivial gr (Qe n)
theorem OU{W:World}(hG:au W) (n:Nat):GG W (86,Q3 n) :=
 am mixed aA Tryz.func86 (RQ n) (SB n) [] ⟨Il hG n,trivial⟩ trivial (pg 1 (fun i hi=>match i,hi with|0,_=>lF n (ku n) (bp n) (sE n))) (PN n)
theorem FL{W:World}(hG:au W) (n:Nat):GG W (40,Kr n) :=
 am mixed aA Tryz.func40 (Ul n) (Th n) [] ⟨J2 hG n,OU hG n,trivial⟩ trivial gr (Qq n)
theorem Ij{W:World}(hG:au W) (n:Nat):GG W (89,K6 n) :=
 am mixed aA Tryz.func89 (TU n) (Sy n) [] ⟨zT hG n,trivial⟩ trivial gr (PK n)
theorem LD{W:World}(hG:au W) (n:Nat):GG W (172,Kt n) :=
 am mixed aA Tryz.func172 (NC n) (M1 n) [] ⟨Ik hG n,wQ hG n,trivial⟩ trivial gr (Mk n)
theorem LF{W:World}(hG:au W) (n:Nat):GG W (153,Ku n) :=
 am mixed aA Tryz.func153 (ND n) (M2 n) [] ⟨Ij hG n,D0 hG n,LD hG n,trivial⟩ trivial gr (Ml n)
theorem Jd{W:World}(hG:au W) (n:Nat):GG W (141,IY n) :=
 am mixed aA Tryz.func141 (KU n) (M3 n) [] ⟨wQ hG n,LF hG n,trivial⟩ trivial (pg 1 (fun i hi=>match i,hi with|0,_=>lF n (ly n) (cu n) (tM n))) (Mm n)
theorem Lj (n:Nat):lD (GJ n) (aD Tryz.f123) (M0 n):=⟨DL (sr n) [],trivial⟩
theorem LR{W:World}(hG:au W) (n:Nat):GG W (123,KC n) :=
 am mixed aA Tryz.func123 (GJ n) (Nc n) [] ⟨Jd hG n,OV hG n,trivial⟩ trivial (J9 1 (fun i hi=>match i,hi with|0,_=>lF n (ks n) (bm n) (sD n)) (Lj n)) (Mv n)
theorem OM{W:World}(hG:au W) (n:Nat):GG W (98,QV n) :=
 am mixed aA Tryz.func98 (RK n) (So n) [] ⟨LR hG n,trivial⟩ trivial (pg 1 (fun i hi=>match i,hi with|0,_=>lF n (lx n) (dP n) (tL n))) (PB n)
theorem LP{W:World}(hG:au W) (n:Nat):GG W (125,KA n) :=
 am mixed aA Tryz.func125 (NI n) (Na n) [] ⟨FL hG n,Jd hG n,trivial⟩ trivial gr (Mt n)
theorem LQ{W:World}(hG:au W) (n:Nat):GG W (124,KB n) :=
 am mixed aA Tryz.func124 (KX n) (Nb n) [] trivial trivial (pg 1 (fun i hi=>match i,hi with|0,_=>lF n (kx n) (cO n) (sG n))) (Mu n)
theorem OL{W:World}(hG:au W) (n:Nat):GG W (99,QU n) :=
 am mixed aA Tryz.func99 (TN n) (Sn n) [] ⟨LP hG n,LQ hG n,trivial⟩ trivial gr (PA n)
theorem O9{W:World}(hG:au W) (n:Nat):GG W (47,Rh n) :=
 am mixed aA Tryz.func47 (Uh n) (Tb n) [] ⟨FL hG n,OM hG n,OL hG n,trivial⟩ trivial gr (Qk n)
theorem Ly{W:World}(hG:au W) (n:Nat):GG W (49,Oi n) :=
 am mixed aA Tryz.func49 (Uf n) (S7 n) [] trivial trivial gr (Qi n)
theorem LN{W:World}(hG:au W) (n:Nat):GG W (127,Ky n) :=
 am mixed aA Tryz.func127 (NG n) (M8 n) [] ⟨D0 hG n,trivial⟩ trivial gr (Mr n)
theorem LM{W:World}(hG:au W) (n:Nat):GG W (128,Kx n) :=
 am mixed aA Tryz.func128 (NF n) (M7 n) [] ⟨Ik hG n,trivial⟩ trivial gr (Mq n)
theorem LL{W:World}(hG:au W) (n:Nat):GG W (129,Kw n) :=
 am mixed aA Tryz.func129 (KW n) (M6 n) [] trivial trivial (pg 1 (fun i hi=>match i,hi with|0,_=>lF n (l5 n) (ab n) (vh n))) (Mp n)
theorem L5{W:World}(hG:au W) (n:Nat):GG W (102,KM n) :=
 am mixed aA Tryz.func102 (I8 n) (Nu n) [] ⟨LN hG n,wQ hG n,Ij hG n,LM hG n,LL hG n,trivial⟩ trivial (pg 2 (fun i hi=>match i,hi with|0,_=>lF n (kr n) (cM n) (sC n)|1,_=>lF n (jy n) (bN n) (rh n))) (ML n)
theorem O7{W:World}(hG:au W) (n:Nat):GG W (51,Rf n) :=
 am mixed aA Tryz.func51 (Nz n) (S3 n) [] ⟨FL hG n,L5 hG n,trivial⟩ trivial (pg 3 (fun i hi=>match i,hi with|0,_=>lF n (jg n) (cH n) (qh n)|1,_=>lF n (iB n) (bU n) (po n)|2,_=>lF n (iA n) (bH n) (pn n))) (Qg n)
theorem FO{W:World}(hG:au W) (n:Nat):GG W (110,GD n) :=
 am mixed aA Tryz.func110 (NR n) (Nq n) [] ⟨D0 hG n,trivial⟩ trivial gr (MH n)
theorem LO{W:World}(hG:au W) (n:Nat):GG W (126,Kz n) :=
 am mixed aA Tryz.func126 (NH n) (M9 n) [] ⟨J2 hG n,Il hG n,FO hG n,trivial⟩ trivial gr (Ms n)
theorem L6{W:World}(hG:au W) (n:Nat):GG W (101,KN n) :=
 am mixed aA Tryz.func101 (GL n) (Nv n) [] ⟨LO hG n,zT hG n,FO hG n,trivial⟩ trivial (pg 3 (fun i hi=>match i,hi with|0,_=>lF n (iz n) (bl n) (pm n)|1,_=>lF n (gU n) (aK n) (ou n)|2,_=>lF n (gT n) (bc n) (ot n))) (MM n)
theorem O8{W:World}(hG:au W) (n:Nat):GG W (50,Rg n) :=
 am mixed aA Tryz.func50 (RX n) (S6 n) [] ⟨O7 hG n,L6 hG n,trivial⟩ trivial (pg 1 (fun i hi=>match i,hi with|0,_=>lF n (jG n) (c7 n) (rt n))) (Qh n)
theorem O4{W:World}(hG:au W) (n:Nat):GG W (61,Rd n) :=
 am mixed aA Tryz.func61 (Ub n) (SZ n) [] ⟨zT hG n,trivial⟩ trivial gr (Qc n)
theorem O5{W:World}(hG:au W) (n:Nat):GG W (60,Re n) :=
 am mixed aA Tryz.func60 (Uc n) (S0 n) [] ⟨FO hG n,wQ hG n,Ij hG n,trivial⟩ trivial gr (Qd n)
theorem Pq{W:World}(hG:au W) (n:Nat):GG W (19,Rz n) :=
 am mixed aA Tryz.func19 (Oy n) (TF n) [] ⟨FL hG n,Il hG n,O4 hG n,O5 hG n,trivial⟩ trivial (pg 2 (fun i hi=>match i,hi with|0,_=>lF n (jz n) (cx n) (rk n)|1,_=>lF n (je n) (ce n) (qd n))) (QL n)
theorem Lw{W:World}(hG:au W) (n:Nat):GG W (62,Og n) :=
 am mixed aA Tryz.func62 (RW n) (SY n) [] trivial trivial (pg 1 (fun i hi=>match i,hi with|0,_=>lF n (lA n) (dt n) (tO n))) (Qb n)
theorem Lv{W:World}(hG:au W) (n:Nat):∀k,GG W (63,Of n k)
 |0=>⟨gp Tryz.func63 (by kernel_rfl) (by kernel_rfl),fun _ _ _ _ _ _ _ h=>by cases h⟩
 |k+1 =>
  have ih:=Lv hG n k
  am mixed aA Tryz.func63 (Ua n k) (SX n k) [] ⟨Lw hG n,ih,trivial⟩ trivial gr (Qa n k)
theorem O3{W:World}(hG:au W) (n:Nat):GG W (64,Rc n) :=
 am mixed aA Tryz.func64 (T9 n) (SW n) [] trivial trivial gr (P9 n)
theorem Pp{W:World}(hG:au W) (n:Nat):GG W (20,Ry n) :=
 am mixed aA Tryz.func20 (R4 n) (TE n) [] ⟨Lw hG n,Lv hG n n,O3 hG n,D0 hG n,trivial⟩ trivial (pg 1 (fun i hi=>match i,hi with|0,_=>lF n (jF n) (c6 n) (rr n))) (QK n)
theorem UK{W:World}(hG:au W) (n:Nat):GG W (8,S8 n) :=
 am mixed aA Tryz.func8 (E8 n) (G8 n) [] ⟨Pq hG n,Pp hG n,trivial⟩ trivial (pg 1 (fun i hi=>match i,hi with|0,_=>lF n (jf n) (cf n) (qe n))) (UO n)
theorem Lq{W:World}(hG:au W) (n:Nat):GG W (83,Oa n) :=
 am mixed aA Tryz.func83 (TW n) (SE n) [] ⟨vX hG n,trivial⟩ trivial gr (PQ n)
theorem Pd{W:World}(hG:au W) (n:Nat):GG W (35,Rm n) :=
 am mixed aA Tryz.func35 (Uo n) (Tm n) [] ⟨O9 hG n,FM hG n,Ly hG n,vX hG n,O8 hG n,UK hG n,Lq hG n,trivial⟩ trivial gr (Qv n)
theorem OG (n:Nat):lD (NA n) (aD Tryz.f37) (Sf n):=⟨JQ (sv n) [(0,[0]),(25,[0])],JQ (su n) [(0,[0]),(40,[0])],trivial⟩
theorem Pc{W:World}(hG:au W) (n:Nat):GG W (37,Rk n) :=
 am mixed aA Tryz.func37 (NA n) (Tk n) [] ⟨vX hG n,Lq hG n,Ly hG n,trivial⟩ trivial (Jn (OG n)) (Qt n)
theorem Pv{W:World}(hG:au W) (n:Nat):GG W (10,RG n) :=
 am mixed aA Tryz.func10 (Uz n) (TL n) [] ⟨Pg hG n,Pf hG n,Pe hG n,Pd hG n,FM hG n,Pc hG n,trivial⟩ trivial gr (QQ n)
theorem Lo{W:World}(hG:au W) (n:Nat):GG W (95,N7 n) :=
 am mixed aA Tryz.func95 (TO n) (Sr n) [] trivial trivial gr (PE n)
theorem DZ{W:World}(hG:au W) (n:Nat):GG W (68,Jy n) :=
 am mixed aA Tryz.func68 (T7 n) (ST n) [] trivial trivial gr (P6 n)
theorem Lz{W:World}(hG:au W) (n:Nat):GG W (42,Oj n) :=
 am mixed aA Tryz.func42 (Uk n) (Tf n) [] ⟨Lo hG n,DZ hG n,trivial⟩ trivial gr (Qo n)
theorem OJ (n:Nat):lD (Le n) (aD Tryz.f12) (Si n):=⟨⟨by kernel_rfl,fun x y hy=>B8 (sy n x) (fun v hv=>((show ∀v∈[aL n x,aL n x,aL n x,ba n x,ba n x,ba n x,aL n x,aL n x,aL n x,ba n x,ba n x,ba n x],v=aL n x from(List.forall_mem_cons.2 ⟨rfl,(List.forall_mem_cons.2 ⟨rfl,(List.forall_mem_cons.2 ⟨rfl,(List.forall_mem_cons.2 ⟨cX n x,(List.forall_mem_cons.2 ⟨cX n x,(List.forall_mem_cons.2 ⟨cX n x,(List.forall_mem_cons.2 ⟨rfl,(List.forall_mem_cons.2 ⟨rfl,(List.forall_mem_cons.2 ⟨rfl,(List.forall_mem_cons.2 ⟨cX n x,(List.forall_mem_cons.2 ⟨cX n x,(List.forall_mem_cons.2 ⟨cX n x,(fun _ h=>by cases h)⟩)⟩)⟩)⟩)⟩)⟩)⟩)⟩)⟩)⟩)⟩)⟩)) v hv).trans (show aL n x=some y from hy))⟩,trivial⟩
theorem Im{W:World}(hG:au W) (n:Nat):GG W (12,Lb n) :=
 am mixed aA Tryz.func12 (Le n) (TJ n) [] ⟨Lz hG n,trivial⟩ trivial (J9 1 (fun i hi=>match i,hi with|0,_=>lF n (kD n) (cT n) (sK n)) (OJ n)) (QO n)
theorem LB{W:World}(hG:au W) (n:Nat):GG W (23,Ol n) :=
 am mixed aA Tryz.func23 (Uu n) (TA n) [] ⟨O2 hG,trivial⟩ trivial gr (QH n)
theorem Po{W:World}(hG:au W) (n:Nat):GG W (21,Rx n) :=
 am mixed aA Tryz.func21 (Uv n) (TC n) [] ⟨Im hG n,LB hG n,trivial⟩ trivial gr (QJ n)
theorem JZ{W:World}(hG:au W) (n:Nat):GG W (43,MS n) :=
 am mixed aA Tryz.func43 (Uj n) (Te n) [] ⟨DZ hG n,trivial⟩ trivial gr (Qn n)
theorem FQ{W:World}(hG:au W) (n:Nat):GG W (43,Dj n) :=
 am mixed aA Tryz.func43 (JG n) (JE n) [] ⟨DZ hG n,trivial⟩ trivial gr (Kh n)
theorem LC{W:World}(hG:au W) (n:Nat):GG W (22,Om n) :=
 am mixed aA Tryz.func22 (R3 n) (TB n) [] ⟨JZ hG n,Im hG n,trivial⟩ trivial (pg 1 (fun i hi=>match i,hi with|0,_=>lF n (kE n) (bv n) (sL n))) (QI n)
theorem Jg{W:World}(hG:au W) (n:Nat):GG W (113,I6 n) :=
 am mixed aA Tryz.func113 (NP n) (Nn n) [] trivial trivial gr (ME n)
theorem L0{W:World}(hG:au W) (n:Nat):GG W (112,KJ n) :=
 am mixed aA Tryz.func112 (NQ n) (No n) [] trivial trivial gr (MF n)
theorem Lu{W:World}(hG:au W) (n:Nat):GG W (67,Oe n) :=
 am mixed aA Tryz.func67 (RV n) (SU n) [] ⟨Jg hG n,L0 hG n,LZ hG,O6 hG,trivial⟩ trivial (pg 1 (fun i hi=>match i,hi with|0,_=>lF n (eX n) (bi n) (lX n))) (P7 n)
theorem zS{W:World}(hG:au W) (n:Nat):GG W (69,GN n) :=
 am mixed aA Tryz.func69 (T6 n) (SS n) [] trivial trivial gr (P5 n)
theorem Pm{W:World}(hG:au W) (n:Nat):GG W (25,Rv n) :=
 am mixed aA Tryz.func25 (Us n) (Tx n) [] ⟨Lu hG n,DZ hG n,zS hG n,trivial⟩ trivial gr (QF n)
theorem O1{W:World}(hG:au W) (n:Nat):GG W (70,Rb n) :=
 am mixed aA Tryz.func70 (T5 n) (SR n) [] ⟨Lu hG n,DZ hG n,zS hG n,trivial⟩ trivial gr (P4 n)
theorem Lt{W:World}(hG:au W) (n:Nat):GG W (71,Od n) :=
 am mixed aA Tryz.func71 (T4 n) (SQ n) [] ⟨DZ hG n,trivial⟩ trivial gr (P3 n)
theorem Je{W:World}(hG:au W) (n:Nat):GG W (135,IZ n) :=
 am mixed aA Tryz.func135 (KV n) (M5 n) [] trivial trivial (pg 1 (fun i hi=>match i,hi with|0,_=>lF n (bX n) (ay n) (fT n))) (Mo n)
theorem LY{W:World}(hG:au W) (n:Nat):GG W (115,KI n) :=
 am mixed aA Tryz.func115 (NO n) (Nl n) [] ⟨Je hG n,trivial⟩ trivial gr (MD n)
theorem J3{W:World}(hG:au W) (n:Nat):GG W (115,GC n) :=
 am mixed aA Tryz.func115 (JF n) (JC n) [] ⟨Je hG n,trivial⟩ trivial gr (Kf n)
theorem OE (n:Nat):lD (Ou n) (aD Tryz.f75) (Sd n):=⟨OK (ph n),trivial⟩
theorem JX{W:World}(hG:au W) (n:Nat):GG W (75,MQ n) :=
 am mixed aA Tryz.func75 (Ou n) (SM n) (Sk n) ⟨Lz hG n,trivial⟩ ⟨J3 hG n,trivial⟩ (Jn (OE n)) (PZ n)
theorem O0{W:World}(hG:au W) (n:Nat):GG W (73,Ra n) :=
 am mixed aA Tryz.func73 (T1 n) (SO n) [] ⟨JX hG n,trivial⟩ trivial gr (P1 n)
theorem JY{W:World}(hG:au W) (n:Nat):GG W (72,MR n) :=
 am mixed aA Tryz.func72 (T3 n) (SP n) [] ⟨zS hG n,trivial⟩ trivial gr (P2 n)
theorem Pl{W:World}(hG:au W) (n:Nat):GG W (26,Ru n) :=
 am mixed aA Tryz.func26 (Ur n) (Tw n) [] ⟨O1 hG n,Lt hG n,zS hG n,O0 hG n,JY hG n,trivial⟩ trivial gr (QE n)
theorem Pn{W:World}(hG:au W) (n:Nat):GG W (24,Rw n) :=
 am mixed aA Tryz.func24 (Ut n) (Tz n) [] ⟨Pm hG n,Pl hG n,trivial⟩ trivial gr (QG n)
theorem LA{W:World}(hG:au W) (n:Nat):GG W (28,Ok n) :=
 am mixed aA Tryz.func28 (R2 n) (Tu n) [] trivial trivial (pg 1 (fun i hi=>match i,hi with|0,_=>lF n (jJ n) (cA n) (rz n))) (QC n)
theorem OZ{W:World}(hG:au W) (n:Nat):GG W (74,Q8 n) :=
 am mixed aA Tryz.func74 (T0 n) (SN n) (Sl n) ⟨JX hG n,trivial⟩ ⟨FQ hG n,FQ hG n,trivial⟩ gr (P0 n)
theorem OI (n:Nat):lD (NB n) (aD Tryz.f29) (Sh n):=⟨DL (mr n) [],Lk (lW n),trivial⟩
theorem Pj{W:World}(hG:au W) (n:Nat):GG W (29,Rs n) :=
 am mixed aA Tryz.func29 (NB n) (Tt n) [] ⟨OZ hG n,JY hG n,zS hG n,trivial⟩ trivial (Jn (OI n)) (QB n)
theorem OY{W:World}(hG:au W) (n:Nat):GG W (76,Q7 n) :=
 am mixed aA Tryz.func76 (TZ n) (SL n) [] trivial trivial gr (PY n)
theorem OH (n:Nat):lD (Ox n) (aD Tryz.f30) (Sg n):=⟨Lk (na n),trivial⟩
theorem Pi{W:World}(hG:au W) (n:Nat):GG W (30,Rr n) :=
 am mixed aA Tryz.func30 (Ox n) (Tr n) [] ⟨OY hG n,JX hG n,JY hG n,trivial⟩ trivial (Jn (OH n)) (QA n)
theorem Pk{W:World}(hG:au W) (n:Nat):GG W (27,Rt n) :=
 am mixed aA Tryz.func27 (Uq n) (Tv n) [] ⟨LA hG n,Pj hG n,Pi hG n,trivial⟩ trivial gr (QD n)
theorem LX{W:World}(hG:au W) (n:Nat):GG W (117,KH n) :=
 am mixed aA Tryz.func117 (NM n) (Nj n) [] trivial trivial gr (MB n)
theorem Jf{W:World}(hG:au W) (n:Nat):GG W (118,I4 n) :=
 am mixed aA Tryz.func118 (NL n) (Ni n) [] ⟨zS hG n,trivial⟩ trivial gr (MA n)
theorem FN{W:World}(hG:au W) (n k:Nat) (ih:GG W (77,K8 n k)):GG W (116,I5 n k) :=
 am mixed aA Tryz.func116 (NN n k) (Nk n k) [] ⟨ih,Jf hG n,trivial⟩ trivial gr (MC n k)
theorem JW{W:World}(hG:au W) (n:Nat):∀k,GG W (77,K8 n k)
 |0=>⟨gp Tryz.func77 (by kernel_rfl) (by kernel_rfl),fun _ _ _ _ _ _ _ h=>by cases h⟩
 |k+1 =>
  have ih:=JW hG n k
  am mixed aA Tryz.func77 (TY n k) (SK n k) [] ⟨Jg hG n,zS hG n,Pn hG n,LA hG n,LX hG n,FN hG n k ih,Pk hG n,ih,Jf hG n,trivial⟩ trivial gr (PX n k)
theorem R6{W:World}(hG:au W) (n k:Nat):GG W (116,I5 n k):=FN hG n k (JW hG n k)
theorem Ph{W:World}(hG:au W) (n:Nat):GG W (31,Rq n) :=
 am mixed aA Tryz.func31 (Up n) (Tq n) [] ⟨zS hG n,JW hG n n,trivial⟩ trivial gr (Qz n)
theorem UH (n:Nat):lD (E9 n) (aD Tryz.f9) (Q9 n):=⟨DL (oh n) [(10,6)],trivial⟩
theorem UJ{W:World}(hG:au W) (n:Nat):GG W (9,S9 n) :=
 am mixed aA Tryz.func9 (E9 n) (G9 n) [] ⟨Po hG n,LC hG n,LB hG n,Ph hG n,trivial⟩ trivial (Jn (UH n)) (UN n)
theorem OT{W:World}(hG:au W) (n:Nat):GG W (87,Q2 n) :=
 am mixed aA Tryz.func87 (RN n) (SA n) [] trivial trivial (pg 1 (fun i hi=>match i,hi with|0,_=>lF n (kB n) (cP n) (sI n))) (PM n)
theorem OS{W:World}(hG:au W) (n:Nat):GG W (88,Q1 n) :=
 am mixed aA Tryz.func88 (RM n) (Sz n) [] trivial trivial (pg 1 (fun i hi=>match i,hi with|0,_=>lF n (kw n) (cN n) (sF n))) (PL n)
theorem OR{W:World}(hG:au W) (n:Nat):GG W (90,Q0 n) :=
 am mixed aA Tryz.func90 (TT n) (Sx n) [] ⟨FK hG n,trivial⟩ trivial gr (PJ n)
theorem OQ{W:World}(hG:au W) (n:Nat):GG W (91,QZ n) :=
 am mixed aA Tryz.func91 (TS n) (Sw n) [] trivial trivial gr (PI n)
theorem LW{W:World}(hG:au W) (n:Nat):GG W (119,KG n) :=
 am mixed aA Tryz.func119 (NK n) (Nh n) [] trivial trivial gr (Mz n)
theorem LV{W:World}(hG:au W) (n:Nat):GG W (120,KF n) :=
 am mixed aA Tryz.func120 (NJ n) (Ng n) [] ⟨Il hG n,FK hG n,trivial⟩ trivial gr (My n)
theorem OB (n:Nat):lD (Oq n) (aD Tryz.f93) (Sa n):=⟨DL (rg n) [(3,8)],trivial⟩
theorem OP{W:World}(hG:au W) (n:Nat):GG W (93,QY n) :=
 am mixed aA Tryz.func93 (Oq n) (Su n) [] ⟨LV hG n,trivial⟩ trivial (Jn (OB n)) (PG n)
theorem OO{W:World}(hG:au W) (n:Nat):GG W (94,QX n) :=
 am mixed aA Tryz.func94 (TQ n) (Ss n) [] trivial trivial gr (PF n)
theorem Jc{W:World}(hG:au W) (n k:Nat) (ih:GG W (41,La n k)):GG W (92,N8 n k) :=
 am mixed aA Tryz.func92 (TR n k) (Sv n k) [] ⟨LW hG n,ih,trivial⟩ trivial gr (PH n k)
theorem OF (n k:Nat):lD (Ow n k) (aD Tryz.f41) (Se n k):=⟨DL (sx n k) [(6,8)],trivial⟩
theorem J0{W:World}(hG:au W) (n:Nat):∀k,GG W (41,La n k)
 |0=>⟨gp Tryz.func41 (by kernel_rfl) (by kernel_rfl),fun _ _ _ _ _ _ _ h=>by cases h⟩
 |k+1 =>
  have ih:=J0 hG n k
  am mixed aA Tryz.func41 (Ow n k) (Tg n k) [] ⟨OT hG n,OS hG n,Ij hG n,OR hG n,ih,OQ hG n,Jc hG n k ih,OP hG n,OO hG n,FK hG n,trivial⟩ trivial (Jn (OF n k)) (Qp n k)
theorem UI{W:World}(hG:au W) (n k:Nat):GG W (92,N8 n k):=Jc hG n k (J0 hG n k)
theorem Pt{W:World}(hG:au W) (n:Nat):GG W (11,RF n) :=
 am mixed aA Tryz.func11 (Uy n) (TK n) [] ⟨J2 hG n,J1 hG n,FL hG n,J0 hG n n,trivial⟩ trivial gr (QP n)
theorem Lx{W:World}(hG:au W) (n:Nat):GG W (54,Oh n) :=
 am mixed aA Tryz.func54 (Ue n) (S2 n) [] ⟨Lo hG n,trivial⟩ trivial gr (Qf n)
theorem LG{W:World}(hG:au W) (n:Nat):GG W (140,Kv n) :=
 am mixed aA Tryz.func140 (NE n) (M4 n) [] ⟨LY hG n,trivial⟩ trivial gr (Mn n)
theorem LS{W:World}(hG:au W) (n:Nat):GG W (122,KD n) :=
 am mixed aA Tryz.func122 (KZ n) (Nd n) [] ⟨Lt hG n,Lx hG n,LG hG n,trivial⟩ trivial (pg 1 (fun i hi=>match i,hi with|0,_=>lF n (fW n) (aV n) (nh n))) (Mw n)
theorem Ln{W:World}(hG:au W) (n:Nat):GG W (97,N6 n) :=
 am mixed aA Tryz.func97 (Nx n) (Sp n) [] ⟨LS hG n,trivial⟩ trivial (pg 3 (fun i hi=>match i,hi with|0,_=>lF n (gW n) (bB n) (ow n)|1,_=>lF n (gV n) (bn n) (ov n)|2,_=>lF n (gA n) (be n) (nK n))) (PC n)
theorem LU{W:World}(hG:au W) (n:Nat):GG W (121,KE n) :=
 am mixed aA Tryz.func121 (K0 n) (Nf n) [] ⟨Ln hG n,LK hG,LJ hG,LH hG,LI hG,trivial⟩ trivial (pg 1 (fun i hi=>match i,hi with|0,_=>lF n (fE n) (aC n) (mu n))) (Mx n)
theorem ON{W:World}(hG:au W) (n:Nat):GG W (96,QW n) :=
 am mixed aA Tryz.func96 (RL n) (Sq n) [] ⟨LU hG n,trivial⟩ trivial (pg 1 (fun i hi=>match i,hi with|0,_=>lF n (fV n) (bk n) (ng n))) (PD n)
theorem Pb{W:World}(hG:au W) (n:Nat):GG W (44,Rj n) :=
 am mixed aA Tryz.func44 (Ui n) (Td n) [] ⟨ON hG n,Ln hG n,trivial⟩ trivial gr (Qm n)
theorem Ps{W:World}(hG:au W) (n:Nat):GG W (13,RE n) :=
 am mixed aA Tryz.func13 (Ux n) (TH n) [] ⟨JZ hG n,LC hG n,Pb hG n,trivial⟩ trivial gr (QN n)
theorem Pa{W:World}(hG:au W) (n:Nat):GG W (45,Ri n) :=
 am mixed aA Tryz.func45 (Ov n) (Tc n) [] ⟨Lx hG n,trivial⟩ trivial (pg 2 (fun i hi=>match i,hi with|0,_=>lF n (iD n) (cn n) (pu n)|1,_=>lF n (iC n) (bJ n) (pq n))) (Ql n)
theorem Pr{W:World}(hG:au W) (n:Nat):GG W (14,RD n) :=
 am mixed aA Tryz.func14 (Uw n) (TG n) [] ⟨JZ hG n,Im hG n,Pa hG n,trivial⟩ trivial gr (QM n)
theorem UM{W:World}(hG:au W) (n:Nat):GG W (4,S4 n) :=
 am mixed aA Tryz.func4 (E4 n) (G4 n) [] ⟨UL hG n,Pv hG n,UJ hG n,Pt hG n,Im hG n,Ps hG n,Pr hG n,trivial⟩ trivial gr (UQ n)
end AM
end Go.Proofs.YtcflmfpnmjlhdaaGreatDoor
