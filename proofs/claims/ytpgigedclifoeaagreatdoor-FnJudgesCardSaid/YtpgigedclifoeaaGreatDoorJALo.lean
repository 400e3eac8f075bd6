/- Each function that the laws reach obeys its summary. Under: what the rows list of the library's variables. -/
import Derived.Test.YtpgigedclifoeaaGreatDoorJALd
import Derived.Test.YtpgigedclifoeaaGreatDoorJW3
import Derived.Test.YtpgigedclifoeaaGreatDoorJW4
import Derived.Test.YtpgigedclifoeaaGreatDoorProg
import Derived.Test.YtpgigedclifoeaaGreatDoorJShelf
import Derived.Test.YtpgigedclifoeaaGreatDoorJP1
import Derived.Lib.IndexMore
import Derived.Lib.ItoaNum
import Derived.Lib.Split
import Derived.Lib.CountLaws
import Derived.Lib.SlicesCompact
namespace Go.Proofs.YtpgigedclifoeaaGreatDoor
namespace AM
open Go
set_option linter.unusedVariables false
abbrev GG (W:World) (p:Nat×aa):Prop:=pO Tryz.prog (fE.of W) p
theorem ob7{W:World}(hG:af W) (n:Nat):GG W (7,S7 n) :=
 ac mixed ag Tryz.func7 (E7 n) (G7 n) [] trivial trivial ff (eq7 n)
theorem adT{W:World}(hG:af W) (n:Nat):GG W (65,S65 n) :=
 ac mixed ag Tryz.func65 (E65 n) (G65 n) [] trivial trivial (pu 1 (fun i hi=>match i,hi with|0,_=>iZ n (qr n) (fQ n) (A0 n))) (aeT n)
theorem adD{W:World}(hG:af W) (n:Nat):GG W (98,S98 n) :=
 ac mixed ag Tryz.func98 (E98 n) (G98 n) [] trivial trivial ff (aeo n)
theorem KV{W:World}(hG:af W) (n:Nat):GG W (117,NC n) :=
 ac mixed ag Tryz.func117 (VV n) (abw n) [] trivial trivial (pu 1 (fun i hi=>match i,hi with|0,_=>iZ n (o6 n) (cn n) (zJ n))) (Zg n)
theorem ON{W:World}(hG:af W) (n:Nat):GG W (124,PR n) :=
 ac mixed ag Tryz.func124 (acG n) (abp n) [] trivial trivial ff (Y9 n)
theorem yW{W:World}(hG:af W) (n:Nat):GG W (46,Kr n) :=
 ac mixed ag Tryz.func46 (E46 n) (G46 n) [] trivial trivial ff (afc n)
theorem OO{W:World}(hG:af W) (n:Nat):GG W (116,PU n) :=
 ac mixed ag Tryz.func116 (acJ n) (abx n) [] ⟨ON hG n,yW hG n,trivial⟩ trivial ff (Zh n)
theorem GT{W:World}(hG:af W) (n:Nat):GG W (126,Kv n) :=
 ac mixed ag Tryz.func126 (acE n) (abn n) [] trivial trivial ff (Y7 n)
theorem WC (n:Nat):eO (R6 n) (ae Tryz.f102) (Z5 n):=⟨ny (zu n) [(4,4)],trivial⟩
theorem BT{W:World}(hG:af W) (n:Nat):GG W (102,F4 n) :=
 ac mixed ag Tryz.func102 (R6 n) (abL n) [] ⟨KV hG n,OO hG n,GT hG n,trivial⟩ trivial (DU (WC n)) (Zv n)
theorem TL (n:Nat):eO (LN n) (ae Tryz.f102) (SP n):=⟨ny (wM n) [(4,4)],trivial⟩
theorem OP{W:World}(hG:af W) (n:Nat):GG W (102,LG n) :=
 ac mixed ag Tryz.func102 (LN n) (Tb n) [] ⟨KV hG n,OO hG n,GT hG n,trivial⟩ trivial (DU (TL n)) (Uz n)
theorem BU{W:World}(hG:af W) (n:Nat):GG W (100,F5 n) :=
 ac mixed ag Tryz.func100 (acU n) (abN n) [] ⟨BT hG n,trivial⟩ trivial ff (Zx n)
theorem OQ{W:World}(hG:af W) (n:Nat):GG W (100,LH n) :=
 ac mixed ag Tryz.func100 (To n) (Tc n) (S0 n) trivial ⟨OP hG n,trivial⟩ ff (UA n)
theorem JM{W:World}(hG:af W) (n:Nat):GG W (84,Ro n) :=
 ac mixed ag Tryz.func84 (E84 n) (G84 n) [] ⟨yW hG n,trivial⟩ trivial ff (aeC n)
theorem KX{W:World}(hG:af W) (n:Nat):GG W (101,NE n) :=
 ac mixed ag Tryz.func101 (acT n) (abM n) [] ⟨JM hG n,trivial⟩ trivial ff (Zw n)
theorem Fm{W:World}(hG:af W) (n:Nat):GG W (49,PK n) :=
 ac mixed ag Tryz.func49 (E49 n) (G49 n) [] trivial trivial (pu 1 (fun i hi=>match i,hi with|0,_=>iZ n (nQ n) (cF n) (yv n))) (ae9 n)
theorem MA{W:World}(hG:af W) (n:Nat):GG W (91,SM n) :=
 ac mixed ag Tryz.func91 (E91 n) (G91 n) [] ⟨Fm hG n,trivial⟩ trivial (pu 1 (fun i hi=>match i,hi with|0,_=>iZ n (qp n) (b8 n) (AY n))) (aev n)
theorem Ub{W:World}(hG:af W) (n:Nat):GG W (91,PZ n) :=
 ac mixed ag Tryz.func91 (Qc n) (Te n) [] ⟨Fm hG n,trivial⟩ trivial (pu 1 (fun i hi=>match i,hi with|0,_=>iZ n (nL n) (de n) (yp n))) (UC n)
theorem ady (n:Nat):eO (Wb n) (ae Tryz.f68) (Q68 n):=⟨TQ (vI n) [(1,[1,0])],trivial⟩
theorem adR{W:World}(hG:af W) (n:Nat):GG W (68,S68 n) :=
 ac mixed ag Tryz.func68 (Wb n) (G68 n) [] ⟨BU hG n,KX hG n,BT hG n,MA hG n,trivial⟩ trivial (AR 2 (fun i hi=>match i,hi with|0,_=>iZ n (mM n) (cL n) (w7 n)|1,_=>iZ n (mL n) (cK n) (wZ n)) (ady n)) (aeQ n)
theorem TO (n:Nat):eO (EF n) (ae Tryz.f68) (SS n):=⟨Jq (tT n),trivial⟩
theorem Ud{W:World}(hG:af W) (n:Nat):GG W (68,P1 n) :=
 ac mixed ag Tryz.func68 (EF n) (Ti n) (S2 n) ⟨KX hG n,trivial⟩ ⟨OQ hG n,OQ hG n,OP hG n,Ub hG n,trivial⟩ (AR 2 (fun i hi=>match i,hi with|0,_=>iZ n (kO n) (cX n) (uN n)|1,_=>iZ n (kM n) (cW n) (uM n)) (TO n)) (UG n)
theorem XL{W:World}(hG:af W) (n:Nat):GG W (112,VB n) :=
 ac mixed ag Tryz.func112 (acM n) (abB n) [] trivial trivial ff (Zl n)
theorem Fl{W:World}(hG:af W) (n:Nat):GG W (76,PJ n) :=
 ac mixed ag Tryz.func76 (E76 n) (G76 n) [] ⟨XL hG n,trivial⟩ trivial ff (aeK n)
theorem WI{W:World}(hG:af W) (n:Nat):GG W (67,S67 n) :=
 ac mixed ag Tryz.func67 (E67 n) (G67 n) [] ⟨Fl hG n,trivial⟩ trivial ff (aeR n)
theorem OT{W:World}(hG:af W) (n:Nat):GG W (106,P2 n) :=
 ac mixed ag Tryz.func106 (acQ n) (abH n) [] trivial trivial ff (Zr n)
theorem Sy{W:World}(hG:af W) (n:Nat):GG W (107,RR n) :=
 ac mixed ag Tryz.func107 (VX n) (abG n) [] trivial trivial (pu 1 (fun i hi=>match i,hi with|0,_=>iZ n (qq n) (eQ n) (AZ n))) (Zq n)
theorem Sx{W:World}(hG:af W) (n:Nat):GG W (108,RQ n) :=
 ac mixed ag Tryz.func108 (acP n) (abF n) [] ⟨Fl hG n,trivial⟩ trivial ff (Zp n)
theorem adw (n:Nat):eO (E70 n) (ae Tryz.f70) (Q70 n):=⟨QF (tS n),trivial⟩
theorem adQ{W:World}(hG:af W) (n:Nat):GG W (70,S70 n) :=
 ac mixed ag Tryz.func70 (E70 n) (G70 n) [] ⟨Fl hG n,WI hG n,OT hG n,Sy hG n,Sx hG n,trivial⟩ trivial (DU (adw n)) (aeO n)
theorem TM (n:Nat):eO (LP n) (ae Tryz.f70) (SQ n):=⟨QF (rO n),trivial⟩
theorem OS{W:World}(hG:af W) (n:Nat):GG W (70,LJ n) :=
 ac mixed ag Tryz.func70 (LP n) (Tg n) [] ⟨Fl hG n,WI hG n,OT hG n,Sy hG n,Sx hG n,trivial⟩ trivial (DU (TM n)) (UE n)
theorem TY{W:World}(hG:af W) (n:Nat):GG W (81,ZB n) :=
 ac mixed ag Tryz.func81 (E81 n) (G81 n) [] ⟨OO hG n,KV hG n,trivial⟩ trivial (pu 1 (fun i hi=>match i,hi with|0,_=>iZ n (pg n) (dQ n) (zQ n))) (aeF n)
theorem OA{W:World}(hG:af W) (n:Nat):GG W (87,UQ n) :=
 ac mixed ag Tryz.func87 (E87 n) (G87 n) [] ⟨yW hG n,trivial⟩ trivial ff (aez n)
theorem adM{W:World}(hG:af W) (n:Nat):GG W (82,S82 n) :=
 ac mixed ag Tryz.func82 (E82 n) (G82 n) [] ⟨OA hG n,trivial⟩ trivial (pu 1 (fun i hi=>match i,hi with|0,_=>iZ n (o4 n) (bU n) (zG n))) (aeE n)
theorem WN{W:World}(hG:af W) (n:Nat):GG W (45,S45 n) :=
 ac mixed ag Tryz.func45 (E45 n) (G45 n) [] ⟨TY hG n,adM hG n,trivial⟩ trivial ff (afd n)
theorem ad5{W:World}(hG:af W) (n:Nat):GG W (47,S47 n) :=
 ac mixed ag Tryz.func47 (E47 n) (G47 n) [] ⟨yW hG n,trivial⟩ trivial (pu 1 (fun i hi=>match i,hi with|0,_=>iZ n (o7 n) (bV n) (zK n))) (afb n)
theorem Su{W:World}(hG:af W) (n:Nat):GG W (118,RL n) :=
 ac mixed ag Tryz.func118 (acI n) (abv n) [] trivial trivial ff (Zf n)
theorem TX{W:World}(hG:af W) (n:Nat):GG W (83,ZA n) :=
 ac mixed ag Tryz.func83 (E83 n) (G83 n) [] ⟨Su hG n,trivial⟩ trivial ff (aeD n)
theorem adL{W:World}(hG:af W) (n:Nat):GG W (85,S85 n) :=
 ac mixed ag Tryz.func85 (E85 n) (G85 n) [] ⟨OA hG n,trivial⟩ trivial (pu 1 (fun i hi=>match i,hi with|0,_=>iZ n (o9 n) (cE n) (zM n))) (aeB n)
theorem Xb{W:World}(hG:af W) (n:Nat):GG W (181,U8 n) :=
 ac mixed ag Tryz.func181 (aca n) (aaE n) [] trivial trivial ff (Yo n)
theorem Xv{W:World}(hG:af W) (n:Nat):GG W (145,Vn n) :=
 ac mixed ag Tryz.func145 (VN n) (aa6 n) [] ⟨Xb hG n,trivial⟩ trivial (pu 1 (fun i hi=>match i,hi with|0,_=>iZ n (o8 n) (gg n) (zL n))) (YQ n)
theorem Sh{W:World}(hG:af W) (n:Nat):GG W (172,Rx n) :=
 ac mixed ag Tryz.func172 (VL n) (aaK n) [] trivial trivial (pu 1 (fun i hi=>match i,hi with|0,_=>iZ n (o5 n) (eV n) (zH n))) (Yu n)
theorem Se{W:World}(hG:af W) (n:Nat):GG W (195,Ru n) :=
 ac mixed ag Tryz.func195 (ab2 n) (aas n) [] trivial trivial ff (Yc n)
theorem Sg{W:World}(hG:af W) (n:Nat):GG W (174,Rv n) :=
 ac mixed ag Tryz.func174 (acf n) (aaI n) [] trivial trivial ff (Ys n)
theorem OJ{W:World}(hG:af W) (n:Nat):GG W (138,PO n) :=
 ac mixed ag Tryz.func138 (acx n) (abb n) [] ⟨ON hG n,trivial⟩ trivial ff (YV n)
theorem OG{W:World}(hG:af W) (n k:Nat) (ih:GG W (137,Nz n k)):GG W (173,Rw n k) :=
 ac mixed ag Tryz.func173 (acg n k) (aaJ n k) [] ⟨Se hG n,ih,trivial⟩ trivial ff (Yt n k)
theorem OK{W:World}(hG:af W) (n:Nat):∀k,GG W (137,Nz n k)
 |0=>⟨dT Tryz.func137 (by kernel_rfl) (by kernel_rfl),fun _ _ _ _ _ _ _ h=>by cases h⟩
 |k+1 =>
  have ih:=OK hG n k
  ac mixed ag Tryz.func137 (acy n k) (abc n k) [] ⟨OJ hG n,Sh hG n,OG hG n k ih,Sg hG n,ih,trivial⟩ trivial ff (YW n k)
theorem agL{W:World}(hG:af W) (n k:Nat):GG W (173,Rw n k):=OG hG n k (OK hG n k)
theorem KW{W:World}(hG:af W) (n:Nat):GG W (110,ND n) :=
 ac mixed ag Tryz.func110 (acN n) (abD n) [] ⟨OK hG n n,trivial⟩ trivial ff (Zn n)
theorem Xa{W:World}(hG:af W) (n:Nat):GG W (182,U7 n) :=
 ac mixed ag Tryz.func182 (ab9 n) (aaD n) [] ⟨KW hG n,trivial⟩ trivial ff (Yn n)
theorem Xu{W:World}(hG:af W) (n:Nat):GG W (146,Vm n) :=
 ac mixed ag Tryz.func146 (VM n) (aa5 n) [] ⟨yW hG n,Xa hG n,trivial⟩ trivial (pu 1 (fun i hi=>match i,hi with|0,_=>iZ n (pd n) (ip n) (zO n))) (YP n)
theorem XI{W:World}(hG:af W) (n:Nat):GG W (119,Vy n) :=
 ac mixed ag Tryz.func119 (VU n) (abu n) [] ⟨Xv hG n,Xu hG n,trivial⟩ trivial (pu 1 (fun i hi=>match i,hi with|0,_=>iZ n (lz n) (dP n) (vM n))) (Ze n)
theorem QP{W:World}(hG:af W) (n:Nat):GG W (86,V7 n) :=
 ac mixed ag Tryz.func86 (E86 n) (G86 n) [] ⟨Su hG n,XI hG n,trivial⟩ trivial ff (aeA n)
theorem ad4{W:World}(hG:af W) (n:Nat):GG W (48,S48 n) :=
 ac mixed ag Tryz.func48 (E48 n) (G48 n) [] ⟨TX hG n,JM hG n,adL hG n,QP hG n,OA hG n,yW hG n,trivial⟩ trivial ff (afa n)
theorem JO{W:World}(hG:af W) (n:Nat):GG W (10,RV n) :=
 ac mixed ag Tryz.func10 (E10 n) (G10 n) [] ⟨WN hG n,yW hG n,ad5 hG n,ad4 hG n,Fm hG n,trivial⟩ trivial (pu 3 (fun i hi=>match i,hi with|0,_=>iZ n (nP n) (bQ n) (yu n)|1,_=>iZ n (mK n) (bR n) (wY n)|2,_=>iZ n (mJ n) (cJ n) (wX n))) (afw n)
theorem SB{W:World}(hG:af W) (n:Nat):GG W (103,RU n) :=
 ac mixed ag Tryz.func103 (acS n) (abK n) [] trivial trivial ff (Zu n)
theorem Xz{W:World}(hG:af W) (n:Nat):GG W (131,Vp n) :=
 ac mixed ag Tryz.func131 (acC n) (abi n) [] trivial trivial ff (Y2 n)
theorem T8{W:World}(hG:af W) (n:Nat):GG W (131,PW n) :=
 ac mixed ag Tryz.func131 (Tm n) (S6 n) [] trivial trivial ff (Uw n)
theorem WB (n:Nat):eO (NK n) (ae Tryz.f105) (Z4 n):=⟨ny (yh n) [(6,8),(12,14),(16,18),(20,22)],Jq (yg n),trivial⟩
theorem Sz{W:World}(hG:af W) (n:Nat):GG W (105,RS n) :=
 ac mixed ag Tryz.func105 (NK n) (abI n) (aab n) ⟨GT hG n,trivial⟩ ⟨T8 hG n,trivial⟩ (AR 1 (fun i hi=>match i,hi with|0,_=>iZ n (nO n) (ee n) (yt n)) (WB n)) (Zs n)
theorem W8{W:World}(hG:af W) (n:Nat):GG W (186,U5 n) :=
 ac mixed ag Tryz.func186 (VK n) (aaB n) [] trivial trivial (pu 1 (fun i hi=>match i,hi with|0,_=>iZ n (ph n) (dR n) (zR n))) (Yl n)
theorem Sn{W:World}(hG:af W) (n:Nat):GG W (158,RF n) :=
 ac mixed ag Tryz.func158 (acq n) (aaX n) [] ⟨JM hG n,trivial⟩ trivial ff (YH n)
theorem W5{W:World}(hG:af W) (n:Nat):GG W (190,U2 n) :=
 ac mixed ag Tryz.func190 (ab6 n) (aax n) [] trivial trivial ff (Yh n)
theorem Sm{W:World}(hG:af W) (n:Nat):GG W (159,RE n) :=
 ac mixed ag Tryz.func159 (acp n) (aaW n) [] ⟨JM hG n,OT hG n,W5 hG n,trivial⟩ trivial ff (YG n)
theorem Wv (n:Nat):eO (NI n) (ae Tryz.f154) (ZY n):=⟨ny (wR n) [(10,18)],ny (wQ n) [(3,10),(4,11)],trivial⟩
theorem Xm{W:World}(hG:af W) (n:Nat):GG W (154,Vi n) :=
 ac mixed ag Tryz.func154 (NI n) (aa1 n) [] ⟨TY hG n,TX hG n,GT hG n,JM hG n,W8 hG n,Sn hG n,Sm hG n,KX hG n,BU hG n,BT hG n,trivial⟩ trivial (AR 1 (fun i hi=>match i,hi with|0,_=>iZ n (mN n) (cM n) (w8 n)) (Wv n)) (YL n)
theorem WZ{W:World}(hG:af W) (n:Nat):GG W (212,UY n) :=
 ac mixed ag Tryz.func212 (abZ n) (aao n) [] ⟨yW hG n,trivial⟩ trivial ff (X8 n)
theorem OI{W:World}(hG:af W) (n:Nat):GG W (139,PN n) :=
 ac mixed ag Tryz.func139 (acw n) (aba n) [] ⟨OA hG n,BT hG n,trivial⟩ trivial ff (YU n)
theorem WA (n k:Nat):eO (R5 n k) (ae Tryz.f111) (Z3 n k):=⟨ny (ym n k) [(6,8)],trivial⟩
theorem Sw{W:World}(hG:af W) (n:Nat):∀k,GG W (111,RN n k)
 |0=>⟨dT Tryz.func111 (by kernel_rfl) (by kernel_rfl),fun _ _ _ _ _ _ _ h=>by cases h⟩
 |k+1 =>
  have ih:=Sw hG n k
  ac mixed ag Tryz.func111 (R5 n k) (abC n k) [] ⟨BU hG n,ih,OJ hG n,BT hG n,OI hG n,trivial⟩ trivial (DU (WA n k)) (Zm n k)
theorem TK (n k:Nat):eO (LM n k) (ae Tryz.f111) (SO n k):=⟨ny (vH n k) [(6,8)],trivial⟩
theorem JN{W:World}(hG:af W) (n:Nat):∀k,GG W (111,EB n k)
 |0=>⟨dT Tryz.func111 (by kernel_rfl) (by kernel_rfl),fun _ _ _ _ _ _ _ h=>by cases h⟩
 |k+1 =>
  have ih:=JN hG n k
  ac mixed ag Tryz.func111 (LM n k) (S8 n k) (SZ n k) ⟨BU hG n,OJ hG n,BT hG n,OI hG n,trivial⟩ ⟨ih,ih,trivial⟩ (DU (TK n k)) (Ux n k)
theorem Wo (n:Nat):eO (IY n) (ae Tryz.f187) (ZS n):=⟨ny (zy n) [(4,6),(5,7)],ny (zx n) [(7,14)],ny (zw n) [(4,6),(5,7)],ny (zv n) [(4,6),(5,7)],trivial⟩
theorem W7{W:World}(hG:af W) (n:Nat):GG W (187,U4 n) :=
 ac mixed ag Tryz.func187 (IY n) (aaA n) (Z8 n) ⟨Xz hG n,QP hG n,WZ hG n,BU hG n,KW hG n,trivial⟩ ⟨JN hG n n,trivial⟩ (AR 1 (fun i hi=>match i,hi with|0,_=>iZ n (qu n) (aG n) (A3 n)) (Wo n)) (Yk n)
theorem Ws (n:Nat):eO (Qa n) (ae Tryz.f160) (ZV n):=⟨ny (yf n) [(5,4)],trivial⟩
theorem OH{W:World}(hG:af W) (n:Nat):GG W (160,PM n) :=
 ac mixed ag Tryz.func160 (Qa n) (aaV n) [] ⟨MA hG n,trivial⟩ trivial (AR 1 (fun i hi=>match i,hi with|0,_=>iZ n (nM n) (d9 n) (yq n)) (Ws n)) (YF n)
theorem Wu (n:Nat):eO (R1 n) (ae Tryz.f155) (ZX n):=⟨QF (AU n),trivial⟩
theorem So{W:World}(hG:af W) (n:Nat):GG W (155,RG n) :=
 ac mixed ag Tryz.func155 (R1 n) (aa0 n) [] ⟨W7 hG n,Fm hG n,OH hG n,trivial⟩ trivial (DU (Wu n)) (YK n)
theorem XD{W:World}(hG:af W) (n:Nat):GG W (127,Vt n) :=
 ac mixed ag Tryz.func127 (acD n) (abm n) [] ⟨TX hG n,JM hG n,Xm hG n,So hG n,trivial⟩ trivial ff (Y6 n)
theorem WY{W:World}(hG:af W) (n:Nat):GG W (213,UX n) :=
 ac mixed ag Tryz.func213 (VH n) (aan n) [] trivial trivial (pu 1 (fun i hi=>match i,hi with|0,_=>iZ n (pc n) (eY n) (zN n))) (X7 n)
theorem Ss{W:World}(hG:af W) (n:Nat):GG W (123,RK n) :=
 ac mixed ag Tryz.func123 (acH n) (abq n) [] ⟨yW hG n,trivial⟩ trivial ff (Za n)
theorem WX{W:World}(hG:af W) (n:Nat):GG W (214,UW n) :=
 ac mixed ag Tryz.func214 (abY n) (aam n) [] trivial trivial ff (X6 n)
theorem Wm (n:Nat):eO (RX n) (ae Tryz.f216) (ZQ n):=⟨ny (yn n) [(3,8)],trivial⟩
theorem WW{W:World}(hG:af W) (n:Nat):GG W (216,UV n) :=
 ac mixed ag Tryz.func216 (RX n) (aak n) [] ⟨OI hG n,trivial⟩ trivial (DU (Wm n)) (X4 n)
theorem OC{W:World}(hG:af W) (n k:Nat) (ih:GG W (188,Nx n k)):GG W (215,Rs n k) :=
 ac mixed ag Tryz.func215 (abX n k) (aal n k) [] ⟨Se hG n,ih,trivial⟩ trivial ff (X5 n k)
theorem Wn (n k:Nat):eO (RY n k) (ae Tryz.f188) (ZR n k):=⟨ny (zA n k) [(6,8)],trivial⟩
theorem OF{W:World}(hG:af W) (n:Nat):∀k,GG W (188,Nx n k)
 |0=>⟨dT Tryz.func188 (by kernel_rfl) (by kernel_rfl),fun _ _ _ _ _ _ _ h=>by cases h⟩
 |k+1 =>
  have ih:=OF hG n k
  ac mixed ag Tryz.func188 (RY n k) (aaz n k) [] ⟨WY hG n,Sh hG n,Ss hG n,BU hG n,ih,WX hG n,OC hG n k ih,WW hG n,Sg hG n,BT hG n,trivial⟩ trivial (DU (Wn n k)) (Yj n k)
theorem agK{W:World}(hG:af W) (n k:Nat):GG W (215,Rs n k):=OC hG n k (OF hG n k)
theorem Xl{W:World}(hG:af W) (n:Nat):GG W (156,Vh n) :=
 ac mixed ag Tryz.func156 (acr n) (aaZ n) [] ⟨TY hG n,GT hG n,WN hG n,OF hG n n,trivial⟩ trivial ff (YJ n)
theorem Wl (n k:Nat):eO (RW n k) (ae Tryz.f217) (ZP n k):=⟨ny (wP n k) [(8,10)],trivial⟩
theorem Sc{W:World}(hG:af W) (n:Nat):∀k,GG W (217,Rr n k)
 |0=>⟨dT Tryz.func217 (by kernel_rfl) (by kernel_rfl),fun _ _ _ _ _ _ _ h=>by cases h⟩
 |k+1 =>
  have ih:=Sc hG n k
  ac mixed ag Tryz.func217 (RW n k) (aaj n k) (Z7 n k) ⟨ih,trivial⟩ ⟨JN hG n n,trivial⟩ (DU (Wl n k)) (X3 n k)
theorem W6{W:World}(hG:af W) (n:Nat):GG W (189,U3 n) :=
 ac mixed ag Tryz.func189 (ab7 n) (aay n) [] ⟨Sc hG n n,trivial⟩ trivial ff (Yi n)
theorem Wt (n:Nat):eO (IZ n) (ae Tryz.f157) (ZW n):=⟨ny (yl n) [(2,6),(3,7)],ny (yk n) [],ny (yj n) [(2,6),(3,7)],ny (yi n) [(2,6),(3,7)],ny (wO n) [(2,6),(3,7)],trivial⟩
theorem Xk{W:World}(hG:af W) (n:Nat):GG W (157,Vg n) :=
 ac mixed ag Tryz.func157 (IZ n) (aaY n) [] ⟨OA hG n,QP hG n,KW hG n,W6 hG n,trivial⟩ trivial (DU (Wt n)) (YI n)
theorem Wz (n:Nat):eO (R4 n) (ae Tryz.f128) (Z2 n):=⟨ny (yd n) [(15,10),(16,11)],trivial⟩
theorem XC{W:World}(hG:af W) (n:Nat):GG W (128,Vs n) :=
 ac mixed ag Tryz.func128 (R4 n) (abl n) [] ⟨yW hG n,Xl hG n,Xk hG n,So hG n,trivial⟩ trivial (DU (Wz n)) (Y5 n)
theorem Wy (n:Nat):eO (NJ n) (ae Tryz.f129) (Z1 n):=⟨ny (wN n) [(11,9)],trivial⟩
theorem XB{W:World}(hG:af W) (n:Nat):GG W (129,Vr n) :=
 ac mixed ag Tryz.func129 (NJ n) (abk n) [] ⟨JM hG n,Fm hG n,Sn hG n,KX hG n,Sm hG n,MA hG n,BU hG n,OH hG n,trivial⟩ trivial (AR 2 (fun i hi=>match i,hi with|0,_=>iZ n (nN n) (dy n) (yr n)|1,_=>iZ n (mI n) (dH n) (wW n)) (Wy n)) (Y4 n)
theorem Wx (n:Nat):eO (R3 n) (ae Tryz.f130) (Z0 n):=⟨QF (ye n),trivial⟩
theorem XA{W:World}(hG:af W) (n:Nat):GG W (130,Vq n) :=
 ac mixed ag Tryz.func130 (R3 n) (abj n) [] ⟨yW hG n,Fm hG n,MA hG n,OH hG n,trivial⟩ trivial (DU (Wx n)) (Y3 n)
theorem SA{W:World}(hG:af W) (n:Nat):GG W (104,RT n) :=
 ac mixed ag Tryz.func104 (acR n) (abJ n) [] ⟨XD hG n,XC hG n,XB hG n,XA hG n,trivial⟩ trivial ff (Zt n)
theorem adx (n:Nat):eO (E69 n) (ae Tryz.f69) (Q69 n):=⟨Jq (yo n),trivial⟩
theorem WH{W:World}(hG:af W) (n:Nat):GG W (69,S69 n) :=
 ac mixed ag Tryz.func69 (E69 n) (G69 n) [] ⟨JO hG n,SB hG n,Sz hG n,SA hG n,trivial⟩ trivial (DU (adx n)) (aeP n)
theorem TN (n:Nat):eO (LQ n) (ae Tryz.f69) (SR n):=⟨Jq (vJ n),trivial⟩
theorem Uc{W:World}(hG:af W) (n:Nat):GG W (69,LK n) :=
 ac mixed ag Tryz.func69 (LQ n) (Th n) [] ⟨JO hG n,SB hG n,Sz hG n,SA hG n,trivial⟩ trivial (DU (TN n)) (UF n)
theorem QS{W:World}(hG:af W) (n:Nat):GG W (69,P0 n):=M6 (S:=LK n) (Uc hG n) P4
theorem aiS{W:World}(hG:af W) (n:Nat):GG W (97,S97 n) :=
 ac mixed ag Tryz.func97 (E97 n) (G97 n) [] ⟨adR hG n,Fl hG n,adQ hG n,WH hG n,trivial⟩ trivial (pu 2 (fun i hi=>match i,hi with|0,_=>iZ n (kL n) (dG n) (uL n)|1,_=>iZ n (j4 n) (d5 n) (tX n))) (aep n)
theorem Ua{W:World}(hG:af W) (n:Nat):GG W (97,PY n) :=
 ac mixed ag Tryz.func97 (LO n) (Td n) (S1 n) ⟨Fl hG n,WH hG n,trivial⟩ ⟨Ud hG n,OS hG n,OS hG n,trivial⟩ (pu 2 (fun i hi=>match i,hi with|0,_=>iZ n (jj n) (bl n) (td n)|1,_=>iZ n (iL n) (cg n) (rR n))) (UB n) (l3:=SW n) (hl3:=⟨QS hG n,trivial⟩)
theorem adC{W:World}(hG:af W) (n:Nat):GG W (99,S99 n) :=
 ac mixed ag Tryz.func99 (E99 n) (G99 n) [] ⟨Fl hG n,trivial⟩ trivial ff (aen n)
theorem adz (n:Nat):eO (E66 n) (ae Tryz.f66) (Q66 n):=⟨Jq (ta n),trivial⟩
theorem adS{W:World}(hG:af W) (n:Nat):GG W (66,S66 n) :=
 ac mixed ag Tryz.func66 (E66 n) (G66 n) (H66 n) ⟨adD hG n,Fl hG n,adC hG n,trivial⟩ ⟨Ua hG n,trivial⟩ (DU (adz n)) (aeS n)
theorem adA (n:Nat):eO (E58 n) (ae Tryz.f58) (Q58 n):=⟨TQ (s9 n) [(3,[7,77,77]),(23,[7,77,77])],TQ (rN n) [(3,[7,77,77]),(50,[7,77,77])],trivial⟩
theorem adY{W:World}(hG:af W) (n:Nat):GG W (58,S58 n) :=
 ac mixed ag Tryz.func58 (E58 n) (G58 n) [] ⟨adT hG n,adS hG n,JO hG n,Fl hG n,MA hG n,trivial⟩ trivial (DU (adA n)) (ae0 n)
theorem aef{W:World}(hG:af W) (n:Nat):GG W (19,S19 n) :=
 ac mixed ag Tryz.func19 (E19 n) (G19 n) [] ⟨adY hG n,trivial⟩ trivial ff (afu n)
theorem BS{W:World}(hG:af W) (n:Nat):GG W (39,Nv n) :=
 ac mixed ag Tryz.func39 (E39 n) (G39 n) [] trivial trivial ff (afj n)
theorem QR{W:World}(hG:af W) (n:Nat):GG W (77,V9 n) :=
 ac mixed ag Tryz.func77 (E77 n) (G77 n) [] ⟨BS hG n,trivial⟩ trivial ff (aeJ n)
theorem OR{W:World}(hG:af W) (n:Nat):GG W (77,LI n) :=
 ac mixed ag Tryz.func77 (Tp n) (Tf n) [] ⟨BS hG n,trivial⟩ trivial ff (UD n)
theorem Sq{W:World}(hG:af W) (n:Nat):GG W (140,RI n) :=
 ac mixed ag Tryz.func140 (acv n) (aa9 n) [] trivial trivial ff (YT n)
theorem Sv{W:World}(hG:af W) (n:Nat):GG W (113,RM n) :=
 ac mixed ag Tryz.func113 (acL n) (abA n) [] ⟨Sq hG n,BS hG n,trivial⟩ trivial ff (Zk n)
theorem adu (n:Nat):eO (Wa n) (ae Tryz.f78) (Q78 n):=⟨⟨by kernel_rfl,fun x y hy=>Kp (zB n x) (fun v hv=>((show ∀v∈[aP n x,aP n x,aP n x,bu n x,bu n x,bu n x,aP n x,aP n x,aP n x,bu n x,bu n x,bu n x],v=aP n x from(List.forall_mem_cons.2 ⟨rfl,(List.forall_mem_cons.2 ⟨rfl,(List.forall_mem_cons.2 ⟨rfl,(List.forall_mem_cons.2 ⟨d6 n x,(List.forall_mem_cons.2 ⟨d6 n x,(List.forall_mem_cons.2 ⟨d6 n x,(List.forall_mem_cons.2 ⟨rfl,(List.forall_mem_cons.2 ⟨rfl,(List.forall_mem_cons.2 ⟨rfl,(List.forall_mem_cons.2 ⟨d6 n x,(List.forall_mem_cons.2 ⟨d6 n x,(List.forall_mem_cons.2 ⟨d6 n x,(fun _ h=>by cases h)⟩)⟩)⟩)⟩)⟩)⟩)⟩)⟩)⟩)⟩)⟩)⟩)) v hv).trans (show aP n x=some y from hy))⟩,trivial⟩
theorem QQ{W:World}(hG:af W) (n:Nat):GG W (78,V8 n) :=
 ac mixed ag Tryz.func78 (Wa n) (G78 n) [] ⟨Sv hG n,trivial⟩ trivial (AR 1 (fun i hi=>match i,hi with|0,_=>iZ n (pj n) (dX n) (zU n)) (adu n)) (aeI n)
theorem ad9{W:World}(hG:af W) (n:Nat):GG W (38,S38 n) :=
 ac mixed ag Tryz.func38 (E38 n) (G38 n) [] ⟨QR hG n,QQ hG n,trivial⟩ trivial (pu 1 (fun i hi=>match i,hi with|0,_=>iZ n (pm n) (bW n) (zV n))) (afk n)
theorem ad8{W:World}(hG:af W) (n:Nat):GG W (40,S40 n) :=
 ac mixed ag Tryz.func40 (E40 n) (G40 n) [] trivial trivial (pu 1 (fun i hi=>match i,hi with|0,_=>iZ n (j7 n) (aR n) (t3 n))) (afi n)
theorem XJ{W:World}(hG:af W) (n:Nat):GG W (115,Vz n) :=
 ac mixed ag Tryz.func115 (acK n) (aby n) [] ⟨BS hG n,trivial⟩ trivial ff (Zi n)
theorem Sf{W:World}(hG:af W) (n:Nat):GG W (177,Kt n) :=
 ac mixed ag Tryz.func177 (acd n) (aaG n) [] trivial trivial ff (Yq n)
theorem WP{W:World}(hG:af W) (n:Nat):GG W (229,UR n) :=
 ac mixed ag Tryz.func229 (abS n) (aad n) [] trivial trivial ff (XV n)
theorem W3{W:World}(hG:af W) (n:Nat):GG W (197,U0 n) :=
 ac mixed ag Tryz.func197 (ab1 n) (aar n) [] ⟨WP hG n,trivial⟩ trivial ff (Yb n)
theorem Xd{W:World}(hG:af W) (n:Nat):GG W (176,Va n) :=
 ac mixed ag Tryz.func176 (ace n) (aaH n) [] ⟨W3 hG n,trivial⟩ trivial ff (Yr n)
theorem Xx{W:World}(hG:af W) (n:Nat):GG W (142,Vo n) :=
 ac mixed ag Tryz.func142 (VP n) (aa8 n) [] ⟨Sf hG n,Xd hG n,trivial⟩ trivial (pu 1 (fun i hi=>match i,hi with|0,_=>iZ n (qv n) (ja n) (A5 n))) (YS n)
theorem OE{W:World}(hG:af W) (n:Nat):GG W (193,PL n) :=
 ac mixed ag Tryz.func193 (ab4 n) (aau n) [] trivial trivial ff (Ye n)
theorem WV{W:World}(hG:af W) (n:Nat):GG W (218,UU n) :=
 ac mixed ag Tryz.func218 (abW n) (aai n) [] trivial trivial ff (X0 n)
theorem W4{W:World}(hG:af W) (n:Nat):GG W (191,U1 n) :=
 ac mixed ag Tryz.func191 (VJ n) (aaw n) [] ⟨OE hG n,WV hG n,WU hG,WS hG,trivial⟩ trivial (pu 1 (fun i hi=>match i,hi with|0,_=>iZ n (iA n) (dl n) (ru n))) (Yg n)
theorem GS{W:World}(hG:af W) (n:Nat):GG W (192,Ks n) :=
 ac mixed ag Tryz.func192 (ab5 n) (aav n) [] trivial trivial ff (Yf n)
theorem Xi{W:World}(hG:af W) (n:Nat):GG W (162,Ve n) :=
 ac mixed ag Tryz.func162 (acn n) (aaT n) [] ⟨W4 hG n,BS hG n,GS hG n,trivial⟩ trivial ff (YD n)
theorem Xh{W:World}(hG:af W) (n:Nat):GG W (163,Vd n) :=
 ac mixed ag Tryz.func163 (acm n) (aaS n) [] ⟨OE hG n,GS hG n,trivial⟩ trivial ff (YC n)
theorem Wq (n:Nat):eO (R0 n) (ae Tryz.f164) (ZU n):=⟨Jq (tU n),trivial⟩
theorem Sl{W:World}(hG:af W) (n:Nat):GG W (164,RD n) :=
 ac mixed ag Tryz.func164 (R0 n) (aaR n) [] trivial trivial (DU (Wq n)) (YB n)
theorem Xj{W:World}(hG:af W) (n:Nat):GG W (161,Vf n) :=
 ac mixed ag Tryz.func161 (aco n) (aaU n) [] ⟨Xi hG n,Sl hG n,Xh hG n,trivial⟩ trivial ff (YE n)
theorem Xg{W:World}(hG:af W) (n:Nat):GG W (165,Vc n) :=
 ac mixed ag Tryz.func165 (acl n) (aaQ n) [] ⟨Sl hG n,trivial⟩ trivial ff (YA n)
theorem WR{W:World}(hG:af W) (n:Nat):GG W (221,UT n) :=
 ac mixed ag Tryz.func221 (VG n) (aah n) [] trivial trivial (pu 1 (fun i hi=>match i,hi with|0,_=>iZ n (nR n) (gE n) (yw n))) (XZ n)
theorem WQ{W:World}(hG:af W) (n:Nat):GG W (223,US n) :=
 ac mixed ag Tryz.func223 (abU n) (aaf n) [] trivial trivial ff (XX n)
theorem Sb{W:World}(hG:af W) (n:Nat):GG W (224,Rp n) :=
 ac mixed ag Tryz.func224 (abT n) (aae n) [] ⟨GS hG n,trivial⟩ trivial ff (XW n)
theorem OB{W:World}(hG:af W) (n k:Nat) (ih:GG W (194,Nw n k)):GG W (222,Rq n k) :=
 ac mixed ag Tryz.func222 (abV n k) (aag n k) [] ⟨ih,Sb hG n,trivial⟩ trivial ff (XY n k)
theorem OD{W:World}(hG:af W) (n:Nat):∀k,GG W (194,Nw n k)
 |0=>⟨dT Tryz.func194 (by kernel_rfl) (by kernel_rfl),fun _ _ _ _ _ _ _ h=>by cases h⟩
 |k+1 =>
  have ih:=OD hG n k
  ac mixed ag Tryz.func194 (ab3 n k) (aat n k) [] ⟨OE hG n,GS hG n,Xj hG n,WR hG n,WQ hG n,OB hG n k ih,Xg hG n,ih,Sb hG n,trivial⟩ trivial ff (Yd n k)
theorem agJ{W:World}(hG:af W) (n k:Nat):GG W (222,Rq n k):=OB hG n k (OD hG n k)
theorem Xf{W:World}(hG:af W) (n:Nat):GG W (166,Vb n) :=
 ac mixed ag Tryz.func166 (ack n) (aaP n) [] ⟨GS hG n,OD hG n n,trivial⟩ trivial ff (Yz n)
theorem KU{W:World}(hG:af W) (n:Nat):GG W (132,NB n) :=
 ac mixed ag Tryz.func132 (acB n) (abh n) [] ⟨Xf hG n,trivial⟩ trivial ff (Y1 n)
theorem OM{W:World}(hG:af W) (n:Nat):GG W (134,PQ n) :=
 ac mixed ag Tryz.func134 (acA n) (abf n) [] trivial trivial ff (YZ n)
theorem KT{W:World}(hG:af W) (n:Nat):∀k,GG W (133,NA n k)
 |0=>⟨dT Tryz.func133 (by kernel_rfl) (by kernel_rfl),fun _ _ _ _ _ _ _ h=>by cases h⟩
 |k+1 =>
  have ih:=KT hG n k
  ac mixed ag Tryz.func133 (VQ n k) (abg n k) [] ⟨ih,trivial⟩ trivial (pu 1 (fun i hi=>match i,hi with|0,_=>iZ n (j6 n k) (bP n (aS n k)) (fun m x=>tZ n m k x))) (Y0 n k)
theorem W2{W:World}(hG:af W) (n:Nat):GG W (198,UZ n) :=
 ac mixed ag Tryz.func198 (ab0 n) (aaq n) [] ⟨KU hG n,trivial⟩ trivial ff (Ya n)
theorem Xc{W:World}(hG:af W) (n:Nat):GG W (178,U9 n) :=
 ac mixed ag Tryz.func178 (acb n) (aaF n) [] ⟨KU hG n,OM hG n,KT hG n n,W2 hG n,trivial⟩ trivial ff (Yp n)
theorem Sp{W:World}(hG:af W) (n:Nat):GG W (143,Ku n) :=
 ac mixed ag Tryz.func143 (VO n) (aa7 n) [] ⟨Xc hG n,BS hG n,trivial⟩ trivial (pu 1 (fun i hi=>match i,hi with|0,_=>iZ n (pi n) (iy n) (zT n))) (YR n)
theorem Xw{W:World}(hG:af W) (n:Nat):pO Tryz.prog (fE.of W) (144,RH n):=BC (Sp hG n) (Sf hG n)
theorem XK{W:World}(hG:af W) (n:Nat):GG W (114,VA n) :=
 ac mixed ag Tryz.func114 (VW n) (abz n) [] ⟨Xy hG,Xx hG n,Sp hG n,Xw hG n,trivial⟩ trivial (pu 1 (fun i hi=>match i,hi with|0,_=>iZ n (lD n) (fj n) (vQ n))) (Zj n)
theorem WG{W:World}(hG:af W) (n:Nat):GG W (79,S79 n) :=
 ac mixed ag Tryz.func79 (E79 n) (G79 n) [] ⟨XJ hG n,XK hG n,trivial⟩ trivial ff (aeH n)
theorem WO{W:World}(hG:af W) (n:Nat):GG W (42,S42 n) :=
 ac mixed ag Tryz.func42 (E42 n) (G42 n) [] ⟨BS hG n,trivial⟩ trivial ff (afg n)
theorem TZ{W:World}(hG:af W) (n:Nat):GG W (80,ZC n) :=
 ac mixed ag Tryz.func80 (E80 n) (G80 n) [] ⟨QR hG n,QQ hG n,trivial⟩ trivial (pu 1 (fun i hi=>match i,hi with|0,_=>iZ n (qw n) (dh n) (A6 n))) (aeG n)
theorem ad7{W:World}(hG:af W) (n:Nat):GG W (41,S41 n) :=
 ac mixed ag Tryz.func41 (E41 n) (G41 n) [] ⟨WG hG n,WO hG n,TZ hG n,BS hG n,QR hG n,trivial⟩ trivial ff (afh n)
theorem adP{W:World}(hG:af W) (n:Nat):GG W (73,S73 n) :=
 ac mixed ag Tryz.func73 (E73 n) (G73 n) [] ⟨BS hG n,trivial⟩ trivial ff (aeN n)
theorem T5{W:World}(hG:af W) (n:Nat):GG W (43,ZF n) :=
 ac mixed ag Tryz.func43 (E43 n) (G43 n) [] ⟨adP hG n,trivial⟩ trivial ff (aff n)
theorem ad6{W:World}(hG:af W) (n:Nat):GG W (44,S44 n) :=
 ac mixed ag Tryz.func44 (E44 n) (G44 n) [] ⟨T5 hG n,trivial⟩ trivial (pu 2 (fun i hi=>match i,hi with|0,_=>iZ n (j8 n) (bB n) (t4 n)|1,_=>iZ n (jk n) (bc n) (tf n))) (afe n)
theorem ob9{W:World}(hG:af W) (n:Nat):GG W (9,S9 n) :=
 ac mixed ag Tryz.func9 (E9 n) (G9 n) [] ⟨ad9 hG n,BS hG n,ad8 hG n,ad7 hG n,WO hG n,T5 hG n,ad6 hG n,trivial⟩ trivial (pu 3 (fun i hi=>match i,hi with|0,_=>iZ n (nT n) (dg n) (yx n)|1,_=>iZ n (mP n) (cq n) (xa n)|2,_=>iZ n (mO n) (cp n) (w9 n))) (eq9 n)
theorem Xp{W:World}(hG:af W) (n:Nat):GG W (151,Vl n) :=
 ac mixed ag Tryz.func151 (acu n) (aa4 n) [] ⟨BS hG n,trivial⟩ trivial ff (YO n)
theorem Xo{W:World}(hG:af W) (n:Nat):GG W (152,Vk n) :=
 ac mixed ag Tryz.func152 (act n) (aa3 n) [] ⟨Sq hG n,trivial⟩ trivial ff (YN n)
theorem Sd{W:World}(hG:af W) (n:Nat):GG W (211,Rt n) :=
 ac mixed ag Tryz.func211 (VI n) (aap n) [] trivial trivial (pu 1 (fun i hi=>match i,hi with|0,_=>iZ n (cT n) (aq n) (jg n))) (X9 n)
theorem W9{W:World}(hG:af W) (n:Nat):GG W (185,U6 n) :=
 ac mixed ag Tryz.func185 (ab8 n) (aaC n) [] ⟨Sd hG n,trivial⟩ trivial ff (Ym n)
theorem T6{W:World}(hG:af W) (n:Nat):GG W (185,PT n) :=
 ac mixed ag Tryz.func185 (Tl n) (S3 n) [] ⟨Sd hG n,trivial⟩ trivial ff (Uu n)
theorem Xn{W:World}(hG:af W) (n:Nat):GG W (153,Vj n) :=
 ac mixed ag Tryz.func153 (acs n) (aa2 n) [] ⟨W9 hG n,trivial⟩ trivial ff (YM n)
theorem XF{W:World}(hG:af W) (n:Nat):GG W (122,Vv n) :=
 ac mixed ag Tryz.func122 (VR n) (abr n) [] ⟨Xp hG n,Xo hG n,Xn hG n,trivial⟩ trivial (pu 1 (fun i hi=>match i,hi with|0,_=>iZ n (jm n) (bd n) (tj n))) (Zb n)
theorem WF{W:World}(hG:af W) (n:Nat):GG W (93,S93 n) :=
 ac mixed ag Tryz.func93 (E93 n) (G93 n) [] ⟨XF hG n,trivial⟩ trivial (pu 3 (fun i hi=>match i,hi with|0,_=>iZ n (kR n) (cb n) (uQ n)|1,_=>iZ n (kQ n) (bN n) (uP n)|2,_=>iZ n (j9 n) (bC n) (t5 n))) (aet n)
theorem XG{W:World}(hG:af W) (n:Nat):GG W (121,Vw n) :=
 ac mixed ag Tryz.func121 (VS n) (abs n) [] ⟨WF hG n,Xt hG,Xs hG,Xq hG,Xr hG,trivial⟩ trivial (pu 1 (fun i hi=>match i,hi with|0,_=>iZ n (iO n) (aA n) (rU n))) (Zc n)
theorem adH{W:World}(hG:af W) (n:Nat):GG W (92,S92 n) :=
 ac mixed ag Tryz.func92 (E92 n) (G92 n) [] ⟨XG hG n,trivial⟩ trivial (pu 1 (fun i hi=>match i,hi with|0,_=>iZ n (jl n) (cA n) (th n))) (aeu n)
theorem adX{W:World}(hG:af W) (n:Nat):GG W (59,S59 n) :=
 ac mixed ag Tryz.func59 (E59 n) (G59 n) [] ⟨adH hG n,WF hG n,trivial⟩ trivial ff (aeZ n)
theorem ad3{W:World}(hG:af W) (n:Nat):GG W (50,S50 n) :=
 ac mixed ag Tryz.func50 (E50 n) (G50 n) [] trivial trivial (pu 1 (fun i hi=>match i,hi with|0,_=>iZ n (iN n) (bv n) (rT n))) (ae8 n)
theorem T3{W:World}(hG:af W) (n:Nat):GG W (52,ZE n) :=
 ac mixed ag Tryz.func52 (E52 n) (G52 n) [] ⟨ad3 hG n,trivial⟩ trivial ff (ae6 n)
theorem adI{W:World}(hG:af W) (n:Nat):GG W (90,S90 n) :=
 ac mixed ag Tryz.func90 (E90 n) (G90 n) [] trivial trivial ff (aew n)
theorem XH{W:World}(hG:af W) (n:Nat):GG W (120,Vx n) :=
 ac mixed ag Tryz.func120 (VT n) (abt n) [] ⟨adI hG n,trivial⟩ trivial (pu 1 (fun i hi=>match i,hi with|0,_=>iZ n (ep n) (ap n) (my n))) (Zd n)
theorem adJ{W:World}(hG:af W) (n:Nat):GG W (89,S89 n) :=
 ac mixed ag Tryz.func89 (E89 n) (G89 n) [] ⟨XH hG n,trivial⟩ trivial ff (aex n)
theorem ad1{W:World}(hG:af W) (n:Nat):GG W (54,S54 n) :=
 ac mixed ag Tryz.func54 (E54 n) (G54 n) [] ⟨T5 hG n,adJ hG n,trivial⟩ trivial ff (ae4 n)
theorem adE{W:World}(hG:af W) (n:Nat):GG W (96,S96 n) :=
 ac mixed ag Tryz.func96 (E96 n) (G96 n) [] trivial trivial (pu 1 (fun i hi=>match i,hi with|0,_=>iZ n (fM n) (ay n) (oY n))) (aeq n)
theorem WJ{W:World}(hG:af W) (n:Nat):GG W (64,S64 n) :=
 ac mixed ag Tryz.func64 (E64 n) (G64 n) [] ⟨adE hG n,trivial⟩ trivial ff (aeU n)
theorem adK{W:World}(hG:af W) (n:Nat):GG W (88,S88 n) :=
 ac mixed ag Tryz.func88 (E88 n) (G88 n) [] ⟨WJ hG n,trivial⟩ trivial ff (aey n)
theorem WM{W:World}(hG:af W) (n:Nat):GG W (53,S53 n) :=
 ac mixed ag Tryz.func53 (E53 n) (G53 n) [] ⟨T3 hG n,ad1 hG n,adK hG n,trivial⟩ trivial ff (ae5 n)
theorem W1{W:World}(hG:af W) (n:Nat):GG W (20,S20 n) :=
 ac mixed ag Tryz.func20 (E20 n) (G20 n) [] ⟨ob9 hG n,adX hG n,WM hG n,trivial⟩ trivial (pu 1 (fun i hi=>match i,hi with|0,_=>iZ n (kb n) (bD n) (t6 n))) (afs n)
theorem Sr{W:World}(hG:af W) (n:Nat):GG W (135,RJ n) :=
 ac mixed ag Tryz.func135 (acz n) (abe n) [] ⟨Xe hG,trivial⟩ trivial ff (YY n)
theorem Wp (n:Nat):eO (RZ n) (ae Tryz.f170) (ZT n):=⟨Jq (vL n),trivial⟩
theorem KS{W:World}(hG:af W) (n:Nat):GG W (170,Ny n) :=
 ac mixed ag Tryz.func170 (RZ n) (aaM n) (Z9 n) ⟨Sv hG n,trivial⟩ ⟨T6 hG n,trivial⟩ (DU (Wp n)) (Yw n)
theorem Sk{W:World}(hG:af W) (n:Nat):GG W (168,RB n) :=
 ac mixed ag Tryz.func168 (acj n) (aaO n) [] ⟨KS hG n,trivial⟩ trivial ff (Yy n)
theorem Sj{W:World}(hG:af W) (n:Nat):GG W (169,Rz n) :=
 ac mixed ag Tryz.func169 (aci n) (aaN n) (aaa n) ⟨KS hG n,trivial⟩ ⟨OR hG n,OR hG n,trivial⟩ ff (Yx n)
theorem Si{W:World}(hG:af W) (n:Nat):GG W (171,Ry n) :=
 ac mixed ag Tryz.func171 (ach n) (aaL n) [] trivial trivial ff (Yv n)
theorem Ww (n k:Nat):eO (Qb n k) (ae Tryz.f136) (ZZ n k):=⟨ny (rP n k) [],trivial⟩
theorem OL{W:World}(hG:af W) (n:Nat):∀k,GG W (136,PP n k)
 |0=>⟨dT Tryz.func136 (by kernel_rfl) (by kernel_rfl),fun _ _ _ _ _ _ _ h=>by cases h⟩
 |k+1 =>
  have ih:=OL hG n k
  ac mixed ag Tryz.func136 (Qb n k) (abd n k) [] ⟨Sk hG n,ih,Sj hG n,Si hG n,KS hG n,trivial⟩ trivial (AR 1 (fun i hi=>match i,hi with|0,_=>iZ n (iM n k) (aU n (aQ n k)) (fun m x=>rS n m k x)) (Ww n k)) (YX n k)
theorem TJ (n k:Nat):eO (I4 n k) (ae Tryz.f136) (SN n k):=⟨ny (qG n k) [],trivial⟩
theorem T7{W:World}(hG:af W) (n:Nat):∀k,GG W (136,PV n k)
 |0=>⟨dT Tryz.func136 (by kernel_rfl) (by kernel_rfl),fun _ _ _ _ _ _ _ h=>by cases h⟩
 |k+1 =>
  have ih:=T7 hG n k
  ac mixed ag Tryz.func136 (I4 n k) (S5 n k) (SY n k) ⟨Sk hG n,Sj hG n,Si hG n,KS hG n,trivial⟩ ⟨ih,trivial⟩ (AR 1 (fun i hi=>match i,hi with|0,_=>iZ n (gZ n k) (br n (cO n k)) (fun m x=>qH n m k x)) (TJ n k)) (Uv n k)
theorem agM{W:World}(hG:af W) (n:Nat):GG W (109,ZO n) :=
 ac mixed ag Tryz.func109 (acO n) (abE n) [] ⟨QQ hG n,KU hG n,Sr hG n,TZ hG n,OM hG n,KT hG n n,OL hG n n,trivial⟩ trivial ff (Zo n)
theorem T9{W:World}(hG:af W) (n:Nat):GG W (109,PX n) :=
 ac mixed ag Tryz.func109 (Tn n) (Ta n) [] ⟨QQ hG n,KU hG n,Sr hG n,TZ hG n,OM hG n,KT hG n n,OL hG n n,trivial⟩ trivial ff (Uy n)
theorem adv (n:Nat):eO (E74 n) (ae Tryz.f74) (Q74 n):=⟨ny (tV n) [(18,8)],trivial⟩
theorem adO{W:World}(hG:af W) (n:Nat):GG W (74,S74 n) :=
 ac mixed ag Tryz.func74 (E74 n) (G74 n) (H74 n) ⟨WG hG n,QR hG n,trivial⟩ ⟨T9 hG n,trivial⟩ (DU (adv n)) (aeM n)
theorem adW{W:World}(hG:af W) (n:Nat):GG W (60,S60 n) :=
 ac mixed ag Tryz.func60 (E60 n) (G60 n) [] ⟨adO hG n,trivial⟩ trivial (pu 1 (fun i hi=>match i,hi with|0,_=>iZ n (iB n) (aj n) (rz n))) (aeY n)
theorem W0{W:World}(hG:af W) (n:Nat):GG W (21,S21 n) :=
 ac mixed ag Tryz.func21 (E21 n) (G21 n) [] ⟨ob9 hG n,T3 hG n,adW hG n,trivial⟩ trivial (pu 1 (fun i hi=>match i,hi with|0,_=>iZ n (kS n) (bz n) (uR n))) (afr n)
theorem WT{W:World}(hG:af W) (n:Nat):GG W (22,S22 n) :=
 ac mixed ag Tryz.func22 (E22 n) (G22 n) [] ⟨ob9 hG n,T3 hG n,trivial⟩ trivial (pu 2 (fun i hi=>match i,hi with|0,_=>iZ n (lF n) (bK n) (vS n)|1,_=>iZ n (lE n) (bg n) (vR n))) (afq n)
theorem XE{W:World}(hG:af W) (n:Nat):GG W (125,Vu n) :=
 ac mixed ag Tryz.func125 (acF n) (abo n) [] ⟨KV hG n,Fm hG n,trivial⟩ trivial ff (Y8 n)
theorem adF{W:World}(hG:af W) (n:Nat):GG W (95,S95 n) :=
 ac mixed ag Tryz.func95 (E95 n) (G95 n) [] ⟨Ss hG n,ON hG n,XE hG n,trivial⟩ trivial ff (aer n)
theorem WK{W:World}(hG:af W) (n:Nat):GG W (62,S62 n) :=
 ac mixed ag Tryz.func62 (E62 n) (G62 n) [] ⟨Fm hG n,adF hG n,trivial⟩ trivial (pu 1 (fun i hi=>match i,hi with|0,_=>iZ n (qo n) (du n) (AX n))) (aeW n)
theorem adt (n:Nat):eO (E94 n) (ae Tryz.f94) (Q94 n):=⟨ny (zt n) [],trivial⟩
theorem adG{W:World}(hG:af W) (n:Nat):GG W (94,S94 n) :=
 ac mixed ag Tryz.func94 (E94 n) (G94 n) [] ⟨WK hG n,MA hG n,trivial⟩ trivial (AR 1 (fun i hi=>match i,hi with|0,_=>iZ n (oZ n) (bL n) (zF n)) (adt n)) (aes n)
theorem adV{W:World}(hG:af W) (n:Nat):GG W (61,S61 n) :=
 ac mixed ag Tryz.func61 (E61 n) (G61 n) [] ⟨adG hG n,trivial⟩ trivial (pu 1 (fun i hi=>match i,hi with|0,_=>iZ n (qn n) (fO n) (AW n))) (aeX n)
theorem ad2{W:World}(hG:af W) (n:Nat):GG W (51,S51 n) :=
 ac mixed ag Tryz.func51 (E51 n) (G51 n) [] trivial trivial (pu 1 (fun i hi=>match i,hi with|0,_=>iZ n (mH n) (cI n) (wV n))) (ae7 n)
theorem T0{W:World}(hG:af W) (n:Nat):GG W (55,ZD n) :=
 ac mixed ag Tryz.func55 (E55 n) (G55 n) [] ⟨ad2 hG n,trivial⟩ trivial ff (ae3 n)
theorem adZ{W:World}(hG:af W) (n:Nat):GG W (57,S57 n) :=
 ac mixed ag Tryz.func57 (E57 n) (G57 n) [] ⟨yW hG n,trivial⟩ trivial (pu 1 (fun i hi=>match i,hi with|0,_=>iZ n (mG n) (co n) (wU n))) (ae1 n)
theorem ad0{W:World}(hG:af W) (n:Nat):GG W (56,S56 n) :=
 ac mixed ag Tryz.func56 (E56 n) (G56 n) [] ⟨T0 hG n,adZ hG n,Fm hG n,trivial⟩ trivial ff (ae2 n)
theorem aee{W:World}(hG:af W) (n:Nat):GG W (23,S23 n) :=
 ac mixed ag Tryz.func23 (E23 n) (G23 n) [] ⟨JO hG n,adV hG n,WK hG n,ad0 hG n,trivial⟩ trivial (pu 1 (fun i hi=>match i,hi with|0,_=>iZ n (j5 n) (bA n) (tY n))) (afp n)
theorem adN{W:World}(hG:af W) (n:Nat):GG W (75,S75 n) :=
 ac mixed ag Tryz.func75 (E75 n) (G75 n) [] ⟨yW hG n,QP hG n,KW hG n,Sw hG n n,trivial⟩ trivial ff (aeL n)
theorem adU{W:World}(hG:af W) (n:Nat):GG W (63,S63 n) :=
 ac mixed ag Tryz.func63 (E63 n) (G63 n) [] ⟨adN hG n,trivial⟩ trivial (pu 1 (fun i hi=>match i,hi with|0,_=>iZ n (j0 n) (aE n) (tW n))) (aeV n)
theorem aed{W:World}(hG:af W) (n:Nat):GG W (24,S24 n) :=
 ac mixed ag Tryz.func24 (E24 n) (G24 n) [] ⟨JO hG n,T0 hG n,adU hG n,trivial⟩ trivial (pu 1 (fun i hi=>match i,hi with|0,_=>iZ n (kP n) (bx n) (uO n))) (afo n)
theorem adB (n:Nat):eO (Wc n) (ae Tryz.f25) (Q25 n):=⟨ny (vK n) [(12,5)],trivial⟩
theorem aec{W:World}(hG:af W) (n:Nat):GG W (25,S25 n) :=
 ac mixed ag Tryz.func25 (Wc n) (G25 n) [] ⟨JO hG n,T0 hG n,trivial⟩ trivial (AR 2 (fun i hi=>match i,hi with|0,_=>iZ n (lB n) (bJ n) (vO n)|1,_=>iZ n (lA n) (bf n) (vN n)) (adB n)) (afn n)
theorem aeb{W:World}(hG:af W) (n:Nat):GG W (26,S26 n) :=
 ac mixed ag Tryz.func26 (E26 n) (G26 n) [] ⟨W1 hG n,W0 hG n,WT hG n,trivial⟩ trivial ff (afm n)
theorem aeg{W:World}(hG:af W) (n:Nat):GG W (14,S14 n) :=
 ac mixed ag Tryz.func14 (E14 n) (G14 n) [] ⟨ob9 hG n,WM hG n,trivial⟩ trivial ff (afv n)
theorem aea{W:World}(hG:af W) (n:Nat):GG W (27,S27 n) :=
 ac mixed ag Tryz.func27 (E27 n) (G27 n) [] ⟨WJ hG n,trivial⟩ trivial ff (afl n)
theorem ob4{W:World}(hG:af W) (n:Nat):GG W (4,S4 n) :=
 ac mixed ag Tryz.func4 (E4 n) (G4 n) [] ⟨ob7 hG n,aef hG n,W1 hG n,W0 hG n,WT hG n,aee hG n,aed hG n,aec hG n,aeb hG n,JO hG n,aeg hG n,aea hG n,trivial⟩ trivial (pu 1 (fun i hi=>match i,hi with|0,_=>iZ n (lC n) (bp n) (vP n))) (eq4 n)
end AM
end Go.Proofs.YtpgigedclifoeaaGreatDoor
