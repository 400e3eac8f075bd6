/- Each function that the laws reach obeys its summary. Under: what the rows list of the library's variables. -/
import Derived.Test.YtobpcllkonomlabGreatDoorDALd
import Derived.Test.YtobpcllkonomlabGreatDoorDW3
import Derived.Test.YtobpcllkonomlabGreatDoorDW4
import Derived.Test.YtobpcllkonomlabGreatDoorProg
import Derived.Test.YtobpcllkonomlabGreatDoorDShelf
import Derived.Test.YtobpcllkonomlabGreatDoorDP1
import Derived.Lib.IndexMore
import Derived.Lib.ItoaNum
import Derived.Lib.Split
import Derived.Lib.CountLaws
import Derived.Lib.SlicesCompact
namespace Go.Proofs.YtobpcllkonomlabGreatDoor
namespace AM
open Go
set_option linter.unusedVariables false
set_option maxRecDepth 100000
abbrev GG (W:World) (p:Nat×aa):Prop:=qn Tryz.prog (fA.of W) p
theorem yu{W:World}(hG:af W) (n:Nat):GG W (62,II n) :=
 ac mixed ah Tryz.func62 (YP n) (Yo n) [] trivial trivial fC (W7 n)
theorem QG{W:World}(hG:af W) (n:Nat):GG W (163,OH n) :=
 ac mixed ah Tryz.func163 (VF n) (Un n) [] ⟨yu hG n,trivial⟩ trivial fC (Sc n)
theorem Mr{W:World}(hG:af W) (n:Nat):GG W (246,EF n) :=
 ac mixed ah Tryz.func246 (Vh n) (TH n) [] trivial trivial fC (Rw n)
theorem P4{W:World}(hG:af W) (n:Nat):GG W (294,N3 n) :=
 ac mixed ah Tryz.func294 (U0 n) (Tg n) [] trivial trivial fC (Q7 n)
theorem Qc{W:World}(hG:af W) (n:Nat):GG W (275,Oc n) :=
 ac mixed ah Tryz.func275 (U9 n) (Tt n) [] ⟨P4 hG n,trivial⟩ trivial fC (Rj n)
theorem Qj{W:World}(hG:af W) (n:Nat):GG W (245,Oj n) :=
 ac mixed ah Tryz.func245 (Vi n) (TJ n) [] ⟨Qc hG n,trivial⟩ trivial fC (Rx n)
theorem Qw{W:World}(hG:af W) (n:Nat):GG W (205,Ox n) :=
 ac mixed ah Tryz.func205 (O7 n) (T7 n) [] ⟨Mr hG n,Qj hG n,trivial⟩ trivial (sZ 1 (fun i hi=>match i,hi with|0,_=>nw n (mz n (dY n n)) (dY n) (wm n))) (RV n)
theorem Js{W:World}(hG:af W) (n:Nat):GG W (264,Kp n) :=
 ac mixed ah Tryz.func264 (Vd n) (TB n) [] trivial trivial fC (Rr n)
theorem Qa{W:World}(hG:af W) (n:Nat):GG W (284,N9 n) :=
 ac mixed ah Tryz.func284 (U7 n) (Tq n) [] trivial trivial fC (Rh n)
theorem Qh{W:World}(hG:af W) (n:Nat):GG W (262,Oh n) :=
 ac mixed ah Tryz.func262 (O4 n) (TE n) [] ⟨Js hG n,Qa hG n,MH hG,Nx hG,trivial⟩ trivial (sZ 1 (fun i hi=>match i,hi with|0,_=>nw n (fv n (bz n n)) (bz n) (nj n))) (Rt n)
theorem Cm{W:World}(hG:af W) (n:Nat):GG W (263,EE n) :=
 ac mixed ah Tryz.func263 (Ve n) (TC n) [] trivial trivial fC (Rs n)
theorem Qt{W:World}(hG:af W) (n:Nat):GG W (215,Ov n) :=
 ac mixed ah Tryz.func215 (Vs n) (TY n) [] ⟨Qh hG n,yu hG n,Cm hG n,trivial⟩ trivial fC (RN n)
theorem Qs{W:World}(hG:af W) (n:Nat):GG W (216,Ou n) :=
 ac mixed ah Tryz.func216 (Vr n) (TX n) [] ⟨Js hG n,Cm hG n,trivial⟩ trivial fC (RM n)
theorem PG (n:Nat):fG (L9 n) (ag Tryz.f217) (S0 n):=⟨Nq (pu n),trivial⟩
theorem Mv{W:World}(hG:af W) (n:Nat):GG W (217,LP n) :=
 ac mixed ah Tryz.func217 (L9 n) (TW n) [] trivial trivial (Fo (PG n)) (RL n)
theorem Qu{W:World}(hG:af W) (n:Nat):GG W (214,Ow n) :=
 ac mixed ah Tryz.func214 (Vt n) (TZ n) [] ⟨Qt hG n,Mv hG n,Qs hG n,trivial⟩ trivial fC (RQ n)
theorem Qr{W:World}(hG:af W) (n:Nat):GG W (218,Ot n) :=
 ac mixed ah Tryz.func218 (Vq n) (TV n) [] ⟨Mv hG n,trivial⟩ trivial fC (RK n)
theorem P9{W:World}(hG:af W) (n:Nat):GG W (285,N8 n) :=
 ac mixed ah Tryz.func285 (O2 n) (Tp n) [] trivial trivial (sZ 1 (fun i hi=>match i,hi with|0,_=>nw n (kE n (dj n n)) (dj n) (tT n))) (Rg n)
theorem P8{W:World}(hG:af W) (n:Nat):GG W (287,N7 n) :=
 ac mixed ah Tryz.func287 (U5 n) (Tn n) [] trivial trivial fC (Re n)
theorem Mp{W:World}(hG:af W) (n:Nat):GG W (288,LJ n) :=
 ac mixed ah Tryz.func288 (U4 n) (Tm n) [] ⟨Cm hG n,trivial⟩ trivial fC (Rd n)
theorem Jp{W:World}(hG:af W) (n k:Nat) (ih:GG W (265,It n k)):GG W (286,LK n k) :=
 ac mixed ah Tryz.func286 (U6 n k) (To n k) [] ⟨ih,Mp hG n,trivial⟩ trivial fC (Rf n k)
theorem Jr{W:World}(hG:af W) (n:Nat):∀k,GG W (265,It n k)
 |0=>⟨eO Tryz.func265 (by kernel_rfl) (by kernel_rfl),fun _ _ _ _ _ _ _ h=>by cases h⟩
 |k+1 =>
  have ih:=Jr hG n k
  ac mixed ah Tryz.func265 (Vc n k) (TA n k) [] ⟨Js hG n,Cm hG n,Qu hG n,P9 hG n,P8 hG n,Jp hG n k ih,Qr hG n,ih,Mp hG n,trivial⟩ trivial fC (Rq n k)
theorem XV{W:World}(hG:af W) (n k:Nat):GG W (286,LK n k):=Jp hG n k (Jr hG n k)
theorem Qq{W:World}(hG:af W) (n:Nat):GG W (219,Oq n) :=
 ac mixed ah Tryz.func219 (Vp n) (TU n) [] ⟨Cm hG n,Jr hG n n,trivial⟩ trivial fC (RJ n)
theorem MA{W:World}(hG:af W) (n:Nat):GG W (175,LW n) :=
 ac mixed ah Tryz.func175 (VB n) (Uj n) [] ⟨Qq hG n,trivial⟩ trivial fC (R8 n)
theorem QF{W:World}(hG:af W) (n:Nat):GG W (177,OG n) :=
 ac mixed ah Tryz.func177 (VA n) (Uh n) [] trivial trivial fC (R6 n)
theorem Mz{W:World}(hG:af W) (n:Nat):∀k,GG W (176,LV n k)
 |0=>⟨eO Tryz.func176 (by kernel_rfl) (by kernel_rfl),fun _ _ _ _ _ _ _ h=>by cases h⟩
 |k+1 =>
  have ih:=Mz hG n k
  ac mixed ah Tryz.func176 (Pa n k) (Ui n k) [] ⟨ih,trivial⟩ trivial (sZ 1 (fun i hi=>match i,hi with|0,_=>nw n (gH n (bZ n (bI n k) n)) (bZ n (bI n k)) (fun m x=>pw n m k x))) (R7 n k)
theorem Qb{W:World}(hG:af W) (n:Nat):GG W (276,Oa n) :=
 ac mixed ah Tryz.func276 (U8 n) (Tr n) [] ⟨MA hG n,trivial⟩ trivial fC (Ri n)
theorem Qi{W:World}(hG:af W) (n:Nat):GG W (247,Oi n) :=
 ac mixed ah Tryz.func247 (Vg n) (TG n) [] ⟨MA hG n,QF hG n,Mz hG n n,Qb hG n,trivial⟩ trivial fC (Rv n)
theorem My{W:World}(hG:af W) (n:Nat):GG W (206,EG n) :=
 ac mixed ah Tryz.func206 (O6 n) (T6 n) [] ⟨Qi hG n,yu hG n,trivial⟩ trivial (sZ 1 (fun i hi=>match i,hi with|0,_=>nw n (lK n (dG n n)) (dG n) (ve n))) (RU n)
theorem Qv{W:World}(hG:af W) (n:Nat):qn Tryz.prog (fA.of W) (207,LU n):=wW (My hG n) (Mr hG n)
theorem QH{W:World}(hG:af W) (n:Nat):GG W (162,OI n) :=
 ac mixed ah Tryz.func162 (Pb n) (Uo n) [] ⟨PV hG,Qw hG n,My hG n,Qv hG n,trivial⟩ trivial (sZ 1 (fun i hi=>match i,hi with|0,_=>nw n (iU n (cE n n)) (cE n) (q9 n))) (Sd n)
theorem QO{W:World}(hG:af W) (n:Nat):GG W (133,OP n) :=
 ac mixed ah Tryz.func133 (VN n) (UD n) [] ⟨QG hG n,QH hG n,trivial⟩ trivial fC (Ss n)
theorem Wv{W:World}(hG:af W) (n:Nat):GG W (91,Xs n) :=
 ac mixed ah Tryz.func91 (YF n) (X9 n) [] ⟨yu hG n,trivial⟩ trivial fC (WS n)
theorem MF{W:World}(hG:af W) (n:Nat):GG W (131,L3 n) :=
 ac mixed ah Tryz.func131 (VO n) (UF n) [] ⟨yu hG n,trivial⟩ trivial fC (Sv n)
theorem WM{W:World}(hG:af W) (n:Nat):GG W (131,MV n) :=
 ac mixed ah Tryz.func131 (M5 n) (M2 n) [] ⟨yu hG n,trivial⟩ trivial fC (NR n)
theorem Qx{W:World}(hG:af W) (n:Nat):GG W (204,Oy n) :=
 ac mixed ah Tryz.func204 (Vw n) (T8 n) [] trivial trivial fC (RW n)
theorem QI{W:World}(hG:af W) (n:Nat):GG W (161,OJ n) :=
 ac mixed ah Tryz.func161 (VG n) (Up n) [] ⟨Qx hG n,yu hG n,trivial⟩ trivial fC (Se n)
theorem PN (n:Nat):fG (IE n) (ag Tryz.f132) (S8 n):=⟨⟨by kernel_rfl,fun x y hy=>EC (uU n x) (fun v hv=>((show ∀v∈[az n x,az n x,az n x,aU n x,aU n x,aU n x,az n x,az n x,az n x,aU n x,aU n x,aU n x],v=az n x from(List.forall_mem_cons.2 ⟨rfl,(List.forall_mem_cons.2 ⟨rfl,(List.forall_mem_cons.2 ⟨rfl,(List.forall_mem_cons.2 ⟨de n x,(List.forall_mem_cons.2 ⟨de n x,(List.forall_mem_cons.2 ⟨de n x,(List.forall_mem_cons.2 ⟨rfl,(List.forall_mem_cons.2 ⟨rfl,(List.forall_mem_cons.2 ⟨rfl,(List.forall_mem_cons.2 ⟨de n x,(List.forall_mem_cons.2 ⟨de n x,(List.forall_mem_cons.2 ⟨de n x,(fun _ h=>by cases h)⟩)⟩)⟩)⟩)⟩)⟩)⟩)⟩)⟩)⟩)⟩)⟩)) v hv).trans (show az n x=some y from hy))⟩,trivial⟩
theorem QP{W:World}(hG:af W) (n:Nat):GG W (132,OQ n) :=
 ac mixed ah Tryz.func132 (IE n) (UE n) [] ⟨QI hG n,trivial⟩ trivial (CH 1 (fun i hi=>match i,hi with|0,_=>nw n (lL n (cq n n)) (cq n) (vf n)) (PN n)) (Su n)
theorem QN{W:World}(hG:af W) (n:Nat):GG W (134,OO n) :=
 ac mixed ah Tryz.func134 (Pf n) (UC n) [] ⟨MF hG n,QP hG n,trivial⟩ trivial (sZ 1 (fun i hi=>match i,hi with|0,_=>nw n (mA n (bM n n)) (bM n) (wn n))) (Sr n)
theorem Y5{W:World}(hG:af W) (n:Nat):GG W (90,X3 n) :=
 ac mixed ah Tryz.func90 (YG n) (Ya n) [] ⟨QO hG n,Wv hG n,QN hG n,yu hG n,MF hG n,trivial⟩ trivial fC (WT n)
theorem WK{W:World}(hG:af W) (n:Nat):GG W (20,XG n) :=
 ac mixed ah Tryz.func20 (YX n) (YE n) [] trivial trivial fC (Xn n)
theorem P2{W:World}(hG:af W) (n:Nat):GG W (53,Wf n) :=
 ac mixed ah Tryz.func53 (XP n) (Yw n) [] trivial trivial (sZ 1 (fun i hi=>match i,hi with|0,_=>nw n (mw n (cX n n)) (cX n) (wk n))) (Xf n)
theorem MC{W:World}(hG:af W) (n:Nat):GG W (158,LY n) :=
 ac mixed ah Tryz.func158 (Pd n) (Us n) [] trivial trivial (sZ 1 (fun i hi=>match i,hi with|0,_=>nw n (lC n (bi n n)) (bi n) (uY n))) (Sh n)
theorem MG{W:World}(hG:af W) (n:Nat):GG W (127,L4 n) :=
 ac mixed ah Tryz.func127 (VP n) (UG n) [] trivial trivial fC (Sw n)
theorem v9{W:World}(hG:af W) (n:Nat):GG W (65,FR n) :=
 ac mixed ah Tryz.func65 (YN n) (Ym n) [] trivial trivial fC (W5 n)
theorem MD{W:World}(hG:af W) (n:Nat):GG W (157,LZ n) :=
 ac mixed ah Tryz.func157 (VI n) (Ut n) [] ⟨MG hG n,v9 hG n,trivial⟩ trivial fC (Si n)
theorem E8{W:World}(hG:af W) (n:Nat):GG W (180,Iu n) :=
 ac mixed ah Tryz.func180 (Vz n) (Ug n) [] trivial trivial fC (R5 n)
theorem PL (n:Nat):fG (Mc n) (ag Tryz.f147) (S5 n):=⟨mY (uO n) [(4,4)],trivial⟩
theorem xi{W:World}(hG:af W) (n:Nat):GG W (147,Bw n) :=
 ac mixed ah Tryz.func147 (Mc n) (Ux n) [] ⟨MC hG n,MD hG n,E8 hG n,trivial⟩ trivial (Fo (PL n)) (Sm n)
theorem xj{W:World}(hG:af W) (n:Nat):GG W (145,Bx n) :=
 ac mixed ah Tryz.func145 (VL n) (Uz n) [] ⟨xi hG n,trivial⟩ trivial fC (So n)
theorem xk{W:World}(hG:af W) (n:Nat):GG W (121,By n) :=
 ac mixed ah Tryz.func121 (VT n) (UM n) [] ⟨v9 hG n,trivial⟩ trivial fC (SC n)
theorem Jy{W:World}(hG:af W) (n:Nat):GG W (146,Kt n) :=
 ac mixed ah Tryz.func146 (VK n) (Uy n) [] ⟨xk hG n,trivial⟩ trivial fC (Sn n)
theorem Jn{W:World}(hG:af W) (n:Nat):GG W (80,N2 n) :=
 ac mixed ah Tryz.func80 (XK n) (Yb n) [] trivial trivial (sZ 1 (fun i hi=>match i,hi with|0,_=>nw n (kD n (bp n n)) (bp n) (tS n))) (WU n)
theorem E9{W:World}(hG:af W) (n:Nat):GG W (125,Iw n) :=
 ac mixed ah Tryz.func125 (Pg n) (UI n) [] ⟨Jn hG n,trivial⟩ trivial (sZ 1 (fun i hi=>match i,hi with|0,_=>nw n (mr n (bB n n)) (bB n) (wg n))) (Sy n)
theorem PQ (n:Nat):fG (IF n) (ag Tryz.f106) (Tb n):=⟨Nr (qX n) [(1,[1,0])],trivial⟩
theorem QX{W:World}(hG:af W) (n:Nat):GG W (106,OZ n) :=
 ac mixed ah Tryz.func106 (IF n) (UW n) [] ⟨xj hG n,Jy hG n,xi hG n,E9 hG n,trivial⟩ trivial (CH 2 (fun i hi=>match i,hi with|0,_=>nw n (jV n (bX n n)) (bX n) (sn n)|1,_=>nw n (jU n (bW n n)) (bW n) (sm n)) (PQ n)) (SM n)
theorem QV{W:World}(hG:af W) (n:Nat):GG W (110,OX n) :=
 ac mixed ah Tryz.func110 (VW n) (US n) [] trivial trivial fC (SI n)
theorem yv{W:World}(hG:af W) (n:Nat):GG W (57,IJ n) :=
 ac mixed ah Tryz.func57 (YT n) (Ys n) [] ⟨QV hG n,trivial⟩ trivial fC (Xb n)
theorem Nw{W:World}(hG:af W) (n:Nat):GG W (73,SP n) :=
 ac mixed ah Tryz.func73 (YJ n) (Yg n) [] ⟨yv hG n,trivial⟩ trivial fC (WZ n)
theorem JD{W:World}(hG:af W) (n:Nat):GG W (109,Kz n) :=
 ac mixed ah Tryz.func109 (VX n) (UT n) [] trivial trivial fC (SJ n)
theorem PW{W:World}(hG:af W) (n:Nat):GG W (67,V8 n) :=
 ac mixed ah Tryz.func67 (XO n) (Yk n) [] trivial trivial (sZ 1 (fun i hi=>match i,hi with|0,_=>nw n (mu n (bm n n)) (bm n) (wh n))) (W3 n)
theorem Fa{W:World}(hG:af W) (n:Nat):GG W (108,Ix n) :=
 ac mixed ah Tryz.func108 (VY n) (UU n) [] ⟨yv hG n,trivial⟩ trivial fC (SK n)
theorem Ws (n:Nat):fG (Wk n) (ag Tryz.f56) (X6 n):=⟨K7 (pq n),trivial⟩
theorem Ny{W:World}(hG:af W) (n:Nat):GG W (56,SQ n) :=
 ac mixed ah Tryz.func56 (Wk n) (Yt n) [] ⟨yv hG n,Nw hG n,JD hG n,PW hG n,Fa hG n,trivial⟩ trivial (Fo (Ws n)) (Xc n)
theorem JC{W:World}(hG:af W) (n:Nat):GG W (118,Ky n) :=
 ac mixed ah Tryz.func118 (Pj n) (UP n) [] ⟨MD hG n,MC hG n,trivial⟩ trivial (sZ 1 (fun i hi=>match i,hi with|0,_=>nw n (lI n (ci n n)) (ci n) (u7 n))) (SF n)
theorem Cn{W:World}(hG:af W) (n:Nat):GG W (124,EH n) :=
 ac mixed ah Tryz.func124 (VR n) (UJ n) [] ⟨v9 hG n,trivial⟩ trivial fC (Sz n)
theorem QS{W:World}(hG:af W) (n:Nat):GG W (119,OT n) :=
 ac mixed ah Tryz.func119 (Pi n) (UO n) [] ⟨Cn hG n,trivial⟩ trivial (sZ 1 (fun i hi=>match i,hi with|0,_=>nw n (lA n (bb n n)) (bb n) (uW n))) (SE n)
theorem PU{W:World}(hG:af W) (n:Nat):GG W (77,V7 n) :=
 ac mixed ah Tryz.func77 (YI n) (Ye n) [] ⟨JC hG n,QS hG n,trivial⟩ trivial fC (WX n)
theorem Wx{W:World}(hG:af W) (n:Nat):GG W (78,Xu n) :=
 ac mixed ah Tryz.func78 (XL n) (Yd n) [] ⟨v9 hG n,trivial⟩ trivial (sZ 1 (fun i hi=>match i,hi with|0,_=>nw n (lD n (bc n n)) (bc n) (uZ n))) (WW n)
theorem MB{W:World}(hG:af W) (n:Nat):GG W (159,LX n) :=
 ac mixed ah Tryz.func159 (VH n) (Ur n) [] trivial trivial fC (Sg n)
theorem JB{W:World}(hG:af W) (n:Nat):GG W (120,Kw n) :=
 ac mixed ah Tryz.func120 (VU n) (UN n) [] ⟨MB hG n,trivial⟩ trivial fC (SD n)
theorem QR{W:World}(hG:af W) (n:Nat):GG W (122,OS n) :=
 ac mixed ah Tryz.func122 (Ph n) (UL n) [] ⟨Cn hG n,trivial⟩ trivial (sZ 1 (fun i hi=>match i,hi with|0,_=>nw n (lF n (bx n n)) (bx n) (u4 n))) (SB n)
theorem Ql{W:World}(hG:af W) (n:Nat):GG W (243,Ol n) :=
 ac mixed ah Tryz.func243 (Vk n) (TL n) [] trivial trivial fC (Rz n)
theorem Qz{W:World}(hG:af W) (n:Nat):GG W (202,OA n) :=
 ac mixed ah Tryz.func202 (O9 n) (Ua n) [] ⟨Ql hG n,trivial⟩ trivial (sZ 1 (fun i hi=>match i,hi with|0,_=>nw n (lE n (c8 n n)) (c8 n) (u3 n))) (RY n)
theorem Mx{W:World}(hG:af W) (n:Nat):GG W (211,LS n) :=
 ac mixed ah Tryz.func211 (O5 n) (T5 n) [] trivial trivial (sZ 1 (fun i hi=>match i,hi with|0,_=>nw n (lB n (cH n n)) (cH n) (uX n))) (RT n)
theorem Mq{W:World}(hG:af W) (n:Nat):GG W (261,LL n) :=
 ac mixed ah Tryz.func261 (Vf n) (TF n) [] trivial trivial fC (Ru n)
theorem Mw{W:World}(hG:af W) (n:Nat):GG W (213,LQ n) :=
 ac mixed ah Tryz.func213 (Vu n) (T0 n) [] trivial trivial fC (RR n)
theorem Jw{W:World}(hG:af W) (n:Nat):GG W (173,Ks n) :=
 ac mixed ah Tryz.func173 (VD n) (Ul n) [] ⟨MG hG n,trivial⟩ trivial fC (Sa n)
theorem Ju{W:World}(hG:af W) (n k:Nat) (ih:GG W (172,Iv n k)):GG W (212,LR n k) :=
 ac mixed ah Tryz.func212 (Vv n k) (T3 n k) [] ⟨Mq hG n,ih,trivial⟩ trivial fC (RS n k)
theorem Jx{W:World}(hG:af W) (n:Nat):∀k,GG W (172,Iv n k)
 |0=>⟨eO Tryz.func172 (by kernel_rfl) (by kernel_rfl),fun _ _ _ _ _ _ _ h=>by cases h⟩
 |k+1 =>
  have ih:=Jx hG n k
  ac mixed ah Tryz.func172 (VE n k) (Um n k) [] ⟨Jw hG n,Mx hG n,Ju hG n k ih,Mw hG n,ih,trivial⟩ trivial fC (Sb n k)
theorem XW{W:World}(hG:af W) (n k:Nat):GG W (212,LR n k):=Ju hG n k (Jx hG n k)
theorem Jz{W:World}(hG:af W) (n:Nat):GG W (142,Ku n) :=
 ac mixed ah Tryz.func142 (VM n) (UB n) [] ⟨Jx hG n n,trivial⟩ trivial fC (Sq n)
theorem Qk{W:World}(hG:af W) (n:Nat):GG W (244,Ok n) :=
 ac mixed ah Tryz.func244 (Vj n) (TK n) [] ⟨Jz hG n,trivial⟩ trivial fC (Ry n)
theorem Qy{W:World}(hG:af W) (n:Nat):GG W (203,Oz n) :=
 ac mixed ah Tryz.func203 (O8 n) (T9 n) [] ⟨v9 hG n,Qk hG n,trivial⟩ trivial (sZ 1 (fun i hi=>match i,hi with|0,_=>nw n (lH n (dB n n)) (dB n) (u6 n))) (RX n)
theorem QJ{W:World}(hG:af W) (n:Nat):GG W (160,OK n) :=
 ac mixed ah Tryz.func160 (Pc n) (Uq n) [] ⟨Qz hG n,Qy hG n,trivial⟩ trivial (sZ 1 (fun i hi=>match i,hi with|0,_=>nw n (iS n (cf n n)) (cf n) (qY n))) (Sf n)
theorem JA{W:World}(hG:af W) (n:Nat):GG W (123,Kv n) :=
 ac mixed ah Tryz.func123 (VS n) (UK n) [] ⟨MB hG n,QJ hG n,trivial⟩ trivial fC (SA n)
theorem Ww{W:World}(hG:af W) (n:Nat):GG W (79,Xt n) :=
 ac mixed ah Tryz.func79 (YH n) (Yc n) [] ⟨JB hG n,xk hG n,QR hG n,JA hG n,Cn hG n,v9 hG n,trivial⟩ trivial fC (WV n)
theorem P3{W:World}(hG:af W) (n:Nat):GG W (31,Wg n) :=
 ac mixed ah Tryz.func31 (UZ n) (Yx n) [] ⟨PU hG n,v9 hG n,Wx hG n,Ww hG n,Jn hG n,trivial⟩ trivial (sZ 3 (fun i hi=>match i,hi with|0,_=>nw n (kC n (aY n n)) (aY n) (tR n)|1,_=>nw n (jT n (aT n n)) (aT n) (sk n)|2,_=>nw n (jR n (bo n n)) (bo n) (sj n))) (Xg n)
theorem PY{W:World}(hG:af W) (n:Nat):GG W (64,Wa n) :=
 ac mixed ah Tryz.func64 (YO n) (Yn n) [] trivial trivial fC (W6 n)
theorem QA{W:World}(hG:af W) (n:Nat):GG W (185,OB n) :=
 ac mixed ah Tryz.func185 (Vx n) (Ub n) [] trivial trivial fC (RZ n)
theorem NA{W:World}(hG:af W) (n:Nat):GG W (185,Kx n) :=
 ac mixed ah Tryz.func185 (M4 n) (M0 n) [] trivial trivial fC (NP n)
theorem PK (n:Nat):fG (ID n) (ag Tryz.f149) (S4 n):=⟨mY (tF n) [(6,8),(12,14),(16,18),(20,22)],Nq (tE n),trivial⟩
theorem QK{W:World}(hG:af W) (n:Nat):GG W (149,OL n) :=
 ac mixed ah Tryz.func149 (ID n) (Uv n) (Te n) ⟨E8 hG n,trivial⟩ ⟨NA hG n,trivial⟩ (CH 1 (fun i hi=>match i,hi with|0,_=>nw n (kB n (cw n n)) (cw n) (tQ n)) (PK n)) (Sk n)
theorem Qg{W:World}(hG:af W) (n:Nat):GG W (266,Og n) :=
 ac mixed ah Tryz.func266 (O3 n) (Tz n) [] trivial trivial (sZ 1 (fun i hi=>match i,hi with|0,_=>nw n (lJ n (cm n n)) (cm n) (u9 n))) (Rp n)
theorem Mt{W:World}(hG:af W) (n:Nat):GG W (229,LN n) :=
 ac mixed ah Tryz.func229 (Vn n) (TO n) [] ⟨xk hG n,trivial⟩ trivial fC (RE n)
theorem Qd{W:World}(hG:af W) (n:Nat):GG W (270,Od n) :=
 ac mixed ah Tryz.func270 (Va n) (Tu n) [] trivial trivial fC (Rk n)
theorem Ms{W:World}(hG:af W) (n:Nat):GG W (230,LM n) :=
 ac mixed ah Tryz.func230 (Vm n) (TN n) [] ⟨xk hG n,JD hG n,Qd hG n,trivial⟩ trivial fC (RD n)
theorem PF (n:Nat):fG (IB n) (ag Tryz.f225) (SZ n):=⟨mY (sg n) [(10,18)],mY (sf n) [(3,10),(4,11)],trivial⟩
theorem Qo{W:World}(hG:af W) (n:Nat):GG W (225,Oo n) :=
 ac mixed ah Tryz.func225 (IB n) (TT n) [] ⟨JC hG n,JB hG n,E8 hG n,xk hG n,Qg hG n,Mt hG n,Ms hG n,Jy hG n,xj hG n,xi hG n,trivial⟩ trivial (CH 1 (fun i hi=>match i,hi with|0,_=>nw n (jX n (br n n)) (br n) (so n)) (PF n)) (RI n)
theorem P7{W:World}(hG:af W) (n:Nat):GG W (289,N6 n) :=
 ac mixed ah Tryz.func289 (U3 n) (Tl n) [] ⟨v9 hG n,trivial⟩ trivial fC (Rc n)
theorem Jv{W:World}(hG:af W) (n:Nat):GG W (174,Kr n) :=
 ac mixed ah Tryz.func174 (VC n) (Uk n) [] ⟨Cn hG n,xi hG n,trivial⟩ trivial fC (R9 n)
theorem PM (n k:Nat):fG (Md n k) (ag Tryz.f143) (S7 n k):=⟨mY (tK n k) [(6,8)],trivial⟩
theorem QM{W:World}(hG:af W) (n:Nat):∀k,GG W (143,ON n k)
 |0=>⟨eO Tryz.func143 (by kernel_rfl) (by kernel_rfl),fun _ _ _ _ _ _ _ h=>by cases h⟩
 |k+1 =>
  have ih:=QM hG n k
  ac mixed ah Tryz.func143 (Md n k) (UA n k) [] ⟨xj hG n,ih,Jw hG n,xi hG n,Jv hG n,trivial⟩ trivial (Fo (PM n k)) (Sp n k)
theorem Np (n k:Nat):fG (FS n k) (ag Tryz.f143) (MW n k):=⟨mY (qW n k) [(6,8)],trivial⟩
theorem DZ{W:World}(hG:af W) (n:Nat):∀k,GG W (143,Af n k)
 |0=>⟨eO Tryz.func143 (by kernel_rfl) (by kernel_rfl),fun _ _ _ _ _ _ _ h=>by cases h⟩
 |k+1 =>
  have ih:=DZ hG n k
  ac mixed ah Tryz.func143 (FS n k) (M1 n k) (MZ n k) ⟨xj hG n,Jw hG n,xi hG n,Jv hG n,trivial⟩ ⟨ih,ih,trivial⟩ (Fo (Np n k)) (NQ n k)
theorem PB (n:Nat):fG (Dl n) (ag Tryz.f267) (SV n):=⟨mY (uS n) [(4,6),(5,7)],mY (uR n) [(7,14)],mY (uQ n) [(4,6),(5,7)],mY (uP n) [(4,6),(5,7)],trivial⟩
theorem Qf{W:World}(hG:af W) (n:Nat):GG W (267,Of n) :=
 ac mixed ah Tryz.func267 (Dl n) (Tx n) (Td n) ⟨QA hG n,JA hG n,P7 hG n,xj hG n,Jz hG n,trivial⟩ ⟨DZ hG n n,trivial⟩ (CH 1 (fun i hi=>match i,hi with|0,_=>nw n (my n (aq n n)) (aq n) (wl n)) (PB n)) (Ro n)
theorem PC (n:Nat):fG (KD n) (ag Tryz.f231) (SW n):=⟨mY (tD n) [(5,4)],trivial⟩
theorem Jt{W:World}(hG:af W) (n:Nat):GG W (231,Kq n) :=
 ac mixed ah Tryz.func231 (KD n) (TM n) [] ⟨E9 hG n,trivial⟩ trivial (CH 1 (fun i hi=>match i,hi with|0,_=>nw n (kx n (cu n n)) (cu n) (tO n)) (PC n)) (RB n)
theorem PE (n:Nat):fG (L8 n) (ag Tryz.f226) (SY n):=⟨K7 (wc n),trivial⟩
theorem Mu{W:World}(hG:af W) (n:Nat):GG W (226,LO n) :=
 ac mixed ah Tryz.func226 (L8 n) (TS n) [] ⟨Qf hG n,Jn hG n,Jt hG n,trivial⟩ trivial (Fo (PE n)) (RH n)
theorem QE{W:World}(hG:af W) (n:Nat):GG W (181,OF n) :=
 ac mixed ah Tryz.func181 (Vy n) (Uf n) [] ⟨JB hG n,xk hG n,Qo hG n,Mu hG n,trivial⟩ trivial fC (R4 n)
theorem ME{W:World}(hG:af W) (n:Nat):GG W (156,L0 n) :=
 ac mixed ah Tryz.func156 (Pe n) (Uu n) [] trivial trivial (sZ 1 (fun i hi=>match i,hi with|0,_=>nw n (lG n (bd n n)) (bd n) (u5 n))) (Sj n)
theorem QQ{W:World}(hG:af W) (n:Nat):GG W (126,OR n) :=
 ac mixed ah Tryz.func126 (VQ n) (UH n) [] ⟨v9 hG n,trivial⟩ trivial fC (Sx n)
theorem P6{W:World}(hG:af W) (n:Nat):GG W (290,N5 n) :=
 ac mixed ah Tryz.func290 (U2 n) (Tk n) [] trivial trivial fC (Rb n)
theorem Pz (n:Nat):fG (L6 n) (ag Tryz.f292) (ST n):=⟨mY (tL n) [(3,8)],trivial⟩
theorem P5{W:World}(hG:af W) (n:Nat):GG W (292,N4 n) :=
 ac mixed ah Tryz.func292 (L6 n) (Ti n) [] ⟨Jv hG n,trivial⟩ trivial (Fo (Pz n)) (Q9 n)
theorem Jo{W:World}(hG:af W) (n k:Nat) (ih:GG W (268,Is n k)):GG W (291,LI n k) :=
 ac mixed ah Tryz.func291 (U1 n k) (Tj n k) [] ⟨Mq hG n,ih,trivial⟩ trivial fC (Ra n k)
theorem PA (n k:Nat):fG (L7 n k) (ag Tryz.f268) (SU n k):=⟨mY (uT n k) [(6,8)],trivial⟩
theorem Jq{W:World}(hG:af W) (n:Nat):∀k,GG W (268,Is n k)
 |0=>⟨eO Tryz.func268 (by kernel_rfl) (by kernel_rfl),fun _ _ _ _ _ _ _ h=>by cases h⟩
 |k+1 =>
  have ih:=Jq hG n k
  ac mixed ah Tryz.func268 (L7 n k) (Tw n k) [] ⟨ME hG n,Mx hG n,QQ hG n,xj hG n,ih,P6 hG n,Jo hG n k ih,P5 hG n,Mw hG n,xi hG n,trivial⟩ trivial (Fo (PA n k)) (Rn n k)
theorem XU{W:World}(hG:af W) (n k:Nat):GG W (291,LI n k):=Jo hG n k (Jq hG n k)
theorem Qn{W:World}(hG:af W) (n:Nat):GG W (227,On n) :=
 ac mixed ah Tryz.func227 (Vo n) (TR n) [] ⟨JC hG n,E8 hG n,PU hG n,Jq hG n n,trivial⟩ trivial fC (RG n)
theorem Py (n k:Nat):fG (L5 n k) (ag Tryz.f293) (SS n k):=⟨mY (se n k) [(8,10)],trivial⟩
theorem Mo{W:World}(hG:af W) (n:Nat):∀k,GG W (293,LH n k)
 |0=>⟨eO Tryz.func293 (by kernel_rfl) (by kernel_rfl),fun _ _ _ _ _ _ _ h=>by cases h⟩
 |k+1 =>
  have ih:=Mo hG n k
  ac mixed ah Tryz.func293 (L5 n k) (Th n k) (Tc n k) ⟨ih,trivial⟩ ⟨DZ hG n n,trivial⟩ (Fo (Py n k)) (Q8 n k)
theorem Qe{W:World}(hG:af W) (n:Nat):GG W (269,Oe n) :=
 ac mixed ah Tryz.func269 (Vb n) (Tv n) [] ⟨Mo hG n n,trivial⟩ trivial fC (Rm n)
theorem PD (n:Nat):fG (Dm n) (ag Tryz.f228) (SX n):=⟨mY (tJ n) [(2,6),(3,7)],mY (tI n) [],mY (tH n) [(2,6),(3,7)],mY (tG n) [(2,6),(3,7)],mY (sd n) [(2,6),(3,7)],trivial⟩
theorem Qm{W:World}(hG:af W) (n:Nat):GG W (228,Om n) :=
 ac mixed ah Tryz.func228 (Dm n) (TQ n) [] ⟨Cn hG n,JA hG n,Jz hG n,Qe hG n,trivial⟩ trivial (Fo (PD n)) (RF n)
theorem PJ (n:Nat):fG (Mb n) (ag Tryz.f182) (S3 n):=⟨mY (tB n) [(15,10),(16,11)],trivial⟩
theorem QD{W:World}(hG:af W) (n:Nat):GG W (182,OE n) :=
 ac mixed ah Tryz.func182 (Mb n) (Ue n) [] ⟨v9 hG n,Qn hG n,Qm hG n,Mu hG n,trivial⟩ trivial (Fo (PJ n)) (R3 n)
theorem PI (n:Nat):fG (IC n) (ag Tryz.f183) (S2 n):=⟨mY (r0 n) [(11,9)],trivial⟩
theorem QC{W:World}(hG:af W) (n:Nat):GG W (183,OD n) :=
 ac mixed ah Tryz.func183 (IC n) (Ud n) [] ⟨xk hG n,Jn hG n,Mt hG n,Jy hG n,Ms hG n,E9 hG n,xj hG n,Jt hG n,trivial⟩ trivial (CH 2 (fun i hi=>match i,hi with|0,_=>nw n (kA n (bS n n)) (bS n) (tP n)|1,_=>nw n (jQ n (bV n n)) (bV n) (si n)) (PI n)) (R1 n)
theorem PH (n:Nat):fG (Ma n) (ag Tryz.f184) (S1 n):=⟨K7 (tC n),trivial⟩
theorem QB{W:World}(hG:af W) (n:Nat):GG W (184,OC n) :=
 ac mixed ah Tryz.func184 (Ma n) (Uc n) [] ⟨v9 hG n,Jn hG n,E9 hG n,Jt hG n,trivial⟩ trivial (Fo (PH n)) (R0 n)
theorem QL{W:World}(hG:af W) (n:Nat):GG W (148,OM n) :=
 ac mixed ah Tryz.func148 (VJ n) (Uw n) [] ⟨QE hG n,QD hG n,QC hG n,QB hG n,trivial⟩ trivial fC (Sl n)
theorem PP (n:Nat):fG (Me n) (ag Tryz.f107) (Ta n):=⟨Nq (tM n),trivial⟩
theorem QW{W:World}(hG:af W) (n:Nat):GG W (107,OY n) :=
 ac mixed ah Tryz.func107 (Me n) (UV n) [] ⟨P3 hG n,PY hG n,QK hG n,QL hG n,trivial⟩ trivial (Fo (PP n)) (SL n)
theorem P1{W:World}(hG:af W) (n:Nat):GG W (54,We n) :=
 ac mixed ah Tryz.func54 (Wl n) (Yv n) [] ⟨QX hG n,yv hG n,Ny hG n,QW hG n,trivial⟩ trivial (sZ 2 (fun i hi=>match i,hi with|0,_=>nw n (ij n (bj n n)) (bj n) (p7 n)|1,_=>nw n (gG n (bn n n)) (bn n) (pv n))) (Xe n)
theorem P0{W:World}(hG:af W) (n:Nat):GG W (58,Wd n) :=
 ac mixed ah Tryz.func58 (YS n) (Yr n) [] ⟨yv hG n,trivial⟩ trivial fC (Xa n)
theorem WF{W:World}(hG:af W) (n:Nat):GG W (55,XB n) :=
 ac mixed ah Tryz.func55 (YU n) (Yu n) [] ⟨yv hG n,P0 hG n,Fa hG n,trivial⟩ trivial fC (Xd n)
theorem WJ{W:World}(hG:af W) (n:Nat):GG W (21,XF n) :=
 ac mixed ah Tryz.func21 (YW n) (YD n) [] ⟨P2 hG n,P1 hG n,Ny hG n,WF hG n,yv hG n,P0 hG n,trivial⟩ trivial fC (Xm n)
theorem WE{W:World}(hG:af W) (n:Nat):GG W (59,XA n) :=
 ac mixed ah Tryz.func59 (YR n) (Yq n) [] trivial trivial fC (W9 n)
theorem PZ{W:World}(hG:af W) (n:Nat):GG W (61,Wc n) :=
 ac mixed ah Tryz.func61 (YQ n) (Yp n) [] trivial trivial fC (W8 n)
theorem Qp{W:World}(hG:af W) (n:Nat):GG W (22,Wh n) :=
 ac mixed ah Tryz.func22 (XS n) (YC n) [] ⟨WE hG n,WD hG,PZ hG n,yu hG n,Nx hG,trivial⟩ trivial (sZ 1 (fun i hi=>match i,hi with|0,_=>nw n (jZ n (bv n n)) (bv n) (ss n))) (Xl n)
theorem PX{W:World}(hG:af W) (n:Nat):GG W (66,V9 n) :=
 ac mixed ah Tryz.func66 (YM n) (Yl n) [] trivial trivial fC (W4 n)
theorem Nz{W:World}(hG:af W) (n:Nat):GG W (23,SR n) :=
 ac mixed ah Tryz.func23 (XR n) (YB n) [] ⟨PY hG n,v9 hG n,PX hG n,PW hG n,trivial⟩ trivial (sZ 1 (fun i hi=>match i,hi with|0,_=>nw n (jY n (bH n n)) (bH n) (sr n))) (Xk n)
theorem WC{W:World}(hG:af W) (n:Nat):GG W (69,Xy n) :=
 ac mixed ah Tryz.func69 (XN n) (Yj n) [] ⟨PZ hG n,trivial⟩ trivial (sZ 1 (fun i hi=>match i,hi with|0,_=>nw n (il n (ay n n)) (ay n) (p8 n))) (W2 n)
theorem WA{W:World}(hG:af W) (n:Nat):GG W (71,Xx n) :=
 ac mixed ah Tryz.func71 (YL n) (Yi n) [] ⟨MH hG,Nx hG,yu hG n,trivial⟩ trivial fC (W1 n)
theorem Wt (n:Nat):fG (Vl n) (ag Tryz.f24) (X7 n):=⟨K7 (p5 n),trivial⟩
theorem WI{W:World}(hG:af W) (n:Nat):GG W (24,XE n) :=
 ac mixed ah Tryz.func24 (Vl n) (YA n) [] ⟨PV hG,WC hG n,WA hG n,Qp hG n,WB hG,trivial⟩ trivial (CH 1 (fun i hi=>match i,hi with|0,_=>nw n (ip n (am n n)) (am n) (p9 n)) (Wt n)) (Xj n)
theorem PO (n:Nat):fG (KE n) (ag Tryz.f116) (S9 n):=⟨Nr (uN n) [(0,[0]),(25,[0])],Nr (uM n) [(0,[0]),(40,[0])],trivial⟩
theorem QU{W:World}(hG:af W) (n:Nat):GG W (116,OV n) :=
 ac mixed ah Tryz.func116 (KE n) (UR n) [] ⟨yv hG n,Fa hG n,JD hG n,trivial⟩ trivial (Fo (PO n)) (SH n)
theorem Wz{W:World}(hG:af W) (n:Nat):GG W (72,Xw n) :=
 ac mixed ah Tryz.func72 (YK n) (Yh n) [] ⟨yv hG n,Fa hG n,Nw hG n,QU hG n,P3 hG n,Ny hG n,Nz hG n,trivial⟩ trivial fC (W0 n)
theorem WH{W:World}(hG:af W) (n:Nat):GG W (25,XD n) :=
 ac mixed ah Tryz.func25 (YV n) (Yz n) [] ⟨P2 hG n,P1 hG n,Wz hG n,Nw hG n,yv hG n,trivial⟩ trivial fC (Xi n)
theorem QT{W:World}(hG:af W) (n:Nat):GG W (117,OU n) :=
 ac mixed ah Tryz.func117 (VV n) (UQ n) [] ⟨ME hG n,trivial⟩ trivial fC (SG n)
theorem Wy{W:World}(hG:af W) (n:Nat):GG W (74,Xv n) :=
 ac mixed ah Tryz.func74 (XM n) (Yf n) [] ⟨QT hG n,trivial⟩ trivial (sZ 1 (fun i hi=>match i,hi with|0,_=>nw n (ku n (ak n n)) (ak n) (tN n))) (WY n)
theorem WG{W:World}(hG:af W) (n:Nat):GG W (26,XC n) :=
 ac mixed ah Tryz.func26 (XQ n) (Yy n) [] ⟨PX hG n,Wy hG n,Nz hG n,trivial⟩ trivial (sZ 1 (fun i hi=>match i,hi with|0,_=>nw n (iT n (ae n n)) (ae n) (qZ n))) (Xh n)
theorem Y6{W:World}(hG:af W) (n:Nat):GG W (6,S6 n) :=
 ac mixed ah Tryz.func6 (E6 n) (G6 n) [] ⟨WK hG n,WJ hG n,Qp hG n,Nz hG n,WI hG n,WH hG n,WG hG n,trivial⟩ trivial fC (Y8 n)
end AM
end Go.Proofs.YtobpcllkonomlabGreatDoor
