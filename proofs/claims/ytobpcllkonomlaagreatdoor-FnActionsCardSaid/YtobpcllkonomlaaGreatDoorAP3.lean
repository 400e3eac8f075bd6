/- What is drawn: numbers, nodes, pools. Under: the drawn bytes are no longer than memory. And what follows it: see the remarks. -/
import Derived.Test.YtobpcllkonomlaaGreatDoorAP2
namespace Go.Proofs.YtobpcllkonomlaaGreatDoor
namespace AM
open Go
set_option linter.unusedVariables false
set_option linter.unusedSimpArgs false
theorem II (a:Int):0≤bits .and .i64 a 255∧bits .and .i64 a 255≤255:=by
 have h:((BitVec.ofInt 64 a) &&& (BitVec.ofInt 64 255)).toNat≤255:=by
  rw[BitVec.toNat_and]
  exact Nat.and_le_right
 have e:bits .and .i64 a 255=IntKind.i64.wrap (((BitVec.ofInt 64 a) &&& (BitVec.ofInt 64 255)).toNat:Int):=rfl
 rw[e,ao (by omega) (by omega)]
 omega
def Cu (b:List Int) (i:Int):Prop:=0≤i∧b.length≤4294967296
theorem tO (n:Nat){b:List Int}{i:Int}(h:Int) (hc:Cu b i):∃i' h' v,eL n (b,i,h)=some (b,i',h',v)∧Cu b i'∧0≤v∧v≤255:=by
 obtain⟨h0,h1⟩:=hc
 unfold eL
 dsimp only
 rw[decide_eq_true (show(0:Int)≤33 by decide),decide_eq_true (show(0:Int)≤45 by decide),cond_true,cond_true]
 by_cases hl:i<(b.length:Int)
 ·have e:i=((i.toNat:Nat):Int):=by omega
  have hin:bH i b.length=true:=by rw[e];exact aH (by omega)
  rw[decide_eq_true hl,hin,cond_true,cond_true,ao (n:=i+1) (by omega) (by omega)]
  exact⟨_,_,_,rfl,⟨by omega,h1⟩,II _⟩
 ·rw[decide_eq_false hl,cond_false]
  exact⟨_,_,_,rfl,⟨h0,h1⟩,II _⟩
theorem zB{x k:Int}(hx:0≤x) (hk:0<k):0≤x.tmod k∧x.tmod k<k:=by
 rw[Int.tmod_eq_emod_of_nonneg hx]
 exact⟨Int.emod_nonneg _ (by omega),Int.emod_lt_of_pos _ hk⟩
def WG (k v:Int):Prop:=(k≤0∧v=0)∨(0≤v∧v<k)
theorem dF (n:Nat){b:List Int}{i:Int}(h k:Int) (hc:Cu b i):∃i' h' v,aE n (b,i,h,k)=some (b,i',h',v)∧Cu b i'∧WG k v:=by
 unfold aE
 dsimp only
 by_cases h0:k≤0
 ·rw[decide_eq_true h0,cond_true]
  exact⟨_,_,_,rfl,hc, .inl ⟨h0,rfl⟩⟩
 ·have hk:(k != 0)=true:=by rw[bne_iff_ne];omega
  rw[decide_eq_false h0,cond_false]
  by_cases h1:k≤256
  ·rw[decide_eq_true h1,cond_true]
   obtain⟨i1,h1,v1,e1,c1,q1,q2⟩:=tO n h hc
   rw[e1,Option.bind_some]
   dsimp only
   rw[hk,cond_true]
   exact⟨_,_,_,rfl,c1, .inr (zB q1 (by omega))⟩
  ·rw[decide_eq_false h1,cond_false]
   obtain⟨i1,h1,v1,e1,c1,p1,q1⟩:=tO n h hc
   rw[e1,Option.bind_some]
   dsimp only
   obtain⟨i2,h2,v2,e2,c2,p2,q2⟩:=tO n h1 c1
   rw[e2,Option.bind_some]
   dsimp only
   obtain⟨i3,h3,v3,e3,c3,p3,q3⟩:=tO n h2 c2
   rw[e3,Option.bind_some]
   dsimp only
   obtain⟨i4,h4,v4,e4,c4,p4,q4⟩:=tO n h3 c3
   rw[e4,Option.bind_some]
   dsimp only
   rw[hk,cond_true]
   have w1:IntKind.i64.wrap (v1*16777216)=v1*16777216:=ao (by omega) (by omega)
   have w2:IntKind.i64.wrap (v2*65536)=v2*65536:=ao (by omega) (by omega)
   have w3:IntKind.i64.wrap (v3*256)=v3*256:=ao (by omega) (by omega)
   have w4:IntKind.i64.wrap (v1*16777216+v2*65536)=v1*16777216+v2*65536:=ao (by omega) (by omega)
   have w5:IntKind.i64.wrap (v1*16777216+v2*65536+v3*256)=v1*16777216+v2*65536+v3*256:=ao (by omega) (by omega)
   have w6:IntKind.i64.wrap (v1*16777216+v2*65536+v3*256+v4)=v1*16777216+v2*65536+v3*256+v4:=ao (by omega) (by omega)
   rw[w1,w2,w3,w4,w5,w6]
   exact⟨_,_,_,rfl,c4, .inr (zB (by omega) (by omega))⟩
theorem lK (n:Nat){b:List Int}{i:Int}(h k:Int) (hc:Cu b i):∃i' h' v,bj n (b,i,h,k)=some (b,i',h',v)∧Cu b i':=by
 unfold bj
 dsimp only
 obtain⟨i1,h1,v1,e1,c1,_⟩:=dF n h k hc
 rw[e1,Option.bind_some]
 exact⟨_,_,_,rfl,c1⟩
theorem rD (n:Nat){b:List Int}{i:Int}(h:Int) (l:List Int) (hl:l≠[]) (hc:Cu b i):∃i' h' v,cO n (b,i,h,l)=some (b,i',h',v)∧Cu b i'∧v∈l:=by
 unfold cO
 dsimp only
 obtain⟨i1,h1,v1,e1,c1,hb⟩:=dF n h (l.length:Int) hc
 have hpos:0<l.length:=List.length_pos_iff.2 hl
 rw[e1,Option.bind_some]
 dsimp only
 have hv:0≤v1∧v1<(l.length:Int):=by
  rcases hb with⟨q,_⟩|q
  ·omega
  ·exact q
 have e:v1=((v1.toNat:Nat):Int):=by omega
 have hin:bH v1 l.length=true:=by rw[e];exact aH (by omega)
 rw[hin,cond_true]
 refine⟨_,_,_,rfl,c1,?_⟩
 rw[List.getD_eq_getElem?_getD,List.getElem?_eq_getElem (by omega),Option.getD_some]
 exact List.getElem_mem _
theorem qH (n:Nat){b:List Int}{i:Int}(h:Int){k:Int}(hk:k≤4294967296) (hc:Cu b i):∃i' h' v,cD n (b,i,h,k)=some (b,i',h',v)∧Cu b i'∧WG k v:=by
 unfold cD
 dsimp only
 by_cases h6:k>6
 ·rw[decide_eq_true h6,cond_true]
  obtain⟨i1,h1,v1,e1,c1⟩:=lK n h 2 hc
  rw[e1,Option.bind_some]
  dsimp only
  cases v1 with
  |true =>
   rw[cond_true]
   obtain⟨i2,h2,v2,e2,c2,b2⟩:=dF n h1 6 c1
   rw[e2,Option.bind_some]
   dsimp only
   have hv:0≤v2∧v2<6:=by
    rcases b2 with⟨q,_⟩|q
    ·omega
    ·exact q
   rw[ao (n:=k-1) (by omega) (by omega),ao (n:=k-1-v2) (by omega) (by omega)]
   exact⟨_,_,_,rfl,c2, .inr ⟨by omega,by omega⟩⟩
  |false =>
   rw[cond_false]
   obtain⟨i2,h2,v2,e2,c2,b2⟩:=dF n h1 k c1
   rw[e2,Option.bind_some]
   exact⟨_,_,_,rfl,c2,b2⟩
 ·rw[decide_eq_false h6,cond_false]
  obtain⟨i2,h2,v2,e2,c2,b2⟩:=dF n h k hc
  rw[e2,Option.bind_some]
  exact⟨_,_,_,rfl,c2,b2⟩
theorem GO (n:Nat) (k:Int):∃v,gV n k=some v:=by
 unfold gV
 cases(k==1)<;>cases(k==5)<;>cases(k==7)<;>cases(k==2)<;>cases(k==3)<;>cases(k==4)<;>cases(k==6)<;>cases(k==8)<;>exact⟨_,rfl⟩
theorem Cf (n:Nat){b:List Int}{i:Int}(h:Int){k:Int}(hk:k≤4294967296) (hc:Cu b i):∃i' h' kd x y,ga n (b,i,h,k)=some (b,i',h',kd,x,y)∧Cu b i':=by
 unfold ga
 dsimp only
 cases(k==0)with
 |true =>
  rw[cond_true]
  obtain⟨i1,h1,v1,e1,c1,_⟩:=rD n h [(0:Int),(1:Int),(5:Int),(6:Int),(50:Int),(51:Int),(62:Int),(90:Int),(91:Int),(100:Int),(101:Int),(102:Int),(199:Int)] (by simp) hc
  rw[e1,Option.bind_some]
  exact⟨_,_,_,_,_,rfl,c1⟩
 |false =>
  rw[cond_false]
  obtain⟨i1,h1,v1,e1,c1⟩:=lK n h 4 hc
  rw[e1,Option.bind_some]
  dsimp only
  cases v1 with
  |true =>
   rw[cond_true]
   obtain⟨i2,h2,v2,e2,c2,_⟩:=rD n h1 [(0:Int),(1:Int),(5:Int),(6:Int),(50:Int),(51:Int),(62:Int),(90:Int),(91:Int),(100:Int),(101:Int),(102:Int),(199:Int)] (by simp) c1
   rw[e2,Option.bind_some]
   exact⟨_,_,_,_,_,rfl,c2⟩
  |false =>
   rw[cond_false]
   obtain⟨i2,h2,v2,e2,c2,_⟩:=qH n h1 (k:=7) (by decide) c1
   rw[e2,Option.bind_some]
   dsimp only
   obtain⟨i3,h3,v3,e3,c3,_⟩:=qH n h2 hk c2
   rw[e3,Option.bind_some]
   dsimp only
   obtain⟨u,hu⟩:=GO n (IntKind.i64.wrap ((2:Int)+v2))
   rw[hu,Option.bind_some]
   cases(u==2)with
   |true =>
    rw[cond_true]
    obtain⟨i4,h4,v4,e4,c4,_⟩:=qH n h3 hk c3
    rw[e4,Option.bind_some]
    exact⟨_,_,_,_,_,rfl,c4⟩
   |false=>exact⟨_,_,_,_,_,rfl,c3⟩
theorem IJ{xs:List af}(hp:ay xs=true) (kd a b:Int):∃ys t,bN N0 (xs,kd,a,b)=some (ys,t)∧ay ys=true∧ys.length≤xs.length+1∧xs.length≤ys.length:=by
 rw[c7 hp]
 cases h:d6 xs kd a b with
 |none=>exact⟨xs, -1,rfl,hp,by omega,by omega⟩
 |some r =>
  obtain⟨⟨g1,_,zs,g2⟩,_⟩:=DB hp (show d6 xs kd a b=some (r.1,r.2)from h)
  refine⟨r.1,r.2,rfl,g1,?_,by rw[g2];simp⟩
  have h:xw xs (mU kd a b)=some r:=h
  unfold xw at h
  cases q:fJ N0 ((mU kd a b).1,(mU kd a b).2.1,(mU kd a b).2.2,(xs.length:Int))with
  |false=>rw[q]at h;cases h
  |true =>
   rw[q,cond_true]at h
   cases hf:rd xs (mU kd a b)with
   |some j=>rw[hf]at h;obtain rfl:=Option.some.inj h;simp
   |none =>
    rw[hf]at h
    dsimp only at h
    by_cases hq:500≤xs.length
    ·rw[if_pos hq]at h;cases h
    ·rw[if_neg hq]at h;obtain rfl:=Option.some.inj h;simp
theorem ru{b:List Int}:∀(m:Nat) (i h:Int) (l0 xs:List af) (k j:Nat),Cu b i→ay xs=true→k<m+j→j≤k→k≤1000 →
  ∃i' h' ys,bu N0 m (b,i,h,l0,xs,(k:Int),(j:Int))=some (b,i',h',l0,ys)∧Cu b i'∧ay ys=true∧ys.length≤xs.length+(k-j)
 |0,i,h,l0,xs,k,j,hc,hp,hm,hj,hk=>by omega
 |m+1,i,h,l0,xs,k,j,hc,hp,hm,hj,hk=>by
  unfold bu
  dsimp only
  by_cases hq:j<k
  ·rw[decide_eq_true (show(j:Int)<(k:Int)by omega),cond_true]
   unfold fN
   dsimp only
   have hl:=ax hp
   obtain⟨i1,h1,kd,x,y,e1,c1⟩:=Cf N0 h (k:=(xs.length:Int)) (by omega) hc
   rw[e1,Option.bind_some]
   dsimp only
   obtain⟨ys,t,e2,p2,l2,_⟩:=IJ hp kd x y
   rw[e2,Option.bind_some,Option.bind_some]
   dsimp only
   rw[ao (n:=(j:Int)+1) (by omega) (by omega),show(j:Int)+1=((j+1:Nat):Int)by omega]
   obtain⟨i3,h3,zs,e3,c3,p3,l3⟩:=ru m i1 h1 l0 ys k (j+1) c1 p2 (by omega) (by omega) hk
   exact⟨i3,h3,zs,e3,c3,p3,by omega⟩
  ·rw[decide_eq_false (show ¬(j:Int)<(k:Int)by omega),cond_false]
   exact⟨i,h,xs,rfl,hc,hp,by omega⟩
theorem Fb:ay []=true:=by
 unfold ay
 rfl
theorem Ce{b:List Int}{i:Int}(h:Int){k:Int}(h0:0≤k) (hk:k≤100) (hc:Cu b i):∃i' h' xs,eG N0 (b,i,h,k)=some (b,i',h',xs)∧Cu b i'∧ay xs=true∧(xs.length:Int)≤k:=by
 unfold eG
 dsimp only
 rw[ao (n:=k+1) (by omega) (by omega)]
 obtain⟨i1,h1,v1,e1,c1,b1⟩:=dF N0 h (k+1) hc
 rw[e1,Option.bind_some]
 dsimp only
 have hv:0≤v1∧v1≤k:=by
  rcases b1 with⟨q,_⟩|q
  ·omega
  ·omega
 obtain⟨v,rfl⟩:=Int.eq_ofNat_of_zero_le hv.1
 have:=n0
 obtain⟨i2,h2,ys,e2,c2,p2,l2⟩:=ru N0 i1 h1 [] [] v 0 c1 Fb (by omega) (Nat.zero_le _) (by omega)
 rw[show((0:Nat):Int)=(0:Int)from rfl]at e2
 rw[e2,Option.bind_some]
 exact⟨_,_,_,rfl,c2,p2,by simp at l2;show(ys.length:Int)≤k;omega⟩
theorem Cc{b:List Int}{i:Int}(h:Int){xs:List af}(hx:xs.length≤4294967296) (hc:Cu b i):∃i' h' t,b9 N0 (b,i,h,xs)=some (b,i',h',t)∧Cu b i'∧(t=-1∨t=(xs.length:Int)∨(0≤t∧t<(max xs.length 1:Nat))):=by
 unfold b9
 dsimp only
 obtain⟨i1,h1,v1,e1,c1⟩:=lK N0 h 25 hc
 rw[e1,Option.bind_some]
 dsimp only
 cases v1 with
 |true =>
  rw[cond_true]
  obtain⟨i2,h2,v2,e2,c2,m2⟩:=rD N0 h1 [(-1:Int),(xs.length:Int)] (by simp) c1
  rw[e2,Option.bind_some]
  refine⟨_,_,_,rfl,c2,?_⟩
  simp at m2
  rcases m2 with q|q
  ·exact .inl q
  ·exact .inr (.inl q)
 |false =>
  rw[cond_false]
  have hm:jd N0 ((xs.length:Int),(1:Int))=some ((max xs.length 1:Nat):Int):=by
   unfold jd
   dsimp only
   by_cases q:(xs.length:Int)>1
   ·rw[decide_eq_true q,cond_true];congr 1;omega
   ·rw[decide_eq_false q,cond_false];congr 1;omega
  rw[hm,Option.bind_some]
  obtain⟨i2,h2,v2,e2,c2,b2⟩:=qH N0 h1 (k:=((max xs.length 1:Nat):Int)) (by omega) c1
  rw[e2,Option.bind_some]
  refine⟨_,_,_,rfl,c2, .inr (.inr ?_)⟩
  rcases b2 with⟨q,_⟩|q
  ·omega
  ·exact q
theorem Bz{b:List Int}(hb:b.length≤4294967296):∀(m:Nat) (h:Int) (j:Nat),4001<m+j→j≤4000→∃h',cL N0 m (b,h,(j:Int))=some (b,h')
 |0,h,j,hm,hj=>by omega
 |m+1,h,j,hm,hj=>by
  unfold cL
  dsimp only
  by_cases h1:j<b.length
  ·rw[decide_eq_true (show(j:Int)<(b.length:Int)by omega),cond_true]
   by_cases h2:j<4000
   ·rw[decide_eq_true (show(j:Int)<4000 by omega),cond_true,aH h1,cond_true,ao (n:=(j:Int)+1) (by omega) (by omega),show(j:Int)+1=((j+1:Nat):Int)by omega]
    exact Bz hb m _ (j+1) (by omega) (by omega)
   ·rw[decide_eq_false (show ¬(j:Int)<4000 by omega),cond_false]
    exact⟨_,rfl⟩
  ·rw[decide_eq_false (show ¬(j:Int)<(b.length:Int)by omega),cond_false]
   exact⟨_,rfl⟩
theorem G9{b:List Int}(hb:b.length≤4294967296):∃h,j0 N0 b=some (false,b,(0:Int),h)∧Cu b 0:=by
 unfold j0
 have:=n0
 obtain⟨h',e⟩:=Bz hb N0 (IntKind.i64.wrap ((12241:Int)+(b.length:Int))) 0 (by omega) (by omega)
 rw[show((0:Nat):Int)=(0:Int)from rfl]at e
 rw[e,Option.bind_some]
 exact⟨_,rfl,by decide,hb⟩
theorem Ia{xs:List af}{ys:List af}{t:Int}{a:Int}(hp:ay xs=true) (h0:0≤a) (h1:a≤199):fJ N0 (1,a,0,(xs.length:Int))=true:=by
 have hr:∀v lo hi:Int,aU N0 (v,lo,hi)=some (decide (v≥lo)&&decide (v≤hi)):=fun v lo hi=>by
  unfold aU
  cases q:decide (v≥lo)<;>(simp[q])
 show(bM N0 (1,a,0,(xs.length:Int))).getD false=true
 unfold bM
 dsimp only
 rw[hr,show ee N0 1=some 0 from rfl]
 simp only[Option.bind_some,beq_self_eq_true,cond_true,decide_eq_true h0,decide_eq_true h1,Bool.and_self]
 rfl
theorem AY (a b:ByteArray):(a++b).size=a.size+b.size:=ByteArray.size_append
theorem rA (l:List Int):(lO l).size=l.length:=by
 show(l.map _).toArray.size=_
 rw[List.size_toArray,List.length_map]
theorem yt:∀(k m:Nat) (x:Int) (s:ByteArray),0≤x→x≤1000000→x<10 ^ k→k<m→s.size+k≤1000→∃r,cq N0 m (x,s)=some r∧r.size≤s.size+k
 |_,0,x,s,_,_,_,h,_=>by omega
 |0,m+1,x,s,h0,hx,h1,hm,hs=>by
  unfold cq
  dsimp only
  rw[decide_eq_false (show ¬x>0 by have:(10:Int) ^ 0=1:=rfl;omega),cond_false]
  exact⟨s,rfl,by omega⟩
 |k+1,m+1,x,s,h0,hx,h1,hm,hs=>by
  unfold cq
  dsimp only
  by_cases hq:x>0
  ·rw[decide_eq_true hq,cond_true,show((10:Int) != 0)=true from rfl,cond_true,CF (by rw[rA,List.length_singleton];omega),cond_true,cond_true]
   have hd:x.tdiv 10=x / 10:=Int.tdiv_eq_ediv_of_nonneg h0
   have h2:x / 10<10 ^ k:=by
    rw[Int.pow_succ]at h1
    omega
   rw[hd,ao (n:=x / 10) (by omega) (by omega)]
   obtain⟨r,e1,e2⟩:=yt k m (x / 10) (lO [(IntKind.u8.wrap (IntKind.i64.wrap ((48:Int)+(x.tmod (10:Int)))))]++s) (by omega) (by omega) h2 (by omega) (by rw[AY,rA,List.length_singleton];omega)
   exact⟨r,e1,by rw[AY,rA,List.length_singleton]at e2;omega⟩
  ·rw[decide_eq_false hq,cond_false]
   exact⟨s,rfl,by omega⟩
theorem Jq (n:Nat){b:List Int}{i:Int}(h:Int) (l:List ByteArray) (k:Nat) (hl:l≠[]) (hk:∀s∈l,s.size≤k) (hc:Cu b i):∃i' h' v,eK n (b,i,h,l)=some (b,i',h',v)∧Cu b i'∧v.size≤k:=by
 unfold eK
 dsimp only
 obtain⟨i1,h1,v1,e1,c1,hb⟩:=dF n h (l.length:Int) hc
 have hpos:0<l.length:=List.length_pos_iff.2 hl
 rw[e1,Option.bind_some]
 dsimp only
 have hv:0≤v1∧v1<(l.length:Int):=by
  rcases hb with⟨q,_⟩|q
  ·omega
  ·exact q
 have e:v1=((v1.toNat:Nat):Int):=by omega
 have hin:bH v1 l.length=true:=by rw[e];exact aH (by omega)
 rw[hin,cond_true]
 refine⟨_,_,_,rfl,c1,hk _ ?_⟩
 rw[List.getD_eq_getElem?_getD,List.getElem?_eq_getElem (by omega),Option.getD_some]
 exact List.getElem_mem _
theorem Lz{l:Int}{n:Nat}(h0:0≤l) (h1:l≤(n:Int)):AG 0 l n=true∧AG l (n:Int) n=true:=⟨decide_eq_true (by omega),decide_eq_true (by omega)⟩
theorem qW{a:List Int}:∀(r pre:List Int) (m:Nat),a=pre++r→a.length≤4294967296→r.length<m→bp N0 m (a,a,(pre.length:Int))=some (Sum.inr ())
 |_,_,0,_,_,h=>by omega
 |[],pre,m+1,h,hl,hm=>by
  subst h
  unfold bp
  dsimp only
  rw[C7,cond_false]
 |v::r,pre,m+1,h,hl,hm=>by
  have hl2:pre.length+(r.length+1)≤4294967296:=by rw[h]at hl;simpa using hl
  unfold bp
  dsimp only
  have e1:=C6 pre r v
  have e2:=Da pre r v
  rw[←h]at e1 e2
  rw[e1,cond_true,e2,cond_true,cond_true,bne_self_eq_false,cond_false,ao (n:=(pre.length:Int)+1) (by omega) (by omega), ←Ab pre v]
  exact qW r (pre++[v]) m (by rw[h,AC]) hl (by simp at hm;omega)
theorem iJ{a:List Int}(ha:a.length≤4294967296):dn N0 (a,a)=some true:=by
 unfold dn
 have:=n0
 have e:=qW a [] N0 rfl ha (by omega)
 have e:bp N0 N0 (a,a,(0:Int))=some (Sum.inr ()):=e
 dsimp only
 rw[bne_self_eq_false,cond_false,e]
 rfl
theorem Ib{xs:List af}(hp:ay xs=true) (hl:xs.length<490){v:Int}(h0:0≤v) (h1:v≤199):∃ys t,ci N0 (xs,v)=some (ys,t)∧d6 xs 1 v 0=some (ys,t)∧ys.length≤xs.length+1:=by
 have hn:=Ia (ys:=[]) (t:=0) hp h0 h1
 have ha:∃ys t,d6 xs 1 v 0=some (ys,t)∧ys.length≤xs.length+1:=by
  show ∃ys t,xw xs (1,v,0)=some (ys,t)∧_
  unfold xw
  dsimp only
  rw[hn,cond_true]
  cases hf:rd xs (1,v,0)with
  |some j=>exact⟨_,_,rfl,by omega⟩
  |none =>
   dsimp only
   rw[if_neg (by omega)]
   exact⟨_,_,rfl,by simp⟩
 obtain⟨ys,t,e,l⟩:=ha
 refine⟨ys,t,?_,e,l⟩
 unfold ci
 dsimp only
 rw[c7 hp,e];rfl
theorem A4 {α:Type}{xs:List α}(h:xs.length≤1000000){k:α}:dN (xs.length+[k].length)=true:=by
 unfold dN
 simp
 omega
def FE (t:Int):List Int→List Int
 |[]=>[t]
 |v::r=>if v<t then v::FE t r else t::v::r
def oU (v:Int):Bool→List Int→List Int×Bool
 |b,[]=>([],b)
 |true,x::r=>(x::r,true)
 |false,x::r=>if v<x then(v::x::r,true)else(x::(oU v false r).1,(oU v false r).2)
theorem CP (v:Int) (r:List Int):oU v true r=(r,true):=by cases r<;>rfl
theorem yg (v:Int):∀(r pre out:List Int) (b:Bool) (m:Nat),r.length<m→pre.length+r.length≤1000→out.length+2*r.length≤100000→aQ N0 m (pre++r,v,out,b,(pre.length:Int))=some (v,out++(oU v b r).1,(oU v b r).2)
 |[],pre,out,b,m,hm,hl,ho=>by
  obtain⟨i,rfl⟩:∃i,m=i+1:=⟨m-1,by omega⟩
  rw[aQ]
  dsimp only
  rw[C7,cond_false]
  cases b<;>simp[oU]
 |x::r,pre,out,b,m,hm,hl,ho=>by
  obtain⟨i,rfl⟩:∃i,m=i+1:=⟨m-1,by omega⟩
  have hl':pre.length+(r.length+1)≤1000:=hl
  have hm':r.length+1<i+1:=hm
  have w:IntKind.i64.wrap ((pre.length:Int)+1)=((pre++[x]).length:Int):=by rw[ao (by omega) (by omega),Ab]
  have ho2:out.length+2*(r.length+1)≤100000:=ho
  have go:∀out' b',out'.length+2*r.length≤100000→aQ N0 i (pre++x::r,v,out',b',((pre++[x]).length:Int))=some (v,out'++(oU v b' r).1,(oU v b' r).2):=fun out' b' ho'=>by
   rw[AC]
   exact yg v r (pre++[x]) out' b' i (by omega) (by simp;omega) ho'
  rw[aQ]
  dsimp only
  rw[C6,cond_true,Da,Int.toNat_natCast,An]
  simp only[cond_true,w]
  cases b with
  |true =>
   simp only[Bool.not_true,cond_false,A4 (show out.length≤1000000 by omega),cond_true]
   rw[go _ _ (by simp;omega)]
   simp[oU,CP]
  |false =>
   simp only[Bool.not_false,cond_true]
   by_cases hx:v<x
   ·simp only[decide_eq_true (show x>v from hx),cond_true,A4 (show out.length≤1000000 by omega),A4 (show(out++[v]).length≤1000000 by simp;omega)]
    rw[go _ _ (by simp;omega),oU,if_pos hx,CP]
    simp
   ·simp only[decide_eq_false (show ¬x>v from hx),cond_false,cond_true,A4 (show out.length≤1000000 by omega)]
    rw[go _ _ (by simp;omega),oU,if_neg hx]
    simp
theorem Be (v:Int):∀{r:List Int},v∉r→(bif (oU v false r).2 then(oU v false r).1 else(oU v false r).1++[v])=FE v r
 |[],_=>rfl
 |x::r,h=>by
  rw[oU,FE]
  by_cases hx:v<x
  ·rw[if_pos hx,if_neg (by omega)];rfl
  ·have hne:v≠x:=fun q=>h (q▸List.mem_cons_self ..)
   rw[if_neg hx,if_pos (by omega), ←Be v (fun q=>h (List.mem_cons_of_mem _ q))]
   dsimp only
   cases(oU v false r).2<;>rfl
theorem wU (v:Int):∀(r:List Int),(FE v r).length=r.length+1
 |[]=>rfl
 |x::r=>by
  rw[FE]
  split
  ·rw[List.length_cons,wU v r,List.length_cons]
  ·rfl
theorem FF{l:List Int}{v:Int}:yT l v=l.contains v:=by
 rw[Bool.eq_iff_iff,List.contains_iff_mem,yS,List.mem_iff_getElem]
 constructor
 ·rintro ⟨j,hj,e⟩
  exact⟨j,hj,by rw[←e];simp[List.getD_eq_getElem?_getD,hj]⟩
 ·rintro ⟨j,hj,e⟩
  exact⟨j,hj,by rw[←e];simp[List.getD_eq_getElem?_getD,hj]⟩
def GL (kn:List Int) (v:Int):List Int:=bif kn.contains v then kn else FE v kn
theorem GK (kn:List Int) (v:Int):(GL kn v).length≤kn.length+1:=by
 unfold GL
 cases kn.contains v with
 |true=>exact Nat.le_succ _
 |false=>exact Nat.le_of_eq (wU v kn)
theorem Jn{kn:List Int}(hl:kn.length≤900) (v:Int):gO N0 (kn,v)=some (GL kn v):=by
 unfold GL gO
 dsimp only
 rw[wQ (by omega),Option.bind_some,FF]
 have hlp:=yg v kn [] [] (kn.contains v) N0 (by have:=n0;omega) (by simp;omega) (by simp;omega)
 have hlp':aQ N0 N0 (kn,v,([]:List Int),kn.contains v,(0:Int))=_:=hlp
 rw[hlp',Option.bind_some]
 dsimp only
 cases hc:kn.contains v with
 |true =>
  rw[CP]
  rfl
 |false =>
  have hnm:v∉kn:=fun q=>by rw[List.contains_iff_mem.2 q]at hc;cases hc
  have hi:=Be v hnm
  have hil:=wU v kn
  rw[cond_false]
  cases hb:(oU v false kn).2 with
  |true =>
   rw[hb,cond_true]at hi
   rw[←hi];rfl
  |false =>
   rw[hb,cond_false]at hi
   have:(oU v false kn).1.length≤1000000:=by
    have:=congrArg List.length hi
    simp at this
    omega
   simp only[List.nil_append,Bool.not_false,cond_true,A4 this,hi]
def Bd (xs:List af) (kn se go:List Int):Prop:=xs.length≤700∧kn.length≤300∧se.length≤100∧go.length≤100
theorem CE{xs:List af}{kn:List Int}{k t s k2 t2 s2:Int}{se go:List Int}(h:bT xs kn k t s k2 t2 s2 se go=true):Bd xs kn se go:=by
 obtain⟨h1,h2,h3,h4⟩:=mB h
 exact⟨by omega,by omega,by omega,by omega⟩
theorem Ux (n:Nat):i7 n=cr n:=rfl
theorem Mg (n:Nat):gB n=eH n:=rfl
section
variable{xs:List af}{kn:List Int}{k t s k2 t2 s2:Int}{d d2:Bool}{se go:List Int}{act v:Int}{T:ByteArray}
theorem sG (b1:xs.length≤1000) (b2:kn.length≤1000) (b3:se.length≤1000) (b4:go.length≤1000) (hv:bT xs kn k t s k2 t2 s2 se go=false):cr N0 (xs,kn,k,t,s,d,k2,t2,s2,d2,se,go,act,v,T)=some ([],[],(0:Int),(0:Int),(0:Int),false,(0:Int),(0:Int),(0:Int),false,[],[],false):=by
 have sS:=iI (k:=k) (t:=t) (s:=s) (d:=d) (k2:=k2) (t2:=t2) (s2:=s2) (d2:=d2) (show xs.length≤4294967296 by omega) (show kn.length≤4294967296 by omega) (show se.length≤4294967296 by omega) (show go.length≤4294967296 by omega)
 rw[hv]at sS
 unfold cr
 simp only[sS,Option.bind_some,Bool.not_false,cond_true]
theorem Iw (hb:Bd xs kn se go):∃xs' kn' k' t' s' d' k2' t2' s2' d2' se' go' ok,cr N0 (xs,kn,k,t,s,d,k2,t2,s2,d2,se,go,act,v,T)=some (xs',kn',k',t',s',d',k2',t2',s2',d2',se',go',ok)∧(ok=true→Bd xs' kn' se' go'):=by
 obtain⟨b1,b2,b3,b4⟩:=id hb
 cases hv:bT xs kn k t s k2 t2 s2 se go with
 |false=>exact⟨_,_,_,_,_,_,_,_,_,_,_,_,_,sG (by omega) (by omega) (by omega) (by omega) hv,fun q=>by cases q⟩
 |true =>
  obtain⟨xs',kn',k',t',s',d',k2',t2',s2',d2',se',go',ok,_,g2,_,_,_,_,g3⟩:=mT (k:=k) (t:=t) (s:=s) (d:=d) (k2:=k2) (t2:=t2) (s2:=s2) (d2:=d2) (act:=act) (v:=v) (T:=T) (show xs.length≤4294967296 by omega) (show kn.length≤4294967296 by omega) (show se.length≤4294967296 by omega) (show go.length≤4294967296 by omega)
  exact⟨_,_,_,_,_,_,_,_,_,_,_,_,_,g2,fun _=>CE (g3 hv).1⟩
end
theorem rz{b:List Int}{xs:List af}(hx:xs.length≤4294967296){nn:Nat}(hn:nn≤100):∀(c m j:Nat) (i h:Int) (kn:List Int),j+c=nn→c<m→Cu b i→kn.length≤j→∃i' h' kn',bc N0 m (b,i,h,xs,kn,(nn:Int),(j:Int))=some (b,i',h',kn')∧Cu b i'∧kn'.length≤nn
 |0,m,j,i,h,kn,hj,hm,hc,hl=>by
  obtain⟨q,rfl⟩:∃q,m=q+1:=⟨m-1,by omega⟩
  rw[bc]
  dsimp only
  rw[show j=nn by omega,z9,cond_false]
  exact⟨i,h,kn,rfl,hc,by omega⟩
 |c+1,m,j,i,h,kn,hj,hm,hc,hl=>by
  obtain⟨q,rfl⟩:∃q,m=q+1:=⟨m-1,by omega⟩
  rw[bc]
  dsimp only
  rw[z8 (show j<nn by omega),cond_true]
  by_cases hp:(xs.length:Int)>0
  ·rw[decide_eq_true hp,cond_true]
   obtain⟨i1,h1,v,e1,c1,_⟩:=qH N0 h (k:=(xs.length:Int)) (by omega) hc
   have hl2:=GK kn v
   rw[e1,Option.bind_some]
   dsimp only
   rw[Jn (show kn.length≤900 by omega),Option.bind_some,dI (show j<nn by omega) (by omega)]
   exact rz hx hn c q (j+1) i1 h1 (GL kn v) (by omega) (by omega) c1 (by omega)
  ·rw[decide_eq_false hp,cond_false]
   exact⟨i,h,kn,rfl,hc,by omega⟩
theorem Cg{b:List Int}{i:Int}(h:Int){xs:List af}(hx:xs.length≤4294967296) (hc:Cu b i):∃i' h' kn,eF N0 (b,i,h,xs)=some (b,i',h',kn)∧Cu b i'∧kn.length≤8:=by
 obtain⟨i1,h1,v,e1,c1,b1⟩:=dF N0 h 8 hc
 have hv:0≤v∧v<8:=by rcases b1 with⟨q,_⟩|q<;>omega
 obtain⟨nn,rfl⟩:=Int.eq_ofNat_of_zero_le hv.1
 obtain⟨i2,h2,kn,e2,c2,l2⟩:=rz (b:=b) hx (nn:=nn) (by omega) nn N0 0 i1 h1 [] (by omega) (by have:=n0;omega) c1 (Nat.zero_le _)
 have e2':bc N0 N0 (b,i1,h1,xs,([]:List Int),(nn:Int),(0:Int))=_:=e2
 unfold eF
 dsimp only
 rw[e1,Option.bind_some]
 dsimp only
 rw[e2',Option.bind_some]
 have l3:kn.length≤8:=by omega
 exact⟨_,_,_,rfl,c2,l3⟩
theorem sF{xs:List af}{kn:List Int}{key:Int}(hx:xs.length≤600) (hk:kn.length≤200):∃xsA knA kA tA sA dA k2A t2A s2A d2A seA goA ok,fq N0 (xs,kn,key)=some (xsA,knA,kA,tA,sA,dA,k2A,t2A,s2A,d2A,seA,goA,ok)∧Bd xsA knA seA goA:=by
 have sS:=iI (xs:=xs) (kn:=kn) (k:=key) (t:=0) (s:=0) (d:=false) (k2:=key) (t2:=0) (s2:=0) (d2:=false) (se:=[]) (go:=[]) (by omega) (by omega) (by simp) (by simp)
 have sC:=pn (xs:=xs) (kn:=kn) (k:=key) (t:=0) (s:=0) (d:=false) (k2:=key) (t2:=0) (s2:=0) (d2:=false) (se:=[]) (go:=[]) (by omega) (by omega) (by simp) (by simp)
 unfold fq
 dsimp only
 rw[sS,Option.bind_some]
 cases bT xs kn key 0 0 key 0 0 [] []with
 |false=>exact⟨_,_,_,_,_,_,_,_,_,_,_,_,_,rfl,by simp,by simp,by simp,by simp⟩
 |true =>
  rw[Bool.not_true,cond_false,sC,Option.bind_some]
  exact⟨_,_,_,_,_,_,_,_,_,_,_,_,_,rfl,by show xs.length≤700;omega,by show kn.length≤300;omega,by simp,by simp⟩
theorem xg{b:List Int}{i:Int}(h:Int) (hc:Cu b i):∃i' h' xs kn k t s d k2 t2 s2 d2 se go,eH N0 (b,i,h)=some (b,i',h',xs,kn,k,t,s,d,k2,t2,s2,d2,se,go)∧Cu b i'∧Bd xs kn se go:=by
 obtain⟨i1,h1,xs,e1,c1,p1,l1⟩:=Ce h (k:=16) (by omega) (by omega) hc
 obtain⟨i2,h2,kn,e2,c2,l2⟩:=Cg h1 (xs:=xs) (by omega) c1
 obtain⟨ys,u,e3,_,l3⟩:=Ib p1 (show xs.length<490 by omega) (v:=150) (by omega) (by omega)
 obtain⟨i4,h4,o4,e4,c4⟩:=lK N0 h2 9 c2
 unfold eH
 dsimp only
 rw[e1,Option.bind_some]
 dsimp only
 rw[e2,Option.bind_some]
 dsimp only
 rw[e3,Option.bind_some]
 dsimp only
 rw[e4,Option.bind_some]
 dsimp only
 cases o4 with
 |true =>
  obtain⟨i5,h5,v5,e5,c5,_⟩:=qH N0 h4 (k:=(ys.length:Int)) (by omega) c4
  obtain⟨xsA,knA,kA,tA,sA,dA,k2A,t2A,s2A,d2A,seA,goA,ok,e6,b6⟩:=sF (xs:=ys) (kn:=kn) (key:=v5) (by omega) (by omega)
  rw[cond_true,e5,Option.bind_some]
  dsimp only
  rw[e6,Option.bind_some]
  exact⟨_,_,_,_,_,_,_,_,_,_,_,_,_,_,rfl,c5,b6⟩
 |false =>
  obtain⟨xsA,knA,kA,tA,sA,dA,k2A,t2A,s2A,d2A,seA,goA,ok,e6,b6⟩:=sF (xs:=ys) (kn:=kn) (key:=u) (by omega) (by omega)
  rw[cond_false,e6,Option.bind_some]
  exact⟨_,_,_,_,_,_,_,_,_,_,_,_,_,_,rfl,c4,b6⟩
theorem Dh{b:List Int}{i h:Int}{xs:List af}:bO N0 (b,i,h,xs)=(b9 N0 (b,i,h,xs)).map fun r=>(r.1,r.2.1,r.2.2.1,xs,r.2.2.2):=by
 unfold bO b9
 dsimp only
 cases bj N0 (b,i,h,(25:Int))with
 |none=>rfl
 |some r1 =>
  simp only[Option.bind_some]
  cases r1.2.2.2 with
  |true =>
   simp only[cond_true]
   cases cO N0 (r1.1,r1.2.1,r1.2.2.1,[(-1:Int),(xs.length:Int)])<;>rfl
  |false =>
   simp only[cond_false]
   cases jd N0 ((xs.length:Int),(1:Int))with
   |none=>rfl
   |some r3 =>
    simp only[Option.bind_some]
    cases cD N0 (r1.1,r1.2.1,r1.2.2.1,r3)<;>rfl
theorem OK{x:Int}(h0:0≤x) (h1:x≤999):∃r,fL N0 x=some r∧r.size≤100:=by
 unfold fL
 by_cases q:x≤0
 ·rw[decide_eq_true q,cond_true];exact⟨_,rfl,by decide⟩
 ·rw[decide_eq_false q,cond_false]
  obtain⟨r,e,l⟩:=yt 3 N0 x ⟨#[]⟩ (by omega) (by omega) (by omega) (by have:=n0;omega) (by decide)
  rw[e,Option.bind_some]
  exact⟨_,rfl,by have:(ByteArray.mk #[]).size=0:=rfl;omega⟩
def xz:List ByteArray:=[(⟨#[110,55]⟩:ByteArray),(⟨#[40,110,50,48,44,110,53,41]⟩:ByteArray),(⟨#[123,40,110,50,48,44,110,53,41,44,110,55,125]⟩:ByteArray),(⟨#[64,57,57,57]⟩:ByteArray)]
theorem OM{x y:Int}:fM N0 (x,y)=some (if x<y then x else y):=by
 unfold fM
 dsimp only
 by_cases q:x<y
 ·rw[decide_eq_true q,if_pos q];rfl
 ·rw[decide_eq_false q,if_neg q];rfl
theorem EA{b:List Int}{kn:List Int}(hk:kn.length≤900) (i0 h0:Int) (hc:Cu b i0):∃i1 h1 T1,eK N0 (b,i0,h0,xz)=some (b,i1,h1,T1)∧Cu b i1∧∃i2 h2 o2,bj N0 (b,i1,h1,(5:Int))=some (b,i2,h2,o2)∧Cu b i2∧(decide ((kn.length:Int)>(0:Int))=true→∃m i3 h3 u R,fM N0 ((kn.length:Int),(6:Int))=some m∧aE N0 (b,i2,h2,m)=some (b,i3,h3,u)∧Cu b i3∧fL N0 (IntKind.i64.wrap ((IntKind.i64.wrap ((kn.length:Int)-(1:Int)))-u))=some R∧lF (⟨#[64]⟩:ByteArray) R=true):=by
 obtain⟨i1,h1,T1,e1,c1,_⟩:=Jq N0 h0 xz 20 (by decide) (by decide) hc
 obtain⟨i2,h2,o2,e2,c2⟩:=lK N0 h1 5 c1
 refine⟨i1,h1,T1,e1,c1,i2,h2,o2,e2,c2,fun q=>?_⟩
 have q:=of_decide_eq_true q
 obtain⟨i3,h3,u,e3,c3,b3⟩:=dF N0 h2 (if(kn.length:Int)<6 then(kn.length:Int)else 6) c2
 have hu:0≤u∧u≤(kn.length:Int)-1:=by
  rcases b3 with⟨q1,_⟩|⟨q1,q2⟩
  ·split at q1<;>omega
  ·split at q2<;>omega
 obtain⟨R,e4,l4⟩:=OK (x:=(kn.length:Int)-1-u) (by omega) (by omega)
 refine⟨_,i3,h3,u,R,OM,e3,c3,?_,?_⟩
 ·rw[ao (show -9223372036854775808≤(kn.length:Int)-1 by omega) (by omega),ao (by omega) (by omega)]
  exact e4
 ·unfold lF
  refine decide_eq_true ?_
  have:(ByteArray.mk #[64]).size=1:=rfl
  omega
theorem ng{b:List Int}{i:Int}(h:Int){xs:List af}{kn:List Int}{k:Int}{t:Int}{s:Int}{d:Bool}{k2:Int}{t2:Int}{s2:Int}{d2:Bool}{se:List Int}{go:List Int}(hx:xs.length≤1000) (hk9:kn.length≤900) (hc:Cu b i):∃i' h' a v T,c6 N0 (b,i,h,xs,kn,k,t,s,d,k2,t2,s2,d2,se,go)=some (b,i',h',a,v,T)∧dx N0 (b,i,h,xs,kn,k,t,s,d,k2,t2,s2,d2,se,go)=some (b,i',h',xs,kn,k,t,s,d,k2,t2,s2,d2,se,go,a,v,T)∧Cu b i':=by
 obtain⟨i1,h1,v1,e1,c1,_⟩:=dF N0 h 12 hc
 obtain⟨i2,h2,o2,e2,c2⟩:=lK N0 h1 3 c1
 obtain⟨j1,g1,w1,f1,d1,_⟩:=Cc h1 (xs:=xs) (by omega) c1
 have f1o:bO N0 (b,i1,h1,xs)=some (b,j1,g1,xs,w1):=by rw[Dh,f1];rfl
 obtain⟨p1,q1,T1,r1,s1,p2,q2,o3,r2,s2',tl1⟩:=EA (kn:=kn) hk9 i2 h2 c2
 obtain⟨u1,y1,T2,z1,x1,u2,y2,o4,z2,x2,tl2⟩:=EA (kn:=kn) hk9 i1 h1 c1
 unfold xz at r1 z1
 unfold c6 dx
 dsimp only
 simp only[e1,Option.bind_some]
 cases n0:(v1==(0:Int))with
 |true=>simp only[cond_true];exact⟨_,_,_,_,_,rfl,rfl,c1⟩
 |false =>
  cases n1:(v1==(1:Int))with
  |true=>simp only[cond_true,cond_false];exact⟨_,_,_,_,_,rfl,rfl,c1⟩
  |false =>
   cases n2:(v1==(2:Int))with
   |true =>
    simp only[cond_true,cond_false,e2,Option.bind_some]
    cases o2 with
    |true=>simp only[cond_true];exact⟨_,_,_,_,_,rfl,rfl,c2⟩
    |false =>
     simp only[cond_false,r1,Option.bind_some]
     cases hk:decide ((kn.length:Int)>(0:Int))with
     |false=>simp only[cond_false];exact⟨_,_,_,_,_,rfl,rfl,s1⟩
     |true =>
      simp only[cond_true,r2,Option.bind_some]
      cases o3 with
      |true=>simp only[Bool.not_true,cond_false];exact⟨_,_,_,_,_,rfl,rfl,s2'⟩
      |false =>
       obtain⟨m,i3,h3,u,R,k1,k2',k3,k4,k5⟩:=tl1 hk
       simp only[Bool.not_false,cond_true,k1,k2',k4,k5,Option.bind_some]
       exact⟨_,_,_,_,_,rfl,rfl,k3⟩
   |false =>
    simp only[cond_false]
    cases n3:(v1==(3:Int))with
    |true=>simp only[cond_true,f1,f1o,Option.bind_some];exact⟨_,_,_,_,_,rfl,rfl,d1⟩
    |false =>
     cases n4:(v1==(4:Int))with
     |true=>simp only[cond_true,cond_false,f1,f1o,Option.bind_some];exact⟨_,_,_,_,_,rfl,rfl,d1⟩
     |false =>
      cases n5:(v1==(5:Int))with
      |true=>simp only[cond_true,cond_false,f1,f1o,Option.bind_some];exact⟨_,_,_,_,_,rfl,rfl,d1⟩
      |false =>
       cases n6:(v1==(6:Int))with
       |true=>simp only[cond_true,cond_false,f1,f1o,Option.bind_some];exact⟨_,_,_,_,_,rfl,rfl,d1⟩
       |false =>
        simp only[cond_false,z1,Option.bind_some]
        cases hk:decide ((kn.length:Int)>(0:Int))with
        |false=>simp only[cond_false];exact⟨_,_,_,_,_,rfl,rfl,x1⟩
        |true =>
         simp only[cond_true,z2,Option.bind_some]
         cases o4 with
         |true=>simp only[Bool.not_true,cond_false];exact⟨_,_,_,_,_,rfl,rfl,x2⟩
         |false =>
          obtain⟨m,i3,h3,u,R,k1,k2',k3,k4,k5⟩:=tl2 hk
          simp only[Bool.not_false,cond_true,k1,k2',k4,k5,Option.bind_some]
          exact⟨_,_,_,_,_,rfl,rfl,k3⟩
theorem l8{b:List Int}(q0:Nat) (q1:Nat) (q2:Int) (q3:Int) (q4:Int) (q5:Bool) (q6:Int) (q7:Int) (q8:Int) (q9:Bool) (q10:Nat) (q11:Nat){nn:Nat}(hn:nn≤100):∀(c m j:Nat) (i h:Int) (xs:List af) (kn:List Int) (k:Int) (t:Int) (s:Int) (d:Bool) (k2:Int) (t2:Int) (s2:Int) (d2:Bool) (se:List Int) (go:List Int) (l:List pc),j+c=nn→c<m→Cu b i→Bd xs kn se go→l.length≤j→∃i' h' xs' kn' k' t' s' d' k2' t2' s2' d2' se' go' l',aI N0 m (b,i,h,[],[],(0:Int),(0:Int),(0:Int),false,(0:Int),(0:Int),(0:Int),false,[],[],[],[],(0:Int),(0:Int),(0:Int),false,(0:Int),(0:Int),(0:Int),false,[],[],((q0:Nat):Int),((q1:Nat):Int),q2,q3,q4,q5,q6,q7,q8,q9,((q10:Nat):Int),((q11:Nat):Int),xs,kn,k,t,s,d,k2,t2,s2,d2,se,go,l,(nn:Int),(j:Int))=some (b,i',h',[],[],(0:Int),(0:Int),(0:Int),false,(0:Int),(0:Int),(0:Int),false,[],[],[],[],(0:Int),(0:Int),(0:Int),false,(0:Int),(0:Int),(0:Int),false,[],[],((q0:Nat):Int),((q1:Nat):Int),q2,q3,q4,q5,q6,q7,q8,q9,((q10:Nat):Int),((q11:Nat):Int),xs',kn',k',t',s',d',k2',t2',s2',d2',se',go',l')∧Cu b i'∧Bd xs' kn' se' go'∧l'.length≤nn
 |0,m,j,i,h,xs,kn,k,t,s,d,k2,t2,s2,d2,se,go,l,hj,hm,hc,hb,hl=>by
  obtain⟨q,rfl⟩:∃q,m=q+1:=⟨m-1,by omega⟩
  rw[aI]
  dsimp only
  rw[show j=nn by omega,z9,cond_false]
  exact⟨i,h,xs,kn,k,t,s,d,k2,t2,s2,d2,se,go,l,rfl,hc,hb,by omega⟩
 |c+1,m,j,i,h,xs,kn,k,t,s,d,k2,t2,s2,d2,se,go,l,hj,hm,hc,hb,hl=>by
  obtain⟨q,rfl⟩:∃q,m=q+1:=⟨m-1,by omega⟩
  obtain⟨i1,h1,a,v,T,e1,e1o,c1⟩:=ng h (k:=k) (t:=t) (s:=s) (d:=d) (k2:=k2) (t2:=t2) (s2:=s2) (d2:=d2) (se:=se) (go:=go) (show xs.length≤1000 by have:=hb.1;omega) (show kn.length≤900 by have:=hb.2.1;omega) hc
  obtain⟨xs',kn',k',t',s',d',k2',t2',s2',d2',se',go',ok,e2,b2⟩:=Iw (k:=k) (t:=t) (s:=s) (d:=d) (k2:=k2) (t2:=t2) (s2:=s2) (d2:=d2) (act:=a) (v:=v) (T:=T) hb
  rw[aI]
  dsimp only
  have hr:dN (l.length+[((a,(v,T)):pc)].length)=true:=by
   unfold dN
   simp
   omega
  have hl2:(l++[((a,(v,T)):pc)]).length≤j+1:=by simp;omega
  simp only[Int.toNat_natCast,z8 (show j<nn by omega),cond_true,e1o,Ux,Option.bind_some,hr,e2,dI (show j<nn by omega) (show nn≤4294967296 by omega)]
  cases ok with
  |true =>
   simp only[cond_true]
   exact l8 q0 q1 q2 q3 q4 q5 q6 q7 q8 q9 q10 q11 hn c q (j+1) i1 h1 xs' kn' k' t' s' d' k2' t2' s2' d2' se' go' _ (by omega) (by omega) c1 (b2 rfl) hl2
  |false =>
   simp only[cond_false]
   exact l8 q0 q1 q2 q3 q4 q5 q6 q7 q8 q9 q10 q11 hn c q (j+1) i1 h1 xs kn k t s d k2 t2 s2 d2 se go _ (by omega) (by omega) c1 hb hl2
theorem At{b:List Int}{i:Int}(h:Int){most:Int}(h0:0≤most) (h1:most≤40) (hc:Cu b i):∃i' h' u0 u1 u2 u3 u4 u5 u6 u7 u8 u9 u10 u11 xs kn k t s d k2 t2 s2 d2 se go,eN N0 (b,i,h,most)=some (b,i',h',u0,u1,u2,u3,u4,u5,u6,u7,u8,u9,u10,u11,xs,kn,k,t,s,d,k2,t2,s2,d2,se,go)∧Cu b i'∧Bd xs kn se go:=by
 obtain⟨i1,g1,xsA,knA,kA,tA,sA,dA,k2A,t2A,s2A,d2A,seA,goA,e1,c1,b1⟩:=xg h hc
 have w:IntKind.i64.wrap (most+(1:Int))=most+1:=ao (by omega) (by omega)
 obtain⟨i2,g2,v,e2,c2,bl⟩:=dF N0 g1 (most+1) c1
 have hv:0≤v∧v<41:=by rcases bl with⟨q,_⟩|q<;>omega
 obtain⟨nn,rfl⟩:=Int.eq_ofNat_of_zero_le hv.1
 obtain⟨i3,g3,xs',kn',k',t',s',d',k2',t2',s2',d2',se',go',l,e3,c3,b3,l3⟩:=l8 (b:=b) xsA.length knA.length kA tA sA dA k2A t2A s2A d2A seA.length goA.length (nn:=nn) (by omega) nn N0 0 i2 g2 xsA knA kA tA sA dA k2A t2A s2A d2A seA goA [] (by omega) (by have:=n0;omega) c2 b1 (Nat.zero_le _)
 have e3':aI N0 N0 (b,i2,g2,[],[],(0:Int),(0:Int),(0:Int),false,(0:Int),(0:Int),(0:Int),false,[],[],[],[],(0:Int),(0:Int),(0:Int),false,(0:Int),(0:Int),(0:Int),false,[],[],(xsA.length:Int),(knA.length:Int),kA,tA,sA,dA,k2A,t2A,s2A,d2A,(seA.length:Int),(goA.length:Int),xsA,knA,kA,tA,sA,dA,k2A,t2A,s2A,d2A,seA,goA,([]:List pc),(nn:Int),(0:Int))=_:=e3
 unfold eN
 dsimp only
 simp only[Mg,e1,Option.bind_some,w,e2,e3',ep,Int.toNat_natCast]
 exact⟨_,_,_,_,_,_,_,_,_,_,_,_,_,_,_,_,_,_,_,_,_,_,_,_,_,_,rfl,c3,b3⟩
theorem oL{b:List Int}(q0:List af) (q1:List Int) (q2:Int) (q3:Int) (q4:Int) (q5:Bool) (q6:Int) (q7:Int) (q8:Int) (q9:Bool) (q10:List Int) (q11:List Int){nn:Nat}(hn:nn≤100):∀(c m j:Nat) (i h:Int) (xs:List af) (kn:List Int) (k:Int) (t:Int) (s:Int) (d:Bool) (k2:Int) (t2:Int) (s2:Int) (d2:Bool) (se:List Int) (go:List Int) (l:List pc),j+c=nn→c<m→Cu b i→Bd xs kn se go→l.length≤j→∃i' h' xs' kn' k' t' s' d' k2' t2' s2' d2' se' go' l',aS N0 m (b,i,h,[],[],(0:Int),(0:Int),(0:Int),false,(0:Int),(0:Int),(0:Int),false,[],[],[],[],(0:Int),(0:Int),(0:Int),false,(0:Int),(0:Int),(0:Int),false,[],[],q0,q1,q2,q3,q4,q5,q6,q7,q8,q9,q10,q11,xs,kn,k,t,s,d,k2,t2,s2,d2,se,go,l,(nn:Int),(j:Int))=some (b,i',h',[],[],(0:Int),(0:Int),(0:Int),false,(0:Int),(0:Int),(0:Int),false,[],[],[],[],(0:Int),(0:Int),(0:Int),false,(0:Int),(0:Int),(0:Int),false,[],[],q0,q1,q2,q3,q4,q5,q6,q7,q8,q9,q10,q11,xs',kn',k',t',s',d',k2',t2',s2',d2',se',go',l')∧Cu b i'∧Bd xs' kn' se' go'∧l'.length≤nn
 |0,m,j,i,h,xs,kn,k,t,s,d,k2,t2,s2,d2,se,go,l,hj,hm,hc,hb,hl=>by
  obtain⟨q,rfl⟩:∃q,m=q+1:=⟨m-1,by omega⟩
  rw[aS]
  dsimp only
  rw[show j=nn by omega,z9,cond_false]
  exact⟨i,h,xs,kn,k,t,s,d,k2,t2,s2,d2,se,go,l,rfl,hc,hb,by omega⟩
 |c+1,m,j,i,h,xs,kn,k,t,s,d,k2,t2,s2,d2,se,go,l,hj,hm,hc,hb,hl=>by
  obtain⟨q,rfl⟩:∃q,m=q+1:=⟨m-1,by omega⟩
  obtain⟨i1,h1,a,v,T,e1,e1o,c1⟩:=ng h (k:=k) (t:=t) (s:=s) (d:=d) (k2:=k2) (t2:=t2) (s2:=s2) (d2:=d2) (se:=se) (go:=go) (show xs.length≤1000 by have:=hb.1;omega) (show kn.length≤900 by have:=hb.2.1;omega) hc
  obtain⟨xs',kn',k',t',s',d',k2',t2',s2',d2',se',go',ok,e2,b2⟩:=Iw (k:=k) (t:=t) (s:=s) (d:=d) (k2:=k2) (t2:=t2) (s2:=s2) (d2:=d2) (act:=a) (v:=v) (T:=T) hb
  rw[aS]
  dsimp only
  have hr:dN (l.length+[((a,(v,T)):pc)].length)=true:=by
   unfold dN
   simp
   omega
  have hl2:(l++[((a,(v,T)):pc)]).length≤j+1:=by simp;omega
  simp only[z8 (show j<nn by omega),cond_true,e1,Option.bind_some,hr,e2,dI (show j<nn by omega) (show nn≤4294967296 by omega)]
  cases ok with
  |true =>
   simp only[cond_true]
   exact oL q0 q1 q2 q3 q4 q5 q6 q7 q8 q9 q10 q11 hn c q (j+1) i1 h1 xs' kn' k' t' s' d' k2' t2' s2' d2' se' go' _ (by omega) (by omega) c1 (b2 rfl) hl2
  |false =>
   simp only[cond_false]
   exact oL q0 q1 q2 q3 q4 q5 q6 q7 q8 q9 q10 q11 hn c q (j+1) i1 h1 xs kn k t s d k2 t2 s2 d2 se go _ (by omega) (by omega) c1 hb hl2
theorem Dj{b:List Int}{i:Int}(h:Int){most:Int}(h0:0≤most) (h1:most≤40) (hc:Cu b i):∃i' h' xs kn k t s d k2 t2 s2 d2 se go l xs' kn' k' t' s' d' k2' t2' s2' d2' se' go',ge N0 (b,i,h,most)=some (b,i',h',xs,kn,k,t,s,d,k2,t2,s2,d2,se,go,l,xs',kn',k',t',s',d',k2',t2',s2',d2',se',go')∧Cu b i'∧Bd xs kn se go∧l.length≤41∧Bd xs' kn' se' go':=by
 obtain⟨i1,g1,xsA,knA,kA,tA,sA,dA,k2A,t2A,s2A,d2A,seA,goA,e1,c1,b1⟩:=xg h hc
 have w:IntKind.i64.wrap (most+(1:Int))=most+1:=ao (by omega) (by omega)
 obtain⟨i2,g2,v,e2,c2,bl⟩:=dF N0 g1 (most+1) c1
 have hv:0≤v∧v<41:=by rcases bl with⟨q,_⟩|q<;>omega
 obtain⟨nn,rfl⟩:=Int.eq_ofNat_of_zero_le hv.1
 obtain⟨i3,g3,xs',kn',k',t',s',d',k2',t2',s2',d2',se',go',l,e3,c3,b3,l3⟩:=oL (b:=b) xsA knA kA tA sA dA k2A t2A s2A d2A seA goA (nn:=nn) (by omega) nn N0 0 i2 g2 xsA knA kA tA sA dA k2A t2A s2A d2A seA goA [] (by omega) (by have:=n0;omega) c2 b1 (Nat.zero_le _)
 have e3':aS N0 N0 (b,i2,g2,[],[],(0:Int),(0:Int),(0:Int),false,(0:Int),(0:Int),(0:Int),false,[],[],[],[],(0:Int),(0:Int),(0:Int),false,(0:Int),(0:Int),(0:Int),false,[],[],xsA,knA,kA,tA,sA,dA,k2A,t2A,s2A,d2A,seA,goA,xsA,knA,kA,tA,sA,dA,k2A,t2A,s2A,d2A,seA,goA,([]:List pc),(nn:Int),(0:Int))=_:=e3
 unfold ge
 dsimp only
 simp only[e1,Option.bind_some,w,e2,e3',eW]
 exact⟨_,_,_,_,_,_,_,_,_,_,_,_,_,_,_,_,_,_,_,_,_,_,_,_,_,_,_,rfl,c3,b1,by omega,b3⟩
theorem ne{b:List Int}{i:Int}(h:Int) (hc:Cu b i):∃i' h' xs kn k t s d k2 t2 s2 d2 se go,cx N0 (b,i,h)=some (b,i',h',xs,kn,k,t,s,d,k2,t2,s2,d2,se,go)∧Cu b i'∧xs.length≤701∧kn.length≤301∧se.length≤101∧go.length≤101:=by
 obtain⟨i1,h1,u0,u1,u2,u3,u4,u5,u6,u7,u8,u9,u10,u11,xs,kn,k,t,s,d,k2,t2,s2,d2,se,go,e1,c1,b1,b2,b3,b4⟩:=At h (most:=14) (by omega) (by omega) hc
 obtain⟨i2,h2,v2,e2,c2,_⟩:=dF N0 h1 25 c1
 unfold cx
 dsimp only
 simp only[e1,Option.bind_some,e2]
 have fin:∀(i3 h3:Int) (xsc:List af) (knc:List Int) (kc:Int) (tc:Int) (sc:Int) (dc:Bool) (k2c:Int) (t2c:Int) (s2c:Int) (d2c:Bool) (sec:List Int) (goc:List Int),Cu b i3→xsc.length≤701→knc.length≤301→sec.length≤101→goc.length≤101→∃i' h' xs kn k t s d k2 t2 s2 d2 se go,some (b,i3,h3,xsc,knc,kc,tc,sc,dc,k2c,t2c,s2c,d2c,sec,goc)=some (b,i',h',xs,kn,k,t,s,d,k2,t2,s2,d2,se,go)∧Cu b i'∧xs.length≤701∧kn.length≤301∧se.length≤101∧go.length≤101:=fun i3 h3 xsc knc kc tc sc dc k2c t2c s2c d2c sec goc q1 q2 q3 q4 q5=>⟨_,_,_,_,_,_,_,_,_,_,_,_,_,_,rfl,q1,q2,q3,q4,q5⟩
 cases n0:(v2==(0:Int))with
 |true=>simp only[cond_true];exact fin _ _ _ _ _ _ _ _ _ _ _ _ _ _ c2 (by omega) (by omega) (by omega) (by omega)
 |false =>
  cases n1:(v2==(1:Int))with
  |true=>simp only[cond_true,cond_false];exact fin _ _ _ _ _ _ _ _ _ _ _ _ _ _ c2 (by omega) (by omega) (by omega) (by omega)
  |false =>
   cases n2:(v2==(2:Int))with
   |true =>
    have hr:dN (se.length+[(-1:Int)].length)=true:=by
     unfold dN
     simp
     omega
    simp only[cond_true,cond_false,hr]
    exact fin _ _ _ _ _ _ _ _ _ _ _ _ _ _ c2 (by omega) (by omega) (by simp;omega) (by omega)
   |false =>
    cases n3:(v2==(3:Int))with
    |true =>
     obtain⟨i3,h3,v3,e3,c3,bl⟩:=dF N0 h2 2 c2
     have hv:0≤v3∧v3<2:=by rcases bl with⟨q,_⟩|q<;>omega
     have w:IntKind.i64.wrap ((60:Int)+v3)=60+v3:=ao (by omega) (by omega)
     simp only[cond_true,cond_false,e3,Option.bind_some,w,decide_eq_true (show 0≤(60:Int)+v3∧(60:Int)+v3≤(60:Int)+v3∧(60:Int)+v3≤4294967296 by omega)]
     exact fin _ _ _ _ _ _ _ _ _ _ _ _ _ _ c3 (by omega) (by omega) (by omega) (by simp;omega)
    |false =>
     cases n4:(v2==(4:Int))with
     |true =>
      have hr:dN (kn.length+[(0:Int)].length)=true:=by
       unfold dN
       simp
       omega
      simp only[cond_true,cond_false,hr]
      exact fin _ _ _ _ _ _ _ _ _ _ _ _ _ _ c2 (by omega) (by simp;omega) (by omega) (by omega)
     |false=>simp only[cond_false];exact fin _ _ _ _ _ _ _ _ _ _ _ _ _ _ c2 (by omega) (by omega) (by omega) (by omega)
theorem Di{b:List Int}(hb:b.length≤4294967296):∃xs kn k t s d k2 t2 s2 d2 se go a v T,eO N0 b=some (xs,kn,k,t,s,d,k2,t2,s2,d2,se,go,a,v,T)∧xs.length≤701∧kn.length≤301∧se.length≤101∧go.length≤101:=by
 obtain⟨h,e,c⟩:=G9 hb
 obtain⟨i1,h1,xs,kn,k,t,s,d,k2,t2,s2,d2,se,go,e1,c1,l1,l2,l3,l4⟩:=ne h c
 obtain⟨i2,h2,a,v,T,e2,_,c2⟩:=ng h1 (k:=k) (t:=t) (s:=s) (d:=d) (k2:=k2) (t2:=t2) (s2:=s2) (d2:=d2) (se:=se) (go:=go) (show xs.length≤1000 by omega) (show kn.length≤900 by omega) c1
 obtain⟨i3,h3,v3,e3,c3,_⟩:=dF N0 h2 20 c2
 unfold eO
 simp only[e,Option.bind_some,e1,e2,e3]
 cases n0:(v3==(0:Int))with
 |true =>
  obtain⟨i4,h4,v4,e4,c4,_⟩:=dF N0 h3 7 c3
  simp only[cond_true,e4,Option.bind_some,ba]
  exact⟨_,_,_,_,_,_,_,_,_,_,_,_,_,_,_,rfl,l1,l2,l3,l4⟩
 |false =>
  cases n1:(v3==(1:Int))with
  |true =>
   simp only[cond_true,cond_false,Option.bind_some,ba]
   exact⟨_,_,_,_,_,_,_,_,_,_,_,_,_,_,_,rfl,l1,l2,l3,l4⟩
  |false =>
   cases n2:(v3==(2:Int))with
   |true =>
    simp only[cond_true,cond_false,Option.bind_some,ba]
    exact⟨_,_,_,_,_,_,_,_,_,_,_,_,_,_,_,rfl,l1,l2,l3,l4⟩
   |false =>
    simp only[cond_false,Option.bind_some,ba]
    exact⟨_,_,_,_,_,_,_,_,_,_,_,_,_,_,_,rfl,l1,l2,l3,l4⟩
theorem JE{b:List Int}(hb:b.length≤4294967296):∃v,kF N0 (b,(14:Int),(30:Int))=some v∧0≤v∧v≤30:=by
 have e:((b.length:Int)).tdiv 4=(b.length:Int) / 4:=Int.tdiv_eq_ediv_of_nonneg (by omega)
 have w1:IntKind.i64.wrap (((b.length:Int)).tdiv (4:Int))=(b.length:Int) / 4:=by rw[e,ao (by omega) (by omega)]
 have w2:IntKind.i64.wrap ((14:Int)+(b.length:Int) / 4)=14+(b.length:Int) / 4:=ao (by omega) (by omega)
 unfold kF
 dsimp only
 rw[w1,w2]
 by_cases q:(14:Int)+(b.length:Int) / 4>30
 ·rw[decide_eq_true q];exact⟨30,rfl,by omega,by omega⟩
 ·rw[decide_eq_false q];exact⟨_,rfl,by omega,by omega⟩
theorem Bn{b:List Int}{xs:List af}{kn:List Int}{k:Int}{t:Int}{s:Int}{d:Bool}{k2:Int}{t2:Int}{s2:Int}{d2:Bool}{se:List Int}{go:List Int}:∀(c m:Nat) (i h:Int) (l:List pc),62-l.length≤c→c<m→Cu b i→l.length≤200→∃i' h' l',a9 N0 m ([],[],(0:Int),(0:Int),(0:Int),false,(0:Int),(0:Int),(0:Int),false,[],[],b,i,h,xs,kn,k,t,s,d,k2,t2,s2,d2,se,go,l)=some ([],[],(0:Int),(0:Int),(0:Int),false,(0:Int),(0:Int),(0:Int),false,[],[],b,i',h',xs,kn,k,t,s,d,k2,t2,s2,d2,se,go,l')∧Cu b i'∧l'.length≤200
 |c,m,i,h,l,hl,hm,hc,h2=>by
  obtain⟨q,rfl⟩:∃q,m=q+1:=⟨m-1,by omega⟩
  obtain⟨i1,h1,v,e1,c1,b1⟩:=dF N0 h 2 hc
  have hv:0≤v∧v<2:=by rcases b1 with⟨q,_⟩|q<;>omega
  have w:IntKind.i64.wrap ((60:Int)+v)=60+v:=ao (by omega) (by omega)
  rw[a9]
  dsimp only
  simp only[e1,Option.bind_some,w]
  by_cases q:(l.length:Int)<60+v
  ·have hr:dN (l.length+[(((2:Int),((0:Int),(⟨#[]⟩:ByteArray))):pc)].length)=true:=by
    unfold dN
    simp
    omega
   simp only[decide_eq_true q,cond_true,hr]
   match c,hl with
   |0,hl=>omega
   |c+1,hl=>exact Bn c _ i1 h1 _ (by simp;omega) (by omega) c1 (by simp;omega)
  ·simp only[decide_eq_false q,cond_false]
   exact⟨_,_,_,rfl,c1,h2⟩
theorem Cd{b:List Int}(hb:b.length≤4294967296):∃xs kn k t s d k2 t2 s2 d2 se go l,d7 N0 b=some (xs,kn,k,t,s,d,k2,t2,s2,d2,se,go,l)∧xs.length≤701∧kn.length≤301∧se.length≤101∧go.length≤101∧l.length≤200:=by
 obtain⟨h,e,c⟩:=G9 hb
 obtain⟨most,e0,m0,m1⟩:=JE hb
 obtain⟨i1,h1,xs,kn,k,t,s,d,k2,t2,s2,d2,se,go,l,xs',kn',k',t',s',d',k2',t2',s2',d2',se',go',e1,c1,b1,hl,_⟩:=Dj h m0 (show most≤40 by omega) c
 obtain⟨i2,h2,o2,e2,c2⟩:=lK N0 h1 40 c1
 obtain⟨b1,b2,b3,b4⟩:=b1
 unfold d7
 simp only[e,Option.bind_some,e0,e1,e2]
 cases o2 with
 |true =>
  obtain⟨i3,h3,l',e3,c3,l3⟩:=Bn (b:=b) (xs:=xs) (kn:=kn) (k:=k) (t:=t) (s:=s) (d:=d) (k2:=k2) (t2:=t2) (s2:=s2) (d2:=d2) (se:=se) (go:=go) 62 N0 i2 h2 l (by omega) (by have:=n0;omega) c2 (by omega)
  obtain⟨i4,h4,o4,e4,c4⟩:=lK N0 h3 15 c3
  simp only[cond_true,e3,Option.bind_some,e4]
  cases o4 with
  |true =>
   obtain⟨i5,h5,xs',kn',k',t',s',d',k2',t2',s2',d2',se',go',e5,c5,k1,k2,k3,k4⟩:=ne h4 c4
   simp only[cond_true,e5,Option.bind_some]
   exact⟨_,_,_,_,_,_,_,_,_,_,_,_,_,rfl,k1,k2,k3,k4,l3⟩
  |false =>
   simp only[cond_false]
   exact⟨_,_,_,_,_,_,_,_,_,_,_,_,_,rfl,by omega,by omega,by omega,by omega,l3⟩
 |false =>
  obtain⟨i4,h4,o4,e4,c4⟩:=lK N0 h2 15 c2
  simp only[cond_false,e4,Option.bind_some]
  cases o4 with
  |true =>
   obtain⟨i5,h5,xs',kn',k',t',s',d',k2',t2',s2',d2',se',go',e5,c5,k1,k2,k3,k4⟩:=ne h4 c4
   simp only[cond_true,e5,Option.bind_some]
   exact⟨_,_,_,_,_,_,_,_,_,_,_,_,_,rfl,k1,k2,k3,k4,by omega⟩
  |false =>
   simp only[cond_false]
   exact⟨_,_,_,_,_,_,_,_,_,_,_,_,_,rfl,by omega,by omega,by omega,by omega,by omega⟩
abbrev F2:=List af×List Int×Int×Int×Int×Bool×Int×Int×Int×Bool×List Int×List Int
def P4 (x:F2) (a:pc):Option (F2×Bool):=(dt N0 (x.1,x.2.1,x.2.2.1,x.2.2.2.1,x.2.2.2.2.1,x.2.2.2.2.2.1,x.2.2.2.2.2.2.1,x.2.2.2.2.2.2.2.1,x.2.2.2.2.2.2.2.2.1,x.2.2.2.2.2.2.2.2.2.1,x.2.2.2.2.2.2.2.2.2.2.1,x.2.2.2.2.2.2.2.2.2.2.2,a.1,a.2.1,a.2.2)).map fun r=>((r.1,r.2.1,r.2.2.1,r.2.2.2.1,r.2.2.2.2.1,r.2.2.2.2.2.1,r.2.2.2.2.2.2.1,r.2.2.2.2.2.2.2.1,r.2.2.2.2.2.2.2.2.1,r.2.2.2.2.2.2.2.2.2.1,r.2.2.2.2.2.2.2.2.2.2.1,r.2.2.2.2.2.2.2.2.2.2.2.1),r.2.2.2.2.2.2.2.2.2.2.2.2)
def qK:List pc→F2→Int→Option (F2×Int)
 |[],x,c=>some (x,c)
 |a::l,x,c=>(P4 x a).bind fun r=>bif r.2 then qK l r.1 (c+1)else qK l x c
theorem wb:∀(l l2:List pc) (x:F2) (c:Int),qK (l++l2) x c=(qK l x c).bind fun r=>qK l2 r.1 r.2
 |[],l2,x,c=>rfl
 |a::l,l2,x,c=>by
  rw[List.cons_append,qK,qK]
  cases P4 x a with
  |none=>rfl
  |some r =>
   simp only[Option.bind_some]
   cases r.2 with
   |true=>simp only[cond_true];exact wb l l2 r.1 (c+1)
   |false=>simp only[cond_false];exact wb l l2 x c
theorem sK:∀(l:List pc) (x:F2) (c:Int),qK l x c=(qK l x 0).map fun r=>(r.1,c+r.2)
 |[],x,c=>by simp[qK]
 |a::l,x,c=>by
  rw[qK,qK]
  cases P4 x a with
  |none=>rfl
  |some r =>
   simp only[Option.bind_some]
   cases r.2 with
   |true =>
    simp only[cond_true]
    rw[sK l r.1 (c+1),sK l r.1 (0+1)]
    cases qK l r.1 0 with
    |none=>rfl
    |some q=>simp only[Option.map_some];congr 2;omega
   |false =>
    simp only[cond_false]
    exact sK l x c
theorem tZ{l:List pc}(hl:l.length≤60):∀(n i:Nat) (xs:List af) (kn:List Int) (k:Int) (t:Int) (s:Int) (d:Bool) (k2:Int) (t2:Int) (s2:Int) (d2:Bool) (se:List Int) (go:List Int) (c:Int) (m1:Nat),n+i=l.length→n<m1→bT xs kn k t s k2 t2 s2 se go=true→0≤c→c+(n:Int)≤1000 →
  ∃xs' kn' k' t' s' d' k2' t2' s2' d2' se' go' c',a6 N0 m1 ([],[],(0:Int),(0:Int),(0:Int),false,(0:Int),(0:Int),(0:Int),false,[],[],xs,kn,k,t,s,d,k2,t2,s2,d2,se,go,c,l,(l.length:Int),(i:Int))=some ([],[],(0:Int),(0:Int),(0:Int),false,(0:Int),(0:Int),(0:Int),false,[],[],xs',kn',k',t',s',d',k2',t2',s2',d2',se',go',c')∧qK (l.drop i) (xs,kn,k,t,s,d,k2,t2,s2,d2,se,go) c=some ((xs',kn',k',t',s',d',k2',t2',s2',d2',se',go'),c')∧bT xs' kn' k' t' s' k2' t2' s2' se' go'=true∧0≤c'∧c'≤c+(n:Int)
 |0,i,xs,kn,k,t,s,d,k2,t2,s2,d2,se,go,c,m1,hi,hm,hv,hc,hc2=>by
  obtain⟨j,rfl⟩:∃j,m1=j+1:=⟨m1-1,by omega⟩
  obtain rfl:i=l.length:=by omega
  rw[a6]
  dsimp only
  rw[z9,cond_false,List.drop_length]
  exact⟨xs,kn,k,t,s,d,k2,t2,s2,d2,se,go,c,rfl,rfl,hv,hc,by omega⟩
 |n+1,i,xs,kn,k,t,s,d,k2,t2,s2,d2,se,go,c,m1,hi,hm,hv,hc,hc2=>by
  obtain⟨j,rfl⟩:∃j,m1=j+1:=⟨m1-1,by omega⟩
  have hil:i<l.length:=by omega
  obtain⟨b1,b2,b3,b4⟩:=mB hv
  have w:IntKind.i64.wrap (c+(1:Int))=c+1:=ao (by omega) (by omega)
  obtain⟨xs',kn',k',t',s',d',k2',t2',s2',d2',se',go',ok,g1,g2,_,_,_,_,g3⟩:=mT (k:=k) (t:=t) (s:=s) (d:=d) (k2:=k2) (t2:=t2) (s2:=s2) (d2:=d2) (act:=(l.getD i zA).1) (v:=(l.getD i zA).2.1) (T:=(l.getD i zA).2.2) (show xs.length≤4294967296 by omega) (show kn.length≤4294967296 by omega) (show se.length≤4294967296 by omega) (show go.length≤4294967296 by omega)
  obtain⟨g4,g5⟩:=g3 hv
  have g1':dt N0 (xs,kn,k,t,s,d,k2,t2,s2,d2,se,go,(l.getD i ((0:Int),((0:Int),(⟨#[]⟩:ByteArray)))).1,(l.getD i ((0:Int),((0:Int),(⟨#[]⟩:ByteArray)))).2.1,(l.getD i ((0:Int),((0:Int),(⟨#[]⟩:ByteArray)))).2.2)=_:=g1
  have hd:l.drop i=l.getD i zA::l.drop (i+1):=by
   rw[List.drop_eq_getElem_cons hil,List.getD_eq_getElem?_getD,List.getElem?_eq_getElem hil,Option.getD_some]
  have hdo:P4 (xs,kn,k,t,s,d,k2,t2,s2,d2,se,go) (l.getD i zA)=some ((xs',kn',k',t',s',d',k2',t2',s2',d2',se',go'),ok):=by
   unfold P4
   dsimp only
   rw[g1];rfl
  rw[a6,hd,qK,hdo]
  dsimp only
  simp only[z8 hil,cond_true,aH hil,Int.toNat_natCast,g1',Option.bind_some,dI hil (show l.length≤4294967296 by omega),w]
  cases ok with
  |true =>
   simp only[cond_true]
   obtain⟨xsB,knB,kB,tB,sB,dB,k2B,t2B,s2B,d2B,seB,goB,c'',r1,r2,r3,r4,r5⟩:=tZ hl n (i+1) xs' kn' k' t' s' d' k2' t2' s2' d2' se' go' (c+1) j (by omega) (by omega) g4 (by omega) (by omega)
   exact⟨xsB,knB,kB,tB,sB,dB,k2B,t2B,s2B,d2B,seB,goB,c'',r1,r2,r3,r4,by omega⟩
  |false =>
   have e:=g5 rfl
   simp only[Prod.mk.injEq]at e
   obtain⟨rfl,rfl,rfl,rfl,rfl,rfl,rfl,rfl,rfl,rfl,rfl,rfl⟩:=e
   simp only[cond_false]
   obtain⟨xsB,knB,kB,tB,sB,dB,k2B,t2B,s2B,d2B,seB,goB,c'',r1,r2,r3,r4,r5⟩:=tZ hl n (i+1) xs' kn' k' t' s' d' k2' t2' s2' d2' se' go' c j (by omega) (by omega) hv (by omega) (by omega)
   exact⟨xsB,knB,kB,tB,sB,dB,k2B,t2B,s2B,d2B,seB,goB,c'',r1,r2,r3,r4,by omega⟩
section
variable{xs:List af}{kn:List Int}{k:Int}{t:Int}{s:Int}{d:Bool}{k2:Int}{t2:Int}{s2:Int}{d2:Bool}{se:List Int}{go:List Int}{l:List pc}
theorem zM (hv:bT xs kn k t s k2 t2 s2 se go=true) (hl:l.length≤60):∃xs' kn' k' t' s' d' k2' t2' s2' d2' se' go' c',ef N0 (xs,kn,k,t,s,d,k2,t2,s2,d2,se,go,l)=some (xs',kn',k',t',s',d',k2',t2',s2',d2',se',go',c')∧qK l (xs,kn,k,t,s,d,k2,t2,s2,d2,se,go) 0=some ((xs',kn',k',t',s',d',k2',t2',s2',d2',se',go'),c')∧bT xs' kn' k' t' s' k2' t2' s2' se' go'=true∧0≤c'∧c'≤60:=by
 obtain⟨b1,b2,b3,b4⟩:=mB hv
 have iS:=mX (k:=k) (t:=t) (s:=s) (d:=d) (k2:=k2) (t2:=t2) (s2:=s2) (d2:=d2) (show xs.length≤4294967296 by omega) (show kn.length≤4294967296 by omega) (show se.length≤4294967296 by omega) (show go.length≤4294967296 by omega)
 have iC:=vq (k:=k) (t:=t) (s:=s) (d:=d) (k2:=k2) (t2:=t2) (s2:=s2) (d2:=d2) (show xs.length≤4294967296 by omega) (show kn.length≤4294967296 by omega) (show se.length≤4294967296 by omega) (show go.length≤4294967296 by omega)
 obtain⟨xs',kn',k',t',s',d',k2',t2',s2',d2',se',go',c',r1,r2,r3,r4,r5⟩:=tZ hl l.length 0 xs kn k t s d k2 t2 s2 d2 se go 0 N0 (by omega) (by have:=n0;omega) hv (by omega) (by omega)
 have r1':a6 N0 N0 ([],[],(0:Int),(0:Int),(0:Int),false,(0:Int),(0:Int),(0:Int),false,[],[],xs,kn,k,t,s,d,k2,t2,s2,d2,se,go,(0:Int),l,(l.length:Int),(0:Int))=_:=r1
 refine⟨xs',kn',k',t',s',d',k2',t2',s2',d2',se',go',c',?_,r2,r3,r4,by omega⟩
 rw[hv]at iS
 unfold ef
 dsimp only
 simp only[iC,iS,Option.bind_some,decide_eq_false (show ¬(l.length:Int)>(60:Int)by omega),cond_false,Bool.not_true,r1']
end
theorem WT{x:List Int}(hx:x.length≤1048576) (hb:∀v∈x,0≤v∧v<256):∃v,s7 N0 (x,(1:Int))=some v∧0≤v:=by
 unfold s7
 dsimp only
 by_cases h:1<x.length
 ·have hv:0≤x.getD 1 0∧x.getD 1 0<256:=by
   rw[List.getD_eq_getElem?_getD,List.getElem?_eq_getElem h]
   exact hb _ (List.getElem_mem h)
  rw[decide_eq_true (show(1:Int)<(x.length:Int)by omega),cond_true,show bH (1:Int) x.length=true from aH (i:=1) h,cond_true]
  refine⟨_,rfl,?_⟩
  rw[show((1:Int)).toNat=1 from rfl,ao (by omega) (by omega)]
  exact hv.1
 ·rw[decide_eq_false (show ¬(1:Int)<(x.length:Int)by omega),cond_false]
  refine⟨_,rfl,?_⟩
  rw[show IntKind.i64.wrap ((1:Int)*7)=7 from rfl,ao (by omega) (by omega)]
  exact Int.tmod_nonneg _ (by omega)
theorem Co (x:List Int) (hx:x.length≤9223372036854775807) (hbx:∀v∈x,0≤v∧v<256):fv N0 x=some true:=by
 unfold fv sZ
 rw[Option.bind_some]
 by_cases hb:(x.length:Int)>1048576
 ·rw[decide_eq_true hb];rfl
 ·rw[decide_eq_false hb,cond_false]
  obtain⟨xs,kn,k,t,s,d,k2,t2,s2,d2,se,go,a,v,T,e1,l1,l2,l3,l4⟩:=Di (b:=x) (by omega)
  obtain⟨xs',kn',k',t',s',d',k2',t2',s2',d2',se',go',ok,g1,g2,m1,m2,m3,m4,g3⟩:=mT (k:=k) (t:=t) (s:=s) (d:=d) (k2:=k2) (t2:=t2) (s2:=s2) (d2:=d2) (act:=a) (v:=v) (T:=T) (show xs.length≤4294967296 by omega) (show kn.length≤4294967296 by omega) (show se.length≤4294967296 by omega) (show go.length≤4294967296 by omega)
  have sS:=iI (k:=k) (t:=t) (s:=s) (d:=d) (k2:=k2) (t2:=t2) (s2:=s2) (d2:=d2) (show xs.length≤4294967296 by omega) (show kn.length≤4294967296 by omega) (show se.length≤4294967296 by omega) (show go.length≤4294967296 by omega)
  simp only[e1,Option.bind_some,g1,g2,bne_self_eq_false,cond_false,sS]
  cases hv:bT xs kn k t s k2 t2 s2 se go with
  |false =>
   have hbad:=sG (act:=a) (v:=v) (T:=T) (d:=d) (d2:=d2) (show xs.length≤1000 by omega) (show kn.length≤1000 by omega) (show se.length≤1000 by omega) (show go.length≤1000 by omega) hv
   rw[hbad]at g2
   simp only[Option.some.injEq,Prod.mk.injEq]at g2
   obtain⟨rfl,_⟩:=g2
   rfl
  |true =>
   obtain⟨g4,g5⟩:=g3 hv
   have iS:=mX (k:=k') (t:=t') (s:=s') (d:=d') (k2:=k2') (t2:=t2') (s2:=s2') (d2:=d2') m1 m2 m3 m4
   rw[g4]at iS
   simp only[Bool.not_true,cond_false]
   cases ok with
   |false =>
    have e:=g5 rfl
    simp only[Prod.mk.injEq]at e
    obtain⟨rfl,rfl,rfl,rfl,rfl,rfl,rfl,rfl,rfl,rfl,rfl,rfl⟩:=e
    simp only[Bool.not_false,cond_true,iJ m2,iJ m3,iJ m4,Option.bind_some,beq_self_eq_true,Bool.and_self]
   |true =>
    simp only[Bool.not_true,cond_false]
    obtain⟨xsq,knq,kq,tq,sq,dq,k2q,t2q,s2q,d2q,seq,goq,l,e2,n1,n2,n3,n4,n5⟩:=Cd (b:=x) (by omega)
    have sQ:=iI (xs:=xsq) (kn:=knq) (k:=kq) (t:=tq) (s:=sq) (d:=dq) (k2:=k2q) (t2:=t2q) (s2:=s2q) (d2:=d2q) (se:=seq) (go:=goq) (show xsq.length≤4294967296 by omega) (show knq.length≤4294967296 by omega) (show seq.length≤4294967296 by omega) (show goq.length≤4294967296 by omega)
    simp only[e2,Option.bind_some,sQ]
    cases hq:bT xsq knq kq tq sq k2q t2q s2q seq goq with
    |false=>simp only[Bool.not_false,cond_true,iS,Option.bind_some]
    |true =>
     simp only[Bool.not_true,cond_false]
     by_cases h60:(l.length:Int)>60
     ·simp only[decide_eq_true h60,cond_true,iS,Option.bind_some]
     ·obtain⟨w1,q1,q2⟩:=WT (x:=x) (by omega) hbx
      have wl:IntKind.i64.wrap ((l.length:Int)+(1:Int))=(l.length:Int)+1:=ao (by omega) (by omega)
      have hne:((l.length:Int)+1 != 0)=true:=by rw[bne_iff_ne];omega
      have hm:=zB (x:=w1) (k:=(l.length:Int)+1) q2 (by omega)
      generalize hcut:w1.tmod ((l.length:Int)+1)=cut at hm
      obtain⟨cu,rfl⟩:=Int.eq_ofNat_of_zero_le hm.1
      have hcu:cu≤l.length:=by omega
      obtain⟨xsA,knA,kA,tA,sA,dA,k2A,t2A,s2A,d2A,seA,goA,cA,r1,r2,r3,r4,r5⟩:=zM (xs:=xsq) (kn:=knq) (k:=kq) (t:=tq) (s:=sq) (d:=dq) (k2:=k2q) (t2:=t2q) (s2:=s2q) (d2:=d2q) (se:=seq) (go:=goq) (l:=l) hq (by omega)
      obtain⟨xsM,knM,kM,tM,sM,dM,k2M,t2M,s2M,d2M,seM,goM,cM,s1,s2,s3,s4,s5⟩:=zM (xs:=xsq) (kn:=knq) (k:=kq) (t:=tq) (s:=sq) (d:=dq) (k2:=k2q) (t2:=t2q) (s2:=s2q) (d2:=d2q) (se:=seq) (go:=goq) (l:=l.take cu) hq (by rw[List.length_take];omega)
      obtain⟨xsE,knE,kE,tE,sE,dE,k2E,t2E,s2E,d2E,seE,goE,cE,t1,t2,t3,t4,t5⟩:=zM (xs:=xsM) (kn:=knM) (k:=kM) (t:=tM) (s:=sM) (d:=dM) (k2:=k2M) (t2:=t2M) (s2:=s2M) (d2:=d2M) (se:=seM) (go:=goM) (l:=l.drop cu) s3 (by rw[List.length_drop];omega)
      have hall:=wb (l.take cu) (l.drop cu) (xsq,knq,kq,tq,sq,dq,k2q,t2q,s2q,d2q,seq,goq) 0
      rw[List.take_append_drop,r2,s2,Option.bind_some,sK,t2,Option.map_some]at hall
      simp only[Option.some.injEq,Prod.mk.injEq]at hall
      obtain⟨⟨rfl,rfl,rfl,rfl,rfl,rfl,rfl,rfl,rfl,rfl,rfl,rfl⟩,rfl⟩:=hall
      have sl1:sl l 0 (cu:Int)=l.take cu:=by unfold sl;simp
      have sl2:sl l (cu:Int) (l.length:Int)=l.drop cu:=by unfold sl;simp
      obtain⟨rg1,rg2⟩:=Lz (l:=(cu:Int)) (n:=l.length) (by omega) (by omega)
      obtain⟨y1,y2,y3,y4⟩:=mB r3
      have wc:IntKind.i64.wrap (cM+cE)=cM+cE:=ao (by omega) (by omega)
      simp only[decide_eq_false h60,cond_false,q1,Option.bind_some,wl,hne,cond_true,r1,hcut,fT,fS,rg1,rg2,sl1,sl2,s1,t1,iS,wc,beq_self_eq_true,iJ (show seA.length≤4294967296 by omega),iJ (show goA.length≤4294967296 by omega),Bool.and_self]
theorem xy (x:TD (bg (aB 0 (S4 0).pars))) (hx:IX _ x):fv N0 x=some true:=by
 have h1:tU (.sl (.int .u8)) x:=hx ⟨.sl (.int .u8),x⟩ (.head _)
 refine Co x (Fv▸h1.1) (fun v hv=>?_)
 have h:=h1.2 v hv
 have h:(decide ((0:Int)≤v)&&decide (v≤255))=true:=h
 rw[Bool.and_eq_true,decide_eq_true_iff,decide_eq_true_iff]at h
 omega
end AM
end Go.Proofs.YtobpcllkonomlaaGreatDoor
