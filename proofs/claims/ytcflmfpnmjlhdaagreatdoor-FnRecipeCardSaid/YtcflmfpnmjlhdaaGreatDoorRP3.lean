/- Pools drawn, texts drawn and dented, terms measured. Under: the drawn bytes are no longer than memory. And what follows it: see the remarks. -/
import Derived.Test.YtcflmfpnmjlhdaaGreatDoorRP2
import Derived.Test.YtcflmfpnmjlhdaaGreatDoorRows
import Derived.Test.YtcflmfpnmjlhdaaGreatDoorRALo
import Derived.ProofKit
import Derived.OpenShut
import Derived.Deep.DeepHandedRow
import Derived.Shelf.Vars
import Derived.Stop.LaidErr
import Derived.LaidLaws
namespace Go.Proofs.YtcflmfpnmjlhdaaGreatDoor
namespace AM
open Go
set_option linter.unusedVariables false
set_option linter.unusedSimpArgs false
theorem uI{n:Nat}:∀{r pre:List ae},cE n pre r=true→∀j,j<r.length→r.getD j aM∉pre++r.take j
 |[],pre,_,j,hj=>absurd hj (Nat.not_lt_zero _)
 |k::r,pre,h,j,hj=>by
  have h:((!pre.contains k&&dm n (k.1,k.2.1,k.2.2,(pre.length:Int)))&&cE n (pre++[k]) r)=true:=h
  rw[Bool.and_eq_true,Bool.and_eq_true]at h
  match j with
  |0 =>
   intro q
   have h1:=h.1.1
   have q:k∈pre:=by simpa using q
   rw[List.contains_iff_mem.2 q]at h1
   cases h1
  |j+1 =>
   have:=uI h.2 j (by simpa using hj)
   intro q
   refine this ?_
   rw[List.take_succ_cons]at q
   rw[List.append_assoc]
   exact q
theorem DN{xs:List ae}(hp:aw xs=true){i j:Nat}(hi:i<xs.length) (hj:j<xs.length) (h:xs.getD i aM=xs.getD j aM):i=j:=by
 unfold aw at hp
 rw[Bool.and_eq_true]at hp
 have key:∀{a b:Nat},a<b→b<xs.length→xs.getD a aM≠xs.getD b aM:=fun{a b} hab hb q=>by
  have:=uI hp.2 b hb
  rw[List.nil_append, ←q]at this
  refine this ?_
  rw[List.getD_eq_getElem?_getD,List.getElem?_eq_getElem (by omega),Option.getD_some]
  exact List.mem_take_iff_getElem.2 ⟨a,by omega,rfl⟩
 rcases Nat.lt_trichotomy i j with q|q|q
 ·exact absurd h (key q hj)
 ·exact q
 ·exact absurd h.symm (key q hi)
theorem IL{xs:List ae}(hp:aw xs=true){t:Nat}(ht:t<xs.length):gZ xs (xs.getD t aM)=some t:=by
 cases hf:gZ xs (xs.getD t aM)with
 |none=>exact absurd rfl (yc hf t (Nat.zero_le _) (by omega))
 |some j =>
  obtain⟨_,h2,h3⟩:=mR hf
  rw[DN hp (by omega) ht h3]
def gN (x:ae):List Int:=bif x.1==5 then [x.2.1]else bif x.1==7 then [x.2.1]else bif x.1==2 then [x.2.1,x.2.2]else bif x.1==3 then [x.2.1,x.2.2]else bif x.1==4 then [x.2.1,x.2.2]else bif x.1==6 then [x.2.1,x.2.2]else bif x.1==8 then [x.2.1,x.2.2]else []
theorem Bu{xs:List ae}{t:Nat}(ht:t<xs.length):ge N0 (xs,(t:Int))=some (gN (xs.getD t aM)):=by
 unfold ge
 dsimp only
 rw[ax ht,cond_true,Int.toNat_natCast]
 generalize xs.getD t aM=X
 unfold aY gN
 cases h1:(X.1==1)with
 |true =>
  have e:X.1=1:=by simpa using h1
  rw[e];rfl
 |false =>
  cases(X.1==5)<;>cases(X.1==7)<;>cases(X.1==2)<;>cases(X.1==3)<;>cases(X.1==4)<;>cases(X.1==6)<;>cases(X.1==8)<;>rfl
theorem pR{k a b:Int}{i:Nat}(hi:i≤4294967296) (h:dm N0 (k,a,b,(i:Int))=true):(k=1∧0≤a∧a≤199)∨((k=5∨k=7)∧0≤a∧a<(i:Int))∨((k=2∨k=3∨k=4∨k=6∨k=8)∧0≤a∧a<(i:Int)∧0≤b∧b<(i:Int)):=by
 have w:IntKind.i64.wrap ((i:Int)-(1:Int))=(i:Int)-1:=ao (by omega) (by omega)
 have hr:∀v lo hi:Int,aE N0 (v,lo,hi)=some (decide (v≥lo)&&decide (v≤hi)):=fun v lo hi=>by
  unfold aE
  cases q:decide (v≥lo)<;>(simp[q])
 have hk:dm N0 (k,a,b,(i:Int))=(aQ N0 (k,a,b,(i:Int))).getD false:=rfl
 rw[hk]at h
 unfold aQ at h
 dsimp only at h
 rw[w,hr,hr,hr]at h
 by_cases h1:k=1
 ·subst h1
  rw[show aH N0 1=some 0 from rfl]at h
  left
  cases q:(decide (a≥0)&&decide (a≤199))with
  |false=>simp only[Option.bind_some,beq_self_eq_true,cond_true,q]at h;cases h
  |true =>
   rw[Bool.and_eq_true,decide_eq_true_iff,decide_eq_true_iff]at q
   exact⟨rfl,q.1,q.2⟩
 by_cases h5:k=5∨k=7
 ·right;left
  have hc:aH N0 k=some 1:=by rcases h5 with rfl|rfl<;>rfl
  rw[hc]at h
  cases q:(decide (a≥0)&&decide (a≤(i:Int)-1))with
  |false=>simp only[Option.bind_some,show((1:Int)==0)=false from rfl,beq_self_eq_true,cond_true,cond_false,q]at h;cases h
  |true =>
   rw[Bool.and_eq_true,decide_eq_true_iff,decide_eq_true_iff]at q
   exact⟨h5,q.1,by omega⟩
 by_cases h2:k=2∨k=3∨k=4∨k=6∨k=8
 ·right;right
  have hc:aH N0 k=some 2:=by rcases h2 with rfl|rfl|rfl|rfl|rfl<;>rfl
  rw[hc]at h
  cases q:(decide (a≥0)&&decide (a≤(i:Int)-1))with
  |false=>simp only[Option.bind_some,show((2:Int)==0)=false from rfl,show((2:Int)==1)=false from rfl,beq_self_eq_true,cond_true,cond_false,q]at h;cases h
  |true =>
   cases q2:(decide (b≥0)&&decide (b≤(i:Int)-1))with
   |false=>simp only[Option.bind_some,show((2:Int)==0)=false from rfl,show((2:Int)==1)=false from rfl,beq_self_eq_true,cond_true,cond_false,q,q2]at h;cases h
   |true =>
    rw[Bool.and_eq_true,decide_eq_true_iff,decide_eq_true_iff]at q q2
    exact⟨h2,q.1,by omega,q2.1,by omega⟩
 exfalso
 have hc:∃c,aH N0 k=some c∧c≠0∧c≠1∧c≠2:=by
  unfold aH
  simp only[show(k==1)=false from by rw[beq_eq_false_iff_ne];exact h1,show(k==2)=false from by rw[beq_eq_false_iff_ne];omega,show(k==3)=false from by rw[beq_eq_false_iff_ne];omega,show(k==4)=false from by rw[beq_eq_false_iff_ne];omega,show(k==5)=false from by rw[beq_eq_false_iff_ne];omega,show(k==6)=false from by rw[beq_eq_false_iff_ne];omega,show(k==7)=false from by rw[beq_eq_false_iff_ne];omega,show(k==8)=false from by rw[beq_eq_false_iff_ne];omega,cond_false]
  exact⟨_,rfl,by decide,by decide,by decide⟩
 obtain⟨c,hc,c0,c1,c2⟩:=hc
 rw[hc]at h
 simp only[Option.bind_some,show(c==0)=false from by rw[beq_eq_false_iff_ne];exact c0,show(c==1)=false from by rw[beq_eq_false_iff_ne];exact c1,show(c==2)=false from by rw[beq_eq_false_iff_ne];exact c2,cond_false]at h
 cases h
theorem zJ{xs:List ae}(hp:aw xs=true){t:Nat}(ht:t<xs.length):∀v∈gN (xs.getD t aM),0≤v∧v<(t:Int):=by
 have hl:=ap hp
 have h:=pR (by omega) (j7 hp ht)
 generalize xs.getD t aM=X at h
 obtain⟨k,a,b⟩:=X
 unfold gN
 dsimp only at h ⊢
 intro v hv
 rcases h with⟨rfl,_⟩|⟨h5,h1,h2⟩|⟨h5,h1,h2,h3,h4⟩
 ·cases hv
 ·rcases h5 with rfl|rfl<;>(have hv:v∈[a]:=hv;rw[List.mem_singleton.1 hv];exact⟨h1,h2⟩)
 ·have hv:v∈[a,b]:=by rcases h5 with rfl|rfl|rfl|rfl|rfl<;>exact hv
  rcases List.mem_cons.1 hv with rfl|hv
  ·exact⟨h1,h2⟩
  ·rw[List.mem_singleton.1 hv];exact⟨h3,h4⟩
theorem FW{xs:List ae}{ys:List ae}{t:Int}{a:Int}(hp:aw xs=true) (h0:0≤a) (h1:a≤199):dm N0 (1,a,0,(xs.length:Int))=true:=by
 have hr:∀v lo hi:Int,aE N0 (v,lo,hi)=some (decide (v≥lo)&&decide (v≤hi)):=fun v lo hi=>by
  unfold aE
  cases q:decide (v≥lo)<;>(simp[q])
 show(aQ N0 (1,a,0,(xs.length:Int))).getD false=true
 unfold aQ
 dsimp only
 rw[hr,show aH N0 1=some 0 from rfl]
 simp only[Option.bind_some,beq_self_eq_true,cond_true,decide_eq_true h0,decide_eq_true h1,Bool.and_self]
 rfl
theorem BP{i:Nat}(h0:0<i) (hi:i≤4294967296):dm N0 (5,(i:Int)-1,0,(i:Int))=true:=by
 have w:IntKind.i64.wrap ((i:Int)-(1:Int))=(i:Int)-1:=ao (by omega) (by omega)
 have hr:∀v lo hi:Int,aE N0 (v,lo,hi)=some (decide (v≥lo)&&decide (v≤hi)):=fun v lo hi=>by
  unfold aE
  cases q:decide (v≥lo)<;>(simp[q])
 show(aQ N0 (5,(i:Int)-1,0,(i:Int))).getD false=true
 unfold aQ
 dsimp only
 rw[w,hr,hr,hr,show aH N0 5=some 1 from rfl]
 simp only[Option.bind_some,show((1:Int)==0)=false from rfl,beq_self_eq_true,cond_true,cond_false,decide_eq_true (show(i:Int)-1≥0 by omega),decide_eq_true (show(i:Int)-1≤(i:Int)-1 by omega),Bool.and_self]
 rfl
def Cb (xs:List ae):Prop:=∀n∈xs,n.1=1∨n.1=5
theorem AS{xs ys:List ae}{kd a t:Int}(hk:kd=1∨kd=5) (h:Cb xs) (hp:aw xs=true) (e:ch N0 (xs,kd,a,0)=some (ys,t)):Cb ys:=by
 rw[dh hp]at e
 have e:js xs (jj xs kd a 0)=(ys,t):=Option.some.inj e
 have hn:mg kd a 0=(kd,(a,(0:Int))):=by rcases hk with rfl|rfl<;>rfl
 have ha:jj xs kd a 0=qr xs (kd,(a,(0:Int))):=by unfold jj;rw[hn]
 rw[ha]at e
 unfold qr at e
 dsimp only at e
 cases q:dm N0 (kd,a,0,(xs.length:Int))with
 |false =>
  rw[q,cond_false]at e
  obtain⟨rfl,_⟩:=Prod.mk.inj e
  exact h
 |true =>
  rw[q,cond_true]at e
  split at e
  ·obtain⟨rfl,_⟩:=Prod.mk.inj e
   exact h
  ·split at e
   ·obtain⟨rfl,_⟩:=Prod.mk.inj e
    exact h
   ·obtain⟨rfl,_⟩:=Prod.mk.inj e
    intro n hn'
    rcases List.mem_append.1 hn' with g|g
    ·exact h n g
    ·rw[List.mem_singleton.1 g];exact hk
theorem vA{b:List Int}{i h:Int}{l0:List ae}:∀(m:Nat) (xs:List ae),aw xs=true→Cb xs→500<m+xs.length→∃ys,bu N0 m (b,i,h,l0,xs)=some (b,i,h,l0,ys)∧ys.length≤500∧Cb ys
 |0,xs,hp,hf0,hm=>by have:=ap hp;omega
 |m+1,xs,hp,hf0,hm=>by
  have hl:=ap hp
  unfold bu
  dsimp only
  by_cases hq:xs.length<500
  ·rw[decide_eq_true (show(xs.length:Int)<500 by omega),cond_true,show((200:Int) != 0)=true from rfl,cond_true]
   obtain⟨ys,t,e1,p1,l1,l2⟩:=vB hp 1 (((xs.length:Int)).tmod 200) 0
   have f1:=AS (.inl rfl) hf0 hp e1
   rw[e1,Option.bind_some]
   dsimp only
   have hyl:=ap p1
   have hpos:0<ys.length:=by
    by_cases hz:xs.length=0
    ·obtain rfl:=List.eq_nil_of_length_eq_zero hz
     rw[dh hp]at e1
     have ha:jj [] 1 (((([]:List ae).length:Int)).tmod 200) 0=some ([(1,0,0)],0):=by
      have hn:=FW (ys:=[]) (t:=0) (a:=0) (xs:=[]) hp (by decide) (by decide)
      show qr [] (1,0,0)=_
      unfold qr
      rw[show dm N0 (((1:Int),(0:Int),(0:Int)).1,((1:Int),(0:Int),(0:Int)).2.1,((1:Int),(0:Int),(0:Int)).2.2,((([]:List ae).length:Nat):Int))=true from hn]
      rfl
     rw[ha]at e1
     obtain⟨rfl,_⟩:=Prod.mk.inj (Option.some.inj e1)
     exact Nat.zero_lt_one
    ·omega
   rw[ao (n:=(ys.length:Int)-1) (by omega) (by omega)]
   by_cases hy:ys.length<500
   ·have hn:=BP hpos (by omega)
    have hf:gZ ys (5,(ys.length:Int)-1,0)=none:=by
     cases hf:gZ ys (5,(ys.length:Int)-1,0)with
     |none=>rfl
     |some j =>
      exfalso
      obtain⟨_,j1,j2⟩:=mR hf
      have hj:=pR (by omega) (j7 p1 (j:=j) (by omega))
      rw[j2]at hj
      dsimp only at hj
      omega
    have ha:jj ys 5 ((ys.length:Int)-1) 0=some (ys++[(5,(ys.length:Int)-1,0)],(ys.length:Int)):=by
     show qr ys (5,(ys.length:Int)-1,0)=_
     unfold qr
     dsimp only
     rw[hn,cond_true,hf]
     dsimp only
     rw[if_neg (by omega)]
    have p2:=(vC p1 ha).1.1
    rw[dh p1,ha]
    rw[Option.bind_some]
    exact vA m (ys++[(5,(ys.length:Int)-1,0)]) p2 (fun n hn=>by
     rcases List.mem_append.1 hn with g|g
     ·exact f1 n g
     ·rw[List.mem_singleton.1 g];exact .inr rfl) (by rw[List.length_append,List.length_singleton];omega)
   ·obtain⟨zs,u,e2,p2,l3,l4⟩:=vB p1 5 ((ys.length:Int)-1) 0
    have f2:=AS (.inr rfl) f1 p1 e2
    rw[e2,Option.bind_some]
    have:=ap p2
    exact vA m zs p2 f2 (by omega)
  ·rw[decide_eq_false (show ¬(xs.length:Int)<500 by omega),cond_false]
   exact⟨xs,rfl,hl,hf0⟩
theorem yR{b:List Int}{i:Int}(h:Int) (xs:List ae) (hx:xs.length≤26) (hc:Cu b i):∃i' h' ys,((cZ N0 (b,i,h,(80:Int))).bind fun r5=>(cond r5.2.2.2 ((bu N0 N0 (r5.1,r5.2.1,r5.2.2.1,[],([]:List ae))).bind fun e8=>(some (e8.1,e8.2.1,e8.2.2.1,e8.2.2.2.2))) (some (r5.1,r5.2.1,r5.2.2.1,xs))))=some (b,i',h',ys)∧Cu b i'∧ys.length≤501∧(ys.length≤26∨Cb ys):=by
 obtain⟨i1,h1,v1,e1,c1⟩:=qK N0 h 80 hc
 rw[e1,Option.bind_some]
 dsimp only
 cases v1 with
 |true =>
  have:=n0
  obtain⟨ys,e2,l2,l3⟩:=vA (b:=b) (i:=i1) (h:=h1) (l0:=[]) N0 [] wE (fun n hn=>by cases hn) (by simp;omega)
  rw[cond_true,e2,Option.bind_some]
  exact⟨_,_,_,rfl,c1,(show ys.length≤501 by omega), .inr l3⟩
 |false=>exact⟨_,_,_,rfl,c1,(show xs.length≤501 by omega), .inl hx⟩
theorem ut {α:Type}{xs:List α}(h:xs.length≤1000){k:α}:cJ (xs.length+[k].length)=true:=by
 unfold cJ;rw[List.length_singleton];exact decide_eq_true (by omega)
theorem BO{b:List Int}{i:Int}(h:Int) (hc:Cu b i):∃i' h' xs,gi N0 (b,i,h)=some (b,i',h',xs)∧Cu b i'∧xs.length≤501∧(xs.length≤26∨Cb xs):=by
 unfold gi
 dsimp only
 obtain⟨i1,h1,xs,e1,c1,p1,l1⟩:=AD h (k:=24) (by decide) (by decide) hc
 rw[e1,Option.bind_some]
 dsimp only
 obtain⟨i2,h2,v2,e2,c2,_⟩:=dA N0 h1 25 c1
 rw[e2,Option.bind_some]
 dsimp only
 have cp:=vp (xs:=xs) (by omega)
 cases(v2==0)with
 |true =>
  rw[cond_true,cp,Option.bind_some]
  obtain⟨i3,h3,kd,x,y,e3,c3⟩:=tv N0 h2 (k:=3) (by decide) c2
  rw[e3,Option.bind_some]
  dsimp only
  rw[ut (by omega),cond_true]
  exact yR h3 _ (by simp;omega) c3
 |false =>
  rw[cond_false]
  cases(v2==1)with
  |true =>
   rw[cond_true,cp,Option.bind_some]
   obtain⟨i3,h3,v3,e3,c3,_⟩:=dA N0 h2 10 c2
   rw[e3,Option.bind_some]
   dsimp only
   obtain⟨i4,h4,v4,e4,c4,_⟩:=dA N0 h3 30 c3
   rw[e4,Option.bind_some]
   dsimp only
   obtain⟨i5,h5,v5,e5,c5,_⟩:=dA N0 h4 30 c4
   rw[e5,Option.bind_some]
   dsimp only
   rw[ut (by omega),cond_true]
   exact yR h5 _ (by simp;omega) c5
  |false =>
   rw[cond_false]
   exact yR h2 _ (by omega) c2
theorem Cy (n:Nat){b:List Int}{i:Int}(h:Int) (l:List ByteArray) (k:Nat) (hl:l≠[]) (hk:∀s∈l,s.size≤k) (hc:Cu b i):∃i' h' v,du n (b,i,h,l)=some (b,i',h',v)∧Cu b i'∧v.size≤k:=by
 unfold du
 dsimp only
 obtain⟨i1,h1,v1,e1,c1,hb⟩:=dA n h (l.length:Int) hc
 have hpos:0<l.length:=List.length_pos_iff.2 hl
 rw[e1,Option.bind_some]
 dsimp only
 have hv:0≤v1∧v1<(l.length:Int):=by
  rcases hb with⟨q,_⟩|q
  ·omega
  ·exact q
 have e:v1=((v1.toNat:Nat):Int):=by omega
 have hin:ah v1 l.length=true:=by rw[e];exact ax (by omega)
 rw[hin,cond_true]
 refine⟨_,_,_,rfl,c1,hk _ ?_⟩
 rw[List.getD_eq_getElem?_getD,List.getElem?_eq_getElem (by omega),Option.getD_some]
 exact List.getElem_mem _
theorem cw (a b:ByteArray):(a++b).size=a.size+b.size:=ByteArray.size_append
theorem pL (l:List Int):(kT l).size=l.length:=by
 show(l.map _).toArray.size=_
 rw[List.size_toArray,List.length_map]
theorem wR:∀(k m:Nat) (x:Int) (s:ByteArray),0≤x→x≤1000000→x<10 ^ k→k<m→s.size+k≤1000→∃r,dt N0 m (x,s)=some r∧r.size≤s.size+k
 |_,0,x,s,_,_,_,h,_=>by omega
 |0,m+1,x,s,h0,hx,h1,hm,hs=>by
  unfold dt
  dsimp only
  rw[decide_eq_false (show ¬x>0 by have:(10:Int) ^ 0=1:=rfl;omega),cond_false]
  exact⟨s,rfl,by omega⟩
 |k+1,m+1,x,s,h0,hx,h1,hm,hs=>by
  unfold dt
  dsimp only
  by_cases hq:x>0
  ·rw[decide_eq_true hq,cond_true,show((10:Int) != 0)=true from rfl,cond_true,cD (by rw[pL,List.length_singleton];omega),cond_true,cond_true]
   have hd:x.tdiv 10=x / 10:=Int.tdiv_eq_ediv_of_nonneg h0
   have h2:x / 10<10 ^ k:=by
    rw[Int.pow_succ]at h1
    omega
   rw[hd,ao (n:=x / 10) (by omega) (by omega)]
   obtain⟨r,e1,e2⟩:=wR k m (x / 10) (kT [(IntKind.u8.wrap (IntKind.i64.wrap ((48:Int)+(x.tmod (10:Int)))))]++s) (by omega) (by omega) h2 (by omega) (by rw[cw,pL,List.length_singleton];omega)
   exact⟨r,e1,by rw[cw,pL,List.length_singleton]at e2;omega⟩
  ·rw[decide_eq_false hq,cond_false]
   exact⟨s,rfl,by omega⟩
theorem uf (s:ByteArray) (l h:Int):(sub s l h).size≤s.size:=by
 unfold sub
 rw[ByteArray.size_extract]
 omega
theorem Fp{l:Int}{n:Nat}(h0:0≤l) (h1:l≤(n:Int)):rG 0 l n=true∧rG l (n:Int) n=true:=⟨decide_eq_true (by omega),decide_eq_true (by omega)⟩
theorem IR{b:List Int}{i:Int}(h:Int){s:ByteArray}(l:List ByteArray) (hl:l≠[]) (hk:∀s∈l,s.size≤2) (hs:s.size≤1000) (hc:Cu b i):∃i' h' r,j0 N0 (b,i,h,s,l)=some (b,i',h',r)∧Cu b i'∧r.size≤2002:=by
 unfold j0
 dsimp only
 rw[ao (n:=(s.size:Int)+1) (by omega) (by omega)]
 obtain⟨i1,h1,v1,e1,c1,b1⟩:=dA N0 h ((s.size:Int)+1) hc
 have hv:0≤v1∧v1≤(s.size:Int):=by
  rcases b1 with⟨q,_⟩|q
  ·omega
  ·omega
 rw[e1,Option.bind_some]
 dsimp only
 obtain⟨i2,h2,v2,e2,c2,_⟩:=dA N0 h1 3 c1
 rw[e2,Option.bind_some]
 dsimp only
 obtain⟨r1,r2⟩:=Fp hv.1 hv.2
 have z1:=uf s 0 v1
 cases(v2==0)with
 |true =>
  rw[cond_true,r1,cond_true]
  exact⟨_,_,_,rfl,c2,(show(sub s 0 v1).size≤2002 by omega)⟩
 |false =>
  rw[cond_false]
  obtain⟨i3,h3,v3,e3,c3,q3⟩:=Cy N0 h2 l 2 hl hk c2
  cases(v2==1)with
  |true =>
   rw[cond_true]
   unfold lc
   dsimp only
   rw[r1,cond_true,e3,Option.bind_some]
   dsimp only
   rw[cD (by omega),cond_true,ao (n:=v1+1) (by omega) (by omega)]
   obtain⟨u,hu,u0,u1⟩:∃u,gf N0 (v1+1,(s.size:Int))=some u∧0≤u∧u≤(s.size:Int):=by
    unfold gf
    dsimp only
    by_cases q:v1+1<(s.size:Int)
    ·rw[decide_eq_true q,cond_true];exact⟨_,rfl,by omega,by omega⟩
    ·rw[decide_eq_false q,cond_false];exact⟨_,rfl,by omega,by omega⟩
   have z2:=uf s u (s.size:Int)
   rw[hu,Option.bind_some,(Fp u0 u1).2,cond_true,cD (by rw[cw];omega),cond_true,Option.bind_some]
   exact⟨_,_,_,rfl,c3,by rw[cw,cw];omega⟩
  |false =>
   rw[cond_false]
   unfold lb
   dsimp only
   have z2:=uf s v1 (s.size:Int)
   rw[r1,cond_true,e3,Option.bind_some]
   dsimp only
   rw[cD (by omega),cond_true,r2,cond_true,cD (by rw[cw];omega),cond_true,Option.bind_some]
   exact⟨_,_,_,rfl,c3,by rw[cw,cw];omega⟩
theorem yy{xs:List ae}(hp:aw xs=true){t:Nat}(ht:t<xs.length):dG N0 (xs,(t:Int))=some (xs,gN (xs.getD t aM)):=by
 have hl:=ap hp
 have h:=pR (by omega) (j7 hp ht)
 unfold dG
 dsimp only
 rw[ax ht,cond_true,Int.toNat_natCast]
 generalize xs.getD t aM=X at h
 obtain⟨k,a,b⟩:=X
 dsimp only at h ⊢
 rcases h with⟨rfl,_⟩|⟨h5,_⟩|⟨h5,_⟩
 ·rfl
 ·rcases h5 with rfl|rfl<;>rfl
 ·rcases h5 with rfl|rfl|rfl|rfl|rfl<;>rfl
def Ld (v:Int):Prop:=1≤v∧v≤1001
theorem uj{xs:List ae}{t:Int}{at_:Nat}{x4:Int}:∀(r pre:List Int) (ss:List Int) (m:Nat),r.length<m→pre.length+r.length≤100→(∀v∈r,0≤v∧v<(at_:Int))→at_<ss.length→(∀i:Nat,i≤at_→Ld (ss.getD i 0)) →
  ∃ss',bJ N0 m (xs,t,ss,(at_:Int),x4,(at_:Int),pre++r,((pre++r).length:Int),(pre.length:Int))=some (xs,t,ss',x4,(at_:Int))∧ss'.length=ss.length∧∀i:Nat,i≤at_→Ld (ss'.getD i 0)
 |_,_,_,0,h,_,_,_,_=>by omega
 |[],pre,ss,m+1,h,hl,hr,ha,hs=>by
  unfold bJ
  dsimp only
  rw[rZ,cond_false]
  exact⟨ss,rfl,rfl,hs⟩
 |v::r,pre,ss,m+1,h,hl,hr,ha,hs=>by
  obtain⟨v0,v1⟩:=hr v (List.mem_cons_self ..)
  obtain⟨p1,p2⟩:=hs at_ (Nat.le_refl _)
  obtain⟨q1,q2⟩:=hs v.toNat (by omega)
  have hin:ah v ss.length=true:=by rw[show v=((v.toNat:Nat):Int)by omega];exact ax (by omega)
  have hl':pre.length+(r.length+1)≤100:=hl
  unfold bJ
  dsimp only
  rw[rY,cond_true,sk,cond_true,Int.toNat_natCast,o4,ax ha,cond_true,hin,cond_true,cond_true,Int.toNat_natCast,ao (n:=ss.getD at_ 0+ss.getD v.toNat 0) (by omega) (by omega),ao (n:=(pre.length:Int)+1) (by omega) (by omega),o7, ←oT pre v]
  have hmn:Ld (mn (ss.getD at_ 0+ss.getD v.toNat 0) 1001):=by
   unfold mn Ld
   split<;>omega
  obtain⟨ss',e1,e2,e3⟩:=uj r (pre++[v]) (ss.set at_ (mn (ss.getD at_ 0+ss.getD v.toNat 0) 1001)) m (by simp at h;omega) (by simp;omega) (fun u hu=>hr u (List.mem_cons_of_mem _ hu)) (by rw[List.length_set];exact ha) (fun i hi=>by
   by_cases q:i=at_
   ·rw[q,xZ ha];exact hmn
   ·rw[List.getD_eq_getElem?_getD,List.getElem?_set_ne (Ne.symm q), ←List.getD_eq_getElem?_getD]
    exact hs i hi)
  exact⟨ss',e1,by rw[e2,List.length_set],e3⟩
theorem wv{xs:List ae}(hp:aw xs=true){t:Int}:∀(m j:Nat) (ss:List Int),ss.length≤xs.length→j≤ss.length→ss.length<m+j→(∀i:Nat,i<j→Ld (ss.getD i 0))→∃ss',cn N0 m (xs,t,ss,(ss.length:Int),(j:Int))=some (xs,t,ss')∧ss'.length=ss.length∧∀i:Nat,i<ss.length→Ld (ss'.getD i 0)
 |0,j,ss,hl,hj,hm,hs=>by omega
 |m+1,j,ss,hl,hj,hm,hs=>by
  have hxl:=ap hp
  have hN:=n0
  unfold cn
  dsimp only
  by_cases hq:j<ss.length
  ·rw[decide_eq_true (show(j:Int)<(ss.length:Int)by omega),cond_true,ax hq,cond_true,yy hp (by omega),Option.bind_some]
   dsimp only
   rw[Int.toNat_natCast]
   have hpl:(gN (xs.getD j aM)).length≤2:=by
    unfold gN
    cases((xs.getD j aM).1==5)<;>cases((xs.getD j aM).1==7)<;>cases((xs.getD j aM).1==2)<;>cases((xs.getD j aM).1==3)<;>cases((xs.getD j aM).1==4)<;>cases((xs.getD j aM).1==6)<;>cases((xs.getD j aM).1==8)<;>simp
   obtain⟨ss',e1,e2,e3⟩:=uj (xs:=xs) (t:=t) (at_:=j) (x4:=(ss.length:Int)) (gN (xs.getD j aM)) [] (ss.set j 1) N0 (by omega) (by rw[List.length_nil];omega) (zJ hp (by omega)) (by rw[List.length_set];exact hq) (fun i hi=>by
    by_cases q:i=j
    ·rw[q,xZ hq];exact⟨by decide,by decide⟩
    ·rw[List.getD_eq_getElem?_getD,List.getElem?_set_ne (Ne.symm q), ←List.getD_eq_getElem?_getD]
     exact hs i (by omega))
   have e1:bJ N0 N0 (xs,t,ss.set j 1,(j:Int),(ss.length:Int),(j:Int),gN (xs.getD j aM),((gN (xs.getD j aM)).length:Int),(0:Int))=_:=e1
   have el:ss'.length=ss.length:=by rw[e2,List.length_set]
   rw[e1,Option.bind_some]
   dsimp only
   rw[ao (n:=(j:Int)+1) (by omega) (by omega),show(j:Int)+1=((j+1:Nat):Int)by omega, ←el]
   obtain⟨ss2,f1,f2,f3⟩:=wv hp m (j+1) ss' (t:=t) (by omega) (by omega) (by omega) (fun i hi=>e3 i (by omega))
   exact⟨ss2,f1,f2,f3⟩
  ·rw[decide_eq_false (show ¬(j:Int)<(ss.length:Int)by omega),cond_false]
   exact⟨ss,rfl,rfl,fun i hi=>hs i (by omega)⟩
theorem EC{kn:List Int}{B:Nat}(ha:kn.Pairwise (·<·)) (h:∀v∈kn,0≤v∧v<(B:Int)):kn.length≤B:=by
 have:=(t7 (b:=(List.range B).map (fun(i:Nat)=>(i:Int))) (a:=kn) ha (by
  rw[List.pairwise_map]
  exact List.pairwise_lt_range.imp (fun h=>by omega)) (fun x hx=>by
  obtain⟨h0,h1⟩:=h x hx
  exact List.mem_map.2 ⟨x.toNat,List.mem_range.2 (by omega),by omega⟩)).1
 rwa [List.length_map,List.length_range]at this
def AW (xs:List ae) (kn:List Int):Prop:=(∀v∈kn,v<200)∨(∀v∈kn,(xs.getD v.toNat aM).1=1∨(xs.getD v.toNat aM).1=5)
theorem tT{xs:List ae}{F:List Bool}{x:Int}:∀{r:List Int},x∈vM xs F r↔∃v∈r,x∈A0 xs F v
 |[]=>⟨fun h=>(by cases h),fun⟨_,h,_⟩=>(by cases h)⟩
 |v::r=>by
  rw[vM,List.mem_append,tT (r:=r)]
  constructor
  ·rintro (h|⟨u,h1,h2⟩)
   ·exact⟨v,List.mem_cons_self ..,h⟩
   ·exact⟨u,List.mem_cons_of_mem _ h1,h2⟩
  ·rintro ⟨u,h1,h2⟩
   rcases List.mem_cons.1 h1 with rfl|h1
   ·exact .inl h2
   ·exact .inr ⟨u,h1,h2⟩
theorem JU{xs:List ae}(hp:aw xs=true){F:List Bool}{v x:Int}(h0:0≤v) (h1:v<(xs.length:Int)) (hx:x∈A0 xs F v):0≤x∧x<v:=by
 have hc:=dF hp (show v.toNat<xs.length by omega)
 have h:(xs.getD v.toNat aM).1=2∨(xs.getD v.toNat aM).1=3∨(xs.getD v.toNat aM).1=4→(0≤(xs.getD v.toNat aM).2.1∧(xs.getD v.toNat aM).2.1<v)∧0≤(xs.getD v.toNat aM).2.2∧(xs.getD v.toNat aM).2.2<v:=by
  intro hk
  rcases hc with⟨a,_⟩|⟨a,_⟩|⟨a,b,c,d,e⟩
  ·omega
  ·omega
  ·exact⟨⟨b,by omega⟩,d,by omega⟩
 unfold A0 at hx
 cases q2:(xs.getD v.toNat aM).1==2 with
 |true =>
  obtain⟨g1,g2⟩:=h (.inl (by simpa using q2))
  rw[q2,cond_true]at hx
  rcases List.mem_cons.1 hx with e|e
  ·rw[e];exact g1
  ·rw[List.mem_singleton.1 e];exact g2
 |false =>
  rw[q2,cond_false]at hx
  cases q4:(xs.getD v.toNat aM).1==4 with
  |true =>
   obtain⟨g1,g2⟩:=h (.inr (.inr (by simpa using q4)))
   rw[q4,cond_true]at hx
   rw[List.mem_singleton.1 hx];exact g1
  |false =>
   rw[q4,cond_false]at hx
   cases q3:(xs.getD v.toNat aM).1==3 with
   |true =>
    obtain⟨g1,g2⟩:=h (.inr (.inl (by simpa using q3)))
    rw[q3,cond_true]at hx
    cases qf:fB F (xs.getD v.toNat aM).2.2 with
    |true =>
     rw[qf,cond_true]at hx
     rw[List.mem_singleton.1 hx];exact g1
    |false =>
     rw[qf,cond_false]at hx
     cases hx
   |false =>
    rw[q3,cond_false]at hx
    cases hx
theorem BD{xs:List ae}{kn:List Int}(h:A4 xs kn) (hc:AW xs kn):(ny xs kn).length≤200∧AW xs (ny xs kn):=by
 rcases hc with hc|hc
 ·have hb:∀x∈ny xs kn,0≤x∧x<((200:Nat):Int):=fun x hx=>by
   rcases List.mem_append.1 ((lL x).1 hx)with q|q
   ·have:=hc x q
    exact⟨(h.mem x q).1,by omega⟩
   ·obtain⟨v,hv,h2⟩:=tT.1 q
    have h3:=JU h.pool (h.mem v hv).1 (h.mem v hv).2 h2
    have:=hc v hv
    omega
  exact⟨EC (B:=200) (qI _) hb, .inl fun x hx=>by have:=(hb x hx).2;omega⟩
 ·have he:∀x,x∉vM xs (d8 xs kn) kn:=fun x hx=>by
   obtain⟨v,hv,h2⟩:=tT.1 hx
   unfold A0 at h2
   rcases hc v hv with q|q
   ·rw[q]at h2;cases h2
   ·rw[q]at h2;cases h2
  have e2:ny xs kn=kn:=yO (qI _) h.asc fun x=>by
   show x∈ny xs kn↔x∈kn
   rw[ny,lL,List.mem_append]
   exact⟨fun q=>q.elim id (fun q=>absurd q (he x)), .inl⟩
  rw[e2]
  exact⟨h.len, .inr hc⟩
theorem tj{xs:List ae}:∀(d:Nat) (kn:List Int) (c1:Int) (m1:Nat),200-kn.length≤d→d<m1→A4 xs kn→AW xs kn→∃kn' c1',bk N0 m1 (xs,kn,c1)=some (xs,kn',c1')∧A4 xs kn'∧(∀x∈kn,x∈kn')∧ny xs kn'=kn'
 |d,kn,c1,m1,hd,h1,hk,hc=>by
  obtain⟨i,rfl⟩:∃i,m1=i+1:=⟨m1-1,by omega⟩
  obtain⟨e1,e2,e3,e4,e5⟩:=wK hk
  obtain⟨q,hc'⟩:=BD hk hc
  have hl:=hk.len
  rw[bk]
  (try dsimp only)
  rw[e1,Option.bind_some]
  dsimp only
  rw[decide_eq_false (show ¬((ny xs kn).length:Int)>200 by omega),cond_false]
  by_cases q2:(ny xs kn).length=kn.length
  ·have:=e5 q2.symm
   have hb:(((ny xs kn).length:Int)==(kn.length:Int))=true:=by rw[q2];exact beq_self_eq_true _
   rw[hb,cond_true]
   exact⟨kn,c1,by rw[←this],hk,fun x hx=>hx,this.symm⟩
  ·have hb:(((ny xs kn).length:Int)==(kn.length:Int))=false:=by rw[beq_eq_false_iff_ne];omega
   rw[hb,cond_false]
   match d,hd with
   |0,hd=>omega
   |d+1,hd =>
    obtain⟨kn',c1',g1,g3,g4,g5⟩:=tj d (ny xs kn) (IntKind.i64.wrap (c1+1)) i (by omega) (by omega) (e3 q) hc'
    exact⟨kn',c1',g1,g3,fun x hx=>g4 x ((lL x).2 (List.mem_append_left _ hx)),g5⟩
theorem wd{xs:List ae}{kn:List Int}(h:A4 xs kn) (hc:AW xs kn):∃kn',A4 xs kn'∧co N0 (xs,kn)=some (xs,d8 xs kn')∧(∀x∈kn,x∈kn')∧ny xs kn'=kn':=by
 have hl:=h.len
 obtain⟨kn',c1,e1,e3,e4,e5⟩:=tj 200 kn 0 N0 (by omega) (by have:=n0;omega) h hc
 have hl':=e3.len
 refine⟨kn',e3,?_,e4,e5⟩
 unfold co eF
 (try dsimp only)
 rw[e1]
 simp only[Option.bind_some,uP h.pool (show kn'.length≤900 by omega) e3.mem]
theorem Jj{a b:Int}{i:Nat}(hi:i≤4294967296) (h:dm N0 (7,a,b,(i:Int))=true):b=0:=by
 have hr:∀v lo hi:Int,aE N0 (v,lo,hi)=some (decide (v≥lo)&&decide (v≤hi)):=fun v lo hi=>by
  unfold aE
  dsimp only
  cases decide (v≥lo)<;>rfl
 have h:(aQ N0 (7,a,b,(i:Int))).getD false=true:=h
 unfold aQ at h
 dsimp only at h
 rw[show aH N0 7=some 1 from rfl]at h
 simp only[hr,Option.bind_some,show((1:Int)==0)=false from rfl,beq_self_eq_true,cond_true,cond_false]at h
 cases q:(decide (a≥0)&&decide (a≤IntKind.i64.wrap ((i:Int)-1)))with
 |false=>rw[q]at h;cases h
 |true =>
  rw[q]at h
  have h:(b==0)=true:=h
  simpa using h
theorem Gk{xs:List ae}{kn kn':List Int}(h:A4 xs kn') (hs:∀x∈kn,x∈kn') (hcl:ny xs kn'=kn'){t:Int}(hd:nM kn xs t):(0≤t∧t<(xs.length:Int))∧fB (d8 xs kn') t=true:=by
 have hp:=h.pool
 have hl:=ap hp
 have get:∀{t:Int},0≤t→t<(xs.length:Int)→fB (d8 xs kn') t=(jl kn' t || nj xs kn' (d8 xs kn') t.toNat):=fun{t} h0 h1=>by
  have:=rD hp (kn:=kn') (t:=t.toNat) (by omega)
  rw[←ve,show((t.toNat:Nat):Int)=t by omega]at this
  exact this
 have has:∀{t:Int},t∈kn'↔jl kn' t=true:=fun{t}=>by rw[ml,List.contains_iff_mem]
 have mk:∀{t:Int},t∈kn'→(0≤t∧t<(xs.length:Int))∧fB (d8 xs kn') t=true:=fun{t} ht=>by
  have hr:=h.mem t ht
  refine⟨hr,?_⟩
  rw[get hr.1 hr.2,has.1 ht,Bool.true_or]
 have cl:∀{v x:Int},v∈kn'→x∈A0 xs (d8 xs kn') v→x∈kn':=fun{v x} hv hx=>by
  rw[←hcl]
  exact(lL x).2 (List.mem_append_right _ (tT.2 ⟨v,hv,hx⟩))
 have parts:∀{t:Int},0≤t→t<(xs.length:Int)→(xs.getD t.toNat aM).1=2∨(xs.getD t.toNat aM).1=3∨(xs.getD t.toNat aM).1=4→(0≤(xs.getD t.toNat aM).2.1∧(xs.getD t.toNat aM).2.1<(xs.length:Int))∧0≤(xs.getD t.toNat aM).2.2∧(xs.getD t.toNat aM).2.2<(xs.length:Int):=fun h0 h1 hk=>yd hp h0 h1 hk
 induction hd with
 |know u hu e =>
  rename_i t
  refine mk (hs _ ?_)
  rw[←e,List.getD_eq_getElem?_getD,List.getElem?_eq_getElem hu,Option.getD_some]
  exact List.getElem_mem _
 |pub hb k a b =>
  have hr:=d7.1 hb
  refine⟨hr,?_⟩
  rw[get hr.1 hr.2]
  unfold nj lG
  rw[k,decide_eq_true (show _≥_ from a),decide_eq_true b]
  simp
 |one hb k a ih =>
  have hr:=d7.1 hb
  refine⟨hr,?_⟩
  rw[get hr.1 hr.2]
  unfold nj lG
  rw[ih.2]
  rcases k with k|k<;>rw[k]<;>simp
 |two hb k a b ih1 ih2 =>
  have hr:=d7.1 hb
  refine⟨hr,?_⟩
  rw[get hr.1 hr.2]
  unfold nj lG
  rw[ih1.2,ih2.2]
  rcases k with k|k|k|k|k<;>rw[k]<;>simp
 |share hb hpp k kp e da dp ih1 ih2 =>
  rename_i t x p
  have hr:=d7.1 hb
  have hq:=d7.1 hpp
  refine⟨hr,?_⟩
  have hF:=ih2.2
  rw[get hq.1 hq.2]at hF
  have hnode:xs.getD p.toNat aM=((7:Int),((xs.getD p.toNat aM).2.1,(0:Int))):=by
   have hv:=j7 hp (j:=p.toNat) (by omega)
   rw[kp]at hv
   have hz:=Jj (by omega) hv
   exact Prod.ext kp (Prod.ext rfl hz)
  have hfind:=IL hp (t:=p.toNat) (by omega)
  rw[hnode]at hfind
  have hpow:fB (d8 xs kn') (xs.getD p.toNat aM).2.1=true∨tI xs kn' (d8 xs kn') (xs.getD p.toNat aM).2.1=true:=by
   rcases Bool.or_eq_true _ _▸hF with q|q
   ·right
    unfold tI
    rw[hfind]
    dsimp only
    rw[show((p.toNat:Nat):Int)=p by omega,q,Bool.or_true]
   ·left
    unfold nj lG at q
    rw[kp]at q
    simpa using q
  rw[get hr.1 hr.2]
  unfold nj lG
  rw[k]
  rcases e with⟨e1,e2⟩|⟨e1,e2⟩
  ·rw[e1,e2,ih1.2]
   rcases hpow with q|q<;>rw[q]<;>simp
  ·rw[e1,e2,ih1.2]
   rcases hpow with q|q<;>rw[q]<;>simp
 |left hb k a ih =>
  rename_i p
  have hr:=d7.1 hb
  obtain⟨g1,g2⟩:=parts hr.1 hr.2 (.inl k)
  have hF:=ih.2
  rw[get hr.1 hr.2]at hF
  rcases Bool.or_eq_true _ _▸hF with q|q
  ·exact mk (cl (has.2 q) (by unfold A0;rw[k];exact List.mem_cons_self ..))
  ·unfold nj lG at q
   rw[k]at q
   refine⟨g1,?_⟩
   simp at q
   exact q.1
 |right hb k a ih =>
  rename_i p
  have hr:=d7.1 hb
  obtain⟨g1,g2⟩:=parts hr.1 hr.2 (.inl k)
  have hF:=ih.2
  rw[get hr.1 hr.2]at hF
  rcases Bool.or_eq_true _ _▸hF with q|q
  ·exact mk (cl (has.2 q) (by unfold A0;rw[k];exact List.mem_cons_of_mem _ (List.mem_cons_self ..)))
  ·unfold nj lG at q
   rw[k]at q
   refine⟨g2,?_⟩
   simp at q
   exact q.2
 |sign hb k a ih =>
  rename_i p
  have hr:=d7.1 hb
  obtain⟨g1,g2⟩:=parts hr.1 hr.2 (.inr (.inr k))
  have hF:=ih.2
  rw[get hr.1 hr.2]at hF
  rcases Bool.or_eq_true _ _▸hF with q|q
  ·exact mk (cl (has.2 q) (by unfold A0;rw[k];exact List.mem_cons_self ..))
  ·unfold nj lG at q
   rw[k]at q
   refine⟨g1,?_⟩
   simp at q
   exact q.1
 |open_ hb k a b ih1 ih2 =>
  rename_i p
  have hr:=d7.1 hb
  obtain⟨g1,g2⟩:=parts hr.1 hr.2 (.inr (.inl k))
  have hF:=ih1.2
  rw[get hr.1 hr.2]at hF
  rcases Bool.or_eq_true _ _▸hF with q|q
  ·exact mk (cl (has.2 q) (by unfold A0;rw[k,ih2.2];exact List.mem_cons_self ..))
  ·unfold nj lG at q
   rw[k]at q
   refine⟨g1,?_⟩
   simp at q
   exact q.1
theorem wB:∀(m:Nat) (x:List Int×Int×List Int×Bool×Int),cd N0 m x=bA N0 m x
 |0,_=>rfl
 |m+1,x=>by
  rw[cd,bA]
  simp only[wB m]
theorem Cs (x:List Int×Int):gD N0 x=eI N0 x:=by
 unfold gD eI
 simp only[wB]
theorem qW{xs:List ae}{kn:List Int}(h:fj xs kn=true):A4 xs kn:=by
 obtain⟨h1,h2,h3⟩:=kY.1 h
 rw[oA]at h1
 refine⟨h3,h2,Gv (fun u hu=>?_),fun x hx=>?_⟩
 ·have:=h1 u (Nat.zero_le _) (by omega)
  unfold fu at this
  rw[Bool.and_eq_true]at this
  exact this.2
 ·obtain⟨j,hj,e⟩:=List.getElem_of_mem hx
  have:=h1 j (Nat.zero_le _) (by omega)
  unfold fu cU at this
  rw[Bool.and_eq_true,Bool.and_eq_true,decide_eq_true_iff,decide_eq_true_iff,List.getD_eq_getElem?_getD,List.getElem?_eq_getElem hj,Option.getD_some,e]at this
  omega
section
variable{b:List Int}
theorem xf{xs:List ae}(hx:xs.length≤501){nn:Int}(hn:nn≤8):∀(m j:Nat) (i h:Int) (kn:List Int),Cu b i→kn.length≤j→j≤8→8-j<m→∃i' h' kn',bZ N0 m (b,i,h,xs,kn,nn,(j:Int))=some (b,i',h',kn')∧Cu b i'∧kn'.length≤8
 |0,j,i,h,kn,hc,h1,h2,h3=>absurd h3 (by omega)
 |m+1,j,i,h,kn,hc,h1,h2,h3=>by
  rw[bZ]
  (try dsimp only)
  by_cases q:(j:Int)<nn
  ·rw[decide_eq_true q,cond_true]
   by_cases q2:(xs.length:Int)>0
   ·obtain⟨i1,h1',v,e1,c1,_⟩:=tZ N0 h (k:=(xs.length:Int)) (by omega) hc
    have hl:=qF kn v
    rw[decide_eq_true q2,cond_true,e1,Option.bind_some]
    (try dsimp only)
    rw[Cs,oK (by omega),Option.bind_some,ao (n:=(j:Int)+1) (by omega) (by omega),show(j:Int)+1=((j+1:Nat):Int)by omega]
    exact xf hx hn m (j+1) i1 h1' _ c1 (by omega) (by omega) (by omega)
   ·rw[decide_eq_false q2,cond_false]
    exact⟨_,_,_,rfl,hc,by omega⟩
  ·rw[decide_eq_false q,cond_false]
   exact⟨_,_,_,rfl,hc,by omega⟩
theorem qX:∀(m j:Nat) (i h:Int) (kn:List Int),Cu b i→kn.length≤8+j→j≤201→201-j<m→∃i' h' kn',cj N0 m (b,i,h,kn,(j:Int))=some (b,i',h',kn')∧Cu b i'∧kn'.length≤220
 |0,j,i,h,kn,hc,h1,h2,h3=>absurd h3 (by omega)
 |m+1,j,i,h,kn,hc,h1,h2,h3=>by
  obtain⟨i1,h1',v,e1,c1,b1⟩:=dA N0 h 2 hc
  have hv:0≤v∧v≤1:=by rcases b1 with⟨q,_⟩|⟨q1,q2⟩<;>omega
  rw[cj]
  (try dsimp only)
  rw[e1,Option.bind_some]
  (try dsimp only)
  rw[ao (n:=200+v) (by omega) (by omega)]
  by_cases q:(j:Int)<200+v
  ·have hl:=qF kn (j:Int)
   rw[decide_eq_true q,cond_true,Cs,oK (by omega),Option.bind_some,ao (n:=(j:Int)+1) (by omega) (by omega),show(j:Int)+1=((j+1:Nat):Int)by omega]
   exact qX m (j+1) i1 h1' _ c1 (by omega) (by omega) (by omega)
  ·rw[decide_eq_false q,cond_false]
   exact⟨_,_,_,rfl,c1,by omega⟩
theorem AE{i:Int}(h:Int){xs:List ae}(hx:xs.length≤501) (hc:Cu b i):∃i' h' kn,gb N0 (b,i,h,xs)=some (b,i',h',kn)∧Cu b i'∧kn.length≤220:=by
 have hN:=n0
 obtain⟨i1,h1,v1,e1,c1,b1⟩:=dA N0 h 8 hc
 obtain⟨i2,h2,kn,e2,c2,l2⟩:=xf (b:=b) hx (nn:=v1) (by rcases b1 with⟨q,_⟩|⟨q1,q2⟩<;>omega) N0 0 i1 h1 [] c1 (Nat.le_refl _) (by omega) (by omega)
 obtain⟨i3,h3,v3,e3,c3,b3⟩:=dA N0 h2 30 c2
 rw[show((0:Nat):Int)=0 from rfl]at e2
 have rm:∀l:List Int,l.length≤100→cJ (kn.length+l.length)=true:=fun l hl=>by
  unfold cJ
  exact decide_eq_true (by omega)
 unfold gb ii
 dsimp only
 rw[e1,Option.bind_some]
 dsimp only
 rw[e2,Option.bind_some,Option.bind_some]
 dsimp only
 rw[e3,Option.bind_some]
 dsimp only
 cases(v3==(0:Int))with
 |true =>
  rw[cond_true,rm _ (by simp),cond_true]
  exact⟨_,_,_,rfl,c3,(show(kn++[(xs.length:Int)]).length≤220 by rw[List.length_append,List.length_singleton];omega)⟩
 |false =>
 rw[cond_false]
 cases(v3==(1:Int))with
 |true =>
  rw[cond_true,rm _ (by omega),cond_true]
  exact⟨_,_,_,rfl,c3,(show(kn++kn).length≤220 by rw[List.length_append];omega)⟩
 |false =>
 rw[cond_false]
 cases(v3==(2:Int))with
 |true =>
  obtain⟨i4,h4,kn4,e4,c4,l4⟩:=qX (b:=b) N0 0 i3 h3 kn c3 (by omega) (by omega) (by omega)
  rw[show((0:Nat):Int)=0 from rfl]at e4
  rw[cond_true,e4]
  exact⟨_,_,_,rfl,c4,l4⟩
 |false=>exact⟨_,_,_,rfl,c3,(show kn.length≤220 by omega)⟩
end
theorem oS{F:List Bool}(hF:F.length≤1000):∀(m j:Nat) (out:List Int),j≤F.length→F.length-j<m→out.length≤j→∃r,cO N0 m (F,out,(j:Int))=some r∧r.length≤F.length
 |0,j,out,h1,h2,h3=>absurd h2 (by omega)
 |m+1,j,out,h1,h2,h3=>by
  rw[cO]
  (try dsimp only)
  by_cases q:j<F.length
  ·have rm:cJ (out.length+[(j:Int)].length)=true:=by
    unfold cJ
    exact decide_eq_true (by rw[List.length_singleton];omega)
   rw[pd q,cond_true,ax q,cond_true,rm,cond_true,bE q (by omega)]
   cases F.getD ((j:Int)).toNat false with
   |true=>exact oS hF m (j+1) (out++[(j:Int)]) q (by omega) (by rw[List.length_append,List.length_singleton];omega)
   |false=>exact oS hF m (j+1) out q (by omega) (by omega)
  ·rw[decide_eq_false (show ¬(j:Int)<(F.length:Int)by omega),cond_false]
   exact⟨out,rfl,by omega⟩
theorem vn{xs:List ae}{kn:List Int}(hx:xs.length≤4294967296) (hk:kn.length≤4294967296):∃r,eT N0 (xs,kn)=some r∧r.length≤500∧(fj xs kn=false→r=[]):=by
 have kSx:=j6 hx hk
 change cm N0 (xs,kn)=some (fj xs kn)at kSx
 unfold eT
 dsimp only
 rw[kSx,Option.bind_some]
 cases hv:fj xs kn with
 |false=>exact⟨[],rfl,by simp,fun _=>rfl⟩
 |true =>
  have K:=qW hv
  have hl:=ap K.pool
  obtain⟨kn',c,K',_,e2,e3⟩:=AF K
  have hl':=K'.len
  have kS':=j6 (xs:=xs) (k:=kn') hx (by omega)
  change cm N0 (xs,kn')=some (fj xs kn')at kS'
  rw[Bool.not_true,cond_false,e2,Option.bind_some]
  unfold iU jM
  dsimp only
  rw[kS',Option.bind_some,e3]
  cases fj xs kn' with
  |false =>
   rw[Bool.not_false,cond_true,Option.bind_some]
   have hN:=n0
   obtain⟨r,e4,l4⟩:=oS (F:=[]) (by simp) N0 0 [] (Nat.zero_le _) (by rw[List.length_nil];omega) (Nat.le_refl _)
   unfold j5
   rw[show((0:Nat):Int)=0 from rfl]at e4
   rw[e4]
   exact⟨r,rfl,Nat.le_trans l4 (by simp),fun q=>by cases q⟩
  |true =>
   have hN:=n0
   have hF:(d8 xs kn').length=xs.length:=mI xs kn' _
   obtain⟨r,e4,l4⟩:=oS (F:=d8 xs kn') (by omega) N0 0 [] (Nat.zero_le _) (by omega) (Nat.le_refl _)
   rw[Bool.not_true,cond_false,Option.bind_some,Option.bind_some]
   unfold j5
   rw[show((0:Nat):Int)=0 from rfl]at e4
   rw[e4]
   exact⟨r,rfl,by omega,fun q=>by cases q⟩
abbrev mz:=Int×(Int×(Int×Int))
abbrev eY:mz:=((0:Int),((0:Int),((0:Int),(0:Int))))
def EF {α:Type}(s:Option α):Prop:=∃v,s=some v
theorem cF {α:Type}{c:Bool}{A B:Option α}(h1:c=true→EF A) (h2:c=false→EF B):EF (cond c A B):=by
 cases c with
 |true=>exact h1 rfl
 |false=>exact h2 rfl
theorem DS (k:Int):EF (aY N0 k):=by
 unfold aY
 repeat' (first|exact⟨_,rfl⟩|refine cF (fun _=>?_) (fun _=>?_))
def dH (xs:List ae) (r t:Int):Int:=(bL N0 (xs,r,t,0,0)).getD 0
theorem qM{xs:List ae}{r t:Int}(h:ah t xs.length=true) (A B:Int):bL N0 (xs,r,t,A,B)=some (dH xs r t):=by
 have hz:bL N0 (xs,r,t,A,B)=bL N0 (xs,r,t,0,0):=rfl
 have ht:EF (bL N0 (xs,r,t,0,0)):=by
  unfold bL
  dsimp only
  rw[h]
  obtain⟨v,hv⟩:=DS (xs.getD t.toNat aM).1
  have hv':aY N0 (xs.getD t.toNat ((0:Int),((0:Int),(0:Int)))).1=some v:=hv
  rw[hv']
  repeat' (first|exact⟨_,rfl⟩|refine cF (fun _=>?_) (fun _=>?_))
 obtain⟨v,hv⟩:=ht
 rw[hz]
 unfold dH
 rw[hv];rfl
theorem yo (v lo hi:Int):cq N0 (v,lo,hi)=some (decide (v≥lo)&&decide (v≤hi)):=by
 unfold cq
 dsimp only
 cases decide (v≥lo)<;>rfl
theorem fv{xs:List ae}{t:Int}(h:cU xs t=true):ah t xs.length=true:=by
 have:=d7.1 h
 exact decide_eq_true ⟨by omega,by omega⟩
def vF (xs:List ae) (L:List mz) (i:Nat):Prop :=
 cU xs (L.getD i eY).2.1=true∧(0<dH xs (L.getD i eY).1 (L.getD i eY).2.1→0≤(L.getD i eY).2.2.1∧(L.getD i eY).2.2.1<(i:Int))∧(1<dH xs (L.getD i eY).1 (L.getD i eY).2.1→0≤(L.getD i eY).2.2.2∧(L.getD i eY).2.2.2<(i:Int))
theorem xV{xs:List ae}(hp:aw xs=true) (r t A B:Int):gk N0 (xs,r,t,A,B)=some (bif cU xs t then dH xs r t else -1):=by
 have hl:=ap hp
 have pS:=nP N0 n0 (xs:=xs) (by omega)
 change dS N0 xs=some (aw xs)at pS
 unfold gk
 dsimp only
 rw[pS,hp,Option.bind_some,Bool.not_true,cond_false,uZ N0 (by omega),Option.bind_some]
 cases h:cU xs t with
 |false=>rfl
 |true=>rw[Bool.not_true,cond_false,qM (fv h)];rfl
section
variable{xs:List ae}{L:List mz}
theorem I9 (hp:aw xs=true) (hL:L.length≤500):∀(m j:Nat),j≤L.length→L.length-j<m→(∀i,i<j→vF xs L i) →
  bl N0 m (L,xs,[],(L.length:Int),(j:Int))=some (Sum.inl [])∨(bl N0 m (L,xs,[],(L.length:Int),(j:Int))=some (Sum.inr (L,xs,[],(L.length:Int)))∧∀i,i<L.length→vF xs L i)
 |0,j,h1,h2,h3=>absurd h2 (by omega)
 |m+1,j,h1,h2,h3=>by
  rw[bl]
  (try dsimp only)
  by_cases q:j<L.length
  ·have ez:L.getD j ((0:Int),((0:Int),((0:Int),(0:Int))))=L.getD j eY:=rfl
   rw[pd q,cond_true,ax q,cond_true,Int.toNat_natCast,ez,xV hp,Option.bind_some,yo,yo,ao (n:=(j:Int)-1) (by omega) (by omega),bE q (by omega)]
   simp only[cond_true,Option.bind_some]
   cases hh:cU xs (L.getD j eY).2.1 with
   |false=>exact .inl rfl
   |true =>
    rw[cond_true]
    by_cases n0':dH xs (L.getD j eY).1 (L.getD j eY).2.1<0
    ·rw[decide_eq_true n0'];exact .inl rfl
    ·rw[decide_eq_false n0',cond_false]
     have next:vF xs L j→_:=fun hs=>I9 hp hL m (j+1) q (by omega) (fun i hi=>by
      rcases Nat.lt_succ_iff_lt_or_eq.1 hi with g|g
      ·exact h3 i g
      ·rw[g];exact hs)
     cases hA:(decide ((L.getD j eY).2.2.1≥0)&&decide ((L.getD j eY).2.2.1≤(j:Int)-1))with
     |false =>
      by_cases n1:dH xs (L.getD j eY).1 (L.getD j eY).2.1>0
      ·rw[decide_eq_true n1];exact .inl rfl
      ·rw[decide_eq_false n1,decide_eq_false (show ¬dH xs (L.getD j eY).1 (L.getD j eY).2.1>1 by omega)]
       exact next ⟨hh,fun g=>absurd g (by omega),fun g=>absurd g (by omega)⟩
     |true =>
      rw[Bool.and_eq_true,decide_eq_true_iff,decide_eq_true_iff]at hA
      cases hB:(decide ((L.getD j eY).2.2.2≥0)&&decide ((L.getD j eY).2.2.2≤(j:Int)-1))with
      |false =>
       by_cases n2:dH xs (L.getD j eY).1 (L.getD j eY).2.1>1
       ·rw[decide_eq_true n2,decide_eq_true (show dH xs (L.getD j eY).1 (L.getD j eY).2.1>0 by omega)];exact .inl rfl
       ·rw[decide_eq_false n2]
        cases decide (dH xs (L.getD j eY).1 (L.getD j eY).2.1>0)<;>exact next ⟨hh,fun g=>⟨by omega,by omega⟩,fun g=>absurd g (by omega)⟩
      |true =>
       rw[Bool.and_eq_true,decide_eq_true_iff,decide_eq_true_iff]at hB
       cases decide (dH xs (L.getD j eY).1 (L.getD j eY).2.1>0)<;>cases decide (dH xs (L.getD j eY).1 (L.getD j eY).2.1>1)<;>exact next ⟨hh,fun g=>⟨by omega,by omega⟩,fun g=>⟨by omega,by omega⟩⟩
  ·rw[decide_eq_false (show ¬(j:Int)<(L.length:Int)by omega),cond_false]
   exact .inr ⟨rfl,fun i hi=>h3 i (by omega)⟩
theorem EY (hL:L.length≤500) (hs:∀i,i<L.length→vF xs L i):∀(m k:Nat) (keep:List Bool),k≤L.length→k<m→keep.length=L.length→∃keep',aK N0 m (L,xs,[],(L.length:Int),keep,(k:Int)-1)=some (L,xs,[],(L.length:Int),keep')∧keep'.length=L.length
 |0,k,keep,h1,h2,h3=>absurd h2 (by omega)
 |m+1,k,keep,h1,h2,h3=>by
  rw[aK]
  (try dsimp only)
  by_cases q:0<k
  ·obtain⟨j,rfl⟩:∃j,k=j+1:=⟨k-1,by omega⟩
   have ej:((j+1:Nat):Int)-1=(j:Int):=by omega
   have ez:L.getD j ((0:Int),((0:Int),((0:Int),(0:Int))))=L.getD j eY:=rfl
   obtain⟨g1,g2,g3⟩:=hs j (by omega)
   have ij:ah (j:Int) L.length=true:=ax (by omega)
   have ih:=fun kp hk=>EY hL hs m j kp (by omega) (by omega) hk
   rw[ej,decide_eq_true (show(j:Int)≥0 by omega),cond_true,ij,cond_true,Int.toNat_natCast,ez,qM (fv g1),Option.bind_some,h3,ij,ao (n:=(j:Int)-1) (by omega) (by omega)]
   simp only[cond_true,List.length_set,h3,ij]
   by_cases n1:dH xs (L.getD j eY).1 (L.getD j eY).2.1>0
   ·have hA:ah (L.getD j eY).2.2.1 L.length=true:=by
     have:=g2 n1
     exact decide_eq_true ⟨by omega,by omega⟩
    rw[decide_eq_true n1]
    simp only[hA,cond_true]
    by_cases n2:dH xs (L.getD j eY).1 (L.getD j eY).2.1>1
    ·have hB:ah (L.getD j eY).2.2.2 L.length=true:=by
      have:=g3 n2
      exact decide_eq_true ⟨by omega,by omega⟩
     rw[decide_eq_true n2]
     simp only[hB,cond_true]
     cases keep.getD j false with
     |true =>
      rw[cond_true]
      cases(keep.set (L.getD j eY).2.2.1.toNat true).getD j false with
      |true=>exact ih _ (by rw[List.length_set,List.length_set];exact h3)
      |false=>exact ih _ (by rw[List.length_set];exact h3)
     |false=>exact ih _ h3
    ·rw[decide_eq_false n2]
     simp only[cond_false]
     cases keep.getD j false with
     |true =>
      rw[cond_true]
      cases(keep.set (L.getD j eY).2.2.1.toNat true).getD j false with
      |true=>exact ih _ (by rw[List.length_set];exact h3)
      |false=>exact ih _ (by rw[List.length_set];exact h3)
     |false=>exact ih _ h3
   ·rw[decide_eq_false n1,decide_eq_false (show ¬dH xs (L.getD j eY).1 (L.getD j eY).2.1>1 by omega)]
    simp only[cond_false]
    cases keep.getD j false with
    |true=>exact ih _ h3
    |false=>exact ih _ h3
  ·obtain rfl:k=0:=by omega
   rw[decide_eq_false (show ¬(((0:Nat):Int)-1≥0)by omega),cond_false]
   exact⟨keep,rfl,h3⟩
theorem A8 (hL:L.length≤500) (hs:∀i,i<L.length→vF xs L i){keep:List Bool}(hk:keep.length=L.length):∀(m j:Nat) (out:List mz) (now:List Int),j≤L.length→L.length-j<m→out.length≤j→now.length=L.length→EF (bc N0 m (L,xs,out,(L.length:Int),keep,now,(j:Int)))
 |0,j,out,now,h1,h2,h3,h4=>absurd h2 (by omega)
 |m+1,j,out,now,h1,h2,h3,h4=>by
  rw[bc]
  (try dsimp only)
  by_cases q:j<L.length
  ·have ez:L.getD j ((0:Int),((0:Int),((0:Int),(0:Int))))=L.getD j eY:=rfl
   obtain⟨g1,g2,g3⟩:=hs j q
   have rm:∀s:mz,cJ (out.length+[s].length)=true:=fun s=>by
    unfold cJ
    exact decide_eq_true (by rw[List.length_singleton];omega)
   have ih1:=fun s nw hn=>A8 hL hs hk m (j+1) (out++[s]) nw q (by omega) (by rw[List.length_append,List.length_singleton];omega) hn
   have ih2:=A8 hL hs hk m (j+1) out now q (by omega) (by omega) h4
   rw[pd q,cond_true,hk,ax q,cond_true,Int.toNat_natCast,ez,qM (fv g1),Option.bind_some,bE q (by omega),h4,ax q]
   simp only[cond_true,rm]
   cases keep.getD j false with
   |false=>exact ih2
   |true =>
    rw[Bool.not_true,cond_false]
    by_cases n1:dH xs (L.getD j eY).1 (L.getD j eY).2.1>0
    ·have hA:ah (L.getD j eY).2.2.1 L.length=true:=by
      have:=g2 n1
      exact decide_eq_true ⟨by omega,by omega⟩
     rw[decide_eq_true n1,cond_true,hA,cond_true]
     by_cases n2:dH xs (L.getD j eY).1 (L.getD j eY).2.1>1
     ·have hB:ah (L.getD j eY).2.2.2 L.length=true:=by
       have:=g3 n2
       exact decide_eq_true ⟨by omega,by omega⟩
      rw[decide_eq_true n2,cond_true,hB,cond_true]
      exact ih1 _ _ (by rw[List.length_set];exact h4)
     ·rw[decide_eq_false n2,cond_false]
      exact ih1 _ _ (by rw[List.length_set];exact h4)
    ·rw[decide_eq_false n1,decide_eq_false (show ¬dH xs (L.getD j eY).1 (L.getD j eY).2.1>1 by omega),cond_false,cond_false]
     exact ih1 _ _ (by rw[List.length_set];exact h4)
  ·rw[decide_eq_false (show ¬(j:Int)<(L.length:Int)by omega),cond_false]
   exact⟨_,rfl⟩
theorem GT (hp:aw xs=true):EF (gm N0 (xs,L)):=by
 have hN:=n0
 unfold gm
 dsimp only
 refine cF (fun _=>⟨_,rfl⟩) (fun h0=>cF (fun _=>⟨_,rfl⟩) (fun h1=>?_))
 rw[beq_eq_false_iff_ne]at h0
 rw[decide_eq_false_iff_not]at h1
 have hL:L.length≤500:=by omega
 rcases I9 hp hL N0 0 (Nat.zero_le _) (by omega) (fun i hi=>by omega)with e|⟨e,hs⟩
 ·rw[show((0:Nat):Int)=0 from rfl]at e
  rw[e]
  exact⟨_,rfl⟩
 ·rw[show((0:Nat):Int)=0 from rfl]at e
  rw[e,Option.bind_some]
  dsimp only
  rw[decide_eq_true (show 0≤(L.length:Int)∧(L.length:Int)≤(L.length:Int)∧(L.length:Int)≤4294967296 by omega),cond_true,ao (n:=(L.length:Int)-1) (by omega) (by omega),List.length_replicate,Int.toNat_natCast]
  rw[show ah ((L.length:Int)-1) L.length=true from decide_eq_true ⟨by omega,by omega⟩,cond_true]
  obtain⟨keep,e2,hk⟩:=EY (xs:=xs) hL hs N0 L.length ((List.replicate L.length false).set ((L.length:Int)-1).toNat true) (Nat.le_refl _) (by omega) (by rw[List.length_set,List.length_replicate])
  rw[e2,Option.bind_some]
  dsimp only
  rw[decide_eq_true (show 0≤(L.length:Int)∧(L.length:Int)≤(L.length:Int)∧(L.length:Int)≤4294967296 by omega),cond_true,Int.toNat_natCast]
  obtain⟨r,e3⟩:=A8 (xs:=xs) hL hs hk N0 0 [] (List.replicate L.length 0) (Nat.zero_le _) (by omega) (Nat.le_refl _) (List.length_replicate ..)
  rw[show((0:Nat):Int)=0 from rfl]at e3
  rw[e3]
  exact⟨_,rfl⟩
end
theorem Ji{k a b:Int}{i:Nat}(hi:i≤4294967296) (hk:k=1∨k=5∨k=7) (h:dm N0 (k,a,b,(i:Int))=true):b=0:=by
 have hr:∀v lo hi:Int,aE N0 (v,lo,hi)=some (decide (v≥lo)&&decide (v≤hi)):=fun v lo hi=>by
  unfold aE
  dsimp only
  cases decide (v≥lo)<;>rfl
 have h:(aQ N0 (k,a,b,(i:Int))).getD false=true:=h
 unfold aQ at h
 dsimp only at h
 rcases hk with rfl|rfl|rfl
 ·rw[show aH N0 1=some 0 from rfl]at h
  simp only[hr,Option.bind_some,beq_self_eq_true,cond_true]at h
  cases q:(decide (a≥0)&&decide (a≤199))with
  |false=>rw[q]at h;cases h
  |true =>
   rw[q]at h
   have h:(b==0)=true:=h
   simpa using h
 ·rw[show aH N0 5=some 1 from rfl]at h
  simp only[hr,Option.bind_some,show((1:Int)==0)=false from rfl,beq_self_eq_true,cond_true,cond_false]at h
  cases q:(decide (a≥0)&&decide (a≤IntKind.i64.wrap ((i:Int)-1)))with
  |false=>rw[q]at h;cases h
  |true =>
   rw[q]at h
   have h:(b==0)=true:=h
   simpa using h
 ·exact Jj hi h
section
variable{xs:List ae}{step:List Int}
theorem tU{i:Nat}(hp:aw xs=true) (hi:i<xs.length):ah (xs.getD i aM).2.2 xs.length=true:=by
 have hl:=ap hp
 have hv:=j7 hp (j:=i) hi
 rcases dF hp hi with⟨a,_⟩|⟨a,_⟩|⟨a,b,c,d,e⟩
 ·have:=Ji (by omega) (.inl a) hv
  exact decide_eq_true ⟨by omega,by omega⟩
 ·have:=Ji (by omega) (by rcases a with a|a;exact .inr (.inl a);exact .inr (.inr a)) hv
  exact decide_eq_true ⟨by omega,by omega⟩
 ·exact decide_eq_true ⟨by omega,by omega⟩
theorem CF{i:Nat}(hp:aw xs=true) (hi:i<xs.length) (hk:(xs.getD i aM).1≠1):ah (xs.getD i aM).2.1 xs.length=true:=by
 rcases dF hp hi with⟨a,_⟩|⟨a,b,c⟩|⟨a,b,c,d,e⟩
 ·exact absurd a hk
 ·exact decide_eq_true ⟨by omega,by omega⟩
 ·exact decide_eq_true ⟨by omega,by omega⟩
theorem Cg (hp:aw xs=true) (hst:step.length=xs.length) (t rule a1 a2 a3 a4:Int):∀(m i:Nat),i≤xs.length→xs.length-i<m→EF (ab N0 m (step,t,rule,xs,a1,a2,a3,a4,(i:Int)))
 |0,i,h1,h2=>absurd h2 (by omega)
 |m+1,i,h1,h2=>by
  have hl:=ap hp
  rw[ab]
  (try dsimp only)
  by_cases q:i<xs.length
  ·have ih:=Cg hp hst t rule a1 a2 a3 a4 m (i+1) q (by omega)
   have hB:ah (xs.getD i ((0:Int),((0:Int),(0:Int)))).2.2 xs.length=true:=tU hp q
   rw[pd q,cond_true,hst,ax q,bE q (by omega),Int.toNat_natCast]
   simp only[cond_true,hB]
   repeat' (first|exact ih|exact⟨_,rfl⟩|refine cF (fun _=>?_) (fun _=>?_))
  ·rw[decide_eq_false (show ¬(i:Int)<(xs.length:Int)by omega),cond_false]
   exact⟨_,rfl⟩
theorem Lg (hp:aw xs=true) (hst:step.length=xs.length){t:Nat}(ht:t<xs.length) (rule:Int):∃a b c d e,l9 N0 (xs,step,(t:Int),rule)=some (a,b,c,d,e):=by
 have hl:=ap hp
 have hN:=n0
 obtain⟨v,hv⟩:=Cg hp hst (t:Int) rule 0 0 0 0 N0 (t+1) (by omega) (by omega)
 unfold l9
 dsimp only
 rw[bE ht (by omega),hv,Option.bind_some]
 cases v with
 |inl v=>exact⟨_,_,_,_,_,rfl⟩
 |inr v=>exact⟨_,_,_,_,_,rfl⟩
theorem Fb (hp:aw xs=true) (hst:step.length=xs.length){t:Nat}(ht:t<xs.length):∃a b c d e,dK N0 (xs,step,(t:Int))=some (a,b,c,d,e):=by
 have hl:=ap hp
 suffices H:EF (dK N0 (xs,step,(t:Int)))by
  obtain⟨⟨a,b,c,d,e⟩,h⟩:=H
  exact⟨a,b,c,d,e,h⟩
 unfold dK
 dsimp only
 rw[ax ht,cond_true,Int.toNat_natCast,hst]
 have f1:=oU (xs:=xs) (by omega) ((7:Int),((xs.getD t aM).2.2,(0:Int)))
 have f2:=oU (xs:=xs) (by omega) ((7:Int),((xs.getD t aM).2.1,(0:Int)))
 dsimp only at f1 f2
 have fr:∀k:ae,zG xs k<0∨ah (zG xs k) xs.length=true:=fun k=>by
  unfold zG
  cases h:gZ xs k with
  |none=>exact .inl (by decide)
  |some j =>
   have:=(mR h).2.1
   exact .inr (ax (by omega))
 change bQ N0 (xs,7,(xs.getD t ((0:Int),((0:Int),(0:Int)))).2.2,0)=_ at f1
 change bQ N0 (xs,7,(xs.getD t ((0:Int),((0:Int),(0:Int)))).2.1,0)=_ at f2
 have hB:ah (xs.getD t ((0:Int),((0:Int),(0:Int)))).2.2 xs.length=true:=tU hp ht
 refine cF (fun _=>⟨_,rfl⟩) (fun hk=>?_)
 have hk8:(xs.getD t aM).1=8:=by simpa using hk
 have hA:ah (xs.getD t ((0:Int),((0:Int),(0:Int)))).2.1 xs.length=true:=CF hp ht (by rw[hk8];decide)
 rw[f1,f2]
 simp only[Option.bind_some,hA,hB,cond_true]
 rcases fr ((7:Int),((xs.getD t aM).2.2,(0:Int)))with g1|g1<;>rcases fr ((7:Int),((xs.getD t aM).2.1,(0:Int)))with g2|g2
 ·rw[decide_eq_false (show ¬zG xs _≥0 by exact Int.not_le.2 g1),decide_eq_false (show ¬zG xs ((7:Int),((xs.getD t aM).2.1,(0:Int)))≥0 by exact Int.not_le.2 g2)]
  simp only[cond_false]
  repeat' (first|exact⟨_,rfl⟩|refine cF (fun _=>?_) (fun _=>?_))
 ·rw[decide_eq_false (show ¬zG xs ((7:Int),((xs.getD t aM).2.2,(0:Int)))≥0 by exact Int.not_le.2 g1)]
  simp only[cond_false,g2,cond_true]
  repeat' (first|exact⟨_,rfl⟩|refine cF (fun _=>?_) (fun _=>?_))
 ·rw[decide_eq_false (show ¬zG xs ((7:Int),((xs.getD t aM).2.1,(0:Int)))≥0 by exact Int.not_le.2 g2)]
  simp only[cond_false,g1,cond_true]
  repeat' (first|exact⟨_,rfl⟩|refine cF (fun _=>?_) (fun _=>?_))
 ·simp only[g1,g2,cond_true]
  repeat' (first|exact⟨_,rfl⟩|refine cF (fun _=>?_) (fun _=>?_))
theorem E3{kn parts:List Int}{t z1 z2 z3 z4 k a b:Int}(hst:step.length=xs.length) (hl:xs.length≤500) (hpl:parts.length≤2) (hps:∀v∈parts,0≤v∧v<(xs.length:Int)):∀(m j:Nat) (made:Bool),j≤parts.length→parts.length-j<m→∃made',cM N0 m (kn,step,t,xs,z1,z2,z3,z4,k,a,b,parts,made,(j:Int))=some (kn,step,t,xs,z1,z2,z3,z4,k,a,b,parts,made')∧(made'=true→made=true)
 |0,j,made,h1,h2=>absurd h2 (by omega)
 |m+1,j,made,h1,h2=>by
  rw[cM]
  (try dsimp only)
  by_cases q:j<parts.length
  ·rw[pd q,cond_true,ax q,cond_true,Int.toNat_natCast,hst,bE q (by omega)]
   have hm:parts.getD j 0∈parts:=by
    rw[List.getD_eq_getElem?_getD,List.getElem?_eq_getElem q,Option.getD_some]
    exact List.getElem_mem _
   have hv:=hps _ hm
   have hin:ah (parts.getD j 0) xs.length=true:=decide_eq_true hv
   rw[hin,cond_true]
   cases made with
   |true =>
    obtain⟨md,e,_⟩:=E3 (kn:=kn) (t:=t) (z1:=z1) (z2:=z2) (z3:=z3) (z4:=z4) (k:=k) (a:=a) (b:=b) hst hl hpl hps m (j+1) (decide (step.getD (parts.getD j 0).toNat 0≥0)) q (by omega)
    exact⟨md,e,fun _=>rfl⟩
   |false =>
    obtain⟨md,e,g⟩:=E3 (kn:=kn) (t:=t) (z1:=z1) (z2:=z2) (z3:=z3) (z4:=z4) (k:=k) (a:=a) (b:=b) hst hl hpl hps m (j+1) false q (by omega)
    exact⟨md,e,g⟩
  ·rw[decide_eq_false (show ¬(j:Int)<(parts.length:Int)by omega),cond_false]
   exact⟨made,rfl,id⟩
theorem E6 (hp:aw xs=true) (hst:step.length=xs.length){t:Nat}(ht:t<xs.length){z1 z2 z3 z4:Int}:∀(m j:Nat) (a b c d:Int) (ok:Bool),j≤9→9-j<m→∃a' b' c' d' ok',bN N0 m (step,(t:Int),xs,z1,z2,z3,z4,a,b,c,d,ok,(j:Int))=some (z1,z2,z3,z4,a',b',c',d',ok')
 |0,j,a,b,c,d,ok,h1,h2=>absurd h2 (by omega)
 |m+1,j,a,b,c,d,ok,h1,h2=>by
  rw[bN]
  (try dsimp only)
  by_cases q:j≤8
  ·rw[decide_eq_true (show(j:Int)≤8 by omega),cond_true]
   cases ok with
   |true=>exact⟨_,_,_,_,_,rfl⟩
   |false =>
    obtain⟨a',b',c',d',e',hu⟩:=Lg hp hst ht (j:Int)
    rw[Bool.not_false,cond_true,hu,Option.bind_some]
    (try dsimp only)
    rw[ao (n:=(j:Int)+1) (by omega) (by omega),show(j:Int)+1=((j+1:Nat):Int)by omega]
    exact E6 hp hst ht m (j+1) a' b' c' d' e' (by omega) (by omega)
  ·rw[decide_eq_false (show ¬(j:Int)≤8 by omega),cond_false]
   exact⟨_,_,_,_,_,rfl⟩
theorem GZ{kn:List Int}(hp:aw xs=true) (hk:kn.length≤4294967296) (hst:step.length=xs.length){t:Nat}(ht:t<xs.length):∃a b c d e,iF N0 (xs,kn,step,(t:Int))=some (a,b,c,d,e):=by
 have hl:=ap hp
 have hN:=n0
 suffices H:EF (iF N0 (xs,kn,step,(t:Int)))by
  obtain⟨⟨a,b,c,d,e⟩,h⟩:=H
  exact⟨a,b,c,d,e,h⟩
 obtain⟨s1,s2,s3,s4,s5,hsh⟩:=Fb (step:=step) hp hst ht
 obtain⟨r1,r2,r3,r4,r5,h18⟩:=E6 (step:=step) hp hst ht (z1:=0) (z2:=0) (z3:=0) (z4:=0) N0 5 s1 s2 s3 s4 s5 (by omega) (by omega)
 have hpn:=zJ hp ht
 have hpl:(gN (xs.getD t aM)).length≤2:=by
  unfold gN
  generalize xs.getD t aM=X
  cases(X.1==5)<;>cases(X.1==7)<;>cases(X.1==2)<;>cases(X.1==3)<;>cases(X.1==4)<;>cases(X.1==6)<;>cases(X.1==8)<;>simp
 obtain⟨made,e5,hmade⟩:=E3 (xs:=xs) (step:=step) (kn:=kn) (parts:=gN (xs.getD t aM)) (t:=(t:Int)) (z1:=0) (z2:=0) (z3:=0) (z4:=0) (k:=(xs.getD t aM).1) (a:=(xs.getD t aM).2.1) (b:=(xs.getD t aM).2.2) hst hl hpl (fun v hv=>by
  have:=hpn v hv
  omega) N0 0 (decide (((gN (xs.getD t aM)).length:Int)>0)) (Nat.zero_le _) (by omega)
 rw[show((0:Nat):Int)=0 from rfl]at e5
 rw[show((5:Nat):Int)=5 from rfl]at h18
 have ez:xs.getD t ((0:Int),((0:Int),(0:Int)))=xs.getD t aM:=rfl
 have hpub:∀v,aB N0 v=some (decide (v≥0)&&decide (v≤49)):=fun v=>by
  unfold aB
  rw[F8];rfl
 unfold iF
 dsimp only
 rw[ax ht,cond_true,Bu ht,Option.bind_some,Int.toNat_natCast,ez,e5,Option.bind_some]
 dsimp only
 rw[ll hk,hpub,hsh,hst]
 simp only[Option.bind_some,h18]
 cases made with
 |false =>
  simp only[cond_false]
  repeat' (first|exact⟨_,rfl⟩|refine cF (fun _=>?_) (fun _=>?_))
 |true =>
  have hne:(xs.getD t aM).1≠1:=fun h1=>by
   have h:=hmade rfl
   have:gN (xs.getD t aM)=[]:=by unfold gN;rw[h1];rfl
   rw[this]at h
   cases h
  have hA:ah (xs.getD t aM).2.1 xs.length=true:=CF hp ht hne
  have hB:ah (xs.getD t aM).2.2 xs.length=true:=tU hp ht
  simp only[cond_true,hA,hB]
  repeat' (first|exact⟨_,rfl⟩|refine cF (fun _=>?_) (fun _=>?_))
end
def neg (l:List Int):Nat:=l.countP (fun v=>decide (v<0))
theorem CJ:∀{l:List Int}{j:Nat}{v:Int},j<l.length→l.getD j 0<0→0≤v→neg (l.set j v)+1=neg l
 |[],j,v,h,_,_=>absurd h (by simp)
 |a::r,0,v,h,h1,h2=>by
  have h1:a<0:=h1
  unfold neg
  rw[List.set_cons_zero,List.countP_cons,List.countP_cons,decide_eq_true h1,decide_eq_false (show ¬v<0 by omega)]
  simp
 |a::r,j+1,v,h,h1,h2=>by
  have ih:=CJ (l:=r) (j:=j) (v:=v) (by simpa using h) h1 h2
  unfold neg at ih ⊢
  rw[List.set_cons_succ,List.countP_cons,List.countP_cons]
  omega
section
variable{xs:List ae}{kn:List Int}
theorem Dh (hp:aw xs=true) (hk:kn.length≤4294967296):∀(m j:Nat) (out:List mz) (step:List Int) (more:Bool),j≤xs.length→xs.length-j<m→step.length=xs.length→out.length+neg step≤xs.length →
  ∃out' step' more',bH N0 m (kn,xs,out,step,more,(j:Int))=some (kn,xs,out',step',more')∧step'.length=xs.length∧out'.length+neg step'≤xs.length∧neg step'≤neg step∧(more'=true→more=true∨neg step'<neg step)
 |0,j,out,step,more,h1,h2,h3,h4=>absurd h2 (by omega)
 |m+1,j,out,step,more,h1,h2,h3,h4=>by
  have hl:=ap hp
  rw[bH]
  (try dsimp only)
  by_cases q:j<xs.length
  ·rw[h3,pd q,cond_true,ax q,cond_true,Int.toNat_natCast,bE q (by omega)]
   by_cases g:step.getD j 0≥0
   ·rw[decide_eq_true g,cond_true]
    exact Dh hp hk m (j+1) out step more q (by omega) h3 h4
   ·obtain⟨a,b,c,d,e,hs⟩:=GZ (kn:=kn) hp hk h3 q
    rw[decide_eq_false g,cond_false,hs,Option.bind_some]
    (try dsimp only)
    cases e with
    |false =>
     rw[cond_false]
     exact Dh hp hk m (j+1) out step more q (by omega) h3 h4
    |true =>
     have rm:cJ (out.length+[((a,(b,(c,d))):mz)].length)=true:=by
      unfold cJ
      exact decide_eq_true (by rw[List.length_singleton];omega)
     have hn:=CJ (l:=step) (j:=j) (v:=(out.length:Int)) (by omega) (by omega) (by omega)
     obtain⟨o',s',m',e1,e2,e3,e4,e5⟩:=Dh hp hk m (j+1) (out++[(a,(b,(c,d)))]) (step.set j (out.length:Int)) true q (by omega) (by rw[List.length_set];exact h3) (by rw[List.length_append,List.length_singleton];omega)
     rw[cond_true,cond_true,rm,cond_true,e1]
     exact⟨o',s',m',rfl,e2,e3,by omega,fun _ => .inr (by omega)⟩
  ·rw[h3,decide_eq_false (show ¬(j:Int)<(xs.length:Int)by omega),cond_false]
   exact⟨out,step,more,rfl,h3,h4,Nat.le_refl _, .inl⟩
theorem Jx (hp:aw xs=true) (hk:kn.length≤4294967296):∀(m:Nat) (out:List mz) (step:List Int) (more:Bool),neg step+1<m→step.length=xs.length→out.length+neg step≤xs.length→∃r,bU N0 m (kn,xs,out,step,more)=some r∧r.length≤xs.length
 |0,out,step,more,h2,h3,h4=>absurd h2 (by omega)
 |m+1,out,step,more,h2,h3,h4=>by
  have hl:=ap hp
  have hN:=n0
  rw[bU]
  (try dsimp only)
  cases more with
  |false=>exact⟨out,rfl,by omega⟩
  |true =>
   obtain⟨o',s',m',e1,e2,e3,e4,e5⟩:=Dh hp hk N0 0 out step false (Nat.zero_le _) (by omega) h3 h4
   rw[show((0:Nat):Int)=0 from rfl]at e1
   rw[cond_true,e1,Option.bind_some]
   (try dsimp only)
   cases m' with
   |true =>
    have:=e5 rfl
    exact Jx hp hk m o' s' true (by rcases this with g|g;cases g;omega) e2 e3
   |false =>
    obtain⟨i,rfl⟩:∃i,m=i+1:=⟨m-1,by omega⟩
    rw[bU]
    exact⟨o',rfl,by omega⟩
theorem MP{out:List mz}:∀(m j:Nat) (step:List Int),j≤step.length→step.length-j<m→step.length≤1000→∃step',cH N0 m (kn,xs,out,step,(j:Int))=some (kn,xs,out,step')∧step'.length=step.length
 |0,j,step,h1,h2,h3=>absurd h2 (by omega)
 |m+1,j,step,h1,h2,h3=>by
  rw[cH]
  (try dsimp only)
  by_cases q:j<step.length
  ·obtain⟨s',e1,e2⟩:=MP m (j+1) (step.set j (-1)) (by rw[List.length_set];omega) (by rw[List.length_set];omega) (by rw[List.length_set];omega)
   rw[pd q,cond_true,ax q,cond_true,Int.toNat_natCast,bE q (by omega),e1]
   exact⟨s',rfl,by rw[e2,List.length_set]⟩
  ·rw[decide_eq_false (show ¬(j:Int)<(step.length:Int)by omega),cond_false]
   exact⟨step,rfl,rfl⟩
theorem zB (hx:xs.length≤4294967296) (hk:kn.length≤4294967296):∃r,gY N0 (xs,kn)=some r∧r.length≤500∧(r≠[]→aw xs=true):=by
 have hN:=n0
 have kSx:=j6 hx hk
 change cm N0 (xs,kn)=some (fj xs kn)at kSx
 unfold gY
 dsimp only
 rw[kSx,Option.bind_some]
 cases hv:fj xs kn with
 |false=>exact⟨[],rfl,by simp,fun q=>absurd rfl q⟩
 |true =>
  have hp:=lk hv
  have hl:=ap hp
  rw[Bool.not_true,cond_false,decide_eq_true (show 0≤(xs.length:Int)∧(xs.length:Int)≤(xs.length:Int)∧(xs.length:Int)≤4294967296 by omega),cond_true,Int.toNat_natCast]
  obtain⟨s',e1,e2⟩:=MP (xs:=xs) (kn:=kn) (out:=[]) N0 0 (List.replicate xs.length 0) (Nat.zero_le _) (by rw[List.length_replicate];omega) (by rw[List.length_replicate];omega)
  rw[List.length_replicate]at e2
  rw[show((0:Nat):Int)=0 from rfl]at e1
  rw[e1,Option.bind_some]
  dsimp only
  have hneg:neg s'≤xs.length:=by
   rw[←e2]
   exact List.countP_le_length
  obtain⟨r,e3,e4⟩:=Jx hp hk N0 [] s' true (by omega) e2 (by simp;exact hneg)
  rw[e3]
  exact⟨r,rfl,by omega,fun _=>hp⟩
theorem CC{t:Int}{L:List mz}(hL:L.length≤500) (hp:L≠[]→aw xs=true):∀(m j:Nat),j≤L.length→L.length-j<m→EF (c7 N0 m (t,xs,L,(j:Int)))
 |0,j,h1,h2=>absurd h2 (by omega)
 |m+1,j,h1,h2=>by
  rw[c7]
  (try dsimp only)
  by_cases q:j<L.length
  ·have hp':=hp (fun h=>by rw[h]at q;simp at q)
   rw[pd q,cond_true,ax q,cond_true,bE q (by omega)]
   refine cF (fun _=>?_) (fun _=>CC hL hp m (j+1) q (by omega))
   rw[show rG 0 ((j+1:Nat):Int) L.length=true from decide_eq_true ⟨by omega,by omega,by omega⟩,cond_true]
   obtain⟨r,hr⟩:=GT (L:=sl L 0 ((j+1:Nat):Int)) hp'
   rw[hr]
   exact⟨_,rfl⟩
  ·rw[decide_eq_false (show ¬(j:Int)<(L.length:Int)by omega),cond_false]
   exact⟨_,rfl⟩
theorem Bn (hx:xs.length≤4294967296) (hk:kn.length≤4294967296) (t:Int):∃L ok,iT N0 (xs,kn,t)=some (L,ok):=by
 have hN:=n0
 obtain⟨r,e1,e2,e3⟩:=zB hx hk
 obtain⟨v,hv⟩:=CC (t:=t) (xs:=xs) (L:=r) e2 e3 N0 0 (Nat.zero_le _) (by omega)
 rw[show((0:Nat):Int)=0 from rfl]at hv
 unfold iT
 dsimp only
 rw[e1,Option.bind_some,hv,Option.bind_some]
 cases v with
 |inl v=>exact⟨_,_,rfl⟩
 |inr v=>exact⟨_,_,rfl⟩
end
def Kp (P:Prop) (s:Option Bool):Prop:=∃v,s=some v∧(v=true→P)
theorem mE{P:Prop}{s:Option Bool}(h:EF s) (hp:P):Kp P s:=by
 obtain⟨v,hv⟩:=h
 exact⟨v,hv,fun _=>hp⟩
theorem bK{P:Prop}:Kp P (some false):=⟨false,rfl,fun h=>by cases h⟩
theorem Iw (xs:List ae) (t:Int):dH xs 1 t=0:=rfl
theorem Iv (xs:List ae) (t:Int):dH xs 2 t=0:=rfl
theorem Iu (xs:List ae) (t:Int):dH xs 4 t=2:=rfl
theorem It (xs:List ae) (t:Int):dH xs 5 t=1:=rfl
theorem Is (xs:List ae) (t:Int):dH xs 6 t=1:=rfl
theorem Ir (xs:List ae) (t:Int):dH xs 7 t=2:=rfl
theorem Iq (xs:List ae) (t:Int):dH xs 8 t=1:=rfl
theorem yj{xs:List ae}{t:Int}(ht:cU xs t=true){p:Int}(hp:aY N0 (xs.getD t.toNat aM).1=some p):dH xs 3 t=p:=by
 unfold dH
 have e:bL N0 (xs,3,t,0,0)=some p:=by
  unfold bL
  dsimp only
  rw[show((3:Int)==1)=false from rfl,show((3:Int)==2)=false from rfl,show((3:Int)==3)=true from rfl,cond_false,cond_false,cond_true,fv ht,cond_true]
  have hp':aY N0 (xs.getD t.toNat ((0:Int),((0:Int),(0:Int)))).1=some p:=hp
  rw[hp'];rfl
 rw[e];rfl
theorem FU{xs:List ae}{r t:Int}(h1:(r==1)=false) (h2:(r==2)=false) (h3:(r==3)=false) (h4:(r==4)=false) (h5:(r==5)=false) (h6:(r==6)=false) (h7:(r==7)=false) (h8:(r==8)=false):dH xs r t=-1:=by
 unfold dH bL
 dsimp only
 rw[h1,h2,h3,h4,h5,h6,h7,h8];rfl
def GH (xs:List ae) (kn:List Int) (r t a b:Int):Prop :=
 (r=1∧jl kn t=true)∨(r=2∧(xs.getD t.toNat aM).1=1)∨(r=3∧0≤a∧(((xs.getD t.toNat aM).1=5∨(xs.getD t.toNat aM).1=7)∨0≤b)  ∧ (xs.getD t.toNat aM).1≠1)∨((r=4∨r=7)∧0≤a∧0≤b)∨((r=5∨r=6∨r=8)∧0≤a)
theorem Gb{xs:List ae}{kn:List Int}(hp:aw xs=true) (hk:kn.length≤4294967296){r t A B a b:Int}(ht:cU xs t=true) (ha:a<0∨cU xs a=true) (hb:b<0∨cU xs b=true):Kp (GH xs kn r t a b) (iQ N0 (xs,kn,r,t,A,B,a,b)):=by
 have hr:=d7.1 ht
 have hpub:∀v,aB N0 v=some (decide (v≥0)&&decide (v≤49)):=fun v=>by
  unfold aB
  rw[F8];rfl
 have hB:ah (xs.getD t.toNat ((0:Int),((0:Int),(0:Int)))).2.2 xs.length=true:=tU hp (by omega)
 unfold iQ
 dsimp only
 rw[fv ht,cond_true,qM (fv ht),Option.bind_some]
 cases h1:(r==1)with
 |true =>
  obtain rfl:r=1:=by simpa using h1
  rw[Iw,ll hk]
  cases(A != 0)with
  |true=>exact bK
  |false =>
   cases(B != 0)with
   |true=>exact bK
   |false=>exact⟨jl kn t,rfl,fun h => .inl ⟨rfl,h⟩⟩
 |false =>
 cases h2:(r==2)with
 |true =>
  obtain rfl:r=2:=by simpa using h2
  rw[Iv,hpub]
  cases(A != 0)with
  |true=>exact bK
  |false =>
   cases(B != 0)with
   |true=>exact bK
   |false =>
    cases hk1:((xs.getD t.toNat aM).1==1)with
    |true =>
     exact⟨_,rfl,fun _ => .inr (.inl ⟨rfl,by simpa using hk1⟩)⟩
    |false =>
     exact bK
 |false =>
 cases h3:(r==3)with
 |true =>
  obtain rfl:r=3:=by simpa using h3
  rcases dF hp (t:=t.toNat) (by omega)with⟨k,_⟩|⟨k,_⟩|⟨k,_⟩
  ·have hn:dH xs 3 t=0:=yj ht (by rw[k];rfl)
   have k':(xs.getD t.toNat ((0:Int),((0:Int),(0:Int)))).1=1:=k
   rw[hn,k']
   cases(A != 0)with
   |true=>exact bK
   |false =>
    cases(B != 0)with
    |true=>exact bK
    |false=>exact bK
  ·have hn:dH xs 3 t=1:=yj ht (by rcases k with k|k<;>rw[k]<;>rfl)
   have hne:(xs.getD t.toNat aM).1≠1:=by omega
   have k':((xs.getD t.toNat ((0:Int),((0:Int),(0:Int)))).1 != 1)=true:=by rw[bne_iff_ne];exact hne
   rw[hn,k']
   by_cases qa:a<0
   ·rw[decide_eq_true qa]
    exact bK
   ·rw[decide_eq_false qa]
    refine mE ?_ (.inr (.inr (.inl ⟨rfl,by omega, .inl k,hne⟩)))
    cases(B != 0)with
    |true=>exact⟨_,rfl⟩
    |false =>
     cases(a==(xs.getD t.toNat ((0:Int),((0:Int),(0:Int)))).2.1)<;>exact⟨_,rfl⟩
  ·have hn:dH xs 3 t=2:=yj ht (by rcases k with k|k|k|k|k<;>rw[k]<;>rfl)
   have hne:(xs.getD t.toNat aM).1≠1:=by omega
   have k':((xs.getD t.toNat ((0:Int),((0:Int),(0:Int)))).1 != 1)=true:=by rw[bne_iff_ne];exact hne
   rw[hn,k']
   by_cases qa:a<0
   ·rw[decide_eq_true qa]
    exact bK
   ·rw[decide_eq_false qa]
    by_cases qb:b<0
    ·rw[decide_eq_true qb]
     exact bK
    ·rw[decide_eq_false qb]
     refine mE ?_ (.inr (.inr (.inl ⟨rfl,by omega, .inr (by omega),hne⟩)))
     cases(a==(xs.getD t.toNat ((0:Int),((0:Int),(0:Int)))).2.1)<;>exact⟨_,rfl⟩
 |false =>
 cases h4:(r==4)with
 |true =>
  obtain rfl:r=4:=by simpa using h4
  rw[Iu]
  by_cases qa:a<0
  ·rw[decide_eq_true qa]
   exact bK
  ·by_cases qb:b<0
   ·rw[decide_eq_true qb,decide_eq_false qa]
    exact bK
   ·rw[decide_eq_false qa,decide_eq_false qb,fv (ha.resolve_left qa),fv (hb.resolve_left qb)]
    refine mE ?_ (.inr (.inr (.inr (.inl ⟨.inl rfl,by omega,by omega⟩))))
    simp only[show decide ((2:Int)<0)=false from rfl,show decide ((2:Int)>0)=true from rfl,show decide ((2:Int)>1)=true from rfl,show decide ((2:Int)<1)=false from rfl,show decide ((2:Int)<2)=false from rfl,show((4:Int)==1)=false from rfl,show((4:Int)==2)=false from rfl,show((4:Int)==3)=false from rfl,show((4:Int)==4)=true from rfl,cond_true,cond_false]
    repeat' (first|exact⟨_,rfl⟩|refine cF (fun _=>?_) (fun _=>?_))
 |false =>
 cases h5:(r==5)with
 |true =>
  obtain rfl:r=5:=by simpa using h5
  rw[It]
  by_cases qa:a<0
  ·rw[decide_eq_true qa]
   exact bK
  ·rw[decide_eq_false qa,fv (ha.resolve_left qa)]
   refine mE ?_ (.inr (.inr (.inr (.inr ⟨.inl rfl,by omega⟩))))
   simp only[show decide ((1:Int)<0)=false from rfl,show decide ((1:Int)>0)=true from rfl,show decide ((1:Int)>1)=false from rfl,show decide ((1:Int)<1)=false from rfl,show decide ((1:Int)<2)=true from rfl,show((5:Int)==1)=false from rfl,show((5:Int)==2)=false from rfl,show((5:Int)==3)=false from rfl,show((5:Int)==4)=false from rfl,show((5:Int)==5)=true from rfl,cond_true,cond_false]
   repeat' (first|exact⟨_,rfl⟩|refine cF (fun _=>?_) (fun _=>?_))
 |false =>
 cases h6:(r==6)with
 |true =>
  obtain rfl:r=6:=by simpa using h6
  rw[Is]
  by_cases qa:a<0
  ·rw[decide_eq_true qa]
   exact bK
  ·rw[decide_eq_false qa,fv (ha.resolve_left qa)]
   refine mE ?_ (.inr (.inr (.inr (.inr ⟨.inr (.inl rfl),by omega⟩))))
   simp only[show decide ((1:Int)<0)=false from rfl,show decide ((1:Int)>0)=true from rfl,show decide ((1:Int)>1)=false from rfl,show decide ((1:Int)<1)=false from rfl,show decide ((1:Int)<2)=true from rfl,show((6:Int)==1)=false from rfl,show((6:Int)==2)=false from rfl,show((6:Int)==3)=false from rfl,show((6:Int)==4)=false from rfl,show((6:Int)==5)=false from rfl,show((6:Int)==6)=true from rfl,cond_true,cond_false]
   repeat' (first|exact⟨_,rfl⟩|refine cF (fun _=>?_) (fun _=>?_))
 |false =>
 cases h7:(r==7)with
 |true =>
  obtain rfl:r=7:=by simpa using h7
  rw[Ir]
  by_cases qa:a<0
  ·rw[decide_eq_true qa]
   exact bK
  ·by_cases qb:b<0
   ·rw[decide_eq_true qb,decide_eq_false qa]
    exact bK
   ·rw[decide_eq_false qa,decide_eq_false qb,fv (ha.resolve_left qa)]
    refine mE ?_ (.inr (.inr (.inr (.inl ⟨.inr rfl,by omega,by omega⟩))))
    simp only[show decide ((2:Int)<0)=false from rfl,show decide ((2:Int)>0)=true from rfl,show decide ((2:Int)>1)=true from rfl,show decide ((2:Int)<1)=false from rfl,show decide ((2:Int)<2)=false from rfl,show((7:Int)==1)=false from rfl,show((7:Int)==2)=false from rfl,show((7:Int)==3)=false from rfl,show((7:Int)==4)=false from rfl,show((7:Int)==5)=false from rfl,show((7:Int)==6)=false from rfl,show((7:Int)==7)=true from rfl,cond_true,cond_false]
    repeat' (first|exact⟨_,rfl⟩|refine cF (fun _=>?_) (fun _=>?_))
 |false =>
 cases h8:(r==8)with
 |true =>
  obtain rfl:r=8:=by simpa using h8
  rw[Iq]
  by_cases qa:a<0
  ·rw[decide_eq_true qa]
   exact bK
  ·rw[decide_eq_false qa,fv (ha.resolve_left qa)]
   refine mE ?_ (.inr (.inr (.inr (.inr ⟨.inr (.inr rfl),by omega⟩))))
   simp only[show decide ((1:Int)<0)=false from rfl,show decide ((1:Int)>0)=true from rfl,show decide ((1:Int)>1)=false from rfl,show decide ((1:Int)<1)=false from rfl,show decide ((1:Int)<2)=true from rfl,show((8:Int)==1)=false from rfl,show((8:Int)==2)=false from rfl,show((8:Int)==3)=false from rfl,show((8:Int)==4)=false from rfl,show((8:Int)==5)=false from rfl,show((8:Int)==6)=false from rfl,show((8:Int)==7)=false from rfl,cond_true,cond_false]
   repeat' (first|exact⟨_,rfl⟩|refine cF (fun _=>?_) (fun _=>?_))
 |false =>
  rw[FU h1 h2 h3 h4 h5 h6 h7 h8]
  exact bK
section
variable{xs:List ae}{kn:List Int}{L:List mz}
def xI (xs:List ae) (kn:List Int) (L:List mz) (i:Nat):Prop :=
 cU xs (L.getD i eY).2.1=true∧GH xs kn (L.getD i eY).1 (L.getD i eY).2.1 (bif decide (0≤(L.getD i eY).2.2.1)&&decide ((L.getD i eY).2.2.1<(i:Int))then 0 else -1) (bif decide (0≤(L.getD i eY).2.2.2)&&decide ((L.getD i eY).2.2.2<(i:Int))then 0 else -1)
theorem Ck{i:Nat}(hL:L.length≤500) (hi:i≤L.length) (k:Int):iE N0 (L,(i:Int),k)=some (bif decide (0≤k)&&decide (k<(i:Int))then(L.getD k.toNat eY).2.1 else -1):=by
 unfold iE
 dsimp only
 rw[yo,ao (n:=(i:Int)-1) (by omega) (by omega),Option.bind_some]
 by_cases q:0≤k∧k<(i:Int)
 ·rw[decide_eq_true (show k≥0 from q.1),decide_eq_true (show k≤(i:Int)-1 by omega),decide_eq_true q.2,show ah k L.length=true from decide_eq_true ⟨q.1,by omega⟩]
  rfl
 ·have e1:(decide (k≥0)&&decide (k≤(i:Int)-1))=false:=by
   rw[Bool.and_eq_false_iff,decide_eq_false_iff_not,decide_eq_false_iff_not]
   omega
  have e2:(decide (0≤k)&&decide (k<(i:Int)))=false:=by
   rw[Bool.and_eq_false_iff,decide_eq_false_iff_not,decide_eq_false_iff_not]
   omega
  rw[e1,e2];rfl
theorem Cv{r t A B:Int}{i:Nat}(hL:L.length≤500) (hi:i≤L.length):∀(m j:Nat),j≤i→i-j<m→ce N0 m (kn,L,xs,(i:Int),r,t,A,B,(j:Int))=some (Sum.inl false)∨ce N0 m (kn,L,xs,(i:Int),r,t,A,B,(j:Int))=some (Sum.inr (kn,L,xs,(i:Int)))
 |0,j,h1,h2=>absurd h2 (by omega)
 |m+1,j,h1,h2=>by
  rw[ce]
  (try dsimp only)
  by_cases q:j<i
  ·rw[pd q,cond_true,ax (show j<L.length by omega),cond_true,bE (show j<L.length by omega) (by omega)]
   cases((L.getD ((j:Int)).toNat ((0:Int),((0:Int),((0:Int),(0:Int))))).2.1==t)with
   |true=>exact .inl rfl
   |false=>exact Cv hL hi m (j+1) q (by omega)
  ·rw[decide_eq_false (show ¬(j:Int)<(i:Int)by omega),cond_false]
   exact .inr rfl
theorem Fx (hp:aw xs=true) (hk:kn.length≤4294967296) (hL:L.length≤500):∀(m i:Nat),i≤L.length→L.length-i<m→(∀j,j<i→xI xs kn L j)→cx N0 m (kn,L,xs,(i:Int))=some (Sum.inl false)∨(cx N0 m (kn,L,xs,(i:Int))=some (Sum.inr ())∧∀j,j<L.length→xI xs kn L j)
 |0,i,h1,h2,h3=>absurd h2 (by omega)
 |m+1,i,h1,h2,h3=>by
  have hl:=ap hp
  have hN:=n0
  rw[cx]
  (try dsimp only)
  by_cases q:i<L.length
  ·have ez:L.getD i ((0:Int),((0:Int),((0:Int),(0:Int))))=L.getD i eY:=rfl
   rw[pd q,cond_true,ax q,cond_true,Int.toNat_natCast,ez,uZ N0 (by omega),Option.bind_some]
   cases hh:cU xs (L.getD i eY).2.1 with
   |false=>exact .inl rfl
   |true =>
    rw[Bool.not_true,cond_false,Ck hL (by omega),Ck hL (by omega),Option.bind_some,Option.bind_some]
    have rG:∀k:Int,(bif decide (0≤k)&&decide (k<(i:Int))then(L.getD k.toNat eY).2.1 else -1)<0∨cU xs (bif decide (0≤k)&&decide (k<(i:Int))then(L.getD k.toNat eY).2.1 else -1)=true:=fun k=>by
     cases g:(decide (0≤k)&&decide (k<(i:Int)))with
     |false=>exact .inl (by show(-1:Int)<0;decide)
     |true =>
      rw[Bool.and_eq_true,decide_eq_true_iff,decide_eq_true_iff]at g
      exact .inr (h3 k.toNat (by omega)).1
    obtain⟨v,e1,e2⟩:=Gb (kn:=kn) hp hk (r:=(L.getD i eY).1) (A:=(L.getD i eY).2.2.1) (B:=(L.getD i eY).2.2.2) hh (rG (L.getD i eY).2.2.1) (rG (L.getD i eY).2.2.2)
    rw[e1,Option.bind_some]
    cases v with
    |false=>exact .inl rfl
    |true =>
     have hP:xI xs kn L i:=by
      refine⟨hh,?_⟩
      have g:=e2 rfl
      unfold GH at g ⊢
      have key:∀k:Int,0≤(bif decide (0≤k)&&decide (k<(i:Int))then(L.getD k.toNat eY).2.1 else -1)→0≤(bif decide (0≤k)&&decide (k<(i:Int))then(0:Int)else -1):=fun k hk'=>by
       cases g':(decide (0≤k)&&decide (k<(i:Int)))with
       |false=>rw[g']at hk';exact absurd hk' (by show ¬(0:Int)≤-1;decide)
       |true=>exact Int.le_refl 0
      rcases g with g|g|⟨g1,g2,g3,g4⟩|⟨g1,g2,g3⟩|⟨g1,g2⟩
      ·exact .inl g
      ·exact .inr (.inl g)
      ·exact .inr (.inr (.inl ⟨g1,key _ g2,g3.imp id (key _),g4⟩))
      ·exact .inr (.inr (.inr (.inl ⟨g1,key _ g2,key _ g3⟩)))
      ·exact .inr (.inr (.inr (.inr ⟨g1,key _ g2⟩)))
     rw[Bool.not_true,cond_false]
     rcases Cv (kn:=kn) (xs:=xs) (L:=L) (r:=(L.getD i eY).1) (t:=(L.getD i eY).2.1) (A:=(L.getD i eY).2.2.1) (B:=(L.getD i eY).2.2.2) hL (show i≤L.length by omega) N0 0 (Nat.zero_le _) (by omega)with e3|e3
     ·rw[show((0:Nat):Int)=0 from rfl]at e3
      rw[e3]
      exact .inl rfl
     ·rw[show((0:Nat):Int)=0 from rfl]at e3
      rw[e3,Option.bind_some]
      dsimp only
      rw[bE q (by omega)]
      exact Fx hp hk hL m (i+1) q (by omega) (fun j hj=>by
       rcases Nat.lt_succ_iff_lt_or_eq.1 hj with g|g
       ·exact h3 j g
       ·rw[g];exact hP)
  ·rw[decide_eq_false (show ¬(i:Int)<(L.length:Int)by omega),cond_false]
   exact .inr ⟨rfl,fun j hj=>h3 j (by omega)⟩
theorem Fw (hx:xs.length≤4294967296) (hk:kn.length≤4294967296):∃v,iP N0 (xs,kn,L)=some v∧(v=true→fj xs kn=true∧L.length≤500∧∀j,j<L.length→xI xs kn L j):=by
 have hN:=n0
 have kSx:=j6 hx hk
 change cm N0 (xs,kn)=some (fj xs kn)at kSx
 unfold iP
 dsimp only
 rw[kSx,Option.bind_some]
 cases hv:fj xs kn with
 |false=>exact⟨false,rfl,fun q=>by cases q⟩
 |true =>
  rw[Bool.not_true,cond_false]
  by_cases q:(L.length:Int)>500
  ·rw[decide_eq_true q]
   exact⟨false,rfl,fun q=>by cases q⟩
  ·rw[decide_eq_false q,cond_false]
   rcases Fx (L:=L) (lk hv) hk (by omega) N0 0 (Nat.zero_le _) (by omega) (fun j hj=>by omega)with e|⟨e,h⟩
   ·rw[show((0:Nat):Int)=0 from rfl]at e
    rw[e]
    exact⟨false,rfl,fun q=>by cases q⟩
   ·rw[show((0:Nat):Int)=0 from rfl]at e
    rw[e]
    exact⟨true,rfl,fun _=>⟨rfl,by omega,h⟩⟩
theorem CD{x:Int}(h0:0≤x) (h1:x≤999):∃r,ir N0 x=some r∧r.size≤3:=by
 unfold ir
 by_cases hq:x≤0
 ·rw[decide_eq_true hq,cond_true]
  exact⟨_,rfl,by decide⟩
 ·rw[decide_eq_false hq,cond_false]
  have:=n0
  obtain⟨r,e1,e2⟩:=wR 3 N0 x (⟨#[]⟩:ByteArray) h0 (by omega) (by have:(10:Int) ^ 3=1000:=rfl;omega) (by omega) (by decide)
  rw[e1,Option.bind_some]
  exact⟨r,rfl,e2⟩
theorem ww{r t A B:Int}(hk:kn.length≤200):∀(m j:Nat),(∃u,j≤u∧u<kn.length∧kn.getD u 0=t)→kn.length-j<m→∃e:Nat,c6 N0 m (kn,r,t,A,B,(j:Int))=some (e:Int)∧e<kn.length
 |0,j,h1,h2=>absurd h2 (by omega)
 |m+1,j,⟨u,h1,h3,h4⟩,h2=>by
  rw[c6]
  (try dsimp only)
  have q:j<kn.length:=by omega
  rw[ax q,cond_true,Int.toNat_natCast,bE q (by omega)]
  cases g:(kn.getD j 0 != t)with
  |false=>exact⟨j,rfl,q⟩
  |true =>
   rw[bne_iff_ne]at g
   exact ww hk m (j+1) ⟨u,by rcases Nat.eq_or_lt_of_le h1 with e|e;exact absurd (e▸h4) g;exact e,h3,h4⟩ (by omega)
theorem Bo (hp:aw xs=true){t:Int}(ht:cU xs t=true) (hk:(xs.getD t.toNat aM).1=1):∃T,fm N0 N0 (xs,t)=some T∧T.size≤10:=by
 have hN:=n0
 have hr:=d7.1 ht
 have hl:=ap hp
 have ha:0≤(xs.getD t.toNat aM).2.1∧(xs.getD t.toNat aM).2.1≤199:=by
  rcases dF hp (t:=t.toNat) (by omega)with⟨_,b,c⟩|⟨a,_⟩|⟨a,_⟩
  ·exact⟨b,c⟩
  ·omega
  ·omega
 obtain⟨R,e1,e2⟩:=CD ha.1 (by omega)
 have L:∀k, ∃T,fm N0 (k+1) (xs,t)=some T∧T.size≤10:=fun k=>by
  rw[fm]
  unfold lK
  dsimp only
  have hk':((xs.getD t.toNat ((0:Int),((0:Int),(0:Int)))).1==1)=true:=by
   show((xs.getD t.toNat aM).1==1)=true
   rw[hk];rfl
  have e1':ir N0 (xs.getD t.toNat ((0:Int),((0:Int),(0:Int)))).2.1=some R:=e1
  rw[fv ht,cond_true,hk',cond_true,e1',Option.bind_some,cD (by show 1+R.size≤_;omega),cond_true]
  exact⟨_,rfl,by rw[cw];show 1+R.size≤10;omega⟩
 obtain⟨k,hk2⟩:∃k,N0=k+1:=⟨N0-1,by omega⟩
 have h:=L k
 rw[←hk2]at h
 exact h
theorem DE (k:Int):∃o e,fL N0 k=some (o,e)∧o.size≤2∧e.size≤1:=by
 unfold fL
 cases(k==2)<;>cases(k==3)<;>cases(k==4)<;>cases(k==5)<;>cases(k==6)<;>cases(k==7)<;>exact⟨_,_,rfl,by decide,by decide⟩
theorem GU (hv:fj xs kn=true){i:Nat}(hs:xI xs kn L i){texts:List ByteArray}(hl:texts.length=i) (ht:∀T∈texts,T.size≤2001):∃T,iS N0 (xs,kn,(L.getD i eY).1,(L.getD i eY).2.1,(L.getD i eY).2.2.1,(L.getD i eY).2.2.2,texts)=some T∧T.size≤10000:=by
 obtain⟨hh,hP⟩:=hs
 have hp:=lk hv
 have K:=qW hv
 have hN:=n0
 have hkl:=K.len
 generalize (L.getD i eY).1=r at hP
 generalize (L.getD i eY).2.1=t at hh hP
 generalize (L.getD i eY).2.2.1=A at hP
 generalize (L.getD i eY).2.2.2=B at hP
 have tx:∀k:Int,0≤(bif decide (0≤k)&&decide (k<(i:Int))then(0:Int)else -1)→ah k texts.length=true∧(texts.getD k.toNat (⟨#[]⟩:ByteArray)).size≤2001:=fun k hk=>by
  cases g:(decide (0≤k)&&decide (k<(i:Int)))with
  |false=>rw[g]at hk;exact absurd hk (by decide)
  |true =>
   rw[Bool.and_eq_true,decide_eq_true_iff,decide_eq_true_iff]at g
   refine⟨decide_eq_true ⟨g.1,by omega⟩,?_⟩
   rw[List.getD_eq_getElem?_getD,List.getElem?_eq_getElem (by omega:k.toNat<texts.length),Option.getD_some]
   exact ht _ (List.getElem_mem _)
 unfold iS
 dsimp only
 rcases hP with⟨rfl,g⟩|⟨rfl,g⟩|⟨rfl,g1,g2,g3⟩|⟨g,g1,g2⟩|⟨g,g1⟩
 ·obtain⟨e,e1,e2⟩:=ww (r:=1) (t:=t) (A:=A) (B:=B) hkl N0 0 (by
   rw[ml,List.contains_iff_mem]at g
   obtain⟨u,hu,he⟩:=List.getElem_of_mem g
   exact⟨u,Nat.zero_le _,hu,by rw[List.getD_eq_getElem?_getD,List.getElem?_eq_getElem hu,Option.getD_some,he]⟩) (by omega)
  obtain⟨R,f1,f2⟩:=CD (x:=(e:Int)) (by omega) (by omega)
  rw[show((0:Nat):Int)=0 from rfl]at e1
  rw[show((1:Int)==1)=true from rfl,cond_true,e1,Option.bind_some,f1,Option.bind_some,cD (by show 1+R.size≤_;omega),cond_true]
  exact⟨_,rfl,by rw[cw];show 1+R.size≤_;omega⟩
 ·obtain⟨T,e1,e2⟩:=Bo hp hh g
  rw[show((2:Int)==1)=false from rfl,show((2:Int)==2)=true from rfl,cond_false,cond_true,e1]
  exact⟨T,rfl,by omega⟩
 ·obtain⟨o,e,s1,s2,s3⟩:=DE (xs.getD t.toNat aM).1
  obtain⟨a1,a2⟩:=tx A g1
  have s1':fL N0 (xs.getD t.toNat ((0:Int),((0:Int),(0:Int)))).1=some (o,e):=s1
  simp only[show((3:Int)==1)=false from rfl,show((3:Int)==2)=false from rfl,show((3:Int)==4)=false from rfl,show((3:Int)==5)=false from rfl,show((3:Int)==6)=false from rfl,show((3:Int)==8)=false from rfl,show((3:Int)==7)=false from rfl,cond_false,fv hh,cond_true,s1',Option.bind_some,a1]
  rcases dF hp (t:=t.toNat) (by have:=d7.1 hh;omega)with⟨k,_⟩|⟨k,_⟩|⟨k,_⟩
  ·exact absurd k g3
  ·have hpt:aY N0 (xs.getD t.toNat ((0:Int),((0:Int),(0:Int)))).1=some 1:=by
    show aY N0 (xs.getD t.toNat aM).1=some 1
    rcases k with k|k<;>rw[k]<;>rfl
   rw[hpt,Option.bind_some,show((1:Int)==1)=true from rfl,cond_true,cD (by omega),cond_true]
   exact⟨_,rfl,by rw[cw];omega⟩
  ·have hpt:aY N0 (xs.getD t.toNat ((0:Int),((0:Int),(0:Int)))).1=some 2:=by
    show aY N0 (xs.getD t.toNat aM).1=some 2
    rcases k with k|k|k|k|k<;>rw[k]<;>rfl
   obtain⟨b1,b2⟩:=tx B (g2.resolve_left (by omega))
   rw[hpt,Option.bind_some,show((2:Int)==1)=false from rfl,cond_false,b1]
   have z:(⟨#[44]⟩:ByteArray).size=1:=rfl
   simp(disch:=((try simp only[cw,z]);omega)) only[cond_true,cD]
   exact⟨_,rfl,by simp only[cw,show(⟨#[44]⟩:ByteArray).size=1 from rfl];omega⟩
 ·obtain⟨a1,a2⟩:=tx A g1
  obtain⟨b1,b2⟩:=tx B g2
  have z:(⟨#[120,40]⟩:ByteArray).size=2∧(⟨#[111,40]⟩:ByteArray).size=2∧(⟨#[44]⟩:ByteArray).size=1∧(⟨#[41]⟩:ByteArray).size=1:=⟨rfl,rfl,rfl,rfl⟩
  rcases g with rfl|rfl
  ·simp(disch:=(simp only[cw,z];omega)) only[show((4:Int)==1)=false from rfl,show((4:Int)==2)=false from rfl,show((4:Int)==4)=true from rfl,cond_false,cond_true,a1,b1,cD]
   exact⟨_,rfl,by simp only[cw,z];omega⟩
  ·simp(disch:=(simp only[cw,z];omega)) only[show((7:Int)==1)=false from rfl,show((7:Int)==2)=false from rfl,show((7:Int)==4)=false from rfl,show((7:Int)==5)=false from rfl,show((7:Int)==6)=false from rfl,show((7:Int)==8)=false from rfl,show((7:Int)==7)=true from rfl,cond_false,cond_true,a1,b1,cD]
   exact⟨_,rfl,by simp only[cw,z];omega⟩
 ·obtain⟨a1,a2⟩:=tx A g1
  have z:(⟨#[60]⟩:ByteArray).size=1∧(⟨#[62]⟩:ByteArray).size=1∧(⟨#[33]⟩:ByteArray).size=1:=⟨rfl,rfl,rfl⟩
  rcases g with rfl|rfl|rfl
  ·simp(disch:=(simp only[z];omega)) only[show((5:Int)==1)=false from rfl,show((5:Int)==2)=false from rfl,show((5:Int)==4)=false from rfl,show((5:Int)==5)=true from rfl,cond_false,cond_true,a1,cD]
   exact⟨_,rfl,by simp only[cw,z];omega⟩
  ·simp(disch:=(simp only[z];omega)) only[show((6:Int)==1)=false from rfl,show((6:Int)==2)=false from rfl,show((6:Int)==4)=false from rfl,show((6:Int)==5)=false from rfl,show((6:Int)==6)=true from rfl,cond_false,cond_true,a1,cD]
   exact⟨_,rfl,by simp only[cw,z];omega⟩
  ·simp(disch:=(simp only[z];omega)) only[show((8:Int)==1)=false from rfl,show((8:Int)==2)=false from rfl,show((8:Int)==4)=false from rfl,show((8:Int)==5)=false from rfl,show((8:Int)==6)=false from rfl,show((8:Int)==8)=true from rfl,cond_false,cond_true,a1,cD]
   exact⟨_,rfl,by simp only[cw,z];omega⟩
theorem Cp (hv:fj xs kn=true) (hL:L.length≤500) (hs:∀j,j<L.length→xI xs kn L j):∀(m i:Nat) (texts:List ByteArray),i≤L.length→L.length-i<m→texts.length=i→(∀T∈texts,T.size≤2001)→∃r,cf N0 m (kn,L,xs,texts,(i:Int))=some r∧r.length=L.length∧∀T∈r,T.size≤2001
 |0,i,texts,h1,h2,h3,h4=>absurd h2 (by omega)
 |m+1,i,texts,h1,h2,h3,h4=>by
  rw[cf]
  (try dsimp only)
  by_cases q:i<L.length
  ·have ez:L.getD i ((0:Int),((0:Int),((0:Int),(0:Int))))=L.getD i eY:=rfl
   obtain⟨T,e1,e2⟩:=GU hv (hs i q) h3 h4
   have rm:∀T:ByteArray,cJ (texts.length+[T].length)=true:=fun T=>by
    unfold cJ
    exact decide_eq_true (by rw[List.length_singleton];omega)
   have next:∀T:ByteArray,T.size≤2001→_:=fun T hT=>Cp hv hL hs m (i+1) (texts++[T]) q (by omega) (by rw[List.length_append,List.length_singleton,h3]) (fun S hS=>by
    rcases List.mem_append.1 hS with g|g
    ·exact h4 S g
    ·rw[List.mem_singleton.1 g];exact hT)
   rw[pd q,cond_true,ax q,cond_true,Int.toNat_natCast,ez,e1,Option.bind_some,bE q (by omega)]
   by_cases g:(T.size:Int)>2000
   ·have hz:(sub T 0 2000).size≤2000:=by
     unfold sub
     rw[ByteArray.size_extract]
     omega
    rw[decide_eq_true g,cond_true,show rG 0 2000 T.size=true from decide_eq_true ⟨by omega,by omega,by omega⟩,cond_true,cD (by show(sub T 0 2000).size+1≤_;omega),cond_true,rm,cond_true]
    exact next _ (by rw[cw];show(sub T 0 2000).size+1≤2001;omega)
   ·rw[decide_eq_false g,cond_false,rm,cond_true]
    exact next _ (by omega)
  ·rw[decide_eq_false (show ¬(i:Int)<(L.length:Int)by omega),cond_false]
   exact⟨texts,rfl,by omega,h4⟩
theorem zv (hx:xs.length≤4294967296) (hk:kn.length≤4294967296) (L:List mz):∃T ok,fM N0 (xs,kn,L)=some (T,ok):=by
 have hN:=n0
 suffices H:EF (fM N0 (xs,kn,L))by
  obtain⟨⟨T,ok⟩,h⟩:=H
  exact⟨T,ok,h⟩
 unfold fM
 dsimp only
 refine cF (fun _=>⟨_,rfl⟩) (fun h0=>?_)
 rw[beq_eq_false_iff_ne]at h0
 obtain⟨v,e1,e2⟩:=Fw (L:=L) hx hk
 rw[e1,Option.bind_some]
 cases v with
 |false=>exact⟨_,rfl⟩
 |true =>
  obtain⟨f1,f2,f3⟩:=e2 rfl
  obtain⟨r,g1,g2,_⟩:=Cp f1 f2 f3 N0 0 [] (Nat.zero_le _) (by omega) rfl (fun T hT=>by cases hT)
  rw[show((0:Nat):Int)=0 from rfl]at g1
  rw[Bool.not_true,cond_false,g1,Option.bind_some,ao (n:=(r.length:Int)-1) (by omega) (by omega),show ah ((r.length:Int)-1) r.length=true from decide_eq_true ⟨by omega,by omega⟩,cond_true]
  exact cF (fun _=>⟨_,rfl⟩) (fun _=>⟨_,rfl⟩)
end
end AM
end Go.Proofs.YtcflmfpnmjlhdaaGreatDoor
namespace Go.Proofs.YtcflmfpnmjlhdaaGreatDoor
namespace AM
open Go.ChangeShapes Go.WideShapes Go.ChangeAt Go.RowKit
set_option linter.unusedVariables false
theorem own:ownKnob Tryz.prog.godebug=none:=by kernel_rfl
theorem CS:laidOutB Tryz.prog=true:=by kernel_rfl
theorem Fa:"*"++"errors.errorString"="*errors.errorString":=by decide
theorem By (u:TypeId) (h:Tryz.prog.typeName? 3 u=some "*errors.errorString"):u=201 :=
 typeName_ptr_named (nm:="errors.errorString") (by rw[Fa];kernel_rfl) (by kernel_rfl) (by decide) u (by rw[Fa];exact h)
abbrev qV:List (String×DataW Unit):=Rows.fnRecipeOfRow.laid
theorem Fc{W:World}{n:String}{text:List UInt8}{g:Nat}(h:laidMet Tryz.prog [(n, .iface "*errors.errorString" (.ptr (.agg [.lit (.string text)])))] W) (hg:Tryz.prog.globalNamed n=some g) (ht:(Tryz.prog.globals[g]?).map (·.type)=some 137) :
  ∃ev,W.cell? ⟨g,0,none⟩=some ev∧(ev = .nilIface∨∃te pe,ev = .iface te pe):=by
 obtain⟨a,s,hv,_⟩:=laid_sentinel h hg ht Tryz.underlying137 By Tryz.underlying201 Tryz.underlying203 rfl rfl Tryz.underlying9 (by kernel_rfl) (by kernel_rfl)
 have:=World.var?_cell hg hv 0
 exact⟨_,this, .inr ⟨_,_,rfl⟩⟩
theorem facts{W:World}(h:laidMet Tryz.prog qV W) (hs:W.ShapedOpen Tryz.prog):au W where
 tab:=Lib.tabIs_of_head (g:=0) (t:=179) (e:=164) (n:=20) (by kernel_rfl) (by kernel_rfl) (by kernel_rfl) (by kernel_rfl) (by kernel_rfl) (by kernel_rfl)
  (iK h (.tail _ (.tail _ (.head _))))
 es:=Fc (iK h (.tail _ (.tail _ (.tail _ (.tail _ (.head _)))))) (by kernel_rfl) (by kernel_rfl)
 er:=Fc (iK h (.tail _ (.tail _ (.tail _ (.head _))))) (by kernel_rfl) (by kernel_rfl)
noncomputable def eV (os:Os):World :=
 let w0:=World.holding Tryz.prog os ⟨#[.cells #[.string ⟨#[118,97,108,117,101,32,111,117,116,32,111,102,32,114,97,110,103,101]⟩] 203, .cells #[.string ⟨#[105,110,118,97,108,105,100,32,115,121,110,116,97,120]⟩] 203], #[],[]⟩
 { w0 with heap:=((((w0.heap.modify 3 fun
   | .cells _ t frozen => .cells #[.int .u8 0, .int .u8 1, .int .u8 28, .int .u8 2, .int .u8 29, .int .u8 14, .int .u8 24, .int .u8 3, .int .u8 30, .int .u8 22, .int .u8 20, .int .u8 15, .int .u8 25, .int .u8 17, .int .u8 4, .int .u8 8, .int .u8 31, .int .u8 27, .int .u8 13, .int .u8 23, .int .u8 21, .int .u8 19, .int .u8 16, .int .u8 7, .int .u8 26, .int .u8 12, .int .u8 18, .int .u8 6, .int .u8 11, .int .u8 5, .int .u8 10, .int .u8 9] t frozen
   |o=>o).modify 4 fun
   | .cells _ t frozen => .cells #[.int .u8 0, .int .u8 1, .int .u8 56, .int .u8 2, .int .u8 57, .int .u8 49, .int .u8 28, .int .u8 3, .int .u8 61, .int .u8 58, .int .u8 42, .int .u8 50, .int .u8 38, .int .u8 29, .int .u8 17, .int .u8 4, .int .u8 62, .int .u8 47, .int .u8 59, .int .u8 36, .int .u8 45, .int .u8 43, .int .u8 51, .int .u8 22, .int .u8 53, .int .u8 39, .int .u8 33, .int .u8 30, .int .u8 24, .int .u8 18, .int .u8 12, .int .u8 5, .int .u8 63, .int .u8 55, .int .u8 48, .int .u8 27, .int .u8 60, .int .u8 41, .int .u8 37, .int .u8 16, .int .u8 46, .int .u8 35, .int .u8 44, .int .u8 21, .int .u8 52, .int .u8 32, .int .u8 23, .int .u8 11, .int .u8 54, .int .u8 26, .int .u8 40, .int .u8 15, .int .u8 34, .int .u8 20, .int .u8 31, .int .u8 10, .int .u8 25, .int .u8 14, .int .u8 19, .int .u8 9, .int .u8 13, .int .u8 8, .int .u8 7, .int .u8 6] t frozen
   |o=>o).modify 0 fun
   | .cells _ t frozen => .cells #[.int .u64 1, .int .u64 10, .int .u64 100, .int .u64 1000, .int .u64 10000, .int .u64 100000, .int .u64 1000000, .int .u64 10000000, .int .u64 100000000, .int .u64 1000000000, .int .u64 10000000000, .int .u64 100000000000, .int .u64 1000000000000, .int .u64 10000000000000, .int .u64 100000000000000, .int .u64 1000000000000000, .int .u64 10000000000000000, .int .u64 100000000000000000, .int .u64 1000000000000000000, .int .u64 10000000000000000000] t frozen
   |o=>o).modify 2 fun
   | .cells _ t frozen => .cells #[.iface 201 (.pointer (some ⟨10,0,none⟩))] t frozen
   |o=>o).modify 1 fun
   | .cells _ t frozen => .cells #[.iface 201 (.pointer (some ⟨11,0,none⟩))] t frozen
   |o=>o }
theorem qU (os:Os):(eV os).os=os:=rfl
end AM
end Go.Proofs.YtcflmfpnmjlhdaaGreatDoor
namespace Go.Proofs.YtcflmfpnmjlhdaaGreatDoor
namespace AM
open Go
set_option linter.unusedVariables false
set_option linter.unusedSimpArgs false
theorem zf{xs:List ae}(hp:aw xs=true){t:Int}(ht:cU xs t=true):∃v,ic N0 (xs,t)=some v∧0<v:=by
 have hl:=ap hp
 have hN:=n0
 have pIm:=lR N0 n0 (xs:=xs) (by omega)
 have hP:(decide (xs.length≤500)&&cE N0 [] xs)=true:=hp
 rw[hP]at pIm
 have h2:=d7.1 ht
 unfold ic
 dsimp only
 rw[oX N0 (by omega),Option.bind_some]
 dsimp only
 rw[ht,Bool.not_true,cond_false,pIm,Option.bind_some,Bool.not_true,cond_false]
 unfold iX
 dsimp only
 rw[ao (n:=t+1) (by omega) (by omega),decide_eq_true (show 0≤t+1∧t+1≤t+1∧t+1≤4294967296 by omega),cond_true]
 obtain⟨ss,e1,e2,e3⟩:=wv hp (t:=t) N0 0 (List.replicate (t+1).toNat 0) (by rw[List.length_replicate];omega) (Nat.zero_le _) (by rw[List.length_replicate];omega) (fun i hi=>by omega)
 rw[show((0:Nat):Int)=(0:Int)from rfl]at e1
 rw[List.length_replicate]at e2 e3
 have hin:ah t ss.length=true:=by rw[show t=((t.toNat:Nat):Int)by omega];exact ax (by omega)
 rw[e1,Option.bind_some]
 dsimp only
 rw[hin,cond_true,Option.bind_some]
 refine⟨_,rfl,?_⟩
 have:=(e3 t.toNat (by omega)).1
 show 0<ss.getD t.toNat 0
 omega
theorem zu{xs:List ae}(hx:xs.length≤4294967296){kn:List Int}(hk:kn.length≤4294967296) (T:ByteArray) :
  ∃ys t b c,dy N0 (xs,kn,T)=some (ys,t,b,c)∧dw N0 (xs,kn,T)=some (ys,t,b,c)∧ys.length≤4294967296 ∧
   (aw xs=true→aw ys=true∧(∃zs,ys=xs++zs)∧(c≠0→ys=xs))∧(c=0→fj xs kn=true∧cU ys t=true∧nM kn ys t)∧(fj xs kn=false→c≠0)∧(c≠0→t=-1∧(ys=xs∨ys=[]))∧(c=0→b=(T.size:Int)):=by
 have kIx:=tn hx hk
 have kSx:=j6 hx hk
 have pIx:=lR N0 n0 hx
 have pSx:=nP N0 n0 hx
 have cp:=IT hx
 have cs:=vp hx
 change gy N0 (xs,kn)=some (fj xs kn)at kIx
 change cm N0 (xs,kn)=some (fj xs kn)at kSx
 change dU N0 xs=some (aw xs)at pIx
 change dS N0 xs=some (aw xs)at pSx
 have eIx:gH N0 xs=some (bif aw xs then xs else []):=by
  unfold gH
  rw[pIx,Option.bind_some]
  cases aw xs with
  |false=>rfl
  |true=>simp only[Bool.not_true,cond_false,cp,Option.bind_some,cond_true]
 by_cases hT:T.size≤2000
 ·have h2:decide ((T.size:Int)>(2000:Int))=false:=decide_eq_false (by omega)
  cases hv:fj xs kn with
  |false =>
   rw[hv]at kIx kSx
   refine⟨bif aw xs then xs else [], -1,0,5,?_,?_,?_,?_,(fun q=>by cases q),(fun _=>by decide),(fun _=>⟨rfl,by cases aw xs with|true=>exact .inl rfl|false=>exact .inr rfl⟩),(fun q=>by cases q)⟩
   ·unfold dy
    simp only[h2,cond_false,kIx,Option.bind_some,Bool.not_false,cond_true,eIx]
   ·unfold dw
    simp only[pSx,Option.bind_some]
    cases aw xs with
    |false=>simp only[cond_false,h2,kSx,Option.bind_some,Bool.not_false,cond_true]
    |true=>simp only[cond_true,cs,h2,cond_false,kSx,Option.bind_some,Bool.not_false]
   ·cases aw xs with
    |false=>exact Nat.zero_le _
    |true=>exact hx
   ·intro q
    rw[q]
    exact⟨q,⟨[],by simp⟩,fun _=>rfl⟩
  |true =>
   rw[hv]at kIx kSx
   have hp:=lk hv
   rw[hp]at pIx pSx
   have hl:=ap hp
   rcases Fs hT hp (F4 hv)with⟨ys,t,r1,r2,r3,r4,r5,r6⟩|⟨b,c,m1,m2,x,y,c',r0,r1,r2,r3⟩
   ·have hl2:=ap r3
    refine⟨ys,t,T.size,0,?_,?_,by omega,fun _=>⟨r3,r5,fun q=>absurd rfl q⟩,fun _=>⟨rfl,r4,r6⟩,(fun q=>by cases q),(fun q=>absurd rfl q),fun _=>rfl⟩
    ·unfold dy
     have r1':c8 N0 (T,(0:Int),(0:Int),(⟨#[64,60,62,33,111,120]⟩:ByteArray),false,false,(2000:Int),kn,xs)=_:=r1
     simp only[h2,cond_false,kIx,Option.bind_some,Bool.not_true,cp,r1',bne_self_eq_false]
    ·unfold dw
     simp only[pSx,Option.bind_some,cond_true,cs,h2,cond_false,kSx,Bool.not_true,r2,bne_self_eq_false,decide_eq_false (show ¬(T.size:Int)<(T.size:Int)by omega),vp (show ys.length≤4294967296 by omega)]
   ·refine⟨xs, -1,b,c,?_,?_,hx,fun q=>⟨q,⟨[],by simp⟩,fun _=>rfl⟩,fun q=>absurd q r0,(fun q=>by cases q),(fun _=>⟨rfl, .inl rfl⟩),fun q=>absurd q r0⟩
    ·unfold dy
     have r1':c8 N0 (T,(0:Int),(0:Int),(⟨#[64,60,62,33,111,120]⟩:ByteArray),false,false,(2000:Int),kn,xs)=_:=r1
     simp only[h2,cond_false,kIx,Option.bind_some,Bool.not_true,cp,r1',show(c != 0)=true from by rw[bne_iff_ne];exact r0,cond_true,iw]
    ·unfold dw
     simp only[pSx,Option.bind_some,cond_true,cs,h2,cond_false,kSx,Bool.not_true,r2]
     rcases r3 with rfl|⟨rfl,rfl,q⟩
     ·rw[show(c' != 0)=true from by rw[bne_iff_ne];exact r0,cond_true]
     ·simp only[bne_self_eq_false,cond_false,decide_eq_true (show(b:Int)<(T.size:Int)by omega),cond_true]
 ·have h2:decide ((T.size:Int)>(2000:Int))=true:=decide_eq_true (by omega)
  refine⟨bif aw xs then xs else [], -1,0,1,?_,?_,?_,?_,(fun q=>by cases q),(fun _=>by decide),(fun _=>⟨rfl,by cases aw xs with|true=>exact .inl rfl|false=>exact .inr rfl⟩),(fun q=>by cases q)⟩
  ·unfold dy
   simp only[h2,cond_true,Option.bind_some,eIx]
  ·unfold dw
   simp only[pSx,Option.bind_some]
   cases aw xs with
   |false=>simp only[cond_false,h2,cond_true]
   |true=>simp only[cond_true,cs,h2,Option.bind_some]
  ·cases aw xs with
   |false=>exact Nat.zero_le _
   |true=>exact hx
  ·intro q
   rw[q]
   exact⟨q,⟨[],by simp⟩,fun _=>rfl⟩
theorem Pw{x y:Int}:gf N0 (x,y)=some (if x<y then x else y):=by
 unfold gf
 dsimp only
 by_cases q:x<y
 ·rw[decide_eq_true q,if_pos q];rfl
 ·rw[decide_eq_false q,if_neg q];rfl
section
variable{b:List Int}
def GM (b:List Int) (s:Option (List Int×Int×Int×ByteArray)):Prop:=∃i h T,s=some (b,i,h,T)∧Cu b i∧T.size≤300
theorem BN{i:Int}(h:Int){xs:List ae}{kn:List Int}(hx:xs.length≤501) (hk:kn.length≤220) (hc:Cu b i):GM b (eS N0 (b,i,h,xs,kn)):=by
 obtain⟨r,e1,l1,_⟩:=vn (xs:=xs) (kn:=kn) (by omega) (by omega)
 unfold eS
 dsimp only
 rw[e1,Option.bind_some]
 generalize hL:([_,_,_,_,_,_,_,_,_,_,_,_,_,_,_,_,_,_,_,_,_,_,_]:List ByteArray)=Ls
 have hL1:Ls≠[]:=by rw[←hL];simp
 have hL2:∀s∈Ls,s.size≤20:=by rw[←hL];decide
 have pk:∀i h,Cu b i→GM b ((du N0 (b,i,h,Ls)).bind fun r=>some (r.1,r.2.1,r.2.2.1,r.2.2.2)):=fun i h hc=>by
  obtain⟨i9,h9,T,e9,c9,s9⟩:=Cy N0 h Ls 20 hL1 hL2 hc
  rw[e9]
  exact⟨_,_,_,rfl,c9,Nat.le_trans s9 (by omega)⟩
 cases hr:decide ((r.length:Int)>0)with
 |false=>exact pk i h hc
 |true =>
  rw[decide_eq_true_iff]at hr
  obtain⟨i2,h2,v2,e2,c2⟩:=qK N0 h 4 hc
  rw[cond_true,e2,Option.bind_some]
  dsimp only
  cases v2 with
  |true=>exact pk i2 h2 c2
  |false =>
   obtain⟨i3,h3,v3,e3,c3,b3⟩:=dA N0 h2 (if(r.length:Int)<8 then(r.length:Int)else 8) c2
   have hv:0≤v3∧v3<(r.length:Int):=by
    rcases b3 with⟨q,_⟩|⟨q1,q2⟩
    ·split at q<;>omega
    ·split at q2<;>omega
   rw[Bool.not_false,cond_true,Pw,Option.bind_some,e3,Option.bind_some]
   dsimp only
   rw[ao (n:=(r.length:Int)-1) (by omega) (by omega),ao (n:=(r.length:Int)-1-v3) (by omega) (by omega),show ah ((r.length:Int)-1-v3) r.length=true from decide_eq_true ⟨by omega,by omega⟩,cond_true]
   obtain⟨L,ok,e4⟩:=Bn (xs:=xs) (kn:=kn) (by omega) (by omega) (r.getD ((r.length:Int)-1-v3).toNat 0)
   obtain⟨T,ok2,e5⟩:=zv (xs:=xs) (kn:=kn) (by omega) (by omega) L
   rw[e4,Option.bind_some]
   dsimp only
   rw[e5,Option.bind_some]
   dsimp only
   cases ok2 with
   |false=>exact pk i3 h3 c3
   |true =>
    rw[cond_true]
    by_cases q:(T.size:Int)<300
    ·rw[decide_eq_true q]
     exact⟨_,_,_,rfl,c3,by omega⟩
    ·rw[decide_eq_false q]
     exact pk i3 h3 c3
theorem wc (hb:b.length≤4294967296):∃xs kn T,dY N0 b=some (xs,kn,T)∧xs.length≤501∧(xs.length≤26∨Cb xs)∧kn.length≤220:=by
 obtain⟨h0,e0,c0⟩:=J4 hb
 obtain⟨i1,h1,xs,e1,c1,l1,f1⟩:=BO h0 c0
 obtain⟨i2,h2,kn,e2,c2,l2⟩:=AE h1 l1 c1
 obtain⟨i3,h3,T,e3,c3,s3⟩:=BN h2 l1 l2 c2
 obtain⟨i4,h4,v4,e4,c4⟩:=qK N0 h3 3 c3
 unfold dY
 rw[e0,Option.bind_some]
 dsimp only
 rw[e1,Option.bind_some]
 dsimp only
 rw[e2,Option.bind_some]
 dsimp only
 rw[e3,Option.bind_some]
 dsimp only
 rw[e4,Option.bind_some]
 dsimp only
 cases v4 with
 |false=>exact⟨_,_,_,rfl,l1,f1,l2⟩
 |true =>
  rw[cond_true]
  generalize hL:([_,_,_,_,_,_,_,_,_,_,_,_,_,_,_]:List ByteArray)=Ls
  obtain⟨i5,h5,R,e5,c5,s5⟩:=IR h4 Ls (by rw[←hL];simp) (by rw[←hL];decide) (show T.size≤1000 by omega) c4
  rw[e5]
  exact⟨_,_,_,rfl,l1,f1,l2⟩
end
theorem Ef{xs zs:List ae}{kn:List Int}(h:fj xs kn=true) (hp:aw (xs++zs)=true):fj (xs++zs) kn=true:=by
 obtain⟨h1,h2,h3⟩:=kY.1 h
 refine kY.2 ⟨?_,h2,hp⟩
 rw[oA]at h1 ⊢
 intro j g1 g2
 have:=h1 j g1 g2
 unfold fu at this ⊢
 rw[Bool.and_eq_true]at this ⊢
 exact⟨eW this.1,this.2⟩
theorem Bh (b:List Int):fP N0 b=some true:=by
 unfold fP qT
 rw[Option.bind_some]
 cases hb:decide ((b.length:Int)>1048576)with
 |true=>rfl
 |false =>
  rw[decide_eq_false_iff_not]at hb
  obtain⟨xs,kn,T,e1,l1,f1,l2⟩:=wc (b:=b) (by omega)
  obtain⟨ys,t,p,c,r1,r2,hy,g1,g2,g3,g4,g5⟩:=zu (xs:=xs) (by omega) (kn:=kn) (by omega) T
  rw[cond_false,e1,Option.bind_some]
  dsimp only
  rw[r1,r2,Option.bind_some,Option.bind_some]
  dsimp only
  rw[bne_self_eq_false,bne_self_eq_false,bne_self_eq_false,cond_false,cond_false,cond_false]
  by_cases hc:c=0
  ·subst hc
   obtain⟨k1,k2,k3⟩:=g2 rfl
   have hp:=lk k1
   obtain⟨q1,⟨zs,rfl⟩,_⟩:=g1 hp
   have hl:=ap q1
   have K:=qW k1
   have kV:=Ef k1 q1
   have KY:=qW kV
   have hcap:AW (xs++zs) kn:=by
    rcases f1 with f|f
    ·exact .inl fun v hv=>by have:=K.mem v hv;omega
    ·refine .inr fun v hv=>?_
     have hm:=K.mem v hv
     rw[iZ (d7.2 hm),List.getD_eq_getElem?_getD,List.getElem?_eq_getElem (by omega:v.toNat<xs.length),Option.getD_some]
     exact f _ (List.getElem_mem _)
   obtain⟨kn',KK,d1,d2,d3⟩:=wd KY hcap
   obtain⟨m1,m2⟩:=Gk KK d2 d3 k3
   have pIm:=lR N0 n0 (xs:=xs++zs) (by omega)
   have hP:(decide ((xs++zs).length≤500)&&cE N0 [] (xs++zs))=true:=q1
   rw[hP]at pIm
   have kIx:=tn (xs:=xs++zs) (by omega) (k:=kn) (by omega)
   change gy N0 (xs++zs,kn)=some (fj (xs++zs) kn)at kIx
   rw[kV]at kIx
   have hF:(d8 (xs++zs) kn').length=(xs++zs).length:=mI _ kn' _
   have hd:iY N0 (xs++zs,kn,t)=some true:=by
    unfold iY
    dsimp only
    rw[oX N0 (by omega),k2,Option.bind_some]
    dsimp only
    rw[cond_true,kIx,Option.bind_some,cond_true,d1,Option.bind_some]
    dsimp only
    rw[hF,fv k2,cond_true]
    exact congrArg some m2
   obtain⟨v,e2,e3⟩:=zf q1 k2
   rw[show((0:Int) != 0)=false from rfl,cond_false,pIm,Option.bind_some,cond_true,hd,Option.bind_some,cond_true,g5 rfl,beq_self_eq_true,cond_true,e2,Option.bind_some,decide_eq_true (show v>0 from e3)]
  ·obtain⟨h1,h2⟩:=g4 hc
   subst h1
   rw[show(c != 0)=true from by rw[bne_iff_ne];exact hc,cond_true,beq_self_eq_true,cond_true]
   rcases h2 with rfl|rfl
   ·rw[beq_self_eq_true];rfl
   ·cases((([]:List ae).length:Int)==(xs.length:Int))<;>rfl
theorem vU (x:TD (bg (aF 0 (S4 0).pars))) (hx:GI _ x):fP N0 x=some true:=Bh x
end AM
end Go.Proofs.YtcflmfpnmjlhdaaGreatDoor
