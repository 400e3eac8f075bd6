/- A recipe read by the reference alone: what it answers is right. Under: the pool is right, what is known is there. And what follows it: see the remarks. -/
import Derived.Test.YtpgigedclifoeaaGreatDoorPP2
import Derived.Lib.SlicesCompact
import Derived.Test.YtpgigedclifoeaaGreatDoorRows
import Derived.Test.YtpgigedclifoeaaGreatDoorPALo
import Derived.ProofKit
import Derived.OpenShut
import Derived.Deep.DeepHandedRow
import Derived.Shelf.Vars
import Derived.Stop.LaidErr
import Derived.LaidLaws
namespace Go.Proofs.YtpgigedclifoeaaGreatDoor
namespace AM
open Go
set_option linter.unusedVariables false
set_option linter.unusedSimpArgs false
def uy (T:ByteArray) (a:Nat) (xs:List ab) (s:Option (List ab×Int×Int×Int)):Prop :=
 ∃ys t k c,s=some (ys,t,k,c)∧(c=0→aW ys=true∧(∃zs,ys=xs++zs)∧ci ys t=true∧∃b:Nat,k=b∧a<b∧b≤T.size)
def Eu (T:ByteArray) (a:Nat) (xs:List ab) (s:Option (List ab×Int×Int×Int×Int)):Prop :=
 ∃ys x y k c,s=some (ys,x,y,k,c)∧(c=0→aW ys=true∧(∃zs,ys=xs++zs)∧ci ys x=true∧ci ys y=true∧∃b:Nat,k=b∧a<b∧b≤T.size)
def zb (kn:List Int) (xs:List ab):Prop:=∀u,u<kn.length→ci xs (kn.getD u 0)=true
theorem kg{xs:List ab}{v:Int}:ci xs v=true↔0≤v∧v<(xs.length:Int):=by
 unfold ci
 rw[Bool.and_eq_true,decide_eq_true_iff,decide_eq_true_iff]
 omega
theorem wC{xs zs:List ab}{v:Int}(h:ci xs v=true):ci (xs++zs) v=true:=by
 rw[kg]at h ⊢
 rw[List.length_append]
 omega
theorem Jo{kn:List Int}{xs zs:List ab}(h:zb kn xs):zb kn (xs++zs):=fun u hu=>wC (h u hu)
theorem DD{k a b:Int}{i:Nat}(hi:i≤4294967296) (h:gf N0 (k,a,b,(i:Int))=true):(k=1∧0≤a∧a≤199)∨((k=5∨k=7)∧0≤a∧a<(i:Int))∨((k=2∨k=3∨k=4∨k=6∨k=8)∧0≤a∧a<(i:Int)∧0≤b∧b<(i:Int)):=by
 have w:IntKind.i64.wrap ((i:Int)-(1:Int))=(i:Int)-1:=am (by omega) (by omega)
 have hr:∀v lo hi:Int,aI N0 (v,lo,hi)=some (decide (v≥lo)&&decide (v≤hi)):=fun v lo hi=>by
  unfold aI
  cases q:decide (v≥lo)<;>(simp[q])
 have hk:gf N0 (k,a,b,(i:Int))=(bM N0 (k,a,b,(i:Int))).getD false:=rfl
 rw[hk]at h
 unfold bM at h
 dsimp only at h
 rw[w,hr,hr,hr]at h
 by_cases h1:k=1
 ·subst h1
  rw[show dS N0 1=some 0 from rfl]at h
  left
  cases q:(decide (a≥0)&&decide (a≤199))with
  |false=>simp only[Option.bind_some,beq_self_eq_true,cond_true,q]at h;cases h
  |true =>
   rw[Bool.and_eq_true,decide_eq_true_iff,decide_eq_true_iff]at q
   exact⟨rfl,q.1,q.2⟩
 by_cases h5:k=5∨k=7
 ·right;left
  have hc:dS N0 k=some 1:=by rcases h5 with rfl|rfl<;>rfl
  rw[hc]at h
  cases q:(decide (a≥0)&&decide (a≤(i:Int)-1))with
  |false=>simp only[Option.bind_some,show((1:Int)==0)=false from rfl,beq_self_eq_true,cond_true,cond_false,q]at h;cases h
  |true =>
   rw[Bool.and_eq_true,decide_eq_true_iff,decide_eq_true_iff]at q
   exact⟨h5,q.1,by omega⟩
 by_cases h2:k=2∨k=3∨k=4∨k=6∨k=8
 ·right;right
  have hc:dS N0 k=some 2:=by rcases h2 with rfl|rfl|rfl|rfl|rfl<;>rfl
  rw[hc]at h
  cases q:(decide (a≥0)&&decide (a≤(i:Int)-1))with
  |false=>simp only[Option.bind_some,show((2:Int)==0)=false from rfl,show((2:Int)==1)=false from rfl,beq_self_eq_true,cond_true,cond_false,q]at h;cases h
  |true =>
   cases q2:(decide (b≥0)&&decide (b≤(i:Int)-1))with
   |false=>simp only[Option.bind_some,show((2:Int)==0)=false from rfl,show((2:Int)==1)=false from rfl,beq_self_eq_true,cond_true,cond_false,q,q2]at h;cases h
   |true =>
    rw[Bool.and_eq_true,decide_eq_true_iff,decide_eq_true_iff]at q q2
    exact⟨h2,q.1,by omega,q2.1,by omega⟩
 exfalso
 have hc:∃c,dS N0 k=some c∧c≠0∧c≠1∧c≠2:=by
  unfold dS
  simp only[show(k==1)=false from by rw[beq_eq_false_iff_ne];exact h1,show(k==2)=false from by rw[beq_eq_false_iff_ne];omega,show(k==3)=false from by rw[beq_eq_false_iff_ne];omega,show(k==4)=false from by rw[beq_eq_false_iff_ne];omega,show(k==5)=false from by rw[beq_eq_false_iff_ne];omega,show(k==6)=false from by rw[beq_eq_false_iff_ne];omega,show(k==7)=false from by rw[beq_eq_false_iff_ne];omega,show(k==8)=false from by rw[beq_eq_false_iff_ne];omega,cond_false]
  exact⟨_,rfl,by decide,by decide,by decide⟩
 obtain⟨c,hc,c0,c1,c2⟩:=hc
 rw[hc]at h
 simp only[Option.bind_some,show(c==0)=false from by rw[beq_eq_false_iff_ne];exact c0,show(c==1)=false from by rw[beq_eq_false_iff_ne];exact c1,show(c==2)=false from by rw[beq_eq_false_iff_ne];exact c2,cond_false]at h
 cases h
theorem Ci{m:List ab}{p:Int}(hp:aW m=true) (h:ci m p=true) (hk:(m.getD p.toNat og).1=2∨(m.getD p.toNat og).1=3∨(m.getD p.toNat og).1=4):ci m (m.getD p.toNat og).2.1=true∧ci m (m.getD p.toNat og).2.2=true:=by
 have h2:=kg.1 h
 have hl:=cd hp
 have:=DD (by omega) (yA hp (j:=p.toNat) (by omega))
 rw[kg,kg]
 rcases this with⟨q,_⟩|⟨q,_⟩|⟨_,q1,q2,q3,q4⟩
 ·rw[q]at hk;omega
 ·rcases q with q|q<;>(rw[q]at hk;omega)
 ·omega
section
variable{T:ByteArray}{a:Nat}{xs:List ab}{kn:List Int}
theorem iy{ys:List ab}{t k c:Int}(hc:c≠0):uy T a xs (some (ys,t,k,c)):=⟨ys,t,k,c,rfl,fun h=>absurd h hc⟩
theorem uH{ys:List ab}{t u k c:Int}(hc:c≠0):Eu T a xs (some (ys,t,u,k,c)):=⟨ys,t,u,k,c,rfl,fun h=>absurd h hc⟩
theorem yk (hT:T.size≤100000) (ha:a≤T.size) (e:Int):(au N0 (T,(a:Int),e)=some (((a+1:Nat):Int),(0:Int))∧a+1≤T.size)∨(∃k c:Int,c≠0∧au N0 (T,(a:Int),e)=some (k,c)):=by
 unfold au
 dsimp only
 by_cases h:a<T.size
 ·rw[show decide ((a:Int)≥(T.size:Int))=false from decide_eq_false (by omega),ax h,cond_false,cond_true]
  cases(bt T (a:Int) != e)with
  |false =>
   rw[cond_false,am (by omega) (by omega)]
   exact .inl ⟨rfl,h⟩
  |true=>exact .inr ⟨_,3,by decide,rfl⟩
 ·rw[show decide ((a:Int)≥(T.size:Int))=true from decide_eq_true (by omega),cond_true]
  exact .inr ⟨_,2,by decide,rfl⟩
theorem Py{rec_:List ab×List Int×ByteArray×Int→Option (List ab×Int×Int×Int)}(hT:T.size≤100000) (ha:a+1≤T.size) (hp:aW xs=true) (hk:zb kn xs):uy T a xs ((j6 N0 (T,((a+1:Nat):Int))).bind fun r1=>(cond (!r1.2.2) (some (xs,(-1:Int),(a:Int),(4:Int))) (cond (decide (r1.1≥((kn).length:Int))) (some (xs,(-1:Int),(a:Int),(4:Int))) ((iv N0 rec_ (kn,xs,[],r1.1,r1.2.1)).bind fun g2=>(some (g2.1,g2.2.1,g2.2.2.1,g2.2.2.2)))))):=by
 obtain⟨x,nx,b,e,h⟩:=Fi N0 (by have:=n0;omega) (T:=T) (by omega) (a+1)
 rw[e,Option.bind_some]
 dsimp only
 cases b with
 |false=>exact iy (by decide)
 |true =>
  obtain⟨x0,n1,n2⟩:=h rfl
  rw[Bool.not_true,cond_false]
  cases hku:decide (x≥(kn.length:Int))with
  |true=>exact iy (by decide)
  |false =>
   rw[decide_eq_false_iff_not]at hku
   have hu:x.toNat<kn.length:=by omega
   have ex:((x.toNat:Nat):Int)=x:=by omega
   have hin:=ax hu
   rw[ex]at hin
   rw[cond_false,iv]
   dsimp only
   rw[hin,cond_true,Option.bind_some]
   exact⟨_,_,_,_,rfl,fun _=>⟨hp,⟨[],by simp⟩,hk _ hu,_,rfl,by omega,n2⟩⟩
theorem yP{p:Nat}(hT:T.size≤100000):∀(m i:Nat) (acc:Int),p≤i→i≤p+4→p+4<m+i→∃(i':Nat) (acc':Int),cZ N0 m (T,(i:Int),(p:Int),acc)=some (T,(i':Int),(p:Int),acc')∧i≤i'∧(i<i'→i<T.size∧i'≤T.size)
 |0,i,acc,h1,h2,hm=>by omega
 |m+1,i,acc,h1,h2,hm=>by
  have no:∃(i':Nat) (acc':Int),some (T,(i:Int),(p:Int),acc)=some (T,(i':Int),(p:Int),acc')∧i≤i'∧(i<i'→i<T.size∧i'≤T.size):=⟨i,acc,rfl,Nat.le_refl _,fun q=>by omega⟩
  rw[cZ]
  dsimp only
  by_cases hq:i<T.size
  ·rw[oL hq,cond_true,ax hq,cond_true]
   cases decide (bt T (i:Int)≥48)with
   |false=>exact no
   |true =>
    rw[cond_true,cond_true]
    cases decide (bt T (i:Int)≤57)with
    |false=>exact no
    |true =>
     rw[cond_true,am (n:=(i:Int)-(p:Int)) (by omega) (by omega)]
     by_cases h5:(i:Int)-(p:Int)<4
     ·rw[decide_eq_true h5,cond_true,cond_true,aX hq (by omega)]
      obtain⟨i',a',e1,e2,e3⟩:=yP hT m (i+1) (IntKind.i64.wrap ((IntKind.i64.wrap ((IntKind.i64.wrap ((10:Int)*acc))+(IntKind.i64.wrap (bt T (i:Int)))))-(48:Int))) (by omega) (by omega) (by omega) (p:=p)
      exact⟨i',a',e1,by omega,fun _=>by omega⟩
     ·rw[decide_eq_false h5,cond_false]
      exact no
  ·rw[show decide ((i:Int)<(T.size:Int))=false from decide_eq_false (by omega),cond_false]
   exact no
theorem IY (hT:T.size≤100000) (p:Nat):∃(x:Int) (nx:Nat) (b:Bool),ip N0 (T,(p:Int))=some (x,(nx:Int),b)∧(b=true→p<nx∧nx≤T.size):=by
 obtain⟨i',a',e1,e2,e3⟩:=yP (p:=p) hT N0 p 0 (Nat.le_refl _) (by omega) (by have:=n0;omega)
 have no:∃(x:Int) (nx:Nat) (b:Bool),some ((0:Int),(0:Int),false)=some (x,(nx:Int),b)∧(b=true→p<nx∧nx≤T.size):=⟨0,0,false,rfl,fun q=>by cases q⟩
 unfold ip
 dsimp only
 rw[e1,Option.bind_some]
 dsimp only
 cases hq:((i':Int)==(p:Int))with
 |true=>exact no
 |false =>
  have hlt:p<i':=by
   rw[beq_eq_false_iff_ne]at hq
   omega
  have yes:∃(x:Int) (nx:Nat) (b:Bool),some (a',(i':Int),true)=some (x,(nx:Int),b)∧(b=true→p<nx∧nx≤T.size):=⟨a',i',true,rfl,fun _=>⟨hlt,(e3 hlt).2⟩⟩
  rw[cond_false,ax (e3 hlt).1]
  cases decide (IntKind.i64.wrap ((i':Int)-(p:Int))>3)with
  |true=>exact no
  |false =>
   rw[cond_false,cond_true]
   cases(bt T (p:Int)==48)<;>cases decide (IntKind.i64.wrap ((i':Int)-(p:Int))>1)<;>cases decide (a'≥200)<;>first
    |exact no
    |exact yes
theorem MF (hT:T.size≤100000) (ha:a+1≤T.size) (hp:aW xs=true):uy T a xs ((ip N0 (T,((a+1:Nat):Int))).bind fun r3=>(cond (!r3.2.2) (some (xs,(-1:Int),(a:Int),(4:Int))) ((gP N0 r3.1).bind fun r4=>(cond (!r4) (some (xs,(-1:Int),(a:Int),(4:Int))) ((bU N0 (xs,r3.1)).bind fun r5=>(cond (decide (r5.2<(0:Int))) (some (xs,(-1:Int),r3.2.1,(5:Int))) (some (r5.1,r5.2,r3.2.1,(0:Int))))))))):=by
 obtain⟨x,nx,b,e,h⟩:=IY hT (a+1)
 rw[e,Option.bind_some]
 dsimp only
 cases b with
 |false=>exact iy (by decide)
 |true =>
  obtain⟨n1,n2⟩:=h rfl
  have hq:∃q,gP N0 x=some q:=by
   unfold gP bS
   cases decide (x≥0)<;>exact⟨_,rfl⟩
  obtain⟨q,hq⟩:=hq
  rw[Bool.not_true,cond_false,hq,Option.bind_some,j8 hp]
  cases q with
  |false=>exact iy (by decide)
  |true =>
   rw[Bool.not_true,cond_false,Option.bind_some]
   cases hA:gV xs 1 x 0 with
   |none=>exact iy (by decide)
   |some p =>
    obtain⟨ys,t⟩:=p
    obtain⟨g1,g2,g3⟩:=ml hp hA
    rw[show jU xs (some (ys,t))=(ys,t)from rfl]
    dsimp only
    rw[show decide (t<(0:Int))=false from decide_eq_false (by have:=(kg.1 g2).1;omega),cond_false]
    exact⟨_,_,_,_,rfl,fun _=>⟨g1,g3,g2,_,rfl,by omega,n2⟩⟩
theorem Qu{ys:List ab}(hp:aW ys=true){t:Int}(h:ci ys t=true) (v:Int):∃o,eK N0 (ys,v,t)=some o∧(o<0∨ci ys o=true):=by
 unfold eK
 dsimp only
 rw[o9 h,cond_true]
 have e1:((ys.getD t.toNat og).1==(2:Int))=true→ci ys (ys.getD t.toNat og).2.1=true∧ci ys (ys.getD t.toNat og).2.2=true:=fun q=>Ci hp h (.inl (by simpa using q))
 have e2:((ys.getD t.toNat og).1==(4:Int))=true→ci ys (ys.getD t.toNat og).2.1=true:=fun q=>(Ci hp h (.inr (.inr (by simpa using q)))).1
 have ez:ys.getD t.toNat ((0:Int),((0:Int),(0:Int)))=ys.getD t.toNat og:=rfl
 rw[ez]
 revert e1 e2
 cases((ys.getD t.toNat og).1==(2:Int))<;>cases((ys.getD t.toNat og).1==(4:Int))<;>cases(v==(60:Int))<;>cases(v==(33:Int))<;>cases(v==(62:Int))<;>intro e1 e2<;>first
  |exact⟨_,rfl, .inl (by decide)⟩
  |exact⟨_,rfl, .inr (e1 rfl).1⟩
  |exact⟨_,rfl, .inr (e1 rfl).2⟩
  |exact⟨_,rfl, .inr (e2 rfl)⟩
theorem ER{s:Option (List ab×Int×Int×Int)}(hs:uy T (a+1) xs s) (v:Int):uy T a xs (s.bind fun r6=>(cond (r6.2.2.2 != (0:Int)) (some (r6.1,(-1:Int),r6.2.2.1,r6.2.2.2)) ((eK N0 (r6.1,v,r6.2.1)).bind fun r7=>(cond (decide (r7<(0:Int))) (some (r6.1,(-1:Int),r6.2.2.1,(7:Int))) (some (r6.1,r7,r6.2.2.1,(0:Int))))))):=by
 obtain⟨ys,t,k,c,rfl,h⟩:=hs
 rw[Option.bind_some]
 dsimp only
 by_cases hc:c=0
 ·obtain⟨h1,h2,h3,b,h4,h5,h6⟩:=h hc
  obtain⟨o,e1,e2⟩:=Qu h1 h3 v
  rw[hc,e1,Option.bind_some,show((0:Int) != 0)=false from rfl,cond_false]
  cases ho:decide (o<0)with
  |true=>exact iy (by decide)
  |false =>
   rw[decide_eq_false_iff_not]at ho
   exact⟨_,_,_,_,rfl,fun _=>⟨h1,h2,e2.resolve_left ho,b,h4,by omega,h6⟩⟩
 ·rw[show(c != 0)=true from by rw[bne_iff_ne];exact hc,cond_true]
  exact iy hc
theorem Kv{ys:List ab}(h1:aW ys=true) (h2:∃zs,ys=xs++zs){b:Nat}(h5:a<b) (h6:b≤T.size) (kd p q:Int):uy T a xs ((bb N0 (ys,kd,p,q)).bind fun r18=>(cond (decide (r18.2<(0:Int))) (some (ys,(-1:Int),(b:Int),(5:Int))) (some (r18.1,r18.2,(b:Int),(0:Int))))):=by
 rw[ix h1,Option.bind_some]
 cases hA:gV ys kd p q with
 |none=>exact iy (by decide)
 |some m =>
  obtain⟨zs,t⟩:=m
  obtain⟨g1,g2,z,g3⟩:=ml h1 hA
  rw[show jU ys (some (zs,t))=(zs,t)from rfl]
  dsimp only
  rw[show decide (t<(0:Int))=false from decide_eq_false (by have:=(kg.1 g2).1;omega),cond_false]
  obtain⟨z',h2⟩:=h2
  exact⟨_,_,_,_,rfl,fun _=>⟨g1,⟨z'++z,by rw[g3,h2,List.append_assoc]⟩,g2,b,rfl,h5,h6⟩⟩
theorem MH{s:Option (List ab×Int×Int×Int)}(hs:uy T (a+1) xs s) (kd:Int):uy T a xs (s.bind fun r19=>(cond (r19.2.2.2 != (0:Int)) (some (r19.1,(-1:Int),r19.2.2.1,r19.2.2.2)) ((bb N0 (r19.1,kd,r19.2.1,(0:Int))).bind fun r20=>(cond (decide (r20.2<(0:Int))) (some (r19.1,(-1:Int),r19.2.2.1,(5:Int))) (some (r20.1,r20.2,r19.2.2.1,(0:Int))))))):=by
 obtain⟨ys,t,k,c,rfl,h⟩:=hs
 rw[Option.bind_some]
 dsimp only
 by_cases hc:c=0
 ·obtain⟨h1,h2,h3,b,h4,h5,h6⟩:=h hc
  rw[hc,h4,show((0:Int) != 0)=false from rfl,cond_false]
  exact Kv h1 h2 (by omega) h6 kd _ _
 ·rw[show(c != 0)=true from by rw[bne_iff_ne];exact hc,cond_true]
  exact iy hc
theorem MG{s:Option (List ab×Int×Int×Int×Int)}(hs:Eu T (a+1) xs s) (kd:Int):uy T a xs (s.bind fun r17=>(cond (r17.2.2.2.2 != (0:Int)) (some (r17.1,(-1:Int),r17.2.2.2.1,r17.2.2.2.2)) ((bb N0 (r17.1,kd,r17.2.1,r17.2.2.1)).bind fun r18=>(cond (decide (r18.2<(0:Int))) (some (r17.1,(-1:Int),r17.2.2.2.1,(5:Int))) (some (r18.1,r18.2,r17.2.2.2.1,(0:Int))))))):=by
 obtain⟨ys,t,u,k,c,rfl,h⟩:=hs
 rw[Option.bind_some]
 dsimp only
 by_cases hc:c=0
 ·obtain⟨h1,h2,h3,h3',b,h4,h5,h6⟩:=h hc
  rw[hc,h4,show((0:Int) != 0)=false from rfl,cond_false]
  exact Kv h1 h2 (by omega) h6 kd _ _
 ·rw[show(c != 0)=true from by rw[bne_iff_ne];exact hc,cond_true]
  exact iy hc
theorem F4{s:Option (List ab×Int×Int×Int×Int)}(hs:Eu T (a+1) xs s) (v:Int):uy T a xs (s.bind fun r12=>(cond (r12.2.2.2.2 != (0:Int)) (some (r12.1,(-1:Int),r12.2.2.2.1,r12.2.2.2.2)) ((iO N0 (r12.1,v,r12.2.1,r12.2.2.1)).bind fun r13=>(some (r13.1,r13.2.1,r12.2.2.2.1,r13.2.2))))):=by
 obtain⟨ys,x,y,k,c,rfl,h⟩:=hs
 rw[Option.bind_some]
 dsimp only
 by_cases hc:c=0
 ·obtain⟨h1,⟨z',h2⟩,h3,h3',b,h4,h5,h6⟩:=h hc
  rw[hc,h4,show((0:Int) != 0)=false from rfl,cond_false,iO]
  dsimp only
  rw[o9 h3,o9 h3',cond_true,cond_true]
  cases(v==(111:Int))with
  |true =>
   rw[cond_true]
   cases hk:((ys.getD x.toNat ((0:Int),((0:Int),(0:Int)))).1 != (3:Int))with
   |true=>exact iy (c:=7) (by decide)
   |false =>
    have hk3:(ys.getD x.toNat og).1=3:=by
     rw[bne_eq_false_iff_eq]at hk
     exact hk
    rw[cond_false]
    cases((ys.getD x.toNat ((0:Int),((0:Int),(0:Int)))).2.2 != y)with
    |true=>exact iy (c:=7) (by decide)
    |false=>exact⟨_,_,_,_,rfl,fun _=>⟨h1,⟨z',h2⟩,(Ci h1 h3 (.inr (.inl hk3))).1,b,rfl,by omega,h6⟩⟩
  |false =>
   rw[cond_false]
   cases((ys.getD y.toNat ((0:Int),((0:Int),(0:Int)))).1 != (7:Int))with
   |true=>exact iy (c:=7) (by decide)
   |false =>
    rw[cond_false,uC h1,Option.bind_some]
    cases hA:nI ys y x with
    |none=>exact iy (c:=5) (by decide)
    |some m =>
     obtain⟨zs,t⟩:=m
     obtain⟨g1,g2,z,g3⟩:=ml h1 (pV hA)
     rw[show jU ys (some (zs,t))=(zs,t)from rfl]
     dsimp only
     rw[show decide (t<(0:Int))=false from decide_eq_false (by have:=(kg.1 g2).1;omega),cond_false]
     exact⟨_,_,_,_,rfl,fun _=>⟨g1,⟨z'++z,by rw[g3,h2,List.append_assoc]⟩,g2,b,rfl,by omega,h6⟩⟩
 ·rw[show(c != 0)=true from by rw[bne_iff_ne];exact hc,cond_true]
  exact iy hc
theorem ZT{c:Int}(h:c≠0):(c==0)=false:=by rw[beq_eq_false_iff_ne];exact h
theorem C6{rec_:List ab×List Int×ByteArray×Int→Option (List ab×Int×Int×Int)}(hT:T.size≤100000) (ih:∀(b:Nat) (ys:List ab),a≤b→b≤T.size→aW ys=true→zb kn ys→uy T b ys (rec_ (ys,kn,T,(b:Int)))) (ha:a≤T.size) (hp:aW xs=true) (hk:zb kn xs){b:Nat}(hb:a≤b) (hb2:b≤T.size) (e:Int):Eu T a xs (dm N0 rec_ (xs,kn,T,(b:Int),false,e)):=by
 unfold dm
 dsimp only
 rw[cond_false,show((0:Int)==0)=true from rfl,cond_true]
 obtain⟨ys,t,k,c,e1,h⟩:=ih b xs hb hb2 hp hk
 rw[e1,Option.bind_some]
 dsimp only
 by_cases hc:c=0
 ·obtain⟨h1,⟨z,rfl⟩,h3,b',rfl,h5,h6⟩:=h hc
  rw[hc,show((0:Int)==0)=true from rfl,cond_true]
  rcases yk hT h6 44 with⟨w1,w2⟩|⟨k2,c2,w0,w1⟩
  ·rw[w1,Option.bind_some]
   dsimp only
   rw[show((0:Int)==0)=true from rfl,cond_true]
   obtain⟨ys2,t2,k2,c2,e2,h'⟩:=ih (b'+1) _ (by omega) w2 h1 (Jo hk)
   rw[e2,Option.bind_some]
   dsimp only
   by_cases hc2:c2=0
   ·obtain⟨i1,⟨z2,rfl⟩,i3,b2,rfl,i5,i6⟩:=h' hc2
    rw[hc2,show((0:Int)==0)=true from rfl,cond_true]
    rcases yk hT i6 e with⟨u1,u2⟩|⟨k3,c3,u0,u1⟩
    ·rw[u1,Option.bind_some]
     exact⟨_,_,_,_,_,rfl,fun _=>⟨i1,⟨z++z2,by rw[List.append_assoc]⟩,wC h3,i3,_,rfl,by omega,u2⟩⟩
    ·rw[u1,Option.bind_some]
     exact uH u0
   ·rw[ZT hc2,cond_false]
    exact uH hc2
  ·rw[w1,Option.bind_some]
   dsimp only
   rw[ZT w0,cond_false]
   exact uH w0
 ·rw[ZT hc,cond_false]
  exact uH hc
theorem Is{T:ByteArray}{a b e:Int}{kn:List Int}{xs:List ab}{rec_:List ab×List Int×ByteArray×Int→Option (List ab×Int×Int×Int)}(h:au N0 (T,a,40)=some (b,0)):dm N0 rec_ (xs,kn,T,a,true,e)=dm N0 rec_ (xs,kn,T,b,false,e):=by
 unfold dm
 dsimp only
 rw[h]
 rfl
theorem Ir{T:ByteArray}{a b e c:Int}{kn:List Int}{xs:List ab}{rec_:List ab×List Int×ByteArray×Int→Option (List ab×Int×Int×Int)}(h:au N0 (T,a,40)=some (b,c)) (hc:c≠0):dm N0 rec_ (xs,kn,T,a,true,e)=some (xs, -1, -1,b,c):=by
 unfold dm
 dsimp only
 rw[h,cond_true,Option.bind_some]
 dsimp only
 rw[show(c==0)=false from by rw[beq_eq_false_iff_ne];exact hc]
 rfl
theorem EH{rec_:List ab×List Int×ByteArray×Int→Option (List ab×Int×Int×Int)}(hT:T.size≤100000) (ih:∀(b:Nat) (ys:List ab),a≤b→b≤T.size→aW ys=true→zb kn ys→uy T b ys (rec_ (ys,kn,T,(b:Int)))) (ha:a≤T.size) (hp:aW xs=true) (hk:zb kn xs) (o:Bool) (e:Int):Eu T a xs (dm N0 rec_ (xs,kn,T,(a:Int),o,e)):=by
 cases o with
 |false=>exact C6 hT ih ha hp hk (Nat.le_refl _) ha e
 |true =>
  rcases yk hT ha 40 with⟨w1,w2⟩|⟨k,c,w0,w1⟩
  ·have h:=C6 hT ih ha hp hk (Nat.le_succ a) w2 e
   rw[Is w1]
   exact h
  ·rw[Ir w1 w0]
   exact uH w0
end
theorem Jn{T:ByteArray}{a:Int}(h:aY a T.size=true):∃k l e,j4 N0 (T,a)=some (k,l,e):=by
 unfold j4
 dsimp only
 rw[h,cond_true]
 cases(bt T a==40)
 ·cases(bt T a==123)
  ·cases(bt T a==91)
   ·cases(bt T a==35)
    ·cases(bt T a==94)
     ·cases(bt T a==107)
      ·cases(bt T a==42)<;>exact⟨_,_,_,rfl⟩
      ·exact⟨_,_,_,rfl⟩
     ·exact⟨_,_,_,rfl⟩
    ·exact⟨_,_,_,rfl⟩
   ·exact⟨_,_,_,rfl⟩
  ·exact⟨_,_,_,rfl⟩
 ·exact⟨_,_,_,rfl⟩
theorem Kt{T:ByteArray}(hT:T.size≤100000){kn:List Int}:∀(n a:Nat) (xs:List ab) (j:Nat),T.size-a≤n→n<j→a≤T.size→aW xs=true→zb kn xs→uy T a xs (dH N0 j (xs,kn,T,(a:Int)))
 |n,a,xs,0,_,hj,_,_,_=>absurd hj (by omega)
 |n,a,xs,j+1,hn,hj,ha,hp,hk=>by
  show uy T a xs (ly N0 (dH N0 j) (xs,kn,T,(a:Int)))
  unfold ly
  dsimp only
  by_cases hs:a<T.size
  ·obtain⟨n,rfl⟩:∃m,n=m+1:=⟨n-1,by omega⟩
   have ih:∀(b:Nat) (ys:List ab),a+1≤b→b≤T.size→aW ys=true→zb kn ys→uy T b ys (dH N0 j (ys,kn,T,(b:Int))):=fun b ys q1 q2 q3 q4=>Kt hT n b ys j (by omega) (by omega) q2 q3 q4
   obtain⟨kd,l,e,hkd⟩:=Jn (T:=T) (ax hs)
   rw[show decide ((a:Int)≥(T.size:Int))=false from decide_eq_false (by omega),ax hs,cond_false,cond_true,hkd,am (by omega) (by omega),show((a:Int)+1)=((a+1:Nat):Int)from by omega,Option.bind_some]
   dsimp only
   have hi:=ih (a+1) xs (Nat.le_refl _) hs hp hk
   cases(bt T (a:Int)==(64:Int))with
   |true=>exact Py hT hs hp hk
   |false =>
   rw[cond_false]
   cases(bt T (a:Int)==(110:Int))with
   |true=>exact MF hT hs hp
   |false =>
   rw[cond_false]
   cases(bt T (a:Int)==(60:Int))with
   |true=>exact ER hi _
   |false =>
   rw[cond_false]
   cases(bt T (a:Int)==(62:Int))with
   |true=>exact ER hi _
   |false =>
   rw[cond_false]
   cases(bt T (a:Int)==(33:Int))with
   |true=>exact ER hi _
   |false =>
   rw[cond_false]
   cases(bt T (a:Int)==(111:Int))with
   |true=>exact F4 (EH hT ih hs hp hk true 41) _
   |false =>
   rw[cond_false]
   cases(bt T (a:Int)==(120:Int))with
   |true=>exact F4 (EH hT ih hs hp hk true 41) _
   |false =>
   rw[cond_false]
   cases decide (kd>0)with
   |true =>
    rw[cond_true,cond_true]
    cases decide (e>0)with
    |true=>exact MG (EH hT ih hs hp hk _ _) _
    |false=>exact MH hi _
   |false=>exact iy (c:=3) (by decide)
  ·rw[show decide ((a:Int)≥(T.size:Int))=true from decide_eq_true (by omega),cond_true]
   exact iy (by decide)
theorem Dd {α:Type}{xs:List α}(h:xs.length≤1000000){k:α}:aO (xs.length+[k].length)=true:=by
 unfold aO
 simp
 omega
def Jr (t:Int):List Int→List Int
 |[]=>[t]
 |v::r=>if v<t then v::Jr t r else t::v::r
def qS (v:Int):Bool→List Int→List Int×Bool
 |b,[]=>([],b)
 |true,x::r=>(x::r,true)
 |false,x::r=>if v<x then(v::x::r,true)else(x::(qS v false r).1,(qS v false r).2)
theorem EZ (v:Int) (r:List Int):qS v true r=(r,true):=by cases r<;>rfl
theorem AA (v:Int):∀(r pre out:List Int) (b:Bool) (m:Nat),r.length<m→pre.length+r.length≤1000→out.length+2*r.length≤100000→bv N0 m (pre++r,v,out,b,(pre.length:Int))=some (v,out++(qS v b r).1,(qS v b r).2)
 |[],pre,out,b,m,hm,hl,ho=>by
  obtain⟨i,rfl⟩:∃i,m=i+1:=⟨m-1,by omega⟩
  rw[bv]
  dsimp only
  rw[Lg,cond_false]
  cases b<;>simp[qS]
 |x::r,pre,out,b,m,hm,hl,ho=>by
  obtain⟨i,rfl⟩:∃i,m=i+1:=⟨m-1,by omega⟩
  have hl':pre.length+(r.length+1)≤1000:=hl
  have hm':r.length+1<i+1:=hm
  have w:IntKind.i64.wrap ((pre.length:Int)+1)=((pre++[x]).length:Int):=by rw[am (by omega) (by omega),sE]
  have ho2:out.length+2*(r.length+1)≤100000:=ho
  have go:∀out' b',out'.length+2*r.length≤100000→bv N0 i (pre++x::r,v,out',b',((pre++[x]).length:Int))=some (v,out'++(qS v b' r).1,(qS v b' r).2):=fun out' b' ho'=>by
   rw[GX]
   exact AA v r (pre++[x]) out' b' i (by omega) (by simp;omega) ho'
  rw[bv]
  dsimp only
  rw[Le,cond_true,Lr,Int.toNat_natCast,GH]
  simp only[cond_true,w]
  cases b with
  |true =>
   simp only[Bool.not_true,cond_false,Dd (show out.length≤1000000 by omega),cond_true]
   rw[go _ _ (by simp;omega)]
   simp[qS,EZ]
  |false =>
   simp only[Bool.not_false,cond_true]
   by_cases hx:v<x
   ·simp only[decide_eq_true (show x>v from hx),cond_true,Dd (show out.length≤1000000 by omega),Dd (show(out++[v]).length≤1000000 by simp;omega)]
    rw[go _ _ (by simp;omega),qS,if_pos hx,EZ]
    simp
   ·simp only[decide_eq_false (show ¬x>v from hx),cond_false,cond_true,Dd (show out.length≤1000000 by omega)]
    rw[go _ _ (by simp;omega),qS,if_neg hx]
    simp
theorem Dl (v:Int):∀{r:List Int},v∉r→(bif (qS v false r).2 then(qS v false r).1 else(qS v false r).1++[v])=Jr v r
 |[],_=>rfl
 |x::r,h=>by
  rw[qS,Jr]
  by_cases hx:v<x
  ·rw[if_pos hx,if_neg (by omega)];rfl
  ·have hne:v≠x:=fun q=>h (q▸List.mem_cons_self ..)
   rw[if_neg hx,if_pos (by omega), ←Dl v (fun q=>h (List.mem_cons_of_mem _ q))]
   dsimp only
   cases(qS v false r).2<;>rfl
theorem rO (v:Int):∀(r:List Int),(Jr v r).length=r.length+1
 |[]=>rfl
 |x::r=>by
  rw[Jr]
  split
  ·rw[List.length_cons,rO v r,List.length_cons]
  ·rfl
theorem Ju{l:List Int}{v:Int}:rR l v=l.contains v:=by
 rw[Bool.eq_iff_iff,List.contains_iff_mem,wD,List.mem_iff_getElem]
 constructor
 ·rintro ⟨j,hj,e⟩
  exact⟨j,hj,by rw[←e];simp[List.getD_eq_getElem?_getD,hj]⟩
 ·rintro ⟨j,hj,e⟩
  exact⟨j,hj,by rw[←e];simp[List.getD_eq_getElem?_getD,hj]⟩
def vY (kn:List Int) (v:Int):List Int:=bif kn.contains v then kn else Jr v kn
theorem uJ (kn:List Int) (v:Int):(vY kn v).length≤kn.length+1:=by
 unfold vY
 cases kn.contains v with
 |true=>exact Nat.le_succ _
 |false=>exact Nat.le_of_eq (rO v kn)
theorem x7{kn:List Int}(hl:kn.length≤900) (v:Int):fK N0 (kn,v)=some (vY kn v):=by
 unfold vY fK
 dsimp only
 rw[lE (by omega),Option.bind_some,Ju]
 have hlp:=AA v kn [] [] (kn.contains v) N0 (by have:=n0;omega) (by simp;omega) (by simp;omega)
 have hlp':bv N0 N0 (kn,v,([]:List Int),kn.contains v,(0:Int))=_:=hlp
 rw[hlp',Option.bind_some]
 dsimp only
 cases hc:kn.contains v with
 |true =>
  rw[EZ]
  rfl
 |false =>
  have hnm:v∉kn:=fun q=>by rw[List.contains_iff_mem.2 q]at hc;cases hc
  have hi:=Dl v hnm
  have hil:=rO v kn
  rw[cond_false]
  cases hb:(qS v false kn).2 with
  |true =>
   rw[hb,cond_true]at hi
   rw[←hi];rfl
  |false =>
   rw[hb,cond_false]at hi
   have:(qS v false kn).1.length≤1000000:=by
    have:=congrArg List.length hi
    simp at this
    omega
   simp only[List.nil_append,Bool.not_false,cond_true,Dd this,hi]
theorem Gv{i n:Nat}(h:¬i<n):decide ((i:Int)<(n:Int))=false:=decide_eq_false (by omega)
structure FW (k:Nat) (xs:List ab) (kn:List Int) (li:List bx) (gv sh:List Int) (lg:List bu):Prop where
 fx:xs.length≤600
 fk:kn.length≤300
 fl:li.length≤9
 fe:∀i,i<li.length→(um (li.getD i zI)).length≤26
 fg:gv.length≤k
 fs:sh.length≤k
 fo:lg.length≤k
section
variable{k n:Nat}{xs:List ab}{kn:List Int}{li:List bx}{fr:Int}{gv sh:List Int}{lg:List bu}
theorem FW.small (h:FW k xs kn li gv sh lg) (hk:k≤4294967296):Small xs kn li gv sh lg where
 fx:=by have:=h.fx;omega
 fk:=by have:=h.fk;omega
 fl:=by have:=h.fl;omega
 fg:=by have:=h.fg;omega
 fs:=by have:=h.fs;omega
 fo:=by have:=h.fo;omega
 fe:=fun i hi=>by have:=h.fe i hi;omega
theorem FW.more (h:FW k xs kn li gv sh lg){k':Nat}(hk:k≤k'):FW k' xs kn li gv sh lg where
 fx:=h.fx
 fk:=h.fk
 fl:=h.fl
 fg:=by have:=h.fg;omega
 fs:=by have:=h.fs;omega
 fo:=by have:=h.fo;omega
 fe:=h.fe
theorem FW.nil:FW k [] [] [] [] [] [] where
 fx:=by simp
 fk:=by simp
 fl:=by simp
 fg:=by simp
 fs:=by simp
 fo:=by simp
 fe:=fun i hi=>absurd hi (by simp)
def xn (k n:Nat) (s:Option (List ab×List Int×List bx×Int×List Int×List Int×List bu×Int)):Prop :=
 ∃xs kn li fr gv sh lg c,s=some (xs,kn,li,fr,gv,sh,lg,c)∧FW k xs kn li gv sh lg∧n≤kn.length
theorem ki{c:Int}(h:FW k xs kn li gv sh lg) (hn:n≤kn.length):xn k n (some (xs,kn,li,fr,gv,sh,lg,c)):=⟨_,_,_,_,_,_,_,_,rfl,h,hn⟩
theorem LC{w p a b at_:Int}{env:List Int}{d dd:Bool}{key:Int}(he:env.length≤4294967296):iu N0 (w,p,a,b,at_,env,d,dd,key)=some (w,p,a,b,at_,env,d,dd,key):=by
 unfold iu
 dsimp only
 have:aO (([]:List Int).length+env.length)=true:=by
  unfold aO
  exact decide_eq_true (by rw[List.length_nil];omega)
 rw[this,cond_true,List.nil_append]
theorem Bu (h:FW k xs kn li gv sh lg):∀(m i:Nat),i≤li.length→li.length-i<m→cN N0 m (xs,kn,li,fr,gv,sh,lg,[],[],[],(0:Int),[],[],[],xs,kn,li.take i,fr,gv,sh,lg,(i:Int))=some ([],[],[],(0:Int),[],[],[],xs,kn,li,fr,gv,sh,lg)
 |0,i,hi,hm=>absurd hm (by omega)
 |m+1,i,hi,hm=>by
  have hl:=h.fl
  rw[cN]
  dsimp only
  by_cases hj:i<li.length
  ·have he:=h.fe i hj
   have ht:li.take (i+1)=li.take i++[li.getD i zI]:=by
    rw[List.getD_eq_getElem?_getD,List.getElem?_eq_getElem hj,Option.getD_some]
    exact(List.take_append_getElem hj).symm
   have hr:aO ((li.take i).length+1)=true:=by
    unfold aO
    exact decide_eq_true (by rw[List.length_take];omega)
   unfold um at he
   rw[oL hj,cond_true,jz]
   dsimp only
   rw[ax hj,cond_true,Int.toNat_natCast,show li.getD i ((0:Int),((0:Int),((0:Int),((0:Int),((0:Int),(([]:List Int),(false,(false,(0:Int)))))))))=li.getD i zI from rfl,LC (by omega),Option.bind_some]
   dsimp only
   rw[List.length_singleton,hr,cond_true,Option.bind_some]
   dsimp only
   rw[←ht,aX hj (by omega)]
   exact Bu h m (i+1) hj (by omega)
  ·rw[Gv (by omega),cond_false,List.take_of_length_le (by omega)]
theorem BV {α β:Type}{l:List α}{z:List β}(hz:z.length=0) (h:l.length≤4294967296):aO (z.length+l.length)=true:=by
 unfold aO
 exact decide_eq_true (by omega)
theorem OK (h:FW k xs kn li gv sh lg) (hk:k≤900):dW N0 (xs,kn,li,fr,gv,sh,lg)=some (xs,kn,li,fr,gv,sh,lg):=by
 have hs:=h.small (by omega)
 have hl:=h.fl
 have e:=Bu (fr:=fr) h N0 0 (Nat.zero_le _) (by have:=n0;omega)
 rw[List.take_zero,show((0:Nat):Int)=0 from rfl]at e
 unfold dW jE
 dsimp only
 rw[vL hs.fx,Option.bind_some,BV rfl hs.fk,BV rfl hs.fg,BV rfl hs.fs,BV rfl hs.fo]
 simp only[cond_true,List.nil_append,Option.bind_some]
 rw[e,Option.bind_some]
theorem Bh (ts:List Int) (hts:ts.length≤100):∀(m i:Nat) (kn:List Int),i≤ts.length→ts.length-i<m→kn.length+(ts.length-i)≤800→∃kn',cM N0 m (ts,xs,kn,li,fr,gv,sh,lg,[],[],[],(0:Int),[],[],[],(i:Int))=some (xs,kn',li,fr,gv,sh,lg,[],[],[],(0:Int),[],[],[])∧kn.length≤kn'.length∧kn'.length≤kn.length+(ts.length-i)
 |0,i,kn,hi,hm,hk=>absurd hm (by omega)
 |m+1,i,kn,hi,hm,hk=>by
  rw[cM]
  dsimp only
  by_cases hj:i<ts.length
  ·have hp:=uJ kn (ts.getD i 0)
   have hp2:kn.length≤(vY kn (ts.getD i 0)).length:=by
    unfold vY
    cases kn.contains (ts.getD i 0)with
    |true=>exact Nat.le_refl _
    |false=>rw[cond_false,rO];omega
   obtain⟨kn',e1,e2,e3⟩:=Bh ts hts m (i+1) (vY kn (ts.getD i 0)) hj (by omega) (by omega)
   rw[oL hj,cond_true,ax hj,cond_true,Int.toNat_natCast,x7 (by omega),Option.bind_some,aX hj (by omega),e1]
   exact⟨kn',rfl,by omega,by omega⟩
  ·rw[Gv (by omega),cond_false]
   exact⟨kn,rfl,Nat.le_refl _,by omega⟩
theorem Lv{ts:List Int}(hts:ts.length≤100) (hk:kn.length+ts.length≤800):∃kn',bW N0 (xs,kn,li,fr,gv,sh,lg,ts)=some (xs,kn',li,fr,gv,sh,lg,decide ((kn'.length:Int)≤200))∧kn.length≤kn'.length∧kn'.length≤kn.length+ts.length:=by
 obtain⟨kn',e1,e2,e3⟩:=Bh (xs:=xs) (li:=li) (fr:=fr) (gv:=gv) (sh:=sh) (lg:=lg) ts hts N0 0 kn (Nat.zero_le _) (by have:=n0;omega) (by omega)
 rw[show((0:Nat):Int)=0 from rfl]at e1
 unfold bW jy
 dsimp only
 rw[e1]
 exact⟨kn',rfl,e2,by omega⟩
theorem Kj{ts:List Int}(h:FW k xs kn li gv sh lg) (hn:n≤kn.length) (hts:ts.length≤50) (hk:kn.length≤250):xn k n ((bW N0 (xs,kn,li,fr,gv,sh,lg,ts)).bind fun r3=>(cond (!r3.2.2.2.2.2.2.2) (some (r3.1,r3.2.1,r3.2.2.1,r3.2.2.2.1,r3.2.2.2.2.1,r3.2.2.2.2.2.1,r3.2.2.2.2.2.2.1,(3:Int))) (some (r3.1,r3.2.1,r3.2.2.1,r3.2.2.2.1,r3.2.2.2.2.1,r3.2.2.2.2.2.1,r3.2.2.2.2.2.2.1,(0:Int))))):=by
 obtain⟨kn',e1,e2,e3⟩:=Lv (xs:=xs) (li:=li) (fr:=fr) (gv:=gv) (sh:=sh) (lg:=lg) (ts:=ts) (kn:=kn) (by omega) (by omega)
 have hw:FW k xs kn' li gv sh lg:={ h with fk:=by omega }
 rw[e1,Option.bind_some]
 dsimp only
 cases decide ((kn'.length:Int)≤200)with
 |true=>exact ki hw (by omega)
 |false=>exact ki hw (by omega)
theorem r8W{i:Int}{w p a b at_:Int}{env:List Int}{d dd:Bool}{key:Int}{ts:List Int}(h:FW k xs kn li gv sh lg) (hk9:k≤900):∃c:bu,fL N0 (i,xs,kn,li,fr,gv,sh,lg,[],[],[],(0:Int),[],[],[],w,p,a,b,at_,env,d,dd,key,ts)=some (xs,kn,li,fr,gv,sh,lg++[c],[],[],[],(0:Int),[],[],[],ts):=by
 have hg:=h.fg
 have ho:=h.fo
 unfold fL
 dsimp only
 rw[lE (by omega),lE (by omega),Option.bind_some,Option.bind_some,List.length_singleton,show aO (lg.length+1)=true from by unfold aO;exact decide_eq_true (by omega),cond_true]
 exact⟨_,rfl⟩
theorem FW.log (h:FW k xs kn li gv sh lg) (c:bu):FW (k+1) xs kn li gv sh (lg++[c]) where
 fx:=h.fx
 fk:=h.fk
 fl:=h.fl
 fg:=by have:=h.fg;omega
 fs:=by have:=h.fs;omega
 fo:=by have:=h.fo;rw[List.length_append,List.length_singleton];omega
 fe:=h.fe
theorem N6{i:Int}{w p a b at_:Int}{env:List Int}{d dd d0:Bool}{key:Int}{ts:List Int}(h:FW k xs kn li gv sh lg) (hk9:k≤900) (hts:ts.length≤50) (hk:kn.length≤250) :
  xn (k+1) kn.length (cond d (cond (!d0) ((fL N0 (i,xs,kn,li,fr,gv,sh,lg,[],[],[],(0:Int),[],[],[],w,p,a,b,at_,env,d,dd,key,ts)).bind fun g2=>((bW N0 (g2.1,g2.2.1,g2.2.2.1,g2.2.2.2.1,g2.2.2.2.2.1,g2.2.2.2.2.2.1,g2.2.2.2.2.2.2.1,g2.2.2.2.2.2.2.2.2.2.2.2.2.2.2)).bind fun r3=>(cond (!r3.2.2.2.2.2.2.2) (some (r3.1,r3.2.1,r3.2.2.1,r3.2.2.2.1,r3.2.2.2.2.1,r3.2.2.2.2.2.1,r3.2.2.2.2.2.2.1,(3:Int))) (some (r3.1,r3.2.1,r3.2.2.1,r3.2.2.2.1,r3.2.2.2.2.1,r3.2.2.2.2.2.1,r3.2.2.2.2.2.2.1,(0:Int)))))) ((bW N0 (xs,kn,li,fr,gv,sh,lg,ts)).bind fun r3=>(cond (!r3.2.2.2.2.2.2.2) (some (r3.1,r3.2.1,r3.2.2.1,r3.2.2.2.1,r3.2.2.2.2.1,r3.2.2.2.2.2.1,r3.2.2.2.2.2.2.1,(3:Int))) (some (r3.1,r3.2.1,r3.2.2.1,r3.2.2.2.1,r3.2.2.2.2.1,r3.2.2.2.2.2.1,r3.2.2.2.2.2.2.1,(0:Int)))))) ((bW N0 (xs,kn,li,fr,gv,sh,lg,ts)).bind fun r3=>(cond (!r3.2.2.2.2.2.2.2) (some (r3.1,r3.2.1,r3.2.2.1,r3.2.2.2.1,r3.2.2.2.2.1,r3.2.2.2.2.2.1,r3.2.2.2.2.2.2.1,(3:Int))) (some (r3.1,r3.2.1,r3.2.2.1,r3.2.2.2.1,r3.2.2.2.2.1,r3.2.2.2.2.2.1,r3.2.2.2.2.2.2.1,(0:Int)))))):=by
 cases d with
 |false=>exact Kj (h.more (Nat.le_succ k)) (Nat.le_refl _) hts hk
 |true =>
  cases d0 with
  |true=>exact Kj (h.more (Nat.le_succ k)) (Nat.le_refl _) hts hk
  |false =>
   obtain⟨c,e⟩:=r8W (i:=i) (w:=w) (p:=p) (a:=a) (b:=b) (at_:=at_) (env:=env) (d:=true) (dd:=dd) (key:=key) (ts:=ts) (fr:=fr) h hk9
   rw[cond_true,Bool.not_false,cond_true,e,Option.bind_some]
   exact Kj (h.log c) (Nat.le_refl _) hts hk
theorem goW{ys:List ab}{w p a b at_:Int}{env:List Int}{d dd:Bool}{key:Int}{i:Nat}(h:FW k xs kn li gv sh lg) (hk9:k≤900) (hk:kn.length≤250) (hy:ys.length≤600) (he:env.length≤26) (hv:jq ys (w,p,a,b,at_,env,d,dd,key)=true) (hi:i=li.length∧li.length≤8∨i<li.length) :
  xn (k+1) kn.length (lu N0 (ys,kn,li,fr,gv,sh,lg,w,p,a,b,at_,env,d,dd,key,(i:Int))):=by
 obtain⟨zs,at',env',d',dd',key',out',nx',e1,e2,st⟩:=Lo (nx:=fr) (by omega) (by omega) hv
 have hz:=cd st.pool
 have h5:=st.few
 have h26:=st.len
 have hl:=h.fl
 unfold lu
 dsimp only
 rw[e1,Option.bind_some]
 dsimp only
 rcases hi with⟨hi,h8⟩|hi
 ·rw[show((i:Int)==(li.length:Int))=true from by rw[beq_iff_eq];omega,cond_true,List.length_singleton,show aO (li.length+1)=true from by unfold aO;exact decide_eq_true (by omega),cond_true]
  refine N6 ⟨by omega,h.fk,by rw[List.length_append,List.length_singleton];omega,fun j hj=>?_,h.fg,h.fs,h.fo⟩ hk9 (by omega) hk
  rw[List.length_append,List.length_singleton]at hj
  by_cases hj2:j<li.length
  ·rw[List.getD_eq_getElem?_getD,List.getElem?_append_left hj2, ←List.getD_eq_getElem?_getD]
   exact h.fe j hj2
  ·rw[List.getD_eq_getElem?_getD,List.getElem?_append_right (by omega),show j-li.length=0 from by omega]
   show env'.length≤26
   omega
 ·rw[show((i:Int)==(li.length:Int))=false from by rw[beq_eq_false_iff_ne];omega,cond_false,ax hi,cond_true,Int.toNat_natCast]
  refine N6 ⟨by omega,h.fk,by rw[List.length_set];omega,fun j hj=>?_,h.fg,h.fs,h.fo⟩ hk9 (by omega) hk
  rw[List.length_set]at hj
  rw[List.getD_eq_getElem?_getD,List.getElem?_set]
  by_cases hij:i=j
  ·rw[if_pos hij,if_pos hi,Option.getD_some]
   show env'.length≤26
   omega
  ·rw[if_neg hij, ←List.getD_eq_getElem?_getD]
   exact h.fe j hj
end
theorem IC{w p:Int}(h:¬((w=1∨w=2∨w=3)∧(p=0∨p=1))):di N0 (w,p)=some false:=by
 unfold di eL
 dsimp only
 by_cases w1:w=1
 ·have h0:(p==(0:Int))=false:=by rw[beq_eq_false_iff_ne];omega
  have h1:(p==(1:Int))=false:=by rw[beq_eq_false_iff_ne];omega
  subst w1
  simp only[h0,h1,beq_self_eq_true,Int.reduceBEq,cond_true,cond_false,Option.bind_some,pH,Bool.not_true]
 by_cases w2:w=2
 ·have h0:(p==(0:Int))=false:=by rw[beq_eq_false_iff_ne];omega
  have h1:(p==(1:Int))=false:=by rw[beq_eq_false_iff_ne];omega
  subst w2
  simp only[h0,h1,beq_self_eq_true,Int.reduceBEq,cond_true,cond_false,Option.bind_some,pH,Bool.not_true]
 by_cases w3:w=3
 ·have h0:(p==(0:Int))=false:=by rw[beq_eq_false_iff_ne];omega
  have h1:(p==(1:Int))=false:=by rw[beq_eq_false_iff_ne];omega
  subst w3
  simp only[h0,h1,beq_self_eq_true,Int.reduceBEq,cond_true,cond_false,Option.bind_some,pH,Bool.not_true]
 have k1:(w==(1:Int))=false:=by rw[beq_eq_false_iff_ne];exact w1
 have k2:(w==(2:Int))=false:=by rw[beq_eq_false_iff_ne];exact w2
 have k3:(w==(3:Int))=false:=by rw[beq_eq_false_iff_ne];exact w3
 simp only[k1,k2,k3,cond_false,Option.bind_some,pH,Bool.not_true]
section
variable{k n:Nat}{xs:List ab}{kn:List Int}{li:List bx}{fr:Int}{gv sh:List Int}{lg:List bu}
theorem EW (hp:aW xs=true) (hl:kn.length≤200) (hk:zb kn xs) (T:ByteArray):∃ys t b c,iw N0 (xs,kn,T)=some (ys,t,b,c)∧(c=0→aW ys=true∧(∃zs,ys=xs++zs)∧ci ys t=true):=by
 have hx:=cd hp
 have pS:=l9 N0 n0 (xs:=xs) (by omega)
 have hP:(decide (xs.length≤500)&&cp N0 [] xs)=true:=hp
 rw[hP]at pS
 unfold iw
 dsimp only
 rw[pS,Option.bind_some,cond_true,vL (by omega),Option.bind_some,xr (by omega) (by omega),Option.bind_some]
 cases hT:decide ((T.size:Int)>2000)with
 |true=>exact⟨_,_,_,1,rfl,fun h=>by cases h⟩
 |false =>
  rw[cond_false]
  rw[decide_eq_false_iff_not]at hT
  cases(cy (iB xs kn) 0 kn.length&&(decide (kn.length≤200)&&(decide (xs.length≤500)&&cp N0 [] xs)))with
  |false=>exact⟨_,_,_,5,rfl,fun h=>by cases h⟩
  |true =>
   obtain⟨ys,t,b,c,e1,h⟩:=Kt (T:=T) (by omega) T.size 0 xs N0 (Nat.sub_le _ _) (by have:=n0;omega) (Nat.zero_le _) hp hk
   rw[show((0:Nat):Int)=0 from rfl]at e1
   rw[Bool.not_true,cond_false,e1,Option.bind_some]
   dsimp only
   by_cases hc:c=0
   ·obtain⟨h1,h2,h3,_⟩:=h hc
    have hy:=cd h1
    rw[hc,show((0:Int) != 0)=false from rfl,cond_false,vL (by omega),Option.bind_some]
    cases decide (b<(T.size:Int))with
    |true=>exact⟨_,_,_,6,rfl,fun h=>by cases h⟩
    |false=>exact⟨_,_,_,0,rfl,fun _=>⟨h1,h2,h3⟩⟩
   ·rw[show(c != 0)=true from by rw[bne_iff_ne];exact hc,cond_true]
    exact⟨_,_,_,c,rfl,fun h=>absurd h hc⟩
theorem pE (hw:dJ xs kn li fr gv sh lg=true):aW xs=true∧kn.length≤200∧zb kn xs∧li.length≤8:=by
 unfold dJ tl at hw
 simp only[Bool.and_eq_true]at hw
 obtain⟨⟨h1,h2,h3⟩,h4,_⟩:=hw
 rw[ee]at h1
 refine⟨h3,of_decide_eq_true h2,fun u hu=>?_,of_decide_eq_true h4⟩
 have:=h1 u (Nat.zero_le _) (by omega)
 unfold iB at this
 rw[Bool.and_eq_true]at this
 exact this.1
theorem Pt (h:FW k xs kn li gv sh lg) (hk9:k≤900) (hw:dJ xs kn li fr gv sh lg=true) (kd A B C D:Int) (T:ByteArray):xn (k+1) kn.length (jm N0 (xs,kn,li,fr,gv,sh,lg,kd,A,B,C,D,T)):=by
 obtain⟨hp,h200,hki,h8⟩:=pE hw
 have no:∀c:Int,xn (k+1) kn.length (some (xs,kn,li,fr,gv,sh,lg,c)):=fun c=>ki (h.more (Nat.le_succ k)) (Nat.le_refl _)
 unfold jm
 dsimp only
 by_cases hr:(A=1∨A=2∨A=3)∧(B=0∨B=1)
 ·rw[Df hr.1 hr.2,Option.bind_some,Bool.not_true,cond_false]
  unfold br
  rw[oB,oB,Option.bind_some,Option.bind_some,Option.bind_some]
  cases hC:(decide (C≥0)&&decide (C≤4))with
  |false=>exact no 2
  |true =>
   rw[Bool.not_true,cond_false]
   rw[Bool.and_eq_true,decide_eq_true_iff,decide_eq_true_iff]at hC
   cases hD:(decide (D≥0)&&decide (D≤4))with
   |false=>exact no 2
   |true =>
    rw[Option.bind_some,Bool.not_true,cond_false]
    rw[Bool.and_eq_true,decide_eq_true_iff,decide_eq_true_iff]at hD
    cases hCD:(C==D)with
    |true=>exact no 2
    |false =>
     rw[cond_false]
     cases hl8:((li.length:Int)==8)with
     |true=>exact no 3
     |false =>
      rw[cond_false]
      cases(fr==8)with
      |true=>exact no 3
      |false =>
       rw[cond_false]
       cases h4:decide ((xs.length:Int)>400)with
       |true=>exact no 3
       |false =>
        rw[cond_false]
        rw[decide_eq_false_iff_not]at h4
        rw[beq_eq_false_iff_ne]at hCD hl8
        obtain⟨ys,e,e1,e2,e3,_,e5⟩:=M0 hp (by omega) hr.1 hr.2 hC.1 hC.2 hD.1 hD.2 hCD
        rw[e1,Option.bind_some]
        dsimp only
        rw[Bool.not_true,cond_false]
        obtain⟨xs',kn',li',fr',gv',sh',lg',c,q,q1,q2⟩:=goW (fr:=fr) (i:=li.length) h hk9 (by omega) (by omega) (by omega) e5 (.inl ⟨rfl,h8⟩)
        rw[q]
        exact⟨_,_,_,_,_,_,_,_,rfl,q1,q2⟩
 ·rw[IC hr]
  exact no 2
theorem GE{A:Int}(h8:li.length≤9):(∃i:Nat,A=(i:Int)∧i<li.length∧bS N0 (A,(0:Int),IntKind.i64.wrap ((li.length:Int)-1))=some true)∨bS N0 (A,(0:Int),IntKind.i64.wrap ((li.length:Int)-1))=some false:=by
 rw[am (by omega) (by omega),oB]
 cases hA:(decide (A≥0)&&decide (A≤(li.length:Int)-1))with
 |false=>exact .inr rfl
 |true =>
  rw[Bool.and_eq_true,decide_eq_true_iff,decide_eq_true_iff]at hA
  exact .inl ⟨A.toNat,by omega,by omega,rfl⟩
theorem Jq{zs:List ab}{w p a b at_:Int}{env:List Int}{d dd:Bool}{key:Int}(hg:G5 xs (w,p,a,b,at_,env,d,dd,key)) (hq:aW (xs++zs)=true):jq (xs++zs) (w,p,a,b,at_,env,d,dd,key)=true :=
 qj hg.way hg.side hg.me hg.peer hg.ne hq hg.len (lJ hg.env) hg.at0 hg.done (fun q=>⟨hg.live q,wC (hg.key q)⟩) (fun q=>hg.no q)
theorem RU (h:FW k xs kn li gv sh lg) (hk9:k≤900) (hw:dJ xs kn li fr gv sh lg=true) (kd A B C D:Int) (T:ByteArray):xn (k+1) kn.length (ku N0 (xs,kn,li,fr,gv,sh,lg,kd,A,B,C,D,T)):=by
 obtain⟨hp,h200,hki,h8⟩:=pE hw
 have no:∀c:Int,xn (k+1) kn.length (some (xs,kn,li,fr,gv,sh,lg,c)):=fun c=>ki (h.more (Nat.le_succ k)) (Nat.le_refl _)
 unfold ku
 dsimp only
 rcases GE (A:=A) h.fl with⟨i,rfl,hi,e⟩|e
 ·obtain⟨ys,t,b,c,e1,hr⟩:=EW hp h200 hki T
  rw[e,Option.bind_some,Bool.not_true,cond_false,e1,Option.bind_some]
  dsimp only
  by_cases hc:c=0
  ·obtain⟨g1,⟨z,rfl⟩,g3⟩:=hr hc
   rw[hc,show((0:Int) != 0)=false from rfl,cond_false]
   cases hy:decide (((xs++z).length:Int)>400)with
   |true=>exact no 3
   |false =>
    rw[decide_eq_false_iff_not]at hy
    have hg:=tD (h.small (by omega)) hw hi
    have he:=h.fe i hi
    rw[cond_false,jw]
    dsimp only
    rw[ax hi,cond_true,Int.toNat_natCast,show li.getD i ((0:Int),((0:Int),((0:Int),((0:Int),((0:Int),(([]:List Int),(false,(false,(0:Int)))))))))=li.getD i zI from rfl]
    generalize li.getD i zI=x at hg he
    obtain⟨w,p,a,b,at_,env,d,dd,key⟩:=x
    dsimp only
    obtain⟨us,at',e',d',dd',ok,q1,q2,q3,q4,_⟩:=Iu (t:=t) (by omega) (show env.length≤4294967296 from by unfold um at he;dsimp only at he;omega) (Jq hg g1)
    rw[q1,Option.bind_some,Option.bind_some]
    dsimp only
    cases ok with
    |false=>exact no 4
    |true =>
     have hu:=cd q4
     rw[Bool.not_true,cond_false]
     obtain⟨xs',kn',li',fr',gv',sh',lg',c,u,u1,u2⟩:=goW (fr:=fr) (i:=i) h hk9 (by omega) (by omega) (by omega) q2 (.inr hi)
     rw[u]
     exact⟨_,_,_,_,_,_,_,_,rfl,u1,u2⟩
  ·rw[show(c != 0)=true from by rw[bne_iff_ne];exact hc,cond_true]
   exact no 4
 ·rw[e]
  exact no 2
theorem RZ (h:FW k xs kn li gv sh lg) (hk9:k≤800) (hw:dJ xs kn li fr gv sh lg=true) (kd A B C D:Int) (T:ByteArray):xn (k+1) kn.length (kw N0 (xs,kn,li,fr,gv,sh,lg,kd,A,B,C,D,T)):=by
 obtain⟨hp,h200,hki,h8⟩:=pE hw
 have no:∀c:Int,xn (k+1) kn.length (some (xs,kn,li,fr,gv,sh,lg,c)):=fun c=>ki (h.more (Nat.le_succ k)) (Nat.le_refl _)
 have hs:=h.fs
 unfold kw
 dsimp only
 rcases GE (A:=A) h.fl with⟨i,rfl,hi,e⟩|e
 ·rw[e,Option.bind_some,Bool.not_true,cond_false,ax hi,cond_true,lE (by omega),Option.bind_some,x7 (by omega),Option.bind_some]
  cases(li.getD ((i:Int)).toNat ((0:Int),((0:Int),((0:Int),((0:Int),((0:Int),(([]:List Int),(false,(false,(0:Int)))))))))).2.2.2.2.2.2.1 with
  |false=>exact no 2
  |true =>
   rw[Bool.not_true,cond_false]
   cases rR sh (i:Int)with
   |true=>exact no 2
   |false =>
    rw[cond_false,jx]
    dsimp only
    have hpl:=uJ sh (i:Int)
    obtain⟨kn',e1,e2,e3⟩:=Lv (xs:=xs) (li:=li) (fr:=fr) (gv:=gv) (sh:=vY sh (i:Int)) (lg:=lg) (ts:=[(li.getD ((i:Int)).toNat ((0:Int),((0:Int),((0:Int),((0:Int),((0:Int),(([]:List Int),(false,(false,(0:Int)))))))))).2.2.2.2.2.2.2.2]) (kn:=kn) (by rw[List.length_singleton];omega) (by rw[List.length_singleton];omega)
    rw[List.length_singleton]at e3
    have hf:FW (k+1) xs kn' li gv (vY sh (i:Int)) lg:={ h.more (Nat.le_succ k)with fk:=by omega,fs:=by omega }
    rw[ax hi,cond_true,e1,Option.bind_some,Option.bind_some]
    dsimp only
    cases decide ((kn'.length:Int)≤200)with
    |false=>exact ki hf e2
    |true=>exact ki hf e2
 ·rw[e]
  exact no 2
end
section
variable{k n:Nat}{xs:List ab}{kn:List Int}{li:List bx}{fr:Int}{gv sh:List Int}{lg:List bu}
theorem tX (kd A B C D:Int) (T:ByteArray) (a0:0≤A) (a4:A≤4):∀(m i:Nat) (ns:List Int),i≤5→5-i<m→ns.length≤i+2→∃ns',co N0 m (xs,kn,li,fr,gv,sh,lg,kd,A,B,C,D,T,[],[],[],(0:Int),[],[],[],ns,(i:Int))=some (xs,kn,li,fr,gv,sh,lg,kd,A,B,C,D,T,[],[],[],(0:Int),[],[],[],ns')∧ns'.length≤7
 |0,i,ns,hi,hm,_=>absurd hm (by omega)
 |m+1,i,ns,hi,hm,hl=>by
  rw[co]
  dsimp only
  by_cases h5:i<5
  ·have w:IntKind.i64.wrap ((i:Int)+1)=((i+1:Nat):Int):=by rw[am (by omega) (by omega)];omega
   rw[show decide ((i:Int)<5)=true from decide_eq_true (by omega),cond_true,w]
   cases hA:((i:Int) != A)with
   |false =>
    rw[cond_false]
    exact tX kd A B C D T a0 a4 m (i+1) ns (by omega) (by omega) (by omega)
   |true =>
    rw[bne_iff_ne]at hA
    obtain⟨v,e,_⟩:=uF (a:=A) (b:=(i:Int)) a0 a4 (by omega) (by omega) (fun q=>hA q.symm)
    rw[cond_true,e,Option.bind_some,List.length_singleton,show aO (ns.length+1)=true from by unfold aO;exact decide_eq_true (by omega),cond_true]
    exact tX kd A B C D T a0 a4 m (i+1) (ns++[v]) (by omega) (by omega) (by rw[List.length_append,List.length_singleton];omega)
  ·rw[show decide ((i:Int)<5)=false from decide_eq_false (by omega),cond_false]
   exact⟨ns,rfl,by omega⟩
def VA (k n:Nat) (s:Option ((List ab×List Int×List bx×Int×List Int×List Int×List bu×Int)⊕(List ab×List Int×List bx×Int×List Int×List Int×List bu×List ab×List Int×List bx×Int×List Int×List Int×List bu))):Prop :=
 (∃xs kn li fr gv sh lg c,s=some (.inl (xs,kn,li,fr,gv,sh,lg,c))∧FW k xs kn li gv sh lg∧n≤kn.length)∨(∃xs kn li fr gv sh lg,s=some (.inr (xs,kn,li,fr,gv,sh,lg,[],[],[],(0:Int),[],[],[]))∧FW k xs kn li gv sh lg∧n≤kn.length)
theorem Bj (ns:List Int) (hns:ns.length≤7):∀(m i:Nat) (xs:List ab) (kn:List Int),i≤ns.length→ns.length-i<m→aW xs=true→kn.length≤200→n≤kn.length→FW k xs kn li gv sh lg→VA k n (cr N0 m (xs,kn,li,fr,gv,sh,lg,[],[],[],(0:Int),[],[],[],ns,(i:Int)))
 |0,i,xs,kn,hi,hm,_,_,_,_=>absurd hm (by omega)
 |m+1,i,xs,kn,hi,hm,hp,hk,hn,h=>by
  rw[cr]
  dsimp only
  by_cases hj:i<ns.length
  ·rw[oL hj,cond_true,iK]
   dsimp only
   rw[ax hj,cond_true,j8 hp,Option.bind_some,Option.bind_some]
   cases hA:gV xs 1 (ns.getD ((i:Int)).toNat 0) 0 with
   |none=>exact .inl ⟨_,_,_,_,_,_,_,_,rfl,h,hn⟩
   |some q =>
    obtain⟨ys,t⟩:=q
    obtain⟨g1,g2,_⟩:=ml hp hA
    have hy:=cd g1
    rw[show jU xs (some (ys,t))=(ys,t)from rfl]
    dsimp only
    obtain⟨kn',e1,e2,e3⟩:=Lv (xs:=ys) (li:=li) (fr:=fr) (gv:=gv) (sh:=sh) (lg:=lg) (ts:=[t]) (kn:=kn) (by rw[List.length_singleton];omega) (by rw[List.length_singleton];omega)
    rw[List.length_singleton]at e3
    have hf:FW k ys kn' li gv sh lg:={ h with fx:=by omega,fk:=by omega }
    rw[show decide (t<(0:Int))=false from decide_eq_false (by have:=(kg.1 g2).1;omega),cond_false,e1,Option.bind_some]
    dsimp only
    cases h2:decide ((kn'.length:Int)≤200)with
    |false=>exact .inl ⟨_,_,_,_,_,_,_,_,rfl,hf,by omega⟩
    |true =>
     rw[decide_eq_true_iff]at h2
     rw[Bool.not_true,cond_false,aX hj (by omega)]
     exact Bj ns hns m (i+1) ys kn' hj (by omega) g1 (by omega) (by omega) hf
  ·rw[Gv hj,cond_false]
   exact .inr ⟨_,_,_,_,_,_,_,rfl,h,hn⟩
theorem Tl (h:FW k xs kn li gv sh lg) (hk9:k≤800) (hw:dJ xs kn li fr gv sh lg=true) (kd A B C D:Int) (T:ByteArray):xn (k+1) kn.length (kx N0 (xs,kn,li,fr,gv,sh,lg,kd,A,B,C,D,T)):=by
 obtain⟨hp,h200,hki,h8⟩:=pE hw
 have no:∀c:Int,xn (k+1) kn.length (some (xs,kn,li,fr,gv,sh,lg,c)):=fun c=>ki (h.more (Nat.le_succ k)) (Nat.le_refl _)
 have hg:=h.fg
 unfold kx
 dsimp only
 by_cases ha:0≤A∧A≤4
 ·rw[lK ha.1 ha.2,Option.bind_some,Bool.not_true,cond_false,lE (by omega),Option.bind_some]
  cases rR gv A with
  |true=>exact no 2
  |false =>
   have hpl:=uJ gv A
   obtain⟨ns,e1,e2⟩:=tX (xs:=xs) (kn:=kn) (li:=li) (fr:=fr) (gv:=gv) (sh:=sh) (lg:=lg) kd A B C D T ha.1 ha.2 N0 0 [50+A,90+A] (by omega) (by have:=n0;omega) (by simp)
   have hf:FW (k+1) xs kn li (vY gv A) sh lg:={ h.more (Nat.le_succ k)with fg:=by omega }
   rw[show((0:Nat):Int)=0 from rfl]at e1
   rw[cond_false,tS ha.1 ha.2,m7 ha.1 ha.2,Option.bind_some,Option.bind_some,e1,Option.bind_some]
   dsimp only
   rw[x7 (by omega),Option.bind_some]
   have hlp:=Bj (k:=k+1) (n:=kn.length) (li:=li) (fr:=fr) (gv:=vY gv A) (sh:=sh) (lg:=lg) ns e2 N0 0 xs kn (Nat.zero_le _) (by have:=n0;omega) hp h200 (Nat.le_refl _) hf
   rw[show((0:Nat):Int)=0 from rfl]at hlp
   rcases hlp with⟨xs',kn',li',fr',gv',sh',lg',c,u,u1,u2⟩|⟨xs',kn',li',fr',gv',sh',lg',u,u1,u2⟩
   ·rw[u]
    exact⟨_,_,_,_,_,_,_,_,rfl,u1,u2⟩
   ·rw[u]
    exact⟨_,_,_,_,_,_,_,_,rfl,u1,u2⟩
 ·have e:br N0 A=some false:=by
   unfold br
   rw[oB,Option.bind_some]
   have:(decide (A≥0)&&decide (A≤4))=false:=by
    rw[Bool.and_eq_false_iff,decide_eq_false_iff_not,decide_eq_false_iff_not]
    omega
   rw[this]
  rw[e]
  exact no 2
theorem FA (kd A B C D:Int) (T:ByteArray):∃v,iM N0 (kd,A,B,C,D,T)=some v:=by
 unfold iM
 cases(kd==(1:Int))
 ·cases(kd==(2:Int))
  ·cases(kd==(3:Int))
   ·cases(kd==(4:Int))<;>exact⟨_,rfl⟩
   ·exact⟨_,rfl⟩
  ·exact⟨_,rfl⟩
 ·exact⟨_,rfl⟩
theorem Ln (h:FW k xs kn li gv sh lg) (hk9:k≤800) (hw:dJ xs kn li fr gv sh lg=true) (kd A B C D:Int) (T:ByteArray):xn (k+1) kn.length (lw N0 (xs,kn,li,fr,gv,sh,lg,kd,A,B,C,D,T)):=by
 unfold lw
 dsimp only
 cases(kd==(1:Int))with
 |true =>
  obtain⟨_,_,_,_,_,_,_,_,e,h1,h2⟩:=Pt h (by omega) hw kd A B C D T
  rw[cond_true,e]
  exact⟨_,_,_,_,_,_,_,_,rfl,h1,h2⟩
 |false =>
  cases(kd==(2:Int))with
  |true =>
   obtain⟨_,_,_,_,_,_,_,_,e,h1,h2⟩:=RU h (by omega) hw kd A B C D T
   rw[cond_false,cond_true,e]
   exact⟨_,_,_,_,_,_,_,_,rfl,h1,h2⟩
  |false =>
   cases(kd==(3:Int))with
   |true =>
    obtain⟨_,_,_,_,_,_,_,_,e,h1,h2⟩:=Tl h hk9 hw kd A B C D T
    rw[cond_false,cond_false,cond_true,e]
    exact⟨_,_,_,_,_,_,_,_,rfl,h1,h2⟩
   |false =>
    obtain⟨_,_,_,_,_,_,_,_,e,h1,h2⟩:=RZ h hk9 hw kd A B C D T
    rw[cond_false,cond_false,cond_false,e]
    exact⟨_,_,_,_,_,_,_,_,rfl,h1,h2⟩
end
theorem Ad (l:List UInt8):(ByteArray.mk l.toArray).size=l.length:=rfl
theorem KB (n:Nat){b:List Int}{i:Int}(h:Int) (l:List ByteArray) (k:Nat) (hl:l≠[]) (hk:∀s∈l,s.size≤k) (hc:Cu b i):∃i' h' v,j5 n (b,i,h,l)=some (b,i',h',v)∧Cu b i'∧v.size≤k:=by
 unfold j5
 dsimp only
 obtain⟨i1,h1,v1,e1,c1,hb⟩:=cC n h (l.length:Int) hc
 have hpos:0<l.length:=List.length_pos_iff.2 hl
 rw[e1,Option.bind_some]
 dsimp only
 have hv:0≤v1∧v1<(l.length:Int):=by
  rcases hb with⟨q,_⟩|q
  ·omega
  ·exact q
 have e:v1=((v1.toNat:Nat):Int):=by omega
 have hin:aY v1 l.length=true:=by rw[e];exact ax (by omega)
 rw[hin,cond_true]
 refine⟨_,_,_,rfl,c1,hk _ ?_⟩
 rw[List.getD_eq_getElem?_getD,List.getElem?_eq_getElem (by omega),Option.getD_some]
 exact List.getElem_mem _
theorem Gj{x:Int}(h0:0≤x) (h1:x≤999):∃r,ba N0 x=some r∧r.size≤3:=by
 unfold ba
 by_cases hq:x≤0
 ·rw[decide_eq_true hq,cond_true]
  exact⟨_,rfl,by decide⟩
 ·rw[decide_eq_false hq,cond_false]
  have:=n0
  obtain⟨r,e1,e2⟩:=AK 3 N0 x (⟨#[]⟩:ByteArray) h0 (by omega) (by have:(10:Int) ^ 3=1000:=rfl;omega) (by omega) (by decide)
  rw[e1,Option.bind_some]
  exact⟨r,rfl,e2⟩
theorem Y2{x y:Int}:ir N0 (x,y)=some (if x<y then x else y):=by
 unfold ir
 dsimp only
 by_cases q:x<y
 ·rw[decide_eq_true q,if_pos q];rfl
 ·rw[decide_eq_false q,if_neg q];rfl
section
variable{k:Nat}{b:List Int}{xs:List ab}{kn:List Int}{li:List bx}{fr:Int}{gv sh:List Int}{lg:List bu}
end
theorem yj:∀(m i:Nat) (xs:List ab),i≤5→5-i<m→aW xs=true→∃ys,bF N0 m ([],[],[],(0:Int),[],[],[],xs,([]:List Int),(i:Int))=some ([],[],[],(0:Int),[],[],[],ys,([]:List Int))∧aW ys=true
 |0,i,xs,hi,hm,hp=>absurd hm (by omega)
 |m+1,i,xs,hi,hm,hp=>by
  rw[bF]
  dsimp only
  by_cases h5:i<5
  ·have w:IntKind.i64.wrap ((i:Int)+1)=((i+1:Nat):Int):=by rw[am (by omega) (by omega)];omega
   rw[show decide ((i:Int)<5)=true from decide_eq_true (by omega),cond_true,j8 hp,Option.bind_some,w]
   cases hA:gV xs 1 (i:Int) 0 with
   |none=>exact yj m (i+1) xs (by omega) (by omega) hp
   |some q =>
    obtain⟨ys,t⟩:=q
    exact yj m (i+1) ys (by omega) (by omega) (ml hp hA).1
  ·rw[show decide ((i:Int)<5)=false from decide_eq_false (by omega),cond_false]
   exact⟨xs,rfl,hp⟩
theorem Dy{xs:List ab}{kd a b:Int}(hp:aW xs=true):aW (jU xs (gV xs kd a b)).1=true:=by
 cases hA:gV xs kd a b with
 |none=>exact hp
 |some q =>
  obtain⟨ys,t⟩:=q
  exact(ml hp hA).1
theorem Kz (kn:List Int) (v:Int):1≤(vY kn v).length:=by
 unfold vY
 cases h:kn.contains v with
 |false=>rw[cond_false,rO];omega
 |true =>
  rw[cond_true]
  cases kn with
  |nil=>cases h
  |cons a r=>rw[List.length_cons];omega
theorem CU:∀(m i:Nat) (xs:List ab) (kn:List Int),i≤5→5-i<m→aW xs=true→kn.length≤i→(i=0∨1≤kn.length)→∃ys kn',bE N0 m ([],[],[],(0:Int),[],[],[],xs,kn,(i:Int))=some ([],[],[],(0:Int),[],[],[],ys,kn')∧aW ys=true∧kn'.length≤5∧1≤kn'.length
 |0,i,xs,kn,hi,hm,hp,_,_=>absurd hm (by omega)
 |m+1,i,xs,kn,hi,hm,hp,hk,h1=>by
  rw[bE]
  dsimp only
  by_cases h5:i<5
  ·have w:IntKind.i64.wrap ((i:Int)+1)=((i+1:Nat):Int):=by rw[am (by omega) (by omega)];omega
   have p1:=Dy (kd:=1) (a:=90+(i:Int)) (b:=0) hp
   have hl:=uJ kn (jU (jU xs (gV xs 1 (90+(i:Int)) 0)).1 (gV (jU xs (gV xs 1 (90+(i:Int)) 0)).1 7 (jU xs (gV xs 1 (90+(i:Int)) 0)).2 0)).2
   have hq:=Kz kn (jU (jU xs (gV xs 1 (90+(i:Int)) 0)).1 (gV (jU xs (gV xs 1 (90+(i:Int)) 0)).1 7 (jU xs (gV xs 1 (90+(i:Int)) 0)).2 0)).2
   rw[show decide ((i:Int)<5)=true from decide_eq_true (by omega),cond_true,fE]
   dsimp only
   rw[m7 (by omega) (by omega),Option.bind_some,j8 hp,Option.bind_some,Option.bind_some]
   dsimp only
   rw[ix p1,Option.bind_some,x7 (by omega),Option.bind_some,w]
   exact CU m (i+1) _ _ (by omega) (by omega) (Dy p1) (by omega) (.inr hq)
  ·rw[show decide ((i:Int)<5)=false from decide_eq_false (by omega),cond_false]
   exact⟨xs,kn,rfl,hp,by omega,by omega⟩
theorem CS:∃xs kn,fM N0 ()=some (xs,kn,[],(0:Int),[],[],[])∧FW 0 xs kn [] [] [] []∧1≤kn.length:=by
 have hN:=n0
 obtain⟨xs,e1,p1⟩:=yj N0 0 [] (by omega) (by omega) (by decide)
 obtain⟨ys,kn,e2,p2,k2,k3⟩:=CU N0 0 xs [] (by omega) (by omega) p1 (Nat.zero_le _) (.inl rfl)
 rw[show((0:Nat):Int)=0 from rfl]at e1 e2
 have hl:=cd p2
 unfold fM
 rw[e1,Option.bind_some]
 dsimp only
 rw[e2]
 exact⟨ys,kn,rfl,⟨by omega,by omega,by simp,fun i hi=>absurd hi (by simp),by simp,by simp,by simp⟩,k3⟩
abbrev tC:=Int×(Int×(Int×(Int×(Int×ByteArray))))
section
variable{b:List Int}
def Rg (b:List Int) (q:Nat) (s:Option (List Int×Int×Int×List ab×List Int×List bx×Int×List Int×List Int×List bu×List ab×List Int×List bx×Int×List Int×List Int×List bu×List tC)):Prop :=
 ∃i h xs kn li fr gv sh lg ls,s=some (b,i,h,[],[],[],(0:Int),[],[],[],xs,kn,li,fr,gv,sh,lg,ls)∧Cu b i∧FW q xs kn li gv sh lg∧1≤kn.length∧ls.length≤q∧∀d∈ls,d.2.2.2.2.2.size≤100
end
theorem Nq (x:List ab×Int×Int×Int):kq N0 x=bb N0 x:=rfl
theorem DK (x:List ab×Int):jl N0 x=bU N0 x:=rfl
theorem Az:∀(m:Nat) (x:List Int×Int×List Int×Bool×Int),bZ N0 m x=bv N0 m x
 |0,_=>rfl
 |m+1,x=>by
  rw[bZ,bv]
  simp only[Az m]
theorem MM (x:List Int×Int):ko N0 x=fK N0 x:=by
 unfold ko fK
 simp only[Az]
theorem yO:∀(m:Nat) x,bP N0 m x=bF N0 m x
 |0,_=>rfl
 |m+1,x=>by
  rw[bP,bF]
  simp only[yO m,DK]
theorem yN:∀(m:Nat) x,bO N0 m x=bE N0 m x
 |0,_=>rfl
 |m+1,x=>by
  rw[bO,bE]
  simp only[yN m,fT,fE,DK,Nq,MM]
theorem M1:gJ N0 ()=fM N0 ():=by
 unfold gJ fM
 simp only[yO,yN]
def RD (b:List Int) (li:List bx) (s:Option (List Int×Int×Int×Int×Int×List bx×Int×Int×Int×Int×Int×Int×Int×Int×Int×ByteArray)):Prop :=
 ∃i h p q f r s' t kd A B C D T,s=some (b,i,h,p,q,li,f,r,s',t,kd,A,B,C,D,T)∧Cu b i∧T.size≤100
section
variable{k:Nat}{b:List Int}{xs:List ab}{kn:List Int}{li:List bx}{fr:Int}{gv sh:List Int}{lg:List bu}
theorem Dr{i:Int}(h:Int){p q f r s t a1 a2 a3 a4 a5 a7 a8 a9 a10 a11:Int}{a6 a12:ByteArray}(hc:Cu b i) (h0:0<li.length):∃i' h' p' q' f' r' s' t' y1 y2 y3 y4 y5 y6 y7 y8 y9,cV N0 (b,i,h,p,q,li,f,r,s,t,a1,a2,a3,a4,a5,a6,(li.length:Int),a7,a8,a9,a10,a11,a12)=some (b,i',h',p',q',li,f',r',s',t',a1,a2,a3,a4,a5,a6,a7,a8,a9,a10,a11,a12,y1,y2,y3,y4,y5,y6,y7,y8,y9)∧Cu b i':=by
 obtain⟨i1,h1,v1,e1,c1,hb⟩:=cC N0 h (li.length:Int) hc
 have hv:0≤v1∧v1<(li.length:Int):=by
  rcases hb with⟨q,_⟩|q
  ·omega
  ·exact q
 have e:v1=((v1.toNat:Nat):Int):=by omega
 have hin:aY v1 li.length=true:=by rw[e];exact ax (by omega)
 unfold cV
 dsimp only
 rw[e1,Option.bind_some]
 dsimp only
 rw[hin,cond_true]
 exact⟨_,_,_,_,_,_,_,_,_,_,_,_,_,_,_,_,_,rfl,c1⟩
theorem vK{i:Int}(h:Int){p f r s t:Int}{n:Nat}(hc:Cu b i) (hl9:li.length≤9) (hk1:1≤n) (hk3:n≤300):RD b li (dP N0 (b,i,h,p,(n:Int),li,f,r,s,t)):=by
 unfold dP
 dsimp only
 simp only[Int.toNat_natCast]
 cases hl:decide ((li.length:Int)<2)with
 |true =>
  rw[cond_true]
  obtain⟨i1,h1,v1,e1,c1,b1⟩:=cC N0 h 3 hc
  obtain⟨i2,h2,v2,e2,c2,b2⟩:=cC N0 h1 2 c1
  obtain⟨i3,h3,v3,e3,c3,b3⟩:=cC N0 h2 3 c2
  obtain⟨i4,h4,v4,e4,c4,b4⟩:=cC N0 h3 3 c3
  obtain⟨i5,h5,v5,e5,c5⟩:=x8 N0 h4 3 c4
  rw[e1,Option.bind_some]
  dsimp only
  rw[e2,Option.bind_some]
  dsimp only
  rw[e3,Option.bind_some]
  dsimp only
  rw[e4,Option.bind_some]
  dsimp only
  cases hl2:decide ((li.length:Int)>0)with
  |false=>exact⟨_,_,_,_,_,_,_,_,_,_,_,_,_,_,rfl,c4,by decide⟩
  |true =>
   rw[decide_eq_true_iff]at hl2
   rw[cond_true,e5,Option.bind_some]
   dsimp only
   cases v5 with
   |true=>exact⟨_,_,_,_,_,_,_,_,_,_,_,_,_,_,rfl,c5,by decide⟩
   |false =>
    obtain⟨i6,h6,p',q',f',r',s',t',y1,y2,y3,y4,y5,y6,y7,y8,y9,e6,c6⟩:=Dr (li:=li) (p:=((p.toNat:Nat):Int)) (q:=(n:Int)) (f:=f) (r:=((r.toNat:Nat):Int)) (s:=((s.toNat:Nat):Int)) (t:=((t.toNat:Nat):Int)) (a1:=0) (a2:=0) (a3:=0) (a4:=0) (a5:=0) (a6:=⟨#[]⟩) (a7:=1) (a8:=IntKind.i64.wrap ((1:Int)+v1)) (a9:=v2) (a10:=v3) (a11:=v4) (a12:=⟨#[]⟩) h5 c5 (show 0<li.length by omega)
    rw[Bool.not_false,cond_true,e6]
    exact⟨_,_,_,_,_,_,_,_,_,_,_,_,_,_,rfl,c6,by decide⟩
 |false =>
  rw[decide_eq_false_iff_not]at hl
  obtain⟨i0,h0,v0,e0,c0⟩:=x8 N0 h 9 hc
  rw[cond_false,e0,Option.bind_some]
  dsimp only
  cases v0 with
  |true =>
   rw[cond_true]
   obtain⟨i1,h1,v1,e1,c1,b1⟩:=cC N0 h0 3 c0
   obtain⟨i2,h2,v2,e2,c2,b2⟩:=cC N0 h1 2 c1
   obtain⟨i3,h3,v3,e3,c3,b3⟩:=cC N0 h2 3 c2
   obtain⟨i4,h4,v4,e4,c4,b4⟩:=cC N0 h3 3 c3
   obtain⟨i5,h5,v5,e5,c5⟩:=x8 N0 h4 3 c4
   rw[e1,Option.bind_some]
   dsimp only
   rw[e2,Option.bind_some]
   dsimp only
   rw[e3,Option.bind_some]
   dsimp only
   rw[e4,Option.bind_some]
   dsimp only
   cases hl2:decide ((li.length:Int)>0)with
   |false=>exact⟨_,_,_,_,_,_,_,_,_,_,_,_,_,_,rfl,c4,by decide⟩
   |true =>
    rw[decide_eq_true_iff]at hl2
    rw[cond_true,e5,Option.bind_some]
    dsimp only
    cases v5 with
    |true=>exact⟨_,_,_,_,_,_,_,_,_,_,_,_,_,_,rfl,c5,by decide⟩
    |false =>
     obtain⟨i6,h6,p',q',f',r',s',t',y1,y2,y3,y4,y5,y6,y7,y8,y9,e6,c6⟩:=Dr (li:=li) (p:=((p.toNat:Nat):Int)) (q:=(n:Int)) (f:=f) (r:=((r.toNat:Nat):Int)) (s:=((s.toNat:Nat):Int)) (t:=((t.toNat:Nat):Int)) (a1:=0) (a2:=0) (a3:=0) (a4:=0) (a5:=0) (a6:=⟨#[]⟩) (a7:=1) (a8:=IntKind.i64.wrap ((1:Int)+v1)) (a9:=v2) (a10:=v3) (a11:=v4) (a12:=⟨#[]⟩) h5 c5 (show 0<li.length by omega)
     rw[Bool.not_false,cond_true,e6]
     exact⟨_,_,_,_,_,_,_,_,_,_,_,_,_,_,rfl,c6,by decide⟩
  |false =>
   obtain⟨i2,h2,v2,e2,c2,b2⟩:=cC N0 h0 14 c0
   rw[cond_false,e2,Option.bind_some]
   dsimp only
   cases(v2==(0:Int))with
   |true =>
    obtain⟨i3,h3,v3,e3,c3,b3⟩:=cC N0 h2 3 c2
    rw[cond_true,e3]
    exact⟨_,_,_,_,_,_,_,_,_,_,_,_,_,_,rfl,c3,by decide⟩
   |false =>
    obtain⟨i3,h3,v3,e3,c3,b3⟩:=cC N0 h2 (li.length:Int) c2
    rw[cond_false]
    cases(v2==(1:Int))with
    |true =>
     rw[cond_true,e3]
     exact⟨_,_,_,_,_,_,_,_,_,_,_,_,_,_,rfl,c3,by decide⟩
    |false =>
     obtain⟨i4,h4,v4,e4,c4,b4⟩:=cC N0 h3 (if(n:Int)<5 then(n:Int)else 5) c3
     obtain⟨i5,h5,v5,e5,c5,b5⟩:=cC N0 h4 (n:Int) c4
     obtain⟨i6,h6,v6,e6,c6,b6⟩:=cC N0 h5 9 c5
     have hv4:0≤v4∧v4≤(n:Int)-1:=by
      rcases b4 with⟨q1,_⟩|⟨q1,q2⟩
      ·split at q1<;>omega
      ·split at q2<;>omega
     have hv5:0≤v5∧v5≤(n:Int)-1:=by
      rcases b5 with⟨q1,_⟩|⟨q1,q2⟩<;>omega
     obtain⟨ra,na,sa⟩:=Gj (x:=(n:Int)-1-v4) (by omega) (by omega)
     obtain⟨rb,nb,sb⟩:=Gj (x:=v5) (by omega) (by omega)
     rw[cond_false,e3,Option.bind_some]
     dsimp only
     rw[Y2,Option.bind_some,e4,Option.bind_some]
     dsimp only
     rw[e5,Option.bind_some]
     dsimp only
     rw[e6,Option.bind_some]
     dsimp only
     rw[am (show -9223372036854775808≤(n:Int)-1 by omega) (by omega),am (show -9223372036854775808≤(n:Int)-1-v4 by omega) (by omega),na,nb]
     cases(v6==(0:Int))with
     |true =>
      simp(disch:=(simp only[gK,Ad,List.length_cons,List.length_nil];omega)) only[Option.bind_some,lq,cond_true,cond_false]
      exact⟨_,_,_,_,_,_,_,_,_,_,_,_,_,_,rfl,c6,by simp only[gK,Ad,List.length_cons,List.length_nil];omega⟩
     |false =>
     cases(v6==(1:Int))with
     |true =>
      simp(disch:=(simp only[gK,Ad,List.length_cons,List.length_nil];omega)) only[Option.bind_some,lq,cond_true,cond_false]
      exact⟨_,_,_,_,_,_,_,_,_,_,_,_,_,_,rfl,c6,by simp only[gK,Ad,List.length_cons,List.length_nil];omega⟩
     |false =>
     cases(v6==(2:Int))with
     |true =>
      simp(disch:=(simp only[gK,Ad,List.length_cons,List.length_nil];omega)) only[Option.bind_some,lq,cond_true,cond_false]
      generalize hL:([_,_,_,_,_,_,_,_,_]:List ByteArray)=L
      have hL1:L≠[]:=by rw[←hL];simp
      have hL2:∀s∈L,s.size≤100:=by
       rw[←hL]
       simp only[List.forall_mem_cons,gK,Ad,List.length_cons,List.length_nil]
       refine⟨by omega,by omega,by omega,by omega,by omega,by omega,by omega,by omega,by omega,fun s hs=>by cases hs⟩
      obtain⟨i7,h7,v7,e7,c7,s7⟩:=KB N0 h6 L 100 hL1 hL2 c6
      rw[e7]
      exact⟨_,_,_,_,_,_,_,_,_,_,_,_,_,_,rfl,c7,s7⟩
     |false =>
     cases(v6==(3:Int))with
     |true =>
      simp(disch:=(simp only[gK,Ad,List.length_cons,List.length_nil];omega)) only[Option.bind_some,lq,cond_true,cond_false]
      exact⟨_,_,_,_,_,_,_,_,_,_,_,_,_,_,rfl,c6,by simp only[gK,Ad,List.length_cons,List.length_nil];omega⟩
     |false =>
      simp(disch:=(simp only[gK,Ad,List.length_cons,List.length_nil];omega)) only[Option.bind_some,lq,cond_true,cond_false]
      exact⟨_,_,_,_,_,_,_,_,_,_,_,_,_,_,rfl,c6,by simp only[gK,Ad,List.length_cons,List.length_nil];omega⟩
theorem doO (h:FW k xs kn li gv sh lg) (hk9:k≤800) (kd A B C D:Int) (T:ByteArray):∃xs' kn' li' fr' gv' sh' lg' c,eI N0 (xs,kn,li,fr,gv,sh,lg,kd,A,B,C,D,T)=some (xs',kn',li',fr',gv',sh',lg',c)∧FW (k+1) xs' kn' li' gv' sh' lg'∧(c=0→kn.length≤kn'.length) ∧
  ∃z1 z2 z3 z4 z5 z6 z7,jH N0 (xs,kn,li,fr,gv,sh,lg,kd,A,B,C,D,T)=cond (c==(0:Int)) none (some (z1,z2,z3,z4,z5,z6,z7,c)):=by
 suffices H:∃xs' kn' li' fr' gv' sh' lg' c,eI N0 (xs,kn,li,fr,gv,sh,lg,kd,A,B,C,D,T)=some (xs',kn',li',fr',gv',sh',lg',c)∧FW (k+1) xs' kn' li' gv' sh' lg'∧(c=0→kn.length≤kn'.length) ∧
   ∃z1 z2 z3 z4 z5 z6 z7,ga N0 (xs,kn,li,fr,gv,sh,lg,kd,A,B,C,D,T)=some (z1,z2,z3,z4,z5,z6,z7,c)by
  obtain⟨xs',kn',li',fr',gv',sh',lg',c,e1,e2,e3,z1,z2,z3,z4,z5,z6,z7,e4⟩:=H
  refine⟨xs',kn',li',fr',gv',sh',lg',c,e1,e2,e3,z1,z2,z3,z4,z5,z6,z7,?_⟩
  show((ga N0 (xs,kn,li,fr,gv,sh,lg,kd,A,B,C,D,T)).bind fun r=>cond (r.2.2.2.2.2.2.2==(0:Int)) none (some r))=_
  rw[e4];rfl
 unfold eI ga
 dsimp only
 rw[yh (h.small (by omega)),Option.bind_some,Option.bind_some]
 cases hw:dJ xs kn li fr gv sh lg with
 |false=>exact⟨_,_,_,_,_,_,_,_,rfl,FW.nil,(fun q=>by cases q),_,_,_,_,_,_,_,rfl⟩
 |true =>
  obtain⟨v,hv⟩:=FA kd A B C D T
  rw[Bool.not_true,cond_false,cond_false,hv,Option.bind_some,Option.bind_some]
  cases v with
  |false=>exact⟨_,_,_,_,_,_,_,_,rfl,FW.nil,(fun q=>by cases q),_,_,_,_,_,_,_,rfl⟩
  |true =>
   obtain⟨xs',kn',li',fr',gv',sh',lg',c,e,h1,h2⟩:=Ln h hk9 hw kd A B C D T
   rw[Bool.not_true,cond_false,cond_false,jJ,ic]
   dsimp only
   simp only[OK h (show k≤900 by omega),e,Option.bind_some,OK h1 (show k+1≤900 by omega)]
   cases(c != 0)with
   |true=>exact⟨_,_,_,_,_,_,_,_,rfl,h.more (Nat.le_succ k),(fun _=>Nat.le_refl _),_,_,_,_,_,_,_,rfl⟩
   |false=>exact⟨_,_,_,_,_,_,_,_,rfl,h1,(fun _=>h2),_,_,_,_,_,_,_,rfl⟩
end
section
variable{b:List Int}
abbrev ZV:=List Int×Int×Int×List ab×List Int×List bx×Int×List Int×List Int×List bu×List ab×List Int×List bx×Int×List Int×List Int×List bu×List tC×Int×Int×Int×Int×Int×Int×Int×ByteArray×List ab×List Int×List bx×Int×List Int×List Int×List bu×Int
abbrev ZX:=List Int×Int×Int×List ab×List Int×List bx×Int×List Int×List Int×List bu×List ab×List Int×List bx×Int×List Int×List Int×List bu×List tC×Int×Int×Int×Int×Int×Int×Int×ByteArray×Int×Int×Int×Int×Int×Int×Int×Int
def ZW (b:List Int) (k:Nat) (xs:List ab) (kn:List Int) (li:List bx) (fr:Int) (gv sh:List Int) (lg:List bu) (ls:List tC) (nn io:Int) (s:Option (ZV⊕ZX)):Prop :=
 (∃i h kd A B C D T xs2 kn2 li2 fr2 gv2 sh2 lg2,s=some (Sum.inl (b,i,h,[],[],[],(0:Int),[],[],[],xs,kn,li,fr,gv,sh,lg,ls,nn,io,kd,A,B,C,D,T,xs2,kn2,li2,fr2,gv2,sh2,lg2,(0:Int)))∧Cu b i∧T.size≤100∧FW (k+1) xs2 kn2 li2 gv2 sh2 lg2∧kn.length≤kn2.length) ∨
 (∃i h kd A B C D T n1 n2 n3 n4 n5 n6 n7 c,s=some (Sum.inr (b,i,h,[],[],[],(0:Int),[],[],[],xs,kn,li,fr,gv,sh,lg,ls,nn,io,kd,A,B,C,D,T,n1,n2,n3,n4,n5,n6,n7,c))∧Cu b i∧T.size≤100∧(c==(0:Int))=false)
theorem Ar{k:Nat}{xs:List ab}{kn:List Int}{li:List bx}{fr:Int}{gv sh:List Int}{lg:List bu}(hw:FW k xs kn li gv sh lg) (hk1:1≤kn.length) (hk8:k≤800) (ls:List tC) (nn io:Int):∀(m j:Nat) (i h kd A B C D:Int) (T:ByteArray) (n1 n2 n3 n4 n5 n6 n7 c:Int),j≤6→6-j<m→Cu b i→T.size≤100→(c==(0:Int))=false →
  ZW b k xs kn li fr gv sh lg ls nn io (bi N0 m (b,i,h,[],[],[],(0:Int),[],[],[],xs,kn,li,fr,gv,sh,lg,ls,nn,io,kd,A,B,C,D,T,n1,n2,n3,n4,n5,n6,n7,c,(j:Int)))
 |0,j,i,h,kd,A,B,C,D,T,n1,n2,n3,n4,n5,n6,n7,c,hj,hm,_,_,_=>absurd hm (by omega)
 |m+1,j,i,h,kd,A,B,C,D,T,n1,n2,n3,n4,n5,n6,n7,c,hj,hm,hc,hT,hz=>by
  rw[bi]
  dsimp only
  by_cases h6:j<6
  ·rw[show decide ((j:Int)<6)=true from decide_eq_true (by omega),cond_true]
   cases(c==(4:Int))with
   |false=>exact .inr ⟨_,_,_,_,_,_,_,_,_,_,_,_,_,_,_,_,rfl,hc,hT,hz⟩
   |true =>
    have w:IntKind.i64.wrap ((j:Int)+1)=((j+1:Nat):Int):=by rw[am (by omega) (by omega)];omega
    obtain⟨i1,h1,p1,q1,f1,r1,s1,t1,kd1,A1,B1,C1,D1,T1,e1,c1,z1⟩:=vK (li:=li) (p:=(xs.length:Int)) (f:=fr) (r:=(gv.length:Int)) (s:=(sh.length:Int)) (t:=(lg.length:Int)) (n:=kn.length) h hc hw.fl hk1 hw.fk
    obtain⟨xs3,kn3,li3,fr3,gv3,sh3,lg3,cc,e2,f2,z2,y1,y2,y3,y4,y5,y6,y7,e3⟩:=doO (fr:=fr) hw hk8 kd1 A1 B1 C1 D1 T1
    rw[cond_true,e1,Option.bind_some]
    dsimp only
    rw[e3]
    cases hcc:(cc==(0:Int))with
    |true =>
     obtain rfl:cc=0:=by simpa using hcc
     rw[cond_true,Option.bind_none,e2,Option.bind_some]
     dsimp only
     refine .inl ⟨i1,h1,kd1,A1,B1,C1,D1,T1,xs3,kn3,li3,fr3,gv3,sh3,lg3,?_,c1,z1,f2,z2 rfl⟩
     unfold MQ
     dsimp only
     cases decide (IntKind.i64.wrap ((j:Int)+1)<6)<;>rfl
    |false =>
     rw[cond_false,Option.bind_some,w]
     dsimp only
     have ih:=Ar (fr:=fr) hw hk1 hk8 ls nn io m (j+1) i1 h1 kd1 A1 B1 C1 D1 T1 ((y1.toNat:Nat):Int) ((y2.toNat:Nat):Int) ((y3.toNat:Nat):Int) y4 ((y5.toNat:Nat):Int) ((y6.toNat:Nat):Int) ((y7.toNat:Nat):Int) cc (by omega) (by omega) c1 z1 hcc
     rcases ih with⟨i,h,kd,A,B,C,D,T,xs2,kn2,li2,fr2,gv2,sh2,lg2,e,q⟩|⟨i,h,kd,A,B,C,D,T,n1,n2,n3,n4,n5,n6,n7,c,e,q⟩
     ·rw[e]
      exact .inl ⟨i,h,kd,A,B,C,D,T,xs2,kn2,li2,fr2,gv2,sh2,lg2,rfl,q⟩
     ·rw[e]
      exact .inr ⟨i,h,kd,A,B,C,D,T,n1,n2,n3,n4,n5,n6,n7,c,rfl,q⟩
  ·rw[show decide ((j:Int)<6)=false from decide_eq_false (by omega),cond_false]
   exact .inr ⟨_,_,_,_,_,_,_,_,_,_,_,_,_,_,_,_,rfl,hc,hT,hz⟩
theorem KH {α:Type}{x:Option α}:MQ none x=x:=rfl
theorem Ku{q:Nat}{s x:Option (List Int×Int×Int×List ab×List Int×List bx×Int×List Int×List Int×List bu×List ab×List Int×List bx×Int×List Int×List Int×List bu×List tC)}(h:Rg b q s):Rg b q (MQ s x):=by
 obtain⟨i,h,xs,kn,li,fr,gv,sh,lg,ls,rfl,z⟩:=h
 exact⟨i,h,xs,kn,li,fr,gv,sh,lg,ls,rfl,z⟩
theorem pN (q:Nat) (hq:q≤700):∀(m j:Nat) (i h:Int) (xs:List ab) (kn:List Int) (li:List bx) (fr:Int) (gv sh:List Int) (lg:List bu) (ls:List tC),j≤q→q-j<m→Cu b i→FW j xs kn li gv sh lg→1≤kn.length→ls.length=j→(∀d∈ls,d.2.2.2.2.2.size≤100) →
  Rg b q (aL N0 m (b,i,h,[],[],[],(0:Int),[],[],[],xs,kn,li,fr,gv,sh,lg,ls,(q:Int),(j:Int)))
 |0,j,i,h,xs,kn,li,fr,gv,sh,lg,ls,hj,hm,_,_,_,_,_=>absurd hm (by omega)
 |m+1,j,i,h,xs,kn,li,fr,gv,sh,lg,ls,hj,hm,hc,hw,hk1,hl,hs=>by
  rw[aL]
  dsimp only
  by_cases hjq:j<q
  ·obtain⟨i1,h1,p1,q1,f1,r1,s1,t1,kd1,A1,B1,C1,D1,T1,e1,c1,z1⟩:=vK (li:=li) (p:=(xs.length:Int)) (f:=fr) (r:=(gv.length:Int)) (s:=(sh.length:Int)) (t:=(lg.length:Int)) (n:=kn.length) h hc hw.fl hk1 hw.fk
   obtain⟨xs3,kn3,li3,fr3,gv3,sh3,lg3,cc,e2,f2,z2,y1,y2,y3,y4,y5,y6,y7,e3⟩:=doO (fr:=fr) hw (by omega) kd1 A1 B1 C1 D1 T1
   have more:∀d:tC,d.2.2.2.2.2.size≤100→∀x∈ls++[d],x.2.2.2.2.2.size≤100:=fun d hd x hx=>by
    rcases List.mem_append.1 hx with hx|hx
    ·exact hs x hx
    ·rw[List.mem_singleton.1 hx];exact hd
   have len1:∀d:tC,(ls++[d]).length=j+1:=fun d=>by rw[List.length_append,List.length_singleton,hl]
   have rm:∀d:tC,aO (ls.length+[d].length)=true:=fun d=>by
    unfold aO
    exact decide_eq_true (by rw[List.length_singleton];omega)
   rw[oL hjq,cond_true,e1,Option.bind_some]
   dsimp only
   rw[e3]
   cases hcc:(cc==(0:Int))with
   |true =>
    obtain rfl:cc=0:=by simpa using hcc
    rw[cond_true,Option.bind_none,KH,e2,Option.bind_some]
    dsimp only
    rw[show decide ((0:Int)<6)=true from rfl,cond_true,show((0:Int)==4)=false from rfl,cond_false,rm,cond_true,beq_self_eq_true,cond_true,aX hjq (by omega)]
    exact pN q hq m (j+1) i1 h1 xs3 kn3 li3 fr3 gv3 sh3 lg3 _ hjq (by omega) c1 f2 (by have:=z2 rfl;omega) (len1 _) (more _ z1)
   |false =>
    rw[cond_false,Option.bind_some]
    dsimp only
    refine Ku ?_
    have t:=Ar (b:=b) (fr:=fr) hw hk1 (by omega) ls (q:Int) (j:Int) N0 0 i1 h1 kd1 A1 B1 C1 D1 T1 ((y1.toNat:Nat):Int) ((y2.toNat:Nat):Int) ((y3.toNat:Nat):Int) y4 ((y5.toNat:Nat):Int) ((y6.toNat:Nat):Int) ((y7.toNat:Nat):Int) cc (by omega) (by have:=n0;omega) c1 z1 hcc
    rw[show((0:Nat):Int)=0 from rfl]at t
    rcases t with⟨i4,h4,kd4,A4,B4,C4,D4,T4,xs4,kn4,li4,fr4,gv4,sh4,lg4,e4,cu4,s4,f4,l4⟩|⟨i4,h4,kd4,A4,B4,C4,D4,T4,n1,n2,n3,n4,n5,n6,n7,c4,e4,cu4,s4,z4⟩
    ·rw[e4,Option.bind_some]
     dsimp only
     rw[rm,cond_true,beq_self_eq_true,cond_true,aX hjq (by omega)]
     exact pN q hq m (j+1) i4 h4 xs4 kn4 li4 fr4 gv4 sh4 lg4 _ hjq (by omega) cu4 f4 (by omega) (len1 _) (more _ s4)
    ·rw[e4,Option.bind_some]
     dsimp only
     rw[rm,cond_true,z4,cond_false,aX hjq (by omega)]
     exact pN q hq m (j+1) i4 h4 xs kn li fr gv sh lg _ hjq (by omega) cu4 (hw.more (Nat.le_succ j)) hk1 (len1 _) (more _ s4)
  ·rw[Gv hjq,cond_false]
   exact⟨_,_,_,_,_,_,_,_,_,_,rfl,hc,hw.more (by omega),hk1,by omega,hs⟩
theorem Ej{i:Int}(h most:Int) (hc:Cu b i) (h0:0≤most) (h1:most≤600):∃i' h' xs kn li fr gv sh lg,fD N0 (b,i,h,most)=some (b,i',h',xs,kn,li,fr,gv,sh,lg)∧Cu b i'∧FW 601 xs kn li gv sh lg∧1≤kn.length:=by
 obtain⟨xs,kn,e1,f1,k1⟩:=CS
 obtain⟨i2,h2,v2,e2,c2,b2⟩:=cC N0 h (most+1) hc
 have hv:0≤v2∧v2≤most:=by
  rcases b2 with⟨q,_⟩|⟨q1,q2⟩<;>omega
 obtain⟨i3,h3,xs3,kn3,li3,fr3,gv3,sh3,lg3,ls3,e3,c3,f3,k3,_⟩:=pN (b:=b) v2.toNat (by omega) N0 0 i2 h2 xs kn [] 0 [] [] [] [] (Nat.zero_le _) (by have:=n0;omega) c2 f1 k1 rfl (fun d hd=>by cases hd)
 rw[show((0:Nat):Int)=0 from rfl,show((v2.toNat:Nat):Int)=v2 from by omega]at e3
 unfold fD
 dsimp only
 rw[M1,e1,Option.bind_some,am (by omega) (by omega),e2,Option.bind_some]
 dsimp only
 rw[e3]
 exact⟨_,_,_,_,_,_,_,_,_,rfl,c3,f3.more (by omega),k3⟩
def GW (xs:List ab) (kn:List Int) (li:List bx) (gv sh:List Int) (lg:List bu):Prop :=
 Small xs kn li gv sh lg∧li.length≤9∧lg.length≤4294967296∧(1≤kn.length∧kn.length≤301)∧xs.length≤601∧(xs.length≤500→kn.length≤200→FW 602 xs kn li gv sh lg)
theorem GF{xs:List ab}{kn:List Int}{li:List bx}{gv sh:List Int}{lg:List bu}(h:FW 602 xs kn li gv sh lg) (hk:1≤kn.length):GW xs kn li gv sh lg :=
 ⟨h.small (by omega),h.fl,by have:=h.fo;omega,⟨hk,by have:=h.fk;omega⟩,by have:=h.fx;omega,fun _ _=>h⟩
def RB (b:List Int) (s:Option (List Int×Int×Int×List ab×List Int×List bx×Int×List Int×List Int×List bu)):Prop :=
 ∃i h xs kn li fr gv sh lg,s=some (b,i,h,xs,kn,li,fr,gv,sh,lg)∧Cu b i∧GW xs kn li gv sh lg
theorem M9{a m:Int}(hb:b.length≤4294967296) (h0:0≤a) (h1:0≤m) (h2:a≤1000) (h3:m≤600):∃v,l6 N0 (b,a,m)=some v∧0≤v∧v≤600:=by
 unfold l6
 dsimp only
 rw[show((4:Int) != 0)=true from rfl,cond_true,show((b.length:Int)).tdiv 4=(b.length:Int) / 4 from Int.tdiv_eq_ediv_of_nonneg (by omega),am (n:=(b.length:Int) / 4) (by omega) (by omega),am (n:=a+(b.length:Int) / 4) (by omega) (by omega)]
 cases hq:decide (a+(b.length:Int) / 4>m)with
 |true=>exact⟨m,rfl,h1,h3⟩
 |false =>
  rw[decide_eq_false_iff_not]at hq
  exact⟨_,rfl,by omega,by omega⟩
theorem BU {α:Type}{l:List α}{v:α}(h:l.length≤4294967000):aO (l.length+[v].length)=true:=by
 unfold aO
 exact decide_eq_true (by rw[List.length_singleton];omega)
theorem Qc{k:Nat}{xs:List ab}{kn:List Int}{li:List bx}{gv sh:List Int}{lg:List bu}(h:FW k xs kn li gv sh lg) (j:Nat){y:bx}(hy:um y=um (li.getD j zI)) (hj:j<li.length):FW k xs kn (li.set j y) gv sh lg where
 fx:=h.fx
 fk:=h.fk
 fl:=by rw[List.length_set];exact h.fl
 fg:=h.fg
 fs:=h.fs
 fo:=h.fo
 fe:=fun i hi=>by
  rw[List.length_set]at hi
  rw[List.getD_eq_getElem?_getD,List.getElem?_set]
  by_cases q:j=i
  ·subst q
   rw[if_pos rfl,if_pos hi,Option.getD_some,hy]
   exact h.fe j hi
  ·rw[if_neg q, ←List.getD_eq_getElem?_getD]
   exact h.fe i hi
theorem IA{xs:List ab}{kn:List Int}{li:List bx}{gv sh:List Int}{lg:List bu}(h:Small xs kn li gv sh lg) (j:Nat){y:bx}(hy:um y=um (li.getD j zI)) (hj:j<li.length):Small xs kn (li.set j y) gv sh lg where
 fx:=h.fx
 fk:=h.fk
 fl:=by rw[List.length_set];exact h.fl
 fg:=h.fg
 fs:=h.fs
 fo:=h.fo
 fe:=fun i hi=>by
  rw[List.length_set]at hi
  rw[List.getD_eq_getElem?_getD,List.getElem?_set]
  by_cases q:j=i
  ·subst q
   rw[if_pos rfl,if_pos hi,Option.getD_some,hy]
   exact h.fe j hi
  ·rw[if_neg q, ←List.getD_eq_getElem?_getD]
   exact h.fe i hi
theorem Qa{xs:List ab}{kn:List Int}{li:List bx}{gv sh:List Int}{lg:List bu}(h:GW xs kn li gv sh lg) (j:Nat){y:bx}(hy:um y=um (li.getD j zI)) (hj:j<li.length):GW xs kn (li.set j y) gv sh lg :=
 ⟨IA h.1 j hy hj,by rw[List.length_set];exact h.2.1,h.2.2.1,h.2.2.2.1,h.2.2.2.2.1,fun a c=>Qc (h.2.2.2.2.2 a c) j hy hj⟩
theorem Cz{i:Int}(h:Int) (hc:Cu b i) (hb:b.length≤4294967296):RB b (fC N0 (b,i,h,b)):=by
 obtain⟨v0,e0,v1,v2⟩:=M9 (b:=b) (a:=14) (m:=30) hb (by omega) (by omega) (by omega) (by omega)
 obtain⟨i1,h1,xs,kn,li,fr,gv,sh,lg,e1,c1,w1,k1⟩:=Ej h v0 hc v1 v2
 obtain⟨i2,h2,v,e2,c2,b2⟩:=cC N0 h1 30 c1
 have f1:=w1.fx
 have f2:=w1.fk
 have f3:=w1.fl
 have f4:=w1.fg
 have f5:=w1.fs
 have f6:=w1.fo
 have w2:=w1.more (Nat.le_succ 601)
 have g2:=GF w2 k1
 have s2:=w2.small (by omega)
 unfold fC
 dsimp only
 rw[e0,Option.bind_some,e1,Option.bind_some]
 dsimp only
 rw[e2,Option.bind_some]
 dsimp only
 cases(v==(0:Int))with
 |true =>
  obtain⟨i3,h3,v3,e3,c3,_⟩:=Fa N0 h2 [(-1:Int),(9:Int),(8:Int)] (by simp) c2
  rw[cond_true,e3]
  exact⟨_,_,_,_,_,_,_,_,_,rfl,c3,g2⟩
 |false =>
 rw[cond_false]
 cases(v==(1:Int))with
 |true =>
  rw[cond_true,BU (by omega),cond_true]
  exact⟨_,_,_,_,_,_,_,_,_,rfl,c2,GF (gv:=gv++[1]) ⟨w2.fx,w2.fk,w2.fl,w2.fe,by rw[List.length_append,List.length_singleton];omega,w2.fs,w2.fo⟩ k1⟩
 |false =>
 rw[cond_false]
 cases(v==(2:Int))with
 |true =>
  obtain⟨i3,h3,v3,e3,c3,_⟩:=cC N0 h2 4 c2
  rw[cond_true]
  unfold fB
  dsimp only
  rw[e3,Option.bind_some]
  dsimp only
  rw[BU (by omega),cond_true]
  exact⟨_,_,_,_,_,_,_,_,_,rfl,c3,GF (sh:=sh++[v3]) ⟨w2.fx,w2.fk,w2.fl,w2.fe,w2.fg,by rw[List.length_append,List.length_singleton];omega,w2.fo⟩ k1⟩
 |false =>
 rw[cond_false]
 cases(v==(3:Int))with
 |true =>
  rw[cond_true]
  cases hl:decide ((lg.length:Int)>0)with
  |false=>exact⟨_,_,_,_,_,_,_,_,_,rfl,c2,g2⟩
  |true =>
   rw[decide_eq_true_iff]at hl
   rw[cond_true,show BX 1 (lg.length:Int) lg.length=true from decide_eq_true ⟨by omega,by omega,by omega⟩,cond_true]
   have hsl:(sl lg 1 (lg.length:Int)).length≤lg.length:=by
    unfold sl
    simp
   exact⟨_,_,_,_,_,_,_,_,_,rfl,c2,GF (lg:=sl lg 1 (lg.length:Int)) ⟨w2.fx,w2.fk,w2.fl,w2.fe,w2.fg,w2.fs,by omega⟩ k1⟩
 |false =>
 rw[cond_false]
 cases(v==(4:Int))with
 |true =>
  rw[cond_true,BU (by omega),cond_true]
  generalize IntKind.i64.wrap ((xs.length:Int)-1)=z
  have hz:(kn++[z]).length=kn.length+1:=by rw[List.length_append,List.length_singleton]
  exact⟨_,_,_,_,_,_,_,_,_,rfl,c2,⟨s2.fx,by omega,s2.fl,s2.fg,s2.fs,s2.fo,s2.fe⟩,f3,by omega,⟨by omega,by omega⟩,by omega,fun _ q=>⟨w2.fx,by omega,w2.fl,w2.fe,w2.fg,w2.fs,w2.fo⟩⟩
 |false =>
 rw[cond_false]
 cases(v==(5:Int))with
 |true =>
  rw[cond_true]
  cases hl:decide ((li.length:Int)>0)with
  |false=>exact⟨_,_,_,_,_,_,_,_,_,rfl,c2,g2⟩
  |true =>
   rw[decide_eq_true_iff]at hl
   rw[cond_true,show aY 0 li.length=true from decide_eq_true ⟨by omega,by omega⟩,cond_true,cond_true]
   exact⟨_,_,_,_,_,_,_,_,_,rfl,c2,Qa g2 (Int.toNat 0) rfl (by show 0<_;omega)⟩
 |false =>
 rw[cond_false]
 cases(v==(6:Int))with
 |true =>
  rw[cond_true,BU (by omega),cond_true]
  generalize ((0:Int),((0:Int),(0:Int)))=z
  have hz:(xs++[z]).length=xs.length+1:=by rw[List.length_append,List.length_singleton]
  exact⟨_,_,_,_,_,_,_,_,_,rfl,c2,⟨by omega,s2.fk,s2.fl,s2.fg,s2.fs,s2.fo,s2.fe⟩,f3,by omega,⟨k1,by omega⟩,by omega,fun q _=>⟨by omega,w2.fk,w2.fl,w2.fe,w2.fg,w2.fs,w2.fo⟩⟩
 |false=>exact⟨_,_,_,_,_,_,_,_,_,rfl,c2,g2⟩
theorem JF (hb:b.length≤4294967296):∃xs kn li fr gv sh lg k,kr N0 b=some (xs,kn,li,fr,gv,sh,lg,k)∧GW xs kn li gv sh lg:=by
 obtain⟨h0,e0,c0⟩:=PY hb
 obtain⟨i1,h1,xs,kn,li,fr,gv,sh,lg,e1,c1,g1⟩:=Cz h0 c0 hb
 have f3:=g1.2.1
 have f6:=g1.2.2.1
 obtain⟨i2,h2,v2,e2,c2,b2⟩:=cC N0 h1 (IntKind.i64.wrap ((li.length:Int)+1)) c1
 obtain⟨i3,h3,v3,e3,c3,b3⟩:=cC N0 h2 20 c2
 obtain⟨i4,h4,v4,e4,c4⟩:=x8 N0 h3 2 c3
 obtain⟨i5,h5,v5,e5,c5,b5⟩:=cC N0 h4 (lg.length:Int) c4
 unfold kr
 rw[e0,Option.bind_some]
 dsimp only
 rw[e1,Option.bind_some]
 dsimp only
 rw[e2,Option.bind_some]
 dsimp only
 rw[e3,Option.bind_some]
 dsimp only
 rw[show((19:Int) != 0)=true from rfl,cond_true]
 cases hl:decide ((lg.length:Int)>0)with
 |false=>exact⟨_,_,_,_,_,_,_,_,rfl,g1⟩
 |true =>
  rw[decide_eq_true_iff]at hl
  rw[cond_true,e4,Option.bind_some]
  dsimp only
  cases v4 with
  |false=>exact⟨_,_,_,_,_,_,_,_,rfl,g1⟩
  |true =>
   rw[cond_true]
   unfold jv
   dsimp only
   have hv:aY v5 lg.length=true:=by
    rcases b5 with⟨q,_⟩|⟨q1,q2⟩
    ·omega
    ·exact decide_eq_true ⟨q1,by omega⟩
   rw[e5,Option.bind_some]
   dsimp only
   rw[hv,cond_true]
   exact⟨_,_,_,_,_,_,_,_,rfl,g1⟩
end
section
variable{xs:List ab}{kn:List Int}{li:List bx}{fr:Int}{gv sh:List Int}{lg:List bu}{k:Int}
end
section
variable{xs:List ab}{kn:List Int}{li:List bx}{fr:Int}{gv sh:List Int}{lg:List bu}{k:Int}
end
end AM
end Go.Proofs.YtpgigedclifoeaaGreatDoor
namespace Go.Proofs.YtpgigedclifoeaaGreatDoor
namespace AM
open Go.ChangeShapes Go.WideShapes Go.ChangeAt Go.RowKit
set_option linter.unusedVariables false
theorem own:ownKnob Tryz.prog.godebug=none:=by kernel_rfl
theorem Gz:laidOutB Tryz.prog=true:=by kernel_rfl
theorem Ko:"*"++"errors.errorString"="*errors.errorString":=by decide
theorem Fe (u:TypeId) (h:Tryz.prog.typeName? 3 u=some "*errors.errorString"):u=265 :=
 typeName_ptr_named (nm:="errors.errorString") (by rw[Ko];kernel_rfl) (by kernel_rfl) (by decide) u (by rw[Ko];exact h)
abbrev uZ:List (String×DataW Unit):=Rows.fnClaimsRow.laid
theorem sent{W:World}{n:String}{text:List UInt8}{g:Nat}(h:laidMet Tryz.prog [(n, .iface "*errors.errorString" (.ptr (.agg [.lit (.string text)])))] W) (hg:Tryz.prog.globalNamed n=some g) (ht:(Tryz.prog.globals[g]?).map (·.type)=some 189) :
  ∃ev,W.cell? ⟨g,0,none⟩=some ev∧(ev = .nilIface∨∃te pe,ev = .iface te pe):=by
 obtain⟨a,s,hv,_⟩:=laid_sentinel h hg ht Tryz.underlying189 Fe Tryz.underlying265 Tryz.underlying267 rfl rfl Tryz.underlying9 (by kernel_rfl) (by kernel_rfl)
 have:=World.var?_cell hg hv 0
 exact⟨_,this, .inr ⟨_,_,rfl⟩⟩
theorem facts{W:World}(h:laidMet Tryz.prog uZ W) (hs:W.ShapedOpen Tryz.prog):af W where
 mx:=Go.Proofs.cell_of_shapedOpen_int hs (g:=0) (t:=3) (zero:=#[.int .i64 0]) (by decide) (by kernel_rfl) rfl (by kernel_rfl) (by kernel_rfl) Tryz.underlying3
 tab:=Lib.tabIs_of_head (g:=3) (t:=269) (e:=219) (n:=20) (by kernel_rfl) (by kernel_rfl) (by kernel_rfl) (by kernel_rfl) (by kernel_rfl) (by kernel_rfl)
  (kc h (.tail _ (.tail _ (.head _))))
 es:=sent (kc h (.tail _ (.tail _ (.tail _ (.tail _ (.head _)))))) (by kernel_rfl) (by kernel_rfl)
 er:=sent (kc h (.tail _ (.tail _ (.tail _ (.head _))))) (by kernel_rfl) (by kernel_rfl)
noncomputable def gg (os:Os):World :=
 let w0:=World.holding Tryz.prog os ⟨#[.cells #[.string ⟨#[118,97,108,117,101,32,111,117,116,32,111,102,32,114,97,110,103,101]⟩] 267, .cells #[.string ⟨#[105,110,118,97,108,105,100,32,115,121,110,116,97,120]⟩] 267], #[],[]⟩
 { w0 with heap:=((((w0.heap.modify 4 fun
   | .cells _ t frozen => .cells #[.int .u8 0, .int .u8 1, .int .u8 28, .int .u8 2, .int .u8 29, .int .u8 14, .int .u8 24, .int .u8 3, .int .u8 30, .int .u8 22, .int .u8 20, .int .u8 15, .int .u8 25, .int .u8 17, .int .u8 4, .int .u8 8, .int .u8 31, .int .u8 27, .int .u8 13, .int .u8 23, .int .u8 21, .int .u8 19, .int .u8 16, .int .u8 7, .int .u8 26, .int .u8 12, .int .u8 18, .int .u8 6, .int .u8 11, .int .u8 5, .int .u8 10, .int .u8 9] t frozen
   |o=>o).modify 5 fun
   | .cells _ t frozen => .cells #[.int .u8 0, .int .u8 1, .int .u8 56, .int .u8 2, .int .u8 57, .int .u8 49, .int .u8 28, .int .u8 3, .int .u8 61, .int .u8 58, .int .u8 42, .int .u8 50, .int .u8 38, .int .u8 29, .int .u8 17, .int .u8 4, .int .u8 62, .int .u8 47, .int .u8 59, .int .u8 36, .int .u8 45, .int .u8 43, .int .u8 51, .int .u8 22, .int .u8 53, .int .u8 39, .int .u8 33, .int .u8 30, .int .u8 24, .int .u8 18, .int .u8 12, .int .u8 5, .int .u8 63, .int .u8 55, .int .u8 48, .int .u8 27, .int .u8 60, .int .u8 41, .int .u8 37, .int .u8 16, .int .u8 46, .int .u8 35, .int .u8 44, .int .u8 21, .int .u8 52, .int .u8 32, .int .u8 23, .int .u8 11, .int .u8 54, .int .u8 26, .int .u8 40, .int .u8 15, .int .u8 34, .int .u8 20, .int .u8 31, .int .u8 10, .int .u8 25, .int .u8 14, .int .u8 19, .int .u8 9, .int .u8 13, .int .u8 8, .int .u8 7, .int .u8 6] t frozen
   |o=>o).modify 3 fun
   | .cells _ t frozen => .cells #[.int .u64 1, .int .u64 10, .int .u64 100, .int .u64 1000, .int .u64 10000, .int .u64 100000, .int .u64 1000000, .int .u64 10000000, .int .u64 100000000, .int .u64 1000000000, .int .u64 10000000000, .int .u64 100000000000, .int .u64 1000000000000, .int .u64 10000000000000, .int .u64 100000000000000, .int .u64 1000000000000000, .int .u64 10000000000000000, .int .u64 100000000000000000, .int .u64 1000000000000000000, .int .u64 10000000000000000000] t frozen
   |o=>o).modify 2 fun
   | .cells _ t frozen => .cells #[.iface 265 (.pointer (some ⟨11,0,none⟩))] t frozen
   |o=>o).modify 1 fun
   | .cells _ t frozen => .cells #[.iface 265 (.pointer (some ⟨12,0,none⟩))] t frozen
   |o=>o }
theorem uY (os:Os):(gg os).os=os:=rfl
end AM
end Go.Proofs.YtpgigedclifoeaaGreatDoor
namespace Go.Proofs.YtpgigedclifoeaaGreatDoor
namespace AM
open Go
set_option linter.unusedVariables false
set_option linter.unusedSimpArgs false
theorem s8{a:List Int}:∀(r pre:List Int) (m:Nat),a=pre++r→a.length≤4294967296→r.length<m→bI N0 m (a,a,(pre.length:Int))=some (Sum.inr ())
 |_,_,0,_,_,h=>by omega
 |[],pre,m+1,h,hl,hm=>by
  subst h
  unfold bI
  dsimp only
  rw[Lg,cond_false]
 |v::r,pre,m+1,h,hl,hm=>by
  have hl2:pre.length+(r.length+1)≤4294967296:=by rw[h]at hl;simpa using hl
  unfold bI
  dsimp only
  have e1:=Le pre r v
  have e2:=Lr pre r v
  rw[←h]at e1 e2
  rw[e1,cond_true,e2,cond_true,cond_true,bne_self_eq_false,cond_false,am (n:=(pre.length:Int)+1) (by omega) (by omega), ←sE pre v]
  exact s8 r (pre++[v]) m (by rw[h,GX]) hl (by simp at hm;omega)
theorem s6{a:List Int}(ha:a.length≤4294967296):jp N0 (a,a)=some true:=by
 unfold jp
 have:=n0
 have e:=s8 a [] N0 rfl ha (by omega)
 have e:bI N0 N0 (a,a,(0:Int))=some (Sum.inr ()):=e
 dsimp only
 rw[bne_self_eq_false,cond_false,e]
 rfl
theorem v8{d:Nat→Bool}{x:Int}:∀{m i:Nat},x∈iZ d i m→∃j:Nat,x=(j:Int)∧i≤j∧j<i+m∧d j=true
 |0,i,h=>by cases h
 |m+1,i,h=>by
  unfold iZ at h
  cases q:d i with
  |true =>
   rw[q,cond_true]at h
   rcases List.mem_cons.1 h with h|h
   ·exact⟨i,h,Nat.le_refl _,by omega,q⟩
   ·obtain⟨j,h1,h2,h3,h4⟩:=v8 h
    exact⟨j,h1,by omega,by omega,h4⟩
  |false =>
   rw[q,cond_false]at h
   obtain⟨j,h1,h2,h3,h4⟩:=v8 h
   exact⟨j,h1,by omega,by omega,h4⟩
theorem AC{d:Nat→Bool}:∀{m i:Nat},(iZ d i m).length≤m
 |0,i=>Nat.le_refl _
 |m+1,i=>by
  unfold iZ
  have:=AC (d:=d) (m:=m) (i:=i+1)
  cases d i with
  |true=>rw[cond_true,List.length_cons];omega
  |false=>rw[cond_false];omega
section
variable{xs:List ab}{kn:List Int}{li:List bx}{fr:Int}{gv sh:List Int}{lg:List bu}{k:Int}
theorem A9 (hs:Small xs kn li gv sh lg) (hw:dJ xs kn li fr gv sh lg=true) (hi:gB (li.length:Int) k=true):fO N0 (xs,kn,li,fr,gv,sh,lg,k)=some (iT xs li k):=by
 obtain⟨⟨h1,h2⟩,_⟩:=nB hs hw hi
 rw[fO];dsimp only
 rw[sH hs.fl]
 simp only[Option.bind_some,(lm hs).1,hi,hw]
 rw[h2];rfl
theorem IL (hs:Small xs kn li gv sh lg):jr N0 (xs,kn,li,fr,gv,sh,lg,k)=some (bif dJ xs kn li fr gv sh lg&&gB (li.length:Int) k then ow xs li k else [])∧jn N0 (xs,kn,li,fr,gv,sh,lg,k)=some (bif dJ xs kn li fr gv sh lg&&gB (li.length:Int) k then ow xs li k else []):=by
 rw[jr,jn];dsimp only
 rw[sH hs.fl,(lm hs).2]
 simp only[Option.bind_some,(lm hs).1]
 cases hi:gB (li.length:Int) k with
 |true =>
  cases hw:dJ xs kn li fr gv sh lg with
  |false=>exact⟨rfl,rfl⟩
  |true =>
   obtain⟨h1,h2⟩:=IM hs hw hi
   rw[h1,h2]
   exact⟨rfl,rfl⟩
 |false =>
  cases hw:dJ xs kn li fr gv sh lg with
  |false=>exact⟨rfl,rfl⟩
  |true =>
   refine⟨rfl,?_⟩
   have hin:(decide (k≥0)&&decide (k≤IntKind.i64.wrap ((li.length:Int)-(1:Int))))=false:=by
    have:=hs.fl
    rw[am (by omega) (by omega)]
    exact hi
   have hk:cG N0 (xs,kn,li,fr,gv,sh,lg,k)=some (-1):=by
    unfold cG
    simp only[oB,hin,Option.bind_some];rfl
   unfold eR
   dsimp only
   rw[hk];rfl
theorem AE (hs:Small xs kn li gv sh lg) (hw:dJ xs kn li fr gv sh lg=true) (hi:gB (li.length:Int) k=true) (hk:0≤iT xs li k) (L:List Int) (hl:L.length≤4294967296) (hL:∀x∈L, ∃j:Nat,x=(j:Int)∧j<li.length∧J6 xs li k j=true):∀(m i:Nat),i≤L.length→L.length<m+i →
  aG N0 m (xs,kn,li,fr,gv,sh,lg,k,L,(i:Int))=some (Sum.inr (xs,kn,li,fr,gv,sh,lg,L))
 |0,i,h1,h2=>by omega
 |m+1,i,h1,h2=>by
  rw[aG]
  dsimp only
  by_cases hq:i<L.length
  ·obtain⟨j,hj,hjl,hp⟩:=hL (L.getD i 0) (by rw[List.getD_eq_getElem?_getD,List.getElem?_eq_getElem hq,Option.getD_some];exact List.getElem_mem _)
   have hij:gB (li.length:Int) (j:Int)=true:=by
    unfold gB
    rw[Bool.and_eq_true,decide_eq_true_iff,decide_eq_true_iff]
    omega
   have ih:=AE hs hw hi hk L hl hL m (i+1) hq (by omega)
   unfold J6 at hp
   dsimp only at hp
   simp only[Bool.and_eq_true]at hp
   obtain⟨p1,p2,p3,p4,p5,_⟩:=hp
   have q1:=eq_of_beq p1
   have q3:=eq_of_beq p3
   have q4:=eq_of_beq p4
   have q5:=eq_of_beq p5
   have q2:(((li.getD j zI).2.1==(li.getD k.toNat zI).2.1))=false:=by simpa using p2
   rw[oL hq,cond_true,fV]
   dsimp only
   rw[lH hi,ax hq,cond_true,cond_true,Int.toNat_natCast,hj,lH hij,cond_true,Option.bind_some]
   dsimp only
   rw[Int.toNat_natCast,Int.toNat_natCast,hj]
   have ez:∀a:Nat,li.getD a ((0:Int),((0:Int),((0:Int),((0:Int),((0:Int),(([]:List Int),(false,(false,(0:Int)))))))))=li.getD a zI:=fun _=>rfl
   rw[ez,ez,q1,q2,q3,q4,bne_self_eq_false,bne_self_eq_false,bne_self_eq_false,ax hq,A9 hs hw hij,A9 hs hw hi,q5]
   simp only[cond_false,cond_true,Option.bind_some,bne_self_eq_false,decide_eq_false (show ¬iT xs li k<0 by omega)]
   rw[aX hq hl]
   exact ih
  ·rw[show decide ((i:Int)<(L.length:Int))=false from decide_eq_false (by omega),cond_false]
end
theorem B6 (b:List Int):fw N0 b=some true:=by
 unfold fw uX
 rw[Option.bind_some]
 cases hb:decide ((b.length:Int)>1048576)with
 |true=>rfl
 |false =>
  rw[decide_eq_false_iff_not]at hb
  obtain⟨xs,kn,li,fr,gv,sh,lg,k,e1,g1⟩:=JF (b:=b) (by omega)
  have hs:=g1.1
  have hli:=g1.2.1
  obtain⟨P1,P2⟩:=IL (k:=k) (fr:=fr) hs
  obtain⟨v,v1,v2⟩:=Ft (k:=k) (fr:=fr) hs
  unfold ie
  rw[cond_false,e1,Option.bind_some,Option.bind_some]
  dsimp only
  rw[P1,P2,Option.bind_some,Option.bind_some]
  have hN:=n0
  cases hw:dJ xs kn li fr gv sh lg&&gB (li.length:Int) k with
  |false =>
   rw[cond_false,s6 (by simp),Option.bind_some,Bool.not_true,cond_false,v1,v2,Option.bind_some,Option.bind_some,bne_self_eq_false,cond_false]
   have e:aG N0 N0 (xs,kn,li,fr,gv,sh,lg,k,([]:List Int),(0:Int))=some (Sum.inr (xs,kn,li,fr,gv,sh,lg,[])):=by
    obtain⟨m,hm⟩:∃m,N0=m+1:=⟨N0-1,by omega⟩
    have:∀m,aG N0 (m+1) (xs,kn,li,fr,gv,sh,lg,k,([]:List Int),(0:Int))=some (Sum.inr (xs,kn,li,fr,gv,sh,lg,[])):=fun m=>by
     rw[aG];rfl
    have h:=this m
    rw[←hm]at h
    exact h
   rw[e]
   rfl
  |true =>
   rw[Bool.and_eq_true]at hw
   obtain⟨hw,hi⟩:=hw
   have hlen:(ow xs li k).length≤li.length:=by
    unfold ow
    cases decide (iT xs li k<0)with
    |true=>exact Nat.zero_le _
    |false=>exact AC
   rw[cond_true,s6 (by omega),Option.bind_some,Bool.not_true,cond_false,v1,v2,Option.bind_some,Option.bind_some,bne_self_eq_false,cond_false]
   have e:aG N0 N0 (xs,kn,li,fr,gv,sh,lg,k,ow xs li k,(0:Int))=some (Sum.inr (xs,kn,li,fr,gv,sh,lg,ow xs li k)):=by
    by_cases hq:iT xs li k<0
    ·have:ow xs li k=[]:=by unfold ow;rw[decide_eq_true hq,cond_true]
     rw[this]
     obtain⟨m,hm⟩:∃m,N0=m+1:=⟨N0-1,by omega⟩
     have:∀m,aG N0 (m+1) (xs,kn,li,fr,gv,sh,lg,k,([]:List Int),(0:Int))=some (Sum.inr (xs,kn,li,fr,gv,sh,lg,[])):=fun m=>by
      rw[aG];rfl
     have h:=this m
     rw[←hm]at h
     exact h
    ·exact AE (fr:=fr) hs hw hi (by omega) _ (by omega) (fun x hx=>by
      unfold ow at hx
      rw[decide_eq_false hq,cond_false]at hx
      obtain⟨j,h1,_,h3,h4⟩:=v8 hx
      exact⟨j,h1,by omega,h4⟩) N0 0 (Nat.zero_le _) (by omega)
   rw[e,Option.bind_some]
   dsimp only
   rw[(lm (fr:=fr) hs).2,hw]
   cases(((ow xs li k).length:Int)==(0:Int))<;>rfl
theorem xQ (x:TD (bo (az 0 (S6 0).pars))) (hx:Mi _ x):fw N0 x=some true:=B6 x
end AM
end Go.Proofs.YtpgigedclifoeaaGreatDoor
