/- What can be made of what is known, by the program and by the reference: one list. Condition: a right pool, and what is known stands in it. And what follows it: see the remarks. -/
import Derived.Test.YtlkgapiohfgenaaGreatDoorJP2
namespace Go.Proofs.YtlkgapiohfgenaaGreatDoor
namespace AM
open Go
set_option linter.unusedVariables false
set_option linter.unusedSimpArgs false
theorem nh{v:Int}{n:Nat}(h0:0≤v) (h1:v<(n:Int)):aY v n=true:=decide_eq_true ⟨h0,h1⟩
theorem Ll{xs:List ac}(hx:xs.length≤4294967296) (a b c:Int):g9 N0 (xs,a,b,c)=some (xs,IK xs (a,b,c)):=by
 unfold g9
 dsimp only
 have h:=BE hx (a,b,c)
 dsimp only at h
 rw[h];rfl
theorem Fk{xs:List ac}(hx:xs.length≤4294967296){F:List Bool}(hF:F.length=xs.length) (b:Int):dy N0 (xs,(7:Int),b,(0:Int),F)=some (xs,F,zE xs F b):=by
 unfold dy zE
 dsimp only
 rw[Ll hx,Option.bind_some]
 unfold IK
 cases e:my xs ((7:Int),(b,(0:Int)))with
 |none=>rfl
 |some j =>
  have:=(ws e).1
  dsimp only
  rw[decide_eq_true (show(j:Int)≥0 by omega),cond_true,nh (show(0:Int)≤(j:Int)by omega) (show(j:Int)<(F.length:Int)by omega),cond_true,Int.toNat_natCast]
  rfl
theorem B3{xs:List ac}{F:List Bool}{k a b:Int}:∀(r pre:List Int) (acc:Bool) (m:Nat),r.length<m→pre.length+r.length≤1000→(∀v∈r,0≤v∧v<(F.length:Int))→aG N0 m (xs,F,k,a,b,acc,pre++r,((pre++r).length:Int),(pre.length:Int))=some (xs,F,k,a,b,acc&&r.all (fB F))
 |[],pre,acc,m,hm,hl,hv=>by
  obtain⟨i,rfl⟩:∃i,m=i+1:=⟨m-1,by omega⟩
  rw[aG]
  dsimp only
  rw[wL,cond_false,List.all_nil,Bool.and_true]
 |x::r,pre,acc,m,hm,hl,hv=>by
  obtain⟨i,rfl⟩:∃i,m=i+1:=⟨m-1,by omega⟩
  have hl':pre.length+(r.length+1)≤1000:=hl
  have hm':r.length+1<i+1:=hm
  have w:IntKind.i64.wrap ((pre.length:Int)+1)=((pre++[x]).length:Int):=by rw[cC (by omega) (by omega),sW]
  have hx:=hv x (List.mem_cons_self ..)
  have go:∀acc',aG N0 i (xs,F,k,a,b,acc',pre++x::r,((pre++x::r).length:Int),((pre++[x]).length:Int))=some (xs,F,k,a,b,acc'&&r.all (fB F)):=fun acc'=>by
   rw[tF]
   exact B3 r (pre++[x]) acc' i (by omega) (by simp;omega) (fun v q=>hv v (List.mem_cons_of_mem _ q))
  rw[aG]
  dsimp only
  rw[wK,cond_true,wY,Int.toNat_natCast,tc,cond_true,w,nh hx.1 hx.2,cond_true]
  cases acc with
  |true =>
   rw[cond_true,go,List.all_cons,Bool.true_and];rfl
  |false=>rw[cond_false,go];rfl
theorem Ea{xs:List ac}{F:List Bool}{k a b:Int}(r:List Int) (hr:r.length≤1000) (hv:∀v∈r,0≤v∧v<(F.length:Int)):aG N0 N0 (xs,F,k,a,b,true,r,(r.length:Int),(0:Int))=some (xs,F,k,a,b,r.all (fB F)):=by
 have h:=B3 (xs:=xs) (F:=F) (k:=k) (a:=a) (b:=b) r [] true N0 (by have:=n0;omega) (by simpa using hr) hv
 rw[Bool.true_and]at h
 exact h
theorem D5:ce N0 5=some 1∧ce N0 7=some 1:=⟨rfl,rfl⟩
theorem JA:ce N0 2=some 2∧ce N0 3=some 2∧ce N0 4=some 2∧ce N0 6=some 2∧ce N0 8=some 2:=⟨rfl,rfl,rfl,rfl,rfl⟩
theorem C9{xs:List ac}(hp:cJ xs=true){t:Nat}(ht:t<xs.length){F:List Bool}(hF:F.length=xs.length):e9 N0 (xs,(t:Int),F)=some (xs,F,xT xs F t):=by
 have hx:xs.length≤4294967296:=by have:=cN hp;omega
 have hc:=kr hp ht
 unfold e9 xT uN iX
 dsimp only
 rw[ax ht,cond_true,Int.toNat_natCast,cond_true]
 have e0:xs.getD t dK=xs.getD t ((0:Int),((0:Int),(0:Int))):=rfl
 rw[e0]at hc ⊢
 generalize xs.getD t ((0:Int),((0:Int),(0:Int)))=n at hc ⊢
 obtain⟨k,a,b⟩:=n
 dsimp only at hc ⊢
 rcases hc with⟨rfl,h0,h1⟩|⟨hk,h0,h1⟩|⟨hk,h0,h1,g0,g1⟩
 ·unfold kX
  rw[eE];rfl
 ·have hr:=Ea (xs:=xs) (F:=F) (k:=k) (a:=a) (b:=b) [a] (by simp) (fun v hv=>by rw[List.mem_singleton.1 hv];omega)
  simp only[List.all_cons,List.all_nil,Bool.and_true,List.length_singleton]at hr
  rcases hk with rfl|rfl
  ·rw[D5.1]
   simp only[Option.bind_some,show((5:Int)==1)=false from rfl,show((1:Int)==1)=true from rfl,show((5:Int)==5 || (5:Int)==7)=true from rfl,show((5:Int) != 8)=true from rfl,cond_true,cond_false,List.length_singleton]
   rw[show((1:Nat):Int)=(1:Int)from rfl]at hr ⊢
   rw[hr,Option.bind_some]
   cases fB F a<;>rfl
  ·rw[D5.2]
   simp only[Option.bind_some,show((7:Int)==1)=false from rfl,show((1:Int)==1)=true from rfl,show((7:Int)==5 || (7:Int)==7)=true from rfl,show((7:Int) != 8)=true from rfl,cond_true,cond_false,List.length_singleton]
   rw[show((1:Nat):Int)=(1:Int)from rfl]at hr ⊢
   rw[hr,Option.bind_some]
   cases fB F a<;>rfl
 ·have hr:=Ea (xs:=xs) (F:=F) (k:=k) (a:=a) (b:=b) [a,b] (by simp) (fun v hv=>by
   rcases List.mem_cons.1 hv with rfl|hv
   ·omega
   ·rw[List.mem_singleton.1 hv];omega)
  simp only[List.all_cons,List.all_nil,Bool.and_true]at hr
  have hl:(([a,b]:List Int).length:Int)=2:=rfl
  rw[hl]at hr
  have plain:∀c:Int,c=2∨c=3∨c=4∨c=6→(c==1)=false∧(c==5 || c==7)=false∧(c != 8)=true∧(c==8)=false∧ce N0 c=some 2:=fun c hc=>by
   rcases hc with rfl|rfl|rfl|rfl<;>exact⟨rfl,rfl,rfl,rfl,rfl⟩
  by_cases h8:k=8
  ·subst h8
   rw[JA.2.2.2.2]
   simp only[Option.bind_some,show((8:Int)==1)=false from rfl,show((2:Int)==1)=false from rfl,show((2:Int)==2)=true from rfl,show((8:Int)==5 || (8:Int)==7)=false from rfl,show((8:Int) != 8)=false from rfl,show((8:Int)==8)=true from rfl,cond_true,cond_false]
   rw[hl,hr,Option.bind_some]
   dsimp only
   have ia:aY a F.length=true:=nh h0 (by omega)
   have ib:aY b F.length=true:=nh g0 (by omega)
   have fa:F.getD a.toNat false=fB F a:=rfl
   have fb:F.getD b.toNat false=fB F b:=rfl
   cases qa:fB F a<;>cases qb:fB F b<;>cases pa:zE xs F a<;>cases pb:zE xs F b<;>simp only[ia,ib,fa,fb,qa,qb,Fk hx hF,pa,pb,show((8:Int) != 8)=false from rfl,cond_true,cond_false,Option.bind_some,Bool.and_self,Bool.and_true,Bool.and_false,Bool.or_self,Bool.or_true,Bool.or_false,Bool.true_and,Bool.false_and,Bool.true_or,Bool.false_or]
  ·obtain⟨p1,p2,p3,p4,p5⟩:=plain k (by omega)
   rw[p5]
   simp only[Option.bind_some,p1,p2,p4,show((2:Int)==1)=false from rfl,show((2:Int)==2)=true from rfl,cond_true,cond_false]
   rw[hl,hr,Option.bind_some]
   dsimp only
   rw[p3]
   cases fB F a<;>cases fB F b<;>rfl
def xS (F:List Bool):Nat:=F.countP id
theorem C0{F:List Bool}{t i:Nat}(ht:t<F.length):fN (F.set t true) i=(decide (i=t) || fN F i):=by
 unfold fN
 rw[List.getD_eq_getElem?_getD,List.getElem?_set,List.getD_eq_getElem?_getD]
 by_cases q:t=i
 ·subst q;simp[ht]
 ·simp[q,show ¬i=t from fun e=>q e.symm]
theorem D7:∀{F:List Bool}{t:Nat},t<F.length→fN F t=false→xS (F.set t true)=xS F+1
 |[],t,h,_=>by cases h
 |f::F,0,_,h=>by
  have h:f=false:=h
  subst h
  simp[xS]
 |f::F,t+1,h,g=>by
  have ih:=D7 (F:=F) (t:=t) (by simpa using h) g
  unfold xS at ih ⊢
  rw[List.set_cons_succ,List.countP_cons,List.countP_cons,ih]
  omega
theorem Lu (F:List Bool):xS F≤F.length:=List.countP_le_length
structure IC (xs:List ac) (kn:List Int) (F:List Bool):Prop where
 len:F.length=xs.length
 has:∀i,i<xs.length→gg kn (i:Int)=true→fN F i=true
 le:∀i,i<xs.length→fN F i=true→fN (iE xs kn) i=true
theorem sJ{xs:List ac}(hp:cJ xs=true){kn:List Int}:∀(n t:Nat) (F:List Bool) (more:Bool) (m:Nat),t+n=xs.length→n<m→IC xs kn F →
  ∃F' c,aV N0 m (xs,F,more,(xs.length:Int),(t:Int))=some (xs,F',c)∧IC xs kn F'∧xS F≤xS F'∧((c=false∧more=false∧F'=F∧∀i,t≤i→i<xs.length→xT xs F i=true→fN F i=true)∨(c=true∧(more=true∨xS F<xS F')))
 |0,t,F,more,m,he,hm,hI=>by
  obtain⟨i,rfl⟩:∃i,m=i+1:=⟨m-1,by omega⟩
  rw[aV]
  dsimp only
  rw[show t=xs.length by omega,gW,cond_false]
  refine⟨F,more,rfl,hI,Nat.le_refl _,?_⟩
  cases more with
  |true=>exact .inr ⟨rfl, .inl rfl⟩
  |false=>exact .inl ⟨rfl,rfl,rfl,fun i h1 h2=>by omega⟩
 |n+1,t,F,more,m,he,hm,hI=>by
  obtain⟨i,rfl⟩:∃i,m=i+1:=⟨m-1,by omega⟩
  have ht:t<xs.length:=by omega
  have hx:xs.length≤4294967296:=by have:=cN hp;omega
  have hin:aY (t:Int) F.length=true:=ax (by rw[hI.len];exact ht)
  have hF:F.getD t false=fN F t:=rfl
  rw[aV]
  dsimp only
  rw[gV ht,cond_true,hin,cond_true,Int.toNat_natCast,hF,ap ht hx]
  cases q:fN F t with
  |true =>
   rw[Bool.not_true,cond_false]
   obtain⟨F',c,h1,h2,h3,h4⟩:=sJ hp (kn:=kn) n (t+1) F more i (by omega) (by omega) hI
   refine⟨F',c,h1,h2,h3,h4.imp (fun⟨a1,a2,a3,a4⟩=>⟨a1,a2,a3,fun j g1 g2 g3=>?_⟩) id⟩
   by_cases e:j=t
   ·rw[e];exact q
   ·exact a4 j (by omega) g2 g3
  |false =>
   rw[Bool.not_false,cond_true,C9 hp ht hI.len,Option.bind_some]
   dsimp only
   cases hc:xT xs F t with
   |false =>
    rw[cond_false]
    obtain⟨F',c,h1,h2,h3,h4⟩:=sJ hp (kn:=kn) n (t+1) F more i (by omega) (by omega) hI
    refine⟨F',c,h1,h2,h3,h4.imp (fun⟨a1,a2,a3,a4⟩=>⟨a1,a2,a3,fun j g1 g2 g3=>?_⟩) id⟩
    by_cases e:j=t
    ·rw[e,hc]at g3;cases g3
    ·exact a4 j (by omega) g2 g3
   |true =>
    rw[cond_true,hin,cond_true]
    have ht':t<F.length:=by rw[hI.len];exact ht
    have hI':IC xs kn (F.set t true):=⟨by rw[List.length_set];exact hI.len,fun j g1 g2=>by rw[C0 ht',hI.has j g1 g2,Bool.or_true],fun j g1 g2=>by
     rw[C0 ht',Bool.or_eq_true]at g2
     rcases g2 with g2|g2
     ·rw[of_decide_eq_true g2];exact IV hp hI.le ht hc
     ·exact hI.le j g1 g2⟩
    obtain⟨F',c,h1,h2,h3,h4⟩:=sJ hp (kn:=kn) n (t+1) (F.set t true) true i (by omega) (by omega) hI'
    have hct:=D7 ht' q
    refine⟨F',c,h1,h2,by omega,?_⟩
    rcases h4 with⟨_,a2,_⟩|⟨a1,_⟩
    ·cases a2
    ·exact .inr ⟨a1, .inr (by omega)⟩
theorem EP{xs:List ac}(hp:cJ xs=true){kn:List Int}:∀(d:Nat) (F:List Bool) (m:Nat),xs.length-xS F≤d→d+1<m→IC xs kn F→bb N0 m (xs,F,true)=some (xs,iE xs kn):=by
 intro d
 induction d with
 |zero =>
  intro F m hd hm hI
  obtain⟨i,rfl⟩:∃i,m=i+2:=⟨m-2,by omega⟩
  obtain⟨F',c,h1,h2,h3,h4⟩:=sJ hp (kn:=kn) xs.length 0 F false N0 (by omega) (by have:=n0;have:=cN hp;omega) hI
  have hl:=Lu F'
  rw[h2.len]at hl
  rw[bb]
  dsimp only
  rw[cond_true,hI.len]
  rw[show((0:Nat):Int)=(0:Int)from rfl]at h1
  rw[h1,Option.bind_some]
  dsimp only
  rcases h4 with⟨rfl,_,rfl,h4⟩|⟨rfl,h4⟩
  ·rw[bb]
   dsimp only
   rw[cond_false,GX hp h2.len h2.has h2.le (fun j g1 g2=>h4 j (Nat.zero_le _) g1 g2)]
  ·rcases h4 with h4|h4
   ·cases h4
   ·omega
 |succ d ih =>
  intro F m hd hm hI
  obtain⟨i,rfl⟩:∃i,m=i+2:=⟨m-2,by omega⟩
  obtain⟨F',c,h1,h2,h3,h4⟩:=sJ hp (kn:=kn) xs.length 0 F false N0 (by omega) (by have:=n0;have:=cN hp;omega) hI
  rw[bb]
  dsimp only
  rw[cond_true,hI.len]
  rw[show((0:Nat):Int)=(0:Int)from rfl]at h1
  rw[h1,Option.bind_some]
  dsimp only
  rcases h4 with⟨rfl,_,rfl,h4⟩|⟨rfl,h4⟩
  ·rw[bb]
   dsimp only
   rw[cond_false,GX hp h2.len h2.has h2.le (fun j g1 g2=>h4 j (Nat.zero_le _) g1 g2)]
  ·rcases h4 with h4|h4
   ·cases h4
   ·exact ih F' (i+1) (by omega) (by omega) h2
def Ks (xs:List ac) (kn:List Int):Prop:=∀v∈kn,0≤v∧v<(xs.length:Int)
theorem wQ{xs:List ac}:∀(r pre:List Int) (F:List Bool) (m:Nat),r.length<m→pre.length+r.length≤1000→F.length=xs.length→Ks xs r→∃F',bl N0 m (xs,F,pre++r,((pre++r).length:Int),(pre.length:Int))=some (xs,F')∧F'.length=xs.length∧∀i,fN F' i=true↔fN F i=true∨(i:Int)∈r
 |[],pre,F,m,hm,hl,hF,hk=>by
  obtain⟨i,rfl⟩:∃i,m=i+1:=⟨m-1,by omega⟩
  rw[bl]
  dsimp only
  rw[wL,cond_false]
  exact⟨F,rfl,hF,fun i=>by simp⟩
 |x::r,pre,F,m,hm,hl,hF,hk=>by
  obtain⟨i,rfl⟩:∃i,m=i+1:=⟨m-1,by omega⟩
  have hl':pre.length+(r.length+1)≤1000:=hl
  have hm':r.length+1<i+1:=hm
  have w:IntKind.i64.wrap ((pre.length:Int)+1)=((pre++[x]).length:Int):=by rw[cC (by omega) (by omega),sW]
  obtain⟨x0,x1⟩:=hk x (List.mem_cons_self ..)
  obtain⟨F',h1,h2,h3⟩:=wQ r (pre++[x]) (F.set x.toNat true) i (by omega) (by simp;omega) (by rw[List.length_set];exact hF) (fun v q=>hk v (List.mem_cons_of_mem _ q))
  rw[bl]
  dsimp only
  rw[wK,cond_true,wY,Int.toNat_natCast,tc,cond_true,w,nh x0 (by rw[hF];exact x1),cond_true]
  rw[←tF]at h1
  refine⟨F',h1,h2,fun j=>?_⟩
  rw[h3 j,C0 (by omega),Bool.or_eq_true,decide_eq_true_iff,List.mem_cons]
  constructor
  ·rintro ((q|q)|q)
   ·exact .inr (.inl (by omega))
   ·exact .inl q
   ·exact .inr (.inr q)
  ·rintro (q|q|q)
   ·exact .inl (.inr q)
   ·exact .inl (.inl (by omega))
   ·exact .inr q
theorem NI (n i:Nat):fN (List.replicate n false) i=false:=by
 unfold fN
 rw[List.getD_eq_getElem?_getD,List.getElem?_replicate]
 split<;>rfl
theorem Bw{xs:List ac}(hp:cJ xs=true){kn:List Int}(hl:kn.length≤900) (hk:Ks xs kn):eR N0 (xs,kn)=some (xs,iE xs kn):=by
 have hx:=cN hp
 obtain⟨F,h1,h2,h3⟩:=wQ (xs:=xs) kn [] (List.replicate xs.length false) N0 (by have:=n0;omega) (by simp;omega) (List.length_replicate ..) hk
 have h1':bl N0 N0 (xs,List.replicate xs.length false,kn,(kn.length:Int),(0:Int))=some (xs,F):=h1
 have hI:IC xs kn F:=⟨h2,fun i g1 g2=>(h3 i).2 (.inr (by rw[uf,List.contains_iff_mem]at g2;exact g2)),fun i g1 g2=>by
  rcases(h3 i).1 g2 with q|q
  ·rw[NI]at q;cases q
  ·rw[vZ hp g1,uf,List.contains_iff_mem.2 q,Bool.true_or]⟩
 unfold eR
 dsimp only
 rw[decide_eq_true (show 0≤(xs.length:Int)∧(xs.length:Int)≤(xs.length:Int)∧(xs.length:Int)≤4294967296 by omega),cond_true,Int.toNat_natCast,h1',Option.bind_some]
 dsimp only
 rw[EP hp (kn:=kn) xs.length F N0 (by omega) (by have:=n0;omega) hI]
 rfl
theorem A8{xs:List ac}(hx:xs.length≤4294967296){F:List Bool}{kn:List Int}(hl:kn.length≤4294967296){b:Int}(h0:0≤b) (h1:b<(F.length:Int)):dB N0 (xs,F,kn,b)=some (xI xs kn F b):=by
 unfold dB xI
 dsimp only
 have h:=yC hx ((7:Int),(b,(0:Int)))
 dsimp only at h
 rw[h,Option.bind_some]
 unfold IK
 cases e:my xs ((7:Int),(b,(0:Int)))with
 |none=>rfl
 |some j =>
  dsimp only
  rw[decide_eq_true (show(j:Int)≥0 by omega),cond_true,nh h0 h1,cond_true,mA hl]
  show(cond (fB F b) _ _)=_
  cases fB F b<;>rfl
theorem Js{xs:List ac}(hp:cJ xs=true){kn:List Int}(hl:kn.length≤4294967296){t:Nat}(ht:t<xs.length){F:List Bool}(hF:F.length=t):lc N0 (xs,F,(t:Int),kn)=some (Ao xs kn F t):=by
 have hx:xs.length≤4294967296:=by have:=cN hp;omega
 have hc:=kr hp ht
 unfold lc Ao uN
 dsimp only
 rw[ax ht,cond_true,Int.toNat_natCast]
 have e0:xs.getD t dK=xs.getD t ((0:Int),((0:Int),(0:Int))):=rfl
 rw[e0]at hc ⊢
 generalize xs.getD t ((0:Int),((0:Int),(0:Int)))=n at hc ⊢
 obtain⟨k,a,b⟩:=n
 dsimp only at hc ⊢
 rcases hc with⟨rfl,h0,h1⟩|⟨hk,h0,h1⟩|⟨hk,h0,h1,g0,g1⟩
 ·unfold kS cr
  dsimp only
  cases decide (a≥0)<;>rfl
 ·have ia:aY a F.length=true:=nh h0 (by omega)
  have p:eS N0 k=some 1:=by rcases hk with rfl|rfl<;>rfl
  have p2:(k==1)=false∧(k==5 || k==7)=true:=by rcases hk with rfl|rfl<;>exact⟨rfl,rfl⟩
  rw[p,p2.1,p2.2]
  simp only[Option.bind_some,cond_false,cond_true,show((1:Int)==1)=true from rfl,ia]
  rfl
 ·have ia:aY a F.length=true:=nh h0 (by omega)
  have ib:aY b F.length=true:=nh g0 (by omega)
  have p:eS N0 k=some 2:=by rcases hk with rfl|rfl|rfl|rfl|rfl<;>rfl
  have p2:(k==1)=false∧(k==5 || k==7)=false:=by rcases hk with rfl|rfl|rfl|rfl|rfl<;>exact⟨rfl,rfl⟩
  have fa:F.getD a.toNat false=fB F a:=rfl
  have fb:F.getD b.toNat false=fB F b:=rfl
  rw[p,p2.1,p2.2]
  simp only[Option.bind_some,cond_false,show((2:Int)==1)=false from rfl,ia,ib,cond_true,fa,fb,A8 hx hl h0 (show a<(F.length:Int)by omega),A8 hx hl g0 (show b<(F.length:Int)by omega)]
  cases(k==8)<;>cases fB F a<;>cases fB F b<;>cases xI xs kn F a<;>cases xI xs kn F b<;>rfl
theorem B7{xs:List ac}(hp:cJ xs=true){kn:List Int}(hl:kn.length≤4294967296):∀(n t m:Nat),t+n=xs.length→n<m→ci N0 m (kn,xs,sB xs kn t,(t:Int))=some (iE xs kn)
 |0,t,m,he,hm=>by
  obtain⟨i,rfl⟩:∃i,m=i+1:=⟨m-1,by omega⟩
  rw[ci]
  dsimp only
  rw[show t=xs.length by omega,gW,cond_false]
 |n+1,t,m,he,hm=>by
  obtain⟨i,rfl⟩:∃i,m=i+1:=⟨m-1,by omega⟩
  have ht:t<xs.length:=by omega
  have hx:=cN hp
  have hlen:=pC xs kn t
  have ih:=B7 hp hl n (t+1) i (by omega) (by omega)
  have hs:sB xs kn (t+1)=sB xs kn t++[gg kn (t:Int) || Ao xs kn (sB xs kn t) t]:=rfl
  rw[ci]
  dsimp only
  rw[gV ht,cond_true,mA hl,Option.bind_some,Js hp hl ht hlen,ap ht (by omega),wk (show(sB xs kn t).length≤1000000 by omega)]
  rw[hs]at ih
  cases q:gg kn (t:Int)with
  |true =>
   rw[q,Bool.true_or]at ih
   simp only[cond_true]
   exact ih
  |false =>
   rw[q,Bool.false_or]at ih
   simp only[cond_false,Option.bind_some,wk (show(sB xs kn t).length≤1000000 by omega),cond_true]
   exact ih
theorem BB{xs:List ac}(hp:cJ xs=true){kn:List Int}(hl:kn.length≤4294967296):iZ N0 (xs,kn)=some (iE xs kn):=by
 have hx:=cN hp
 have h:=B7 hp hl xs.length 0 N0 (by omega) (by have:=n0;omega)
 unfold iZ
 dsimp only
 have h':ci N0 N0 (kn,xs,([]:List Bool),(0:Int))=_:=h
 rw[h'];rfl
theorem sH{n:Nat}(h:n≤4294967296):co n=true:=decide_eq_true h
def KU (xs:List ac) (F:List Bool) (v:Int):List Int :=
 bif (xs.getD v.toNat dK).1==2 then [(xs.getD v.toNat dK).2.1,(xs.getD v.toNat dK).2.2]else bif (xs.getD v.toNat dK).1==4 then [(xs.getD v.toNat dK).2.1]else bif (xs.getD v.toNat dK).1==3 then(bif fB F (xs.getD v.toNat dK).2.2 then [(xs.getD v.toNat dK).2.1]else [])else []
def zN (xs:List ac) (F:List Bool):List Int→List Int
 |[]=>[]
 |v::r=>KU xs F v++zN xs F r
theorem Jf (xs:List ac) (F:List Bool) (v:Int):(KU xs F v).length≤2:=by
 unfold KU
 cases(xs.getD v.toNat dK).1==2<;>cases(xs.getD v.toNat dK).1==4<;>cases(xs.getD v.toNat dK).1==3<;>cases fB F (xs.getD v.toNat dK).2.2<;>simp
theorem DA (xs:List ac) (F:List Bool):∀r,(zN xs F r).length≤2*r.length
 |[]=>Nat.le_refl _
 |v::r=>by
  have:=DA xs F r
  have:=Jf xs F v
  rw[zN,List.length_append,List.length_cons]
  omega
theorem CF{xs:List ac}(hp:cJ xs=true){v:Int}(h0:0≤v) (h1:v<(xs.length:Int)) (hk:(xs.getD v.toNat dK).1=2∨(xs.getD v.toNat dK).1=3∨(xs.getD v.toNat dK).1=4):(0≤(xs.getD v.toNat dK).2.1∧(xs.getD v.toNat dK).2.1<(xs.length:Int))∧0≤(xs.getD v.toNat dK).2.2∧(xs.getD v.toNat dK).2.2<(xs.length:Int):=by
 rcases kr hp (show v.toNat<xs.length by omega)with⟨a,_⟩|⟨a,_⟩|⟨a,b,c,d,e⟩
 ·omega
 ·omega
 ·exact⟨⟨b,by omega⟩,d,by omega⟩
theorem KT{xs:List ac}(hp:cJ xs=true){F:List Bool}{v:Int}(h0:0≤v) (h1:v<(xs.length:Int)):Ks xs (KU xs F v):=by
 intro x hx
 have h:=CF hp h0 h1
 unfold KU at hx
 cases q2:(xs.getD v.toNat dK).1==2 with
 |true =>
  obtain⟨g1,g2⟩:=h (.inl (by simpa using q2))
  rw[q2,cond_true]at hx
  rcases List.mem_cons.1 hx with e|e
  ·rw[e];exact g1
  ·rw[List.mem_singleton.1 e];exact g2
 |false =>
  rw[q2,cond_false]at hx
  cases q4:(xs.getD v.toNat dK).1==4 with
  |true =>
   obtain⟨g1,g2⟩:=h (.inr (.inr (by simpa using q4)))
   rw[q4,cond_true]at hx
   rw[List.mem_singleton.1 hx];exact g1
  |false =>
   rw[q4,cond_false]at hx
   cases q3:(xs.getD v.toNat dK).1==3 with
   |true =>
    obtain⟨g1,g2⟩:=h (.inr (.inl (by simpa using q3)))
    rw[q3,cond_true]at hx
    cases qf:fB F (xs.getD v.toNat dK).2.2 with
    |true =>
     rw[qf,cond_true]at hx
     rw[List.mem_singleton.1 hx];exact g1
    |false =>
     rw[qf,cond_false]at hx
     cases hx
   |false =>
    rw[q3,cond_false]at hx
    cases hx
theorem Gl{xs:List ac}(hp:cJ xs=true){F:List Bool}:∀{r:List Int},Ks xs r→Ks xs (zN xs F r)
 |[],_=>fun x hx=>by cases hx
 |v::r,h=>fun x hx=>by
  rw[zN]at hx
  rcases List.mem_append.1 hx with e|e
  ·exact KT hp (h v (List.mem_cons_self ..)).1 (h v (List.mem_cons_self ..)).2 x e
  ·exact Gl hp (fun y hy=>h y (List.mem_cons_of_mem _ hy)) x e
theorem yk{xs:List ac}(hp:cJ xs=true){kn:List Int}{F:List Bool}(hF:F.length=xs.length):∀(r pre out:List Int) (m:Nat),r.length<m→pre.length+r.length≤1000→out.length+2*r.length≤100000→Ks xs r→am N0 m (xs,kn,F,out,pre++r,((pre++r).length:Int),(pre.length:Int))=some (xs,kn,out++zN xs F r)
 |[],pre,out,m,hm,hl,ho,hk=>by
  obtain⟨i,rfl⟩:∃i,m=i+1:=⟨m-1,by omega⟩
  rw[am]
  dsimp only
  rw[wL,cond_false,zN,List.append_nil]
 |v::r,pre,out,m,hm,hl,ho,hk=>by
  obtain⟨i,rfl⟩:∃i,m=i+1:=⟨m-1,by omega⟩
  have hl':pre.length+(r.length+1)≤1000:=hl
  have hm':r.length+1<i+1:=hm
  have ho':out.length+2*(r.length+1)≤100000:=ho
  have w:IntKind.i64.wrap ((pre.length:Int)+1)=((pre++[v]).length:Int):=by rw[cC (by omega) (by omega),sW]
  obtain⟨v0,v1⟩:=hk v (List.mem_cons_self ..)
  have h2:=CF hp v0 v1
  have go:∀out',out'.length+2*r.length≤100000→am N0 i (xs,kn,F,out',pre++v::r,((pre++v::r).length:Int),((pre++[v]).length:Int))=some (xs,kn,out'++zN xs F r):=fun out' h=>by
   rw[tF]
   exact yk hp hF r (pre++[v]) out' i (by omega) (by simp;omega) h (fun y hy=>hk y (List.mem_cons_of_mem _ hy))
  have e0:xs.getD v.toNat ((0:Int),((0:Int),(0:Int)))=xs.getD v.toNat dK:=rfl
  rw[am]
  dsimp only
  rw[wK,cond_true,wY,Int.toNat_natCast,tc,cond_true,w,nh v0 v1,cond_true,e0,zN]
  unfold KU
  cases q2:(xs.getD v.toNat dK).1==2 with
  |true =>
   simp only[cond_true,sH (show out.length+[(xs.getD v.toNat dK).2.1,(xs.getD v.toNat dK).2.2].length≤4294967296 by simp;omega)]
   rw[go _ (by simp;omega),List.append_assoc]
  |false =>
   cases q4:(xs.getD v.toNat dK).1==4 with
   |true =>
    simp only[cond_true,cond_false,sH (show out.length+[(xs.getD v.toNat dK).2.1].length≤4294967296 by simp;omega)]
    rw[go _ (by simp;omega),List.append_assoc]
   |false =>
    cases q3:(xs.getD v.toNat dK).1==3 with
    |true =>
     obtain⟨g1,g2⟩:=h2 (.inr (.inl (by simpa using q3)))
     have ef:F.getD (xs.getD v.toNat dK).2.2.toNat false=fB F (xs.getD v.toNat dK).2.2:=rfl
     simp only[cond_true,cond_false,nh g2.1 (show(xs.getD v.toNat dK).2.2<(F.length:Int)by rw[hF];exact g2.2),ef]
     cases qf:fB F (xs.getD v.toNat dK).2.2 with
     |true =>
      simp only[cond_true,sH (show out.length+[(xs.getD v.toNat dK).2.1].length≤4294967296 by simp;omega)]
      rw[go _ (by simp;omega),List.append_assoc]
     |false =>
      simp only[cond_false]
      rw[go _ (by omega)];rfl
    |false =>
     simp only[cond_false]
     rw[go _ (by omega)];rfl
theorem BP{x:Int}:∀{l kn:List Int},x∈l.foldl qJ kn↔x∈kn∨x∈l
 |[],kn=>by simp
 |v::r,kn=>by
  rw[List.foldl_cons,BP,Ge,List.mem_cons]
  constructor
  ·rintro ((e|e)|e)
   ·exact .inr (.inl e)
   ·exact .inl e
   ·exact .inr (.inr e)
  ·rintro (e|e|e)
   ·exact .inl (.inr e)
   ·exact .inl (.inl e)
   ·exact .inr e
theorem BQ:∀{l kn:List Int},kn.Pairwise (·<·)→(l.foldl qJ kn).Pairwise (·<·)
 |[],kn,h=>h
 |v::r,kn,h=>BQ (l:=r) (kn:=qJ kn v) (Gf h v)
theorem yj{xs:List ac}(hp:cJ xs=true){F:List Bool}(hF:F.length=xs.length):∀(r pre out:List Int) (m:Nat),r.length<m→pre.length+r.length≤1000→out.length+2*r.length≤800→Ks xs r→bg N0 m (pre++r,xs,F,out,(pre.length:Int))=some ((zN xs F r).foldl qJ out)
 |[],pre,out,m,hm,hl,ho,hk=>by
  obtain⟨i,rfl⟩:∃i,m=i+1:=⟨m-1,by omega⟩
  rw[bg]
  dsimp only
  rw[wL,cond_false];rfl
 |v::r,pre,out,m,hm,hl,ho,hk=>by
  obtain⟨i,rfl⟩:∃i,m=i+1:=⟨m-1,by omega⟩
  have hl':pre.length+(r.length+1)≤1000:=hl
  have hm':r.length+1<i+1:=hm
  have ho':out.length+2*(r.length+1)≤800:=ho
  have w:IntKind.i64.wrap ((pre.length:Int)+1)=((pre++[v]).length:Int):=by rw[cC (by omega) (by omega),sW]
  obtain⟨v0,v1⟩:=hk v (List.mem_cons_self ..)
  have h2:=CF hp v0 v1
  have go:∀out',out'.length+2*r.length≤800→bg N0 i (pre++v::r,xs,F,out',((pre++[v]).length:Int))=some ((zN xs F r).foldl qJ out'):=fun out' h=>by
   rw[tF]
   exact yj hp hF r (pre++[v]) out' i (by omega) (by simp;omega) h (fun y hy=>hk y (List.mem_cons_of_mem _ hy))
  have e0:xs.getD v.toNat ((0:Int),((0:Int),(0:Int)))=xs.getD v.toNat dK:=rfl
  have l1:=A6 out (xs.getD v.toNat dK).2.1
  have l2:=A6 (qJ out (xs.getD v.toNat dK).2.1) (xs.getD v.toNat dK).2.2
  rw[bg]
  dsimp only
  unfold js
  dsimp only
  rw[wK,cond_true,wY,Int.toNat_natCast,tc,cond_true,nh v0 v1,cond_true,e0,zN,List.foldl_append,Option.bind_some]
  dsimp only
  rw[w]
  unfold KU
  cases q2:(xs.getD v.toNat dK).1==2 with
  |true =>
   simp only[cond_true,vK (show out.length≤900 by omega),vK (show(qJ out (xs.getD v.toNat dK).2.1).length≤900 by omega),Option.bind_some]
   rw[go _ (by omega)];rfl
  |false =>
   cases q4:(xs.getD v.toNat dK).1==4 with
   |true =>
    simp only[cond_true,cond_false,vK (show out.length≤900 by omega),Option.bind_some]
    rw[go _ (by omega)];rfl
   |false =>
    cases q3:(xs.getD v.toNat dK).1==3 with
    |true =>
     obtain⟨g1,g2⟩:=h2 (.inr (.inl (by simpa using q3)))
     have ef:F.getD (xs.getD v.toNat dK).2.2.toNat false=fB F (xs.getD v.toNat dK).2.2:=rfl
     simp only[cond_true,cond_false,nh g2.1 (show(xs.getD v.toNat dK).2.2<(F.length:Int)by rw[hF];exact g2.2),ef]
     cases qf:fB F (xs.getD v.toNat dK).2.2 with
     |true =>
      simp only[cond_true,vK (show out.length≤900 by omega),Option.bind_some]
      rw[go _ (by omega)];rfl
     |false =>
      simp only[cond_false]
      rw[go _ (by omega)];rfl
    |false =>
     simp only[cond_false]
     rw[go _ (by omega)];rfl
structure Kr (xs:List ac) (kn:List Int):Prop where
 pool:cJ xs=true
 len:kn.length≤200
 asc:kn.Pairwise (·<·)
 mem:Ks xs kn
def vM (xs:List ac) (kn:List Int):List Int:=Jd (kn++zN xs (iE xs kn) kn)
theorem Gk{xs:List ac}{kn:List Int}(h:Kr xs kn):vM xs kn=(zN xs (iE xs kn) kn).foldl qJ kn :=
 Ec (zL _) (BQ h.asc) fun x=>by rw[vM,zK,BP,List.mem_append]
theorem EU{xs:List ac}{kn:List Int}(h:Kr xs kn) :
  eG N0 (xs,kn)=some (xs,bif decide (((vM xs kn).length:Int)>200)then kn else vM xs kn)∧lb N0 (xs,kn)=some (vM xs kn,decide (((vM xs kn).length:Int)≤200))∧((vM xs kn).length≤200→Kr xs (vM xs kn))∧kn.length≤(vM xs kn).length∧(kn.length=(vM xs kn).length→kn=vM xs kn):=by
 have hl:=h.len
 have hF:(iE xs kn).length=xs.length:=pC xs kn _
 have ha:=Ar h.asc (zL (kn++zN xs (iE xs kn) kn)) (fun x hx=>zK x |>.2 (List.mem_append_left _ hx))
 have hoL:=DA xs (iE xs kn) kn
 refine⟨?_,?_,fun hl2=>⟨h.pool,hl2,zL _,fun x hx=>?_⟩,ha.1,ha.2⟩
 ·have e:=yk h.pool (kn:=kn) hF kn [] kn N0 (by have:=n0;omega) (by simpa using(by omega:kn.length≤1000)) (by omega) h.mem
  have e':am N0 N0 (xs,kn,iE xs kn,kn,kn,(kn.length:Int),(0:Int))=_:=e
  have hc:eU kn=some kn:=by
   unfold eU
   rw[decide_eq_true (show kn.length≤4294967296 by omega)];rfl
  have hlen:(kn++zN xs (iE xs kn) kn).length≤4294967296:=by rw[List.length_append];omega
  have hs:lh (kn++zN xs (iE xs kn) kn)=some ((kn++zN xs (iE xs kn) kn).mergeSort fun a b=>decide (a≤b)):=if_pos hlen
  have hcm:gX ((kn++zN xs (iE xs kn) kn).mergeSort fun a b=>decide (a≤b))=some (vM xs kn):=if_pos (by rw[List.length_mergeSort];exact hlen)
  have hcl:m7 (vM xs kn)=some (vM xs kn):=rfl
  unfold eG
  dsimp only
  simp only[Bw h.pool (show kn.length≤900 by omega) h.mem,Option.bind_some,hc,e',hs,hcm,hcl]
  cases decide (((vM xs kn).length:Int)>200)<;>rfl
 ·have e:=yj h.pool hF kn [] kn N0 (by have:=n0;omega) (by simpa using(by omega:kn.length≤1000)) (by omega) h.mem
  have e':bg N0 N0 (kn,xs,iE xs kn,kn,(0:Int))=_:=e
  unfold lb
  dsimp only
  rw[BB h.pool (show kn.length≤4294967296 by omega),Option.bind_some,sH (show([]:List Int).length+kn.length≤4294967296 by simp;omega),cond_true,List.nil_append,e',Option.bind_some,Gk h]
 ·rcases List.mem_append.1 ((zK x).1 hx)with q|q
  ·exact h.mem x q
  ·exact Gl h.pool h.mem x q
theorem Bi{xs:List ac}:∀(d:Nat) (kn:List Int) (c1 c2:Int) (m1 m2:Nat),200-kn.length≤d→d<m1→d<m2→Kr xs kn→∃kn' c1' c2',bu N0 m1 (xs,kn,c1)=some (xs,kn',c1')∧cZ N0 m2 (xs,kn,c2)=some (kn',c2')∧Kr xs kn'
 |d,kn,c1,c2,m1,m2,hd,h1,h2,hk=>by
  obtain⟨i,rfl⟩:∃i,m1=i+1:=⟨m1-1,by omega⟩
  obtain⟨j,rfl⟩:∃j,m2=j+1:=⟨m2-1,by omega⟩
  obtain⟨e1,e2,e3,e4,e5⟩:=EU hk
  have hl:=hk.len
  rw[bu,cZ]
  dsimp only
  rw[e1,e2,Option.bind_some,Option.bind_some]
  dsimp only
  by_cases q:(vM xs kn).length≤200
  ·rw[decide_eq_false (show ¬((vM xs kn).length:Int)>200 by omega),decide_eq_true (show((vM xs kn).length:Int)≤200 by omega),cond_false,Bool.not_true,cond_false]
   by_cases q2:(vM xs kn).length=kn.length
   ·have:=e5 q2.symm
    have hb:(((vM xs kn).length:Int)==(kn.length:Int))=true:=by rw[q2];exact beq_self_eq_true _
    rw[hb,cond_true,cond_true]
    exact⟨kn,c1,c2,by rw[←this],rfl,hk⟩
   ·have hb:(((vM xs kn).length:Int)==(kn.length:Int))=false:=by rw[beq_eq_false_iff_ne];omega
    rw[hb,cond_false,cond_false]
    match d,hd with
    |0,hd=>omega
    |d+1,hd=>exact Bi d (vM xs kn) _ _ i j (by omega) (by omega) (by omega) (e3 q)
  ·rw[decide_eq_true (show((vM xs kn).length:Int)>200 by omega),decide_eq_false (show ¬((vM xs kn).length:Int)≤200 by omega),cond_true,Bool.not_false,cond_true,beq_self_eq_true,cond_true]
   exact⟨kn,c1,c2,rfl,rfl,hk⟩
theorem BX{xs:List ac}{kn:List Int}(h:Kr xs kn):∃kn' c,Kr xs kn'∧eZ N0 (xs,kn)=some (xs,iE xs kn')∧ml N0 (xs,kn)=some (kn',c)∧iZ N0 (xs,kn')=some (iE xs kn'):=by
 have hl:=h.len
 obtain⟨kn',c1,c2,e1,e2,e3⟩:=Bi 200 kn 0 0 N0 N0 (by omega) (by have:=n0;omega) (by have:=n0;omega) h
 have hl':=e3.len
 refine⟨kn',c2,e3,?_,?_,BB h.pool (by omega)⟩
 ·unfold eZ gI
  dsimp only
  rw[e1]
  simp only[Option.bind_some,Bw h.pool (show kn'.length≤900 by omega) e3.mem]
 ·unfold ml
  dsimp only
  rw[sH (show([]:List Int).length+kn.length≤4294967296 by simp;omega),cond_true,List.nil_append,e2];rfl
section
variable{xs:List ac}{kn:List Int}{li:List cg}{fr:Int}{gv sh:List Int}{lg:List bU}{k:Int}
theorem Eo (hw:ch xs kn li fr gv sh lg=true):Kr xs kn:=by
 unfold ch rn at hw
 simp only[Bool.and_eq_true]at hw
 obtain⟨⟨h1,h2,h3⟩,_⟩:=hw
 rw[cK]at h1
 refine⟨h3,of_decide_eq_true h2,Ih (fun u hu=>?_),fun x hx=>?_⟩
 ·have:=h1 u (Nat.zero_le _) (by omega)
  unfold gY at this
  rw[Bool.and_eq_true]at this
  exact this.2
 ·obtain⟨j,hj,e⟩:=List.getElem_of_mem hx
  have:=h1 j (Nat.zero_le _) (by omega)
  unfold gY gM at this
  rw[Bool.and_eq_true,Bool.and_eq_true,decide_eq_true_iff,decide_eq_true_iff,List.getD_eq_getElem?_getD,List.getElem?_eq_getElem hj,Option.getD_some,e]at this
  omega
theorem ze (hw:ch xs kn li fr gv sh lg=true){c:bU}(hc:jV lg k=some c):gK li k=true:=by
 obtain⟨j,_,h2,h3⟩:=oQ lg k _ 0 hc
 unfold ch at hw
 simp only[Bool.and_eq_true]at hw
 have hl:=hw.2.2.2.2.2.2.2.2.1
 rw[cK]at hl
 have:=hl j (Nat.zero_le _) h2
 unfold qL at this
 rw[Bool.and_eq_true,h3]at this
 exact this.1
def xG (li:List cg) (gv sh:List Int) (lg:List bU) (k:Int):Bool:=gN li lg k&&(!mh li sh k&&((li.getD k.toNat zI).1==1 || (!gg gv (li.getD k.toNat zI).2.2.1 && !gg gv (li.getD k.toNat zI).2.2.2.1)))
theorem F6 (hw:ch xs kn li fr gv sh lg=true) (h:xG li gv sh lg k=true):gK li k=true:=by
 unfold xG at h
 rw[Bool.and_eq_true]at h
 have ht:=h.1
 unfold gN at ht
 cases hc:jV lg k with
 |none=>rw[hc]at ht;cases ht
 |some c=>exact ze hw hc
theorem F5 (hs:Small xs kn li gv sh lg) (hw:ch xs kn li fr gv sh lg=true):eW N0 (xs,kn,li,fr,gv,sh,lg,k)=some (xs,kn,li,fr,gv,sh,lg,xG li gv sh lg k)∧gQ N0 (xs,kn,li,fr,gv,sh,lg,k)=some (xG li gv sh lg k):=by
 rw[eW,gQ];dsimp only
 rw[jQ hs hw,mr hs hw]
 simp only[Option.bind_some]
 unfold xG
 cases ht:gN li lg k with
 |false=>exact⟨rfl,rfl⟩
 |true =>
  have hk:eL (li.length:Int) k=true:=by
   unfold gN at ht
   cases hc:jV lg k with
   |none=>rw[hc]at ht;cases ht
   |some c=>exact pn hw hc
  simp only[Bool.not_true,cond_false,zZ hs hw,zq hs hw,Option.bind_some,cond_true]
  cases mh li sh k with
  |true=>exact⟨rfl,rfl⟩
  |false =>
   simp only[cond_false,ei hk,cond_true,GU hs.fg,mA hs.fg,Option.bind_some]
   cases((li.getD k.toNat zI).1==(1:Int))with
   |true=>exact⟨rfl,rfl⟩
   |false =>
    cases gg gv (li.getD k.toNat zI).2.2.1 with
    |true=>exact⟨rfl,rfl⟩
    |false=>exact⟨rfl,rfl⟩
def AS (F:List Bool) (li:List cg) (gv sh:List Int) (lg:List bU) (i:Nat):Bool := !xG li gv sh lg (i:Int) || !fB F (li.getD i zI).2.2.2.2.2.2.2.2
theorem IZ (hs:Small xs kn li gv sh lg) (hw:ch xs kn li fr gv sh lg=true){i:Nat}(hi:i<li.length) (h:xG li gv sh lg (i:Int)=true):gM xs (li.getD i zI).2.2.2.2.2.2.2.2=true:=by
 have hd:=F6 hw h
 unfold gK at hd
 rw[Bool.and_eq_true,Int.toNat_natCast]at hd
 exact(rE hs hw hi).key hd.2
theorem xN (hs:Small xs kn li gv sh lg):∃v,fJ N0 (xs,kn,li,fr,gv,sh,lg)=some v∧fw N0 (xs,kn,li,fr,gv,sh,lg)=some v:=by
 have hli:=hs.fl
 rw[fJ,fw];dsimp only
 rw[(kp hs).1,(kp hs).2]
 simp only[Option.bind_some]
 cases hw:ch xs kn li fr gv sh lg with
 |false=>exact⟨false,rfl,rfl⟩
 |true =>
  obtain⟨kn',c,h1,h2,h3,h4⟩:=BX (Eo hw)
  rw[h2,h3]
  simp only[Bool.not_true,cond_false,Option.bind_some,h4]
  generalize hF:iE xs kn'=F
  have hFl:F.length=xs.length:=by rw[←hF];exact pC xs kn' _
  have hin:∀i,i<li.length→xG li gv sh lg (i:Int)=true→aY (li.getD i zI).2.2.2.2.2.2.2.2 F.length=true:=fun i hi hc=>by
   have:=IZ hs hw hi hc
   unfold gM at this
   rw[Bool.and_eq_true,decide_eq_true_iff,decide_eq_true_iff]at this
   exact nh this.1 (by rw[hFl];omega)
  have ez:∀i:Nat,li.getD i ((0:Int),((0:Int),((0:Int),((0:Int),((0:Int),(([]:List Int),(false,(false,(0:Int)))))))))=li.getD i zI:=fun _=>rfl
  have ef:∀v:Int,F.getD v.toNat false=fB F v:=fun _=>rfl
  have g1:=bE (aW N0) (fun i=>(xs,kn,li,fr,gv,sh,lg,F,li,(li.length:Int),(i:Int))) (AS F li gv sh lg) false () li.length (fun m i hi=>by
   rw[aW];dsimp only
   rw[gV hi,cond_true,ax hi,cond_true,(F5 (k:=(i:Int)) hs hw).1]
   simp only[Option.bind_some,ap hi hli,Int.toNat_natCast,ez,ef]
   unfold AS
   cases hc:xG li gv sh lg (i:Int)with
   |false=>rfl
   |true =>
    rw[cond_true,hin i hi hc,cond_true]
    cases fB F (li.getD i zI).2.2.2.2.2.2.2.2<;>rfl) (fun m=>by
   rw[aW];dsimp only;rw[gW];rfl) N0 0 (Nat.zero_le _) (by have:=n0;omega)
  have g2:=bE (aS N0) (fun i=>(xs,kn,li,fr,gv,sh,lg,F,(i:Int))) (AS F li gv sh lg) false () li.length (fun m i hi=>by
   rw[aS];dsimp only
   rw[gV hi,cond_true,ax hi,(F5 (k:=(i:Int)) hs hw).2]
   simp only[Option.bind_some,ap hi hli,Int.toNat_natCast,ez,ef]
   unfold AS
   cases hc:xG li gv sh lg (i:Int)with
   |false=>rfl
   |true =>
    rw[cond_true,cond_true,hin i hi hc,cond_true]
    cases fB F (li.getD i zI).2.2.2.2.2.2.2.2<;>rfl) (fun m=>by
   rw[aS];dsimp only;rw[gW];rfl) N0 0 (Nat.zero_le _) (by have:=n0;omega)
  rw[Nat.sub_zero]at g1 g2
  have g1':aW N0 N0 (xs,kn,li,fr,gv,sh,lg,F,li,(li.length:Int),(0:Int))=_:=g1
  have g2':aS N0 N0 (xs,kn,li,fr,gv,sh,lg,F,(0:Int))=_:=g2
  rw[g1',g2']
  cases bA (AS F li gv sh lg) 0 li.length with
  |true=>exact⟨true,rfl,rfl⟩
  |false=>exact⟨false,rfl,rfl⟩
end
section
variable{xs:List ac}{kn:List Int}{li:List cg}{fr:Int}{gv sh:List Int}{lg:List bU}
theorem xO (hs:Small xs kn li gv sh lg):∃v,iS N0 (xs,kn,li,fr,gv,sh,lg)=some v∧iL N0 (xs,kn,li,fr,gv,sh,lg)=some v:=by
 obtain⟨v,e1,e2⟩:=xN (fr:=fr) hs
 rw[iS,iL];dsimp only
 rw[e1,e2]
 cases v with
 |false=>exact⟨false,rfl,rfl⟩
 |true =>
  simp only[Option.bind_some,cond_true,z9 hs,zv hs]
  cases(ch xs kn li fr gv sh lg&&bA (mf xs li lg) 0 li.length)with
  |false=>exact⟨false,rfl,rfl⟩
  |true =>
   simp only[Option.bind_some,cond_true,z7 hs,zt hs]
   exact⟨_,rfl,rfl⟩
theorem zV (hb:VF xs kn li gv sh lg):cV N0 (xs,kn,li,fr,gv,sh,lg)=some true:=by
 obtain⟨q,h1,h2⟩:=Cn (fr:=fr) hb
 rw[cV];dsimp only
 rw[h1]
 simp only[Option.bind_some]
 rcases h2 with h2|⟨h2,hs⟩
 ·rw[decide_eq_true h2];rfl
 ·obtain⟨v,e1,e2⟩:=xO (fr:=fr) hs
  rw[decide_eq_false (by omega:¬q<0),cond_false]
  simp only[Ck hs,Option.bind_some,e1,e2,bne_self_eq_false,cond_false,Af hs,Bool.not_true]
end
theorem vz (x:TD (bD (aB 0 (S3 0).pars))) (hx:IF _ x):cV N0 x=some true:=by
 obtain⟨xs,kn,li,fr,gv,sh,lg⟩:=x
 exact zV (Lv (hx ⟨_,xs⟩ (.head _)) (hx ⟨_,kn⟩ (.tail _ (.head _))) (hx ⟨_,li⟩ (.tail _ (.tail _ (.head _)))) (hx ⟨_,gv⟩ (.tail _ (.tail _ (.tail _ (.tail _ (.head _)))))) (hx ⟨_,sh⟩ (.tail _ (.tail _ (.tail _ (.tail _ (.tail _ (.head _))))))) (hx ⟨_,lg⟩ (.tail _ (.tail _ (.tail _ (.tail _ (.tail _ (.tail _ (.head _)))))))))
end AM
end Go.Proofs.YtlkgapiohfgenaaGreatDoor
