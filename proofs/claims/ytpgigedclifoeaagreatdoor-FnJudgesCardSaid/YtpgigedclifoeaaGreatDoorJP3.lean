/- How far an instance goes, by the reference alone. Condition: the instance is right. And what follows it: see the remarks. -/
import Derived.Test.YtpgigedclifoeaaGreatDoorJP2
import Derived.Test.YtpgigedclifoeaaGreatDoorJALd
import Derived.Lib.AtoiAll
import Derived.Lib.IndexMore
import Derived.Lib.ItoaNum
import Derived.Lib.Split
import Derived.Lib.AtoiAllCases
import Derived.Lib.SlicesCompact
import Derived.Test.YtpgigedclifoeaaGreatDoorRows
import Derived.Test.YtpgigedclifoeaaGreatDoorJALo
import Derived.ProofKit
import Derived.OpenShut
import Derived.Deep.DeepHandedRow
import Derived.Shelf.Vars
import Derived.Stop.LaidErr
import Derived.LaidLaws
namespace Go.Proofs.YtpgigedclifoeaaGreatDoor
namespace AM
open Go
set_option linter.unusedVariables false
set_option linter.unusedSimpArgs false
def FI (n:Int):Int:=(ir N0 n).getD 0
theorem M7 (n:Int):ir N0 n=some (FI n):=by
 unfold FI ir
 rw[rK]
 simp only[Option.bind_some]
 cases(decide (n≥0)&&decide (n≤99))<;>rfl
structure Tk (xs:List ab) (at_ key:Int) (out:List Int) (rs:Option (GoT⊕(Int×List ab×Int×Int×Int×Int×Int×List Int×Bool×Bool×Int×List ab×Int×Int×Int×Int×Int×List Int×Bool×Bool×Int×List Int))) (w p a b:Int):Prop where
 ex:∃es ys at' env' d' dd' key' out' nx,rs=some es∧goS es=(ys,w,p,a,b,at',env',d',dd',key',out',nx)∧uY xs at_ key out ys at' env' d' dd' key' out'
theorem xY{w p a b:Int}(hw:w=1∨w=2∨w=3) (hs:p=0∨p=1):∀(k:Nat) (at_:Int) (env:List Int) (key nx:Int) (xs:List ab) (out:List Int) (m2:Nat),at_+(k:Int)=5→0≤at_→aF xs=true→env.length=26→fC xs env=true→(at_=5→ci xs key=true)→out.length+k≤5→k<m2 →
  Tk xs at_ key out (aG N0 m2 (nx,xs,w,p,a,b,at_,env,(at_==5),false,key,[],(0:Int),(0:Int),(0:Int),(0:Int),(0:Int),[],false,false,(0:Int),out,tA w p)) w p a b
 |k,at_,env,key,nx,xs,out,0,h0,h1,hp,he,hv,hky,ho,hm2=>by omega
 |0,at_,env,key,nx,xs,out,m2+1,h0,h1,hp,he,hv,hky,ho,hm2=>by
  have e5:at_=5:=by omega
  subst e5
  have hl:=aX hp
  refine⟨_,xs,5,env,true,false,key,out,nx,rfl,rfl,hp,he,by omega,hv,⟨[],by simp⟩,Int.le_refl _,Int.le_refl _,rfl,fun _=>⟨rfl,hky rfl⟩,fun q=>(by cases q),fun v h => .inl h⟩
 |k+1,at_,env,key,nx,xs,out,m2+1,h0,h1,hp,he,hv,hky,ho,hm2=>by
  have hl:=aX hp
  have c5:(at_==5)=false:=by rw[beq_eq_false_iff_ne];omega
  have hin:aI at_ 5=true:=by
   have e:at_=((at_.toNat:Nat):Int):=by omega
   rw[e];exact ar (by omega)
  obtain⟨_,_,r3⟩:=sC hw hs
  obtain⟨hA,hact⟩:=E8 hw hs (i:=at_.toNat) (by omega) _ rfl
  have w1:IntKind.i64.wrap (at_+1)=at_+1:=au (by omega) (by omega)
  have rm:∀t:Int,aO (out.length+[t].length)=true:=fun t=>by
   unfold aO
   rw[List.length_singleton]
   simp
   omega
  revert hA hact
  generalize hAA:(tA w p).getD at_.toNat ((0:Int),(⟨#[]⟩:ByteArray))=A
  intro hA hact
  rw[c5]
  rcases hact with⟨k1,s1,s2,s3⟩|⟨k1,_⟩|⟨k1,P,hP,hAs⟩
  ·have k1':(A.1==1)=true:=by rw[k1];rfl
   have k3':(A.1==3)=false:=by rw[k1];rfl
   have k4':(A.1==4)=false:=by rw[k1];rfl
   have k2':(A.1==2)=false:=by rw[k1];rfl
   have n4:at_.toNat≠4:=fun q=>by have:=hA.2 q;omega
   have c6:(at_+1==5)=false:=by rw[beq_eq_false_iff_ne];omega
   have f2:=M7 nx
   have nS:=lK hp (FI nx)
   cases hq:jh xs 1 (FI nx) 0 with
   |none =>
    rw[hq]at nS
    refine⟨.inl (xs,w,p,a,b,at_,env,false,true,key,out,nx),xs,at_,env,false,true,key,out,nx,?_,rfl,uY.stay (by omega) hp he hv (by omega)⟩
    rw[aG];dsimp only
    simp only[l6,gf,jJ,r3,hin,hAA,k1',k2',k3',k4',f2,nS,lu,Bool.not_false,Bool.not_true,cond_true,cond_false,Option.bind_some,show decide ((-1:Int)<0)=true from rfl,show decide ((-1:Int)≥0)=false from rfl]
   |some s =>
    obtain⟨ys,t⟩:=s
    rw[hq]at nS
    obtain⟨⟨g1,g2,zs,g3⟩,g4⟩:=fD hp hq
    have tb:ci ys t=true:=dY.2 ⟨g2,g4⟩
    obtain⟨u1,u2⟩:=l97 s2 s3
    have ib:aI (bt A.2 0-97) env.length=true:=zW he (by omega) (by omega)
    have sz:aI (0:Int) A.2.size=true:=by rw[s1];rfl
    have tn:decide (t<0)=false:=decide_eq_false (by omega)
    have tp:decide (t≥0)=true:=decide_eq_true (by omega)
    have ih:=xY (a:=a) (b:=b) hw hs k (at_+1) (env.set (bt A.2 0-97).toNat t) key (IntKind.i64.wrap (nx+1)) ys out m2 (by omega) (by omega) g1 (by rw[List.length_set];exact he) (uS tb _ (by rw[g3];exact nI hv)) (fun q=>by omega) (by omega) (by omega)
    rw[c6]at ih
    obtain⟨es,zs2,at',env',d',dd',key',out',nx',q2,q4,q5⟩:=ih
    refine⟨es,zs2,at',env',d',dd',key',out',nx',?_,q4,q5.go ⟨zs,g3⟩ (.inl rfl) (fun v h => .inl h)⟩
    rw[aG];dsimp only
    simp only[l6,gf,jJ,r3,hin,hAA,k1',k2',k3',k4',f2,nS,lu,Bool.not_false,Bool.not_true,cond_true,cond_false,Option.bind_some,tn,tp,sz,u2,ib,w1,q2]
  ·have k1':(A.1==1)=false:=by rw[k1];rfl
   have k3':(A.1==3)=true:=by rw[k1];rfl
   refine⟨.inl (xs,w,p,a,b,at_,env,false,false,key,out,nx),xs,at_,env,false,false,key,out,nx,?_,rfl,uY.stay (by omega) hp he hv (by omega)⟩
   rw[aG];dsimp only
   simp only[jJ,r3,hin,hAA,k1',k3',Bool.not_false,Bool.not_true,cond_true,cond_false,Option.bind_some]
  ·have k1':(A.1==1)=false:=by rcases k1 with e|e<;>rw[e]<;>rfl
   have k3':(A.1==3)=false:=by rcases k1 with e|e<;>rw[e]<;>rfl
   obtain⟨l2,ys,t,e1,e2,e3,e4⟩:=Cb hP hp he hv
   have w2:IntKind.i64.wrap ((l2.length:Int)-1)=(l2.length:Int)-1:=au (by omega) (by omega)
   have mo:dw N0 N0 (xs,env,l2,(l2.length:Int)-1)=some (env,ys,t):=by
    rw[re,e3];rfl
   cases hq:mk env P xs with
   |none =>
    rw[hq]at e4
    have e4:t=-1:=e4
    subst e4
    refine⟨.inl (xs,w,p,a,b,at_,env,false,true,key,out,nx),xs,at_,env,false,true,key,out,nx,?_,rfl,uY.stay (by omega) hp he hv (by omega)⟩
    rw[aG];dsimp only
    simp only[gf,r3,hin,hAA,k1',k3',e1,w2,mo,Bool.not_false,Bool.not_true,cond_true,cond_false,Option.bind_some,show decide ((-1:Int)<0)=true from rfl]
   |some s =>
    rw[hq]at e4
    have e4:(ys,t)=s:=e4
    subst e4
    obtain⟨g1,g2,zs,g3⟩:=dq hp hq
    have tn:decide (t<0)=false:=decide_eq_false (by omega)
    have tp:decide (t≥0)=true:=decide_eq_true (by omega)
    have hv':fC ys env=true:=by rw[g3];exact nI hv
    rcases k1 with k1|k1
    ·have k4':(A.1==4)=false:=by rw[k1];rfl
     have k2':(A.1==2)=true:=by rw[k1];rfl
     have n4:at_.toNat≠4:=fun q=>by have:=hA.2 q;omega
     have c6:(at_+1==5)=false:=by rw[beq_eq_false_iff_ne];omega
     have ih:=xY (a:=a) (b:=b) hw hs k (at_+1) env key nx ys (out++[t]) m2 (by omega) (by omega) g1 he hv' (fun q=>by omega) (by rw[List.length_append,List.length_singleton];omega) (by omega)
     rw[c6]at ih
     obtain⟨es,zs2,at',env',d',dd',key',out',nx',q2,q4,q5⟩:=ih
     refine⟨es,zs2,at',env',d',dd',key',out',nx',?_,q4,q5.go ⟨zs,g3⟩ (.inl rfl) (fun v h=>(List.mem_append.1 h).imp id (fun h=>by rw[List.mem_singleton.1 h];exact SE hP.fine hp he hv hq))⟩
     rw[aG];dsimp only
     simp only[r3,hin,hAA,k1',k2',k3',k4',e1,w2,mo,Bool.not_false,Bool.not_true,cond_true,cond_false,Option.bind_some,tn,tp,w1,rm t,q2]
    ·have k4':(A.1==4)=true:=by rw[k1];rfl
     have k2':(A.1==2)=false:=by rw[k1];rfl
     have n4:at_.toNat=4:=hA.1 k1
     have c6:(at_+1==5)=true:=by rw[beq_iff_eq];omega
     have ih:=xY (a:=a) (b:=b) hw hs k (at_+1) env t nx ys out m2 (by omega) (by omega) g1 he hv' (fun _=>SE hP.fine hp he hv hq) (by omega) (by omega)
     rw[c6]at ih
     obtain⟨es,zs2,at',env',d',dd',key',out',nx',q2,q4,q5⟩:=ih
     refine⟨es,zs2,at',env',d',dd',key',out',nx',?_,q4,q5.go ⟨zs,g3⟩ (.inr (by omega)) (fun v h => .inl h)⟩
     rw[aG];dsimp only
     simp only[r3,hin,hAA,k1',k2',k3',k4',e1,w2,mo,Bool.not_false,Bool.not_true,cond_true,cond_false,Option.bind_some,tn,w1,q2]
theorem Pb{xs:List ab}{w p a b at_:Int}{env:List Int}{d dd:Bool}{key nx:Int}(hx:xs.length≤4294967296) (he:env.length≤4294967296) (hv:kZ xs (w,p,a,b,at_,env,d,dd,key)=true) :
  ∃ys at' env' d' dd' key' out' nx',nj N0 (xs,w,p,a,b,at_,env,d,dd,key,nx)=some (ys,w,p,a,b,at',env',d',dd',key',out',nx')∧kZ ys (w,p,a,b,at',env',d',dd',key')=true∧uY xs at_ key [] ys at' env' d' dd' key' out':=by
 have hg:=FF hx (x:=(w,p,a,b,at_,env,d,dd,key)) he hv
 have g1:w=1∨w=2∨w=3:=hg.way
 have g2:p=0∨p=1:=hg.side
 have g3:fC xs env=true:=hg.env
 have g4:env.length=26:=hg.len
 have g5:0≤at_∧at_≤5:=hg.at0
 have g6:d=(at_==5):=hg.done
 have hp:=hg.pool
 obtain⟨r1,r2,r3⟩:=sC g1 g2
 have cl:=JX (w:=w) (p:=p) (a:=a) (b:=b) (at_:=at_) (d:=d) (dd:=dd) (key:=key) he
 have hsz:=aX hp
 have ends:Tk xs at_ key [] (aG N0 N0 (nx,xs,w,p,a,b,at_,env,d,dd,key,[],(0:Int),(0:Int),(0:Int),(0:Int),(0:Int),[],false,false,(0:Int),[],tA w p)) w p a b:=by
  cases dd with
  |true =>
   have hd:d=false:=by
    cases d with
    |false=>rfl
    |true=>exact absurd (show true=false from hg.live rfl) (by decide)
   subst hd
   obtain⟨m,hm⟩:=n0s
   refine⟨.inr (nx,xs,w,p,a,b,at_,env,false,true,key,[],(0:Int),(0:Int),(0:Int),(0:Int),(0:Int),[],false,false,(0:Int),[]),xs,at_,env,false,true,key,[],nx,?_,rfl,uY.stay (by have:at_≠5:=fun q=>(by rw[q]at g6;cases g6);omega) hp g4 g3 (by simp)⟩
   rw[show aG N0 N0=aG N0 (m+1)from congrArg _ hm,aG];rfl
  |false =>
   have h:=xY (a:=a) (b:=b) g1 g2 (5-at_).toNat at_ env key nx xs [] N0 (by omega) g5.1 hp g4 g3 (fun q=>hg.key (by show d=true;rw[g6,q];rfl)) (by simp;omega) (by have:=n0;omega)
   rw[←g6]at h
   exact h
 obtain⟨es,ys,at',env',d',dd',key',out',nx',q2,q4,st⟩:=ends
 have go2:nj N0 (xs,w,p,a,b,at_,env,d,dd,key,nx)=some (ys,w,p,a,b,at',env',d',dd',key',out',nx'):=by
  unfold nj pZ
  simp only[cl,r2,Option.bind_some,q2]
  cases es with
  |inl x =>
   simp only[goS]at q4
   subst q4;rfl
  |inr x =>
   simp only[goS,Prod.mk.injEq]at q4
   obtain⟨z1,z2,z3,z4,z5,z6,z7,z8,z9,z10,z11,z12⟩:=q4
   simp only[z1,z2,z3,z4,z5,z6,z7,z8,z9,z10,z11,z12,Option.bind_some]
 have hno:d=false→key=-1:=fun q=>hg.no q
 exact⟨ys,at',env',d',dd',key',out',nx',go2,sW g1 g2 hg.me hg.peer hg.ne st.pool st.len st.env ⟨by have:=st.on;omega,st.most⟩ st.done st.key1 (fun q=>(st.key0 q).trans (hno (by
   rw[g6,beq_eq_false_iff_ne]
   have:=st.done
   rw[q,eq_comm,beq_eq_false_iff_ne]at this
   have:=st.on
   have:=st.most
   omega))),st⟩
end AM
end Go.Proofs.YtpgigedclifoeaaGreatDoor
namespace Go.Proofs.YtpgigedclifoeaaGreatDoor
namespace AM
open Go
set_option linter.unusedSimpArgs false
set_option linter.unusedVariables false
def body (k a b c d:Int) (t:ByteArray):List UInt8 :=
 if k=1 then [115,116,97,114,116]++[32]++Lib.itoa a++[32]++Lib.itoa b++[32]++Lib.itoa c++[32]++Lib.itoa d
 else if k=2 then [116,97,107,101]++[32]++Lib.itoa a++[32]++t.data.toList
 else if k=3 then [103,105,118,101]++[32]++Lib.itoa a
 else [115,104,111,119]++[32]++Lib.itoa a
def inR (x:Int):Bool:=decide (0≤x∧x≤999)
end AM
end Go.Proofs.YtpgigedclifoeaaGreatDoor
namespace Go.Proofs.YtpgigedclifoeaaGreatDoor
namespace AM
open Go
set_option linter.unusedVariables false
set_option linter.unusedSimpArgs false
theorem XQ{i n:Nat}(h:i<n):aI (i:Int) n=true:=decide_eq_true (by omega)
theorem Dj{x:Int}(h1:-9223372036854775808≤x) (h2:x≤9223372036854775807):IntKind.i64.wrap x=x:=Qh h1 h2
theorem Tw:∀d:Fin 6,(10:Int) ^ d.val≤100000:=by decide
theorem Il (n:Nat){T:ByteArray}(hT:T.size≤1048576){p:Nat}:∀(m i:Nat) (acc:Int),p≤i→i≤p+5→p+5<m+i→0≤acc→acc<10 ^ (i-p)→∃(i':Nat) (acc':Int),eY n m (T,(i:Int),(p:Int),acc)=some (T,(i':Int),(p:Int),acc')∧i≤i'∧(i<i'→i<T.size∧i'≤T.size)∧0≤acc'
 |0,i,acc,h1,h2,hm,_,_=>by omega
 |m+1,i,acc,h1,h2,hm,h0,hb=>by
  have no:∃(i':Nat) (acc':Int),some (T,(i:Int),(p:Int),acc)=some (T,(i':Int),(p:Int),acc')∧i≤i'∧(i<i'→i<T.size∧i'≤T.size)∧0≤acc':=⟨i,acc,rfl,Nat.le_refl _,fun q=>by omega,h0⟩
  rw[eY]
  dsimp only
  by_cases hq:i<T.size
  ·rw[decide_eq_true (show(i:Int)<(T.size:Int)by omega),cond_true,XQ hq,cond_true]
   cases h8:decide (bt T (i:Int)≥48)with
   |false=>exact no
   |true =>
    rw[cond_true,cond_true]
    cases h9:decide (bt T (i:Int)≤57)with
    |false=>exact no
    |true =>
     rw[cond_true,Dj (x:=(i:Int)-(p:Int)) (by omega) (by omega)]
     by_cases h5:(i:Int)-(p:Int)<5
     ·rw[decide_eq_true_iff]at h8 h9
      have h10:(10:Int) ^ (i-p)≤100000:=Tw ⟨i-p,by omega⟩
      have hs:(10:Int) ^ (i+1-p)=10 ^ (i-p)*10:=by rw[show i+1-p=i-p+1 by omega,Int.pow_succ]
      rw[decide_eq_true h5,cond_true,cond_true,Dj (x:=(i:Int)+1) (by omega) (by omega),show(i:Int)+1=((i+1:Nat):Int)by omega,Dj (x:=10*acc) (by omega) (by omega),Dj (x:=bt T (i:Int)) (by omega) (by omega),Dj (x:=10*acc+bt T (i:Int)) (by omega) (by omega),Dj (x:=10*acc+bt T (i:Int)-48) (by omega) (by omega)]
      obtain⟨i',a',e1,e2,e3,e4⟩:=Il n hT m (i+1) (10*acc+bt T (i:Int)-48) (by omega) (by omega) (by omega) (by omega) (by omega) (p:=p)
      exact⟨i',a',e1,by omega,fun _=>by omega,e4⟩
     ·rw[decide_eq_false h5,cond_false]
      exact no
  ·rw[decide_eq_false (show ¬(i:Int)<(T.size:Int)by omega),cond_false]
   exact no
theorem JP (n:Nat) (hn:100≤n){T:ByteArray}(hT:T.size≤1048576) (p:Nat):∃(x:Int) (nx:Nat) (b:Bool),lI n (T,(p:Int))=some (x,(nx:Int),b)∧(b=true→0≤x∧p<nx∧nx≤T.size):=by
 obtain⟨i',a',e1,e2,e3,e4⟩:=Il n hT (p:=p) n p 0 (Nat.le_refl _) (by omega) (by omega) (Int.le_refl _) (by rw[Nat.sub_self];decide)
 have no:∃(x:Int) (nx:Nat) (b:Bool),some ((0:Int),(0:Int),false)=some (x,(nx:Int),b)∧(b=true→0≤x∧p<nx∧nx≤T.size):=⟨0,0,false,rfl,fun q=>by cases q⟩
 unfold lI
 dsimp only
 rw[e1,Option.bind_some]
 dsimp only
 cases hq:((i':Int)==(p:Int))with
 |true=>exact no
 |false =>
  have hlt:p<i':=by
   rw[beq_eq_false_iff_ne]at hq
   omega
  have yes:∃(x:Int) (nx:Nat) (b:Bool),some (a',(i':Int),true)=some (x,(nx:Int),b)∧(b=true→0≤x∧p<nx∧nx≤T.size):=⟨a',i',true,rfl,fun _=>⟨e4,hlt,(e3 hlt).2⟩⟩
  rw[cond_false,XQ (e3 hlt).1]
  cases decide (IntKind.i64.wrap ((i':Int)-(p:Int))>4)with
  |true=>exact no
  |false =>
   rw[cond_false,cond_true]
   cases(bt T (p:Int)==48)with
   |false=>exact yes
   |true =>
    rw[cond_true]
    cases decide (IntKind.i64.wrap ((i':Int)-(p:Int))>1)with
    |true=>exact no
    |false=>exact yes
def xl (T:ByteArray) (a:Nat) (xs:List ab) (s:Option (List ab×Int×Int×Int)):Prop :=
 ∃ys t k c,s=some (ys,t,k,c)∧(c=0→aF ys=true∧(∃zs,ys=xs++zs)∧ci ys t=true∧∃b:Nat,k=b∧a<b∧b≤T.size)
def IV (T:ByteArray) (a:Nat) (xs:List ab) (s:Option (List ab×Int×Int×Int×Int)):Prop :=
 ∃ys x y k c,s=some (ys,x,y,k,c)∧(c=0→aF ys=true∧(∃zs,ys=xs++zs)∧ci ys x=true∧ci ys y=true∧∃b:Nat,k=b∧a<b∧b≤T.size)
def Ce (kn:List Int) (xs:List ab):Prop:=∀u,u<kn.length→ci xs (kn.getD u 0)=true
theorem lR{xs:List ab}{v:Int}:ci xs v=true↔0≤v∧v<(xs.length:Int):=by
 unfold ci
 rw[Bool.and_eq_true,decide_eq_true_iff,decide_eq_true_iff]
 omega
theorem zo{xs zs:List ab}{v:Int}(h:ci xs v=true):ci (xs++zs) v=true:=by
 rw[lR]at h ⊢
 rw[List.length_append]
 omega
theorem MZ{kn:List Int}{xs zs:List ab}(h:Ce kn xs):Ce kn (xs++zs):=fun u hu=>zo (h u hu)
theorem GV{k a b:Int}{i:Nat}(hi:i≤4294967296) (h:gP N0 (k,a,b,(i:Int))=true):(k=1∧0≤a∧a≤199)∨((k=5∨k=7)∧0≤a∧a<(i:Int))∨((k=2∨k=3∨k=4∨k=6∨k=8)∧0≤a∧a<(i:Int)∧0≤b∧b<(i:Int)):=by
 have w:IntKind.i64.wrap ((i:Int)-(1:Int))=(i:Int)-1:=au (by omega) (by omega)
 have hr:∀v lo hi:Int,aD N0 (v,lo,hi)=some (decide (v≥lo)&&decide (v≤hi)):=fun v lo hi=>by
  unfold aD
  cases q:decide (v≥lo)<;>(simp[q])
 have hk:gP N0 (k,a,b,(i:Int))=(bH N0 (k,a,b,(i:Int))).getD false:=rfl
 rw[hk]at h
 unfold bH at h
 dsimp only at h
 rw[w,hr,hr,hr]at h
 by_cases h1:k=1
 ·subst h1
  rw[show bh N0 1=some 0 from rfl]at h
  left
  cases q:(decide (a≥0)&&decide (a≤199))with
  |false=>simp only[Option.bind_some,beq_self_eq_true,cond_true,q]at h;cases h
  |true =>
   rw[Bool.and_eq_true,decide_eq_true_iff,decide_eq_true_iff]at q
   exact⟨rfl,q.1,q.2⟩
 by_cases h5:k=5∨k=7
 ·right;left
  have hc:bh N0 k=some 1:=by rcases h5 with rfl|rfl<;>rfl
  rw[hc]at h
  cases q:(decide (a≥0)&&decide (a≤(i:Int)-1))with
  |false=>simp only[Option.bind_some,show((1:Int)==0)=false from rfl,beq_self_eq_true,cond_true,cond_false,q]at h;cases h
  |true =>
   rw[Bool.and_eq_true,decide_eq_true_iff,decide_eq_true_iff]at q
   exact⟨h5,q.1,by omega⟩
 by_cases h2:k=2∨k=3∨k=4∨k=6∨k=8
 ·right;right
  have hc:bh N0 k=some 2:=by rcases h2 with rfl|rfl|rfl|rfl|rfl<;>rfl
  rw[hc]at h
  cases q:(decide (a≥0)&&decide (a≤(i:Int)-1))with
  |false=>simp only[Option.bind_some,show((2:Int)==0)=false from rfl,show((2:Int)==1)=false from rfl,beq_self_eq_true,cond_true,cond_false,q]at h;cases h
  |true =>
   cases q2:(decide (b≥0)&&decide (b≤(i:Int)-1))with
   |false=>simp only[Option.bind_some,show((2:Int)==0)=false from rfl,show((2:Int)==1)=false from rfl,beq_self_eq_true,cond_true,cond_false,q,q2]at h;cases h
   |true =>
    rw[Bool.and_eq_true,decide_eq_true_iff,decide_eq_true_iff]at q q2
    exact⟨h2,q.1,by omega,q2.1,by omega⟩
 exfalso
 have hc:∃c,bh N0 k=some c∧c≠0∧c≠1∧c≠2:=by
  unfold bh
  simp only[show(k==1)=false from by rw[beq_eq_false_iff_ne];exact h1,show(k==2)=false from by rw[beq_eq_false_iff_ne];omega,show(k==3)=false from by rw[beq_eq_false_iff_ne];omega,show(k==4)=false from by rw[beq_eq_false_iff_ne];omega,show(k==5)=false from by rw[beq_eq_false_iff_ne];omega,show(k==6)=false from by rw[beq_eq_false_iff_ne];omega,show(k==7)=false from by rw[beq_eq_false_iff_ne];omega,show(k==8)=false from by rw[beq_eq_false_iff_ne];omega,cond_false]
  exact⟨_,rfl,by decide,by decide,by decide⟩
 obtain⟨c,hc,c0,c1,c2⟩:=hc
 rw[hc]at h
 simp only[Option.bind_some,show(c==0)=false from by rw[beq_eq_false_iff_ne];exact c0,show(c==1)=false from by rw[beq_eq_false_iff_ne];exact c1,show(c==2)=false from by rw[beq_eq_false_iff_ne];exact c2,cond_false]at h
 cases h
theorem Fs{m:List ab}{p:Int}(hp:aF m=true) (h:ci m p=true) (hk:(m.getD p.toNat dN).1=2∨(m.getD p.toNat dN).1=3∨(m.getD p.toNat dN).1=4):ci m (m.getD p.toNat dN).2.1=true∧ci m (m.getD p.toNat dN).2.2=true:=by
 have h2:=lR.1 h
 have hl:=aX hp
 have:=GV (by omega) (xB hp (j:=p.toNat) (by omega))
 rw[lR,lR]
 rcases this with⟨q,_⟩|⟨q,_⟩|⟨_,q1,q2,q3,q4⟩
 ·rw[q]at hk;omega
 ·rcases q with q|q<;>(rw[q]at hk;omega)
 ·omega
section
variable{T:ByteArray}{a:Nat}{xs:List ab}{kn:List Int}
theorem jT{ys:List ab}{t k c:Int}(hc:c≠0):xl T a xs (some (ys,t,k,c)):=⟨ys,t,k,c,rfl,fun h=>absurd h hc⟩
theorem xz{ys:List ab}{t u k c:Int}(hc:c≠0):IV T a xs (some (ys,t,u,k,c)):=⟨ys,t,u,k,c,rfl,fun h=>absurd h hc⟩
theorem Bp (hT:T.size≤100000) (ha:a≤T.size) (e:Int):(az N0 (T,(a:Int),e)=some (((a+1:Nat):Int),(0:Int))∧a+1≤T.size)∨(∃k c:Int,c≠0∧az N0 (T,(a:Int),e)=some (k,c)):=by
 unfold az
 dsimp only
 by_cases h:a<T.size
 ·rw[show decide ((a:Int)≥(T.size:Int))=false from decide_eq_false (by omega),ar h,cond_false,cond_true]
  cases(bt T (a:Int) != e)with
  |false =>
   rw[cond_false,au (by omega) (by omega)]
   exact .inl ⟨rfl,h⟩
  |true=>exact .inr ⟨_,3,by decide,rfl⟩
 ·rw[show decide ((a:Int)≥(T.size:Int))=true from decide_eq_true (by omega),cond_true]
  exact .inr ⟨_,2,by decide,rfl⟩
theorem TH{rec_:List ab×List Int×ByteArray×Int→Option (List ab×Int×Int×Int)}(hT:T.size≤100000) (ha:a+1≤T.size) (hp:aF xs=true) (hk:Ce kn xs):xl T a xs ((lI N0 (T,((a+1:Nat):Int))).bind fun r1=>(cond (!r1.2.2) (some (xs,(-1:Int),(a:Int),(4:Int))) (cond (decide (r1.1≥((kn).length:Int))) (some (xs,(-1:Int),(a:Int),(4:Int))) ((md N0 rec_ (kn,xs,[],r1.1,r1.2.1)).bind fun g2=>(some (g2.1,g2.2.1,g2.2.2.1,g2.2.2.2)))))):=by
 obtain⟨x,nx,b,e,h⟩:=JP N0 (by have:=n0;omega) (T:=T) (by omega) (a+1)
 rw[e,Option.bind_some]
 dsimp only
 cases b with
 |false=>exact jT (by decide)
 |true =>
  obtain⟨x0,n1,n2⟩:=h rfl
  rw[Bool.not_true,cond_false]
  cases hku:decide (x≥(kn.length:Int))with
  |true=>exact jT (by decide)
  |false =>
   rw[decide_eq_false_iff_not]at hku
   have hu:x.toNat<kn.length:=by omega
   have ex:((x.toNat:Nat):Int)=x:=by omega
   have hin:=ar hu
   rw[ex]at hin
   rw[cond_false,md]
   dsimp only
   rw[hin,cond_true,Option.bind_some]
   exact⟨_,_,_,_,rfl,fun _=>⟨hp,⟨[],by simp⟩,hk _ hu,_,rfl,by omega,n2⟩⟩
theorem BX{p:Nat}(hT:T.size≤100000):∀(m i:Nat) (acc:Int),p≤i→i≤p+4→p+4<m+i→∃(i':Nat) (acc':Int),eV N0 m (T,(i:Int),(p:Int),acc)=some (T,(i':Int),(p:Int),acc')∧i≤i'∧(i<i'→i<T.size∧i'≤T.size)
 |0,i,acc,h1,h2,hm=>by omega
 |m+1,i,acc,h1,h2,hm=>by
  have no:∃(i':Nat) (acc':Int),some (T,(i:Int),(p:Int),acc)=some (T,(i':Int),(p:Int),acc')∧i≤i'∧(i<i'→i<T.size∧i'≤T.size):=⟨i,acc,rfl,Nat.le_refl _,fun q=>by omega⟩
  rw[eV]
  dsimp only
  by_cases hq:i<T.size
  ·rw[jt hq,cond_true,ar hq,cond_true]
   cases decide (bt T (i:Int)≥48)with
   |false=>exact no
   |true =>
    rw[cond_true,cond_true]
    cases decide (bt T (i:Int)≤57)with
    |false=>exact no
    |true =>
     rw[cond_true,au (n:=(i:Int)-(p:Int)) (by omega) (by omega)]
     by_cases h5:(i:Int)-(p:Int)<4
     ·rw[decide_eq_true h5,cond_true,cond_true,aw hq (by omega)]
      obtain⟨i',a',e1,e2,e3⟩:=BX hT m (i+1) (IntKind.i64.wrap ((IntKind.i64.wrap ((IntKind.i64.wrap ((10:Int)*acc))+(IntKind.i64.wrap (bt T (i:Int)))))-(48:Int))) (by omega) (by omega) (by omega) (p:=p)
      exact⟨i',a',e1,by omega,fun _=>by omega⟩
     ·rw[decide_eq_false h5,cond_false]
      exact no
  ·rw[show decide ((i:Int)<(T.size:Int))=false from decide_eq_false (by omega),cond_false]
   exact no
theorem MD (hT:T.size≤100000) (p:Nat):∃(x:Int) (nx:Nat) (b:Bool),jx N0 (T,(p:Int))=some (x,(nx:Int),b)∧(b=true→p<nx∧nx≤T.size):=by
 obtain⟨i',a',e1,e2,e3⟩:=BX (p:=p) hT N0 p 0 (Nat.le_refl _) (by omega) (by have:=n0;omega)
 have no:∃(x:Int) (nx:Nat) (b:Bool),some ((0:Int),(0:Int),false)=some (x,(nx:Int),b)∧(b=true→p<nx∧nx≤T.size):=⟨0,0,false,rfl,fun q=>by cases q⟩
 unfold jx
 dsimp only
 rw[e1,Option.bind_some]
 dsimp only
 cases hq:((i':Int)==(p:Int))with
 |true=>exact no
 |false =>
  have hlt:p<i':=by
   rw[beq_eq_false_iff_ne]at hq
   omega
  have yes:∃(x:Int) (nx:Nat) (b:Bool),some (a',(i':Int),true)=some (x,(nx:Int),b)∧(b=true→p<nx∧nx≤T.size):=⟨a',i',true,rfl,fun _=>⟨hlt,(e3 hlt).2⟩⟩
  rw[cond_false,ar (e3 hlt).1]
  cases decide (IntKind.i64.wrap ((i':Int)-(p:Int))>3)with
  |true=>exact no
  |false =>
   rw[cond_false,cond_true]
   cases(bt T (p:Int)==48)<;>cases decide (IntKind.i64.wrap ((i':Int)-(p:Int))>1)<;>cases decide (a'≥200)<;>first
    |exact no
    |exact yes
theorem QA (hT:T.size≤100000) (ha:a+1≤T.size) (hp:aF xs=true):xl T a xs ((jx N0 (T,((a+1:Nat):Int))).bind fun r3=>(cond (!r3.2.2) (some (xs,(-1:Int),(a:Int),(4:Int))) ((fT N0 r3.1).bind fun r4=>(cond (!r4) (some (xs,(-1:Int),(a:Int),(4:Int))) ((cf N0 (xs,r3.1)).bind fun r5=>(cond (decide (r5.2<(0:Int))) (some (xs,(-1:Int),r3.2.1,(5:Int))) (some (r5.1,r5.2,r3.2.1,(0:Int))))))))):=by
 obtain⟨x,nx,b,e,h⟩:=MD hT (a+1)
 rw[e,Option.bind_some]
 dsimp only
 cases b with
 |false=>exact jT (by decide)
 |true =>
  obtain⟨n1,n2⟩:=h rfl
  have hq:∃q,fT N0 x=some q:=by
   unfold fT bO
   cases decide (x≥0)<;>exact⟨_,rfl⟩
  obtain⟨q,hq⟩:=hq
  rw[Bool.not_true,cond_false,hq,Option.bind_some,lK hp]
  cases q with
  |false=>exact jT (by decide)
  |true =>
   rw[Bool.not_true,cond_false,Option.bind_some]
   cases hA:jh xs 1 x 0 with
   |none=>exact jT (by decide)
   |some p =>
    obtain⟨ys,t⟩:=p
    obtain⟨g1,g2,g3⟩:=oD hp hA
    rw[show lu xs (some (ys,t))=(ys,t)from rfl]
    dsimp only
    rw[show decide (t<(0:Int))=false from decide_eq_false (by have:=(lR.1 g2).1;omega),cond_false]
    exact⟨_,_,_,_,rfl,fun _=>⟨g1,g3,g2,_,rfl,by omega,n2⟩⟩
theorem UM{ys:List ab}(hp:aF ys=true){t:Int}(h:ci ys t=true) (v:Int):∃o,fR N0 (ys,v,t)=some o∧(o<0∨ci ys o=true):=by
 unfold fR
 dsimp only
 rw[rL h,cond_true]
 have e1:((ys.getD t.toNat dN).1==(2:Int))=true→ci ys (ys.getD t.toNat dN).2.1=true∧ci ys (ys.getD t.toNat dN).2.2=true:=fun q=>Fs hp h (.inl (by simpa using q))
 have e2:((ys.getD t.toNat dN).1==(4:Int))=true→ci ys (ys.getD t.toNat dN).2.1=true:=fun q=>(Fs hp h (.inr (.inr (by simpa using q)))).1
 have ez:ys.getD t.toNat ((0:Int),((0:Int),(0:Int)))=ys.getD t.toNat dN:=rfl
 rw[ez]
 revert e1 e2
 cases((ys.getD t.toNat dN).1==(2:Int))<;>cases((ys.getD t.toNat dN).1==(4:Int))<;>cases(v==(60:Int))<;>cases(v==(33:Int))<;>cases(v==(62:Int))<;>intro e1 e2<;>first
  |exact⟨_,rfl, .inl (by decide)⟩
  |exact⟨_,rfl, .inr (e1 rfl).1⟩
  |exact⟨_,rfl, .inr (e1 rfl).2⟩
  |exact⟨_,rfl, .inr (e2 rfl)⟩
theorem Jn{s:Option (List ab×Int×Int×Int)}(hs:xl T (a+1) xs s) (v:Int):xl T a xs (s.bind fun r6=>(cond (r6.2.2.2 != (0:Int)) (some (r6.1,(-1:Int),r6.2.2.1,r6.2.2.2)) ((fR N0 (r6.1,v,r6.2.1)).bind fun r7=>(cond (decide (r7<(0:Int))) (some (r6.1,(-1:Int),r6.2.2.1,(7:Int))) (some (r6.1,r7,r6.2.2.1,(0:Int))))))):=by
 obtain⟨ys,t,k,c,rfl,h⟩:=hs
 rw[Option.bind_some]
 dsimp only
 by_cases hc:c=0
 ·obtain⟨h1,h2,h3,b,h4,h5,h6⟩:=h hc
  obtain⟨o,e1,e2⟩:=UM h1 h3 v
  rw[hc,e1,Option.bind_some,show((0:Int) != 0)=false from rfl,cond_false]
  cases ho:decide (o<0)with
  |true=>exact jT (by decide)
  |false =>
   rw[decide_eq_false_iff_not]at ho
   exact⟨_,_,_,_,rfl,fun _=>⟨h1,h2,e2.resolve_left ho,b,h4,by omega,h6⟩⟩
 ·rw[show(c != 0)=true from by rw[bne_iff_ne];exact hc,cond_true]
  exact jT hc
theorem Od{ys:List ab}(h1:aF ys=true) (h2:∃zs,ys=xs++zs){b:Nat}(h5:a<b) (h6:b≤T.size) (kd p q:Int):xl T a xs ((bk N0 (ys,kd,p,q)).bind fun r18=>(cond (decide (r18.2<(0:Int))) (some (ys,(-1:Int),(b:Int),(5:Int))) (some (r18.1,r18.2,(b:Int),(0:Int))))):=by
 rw[jR h1,Option.bind_some]
 cases hA:jh ys kd p q with
 |none=>exact jT (by decide)
 |some m =>
  obtain⟨zs,t⟩:=m
  obtain⟨g1,g2,z,g3⟩:=oD h1 hA
  rw[show lu ys (some (zs,t))=(zs,t)from rfl]
  dsimp only
  rw[show decide (t<(0:Int))=false from decide_eq_false (by have:=(lR.1 g2).1;omega),cond_false]
  obtain⟨z',h2⟩:=h2
  exact⟨_,_,_,_,rfl,fun _=>⟨g1,⟨z'++z,by rw[g3,h2,List.append_assoc]⟩,g2,b,rfl,h5,h6⟩⟩
theorem QC{s:Option (List ab×Int×Int×Int)}(hs:xl T (a+1) xs s) (kd:Int):xl T a xs (s.bind fun r19=>(cond (r19.2.2.2 != (0:Int)) (some (r19.1,(-1:Int),r19.2.2.1,r19.2.2.2)) ((bk N0 (r19.1,kd,r19.2.1,(0:Int))).bind fun r20=>(cond (decide (r20.2<(0:Int))) (some (r19.1,(-1:Int),r19.2.2.1,(5:Int))) (some (r20.1,r20.2,r19.2.2.1,(0:Int))))))):=by
 obtain⟨ys,t,k,c,rfl,h⟩:=hs
 rw[Option.bind_some]
 dsimp only
 by_cases hc:c=0
 ·obtain⟨h1,h2,h3,b,h4,h5,h6⟩:=h hc
  rw[hc,h4,show((0:Int) != 0)=false from rfl,cond_false]
  exact Od h1 h2 (by omega) h6 kd _ _
 ·rw[show(c != 0)=true from by rw[bne_iff_ne];exact hc,cond_true]
  exact jT hc
theorem QB{s:Option (List ab×Int×Int×Int×Int)}(hs:IV T (a+1) xs s) (kd:Int):xl T a xs (s.bind fun r17=>(cond (r17.2.2.2.2 != (0:Int)) (some (r17.1,(-1:Int),r17.2.2.2.1,r17.2.2.2.2)) ((bk N0 (r17.1,kd,r17.2.1,r17.2.2.1)).bind fun r18=>(cond (decide (r18.2<(0:Int))) (some (r17.1,(-1:Int),r17.2.2.2.1,(5:Int))) (some (r18.1,r18.2,r17.2.2.2.1,(0:Int))))))):=by
 obtain⟨ys,t,u,k,c,rfl,h⟩:=hs
 rw[Option.bind_some]
 dsimp only
 by_cases hc:c=0
 ·obtain⟨h1,h2,h3,h3',b,h4,h5,h6⟩:=h hc
  rw[hc,h4,show((0:Int) != 0)=false from rfl,cond_false]
  exact Od h1 h2 (by omega) h6 kd _ _
 ·rw[show(c != 0)=true from by rw[bne_iff_ne];exact hc,cond_true]
  exact jT hc
theorem KH{s:Option (List ab×Int×Int×Int×Int)}(hs:IV T (a+1) xs s) (v:Int):xl T a xs (s.bind fun r12=>(cond (r12.2.2.2.2 != (0:Int)) (some (r12.1,(-1:Int),r12.2.2.2.1,r12.2.2.2.2)) ((kj N0 (r12.1,v,r12.2.1,r12.2.2.1)).bind fun r13=>(some (r13.1,r13.2.1,r12.2.2.2.1,r13.2.2))))):=by
 obtain⟨ys,x,y,k,c,rfl,h⟩:=hs
 rw[Option.bind_some]
 dsimp only
 by_cases hc:c=0
 ·obtain⟨h1,⟨z',h2⟩,h3,h3',b,h4,h5,h6⟩:=h hc
  rw[hc,h4,show((0:Int) != 0)=false from rfl,cond_false,kj]
  dsimp only
  rw[rL h3,rL h3',cond_true,cond_true]
  cases(v==(111:Int))with
  |true =>
   rw[cond_true]
   cases hk:((ys.getD x.toNat ((0:Int),((0:Int),(0:Int)))).1 != (3:Int))with
   |true=>exact jT (c:=7) (by decide)
   |false =>
    have hk3:(ys.getD x.toNat dN).1=3:=by
     rw[bne_eq_false_iff_eq]at hk
     exact hk
    rw[cond_false]
    cases((ys.getD x.toNat ((0:Int),((0:Int),(0:Int)))).2.2 != y)with
    |true=>exact jT (c:=7) (by decide)
    |false=>exact⟨_,_,_,_,rfl,fun _=>⟨h1,⟨z',h2⟩,(Fs h1 h3 (.inr (.inl hk3))).1,b,rfl,by omega,h6⟩⟩
  |false =>
   rw[cond_false]
   cases((ys.getD y.toNat ((0:Int),((0:Int),(0:Int)))).1 != (7:Int))with
   |true=>exact jT (c:=7) (by decide)
   |false =>
    rw[cond_false,xp h1,Option.bind_some]
    cases hA:p9 ys y x with
    |none=>exact jT (c:=5) (by decide)
    |some m =>
     obtain⟨zs,t⟩:=m
     obtain⟨g1,g2,z,g3⟩:=oD h1 (sI hA)
     rw[show lu ys (some (zs,t))=(zs,t)from rfl]
     dsimp only
     rw[show decide (t<(0:Int))=false from decide_eq_false (by have:=(lR.1 g2).1;omega),cond_false]
     exact⟨_,_,_,_,rfl,fun _=>⟨g1,⟨z'++z,by rw[g3,h2,List.append_assoc]⟩,g2,b,rfl,by omega,h6⟩⟩
 ·rw[show(c != 0)=true from by rw[bne_iff_ne];exact hc,cond_true]
  exact jT hc
theorem eq0{c:Int}(h:c≠0):(c==0)=false:=by rw[beq_eq_false_iff_ne];exact h
theorem Gl{rec_:List ab×List Int×ByteArray×Int→Option (List ab×Int×Int×Int)}(hT:T.size≤100000) (ih:∀(b:Nat) (ys:List ab),a≤b→b≤T.size→aF ys=true→Ce kn ys→xl T b ys (rec_ (ys,kn,T,(b:Int)))) (ha:a≤T.size) (hp:aF xs=true) (hk:Ce kn xs){b:Nat}(hb:a≤b) (hb2:b≤T.size) (e:Int):IV T a xs (dI N0 rec_ (xs,kn,T,(b:Int),false,e)):=by
 unfold dI
 dsimp only
 rw[cond_false,show((0:Int)==0)=true from rfl,cond_true]
 obtain⟨ys,t,k,c,e1,h⟩:=ih b xs hb hb2 hp hk
 rw[e1,Option.bind_some]
 dsimp only
 by_cases hc:c=0
 ·obtain⟨h1,⟨z,rfl⟩,h3,b',rfl,h5,h6⟩:=h hc
  rw[hc,show((0:Int)==0)=true from rfl,cond_true]
  rcases Bp hT h6 44 with⟨w1,w2⟩|⟨k2,c2,w0,w1⟩
  ·rw[w1,Option.bind_some]
   dsimp only
   rw[show((0:Int)==0)=true from rfl,cond_true]
   obtain⟨ys2,t2,k2,c2,e2,h'⟩:=ih (b'+1) _ (by omega) w2 h1 (MZ hk)
   rw[e2,Option.bind_some]
   dsimp only
   by_cases hc2:c2=0
   ·obtain⟨i1,⟨z2,rfl⟩,i3,b2,rfl,i5,i6⟩:=h' hc2
    rw[hc2,show((0:Int)==0)=true from rfl,cond_true]
    rcases Bp hT i6 e with⟨u1,u2⟩|⟨k3,c3,u0,u1⟩
    ·rw[u1,Option.bind_some]
     exact⟨_,_,_,_,_,rfl,fun _=>⟨i1,⟨z++z2,by rw[List.append_assoc]⟩,zo h3,i3,_,rfl,by omega,u2⟩⟩
    ·rw[u1,Option.bind_some]
     exact xz u0
   ·rw[eq0 hc2,cond_false]
    exact xz hc2
  ·rw[w1,Option.bind_some]
   dsimp only
   rw[eq0 w0,cond_false]
   exact xz w0
 ·rw[eq0 hc,cond_false]
  exact xz hc
theorem Ma{T:ByteArray}{a b e:Int}{kn:List Int}{xs:List ab}{rec_:List ab×List Int×ByteArray×Int→Option (List ab×Int×Int×Int)}(h:az N0 (T,a,40)=some (b,0)):dI N0 rec_ (xs,kn,T,a,true,e)=dI N0 rec_ (xs,kn,T,b,false,e):=by
 unfold dI
 dsimp only
 rw[h]
 rfl
theorem L9{T:ByteArray}{a b e c:Int}{kn:List Int}{xs:List ab}{rec_:List ab×List Int×ByteArray×Int→Option (List ab×Int×Int×Int)}(h:az N0 (T,a,40)=some (b,c)) (hc:c≠0):dI N0 rec_ (xs,kn,T,a,true,e)=some (xs, -1, -1,b,c):=by
 unfold dI
 dsimp only
 rw[h,cond_true,Option.bind_some]
 dsimp only
 rw[show(c==0)=false from by rw[beq_eq_false_iff_ne];exact hc]
 rfl
theorem Jc{rec_:List ab×List Int×ByteArray×Int→Option (List ab×Int×Int×Int)}(hT:T.size≤100000) (ih:∀(b:Nat) (ys:List ab),a≤b→b≤T.size→aF ys=true→Ce kn ys→xl T b ys (rec_ (ys,kn,T,(b:Int)))) (ha:a≤T.size) (hp:aF xs=true) (hk:Ce kn xs) (o:Bool) (e:Int):IV T a xs (dI N0 rec_ (xs,kn,T,(a:Int),o,e)):=by
 cases o with
 |false=>exact Gl hT ih ha hp hk (Nat.le_refl _) ha e
 |true =>
  rcases Bp hT ha 40 with⟨w1,w2⟩|⟨k,c,w0,w1⟩
  ·have h:=Gl hT ih ha hp hk (Nat.le_succ a) w2 e
   rw[Ma w1]
   exact h
  ·rw[L9 w1 w0]
   exact xz w0
end
theorem MY{T:ByteArray}{a:Int}(h:aI a T.size=true):∃k l e,lG N0 (T,a)=some (k,l,e):=by
 unfold lG
 dsimp only
 rw[h,cond_true]
 cases(bt T a==40)
 ·cases(bt T a==123)
  ·cases(bt T a==91)
   ·cases(bt T a==35)
    ·cases(bt T a==94)
     ·cases(bt T a==107)
      ·cases(bt T a==42)<;>exact⟨_,_,_,rfl⟩
      ·exact⟨_,_,_,rfl⟩
     ·exact⟨_,_,_,rfl⟩
    ·exact⟨_,_,_,rfl⟩
   ·exact⟨_,_,_,rfl⟩
  ·exact⟨_,_,_,rfl⟩
 ·exact⟨_,_,_,rfl⟩
theorem Oa{T:ByteArray}(hT:T.size≤100000){kn:List Int}:∀(n a:Nat) (xs:List ab) (j:Nat),T.size-a≤n→n<j→a≤T.size→aF xs=true→Ce kn xs→xl T a xs (eX N0 j (xs,kn,T,(a:Int)))
 |n,a,xs,0,_,hj,_,_,_=>absurd hj (by omega)
 |n,a,xs,j+1,hn,hj,ha,hp,hk=>by
  show xl T a xs (nq N0 (eX N0 j) (xs,kn,T,(a:Int)))
  unfold nq
  dsimp only
  by_cases hs:a<T.size
  ·obtain⟨n,rfl⟩:∃m,n=m+1:=⟨n-1,by omega⟩
   have ih:∀(b:Nat) (ys:List ab),a+1≤b→b≤T.size→aF ys=true→Ce kn ys→xl T b ys (eX N0 j (ys,kn,T,(b:Int))):=fun b ys q1 q2 q3 q4=>Oa hT n b ys j (by omega) (by omega) q2 q3 q4
   obtain⟨kd,l,e,hkd⟩:=MY (T:=T) (ar hs)
   rw[show decide ((a:Int)≥(T.size:Int))=false from decide_eq_false (by omega),ar hs,cond_false,cond_true,hkd,au (by omega) (by omega),show((a:Int)+1)=((a+1:Nat):Int)from by omega,Option.bind_some]
   dsimp only
   have hi:=ih (a+1) xs (Nat.le_refl _) hs hp hk
   cases(bt T (a:Int)==(64:Int))with
   |true=>exact TH hT hs hp hk
   |false =>
   rw[cond_false]
   cases(bt T (a:Int)==(110:Int))with
   |true=>exact QA hT hs hp
   |false =>
   rw[cond_false]
   cases(bt T (a:Int)==(60:Int))with
   |true=>exact Jn hi _
   |false =>
   rw[cond_false]
   cases(bt T (a:Int)==(62:Int))with
   |true=>exact Jn hi _
   |false =>
   rw[cond_false]
   cases(bt T (a:Int)==(33:Int))with
   |true=>exact Jn hi _
   |false =>
   rw[cond_false]
   cases(bt T (a:Int)==(111:Int))with
   |true=>exact KH (Jc hT ih hs hp hk true 41) _
   |false =>
   rw[cond_false]
   cases(bt T (a:Int)==(120:Int))with
   |true=>exact KH (Jc hT ih hs hp hk true 41) _
   |false =>
   rw[cond_false]
   cases decide (kd>0)with
   |true =>
    rw[cond_true,cond_true]
    cases decide (e>0)with
    |true=>exact QB (Jc hT ih hs hp hk _ _) _
    |false=>exact QC hi _
   |false=>exact jT (c:=3) (by decide)
  ·rw[show decide ((a:Int)≥(T.size:Int))=true from decide_eq_true (by omega),cond_true]
   exact jT (by decide)
theorem BB {α:Type}{xs:List α}(h:xs.length≤1000000){k:α}:aO (xs.length+[k].length)=true:=by
 unfold aO
 simp
 omega
def AT (t:Int):List Int→List Int
 |[]=>[t]
 |v::r=>if v<t then v::AT t r else t::v::r
def tP (v:Int):Bool→List Int→List Int×Bool
 |b,[]=>([],b)
 |true,x::r=>(x::r,true)
 |false,x::r=>if v<x then(v::x::r,true)else(x::(tP v false r).1,(tP v false r).2)
theorem Jt (v:Int) (r:List Int):tP v true r=(r,true):=by cases r<;>rfl
theorem Dz (v:Int):∀(r pre out:List Int) (b:Bool) (m:Nat),r.length<m→pre.length+r.length≤1000→out.length+2*r.length≤100000→b8 N0 m (pre++r,v,out,b,(pre.length:Int))=some (v,out++(tP v b r).1,(tP v b r).2)
 |[],pre,out,b,m,hm,hl,ho=>by
  obtain⟨i,rfl⟩:∃i,m=i+1:=⟨m-1,by omega⟩
  rw[b8]
  dsimp only
  rw[B6,cond_false]
  cases b<;>simp[tP]
 |x::r,pre,out,b,m,hm,hl,ho=>by
  obtain⟨i,rfl⟩:∃i,m=i+1:=⟨m-1,by omega⟩
  have hl':pre.length+(r.length+1)≤1000:=hl
  have hm':r.length+1<i+1:=hm
  have w:IntKind.i64.wrap ((pre.length:Int)+1)=((pre++[x]).length:Int):=by rw[au (by omega) (by omega),pE]
  have ho2:out.length+2*(r.length+1)≤100000:=ho
  have go:∀out' b',out'.length+2*r.length≤100000→b8 N0 i (pre++x::r,v,out',b',((pre++[x]).length:Int))=some (v,out'++(tP v b' r).1,(tP v b' r).2):=fun out' b' ho'=>by
   rw[yE]
   exact Dz v r (pre++[x]) out' b' i (by omega) (by simp;omega) ho'
  rw[b8]
  dsimp only
  rw[B5,cond_true,Ck,Int.toNat_natCast,vB]
  simp only[cond_true,w]
  cases b with
  |true =>
   simp only[Bool.not_true,cond_false,BB (show out.length≤1000000 by omega),cond_true]
   rw[go _ _ (by simp;omega)]
   simp[tP,Jt]
  |false =>
   simp only[Bool.not_false,cond_true]
   by_cases hx:v<x
   ·simp only[decide_eq_true (show x>v from hx),cond_true,BB (show out.length≤1000000 by omega),BB (show(out++[v]).length≤1000000 by simp;omega)]
    rw[go _ _ (by simp;omega),tP,if_pos hx,Jt]
    simp
   ·simp only[decide_eq_false (show ¬x>v from hx),cond_false,cond_true,BB (show out.length≤1000000 by omega)]
    rw[go _ _ (by simp;omega),tP,if_neg hx]
    simp
theorem GA (v:Int):∀{r:List Int},v∉r→(bif (tP v false r).2 then(tP v false r).1 else(tP v false r).1++[v])=AT v r
 |[],_=>rfl
 |x::r,h=>by
  rw[tP,AT]
  by_cases hx:v<x
  ·rw[if_pos hx,if_neg (by omega)];rfl
  ·have hne:v≠x:=fun q=>h (q▸List.mem_cons_self ..)
   rw[if_neg hx,if_pos (by omega), ←GA v (fun q=>h (List.mem_cons_of_mem _ q))]
   dsimp only
   cases(tP v false r).2<;>rfl
theorem uF (v:Int):∀(r:List Int),(AT v r).length=r.length+1
 |[]=>rfl
 |x::r=>by
  rw[AT]
  split
  ·rw[List.length_cons,uF v r,List.length_cons]
  ·rfl
theorem vA{l:List Int}{v:Int}:fH l v=l.contains v:=by
 rw[Bool.eq_iff_iff,List.contains_iff_mem,zp,List.mem_iff_getElem]
 constructor
 ·rintro ⟨j,hj,e⟩
  exact⟨j,hj,by rw[←e];simp[List.getD_eq_getElem?_getD,hj]⟩
 ·rintro ⟨j,hj,e⟩
  exact⟨j,hj,by rw[←e];simp[List.getD_eq_getElem?_getD,hj]⟩
theorem PB{l:List Int}(h:∀u,u<l.length→ft l u=true):l.Pairwise (·<·):=by
 rw[List.pairwise_iff_getElem]
 intro i j hi hj hij
 have step:∀k,i+1+k<l.length→l.getD i 0<l.getD (i+1+k) 0:=by
  intro k
  induction k with
  |zero =>
   intro hk
   have:=h (i+1) hk
   unfold ft at this
   rw[decide_eq_false (by omega:¬i+1=0),Bool.false_or,decide_eq_true_iff]at this
   exact this
  |succ k ih =>
   intro hk
   have h1:=ih (by omega)
   have:=h (i+1+(k+1)) hk
   unfold ft at this
   rw[decide_eq_false (by omega:¬i+1+(k+1)=0),Bool.false_or,decide_eq_true_iff]at this
   have e:i+1+(k+1)-1=i+1+k:=by omega
   rw[e]at this
   omega
 have:=step (j-(i+1)) (by omega)
 have e:i+1+(j-(i+1))=j:=by omega
 rw[e]at this
 have e1:l.getD i 0=l[i]:=by simp[List.getD_eq_getElem?_getD,hi]
 have e2:l.getD j 0=l[j]:=by simp[List.getD_eq_getElem?_getD,hj]
 rw[e1,e2]at this
 exact this
def oS (kn:List Int) (v:Int):List Int:=bif kn.contains v then kn else AT v kn
theorem qc (kn:List Int) (v:Int):(oS kn v).length≤kn.length+1:=by
 unfold oS
 cases kn.contains v with
 |true=>exact Nat.le_succ _
 |false=>exact Nat.le_of_eq (uF v kn)
theorem pC{kn:List Int}(hl:kn.length≤900) (v:Int):dF N0 (kn,v)=some (oS kn v):=by
 unfold oS dF
 dsimp only
 rw[iJ (by omega),Option.bind_some,vA]
 have hlp:=Dz v kn [] [] (kn.contains v) N0 (by have:=n0;omega) (by simp;omega) (by simp;omega)
 have hlp':b8 N0 N0 (kn,v,([]:List Int),kn.contains v,(0:Int))=_:=hlp
 rw[hlp',Option.bind_some]
 dsimp only
 cases hc:kn.contains v with
 |true =>
  rw[Jt]
  rfl
 |false =>
  have hnm:v∉kn:=fun q=>by rw[List.contains_iff_mem.2 q]at hc;cases hc
  have hi:=GA v hnm
  have hil:=uF v kn
  rw[cond_false]
  cases hb:(tP v false kn).2 with
  |true =>
   rw[hb,cond_true]at hi
   rw[←hi];rfl
  |false =>
   rw[hb,cond_false]at hi
   have:(tP v false kn).1.length≤1000000:=by
    have:=congrArg List.length hi
    simp at this
    omega
   simp only[List.nil_append,Bool.not_false,cond_true,BB this,hi]
theorem Ci{v x:Int}:∀{r:List Int},x∈AT v r→x=v∨x∈r
 |[],h => .inl (List.mem_singleton.1 h)
 |y::r,h=>by
  unfold AT at h
  split at h
  ·rcases List.mem_cons.1 h with e|e
   ·exact .inr (e▸List.mem_cons_self ..)
   ·rcases Ci e with e|e
    ·exact .inl e
    ·exact .inr (List.mem_cons_of_mem _ e)
  ·rcases List.mem_cons.1 h with e|e
   ·exact .inl e
   ·exact .inr e
theorem Fx{v x:Int}:∀{r:List Int},(x=v∨x∈r)→x∈AT v r
 |[],h=>by
  rcases h with rfl|h
  ·exact List.mem_singleton.2 rfl
  ·cases h
 |y::r,h=>by
  unfold AT
  by_cases q:y<v
  ·rw[if_pos q]
   rcases h with h|h
   ·exact List.mem_cons_of_mem _ (Fx (.inl h))
   ·rcases List.mem_cons.1 h with e|e
    ·exact e▸List.mem_cons_self ..
    ·exact List.mem_cons_of_mem _ (Fx (.inr e))
  ·rw[if_neg q]
   rcases h with h|h
   ·exact h▸List.mem_cons_self ..
   ·exact List.mem_cons_of_mem _ h
theorem Lg{v:Int}:∀{r:List Int},v∉r→r.Pairwise (·<·)→(AT v r).Pairwise (·<·)
 |[],_,_=>List.pairwise_singleton ..
 |y::r,hv,h=>by
  have h':=List.pairwise_cons.1 h
  have hne:v≠y:=fun q=>hv (q▸List.mem_cons_self ..)
  unfold AT
  by_cases q:y<v
  ·rw[if_pos q]
   refine List.pairwise_cons.2 ⟨fun x hx=>?_,Lg (fun q=>hv (List.mem_cons_of_mem _ q)) h'.2⟩
   rcases Ci hx with e|e
   ·exact e▸q
   ·exact h'.1 x e
  ·rw[if_neg q]
   refine List.pairwise_cons.2 ⟨fun x hx=>?_,h⟩
   rcases List.mem_cons.1 hx with e|e
   ·omega
   ·have:=h'.1 x e
    omega
theorem Ig{i n:Nat}(h:¬i<n):decide ((i:Int)<(n:Int))=false:=decide_eq_false (by omega)
structure FW (k:Nat) (xs:List ab) (kn:List Int) (li:List aV) (gv sh:List Int) (lg:List aM):Prop where
 fx:xs.length≤600
 fk:kn.length≤300
 fl:li.length≤9
 fe:∀i,i<li.length→(xb (li.getD i zI)).length≤26
 fg:gv.length≤k
 fs:sh.length≤k
 fo:lg.length≤k
section
variable{k n:Nat}{xs:List ab}{kn:List Int}{li:List aV}{fr:Int}{gv sh:List Int}{lg:List aM}
theorem FW.small (h:FW k xs kn li gv sh lg) (hk:k≤4294967296):Small xs kn li gv sh lg where
 fx:=by have:=h.fx;omega
 fk:=by have:=h.fk;omega
 fl:=by have:=h.fl;omega
 fg:=by have:=h.fg;omega
 fs:=by have:=h.fs;omega
 fo:=by have:=h.fo;omega
 fe:=fun i hi=>by have:=h.fe i hi;omega
theorem FW.more (h:FW k xs kn li gv sh lg){k':Nat}(hk:k≤k'):FW k' xs kn li gv sh lg where
 fx:=h.fx
 fk:=h.fk
 fl:=h.fl
 fg:=by have:=h.fg;omega
 fs:=by have:=h.fs;omega
 fo:=by have:=h.fo;omega
 fe:=h.fe
theorem FW.nil:FW k [] [] [] [] [] [] where
 fx:=by simp
 fk:=by simp
 fl:=by simp
 fg:=by simp
 fs:=by simp
 fo:=by simp
 fe:=fun i hi=>absurd hi (by simp)
def Ak (k n:Nat) (s:Option (List ab×List Int×List aV×Int×List Int×List Int×List aM×Int)):Prop :=
 ∃xs kn li fr gv sh lg c,s=some (xs,kn,li,fr,gv,sh,lg,c)∧FW k xs kn li gv sh lg∧n≤kn.length
theorem lS{c:Int}(h:FW k xs kn li gv sh lg) (hn:n≤kn.length):Ak k n (some (xs,kn,li,fr,gv,sh,lg,c)):=⟨_,_,_,_,_,_,_,_,rfl,h,hn⟩
theorem Pq{w p a b at_:Int}{env:List Int}{d dd:Bool}{key:Int}(he:env.length≤4294967296):jK N0 (w,p,a,b,at_,env,d,dd,key)=some (w,p,a,b,at_,env,d,dd,key):=by
 unfold jK
 dsimp only
 have:aO (([]:List Int).length+env.length)=true:=by
  unfold aO
  exact decide_eq_true (by rw[List.length_nil];omega)
 rw[this,cond_true,List.nil_append]
theorem Et (h:FW k xs kn li gv sh lg):∀(m i:Nat),i≤li.length→li.length-i<m→ee N0 m (xs,kn,li,fr,gv,sh,lg,[],[],[],(0:Int),[],[],[],xs,kn,li.take i,fr,gv,sh,lg,(i:Int))=some ([],[],[],(0:Int),[],[],[],xs,kn,li,fr,gv,sh,lg)
 |0,i,hi,hm=>absurd hm (by omega)
 |m+1,i,hi,hm=>by
  have hl:=h.fl
  rw[ee]
  (try dsimp only)
  by_cases hj:i<li.length
  ·have he:=h.fe i hj
   have ht:li.take (i+1)=li.take i++[li.getD i zI]:=by
    rw[List.getD_eq_getElem?_getD,List.getElem?_eq_getElem hj,Option.getD_some]
    exact(List.take_append_getElem hj).symm
   have hr:aO ((li.take i).length+1)=true:=by
    unfold aO
    exact decide_eq_true (by rw[List.length_take];omega)
   unfold xb at he
   rw[jt hj,cond_true,oM]
   dsimp only
   rw[ar hj,cond_true,Int.toNat_natCast,show li.getD i ((0:Int),((0:Int),((0:Int),((0:Int),((0:Int),(([]:List Int),(false,(false,(0:Int)))))))))=li.getD i zI from rfl,Pq (by omega),Option.bind_some]
   dsimp only
   rw[List.length_singleton,hr,cond_true,Option.bind_some]
   dsimp only
   rw[←ht,aw hj (by omega)]
   exact Et h m (i+1) hj (by omega)
  ·rw[Ig (by omega),cond_false,List.take_of_length_le (by omega)]
theorem E6 {α β:Type}{l:List α}{z:List β}(hz:z.length=0) (h:l.length≤4294967296):aO (z.length+l.length)=true:=by
 unfold aO
 exact decide_eq_true (by omega)
theorem SL (h:FW k xs kn li gv sh lg) (hk:k≤900):eS N0 (xs,kn,li,fr,gv,sh,lg)=some (xs,kn,li,fr,gv,sh,lg):=by
 have hs:=h.small (by omega)
 have hl:=h.fl
 have e:=Et (fr:=fr) h N0 0 (Nat.zero_le _) (by have:=n0;omega)
 rw[List.take_zero,show((0:Nat):Int)=0 from rfl]at e
 unfold eS oN
 dsimp only
 rw[yz hs.fx,Option.bind_some,E6 rfl hs.fk,E6 rfl hs.fg,E6 rfl hs.fs,E6 rfl hs.fo]
 simp only[cond_true,List.nil_append,Option.bind_some]
 rw[e,Option.bind_some]
theorem Ee (ts:List Int) (hts:ts.length≤100):∀(m i:Nat) (kn:List Int),i≤ts.length→ts.length-i<m→kn.length+(ts.length-i)≤800→∃kn',d9 N0 m (ts,xs,kn,li,fr,gv,sh,lg,[],[],[],(0:Int),[],[],[],(i:Int))=some (xs,kn',li,fr,gv,sh,lg,[],[],[],(0:Int),[],[],[])∧kn.length≤kn'.length∧kn'.length≤kn.length+(ts.length-i)
 |0,i,kn,hi,hm,hk=>absurd hm (by omega)
 |m+1,i,kn,hi,hm,hk=>by
  rw[d9]
  (try dsimp only)
  by_cases hj:i<ts.length
  ·have hp:=qc kn (ts.getD i 0)
   have hp2:kn.length≤(oS kn (ts.getD i 0)).length:=by
    unfold oS
    cases kn.contains (ts.getD i 0)with
    |true=>exact Nat.le_refl _
    |false=>rw[cond_false,uF];omega
   obtain⟨kn',e1,e2,e3⟩:=Ee ts hts m (i+1) (oS kn (ts.getD i 0)) hj (by omega) (by omega)
   rw[jt hj,cond_true,ar hj,cond_true,Int.toNat_natCast,pC (by omega),Option.bind_some,aw hj (by omega),e1]
   exact⟨kn',rfl,by omega,by omega⟩
  ·rw[Ig (by omega),cond_false]
   exact⟨kn,rfl,Nat.le_refl _,by omega⟩
theorem Pg{ts:List Int}(hts:ts.length≤100) (hk:kn.length+ts.length≤800):∃kn',ch N0 (xs,kn,li,fr,gv,sh,lg,ts)=some (xs,kn',li,fr,gv,sh,lg,decide ((kn'.length:Int)≤200))∧kn.length≤kn'.length∧kn'.length≤kn.length+ts.length:=by
 obtain⟨kn',e1,e2,e3⟩:=Ee (xs:=xs) (li:=li) (fr:=fr) (gv:=gv) (sh:=sh) (lg:=lg) ts hts N0 0 kn (Nat.zero_le _) (by have:=n0;omega) (by omega)
 rw[show((0:Nat):Int)=0 from rfl]at e1
 unfold ch oL
 dsimp only
 rw[e1]
 exact⟨kn',rfl,e2,by omega⟩
theorem NW{ts:List Int}(h:FW k xs kn li gv sh lg) (hn:n≤kn.length) (hts:ts.length≤50) (hk:kn.length≤250):Ak k n ((ch N0 (xs,kn,li,fr,gv,sh,lg,ts)).bind fun r3=>(cond (!r3.2.2.2.2.2.2.2) (some (r3.1,r3.2.1,r3.2.2.1,r3.2.2.2.1,r3.2.2.2.2.1,r3.2.2.2.2.2.1,r3.2.2.2.2.2.2.1,(3:Int))) (some (r3.1,r3.2.1,r3.2.2.1,r3.2.2.2.1,r3.2.2.2.2.1,r3.2.2.2.2.2.1,r3.2.2.2.2.2.2.1,(0:Int))))):=by
 obtain⟨kn',e1,e2,e3⟩:=Pg (xs:=xs) (li:=li) (fr:=fr) (gv:=gv) (sh:=sh) (lg:=lg) (ts:=ts) (kn:=kn) (by omega) (by omega)
 have hw:FW k xs kn' li gv sh lg:={ h with fk:=by omega }
 rw[e1,Option.bind_some]
 dsimp only
 cases decide ((kn'.length:Int)≤200)with
 |true=>exact lS hw (by omega)
 |false=>exact lS hw (by omega)
theorem r8W{i:Int}{w p a b at_:Int}{env:List Int}{d dd:Bool}{key:Int}{ts:List Int}(h:FW k xs kn li gv sh lg) (hk9:k≤900):∃c:aM,iX N0 (i,xs,kn,li,fr,gv,sh,lg,[],[],[],(0:Int),[],[],[],w,p,a,b,at_,env,d,dd,key,ts)=some (xs,kn,li,fr,gv,sh,lg++[c],[],[],[],(0:Int),[],[],[],ts):=by
 have hg:=h.fg
 have ho:=h.fo
 unfold iX
 dsimp only
 rw[iJ (by omega),iJ (by omega),Option.bind_some,Option.bind_some,List.length_singleton,show aO (lg.length+1)=true from by unfold aO;exact decide_eq_true (by omega),cond_true]
 exact⟨_,rfl⟩
theorem FW.log (h:FW k xs kn li gv sh lg) (c:aM):FW (k+1) xs kn li gv sh (lg++[c]) where
 fx:=h.fx
 fk:=h.fk
 fl:=h.fl
 fg:=by have:=h.fg;omega
 fs:=by have:=h.fs;omega
 fo:=by have:=h.fo;rw[List.length_append,List.length_singleton];omega
 fe:=h.fe
theorem R9{i:Int}{w p a b at_:Int}{env:List Int}{d dd d0:Bool}{key:Int}{ts:List Int}(h:FW k xs kn li gv sh lg) (hk9:k≤900) (hts:ts.length≤50) (hk:kn.length≤250) :
  Ak (k+1) kn.length (cond d (cond (!d0) ((iX N0 (i,xs,kn,li,fr,gv,sh,lg,[],[],[],(0:Int),[],[],[],w,p,a,b,at_,env,d,dd,key,ts)).bind fun g2=>((ch N0 (g2.1,g2.2.1,g2.2.2.1,g2.2.2.2.1,g2.2.2.2.2.1,g2.2.2.2.2.2.1,g2.2.2.2.2.2.2.1,g2.2.2.2.2.2.2.2.2.2.2.2.2.2.2)).bind fun r3=>(cond (!r3.2.2.2.2.2.2.2) (some (r3.1,r3.2.1,r3.2.2.1,r3.2.2.2.1,r3.2.2.2.2.1,r3.2.2.2.2.2.1,r3.2.2.2.2.2.2.1,(3:Int))) (some (r3.1,r3.2.1,r3.2.2.1,r3.2.2.2.1,r3.2.2.2.2.1,r3.2.2.2.2.2.1,r3.2.2.2.2.2.2.1,(0:Int)))))) ((ch N0 (xs,kn,li,fr,gv,sh,lg,ts)).bind fun r3=>(cond (!r3.2.2.2.2.2.2.2) (some (r3.1,r3.2.1,r3.2.2.1,r3.2.2.2.1,r3.2.2.2.2.1,r3.2.2.2.2.2.1,r3.2.2.2.2.2.2.1,(3:Int))) (some (r3.1,r3.2.1,r3.2.2.1,r3.2.2.2.1,r3.2.2.2.2.1,r3.2.2.2.2.2.1,r3.2.2.2.2.2.2.1,(0:Int)))))) ((ch N0 (xs,kn,li,fr,gv,sh,lg,ts)).bind fun r3=>(cond (!r3.2.2.2.2.2.2.2) (some (r3.1,r3.2.1,r3.2.2.1,r3.2.2.2.1,r3.2.2.2.2.1,r3.2.2.2.2.2.1,r3.2.2.2.2.2.2.1,(3:Int))) (some (r3.1,r3.2.1,r3.2.2.1,r3.2.2.2.1,r3.2.2.2.2.1,r3.2.2.2.2.2.1,r3.2.2.2.2.2.2.1,(0:Int)))))):=by
 cases d with
 |false=>exact NW (h.more (Nat.le_succ k)) (Nat.le_refl _) hts hk
 |true =>
  cases d0 with
  |true=>exact NW (h.more (Nat.le_succ k)) (Nat.le_refl _) hts hk
  |false =>
   obtain⟨c,e⟩:=r8W (i:=i) (w:=w) (p:=p) (a:=a) (b:=b) (at_:=at_) (env:=env) (d:=true) (dd:=dd) (key:=key) (ts:=ts) (fr:=fr) h hk9
   rw[cond_true,Bool.not_false,cond_true,e,Option.bind_some]
   exact NW (h.log c) (Nat.le_refl _) hts hk
theorem goW{ys:List ab}{w p a b at_:Int}{env:List Int}{d dd:Bool}{key:Int}{i:Nat}(h:FW k xs kn li gv sh lg) (hk9:k≤900) (hk:kn.length≤250) (hy:ys.length≤600) (he:env.length≤26) (hv:kZ ys (w,p,a,b,at_,env,d,dd,key)=true) (hi:i=li.length∧li.length≤8∨i<li.length) :
  Ak (k+1) kn.length (m9 N0 (ys,kn,li,fr,gv,sh,lg,w,p,a,b,at_,env,d,dd,key,(i:Int))):=by
 obtain⟨zs,at',env',d',dd',key',out',nx',e1,e2,st⟩:=Pb (nx:=fr) (by omega) (by omega) hv
 have hz:=aX st.pool
 have h5:=st.few
 have h26:=st.len
 have hl:=h.fl
 unfold m9
 dsimp only
 rw[e1,Option.bind_some]
 dsimp only
 rcases hi with⟨hi,h8⟩|hi
 ·rw[show((i:Int)==(li.length:Int))=true from by rw[beq_iff_eq];omega,cond_true,List.length_singleton,show aO (li.length+1)=true from by unfold aO;exact decide_eq_true (by omega),cond_true]
  refine R9 ⟨by omega,h.fk,by rw[List.length_append,List.length_singleton];omega,fun j hj=>?_,h.fg,h.fs,h.fo⟩ hk9 (by omega) hk
  rw[List.length_append,List.length_singleton]at hj
  by_cases hj2:j<li.length
  ·rw[List.getD_eq_getElem?_getD,List.getElem?_append_left hj2, ←List.getD_eq_getElem?_getD]
   exact h.fe j hj2
  ·rw[List.getD_eq_getElem?_getD,List.getElem?_append_right (by omega),show j-li.length=0 from by omega]
   show env'.length≤26
   omega
 ·rw[show((i:Int)==(li.length:Int))=false from by rw[beq_eq_false_iff_ne];omega,cond_false,ar hi,cond_true,Int.toNat_natCast]
  refine R9 ⟨by omega,h.fk,by rw[List.length_set];omega,fun j hj=>?_,h.fg,h.fs,h.fo⟩ hk9 (by omega) hk
  rw[List.length_set]at hj
  rw[List.getD_eq_getElem?_getD,List.getElem?_set]
  by_cases hij:i=j
  ·rw[if_pos hij,if_pos hi,Option.getD_some]
   show env'.length≤26
   omega
  ·rw[if_neg hij, ←List.getD_eq_getElem?_getD]
   exact h.fe j hj
end
theorem Mj{w p:Int}(h:¬((w=1∨w=2∨w=3)∧(p=0∨p=1))):dA N0 (w,p)=some false:=by
 unfold dA fS
 dsimp only
 by_cases w1:w=1
 ·have h0:(p==(0:Int))=false:=by rw[beq_eq_false_iff_ne];omega
  have h1:(p==(1:Int))=false:=by rw[beq_eq_false_iff_ne];omega
  subst w1
  simp only[h0,h1,beq_self_eq_true,Int.reduceBEq,cond_true,cond_false,Option.bind_some,su,Bool.not_true]
 by_cases w2:w=2
 ·have h0:(p==(0:Int))=false:=by rw[beq_eq_false_iff_ne];omega
  have h1:(p==(1:Int))=false:=by rw[beq_eq_false_iff_ne];omega
  subst w2
  simp only[h0,h1,beq_self_eq_true,Int.reduceBEq,cond_true,cond_false,Option.bind_some,su,Bool.not_true]
 by_cases w3:w=3
 ·have h0:(p==(0:Int))=false:=by rw[beq_eq_false_iff_ne];omega
  have h1:(p==(1:Int))=false:=by rw[beq_eq_false_iff_ne];omega
  subst w3
  simp only[h0,h1,beq_self_eq_true,Int.reduceBEq,cond_true,cond_false,Option.bind_some,su,Bool.not_true]
 have k1:(w==(1:Int))=false:=by rw[beq_eq_false_iff_ne];exact w1
 have k2:(w==(2:Int))=false:=by rw[beq_eq_false_iff_ne];exact w2
 have k3:(w==(3:Int))=false:=by rw[beq_eq_false_iff_ne];exact w3
 simp only[k1,k2,k3,cond_false,Option.bind_some,su,Bool.not_true]
section
variable{k n:Nat}{xs:List ab}{kn:List Int}{li:List aV}{fr:Int}{gv sh:List Int}{lg:List aM}
theorem Jr (hp:aF xs=true) (hl:kn.length≤200) (hk:Ce kn xs) (T:ByteArray):∃ys t b c,jM N0 (xs,kn,T)=some (ys,t,b,c)∧(c=0→aF ys=true∧(∃zs,ys=xs++zs)∧ci ys t=true):=by
 have hx:=aX hp
 have pS:=ot N0 n0 (xs:=xs) (by omega)
 have hP:(decide (xs.length≤500)&&cG N0 [] xs)=true:=hp
 rw[hP]at pS
 unfold jM
 dsimp only
 rw[pS,Option.bind_some,cond_true,yz (by omega),Option.bind_some,Ap (by omega) (by omega),Option.bind_some]
 cases hT:decide ((T.size:Int)>2000)with
 |true=>exact⟨_,_,_,1,rfl,fun h=>by cases h⟩
 |false =>
  rw[cond_false]
  rw[decide_eq_false_iff_not]at hT
  cases(bI (iK xs kn) 0 kn.length&&(decide (kn.length≤200)&&(decide (xs.length≤500)&&cG N0 [] xs)))with
  |false=>exact⟨_,_,_,5,rfl,fun h=>by cases h⟩
  |true =>
   obtain⟨ys,t,b,c,e1,h⟩:=Oa (T:=T) (by omega) T.size 0 xs N0 (Nat.sub_le _ _) (by have:=n0;omega) (Nat.zero_le _) hp hk
   rw[show((0:Nat):Int)=0 from rfl]at e1
   rw[Bool.not_true,cond_false,e1,Option.bind_some]
   dsimp only
   by_cases hc:c=0
   ·obtain⟨h1,h2,h3,_⟩:=h hc
    have hy:=aX h1
    rw[hc,show((0:Int) != 0)=false from rfl,cond_false,yz (by omega),Option.bind_some]
    cases decide (b<(T.size:Int))with
    |true=>exact⟨_,_,_,6,rfl,fun h=>by cases h⟩
    |false=>exact⟨_,_,_,0,rfl,fun _=>⟨h1,h2,h3⟩⟩
   ·rw[show(c != 0)=true from by rw[bne_iff_ne];exact hc,cond_true]
    exact⟨_,_,_,c,rfl,fun h=>absurd h hc⟩
theorem sn (hw:aZ xs kn li fr gv sh lg=true):aF xs=true∧kn.length≤200∧Ce kn xs∧li.length≤8:=by
 unfold aZ rJ at hw
 simp only[Bool.and_eq_true]at hw
 obtain⟨⟨h1,h2,h3⟩,h4,_⟩:=hw
 rw[dc]at h1
 refine⟨h3,of_decide_eq_true h2,fun u hu=>?_,of_decide_eq_true h4⟩
 have:=h1 u (Nat.zero_le _) (by omega)
 unfold iK at this
 rw[Bool.and_eq_true]at this
 exact this.1
theorem TB (h:FW k xs kn li gv sh lg) (hk9:k≤900) (hw:aZ xs kn li fr gv sh lg=true) (kd A B C D:Int) (T:ByteArray):Ak (k+1) kn.length (kX N0 (xs,kn,li,fr,gv,sh,lg,kd,A,B,C,D,T)):=by
 obtain⟨hp,h200,hki,h8⟩:=sn hw
 have no:∀c:Int,Ak (k+1) kn.length (some (xs,kn,li,fr,gv,sh,lg,c)):=fun c=>lS (h.more (Nat.le_succ k)) (Nat.le_refl _)
 unfold kX
 dsimp only
 by_cases hr:(A=1∨A=2∨A=3)∧(B=0∨B=1)
 ·rw[Gu hr.1 hr.2,Option.bind_some,Bool.not_true,cond_false]
  unfold bG
  rw[rK,rK,Option.bind_some,Option.bind_some,Option.bind_some]
  cases hC:(decide (C≥0)&&decide (C≤4))with
  |false=>exact no 2
  |true =>
   rw[Bool.not_true,cond_false]
   rw[Bool.and_eq_true,decide_eq_true_iff,decide_eq_true_iff]at hC
   cases hD:(decide (D≥0)&&decide (D≤4))with
   |false=>exact no 2
   |true =>
    rw[Option.bind_some,Bool.not_true,cond_false]
    rw[Bool.and_eq_true,decide_eq_true_iff,decide_eq_true_iff]at hD
    cases hCD:(C==D)with
    |true=>exact no 2
    |false =>
     rw[cond_false]
     cases hl8:((li.length:Int)==8)with
     |true=>exact no 3
     |false =>
      rw[cond_false]
      cases(fr==8)with
      |true=>exact no 3
      |false =>
       rw[cond_false]
       cases h4:decide ((xs.length:Int)>400)with
       |true=>exact no 3
       |false =>
        rw[cond_false]
        rw[decide_eq_false_iff_not]at h4
        rw[beq_eq_false_iff_ne]at hCD hl8
        obtain⟨ys,e,e1,e2,e3,_,e5⟩:=QV hp (by omega) hr.1 hr.2 hC.1 hC.2 hD.1 hD.2 hCD
        rw[e1,Option.bind_some]
        dsimp only
        rw[Bool.not_true,cond_false]
        obtain⟨xs',kn',li',fr',gv',sh',lg',c,q,q1,q2⟩:=goW (fr:=fr) (i:=li.length) h hk9 (by omega) (by omega) (by omega) e5 (.inl ⟨rfl,h8⟩)
        rw[q]
        exact⟨_,_,_,_,_,_,_,_,rfl,q1,q2⟩
 ·rw[Mj hr]
  exact no 2
theorem Lj{A:Int}(h8:li.length≤9):(∃i:Nat,A=(i:Int)∧i<li.length∧bO N0 (A,(0:Int),IntKind.i64.wrap ((li.length:Int)-1))=some true)∨bO N0 (A,(0:Int),IntKind.i64.wrap ((li.length:Int)-1))=some false:=by
 rw[au (by omega) (by omega),rK]
 cases hA:(decide (A≥0)&&decide (A≤(li.length:Int)-1))with
 |false=>exact .inr rfl
 |true =>
  rw[Bool.and_eq_true,decide_eq_true_iff,decide_eq_true_iff]at hA
  exact .inl ⟨A.toNat,by omega,by omega,rfl⟩
theorem M3{zs:List ab}{w p a b at_:Int}{env:List Int}{d dd:Bool}{key:Int}(hg:LL xs (w,p,a,b,at_,env,d,dd,key)) (hq:aF (xs++zs)=true):kZ (xs++zs) (w,p,a,b,at_,env,d,dd,key)=true :=
 sW hg.way hg.side hg.me hg.peer hg.ne hq hg.len (nI hg.env) hg.at0 hg.done (fun q=>⟨hg.live q,zo (hg.key q)⟩) (fun q=>hg.no q)
theorem We (h:FW k xs kn li gv sh lg) (hk9:k≤900) (hw:aZ xs kn li fr gv sh lg=true) (kd A B C D:Int) (T:ByteArray):Ak (k+1) kn.length (lY N0 (xs,kn,li,fr,gv,sh,lg,kd,A,B,C,D,T)):=by
 obtain⟨hp,h200,hki,h8⟩:=sn hw
 have no:∀c:Int,Ak (k+1) kn.length (some (xs,kn,li,fr,gv,sh,lg,c)):=fun c=>lS (h.more (Nat.le_succ k)) (Nat.le_refl _)
 unfold lY
 dsimp only
 rcases Lj (A:=A) h.fl with⟨i,rfl,hi,e⟩|e
 ·obtain⟨ys,t,b,c,e1,hr⟩:=Jr hp h200 hki T
  rw[e,Option.bind_some,Bool.not_true,cond_false,e1,Option.bind_some]
  dsimp only
  by_cases hc:c=0
  ·obtain⟨g1,⟨z,rfl⟩,g3⟩:=hr hc
   rw[hc,show((0:Int) != 0)=false from rfl,cond_false]
   cases hy:decide (((xs++z).length:Int)>400)with
   |true=>exact no 3
   |false =>
    rw[decide_eq_false_iff_not]at hy
    have hg:=so (h.small (by omega)) hw hi
    have he:=h.fe i hi
    rw[cond_false,oJ]
    dsimp only
    rw[ar hi,cond_true,Int.toNat_natCast,show li.getD i ((0:Int),((0:Int),((0:Int),((0:Int),((0:Int),(([]:List Int),(false,(false,(0:Int)))))))))=li.getD i zI from rfl]
    generalize li.getD i zI=x at hg he
    obtain⟨w,p,a,b,at_,env,d,dd,key⟩:=x
    dsimp only
    obtain⟨us,at',e',d',dd',ok,q1,q2,q3,q4,_⟩:=Mc (t:=t) (by omega) (show env.length≤4294967296 from by unfold xb at he;dsimp only at he;omega) (M3 hg g1)
    rw[q1,Option.bind_some,Option.bind_some]
    dsimp only
    cases ok with
    |false=>exact no 4
    |true =>
     have hu:=aX q4
     rw[Bool.not_true,cond_false]
     obtain⟨xs',kn',li',fr',gv',sh',lg',c,u,u1,u2⟩:=goW (fr:=fr) (i:=i) h hk9 (by omega) (by omega) (by omega) q2 (.inr hi)
     rw[u]
     exact⟨_,_,_,_,_,_,_,_,rfl,u1,u2⟩
  ·rw[show(c != 0)=true from by rw[bne_iff_ne];exact hc,cond_true]
   exact no 4
 ·rw[e]
  exact no 2
theorem Wk (h:FW k xs kn li gv sh lg) (hk9:k≤800) (hw:aZ xs kn li fr gv sh lg=true) (kd A B C D:Int) (T:ByteArray):Ak (k+1) kn.length (lZ N0 (xs,kn,li,fr,gv,sh,lg,kd,A,B,C,D,T)):=by
 obtain⟨hp,h200,hki,h8⟩:=sn hw
 have no:∀c:Int,Ak (k+1) kn.length (some (xs,kn,li,fr,gv,sh,lg,c)):=fun c=>lS (h.more (Nat.le_succ k)) (Nat.le_refl _)
 have hs:=h.fs
 unfold lZ
 dsimp only
 rcases Lj (A:=A) h.fl with⟨i,rfl,hi,e⟩|e
 ·rw[e,Option.bind_some,Bool.not_true,cond_false,ar hi,cond_true,iJ (by omega),Option.bind_some,pC (by omega),Option.bind_some]
  cases(li.getD ((i:Int)).toNat ((0:Int),((0:Int),((0:Int),((0:Int),((0:Int),(([]:List Int),(false,(false,(0:Int)))))))))).2.2.2.2.2.2.1 with
  |false=>exact no 2
  |true =>
   rw[Bool.not_true,cond_false]
   cases fH sh (i:Int)with
   |true=>exact no 2
   |false =>
    rw[cond_false,oK]
    dsimp only
    have hpl:=qc sh (i:Int)
    obtain⟨kn',e1,e2,e3⟩:=Pg (xs:=xs) (li:=li) (fr:=fr) (gv:=gv) (sh:=oS sh (i:Int)) (lg:=lg) (ts:=[(li.getD ((i:Int)).toNat ((0:Int),((0:Int),((0:Int),((0:Int),((0:Int),(([]:List Int),(false,(false,(0:Int)))))))))).2.2.2.2.2.2.2.2]) (kn:=kn) (by rw[List.length_singleton];omega) (by rw[List.length_singleton];omega)
    rw[List.length_singleton]at e3
    have hf:FW (k+1) xs kn' li gv (oS sh (i:Int)) lg:={ h.more (Nat.le_succ k)with fk:=by omega,fs:=by omega }
    rw[ar hi,cond_true,e1,Option.bind_some,Option.bind_some]
    dsimp only
    cases decide ((kn'.length:Int)≤200)with
    |false=>exact lS hf e2
    |true=>exact lS hf e2
 ·rw[e]
  exact no 2
end
section
variable{k n:Nat}{xs:List ab}{kn:List Int}{li:List aV}{fr:Int}{gv sh:List Int}{lg:List aM}
theorem wK (kd A B C D:Int) (T:ByteArray) (a0:0≤A) (a4:A≤4):∀(m i:Nat) (ns:List Int),i≤5→5-i<m→ns.length≤i+2→∃ns',dy N0 m (xs,kn,li,fr,gv,sh,lg,kd,A,B,C,D,T,[],[],[],(0:Int),[],[],[],ns,(i:Int))=some (xs,kn,li,fr,gv,sh,lg,kd,A,B,C,D,T,[],[],[],(0:Int),[],[],[],ns')∧ns'.length≤7
 |0,i,ns,hi,hm,_=>absurd hm (by omega)
 |m+1,i,ns,hi,hm,hl=>by
  rw[dy]
  (try dsimp only)
  by_cases h5:i<5
  ·have w:IntKind.i64.wrap ((i:Int)+1)=((i+1:Nat):Int):=by rw[au (by omega) (by omega)];omega
   rw[show decide ((i:Int)<5)=true from decide_eq_true (by omega),cond_true,w]
   cases hA:((i:Int) != A)with
   |false =>
    rw[cond_false]
    exact wK kd A B C D T a0 a4 m (i+1) ns (by omega) (by omega) (by omega)
   |true =>
    rw[bne_iff_ne]at hA
    obtain⟨v,e,_⟩:=xv (a:=A) (b:=(i:Int)) a0 a4 (by omega) (by omega) (fun q=>hA q.symm)
    rw[cond_true,e,Option.bind_some,List.length_singleton,show aO (ns.length+1)=true from by unfold aO;exact decide_eq_true (by omega),cond_true]
    exact wK kd A B C D T a0 a4 m (i+1) (ns++[v]) (by omega) (by omega) (by rw[List.length_append,List.length_singleton];omega)
  ·rw[show decide ((i:Int)<5)=false from decide_eq_false (by omega),cond_false]
   exact⟨ns,rfl,by omega⟩
def aac (k n:Nat) (s:Option ((List ab×List Int×List aV×Int×List Int×List Int×List aM×Int)⊕(List ab×List Int×List aV×Int×List Int×List Int×List aM×List ab×List Int×List aV×Int×List Int×List Int×List aM))):Prop :=
 (∃xs kn li fr gv sh lg c,s=some (.inl (xs,kn,li,fr,gv,sh,lg,c))∧FW k xs kn li gv sh lg∧n≤kn.length)∨(∃xs kn li fr gv sh lg,s=some (.inr (xs,kn,li,fr,gv,sh,lg,[],[],[],(0:Int),[],[],[]))∧FW k xs kn li gv sh lg∧n≤kn.length)
theorem Eg (ns:List Int) (hns:ns.length≤7):∀(m i:Nat) (xs:List ab) (kn:List Int),i≤ns.length→ns.length-i<m→aF xs=true→kn.length≤200→n≤kn.length→FW k xs kn li gv sh lg→aac k n (dH N0 m (xs,kn,li,fr,gv,sh,lg,[],[],[],(0:Int),[],[],[],ns,(i:Int)))
 |0,i,xs,kn,hi,hm,_,_,_,_=>absurd hm (by omega)
 |m+1,i,xs,kn,hi,hm,hp,hk,hn,h=>by
  rw[dH]
  (try dsimp only)
  by_cases hj:i<ns.length
  ·rw[jt hj,cond_true,ng]
   (try dsimp only)
   rw[ar hj,cond_true,lK hp,Option.bind_some,Option.bind_some]
   cases hA:jh xs 1 (ns.getD ((i:Int)).toNat 0) 0 with
   |none=>exact .inl ⟨_,_,_,_,_,_,_,_,rfl,h,hn⟩
   |some q =>
    obtain⟨ys,t⟩:=q
    obtain⟨g1,g2,_⟩:=oD hp hA
    have hy:=aX g1
    rw[show lu xs (some (ys,t))=(ys,t)from rfl]
    dsimp only
    obtain⟨kn',e1,e2,e3⟩:=Pg (xs:=ys) (li:=li) (fr:=fr) (gv:=gv) (sh:=sh) (lg:=lg) (ts:=[t]) (kn:=kn) (by rw[List.length_singleton];omega) (by rw[List.length_singleton];omega)
    rw[List.length_singleton]at e3
    have hf:FW k ys kn' li gv sh lg:={ h with fx:=by omega,fk:=by omega }
    rw[show decide (t<(0:Int))=false from decide_eq_false (by have:=(lR.1 g2).1;omega),cond_false,e1,Option.bind_some]
    dsimp only
    cases h2:decide ((kn'.length:Int)≤200)with
    |false=>exact .inl ⟨_,_,_,_,_,_,_,_,rfl,hf,by omega⟩
    |true =>
     rw[decide_eq_true_iff]at h2
     rw[Bool.not_true,cond_false,aw hj (by omega)]
     exact Eg ns hns m (i+1) ys kn' hj (by omega) g1 (by omega) (by omega) hf
  ·rw[Ig hj,cond_false]
   exact .inr ⟨_,_,_,_,_,_,_,rfl,h,hn⟩
theorem XR (h:FW k xs kn li gv sh lg) (hk9:k≤800) (hw:aZ xs kn li fr gv sh lg=true) (kd A B C D:Int) (T:ByteArray):Ak (k+1) kn.length (l5 N0 (xs,kn,li,fr,gv,sh,lg,kd,A,B,C,D,T)):=by
 obtain⟨hp,h200,hki,h8⟩:=sn hw
 have no:∀c:Int,Ak (k+1) kn.length (some (xs,kn,li,fr,gv,sh,lg,c)):=fun c=>lS (h.more (Nat.le_succ k)) (Nat.le_refl _)
 have hg:=h.fg
 unfold l5
 dsimp only
 by_cases ha:0≤A∧A≤4
 ·rw[nJ ha.1 ha.2,Option.bind_some,Bool.not_true,cond_false,iJ (by omega),Option.bind_some]
  cases fH gv A with
  |true=>exact no 2
  |false =>
   have hpl:=qc gv A
   obtain⟨ns,e1,e2⟩:=wK (xs:=xs) (kn:=kn) (li:=li) (fr:=fr) (gv:=gv) (sh:=sh) (lg:=lg) kd A B C D T ha.1 ha.2 N0 0 [50+A,90+A] (by omega) (by have:=n0;omega) (by simp)
   have hf:FW (k+1) xs kn li (oS gv A) sh lg:={ h.more (Nat.le_succ k)with fg:=by omega }
   rw[show((0:Nat):Int)=0 from rfl]at e1
   rw[cond_false,wF ha.1 ha.2,pA ha.1 ha.2,Option.bind_some,Option.bind_some,e1,Option.bind_some]
   (try dsimp only)
   rw[pC (by omega),Option.bind_some]
   have hlp:=Eg (k:=k+1) (n:=kn.length) (li:=li) (fr:=fr) (gv:=oS gv A) (sh:=sh) (lg:=lg) ns e2 N0 0 xs kn (Nat.zero_le _) (by have:=n0;omega) hp h200 (Nat.le_refl _) hf
   rw[show((0:Nat):Int)=0 from rfl]at hlp
   rcases hlp with⟨xs',kn',li',fr',gv',sh',lg',c,u,u1,u2⟩|⟨xs',kn',li',fr',gv',sh',lg',u,u1,u2⟩
   ·rw[u]
    exact⟨_,_,_,_,_,_,_,_,rfl,u1,u2⟩
   ·rw[u]
    exact⟨_,_,_,_,_,_,_,_,rfl,u1,u2⟩
 ·have e:bG N0 A=some false:=by
   unfold bG
   rw[rK,Option.bind_some]
   have:(decide (A≥0)&&decide (A≤4))=false:=by
    rw[Bool.and_eq_false_iff,decide_eq_false_iff_not,decide_eq_false_iff_not]
    omega
   rw[this]
  rw[e]
  exact no 2
theorem J8 (kd A B C D:Int) (T:ByteArray):∃v,ki N0 (kd,A,B,C,D,T)=some v:=by
 unfold ki
 cases(kd==(1:Int))
 ·cases(kd==(2:Int))
  ·cases(kd==(3:Int))
   ·cases(kd==(4:Int))<;>exact⟨_,rfl⟩
   ·exact⟨_,rfl⟩
  ·exact⟨_,rfl⟩
 ·exact⟨_,rfl⟩
theorem Pa (h:FW k xs kn li gv sh lg) (hk9:k≤800) (hw:aZ xs kn li fr gv sh lg=true) (kd A B C D:Int) (T:ByteArray):Ak (k+1) kn.length (nh N0 (xs,kn,li,fr,gv,sh,lg,kd,A,B,C,D,T)):=by
 unfold nh
 dsimp only
 cases(kd==(1:Int))with
 |true =>
  obtain⟨_,_,_,_,_,_,_,_,e,h1,h2⟩:=TB h (by omega) hw kd A B C D T
  rw[cond_true,e]
  exact⟨_,_,_,_,_,_,_,_,rfl,h1,h2⟩
 |false =>
  cases(kd==(2:Int))with
  |true =>
   obtain⟨_,_,_,_,_,_,_,_,e,h1,h2⟩:=We h (by omega) hw kd A B C D T
   rw[cond_false,cond_true,e]
   exact⟨_,_,_,_,_,_,_,_,rfl,h1,h2⟩
  |false =>
   cases(kd==(3:Int))with
   |true =>
    obtain⟨_,_,_,_,_,_,_,_,e,h1,h2⟩:=XR h hk9 hw kd A B C D T
    rw[cond_false,cond_false,cond_true,e]
    exact⟨_,_,_,_,_,_,_,_,rfl,h1,h2⟩
   |false =>
    obtain⟨_,_,_,_,_,_,_,_,e,h1,h2⟩:=Wk h hk9 hw kd A B C D T
    rw[cond_false,cond_false,cond_false,e]
    exact⟨_,_,_,_,_,_,_,_,rfl,h1,h2⟩
end
theorem C6 (l:List UInt8):(ByteArray.mk l.toArray).size=l.length:=rfl
theorem Ol (n:Nat){b:List Int}{i:Int}(h:Int) (l:List ByteArray) (k:Nat) (hl:l≠[]) (hk:∀s∈l,s.size≤k) (hc:Cu b i):∃i' h' v,lH n (b,i,h,l)=some (b,i',h',v)∧Cu b i'∧v.size≤k:=by
 unfold lH
 dsimp only
 obtain⟨i1,h1,v1,e1,c1,hb⟩:=cR n h (l.length:Int) hc
 have hpos:0<l.length:=List.length_pos_iff.2 hl
 rw[e1,Option.bind_some]
 dsimp only
 have hv:0≤v1∧v1<(l.length:Int):=by
  rcases hb with⟨q,_⟩|q
  ·omega
  ·exact q
 have e:v1=((v1.toNat:Nat):Int):=by omega
 have hin:aI v1 l.length=true:=by rw[e];exact ar (by omega)
 rw[hin,cond_true]
 refine⟨_,_,_,rfl,c1,hk _ ?_⟩
 rw[List.getD_eq_getElem?_getD,List.getElem?_eq_getElem (by omega),Option.getD_some]
 exact List.getElem_mem _
theorem KY{x:Int}(h0:0≤x) (h1:x≤999):∃r,bj N0 x=some r∧r.size≤3:=by
 unfold bj
 by_cases hq:x≤0
 ·rw[decide_eq_true hq,cond_true]
  exact⟨_,rfl,by decide⟩
 ·rw[decide_eq_false hq,cond_false]
  have:=n0
  obtain⟨r,e1,e2⟩:=DL 3 N0 x (⟨#[]⟩:ByteArray) h0 (by omega) (by have:(10:Int) ^ 3=1000:=rfl;omega) (by omega) (by decide)
  rw[e1,Option.bind_some]
  exact⟨r,rfl,e2⟩
theorem aeh{x y:Int}:jz N0 (x,y)=some (if x<y then x else y):=by
 unfold jz
 dsimp only
 by_cases q:x<y
 ·rw[decide_eq_true q,if_pos q];rfl
 ·rw[decide_eq_false q,if_neg q];rfl
section
variable{k:Nat}{b:List Int}{xs:List ab}{kn:List Int}{li:List aV}{fr:Int}{gv sh:List Int}{lg:List aM}
end
theorem Bo:∀(m i:Nat) (xs:List ab),i≤5→5-i<m→aF xs=true→∃ys,cL N0 m ([],[],[],(0:Int),[],[],[],xs,([]:List Int),(i:Int))=some ([],[],[],(0:Int),[],[],[],ys,([]:List Int))∧aF ys=true
 |0,i,xs,hi,hm,hp=>absurd hm (by omega)
 |m+1,i,xs,hi,hm,hp=>by
  rw[cL]
  (try dsimp only)
  by_cases h5:i<5
  ·have w:IntKind.i64.wrap ((i:Int)+1)=((i+1:Nat):Int):=by rw[au (by omega) (by omega)];omega
   rw[show decide ((i:Int)<5)=true from decide_eq_true (by omega),cond_true,lK hp,Option.bind_some,w]
   cases hA:jh xs 1 (i:Int) 0 with
   |none=>exact Bo m (i+1) xs (by omega) (by omega) hp
   |some q =>
    obtain⟨ys,t⟩:=q
    exact Bo m (i+1) ys (by omega) (by omega) (oD hp hA).1
  ·rw[show decide ((i:Int)<5)=false from decide_eq_false (by omega),cond_false]
   exact⟨xs,rfl,hp⟩
theorem GP{xs:List ab}{kd a b:Int}(hp:aF xs=true):aF (lu xs (jh xs kd a b)).1=true:=by
 cases hA:jh xs kd a b with
 |none=>exact hp
 |some q =>
  obtain⟨ys,t⟩:=q
  exact(oD hp hA).1
theorem Oh (kn:List Int) (v:Int):1≤(oS kn v).length:=by
 unfold oS
 cases h:kn.contains v with
 |false=>rw[cond_false,uF];omega
 |true =>
  rw[cond_true]
  cases kn with
  |nil=>cases h
  |cons a r=>rw[List.length_cons];omega
theorem Gc:∀(m i:Nat) (xs:List ab) (kn:List Int),i≤5→5-i<m→aF xs=true→kn.length≤i→(i=0∨1≤kn.length)→∃ys kn',cK N0 m ([],[],[],(0:Int),[],[],[],xs,kn,(i:Int))=some ([],[],[],(0:Int),[],[],[],ys,kn')∧aF ys=true∧kn'.length≤5∧1≤kn'.length
 |0,i,xs,kn,hi,hm,hp,_,_=>absurd hm (by omega)
 |m+1,i,xs,kn,hi,hm,hp,hk,h1=>by
  rw[cK]
  (try dsimp only)
  by_cases h5:i<5
  ·have w:IntKind.i64.wrap ((i:Int)+1)=((i+1:Nat):Int):=by rw[au (by omega) (by omega)];omega
   have p1:=GP (kd:=1) (a:=90+(i:Int)) (b:=0) hp
   have hl:=qc kn (lu (lu xs (jh xs 1 (90+(i:Int)) 0)).1 (jh (lu xs (jh xs 1 (90+(i:Int)) 0)).1 7 (lu xs (jh xs 1 (90+(i:Int)) 0)).2 0)).2
   have hq:=Oh kn (lu (lu xs (jh xs 1 (90+(i:Int)) 0)).1 (jh (lu xs (jh xs 1 (90+(i:Int)) 0)).1 7 (lu xs (jh xs 1 (90+(i:Int)) 0)).2 0)).2
   rw[show decide ((i:Int)<5)=true from decide_eq_true (by omega),cond_true,jp]
   (try dsimp only)
   rw[pA (by omega) (by omega),Option.bind_some,lK hp,Option.bind_some,Option.bind_some]
   (try dsimp only)
   rw[jR p1,Option.bind_some,pC (by omega),Option.bind_some,w]
   exact Gc m (i+1) _ _ (by omega) (by omega) (GP p1) (by omega) (.inr hq)
  ·rw[show decide ((i:Int)<5)=false from decide_eq_false (by omega),cond_false]
   exact⟨xs,kn,rfl,hp,by omega,by omega⟩
theorem Ga:∃xs kn,gX N0 ()=some (xs,kn,[],(0:Int),[],[],[])∧FW 0 xs kn [] [] [] []∧1≤kn.length:=by
 have hN:=n0
 obtain⟨xs,e1,p1⟩:=Bo N0 0 [] (by omega) (by omega) (by decide)
 obtain⟨ys,kn,e2,p2,k2,k3⟩:=Gc N0 0 xs [] (by omega) (by omega) p1 (Nat.zero_le _) (.inl rfl)
 rw[show((0:Nat):Int)=0 from rfl]at e1 e2
 have hl:=aX p2
 unfold gX
 rw[e1,Option.bind_some]
 dsimp only
 rw[e2]
 exact⟨ys,kn,rfl,⟨by omega,by omega,by simp,fun i hi=>absurd hi (by simp),by simp,by simp,by simp⟩,k3⟩
abbrev wm:=Int×(Int×(Int×(Int×(Int×ByteArray))))
section
variable{b:List Int}
def VC (b:List Int) (q:Nat) (s:Option (List Int×Int×Int×List ab×List Int×List aV×Int×List Int×List Int×List aM×List ab×List Int×List aV×Int×List Int×List Int×List aM×List wm)):Prop :=
 ∃i h xs kn li fr gv sh lg ls,s=some (b,i,h,[],[],[],(0:Int),[],[],[],xs,kn,li,fr,gv,sh,lg,ls)∧Cu b i∧FW q xs kn li gv sh lg∧1≤kn.length∧ls.length≤q∧∀d∈ls,d.2.2.2.2.2.size≤100
end
theorem Rn (x:List ab×Int×Int×Int):lX N0 x=bk N0 x:=rfl
theorem G3 (x:List ab×Int):kU N0 x=cf N0 x:=rfl
theorem Dy:∀(m:Nat) (x:List Int×Int×List Int×Bool×Int),de N0 m x=b8 N0 m x
 |0,_=>rfl
 |m+1,x=>by
  rw[de,b8]
  simp only[Dy m]
theorem QH (x:List Int×Int):lW N0 x=dF N0 x:=by
 unfold lW dF
 simp only[Dy]
theorem BW:∀(m:Nat) x,cX N0 m x=cL N0 m x
 |0,_=>rfl
 |m+1,x=>by
  rw[cX,cL]
  simp only[BW m,G3]
theorem BV:∀(m:Nat) x,cW N0 m x=cK N0 m x
 |0,_=>rfl
 |m+1,x=>by
  rw[cW,cK]
  simp only[BV m,kE,jp,G3,Rn,QH]
theorem QW:iR N0 ()=gX N0 ():=by
 unfold iR gX
 simp only[BW,BV]
def VZ (b:List Int) (li:List aV) (s:Option (List Int×Int×Int×Int×Int×List aV×Int×Int×Int×Int×Int×Int×Int×Int×Int×ByteArray)):Prop :=
 ∃i h p q f r s' t kd A B C D T,s=some (b,i,h,p,q,li,f,r,s',t,kd,A,B,C,D,T)∧Cu b i∧T.size≤100
section
variable{k:Nat}{b:List Int}{xs:List ab}{kn:List Int}{li:List aV}{fr:Int}{gv sh:List Int}{lg:List aM}
theorem GI{i:Int}(h:Int){p q f r s t a1 a2 a3 a4 a5 a7 a8 a9 a10 a11:Int}{a6 a12:ByteArray}(hc:Cu b i) (h0:0<li.length):∃i' h' p' q' f' r' s' t' y1 y2 y3 y4 y5 y6 y7 y8 y9,eC N0 (b,i,h,p,q,li,f,r,s,t,a1,a2,a3,a4,a5,a6,(li.length:Int),a7,a8,a9,a10,a11,a12)=some (b,i',h',p',q',li,f',r',s',t',a1,a2,a3,a4,a5,a6,a7,a8,a9,a10,a11,a12,y1,y2,y3,y4,y5,y6,y7,y8,y9)∧Cu b i':=by
 obtain⟨i1,h1,v1,e1,c1,hb⟩:=cR N0 h (li.length:Int) hc
 have hv:0≤v1∧v1<(li.length:Int):=by
  rcases hb with⟨q,_⟩|q
  ·omega
  ·exact q
 have e:v1=((v1.toNat:Nat):Int):=by omega
 have hin:aI v1 li.length=true:=by rw[e];exact ar (by omega)
 unfold eC
 dsimp only
 rw[e1,Option.bind_some]
 dsimp only
 rw[hin,cond_true]
 exact⟨_,_,_,_,_,_,_,_,_,_,_,_,_,_,_,_,_,rfl,c1⟩
theorem yy{i:Int}(h:Int){p f r s t:Int}{n:Nat}(hc:Cu b i) (hl9:li.length≤9) (hk1:1≤n) (hk3:n≤300):VZ b li (eG N0 (b,i,h,p,(n:Int),li,f,r,s,t)):=by
 unfold eG
 dsimp only
 simp only[Int.toNat_natCast]
 cases hl:decide ((li.length:Int)<2)with
 |true =>
  rw[cond_true]
  obtain⟨i1,h1,v1,e1,c1,b1⟩:=cR N0 h 3 hc
  obtain⟨i2,h2,v2,e2,c2,b2⟩:=cR N0 h1 2 c1
  obtain⟨i3,h3,v3,e3,c3,b3⟩:=cR N0 h2 3 c2
  obtain⟨i4,h4,v4,e4,c4,b4⟩:=cR N0 h3 3 c3
  obtain⟨i5,h5,v5,e5,c5⟩:=Fk N0 h4 3 c4
  rw[e1,Option.bind_some]
  dsimp only
  rw[e2,Option.bind_some]
  dsimp only
  rw[e3,Option.bind_some]
  dsimp only
  rw[e4,Option.bind_some]
  dsimp only
  cases hl2:decide ((li.length:Int)>0)with
  |false=>exact⟨_,_,_,_,_,_,_,_,_,_,_,_,_,_,rfl,c4,by decide⟩
  |true =>
   rw[decide_eq_true_iff]at hl2
   rw[cond_true,e5,Option.bind_some]
   dsimp only
   cases v5 with
   |true=>exact⟨_,_,_,_,_,_,_,_,_,_,_,_,_,_,rfl,c5,by decide⟩
   |false =>
    obtain⟨i6,h6,p',q',f',r',s',t',y1,y2,y3,y4,y5,y6,y7,y8,y9,e6,c6⟩:=GI (li:=li) (p:=((p.toNat:Nat):Int)) (q:=(n:Int)) (f:=f) (r:=((r.toNat:Nat):Int)) (s:=((s.toNat:Nat):Int)) (t:=((t.toNat:Nat):Int)) (a1:=0) (a2:=0) (a3:=0) (a4:=0) (a5:=0) (a6:=⟨#[]⟩) (a7:=1) (a8:=IntKind.i64.wrap ((1:Int)+v1)) (a9:=v2) (a10:=v3) (a11:=v4) (a12:=⟨#[]⟩) h5 c5 (show 0<li.length by omega)
    rw[Bool.not_false,cond_true,e6]
    exact⟨_,_,_,_,_,_,_,_,_,_,_,_,_,_,rfl,c6,by decide⟩
 |false =>
  rw[decide_eq_false_iff_not]at hl
  obtain⟨i0,h0,v0,e0,c0⟩:=Fk N0 h 9 hc
  rw[cond_false,e0,Option.bind_some]
  dsimp only
  cases v0 with
  |true =>
   rw[cond_true]
   obtain⟨i1,h1,v1,e1,c1,b1⟩:=cR N0 h0 3 c0
   obtain⟨i2,h2,v2,e2,c2,b2⟩:=cR N0 h1 2 c1
   obtain⟨i3,h3,v3,e3,c3,b3⟩:=cR N0 h2 3 c2
   obtain⟨i4,h4,v4,e4,c4,b4⟩:=cR N0 h3 3 c3
   obtain⟨i5,h5,v5,e5,c5⟩:=Fk N0 h4 3 c4
   rw[e1,Option.bind_some]
   dsimp only
   rw[e2,Option.bind_some]
   dsimp only
   rw[e3,Option.bind_some]
   dsimp only
   rw[e4,Option.bind_some]
   dsimp only
   cases hl2:decide ((li.length:Int)>0)with
   |false=>exact⟨_,_,_,_,_,_,_,_,_,_,_,_,_,_,rfl,c4,by decide⟩
   |true =>
    rw[decide_eq_true_iff]at hl2
    rw[cond_true,e5,Option.bind_some]
    dsimp only
    cases v5 with
    |true=>exact⟨_,_,_,_,_,_,_,_,_,_,_,_,_,_,rfl,c5,by decide⟩
    |false =>
     obtain⟨i6,h6,p',q',f',r',s',t',y1,y2,y3,y4,y5,y6,y7,y8,y9,e6,c6⟩:=GI (li:=li) (p:=((p.toNat:Nat):Int)) (q:=(n:Int)) (f:=f) (r:=((r.toNat:Nat):Int)) (s:=((s.toNat:Nat):Int)) (t:=((t.toNat:Nat):Int)) (a1:=0) (a2:=0) (a3:=0) (a4:=0) (a5:=0) (a6:=⟨#[]⟩) (a7:=1) (a8:=IntKind.i64.wrap ((1:Int)+v1)) (a9:=v2) (a10:=v3) (a11:=v4) (a12:=⟨#[]⟩) h5 c5 (show 0<li.length by omega)
     rw[Bool.not_false,cond_true,e6]
     exact⟨_,_,_,_,_,_,_,_,_,_,_,_,_,_,rfl,c6,by decide⟩
  |false =>
   obtain⟨i2,h2,v2,e2,c2,b2⟩:=cR N0 h0 14 c0
   rw[cond_false,e2,Option.bind_some]
   dsimp only
   cases(v2==(0:Int))with
   |true =>
    obtain⟨i3,h3,v3,e3,c3,b3⟩:=cR N0 h2 3 c2
    rw[cond_true,e3]
    exact⟨_,_,_,_,_,_,_,_,_,_,_,_,_,_,rfl,c3,by decide⟩
   |false =>
    obtain⟨i3,h3,v3,e3,c3,b3⟩:=cR N0 h2 (li.length:Int) c2
    rw[cond_false]
    cases(v2==(1:Int))with
    |true =>
     rw[cond_true,e3]
     exact⟨_,_,_,_,_,_,_,_,_,_,_,_,_,_,rfl,c3,by decide⟩
    |false =>
     obtain⟨i4,h4,v4,e4,c4,b4⟩:=cR N0 h3 (if(n:Int)<5 then(n:Int)else 5) c3
     obtain⟨i5,h5,v5,e5,c5,b5⟩:=cR N0 h4 (n:Int) c4
     obtain⟨i6,h6,v6,e6,c6,b6⟩:=cR N0 h5 9 c5
     have hv4:0≤v4∧v4≤(n:Int)-1:=by
      rcases b4 with⟨q1,_⟩|⟨q1,q2⟩
      ·split at q1<;>omega
      ·split at q2<;>omega
     have hv5:0≤v5∧v5≤(n:Int)-1:=by
      rcases b5 with⟨q1,_⟩|⟨q1,q2⟩<;>omega
     obtain⟨ra,na,sa⟩:=KY (x:=(n:Int)-1-v4) (by omega) (by omega)
     obtain⟨rb,nb,sb⟩:=KY (x:=v5) (by omega) (by omega)
     rw[cond_false,e3,Option.bind_some]
     dsimp only
     rw[aeh,Option.bind_some,e4,Option.bind_some]
     dsimp only
     rw[e5,Option.bind_some]
     dsimp only
     rw[e6,Option.bind_some]
     dsimp only
     rw[au (show -9223372036854775808≤(n:Int)-1 by omega) (by omega),au (show -9223372036854775808≤(n:Int)-1-v4 by omega) (by omega),na,nb]
     cases(v6==(0:Int))with
     |true =>
      simp(disch:=(simp only[iT,C6,List.length_cons,List.length_nil];omega)) only[Option.bind_some,m8,cond_true,cond_false]
      exact⟨_,_,_,_,_,_,_,_,_,_,_,_,_,_,rfl,c6,by simp only[iT,C6,List.length_cons,List.length_nil];omega⟩
     |false =>
     cases(v6==(1:Int))with
     |true =>
      simp(disch:=(simp only[iT,C6,List.length_cons,List.length_nil];omega)) only[Option.bind_some,m8,cond_true,cond_false]
      exact⟨_,_,_,_,_,_,_,_,_,_,_,_,_,_,rfl,c6,by simp only[iT,C6,List.length_cons,List.length_nil];omega⟩
     |false =>
     cases(v6==(2:Int))with
     |true =>
      simp(disch:=(simp only[iT,C6,List.length_cons,List.length_nil];omega)) only[Option.bind_some,m8,cond_true,cond_false]
      generalize hL:([_,_,_,_,_,_,_,_,_]:List ByteArray)=L
      have hL1:L≠[]:=by rw[←hL];simp
      have hL2:∀s∈L,s.size≤100:=by
       rw[←hL]
       simp only[List.forall_mem_cons,iT,C6,List.length_cons,List.length_nil]
       refine⟨by omega,by omega,by omega,by omega,by omega,by omega,by omega,by omega,by omega,fun s hs=>by cases hs⟩
      obtain⟨i7,h7,v7,e7,c7,s7⟩:=Ol N0 h6 L 100 hL1 hL2 c6
      rw[e7]
      exact⟨_,_,_,_,_,_,_,_,_,_,_,_,_,_,rfl,c7,s7⟩
     |false =>
     cases(v6==(3:Int))with
     |true =>
      simp(disch:=(simp only[iT,C6,List.length_cons,List.length_nil];omega)) only[Option.bind_some,m8,cond_true,cond_false]
      exact⟨_,_,_,_,_,_,_,_,_,_,_,_,_,_,rfl,c6,by simp only[iT,C6,List.length_cons,List.length_nil];omega⟩
     |false =>
      simp(disch:=(simp only[iT,C6,List.length_cons,List.length_nil];omega)) only[Option.bind_some,m8,cond_true,cond_false]
      exact⟨_,_,_,_,_,_,_,_,_,_,_,_,_,_,rfl,c6,by simp only[iT,C6,List.length_cons,List.length_nil];omega⟩
theorem doO (h:FW k xs kn li gv sh lg) (hk9:k≤800) (kd A B C D:Int) (T:ByteArray):∃xs' kn' li' fr' gv' sh' lg' c,fJ N0 (xs,kn,li,fr,gv,sh,lg,kd,A,B,C,D,T)=some (xs',kn',li',fr',gv',sh',lg',c)∧FW (k+1) xs' kn' li' gv' sh' lg'∧(c=0→kn.length≤kn'.length) ∧
  ∃z1 z2 z3 z4 z5 z6 z7,lc N0 (xs,kn,li,fr,gv,sh,lg,kd,A,B,C,D,T)=cond (c==(0:Int)) none (some (z1,z2,z3,z4,z5,z6,z7,c)):=by
 suffices H:∃xs' kn' li' fr' gv' sh' lg' c,fJ N0 (xs,kn,li,fr,gv,sh,lg,kd,A,B,C,D,T)=some (xs',kn',li',fr',gv',sh',lg',c)∧FW (k+1) xs' kn' li' gv' sh' lg'∧(c=0→kn.length≤kn'.length) ∧
   ∃z1 z2 z3 z4 z5 z6 z7,ij N0 (xs,kn,li,fr,gv,sh,lg,kd,A,B,C,D,T)=some (z1,z2,z3,z4,z5,z6,z7,c)by
  obtain⟨xs',kn',li',fr',gv',sh',lg',c,e1,e2,e3,z1,z2,z3,z4,z5,z6,z7,e4⟩:=H
  refine⟨xs',kn',li',fr',gv',sh',lg',c,e1,e2,e3,z1,z2,z3,z4,z5,z6,z7,?_⟩
  show((ij N0 (xs,kn,li,fr,gv,sh,lg,kd,A,B,C,D,T)).bind fun r=>cond (r.2.2.2.2.2.2.2==(0:Int)) none (some r))=_
  rw[e4];rfl
 unfold fJ ij
 dsimp only
 rw[Bm (h.small (by omega)),Option.bind_some,Option.bind_some]
 cases hw:aZ xs kn li fr gv sh lg with
 |false=>exact⟨_,_,_,_,_,_,_,_,rfl,FW.nil,(fun q=>by cases q),_,_,_,_,_,_,_,rfl⟩
 |true =>
  obtain⟨v,hv⟩:=J8 kd A B C D T
  rw[Bool.not_true,cond_false,cond_false,hv,Option.bind_some,Option.bind_some]
  cases v with
  |false=>exact⟨_,_,_,_,_,_,_,_,rfl,FW.nil,(fun q=>by cases q),_,_,_,_,_,_,_,rfl⟩
  |true =>
   obtain⟨xs',kn',li',fr',gv',sh',lg',c,e,h1,h2⟩:=Pa h hk9 hw kd A B C D T
   rw[Bool.not_true,cond_false,cond_false,oQ,mf]
   dsimp only
   simp only[SL h (show k≤900 by omega),e,Option.bind_some,SL h1 (show k+1≤900 by omega)]
   cases(c != 0)with
   |true=>exact⟨_,_,_,_,_,_,_,_,rfl,h.more (Nat.le_succ k),(fun _=>Nat.le_refl _),_,_,_,_,_,_,_,rfl⟩
   |false=>exact⟨_,_,_,_,_,_,_,_,rfl,h1,(fun _=>h2),_,_,_,_,_,_,_,rfl⟩
end
section
variable{b:List Int}
abbrev afz:=List Int×Int×Int×List ab×List Int×List aV×Int×List Int×List Int×List aM×List ab×List Int×List aV×Int×List Int×List Int×List aM×List wm×Int×Int×Int×Int×Int×Int×Int×ByteArray×List ab×List Int×List aV×Int×List Int×List Int×List aM×Int
abbrev afB:=List Int×Int×Int×List ab×List Int×List aV×Int×List Int×List Int×List aM×List ab×List Int×List aV×Int×List Int×List Int×List aM×List wm×Int×Int×Int×Int×Int×Int×Int×ByteArray×Int×Int×Int×Int×Int×Int×Int×Int
def afA (b:List Int) (k:Nat) (xs:List ab) (kn:List Int) (li:List aV) (fr:Int) (gv sh:List Int) (lg:List aM) (ls:List wm) (nn io:Int) (s:Option (afz⊕afB)):Prop :=
 (∃i h kd A B C D T xs2 kn2 li2 fr2 gv2 sh2 lg2,s=some (Sum.inl (b,i,h,[],[],[],(0:Int),[],[],[],xs,kn,li,fr,gv,sh,lg,ls,nn,io,kd,A,B,C,D,T,xs2,kn2,li2,fr2,gv2,sh2,lg2,(0:Int)))∧Cu b i∧T.size≤100∧FW (k+1) xs2 kn2 li2 gv2 sh2 lg2∧kn.length≤kn2.length) ∨
 (∃i h kd A B C D T n1 n2 n3 n4 n5 n6 n7 c,s=some (Sum.inr (b,i,h,[],[],[],(0:Int),[],[],[],xs,kn,li,fr,gv,sh,lg,ls,nn,io,kd,A,B,C,D,T,n1,n2,n3,n4,n5,n6,n7,c))∧Cu b i∧T.size≤100∧(c==(0:Int))=false)
theorem Dp{k:Nat}{xs:List ab}{kn:List Int}{li:List aV}{fr:Int}{gv sh:List Int}{lg:List aM}(hw:FW k xs kn li gv sh lg) (hk1:1≤kn.length) (hk8:k≤800) (ls:List wm) (nn io:Int):∀(m j:Nat) (i h kd A B C D:Int) (T:ByteArray) (n1 n2 n3 n4 n5 n6 n7 c:Int),j≤6→6-j<m→Cu b i→T.size≤100→(c==(0:Int))=false →
  afA b k xs kn li fr gv sh lg ls nn io (cg N0 m (b,i,h,[],[],[],(0:Int),[],[],[],xs,kn,li,fr,gv,sh,lg,ls,nn,io,kd,A,B,C,D,T,n1,n2,n3,n4,n5,n6,n7,c,(j:Int)))
 |0,j,i,h,kd,A,B,C,D,T,n1,n2,n3,n4,n5,n6,n7,c,hj,hm,_,_,_=>absurd hm (by omega)
 |m+1,j,i,h,kd,A,B,C,D,T,n1,n2,n3,n4,n5,n6,n7,c,hj,hm,hc,hT,hz=>by
  rw[cg]
  dsimp only
  by_cases h6:j<6
  ·rw[show decide ((j:Int)<6)=true from decide_eq_true (by omega),cond_true]
   cases(c==(4:Int))with
   |false=>exact .inr ⟨_,_,_,_,_,_,_,_,_,_,_,_,_,_,_,_,rfl,hc,hT,hz⟩
   |true =>
    have w:IntKind.i64.wrap ((j:Int)+1)=((j+1:Nat):Int):=by rw[au (by omega) (by omega)];omega
    obtain⟨i1,h1,p1,q1,f1,r1,s1,t1,kd1,A1,B1,C1,D1,T1,e1,c1,z1⟩:=yy (li:=li) (p:=(xs.length:Int)) (f:=fr) (r:=(gv.length:Int)) (s:=(sh.length:Int)) (t:=(lg.length:Int)) (n:=kn.length) h hc hw.fl hk1 hw.fk
    obtain⟨xs3,kn3,li3,fr3,gv3,sh3,lg3,cc,e2,f2,z2,y1,y2,y3,y4,y5,y6,y7,e3⟩:=doO (fr:=fr) hw hk8 kd1 A1 B1 C1 D1 T1
    rw[cond_true,e1,Option.bind_some]
    dsimp only
    rw[e3]
    cases hcc:(cc==(0:Int))with
    |true =>
     obtain rfl:cc=0:=by simpa using hcc
     rw[cond_true,Option.bind_none,e2,Option.bind_some]
     dsimp only
     refine .inl ⟨i1,h1,kd1,A1,B1,C1,D1,T1,xs3,kn3,li3,fr3,gv3,sh3,lg3,?_,c1,z1,f2,z2 rfl⟩
     unfold QM
     dsimp only
     cases decide (IntKind.i64.wrap ((j:Int)+1)<6)<;>rfl
    |false =>
     rw[cond_false,Option.bind_some,w]
     dsimp only
     have ih:=Dp (fr:=fr) hw hk1 hk8 ls nn io m (j+1) i1 h1 kd1 A1 B1 C1 D1 T1 ((y1.toNat:Nat):Int) ((y2.toNat:Nat):Int) ((y3.toNat:Nat):Int) y4 ((y5.toNat:Nat):Int) ((y6.toNat:Nat):Int) ((y7.toNat:Nat):Int) cc (by omega) (by omega) c1 z1 hcc
     rcases ih with⟨i,h,kd,A,B,C,D,T,xs2,kn2,li2,fr2,gv2,sh2,lg2,e,q⟩|⟨i,h,kd,A,B,C,D,T,n1,n2,n3,n4,n5,n6,n7,c,e,q⟩
     ·rw[e]
      exact .inl ⟨i,h,kd,A,B,C,D,T,xs2,kn2,li2,fr2,gv2,sh2,lg2,rfl,q⟩
     ·rw[e]
      exact .inr ⟨i,h,kd,A,B,C,D,T,n1,n2,n3,n4,n5,n6,n7,c,rfl,q⟩
  ·rw[show decide ((j:Int)<6)=false from decide_eq_false (by omega),cond_false]
   exact .inr ⟨_,_,_,_,_,_,_,_,_,_,_,_,_,_,_,_,rfl,hc,hT,hz⟩
theorem Ou {α:Type}{x:Option α}:QM none x=x:=rfl
theorem Oc{q:Nat}{s x:Option (List Int×Int×Int×List ab×List Int×List aV×Int×List Int×List Int×List aM×List ab×List Int×List aV×Int×List Int×List Int×List aM×List wm)}(h:VC b q s):VC b q (QM s x):=by
 obtain⟨i,h,xs,kn,li,fr,gv,sh,lg,ls,rfl,z⟩:=h
 exact⟨i,h,xs,kn,li,fr,gv,sh,lg,ls,rfl,z⟩
theorem sA (q:Nat) (hq:q≤700):∀(m j:Nat) (i h:Int) (xs:List ab) (kn:List Int) (li:List aV) (fr:Int) (gv sh:List Int) (lg:List aM) (ls:List wm),j≤q→q-j<m→Cu b i→FW j xs kn li gv sh lg→1≤kn.length→ls.length=j→(∀d∈ls,d.2.2.2.2.2.size≤100) →
  VC b q (bl N0 m (b,i,h,[],[],[],(0:Int),[],[],[],xs,kn,li,fr,gv,sh,lg,ls,(q:Int),(j:Int)))
 |0,j,i,h,xs,kn,li,fr,gv,sh,lg,ls,hj,hm,_,_,_,_,_=>absurd hm (by omega)
 |m+1,j,i,h,xs,kn,li,fr,gv,sh,lg,ls,hj,hm,hc,hw,hk1,hl,hs=>by
  rw[bl]
  dsimp only
  by_cases hjq:j<q
  ·obtain⟨i1,h1,p1,q1,f1,r1,s1,t1,kd1,A1,B1,C1,D1,T1,e1,c1,z1⟩:=yy (li:=li) (p:=(xs.length:Int)) (f:=fr) (r:=(gv.length:Int)) (s:=(sh.length:Int)) (t:=(lg.length:Int)) (n:=kn.length) h hc hw.fl hk1 hw.fk
   obtain⟨xs3,kn3,li3,fr3,gv3,sh3,lg3,cc,e2,f2,z2,y1,y2,y3,y4,y5,y6,y7,e3⟩:=doO (fr:=fr) hw (by omega) kd1 A1 B1 C1 D1 T1
   have more:∀d:wm,d.2.2.2.2.2.size≤100→∀x∈ls++[d],x.2.2.2.2.2.size≤100:=fun d hd x hx=>by
    rcases List.mem_append.1 hx with hx|hx
    ·exact hs x hx
    ·rw[List.mem_singleton.1 hx];exact hd
   have len1:∀d:wm,(ls++[d]).length=j+1:=fun d=>by rw[List.length_append,List.length_singleton,hl]
   have rm:∀d:wm,aO (ls.length+[d].length)=true:=fun d=>by
    unfold aO
    exact decide_eq_true (by rw[List.length_singleton];omega)
   rw[jt hjq,cond_true,e1,Option.bind_some]
   dsimp only
   rw[e3]
   cases hcc:(cc==(0:Int))with
   |true =>
    obtain rfl:cc=0:=by simpa using hcc
    rw[cond_true,Option.bind_none,Ou,e2,Option.bind_some]
    dsimp only
    rw[show decide ((0:Int)<6)=true from rfl,cond_true,show((0:Int)==4)=false from rfl,cond_false,rm,cond_true,beq_self_eq_true,cond_true,aw hjq (by omega)]
    exact sA q hq m (j+1) i1 h1 xs3 kn3 li3 fr3 gv3 sh3 lg3 _ hjq (by omega) c1 f2 (by have:=z2 rfl;omega) (len1 _) (more _ z1)
   |false =>
    rw[cond_false,Option.bind_some]
    dsimp only
    refine Oc ?_
    have t:=Dp (b:=b) (fr:=fr) hw hk1 (by omega) ls (q:Int) (j:Int) N0 0 i1 h1 kd1 A1 B1 C1 D1 T1 ((y1.toNat:Nat):Int) ((y2.toNat:Nat):Int) ((y3.toNat:Nat):Int) y4 ((y5.toNat:Nat):Int) ((y6.toNat:Nat):Int) ((y7.toNat:Nat):Int) cc (by omega) (by have:=n0;omega) c1 z1 hcc
    rw[show((0:Nat):Int)=0 from rfl]at t
    rcases t with⟨i4,h4,kd4,A4,B4,C4,D4,T4,xs4,kn4,li4,fr4,gv4,sh4,lg4,e4,cu4,s4,f4,l4⟩|⟨i4,h4,kd4,A4,B4,C4,D4,T4,n1,n2,n3,n4,n5,n6,n7,c4,e4,cu4,s4,z4⟩
    ·rw[e4,Option.bind_some]
     dsimp only
     rw[rm,cond_true,beq_self_eq_true,cond_true,aw hjq (by omega)]
     exact sA q hq m (j+1) i4 h4 xs4 kn4 li4 fr4 gv4 sh4 lg4 _ hjq (by omega) cu4 f4 (by omega) (len1 _) (more _ s4)
    ·rw[e4,Option.bind_some]
     dsimp only
     rw[rm,cond_true,z4,cond_false,aw hjq (by omega)]
     exact sA q hq m (j+1) i4 h4 xs kn li fr gv sh lg _ hjq (by omega) cu4 (hw.more (Nat.le_succ j)) hk1 (len1 _) (more _ s4)
  ·rw[Ig hjq,cond_false]
   exact⟨_,_,_,_,_,_,_,_,_,_,rfl,hc,hw.more (by omega),hk1,by omega,hs⟩
theorem IH{i:Int}(h most:Int) (hc:Cu b i) (h0:0≤most) (h1:most≤600):∃i' h' xs kn li fr gv sh lg,gK N0 (b,i,h,most)=some (b,i',h',xs,kn,li,fr,gv,sh,lg)∧Cu b i'∧FW 601 xs kn li gv sh lg∧1≤kn.length:=by
 obtain⟨xs,kn,e1,f1,k1⟩:=Ga
 obtain⟨i2,h2,v2,e2,c2,b2⟩:=cR N0 h (most+1) hc
 have hv:0≤v2∧v2≤most:=by
  rcases b2 with⟨q,_⟩|⟨q1,q2⟩<;>omega
 obtain⟨i3,h3,xs3,kn3,li3,fr3,gv3,sh3,lg3,ls3,e3,c3,f3,k3,_⟩:=sA (b:=b) v2.toNat (by omega) N0 0 i2 h2 xs kn [] 0 [] [] [] [] (Nat.zero_le _) (by have:=n0;omega) c2 f1 k1 rfl (fun d hd=>by cases hd)
 rw[show((0:Nat):Int)=0 from rfl,show((v2.toNat:Nat):Int)=v2 from by omega]at e3
 unfold gK
 dsimp only
 rw[QW,e1,Option.bind_some,au (by omega) (by omega),e2,Option.bind_some]
 dsimp only
 rw[e3]
 exact⟨_,_,_,_,_,_,_,_,_,rfl,c3,f3.more (by omega),k3⟩
def GW (xs:List ab) (kn:List Int) (li:List aV) (gv sh:List Int) (lg:List aM):Prop :=
 Small xs kn li gv sh lg∧li.length≤9∧lg.length≤4294967296∧(1≤kn.length∧kn.length≤301)∧xs.length≤601∧(xs.length≤500→kn.length≤200→FW 602 xs kn li gv sh lg)
theorem Lk{xs:List ab}{kn:List Int}{li:List aV}{gv sh:List Int}{lg:List aM}(h:FW 602 xs kn li gv sh lg) (hk:1≤kn.length):GW xs kn li gv sh lg :=
 ⟨h.small (by omega),h.fl,by have:=h.fo;omega,⟨hk,by have:=h.fk;omega⟩,by have:=h.fx;omega,fun _ _=>h⟩
def VY (b:List Int) (s:Option (List Int×Int×Int×List ab×List Int×List aV×Int×List Int×List Int×List aM)):Prop :=
 ∃i h xs kn li fr gv sh lg,s=some (b,i,h,xs,kn,li,fr,gv,sh,lg)∧Cu b i∧GW xs kn li gv sh lg
theorem Q5{a m:Int}(hb:b.length≤4294967296) (h0:0≤a) (h1:0≤m) (h2:a≤1000) (h3:m≤600):∃v,ol N0 (b,a,m)=some v∧0≤v∧v≤600:=by
 unfold ol
 dsimp only
 rw[show((4:Int) != 0)=true from rfl,cond_true,show((b.length:Int)).tdiv 4=(b.length:Int) / 4 from Int.tdiv_eq_ediv_of_nonneg (by omega),au (n:=(b.length:Int) / 4) (by omega) (by omega),au (n:=a+(b.length:Int) / 4) (by omega) (by omega)]
 cases hq:decide (a+(b.length:Int) / 4>m)with
 |true=>exact⟨m,rfl,h1,h3⟩
 |false =>
  rw[decide_eq_false_iff_not]at hq
  exact⟨_,rfl,by omega,by omega⟩
theorem E5 {α:Type}{l:List α}{v:α}(h:l.length≤4294967000):aO (l.length+[v].length)=true:=by
 unfold aO
 exact decide_eq_true (by rw[List.length_singleton];omega)
theorem Us{k:Nat}{xs:List ab}{kn:List Int}{li:List aV}{gv sh:List Int}{lg:List aM}(h:FW k xs kn li gv sh lg) (j:Nat){y:aV}(hy:xb y=xb (li.getD j zI)) (hj:j<li.length):FW k xs kn (li.set j y) gv sh lg where
 fx:=h.fx
 fk:=h.fk
 fl:=by rw[List.length_set];exact h.fl
 fg:=h.fg
 fs:=h.fs
 fo:=h.fo
 fe:=fun i hi=>by
  rw[List.length_set]at hi
  rw[List.getD_eq_getElem?_getD,List.getElem?_set]
  by_cases q:j=i
  ·subst q
   rw[if_pos rfl,if_pos hi,Option.getD_some,hy]
   exact h.fe j hi
  ·rw[if_neg q, ←List.getD_eq_getElem?_getD]
   exact h.fe i hi
theorem yM{xs:List ab}{kn:List Int}{li:List aV}{gv sh:List Int}{lg:List aM}(h:Small xs kn li gv sh lg) (j:Nat){y:aV}(hy:xb y=xb (li.getD j zI)) (hj:j<li.length):Small xs kn (li.set j y) gv sh lg where
 fx:=h.fx
 fk:=h.fk
 fl:=by rw[List.length_set];exact h.fl
 fg:=h.fg
 fs:=h.fs
 fo:=h.fo
 fe:=fun i hi=>by
  rw[List.length_set]at hi
  rw[List.getD_eq_getElem?_getD,List.getElem?_set]
  by_cases q:j=i
  ·subst q
   rw[if_pos rfl,if_pos hi,Option.getD_some,hy]
   exact h.fe j hi
  ·rw[if_neg q, ←List.getD_eq_getElem?_getD]
   exact h.fe i hi
theorem Uq{xs:List ab}{kn:List Int}{li:List aV}{gv sh:List Int}{lg:List aM}(h:GW xs kn li gv sh lg) (j:Nat){y:aV}(hy:xb y=xb (li.getD j zI)) (hj:j<li.length):GW xs kn (li.set j y) gv sh lg :=
 ⟨yM h.1 j hy hj,by rw[List.length_set];exact h.2.1,h.2.2.1,h.2.2.2.1,h.2.2.2.2.1,fun a c=>Us (h.2.2.2.2.2 a c) j hy hj⟩
theorem FN{i:Int}(h:Int) (hc:Cu b i) (hb:b.length≤4294967296):VY b (gJ N0 (b,i,h,b)):=by
 obtain⟨v0,e0,v1,v2⟩:=Q5 (b:=b) (a:=14) (m:=30) hb (by omega) (by omega) (by omega) (by omega)
 obtain⟨i1,h1,xs,kn,li,fr,gv,sh,lg,e1,c1,w1,k1⟩:=IH h v0 hc v1 v2
 obtain⟨i2,h2,v,e2,c2,b2⟩:=cR N0 h1 30 c1
 have f1:=w1.fx
 have f2:=w1.fk
 have f3:=w1.fl
 have f4:=w1.fg
 have f5:=w1.fs
 have f6:=w1.fo
 have w2:=w1.more (Nat.le_succ 601)
 have g2:=Lk w2 k1
 have s2:=w2.small (by omega)
 unfold gJ
 dsimp only
 rw[e0,Option.bind_some,e1,Option.bind_some]
 dsimp only
 rw[e2,Option.bind_some]
 dsimp only
 cases(v==(0:Int))with
 |true =>
  obtain⟨i3,h3,v3,e3,c3,_⟩:=JB N0 h2 [(-1:Int),(9:Int),(8:Int)] (by simp) c2
  rw[cond_true,e3]
  exact⟨_,_,_,_,_,_,_,_,_,rfl,c3,g2⟩
 |false =>
 rw[cond_false]
 cases(v==(1:Int))with
 |true =>
  rw[cond_true,E5 (by omega),cond_true]
  exact⟨_,_,_,_,_,_,_,_,_,rfl,c2,Lk (gv:=gv++[1]) ⟨w2.fx,w2.fk,w2.fl,w2.fe,by rw[List.length_append,List.length_singleton];omega,w2.fs,w2.fo⟩ k1⟩
 |false =>
 rw[cond_false]
 cases(v==(2:Int))with
 |true =>
  obtain⟨i3,h3,v3,e3,c3,_⟩:=cR N0 h2 4 c2
  rw[cond_true]
  unfold jH
  dsimp only
  rw[e3,Option.bind_some]
  dsimp only
  rw[E5 (by omega),cond_true]
  exact⟨_,_,_,_,_,_,_,_,_,rfl,c3,Lk (sh:=sh++[v3]) ⟨w2.fx,w2.fk,w2.fl,w2.fe,w2.fg,by rw[List.length_append,List.length_singleton];omega,w2.fo⟩ k1⟩
 |false =>
 rw[cond_false]
 cases(v==(3:Int))with
 |true =>
  rw[cond_true]
  cases hl:decide ((lg.length:Int)>0)with
  |false=>exact⟨_,_,_,_,_,_,_,_,_,rfl,c2,g2⟩
  |true =>
   rw[decide_eq_true_iff]at hl
   rw[cond_true,show CW 1 (lg.length:Int) lg.length=true from decide_eq_true ⟨by omega,by omega,by omega⟩,cond_true]
   have hsl:(sl lg 1 (lg.length:Int)).length≤lg.length:=by
    unfold sl
    simp
   exact⟨_,_,_,_,_,_,_,_,_,rfl,c2,Lk (lg:=sl lg 1 (lg.length:Int)) ⟨w2.fx,w2.fk,w2.fl,w2.fe,w2.fg,w2.fs,by omega⟩ k1⟩
 |false =>
 rw[cond_false]
 cases(v==(4:Int))with
 |true =>
  rw[cond_true,E5 (by omega),cond_true]
  generalize IntKind.i64.wrap ((xs.length:Int)-1)=z
  have hz:(kn++[z]).length=kn.length+1:=by rw[List.length_append,List.length_singleton]
  exact⟨_,_,_,_,_,_,_,_,_,rfl,c2,⟨s2.fx,by omega,s2.fl,s2.fg,s2.fs,s2.fo,s2.fe⟩,f3,by omega,⟨by omega,by omega⟩,by omega,fun _ q=>⟨w2.fx,by omega,w2.fl,w2.fe,w2.fg,w2.fs,w2.fo⟩⟩
 |false =>
 rw[cond_false]
 cases(v==(5:Int))with
 |true =>
  rw[cond_true]
  cases hl:decide ((li.length:Int)>0)with
  |false=>exact⟨_,_,_,_,_,_,_,_,_,rfl,c2,g2⟩
  |true =>
   rw[decide_eq_true_iff]at hl
   rw[cond_true,show aI 0 li.length=true from decide_eq_true ⟨by omega,by omega⟩,cond_true,cond_true]
   exact⟨_,_,_,_,_,_,_,_,_,rfl,c2,Uq g2 (Int.toNat 0) rfl (by show 0<_;omega)⟩
 |false =>
 rw[cond_false]
 cases(v==(6:Int))with
 |true =>
  rw[cond_true,E5 (by omega),cond_true]
  generalize ((0:Int),((0:Int),(0:Int)))=z
  have hz:(xs++[z]).length=xs.length+1:=by rw[List.length_append,List.length_singleton]
  exact⟨_,_,_,_,_,_,_,_,_,rfl,c2,⟨by omega,s2.fk,s2.fl,s2.fg,s2.fs,s2.fo,s2.fe⟩,f3,by omega,⟨k1,by omega⟩,by omega,fun q _=>⟨by omega,w2.fk,w2.fl,w2.fe,w2.fg,w2.fs,w2.fo⟩⟩
 |false=>exact⟨_,_,_,_,_,_,_,_,_,rfl,c2,g2⟩
end
theorem OW{k a b:Int}{i:Nat}(hi:i≤4294967296) (h:gP N0 (k,a,b,(i:Int))=true):(k=1∧0≤a∧a≤199)∨((k=5∨k=7)∧0≤a∧a<(i:Int))∨((k=2∨k=3∨k=4∨k=6∨k=8)∧0≤a∧a<(i:Int)∧0≤b∧b<(i:Int)):=by
 have w:IntKind.i64.wrap ((i:Int)-(1:Int))=(i:Int)-1:=au (by omega) (by omega)
 have hr:∀v lo hi:Int,aD N0 (v,lo,hi)=some (decide (v≥lo)&&decide (v≤hi)):=fun v lo hi=>by
  unfold aD
  cases q:decide (v≥lo)<;>(simp[q])
 have hk:gP N0 (k,a,b,(i:Int))=(bH N0 (k,a,b,(i:Int))).getD false:=rfl
 rw[hk]at h
 unfold bH at h
 dsimp only at h
 rw[w,hr,hr,hr]at h
 by_cases h1:k=1
 ·subst h1
  rw[show bh N0 1=some 0 from rfl]at h
  left
  cases q:(decide (a≥0)&&decide (a≤199))with
  |false=>simp only[Option.bind_some,beq_self_eq_true,cond_true,q]at h;cases h
  |true =>
   rw[Bool.and_eq_true,decide_eq_true_iff,decide_eq_true_iff]at q
   exact⟨rfl,q.1,q.2⟩
 by_cases h5:k=5∨k=7
 ·right;left
  have hc:bh N0 k=some 1:=by rcases h5 with rfl|rfl<;>rfl
  rw[hc]at h
  cases q:(decide (a≥0)&&decide (a≤(i:Int)-1))with
  |false=>simp only[Option.bind_some,show((1:Int)==0)=false from rfl,beq_self_eq_true,cond_true,cond_false,q]at h;cases h
  |true =>
   rw[Bool.and_eq_true,decide_eq_true_iff,decide_eq_true_iff]at q
   exact⟨h5,q.1,by omega⟩
 by_cases h2:k=2∨k=3∨k=4∨k=6∨k=8
 ·right;right
  have hc:bh N0 k=some 2:=by rcases h2 with rfl|rfl|rfl|rfl|rfl<;>rfl
  rw[hc]at h
  cases q:(decide (a≥0)&&decide (a≤(i:Int)-1))with
  |false=>simp only[Option.bind_some,show((2:Int)==0)=false from rfl,show((2:Int)==1)=false from rfl,beq_self_eq_true,cond_true,cond_false,q]at h;cases h
  |true =>
   cases q2:(decide (b≥0)&&decide (b≤(i:Int)-1))with
   |false=>simp only[Option.bind_some,show((2:Int)==0)=false from rfl,show((2:Int)==1)=false from rfl,beq_self_eq_true,cond_true,cond_false,q,q2]at h;cases h
   |true =>
    rw[Bool.and_eq_true,decide_eq_true_iff,decide_eq_true_iff]at q q2
    exact⟨h2,q.1,by omega,q2.1,by omega⟩
 exfalso
 have hc:∃c,bh N0 k=some c∧c≠0∧c≠1∧c≠2:=by
  unfold bh
  simp only[show(k==1)=false from by rw[beq_eq_false_iff_ne];exact h1,show(k==2)=false from by rw[beq_eq_false_iff_ne];omega,show(k==3)=false from by rw[beq_eq_false_iff_ne];omega,show(k==4)=false from by rw[beq_eq_false_iff_ne];omega,show(k==5)=false from by rw[beq_eq_false_iff_ne];omega,show(k==6)=false from by rw[beq_eq_false_iff_ne];omega,show(k==7)=false from by rw[beq_eq_false_iff_ne];omega,show(k==8)=false from by rw[beq_eq_false_iff_ne];omega,cond_false]
  exact⟨_,rfl,by decide,by decide,by decide⟩
 obtain⟨c,hc,c0,c1,c2⟩:=hc
 rw[hc]at h
 simp only[Option.bind_some,show(c==0)=false from by rw[beq_eq_false_iff_ne];exact c0,show(c==1)=false from by rw[beq_eq_false_iff_ne];exact c1,show(c==2)=false from by rw[beq_eq_false_iff_ne];exact c2,cond_false]at h
 cases h
def fB (F:List Bool) (v:Int):Bool:=F.getD v.toNat false
def fN (F:List Bool) (j:Nat):Bool:=F.getD j false
theorem Cs (F:List Bool) (j:Nat):fB F (j:Int)=fN F j:=by unfold fB fN;rw[Int.toNat_natCast]
def Fc (xs:List ab) (F:List Bool) (b:Int):Bool:=match ou xs ((7:Int),(b,(0:Int)))with
 |some j=>fN F j
 |none=>false
def CY (xs:List ab) (kn:List Int) (F:List Bool) (b:Int):Bool:=match ou xs ((7:Int),(b,(0:Int)))with
 |some j=>fB F b || fH kn (j:Int)
 |none=>false
def Ab (F:List Bool) (pow:Int→Bool) (n:ab):Bool :=
 bif n.1==1 then(decide (n.2.1≥0)&&decide (n.2.1≤49))else bif n.1==5 || n.1==7 then fB F n.2.1 else(fB F n.2.1&&fB F n.2.2) || (n.1==8&&((fB F n.2.1&&pow n.2.2) || (fB F n.2.2&&pow n.2.1)))
def De (xs:List ab) (F:List Bool) (t:Nat):Bool:=Ab F (Fc xs F) (xs.getD t dN)
def FV (xs:List ab) (kn:List Int) (F:List Bool) (t:Nat):Bool:=Ab F (CY xs kn F) (xs.getD t dN)
def sB (xs:List ab) (kn:List Int):Nat→List Bool
 |0=>[]
 |n+1=>sB xs kn n++[fH kn (n:Int) || FV xs kn (sB xs kn n) n]
theorem uj (xs:List ab) (kn:List Int):∀n,(sB xs kn n).length=n
 |0=>rfl
 |n+1=>by rw[sB,List.length_append,uj xs kn n];rfl
theorem E3{xs:List ab}{kn:List Int}{i:Nat}:∀{n:Nat},i<n→fN (sB xs kn n) i=(fH kn (i:Int) || FV xs kn (sB xs kn i) i)
 |0,h=>by omega
 |n+1,h=>by
  unfold fN
  rw[sB]
  by_cases q:i=n
  ·subst q
   rw[List.getD_eq_getElem?_getD,List.getElem?_append_right (by rw[uj];exact Nat.le_refl _),uj,Nat.sub_self];rfl
  ·rw[List.getD_eq_getElem?_getD,List.getElem?_append_left (by rw[uj];omega), ←List.getD_eq_getElem?_getD]
   exact E3 (by omega)
theorem Qx{xs:List ab}{kn:List Int}{i n m:Nat}(h1:i<n) (h2:i<m):fN (sB xs kn n) i=fN (sB xs kn m) i:=by
 rw[E3 h1,E3 h2]
theorem N8{xs:List ab}{kn:List Int}{v:Int}{n m:Nat}(h0:0≤v) (h1:v<(n:Int)) (h2:v<(m:Int)):fB (sB xs kn n) v=fB (sB xs kn m) v:=by
 obtain⟨i,rfl⟩:=Int.eq_ofNat_of_zero_le h0
 rw[Cs,Cs]
 exact Qx (by omega) (by omega)
theorem Kd{F G:List Bool}{p q:Int→Bool}{n:ab}{t:Nat}(hn:(n.1=1∧0≤n.2.1∧n.2.1≤199)∨((n.1=5∨n.1=7)∧0≤n.2.1∧n.2.1<(t:Int))∨((n.1=2∨n.1=3∨n.1=4∨n.1=6∨n.1=8)∧0≤n.2.1∧n.2.1<(t:Int)∧0≤n.2.2∧n.2.2<(t:Int)))
  (h:∀v,0≤v→v<(t:Int)→fB F v=fB G v∧p v=q v):Ab F p n=Ab G q n:=by
 unfold Ab
 rcases hn with⟨a,_⟩|⟨a,b,c⟩|⟨a,b,c,d,e⟩
 ·rw[a];rfl
 ·rw[(h _ b c).1]
  rcases a with a|a<;>rw[a]<;>rfl
 ·rw[(h _ b c).1,(h _ b c).2,(h _ d e).1,(h _ d e).2]
theorem nz{xs:List ab}(hp:aF xs=true){t:Nat}(ht:t<xs.length):((xs.getD t dN).1=1∧0≤(xs.getD t dN).2.1∧(xs.getD t dN).2.1≤199)∨(((xs.getD t dN).1=5∨(xs.getD t dN).1=7)∧0≤(xs.getD t dN).2.1∧(xs.getD t dN).2.1<(t:Int))∨(((xs.getD t dN).1=2∨(xs.getD t dN).1=3∨(xs.getD t dN).1=4∨(xs.getD t dN).1=6∨(xs.getD t dN).1=8)∧0≤(xs.getD t dN).2.1∧(xs.getD t dN).2.1<(t:Int)∧0≤(xs.getD t dN).2.2∧(xs.getD t dN).2.2<(t:Int)) :=
 OW (by have:=aX hp;omega) (xB hp ht)
abbrev kK (xs:List ab) (kn:List Int):List Bool:=sB xs kn xs.length
theorem yG{xs:List ab}(hp:aF xs=true){kn:List Int}{t:Nat}(ht:t<xs.length):fN (kK xs kn) t=(fH kn (t:Int) || FV xs kn (kK xs kn) t):=by
 rw[E3 ht]
 congr 1
 refine Kd (nz hp ht) fun v h0 h1=>?_
 have e:=N8 (xs:=xs) (kn:=kn) h0 h1 (show v<(xs.length:Int)by omega)
 refine⟨e,?_⟩
 unfold CY
 rw[e]
theorem BG{xs:List ab}{b:Int}{j:Nat}(h:ou xs ((7:Int),(b,(0:Int)))=some j):j<xs.length∧xs.getD j dN=((7:Int),(b,(0:Int))):=by
 have:=Ba h
 exact⟨by omega,this.2.2⟩
theorem Qt{xs:List ab}(hp:aF xs=true){kn:List Int}{F:List Bool}(hF:∀i,i<xs.length→fN F i=true→fN (kK xs kn) i=true){t:Nat}(ht:t<xs.length) (h:De xs F t=true):fN (kK xs kn) t=true:=by
 rw[yG hp ht,Bool.or_eq_true]
 right
 have hv:∀v:Int,0≤v→v<(t:Int)→fB F v=true→fB (kK xs kn) v=true:=fun v h0 h1 q=>by
  obtain⟨i,rfl⟩:=Int.eq_ofNat_of_zero_le h0
  rw[Cs]at q ⊢
  exact hF i (by omega) q
 have hw:∀v:Int,0≤v→v<(t:Int)→Fc xs F v=true→CY xs kn (kK xs kn) v=true:=fun v h0 h1 q=>by
  unfold Fc at q
  unfold CY
  cases e:ou xs ((7:Int),(v,(0:Int)))with
  |none=>rw[e]at q;cases q
  |some j =>
   rw[e]at q
   dsimp only at q ⊢
   obtain⟨j1,j2⟩:=BG e
   have:=hF j j1 q
   rw[yG hp j1,Bool.or_eq_true]at this
   rw[Bool.or_eq_true]
   rcases this with this|this
   ·exact .inr this
   ·left
    unfold FV Ab at this
    rw[j2]at this
    exact this
 unfold De Ab at h
 unfold FV Ab
 rcases nz hp ht with⟨a,b,c⟩|⟨a,b,c⟩|⟨a,b,c,d,e⟩
 ·rw[a]at h ⊢;exact h
 ·rcases a with a|a<;>rw[a]at h ⊢<;>exact hv _ b c h
 ·have z:((xs.getD t dN).1==1)=false∧((xs.getD t dN).1==5 || (xs.getD t dN).1==7)=false:=by
   rcases a with a|a|a|a|a<;>rw[a]<;>exact⟨rfl,rfl⟩
  rw[z.1,z.2,cond_false,cond_false]at h ⊢
  rw[Bool.or_eq_true,Bool.and_eq_true,Bool.and_eq_true,Bool.or_eq_true,Bool.and_eq_true,Bool.and_eq_true]at h ⊢
  rcases h with⟨h1,h2⟩|⟨h0,⟨h1,h2⟩|⟨h1,h2⟩⟩
  ·exact .inl ⟨hv _ b c h1,hv _ d e h2⟩
  ·exact .inr ⟨h0, .inl ⟨hv _ b c h1,hw _ d e h2⟩⟩
  ·exact .inr ⟨h0, .inr ⟨hv _ d e h1,hw _ b c h2⟩⟩
theorem Pk{xs:List ab}(hp:aF xs=true){kn:List Int}{F:List Bool}(hk:∀i,i<xs.length→fH kn (i:Int)=true→fN F i=true) (hc:∀i,i<xs.length→De xs F i=true→fN F i=true):∀(n t:Nat),t<n→t<xs.length→fN (kK xs kn) t=true→fN F t=true
 |0,t,h,_,_=>by omega
 |n+1,t,hn,ht,h=>by
  have ih:=Pk hp hk hc n
  rw[yG hp ht,Bool.or_eq_true]at h
  rcases h with h|h
  ·exact hk t ht h
  refine hc t ht ?_
  have hv:∀v:Int,0≤v→v<(t:Int)→fB (kK xs kn) v=true→fB F v=true:=fun v h0 h1 q=>by
   obtain⟨i,rfl⟩:=Int.eq_ofNat_of_zero_le h0
   rw[Cs]at q ⊢
   exact ih i (by omega) (by omega) q
  have hw:∀v:Int,0≤v→v<(t:Int)→CY xs kn (kK xs kn) v=true→Fc xs F v=true:=fun v h0 h1 q=>by
   unfold CY at q
   unfold Fc
   cases e:ou xs ((7:Int),(v,(0:Int)))with
   |none=>rw[e]at q;cases q
   |some j =>
    rw[e]at q
    dsimp only at q ⊢
    obtain⟨j1,j2⟩:=BG e
    rw[Bool.or_eq_true]at q
    rcases q with q|q
    ·refine hc j j1 ?_
     unfold De Ab
     rw[j2]
     exact hv v h0 h1 q
    ·exact hk j j1 q
  unfold FV Ab at h
  unfold De Ab
  rcases nz hp ht with⟨a,b,c⟩|⟨a,b,c⟩|⟨a,b,c,d,e⟩
  ·rw[a]at h ⊢;exact h
  ·rcases a with a|a<;>rw[a]at h ⊢<;>exact hv _ b c h
  ·have z:((xs.getD t dN).1==1)=false∧((xs.getD t dN).1==5 || (xs.getD t dN).1==7)=false:=by
    rcases a with a|a|a|a|a<;>rw[a]<;>exact⟨rfl,rfl⟩
   rw[z.1,z.2,cond_false,cond_false]at h ⊢
   rw[Bool.or_eq_true,Bool.and_eq_true,Bool.and_eq_true,Bool.or_eq_true,Bool.and_eq_true,Bool.and_eq_true]at h ⊢
   rcases h with⟨h1,h2⟩|⟨h0,⟨h1,h2⟩|⟨h1,h2⟩⟩
   ·exact .inl ⟨hv _ b c h1,hv _ d e h2⟩
   ·exact .inr ⟨h0, .inl ⟨hv _ b c h1,hw _ d e h2⟩⟩
   ·exact .inr ⟨h0, .inr ⟨hv _ d e h1,hw _ b c h2⟩⟩
theorem Pl{xs:List ab}(hp:aF xs=true){kn:List Int}{F:List Bool}(hl:F.length=xs.length) (hk:∀i,i<xs.length→fH kn (i:Int)=true→fN F i=true) (hle:∀i,i<xs.length→fN F i=true→fN (kK xs kn) i=true) (hc:∀i,i<xs.length→De xs F i=true→fN F i=true):F=kK xs kn:=by
 refine List.ext_getElem (by rw[hl,uj]) fun i h1 h2=>?_
 have e1:fN F i=F[i]:=kw h1 false
 have e2:fN (kK xs kn) i=(kK xs kn)[i]:=kw h2 false
 rw[←e1, ←e2]
 rw[hl]at h1
 have a:=hle i h1
 have b:=Pk hp hk hc (i+1) i (by omega) h1
 cases q:fN F i with
 |true=>rw[a q]
 |false =>
  cases r:fN (kK xs kn) i with
  |true=>rw[b r]at q;cases q
  |false=>rfl
theorem LA:∀{a b:List Int},a.Pairwise (·<·)→b.Pairwise (·<·)→(∀x,x∈a↔x∈b)→a=b
 |[],[],_,_,_=>rfl
 |[],y::r,_,_,h=>absurd ((h y).2 (List.mem_cons_self ..)) (by simp)
 |x::r,[],_,_,h=>absurd ((h x).1 (List.mem_cons_self ..)) (by simp)
 |x::r,y::q,h1,h2,h=>by
  have a1:=List.pairwise_cons.1 h1
  have a2:=List.pairwise_cons.1 h2
  have e:x=y:=by
   rcases List.mem_cons.1 ((h x).1 (List.mem_cons_self ..))with e|e
   ·exact e
   ·rcases List.mem_cons.1 ((h y).2 (List.mem_cons_self ..))with g|g
    ·exact g.symm
    ·have:=a2.1 x e
     have:=a1.1 y g
     omega
  subst e
  have:r=q:=LA a1.2 a2.2 fun v=>by
   constructor
   ·intro hv
    rcases List.mem_cons.1 ((h v).1 (List.mem_cons_of_mem _ hv))with e|e
    ·have:=a1.1 v hv
     omega
    ·exact e
   ·intro hv
    rcases List.mem_cons.1 ((h v).2 (List.mem_cons_of_mem _ hv))with e|e
    ·have:=a2.1 v hv
     omega
    ·exact e
  rw[this]
theorem Eu{d:Array Int}{x:Int}:∀j,d[j]! = x→∃i,i≤j∧Lib.keeps d i=true∧d[i]! = x
 |0,h=>⟨0,Nat.le_refl _,by simp[Lib.keeps],h⟩
 |j+1,h=>by
  by_cases q:d[j+1]! = d[j]!
  ·obtain⟨i,h1,h2,h3⟩:=Eu j (q▸h)
   exact⟨i,by omega,h2,h3⟩
  ·exact⟨j+1,Nat.le_refl _,by simp only[Lib.keeps,Nat.add_sub_cancel];exact decide_eq_true (.inr q),h⟩
theorem Rm{zs:List Int}{x:Int}:x∈zs↔∃j,j<zs.length∧zs.toArray[j]! = x:=by
 constructor
 ·intro h
  obtain⟨j,h1,h2⟩:=List.getElem_of_mem h
  exact⟨j,h1,by simp[h1,h2]⟩
 ·rintro ⟨j,h1,h2⟩
  have:zs[j]=x:=by simpa [h1]using h2
  exact this▸List.getElem_mem h1
theorem Pr{zs:List Int}(x:Int):x∈Lib.compact zs↔x∈zs:=by
 unfold Lib.compact Lib.compactUpTo
 rw[List.mem_map,Rm]
 constructor
 ·rintro ⟨j,h1,h2⟩
  exact⟨j,List.mem_range.1 (List.mem_filter.1 h1).1,h2⟩
 ·rintro ⟨j,h1,h2⟩
  obtain⟨i,g1,g2,g3⟩:=Eu j h2
  exact⟨i,List.mem_filter.2 ⟨List.mem_range.2 (by omega),g2⟩,g3⟩
theorem PE{zs:List Int}(h:zs.Pairwise (·≤·)){i j:Nat}(hij:i≤j) (hj:j<zs.length):zs.toArray[i]!≤zs.toArray[j]!:=by
 have hi:i<zs.length:=by omega
 simp only[List.getElem!_toArray,hi,hj,getElem!_pos]
 rcases Nat.lt_or_ge i j with q|q
 ·exact List.pairwise_iff_getElem.1 h i j hi hj q
 ·have:i=j:=by omega
  subst this;exact Int.le_refl _
theorem Ps{zs:List Int}(h:zs.Pairwise (·≤·)):(Lib.compact zs).Pairwise (·<·):=by
 unfold Lib.compact Lib.compactUpTo
 rw[List.pairwise_map]
 refine List.Pairwise.imp_of_mem ?_ (List.pairwise_lt_range.filter _)
 intro i j hi hj hij
 have hj1:=List.mem_filter.1 hj
 have hjl:=List.mem_range.1 hj1.1
 have hk:j=0∨zs.toArray[j]!≠zs.toArray[j-1]!:=of_decide_eq_true hj1.2
 have a1:=PE h (show i≤j-1 by omega) (by omega)
 have a2:=PE h (show j-1≤j by omega) hjl
 rcases hk with e|e
 ·omega
 ·omega
def QL (xs:List Int):List Int:=Lib.compact (xs.mergeSort fun a b=>decide (a≤b))
theorem Fg (xs:List Int):(QL xs).Pairwise (·<·):=by
 refine Ps ?_
 have h:=List.pairwise_mergeSort (le:=fun a b:Int=>decide (a≤b)) (fun a b c h1 h2=>by simp only[decide_eq_true_eq]at *;omega) (fun a b=>by simp only[Bool.or_eq_true,decide_eq_true_eq];omega) xs
 exact h.imp fun q=>of_decide_eq_true q
theorem Bb{xs:List Int}(x:Int):x∈QL xs↔x∈xs:=by
 unfold QL
 rw[Pr,List.mem_mergeSort]
theorem Oj{kn:List Int}(h:kn.Pairwise (·<·)) (v:Int):(oS kn v).Pairwise (·<·):=by
 unfold oS
 cases q:kn.contains v with
 |true=>exact h
 |false =>
  refine Lg (fun hv=>?_) h
  rw[List.contains_iff_mem.2 hv]at q
  cases q
theorem Oi{kn:List Int}{v x:Int}:x∈oS kn v↔x=v∨x∈kn:=by
 unfold oS
 cases q:kn.contains v with
 |true =>
  show x∈kn↔_
  constructor
  ·exact .inr
  ·rintro (e|e)
   ·exact e▸List.contains_iff_mem.1 q
   ·exact e
 |false=>exact⟨Ci,Fx⟩
theorem FZ:∀{b a:List Int},a.Pairwise (·<·)→b.Pairwise (·<·)→(∀x,x∈a→x∈b)→a.length≤b.length∧(a.length=b.length→a=b)
 |[],[],_,_,_=>⟨Nat.le_refl _,fun _=>rfl⟩
 |[],x::r,_,_,h=>absurd (h x (List.mem_cons_self ..)) (by simp)
 |y::q,[],_,_,_=>⟨Nat.zero_le _,fun e=>by cases e⟩
 |y::q,x::r,h1,h2,h=>by
  have a1:=List.pairwise_cons.1 h1
  have a2:=List.pairwise_cons.1 h2
  rcases List.mem_cons.1 (h x (List.mem_cons_self ..))with e|e
  ·subst e
   have ih:=FZ a1.2 a2.2 fun v hv=>by
    rcases List.mem_cons.1 (h v (List.mem_cons_of_mem _ hv))with e|e
    ·have:=a1.1 v hv
     omega
    ·exact e
   exact⟨Nat.succ_le_succ ih.1,fun e=>by rw[ih.2 (by simpa using e)]⟩
  ·have hxy:=a2.1 x e
   have ih:=FZ h1 a2.2 fun v hv=>by
    rcases List.mem_cons.1 (h v hv)with g|g
    ·rcases List.mem_cons.1 hv with k|k
     ·omega
     ·have:=a1.1 v k
      omega
    ·exact g
   have:=ih.1
   simp only[List.length_cons]at this ⊢
   exact⟨by omega,fun e=>by omega⟩
theorem qS{v:Int}{n:Nat}(h0:0≤v) (h1:v<(n:Int)):aI v n=true:=decide_eq_true ⟨h0,h1⟩
theorem Ut{xs:List ab}(hx:xs.length≤4294967296) (a b c:Int):jZ N0 (xs,a,b,c)=some (xs,Qf xs (a,b,c)):=by
 unfold jZ
 dsimp only
 have h:=Io hx (a,b,c)
 dsimp only at h
 rw[h];rfl
theorem M1{xs:List ab}(hx:xs.length≤4294967296){F:List Bool}(hF:F.length=xs.length) (b:Int):eL N0 (xs,(7:Int),b,(0:Int),F)=some (xs,F,Fc xs F b):=by
 unfold eL Fc
 dsimp only
 rw[Ut hx,Option.bind_some]
 unfold Qf
 cases e:ou xs ((7:Int),(b,(0:Int)))with
 |none=>rfl
 |some j =>
  have:=(BG e).1
  (try dsimp only)
  rw[decide_eq_true (show(j:Int)≥0 by omega),cond_true,qS (show(0:Int)≤(j:Int)by omega) (show(j:Int)<(F.length:Int)by omega),cond_true,Int.toNat_natCast]
  rfl
theorem IM{xs:List ab}{F:List Bool}{k a b:Int}:∀(r pre:List Int) (acc:Bool) (m:Nat),r.length<m→pre.length+r.length≤1000→(∀v∈r,0≤v∧v<(F.length:Int))→bd N0 m (xs,F,k,a,b,acc,pre++r,((pre++r).length:Int),(pre.length:Int))=some (xs,F,k,a,b,acc&&r.all (fB F))
 |[],pre,acc,m,hm,hl,hv=>by
  obtain⟨i,rfl⟩:∃i,m=i+1:=⟨m-1,by omega⟩
  rw[bd]
  (try dsimp only)
  rw[B6,cond_false,List.all_nil,Bool.and_true]
 |x::r,pre,acc,m,hm,hl,hv=>by
  obtain⟨i,rfl⟩:∃i,m=i+1:=⟨m-1,by omega⟩
  have hl':pre.length+(r.length+1)≤1000:=hl
  have hm':r.length+1<i+1:=hm
  have w:IntKind.i64.wrap ((pre.length:Int)+1)=((pre++[x]).length:Int):=by rw[au (by omega) (by omega),pE]
  have hx:=hv x (List.mem_cons_self ..)
  have go:∀acc',bd N0 i (xs,F,k,a,b,acc',pre++x::r,((pre++x::r).length:Int),((pre++[x]).length:Int))=some (xs,F,k,a,b,acc'&&r.all (fB F)):=fun acc'=>by
   rw[yE]
   exact IM r (pre++[x]) acc' i (by omega) (by simp;omega) (fun v q=>hv v (List.mem_cons_of_mem _ q))
  rw[bd]
  (try dsimp only)
  rw[B5,cond_true,Ck,Int.toNat_natCast,vB,cond_true,w,qS hx.1 hx.2,cond_true]
  cases acc with
  |true =>
   rw[cond_true,go,List.all_cons,Bool.true_and];rfl
  |false=>rw[cond_false,go];rfl
theorem Lx{xs:List ab}{F:List Bool}{k a b:Int}(r:List Int) (hr:r.length≤1000) (hv:∀v∈r,0≤v∧v<(F.length:Int)):bd N0 N0 (xs,F,k,a,b,true,r,(r.length:Int),(0:Int))=some (xs,F,k,a,b,r.all (fB F)):=by
 have h:=IM (xs:=xs) (F:=F) (k:=k) (a:=a) (b:=b) r [] true N0 (by have:=n0;omega) (by simpa using hr) hv
 rw[Bool.true_and]at h
 exact h
theorem Ls:bh N0 5=some 1∧bh N0 7=some 1:=⟨rfl,rfl⟩
theorem Rh:bh N0 2=some 2∧bh N0 3=some 2∧bh N0 4=some 2∧bh N0 6=some 2∧bh N0 8=some 2:=⟨rfl,rfl,rfl,rfl,rfl⟩
theorem Ke{xs:List ab}(hp:aF xs=true){t:Nat}(ht:t<xs.length){F:List Bool}(hF:F.length=xs.length):gT N0 (xs,(t:Int),F)=some (xs,F,De xs F t):=by
 have hx:xs.length≤4294967296:=by have:=aX hp;omega
 have hc:=nz hp ht
 unfold gT De Ab lj
 dsimp only
 rw[ar ht,cond_true,Int.toNat_natCast,cond_true]
 have e0:xs.getD t dN=xs.getD t ((0:Int),((0:Int),(0:Int))):=rfl
 rw[e0]at hc ⊢
 generalize xs.getD t ((0:Int),((0:Int),(0:Int)))=n at hc ⊢
 obtain⟨k,a,b⟩:=n
 dsimp only at hc ⊢
 rcases hc with⟨rfl,h0,h1⟩|⟨hk,h0,h1⟩|⟨hk,h0,h1,g0,g1⟩
 ·unfold nX
  rw[eK];rfl
 ·have hr:=Lx (xs:=xs) (F:=F) (k:=k) (a:=a) (b:=b) [a] (by simp) (fun v hv=>by rw[List.mem_singleton.1 hv];omega)
  simp only[List.all_cons,List.all_nil,Bool.and_true,List.length_singleton]at hr
  rcases hk with rfl|rfl
  ·rw[Ls.1]
   simp only[Option.bind_some,show((5:Int)==1)=false from rfl,show((1:Int)==1)=true from rfl,show((5:Int)==5 || (5:Int)==7)=true from rfl,show((5:Int) != 8)=true from rfl,cond_true,cond_false,List.length_singleton]
   rw[show((1:Nat):Int)=(1:Int)from rfl]at hr ⊢
   rw[hr,Option.bind_some]
   cases fB F a<;>rfl
  ·rw[Ls.2]
   simp only[Option.bind_some,show((7:Int)==1)=false from rfl,show((1:Int)==1)=true from rfl,show((7:Int)==5 || (7:Int)==7)=true from rfl,show((7:Int) != 8)=true from rfl,cond_true,cond_false,List.length_singleton]
   rw[show((1:Nat):Int)=(1:Int)from rfl]at hr ⊢
   rw[hr,Option.bind_some]
   cases fB F a<;>rfl
 ·have hr:=Lx (xs:=xs) (F:=F) (k:=k) (a:=a) (b:=b) [a,b] (by simp) (fun v hv=>by
   rcases List.mem_cons.1 hv with rfl|hv
   ·omega
   ·rw[List.mem_singleton.1 hv];omega)
  simp only[List.all_cons,List.all_nil,Bool.and_true]at hr
  have hl:(([a,b]:List Int).length:Int)=2:=rfl
  rw[hl]at hr
  have plain:∀c:Int,c=2∨c=3∨c=4∨c=6→(c==1)=false∧(c==5 || c==7)=false∧(c != 8)=true∧(c==8)=false∧bh N0 c=some 2:=fun c hc=>by
   rcases hc with rfl|rfl|rfl|rfl<;>exact⟨rfl,rfl,rfl,rfl,rfl⟩
  by_cases h8:k=8
  ·subst h8
   rw[Rh.2.2.2.2]
   simp only[Option.bind_some,show((8:Int)==1)=false from rfl,show((2:Int)==1)=false from rfl,show((2:Int)==2)=true from rfl,show((8:Int)==5 || (8:Int)==7)=false from rfl,show((8:Int) != 8)=false from rfl,show((8:Int)==8)=true from rfl,cond_true,cond_false]
   rw[hl,hr,Option.bind_some]
   dsimp only
   have ia:aI a F.length=true:=qS h0 (by omega)
   have ib:aI b F.length=true:=qS g0 (by omega)
   have fa:F.getD a.toNat false=fB F a:=rfl
   have fb:F.getD b.toNat false=fB F b:=rfl
   cases qa:fB F a<;>cases qb:fB F b<;>cases pa:Fc xs F a<;>cases pb:Fc xs F b<;>simp only[ia,ib,fa,fb,qa,qb,M1 hx hF,pa,pb,show((8:Int) != 8)=false from rfl,cond_true,cond_false,Option.bind_some,Bool.and_self,Bool.and_true,Bool.and_false,Bool.or_self,Bool.or_true,Bool.or_false,Bool.true_and,Bool.false_and,Bool.true_or,Bool.false_or]
  ·obtain⟨p1,p2,p3,p4,p5⟩:=plain k (by omega)
   rw[p5]
   simp only[Option.bind_some,p1,p2,p4,show((2:Int)==1)=false from rfl,show((2:Int)==2)=true from rfl,cond_true,cond_false]
   rw[hl,hr,Option.bind_some]
   dsimp only
   rw[p3]
   cases fB F a<;>cases fB F b<;>rfl
def Dd (F:List Bool):Nat:=F.countP id
theorem J4{F:List Bool}{t i:Nat}(ht:t<F.length):fN (F.set t true) i=(decide (i=t) || fN F i):=by
 unfold fN
 rw[List.getD_eq_getElem?_getD,List.getElem?_set,List.getD_eq_getElem?_getD]
 by_cases q:t=i
 ·subst q;simp[ht]
 ·simp[q,show ¬i=t from fun e=>q e.symm]
theorem Lu:∀{F:List Bool}{t:Nat},t<F.length→fN F t=false→Dd (F.set t true)=Dd F+1
 |[],t,h,_=>by cases h
 |f::F,0,_,h=>by
  have h:f=false:=h
  subst h
  simp[Dd]
 |f::F,t+1,h,g=>by
  have ih:=Lu (F:=F) (t:=t) (by simpa using h) g
  unfold Dd at ih ⊢
  rw[List.set_cons_succ,List.countP_cons,List.countP_cons,ih]
  omega
theorem UI (F:List Bool):Dd F≤F.length:=List.countP_le_length
structure P7 (xs:List ab) (kn:List Int) (F:List Bool):Prop where
 len:F.length=xs.length
 has:∀i,i<xs.length→fH kn (i:Int)=true→fN F i=true
 le:∀i,i<xs.length→fN F i=true→fN (kK xs kn) i=true
theorem xC{xs:List ab}(hp:aF xs=true){kn:List Int}:∀(n t:Nat) (F:List Bool) (more:Bool) (m:Nat),t+n=xs.length→n<m→P7 xs kn F →
  ∃F' c,bC N0 m (xs,F,more,(xs.length:Int),(t:Int))=some (xs,F',c)∧P7 xs kn F'∧Dd F≤Dd F'∧((c=false∧more=false∧F'=F∧∀i,t≤i→i<xs.length→De xs F i=true→fN F i=true)∨(c=true∧(more=true∨Dd F<Dd F')))
 |0,t,F,more,m,he,hm,hI=>by
  obtain⟨i,rfl⟩:∃i,m=i+1:=⟨m-1,by omega⟩
  rw[bC]
  (try dsimp only)
  rw[show t=xs.length by omega,lT,cond_false]
  refine⟨F,more,rfl,hI,Nat.le_refl _,?_⟩
  cases more with
  |true=>exact .inr ⟨rfl, .inl rfl⟩
  |false=>exact .inl ⟨rfl,rfl,rfl,fun i h1 h2=>by omega⟩
 |n+1,t,F,more,m,he,hm,hI=>by
  obtain⟨i,rfl⟩:∃i,m=i+1:=⟨m-1,by omega⟩
  have ht:t<xs.length:=by omega
  have hx:xs.length≤4294967296:=by have:=aX hp;omega
  have hin:aI (t:Int) F.length=true:=ar (by rw[hI.len];exact ht)
  have hF:F.getD t false=fN F t:=rfl
  rw[bC]
  (try dsimp only)
  rw[jt ht,cond_true,hin,cond_true,Int.toNat_natCast,hF,aw ht hx]
  cases q:fN F t with
  |true =>
   rw[Bool.not_true,cond_false]
   obtain⟨F',c,h1,h2,h3,h4⟩:=xC hp (kn:=kn) n (t+1) F more i (by omega) (by omega) hI
   refine⟨F',c,h1,h2,h3,h4.imp (fun⟨a1,a2,a3,a4⟩=>⟨a1,a2,a3,fun j g1 g2 g3=>?_⟩) id⟩
   by_cases e:j=t
   ·rw[e];exact q
   ·exact a4 j (by omega) g2 g3
  |false =>
   rw[Bool.not_false,cond_true,Ke hp ht hI.len,Option.bind_some]
   dsimp only
   cases hc:De xs F t with
   |false =>
    rw[cond_false]
    obtain⟨F',c,h1,h2,h3,h4⟩:=xC hp (kn:=kn) n (t+1) F more i (by omega) (by omega) hI
    refine⟨F',c,h1,h2,h3,h4.imp (fun⟨a1,a2,a3,a4⟩=>⟨a1,a2,a3,fun j g1 g2 g3=>?_⟩) id⟩
    by_cases e:j=t
    ·rw[e,hc]at g3;cases g3
    ·exact a4 j (by omega) g2 g3
   |true =>
    rw[cond_true,hin,cond_true]
    have ht':t<F.length:=by rw[hI.len];exact ht
    have hI':P7 xs kn (F.set t true):=⟨by rw[List.length_set];exact hI.len,fun j g1 g2=>by rw[J4 ht',hI.has j g1 g2,Bool.or_true],fun j g1 g2=>by
     rw[J4 ht',Bool.or_eq_true]at g2
     rcases g2 with g2|g2
     ·rw[of_decide_eq_true g2];exact Qt hp hI.le ht hc
     ·exact hI.le j g1 g2⟩
    obtain⟨F',c,h1,h2,h3,h4⟩:=xC hp (kn:=kn) n (t+1) (F.set t true) true i (by omega) (by omega) hI'
    have hct:=Lu ht' q
    refine⟨F',c,h1,h2,by omega,?_⟩
    rcases h4 with⟨_,a2,_⟩|⟨a1,_⟩
    ·cases a2
    ·exact .inr ⟨a1, .inr (by omega)⟩
theorem Ms{xs:List ab}(hp:aF xs=true){kn:List Int}:∀(d:Nat) (F:List Bool) (m:Nat),xs.length-Dd F≤d→d+1<m→P7 xs kn F→bN N0 m (xs,F,true)=some (xs,kK xs kn):=by
 intro d
 induction d with
 |zero =>
  intro F m hd hm hI
  obtain⟨i,rfl⟩:∃i,m=i+2:=⟨m-2,by omega⟩
  obtain⟨F',c,h1,h2,h3,h4⟩:=xC hp (kn:=kn) xs.length 0 F false N0 (by omega) (by have:=n0;have:=aX hp;omega) hI
  have hl:=UI F'
  rw[h2.len]at hl
  rw[bN]
  (try dsimp only)
  rw[cond_true,hI.len]
  rw[show((0:Nat):Int)=(0:Int)from rfl]at h1
  rw[h1,Option.bind_some]
  (try dsimp only)
  rcases h4 with⟨rfl,_,rfl,h4⟩|⟨rfl,h4⟩
  ·rw[bN]
   dsimp only
   rw[cond_false,Pl hp h2.len h2.has h2.le (fun j g1 g2=>h4 j (Nat.zero_le _) g1 g2)]
  ·rcases h4 with h4|h4
   ·cases h4
   ·omega
 |succ d ih =>
  intro F m hd hm hI
  obtain⟨i,rfl⟩:∃i,m=i+2:=⟨m-2,by omega⟩
  obtain⟨F',c,h1,h2,h3,h4⟩:=xC hp (kn:=kn) xs.length 0 F false N0 (by omega) (by have:=n0;have:=aX hp;omega) hI
  rw[bN]
  (try dsimp only)
  rw[cond_true,hI.len]
  rw[show((0:Nat):Int)=(0:Int)from rfl]at h1
  rw[h1,Option.bind_some]
  (try dsimp only)
  rcases h4 with⟨rfl,_,rfl,h4⟩|⟨rfl,h4⟩
  ·rw[bN]
   dsimp only
   rw[cond_false,Pl hp h2.len h2.has h2.le (fun j g1 g2=>h4 j (Nat.zero_le _) g1 g2)]
  ·rcases h4 with h4|h4
   ·cases h4
   ·exact ih F' (i+1) (by omega) (by omega) h2
def SV (xs:List ab) (kn:List Int):Prop:=∀v∈kn,0≤v∧v<(xs.length:Int)
theorem Cd{xs:List ab}:∀(r pre:List Int) (F:List Bool) (m:Nat),r.length<m→pre.length+r.length≤1000→F.length=xs.length→SV xs r→∃F',cb N0 m (xs,F,pre++r,((pre++r).length:Int),(pre.length:Int))=some (xs,F')∧F'.length=xs.length∧∀i,fN F' i=true↔fN F i=true∨(i:Int)∈r
 |[],pre,F,m,hm,hl,hF,hk=>by
  obtain⟨i,rfl⟩:∃i,m=i+1:=⟨m-1,by omega⟩
  rw[cb]
  (try dsimp only)
  rw[B6,cond_false]
  exact⟨F,rfl,hF,fun i=>by simp⟩
 |x::r,pre,F,m,hm,hl,hF,hk=>by
  obtain⟨i,rfl⟩:∃i,m=i+1:=⟨m-1,by omega⟩
  have hl':pre.length+(r.length+1)≤1000:=hl
  have hm':r.length+1<i+1:=hm
  have w:IntKind.i64.wrap ((pre.length:Int)+1)=((pre++[x]).length:Int):=by rw[au (by omega) (by omega),pE]
  obtain⟨x0,x1⟩:=hk x (List.mem_cons_self ..)
  obtain⟨F',h1,h2,h3⟩:=Cd r (pre++[x]) (F.set x.toNat true) i (by omega) (by simp;omega) (by rw[List.length_set];exact hF) (fun v q=>hk v (List.mem_cons_of_mem _ q))
  rw[cb]
  (try dsimp only)
  rw[B5,cond_true,Ck,Int.toNat_natCast,vB,cond_true,w,qS x0 (by rw[hF];exact x1),cond_true]
  rw[←yE]at h1
  refine⟨F',h1,h2,fun j=>?_⟩
  rw[h3 j,J4 (by omega),Bool.or_eq_true,decide_eq_true_iff,List.mem_cons]
  constructor
  ·rintro ((q|q)|q)
   ·exact .inr (.inl (by omega))
   ·exact .inl q
   ·exact .inr (.inr q)
  ·rintro (q|q|q)
   ·exact .inl (.inr q)
   ·exact .inl (.inl (by omega))
   ·exact .inr q
theorem XS (n i:Nat):fN (List.replicate n false) i=false:=by
 unfold fN
 rw[List.getD_eq_getElem?_getD,List.getElem?_replicate]
 split<;>rfl
theorem Ie{xs:List ab}(hp:aF xs=true){kn:List Int}(hl:kn.length≤900) (hk:SV xs kn):gF N0 (xs,kn)=some (xs,kK xs kn):=by
 have hx:=aX hp
 obtain⟨F,h1,h2,h3⟩:=Cd (xs:=xs) kn [] (List.replicate xs.length false) N0 (by have:=n0;omega) (by simp;omega) (List.length_replicate ..) hk
 have h1':cb N0 N0 (xs,List.replicate xs.length false,kn,(kn.length:Int),(0:Int))=some (xs,F):=h1
 have hI:P7 xs kn F:=⟨h2,fun i g1 g2=>(h3 i).2 (.inr (by rw[vA,List.contains_iff_mem]at g2;exact g2)),fun i g1 g2=>by
  rcases(h3 i).1 g2 with q|q
  ·rw[XS]at q;cases q
  ·rw[yG hp g1,vA,List.contains_iff_mem.2 q,Bool.true_or]⟩
 unfold gF
 dsimp only
 rw[decide_eq_true (show 0≤(xs.length:Int)∧(xs.length:Int)≤(xs.length:Int)∧(xs.length:Int)≤4294967296 by omega),cond_true,Int.toNat_natCast,h1',Option.bind_some]
 dsimp only
 rw[Ms hp (kn:=kn) xs.length F N0 (by omega) (by have:=n0;omega) hI]
 rfl
theorem GD{xs:List ab}(hx:xs.length≤4294967296){F:List Bool}{kn:List Int}(hl:kn.length≤4294967296){b:Int}(h0:0≤b) (h1:b<(F.length:Int)):eP N0 (xs,F,kn,b)=some (CY xs kn F b):=by
 unfold eP CY
 dsimp only
 have h:=D6 hx ((7:Int),(b,(0:Int)))
 dsimp only at h
 rw[h,Option.bind_some]
 unfold Qf
 cases e:ou xs ((7:Int),(b,(0:Int)))with
 |none=>rfl
 |some j =>
  (try dsimp only)
  rw[decide_eq_true (show(j:Int)≥0 by omega),cond_true,qS h0 h1,cond_true,iJ hl]
  show(cond (fB F b) _ _)=_
  cases fB F b<;>rfl
theorem Q4{xs:List ab}(hp:aF xs=true){kn:List Int}(hl:kn.length≤4294967296){t:Nat}(ht:t<xs.length){F:List Bool}(hF:F.length=t):og N0 (xs,F,(t:Int),kn)=some (FV xs kn F t):=by
 have hx:xs.length≤4294967296:=by have:=aX hp;omega
 have hc:=nz hp ht
 unfold og FV Ab
 dsimp only
 rw[ar ht,cond_true,Int.toNat_natCast]
 have e0:xs.getD t dN=xs.getD t ((0:Int),((0:Int),(0:Int))):=rfl
 rw[e0]at hc ⊢
 generalize xs.getD t ((0:Int),((0:Int),(0:Int)))=n at hc ⊢
 obtain⟨k,a,b⟩:=n
 dsimp only at hc ⊢
 rcases hc with⟨rfl,h0,h1⟩|⟨hk,h0,h1⟩|⟨hk,h0,h1,g0,g1⟩
 ·unfold fT bO
  (try dsimp only)
  cases decide (a≥0)<;>rfl
 ·have ia:aI a F.length=true:=qS h0 (by omega)
  have p:gH N0 k=some 1:=by rcases hk with rfl|rfl<;>rfl
  have p2:(k==1)=false∧(k==5 || k==7)=true:=by rcases hk with rfl|rfl<;>exact⟨rfl,rfl⟩
  rw[p,p2.1,p2.2]
  simp only[Option.bind_some,cond_false,cond_true,show((1:Int)==1)=true from rfl,ia]
  rfl
 ·have ia:aI a F.length=true:=qS h0 (by omega)
  have ib:aI b F.length=true:=qS g0 (by omega)
  have p:gH N0 k=some 2:=by rcases hk with rfl|rfl|rfl|rfl|rfl<;>rfl
  have p2:(k==1)=false∧(k==5 || k==7)=false:=by rcases hk with rfl|rfl|rfl|rfl|rfl<;>exact⟨rfl,rfl⟩
  have fa:F.getD a.toNat false=fB F a:=rfl
  have fb:F.getD b.toNat false=fB F b:=rfl
  rw[p,p2.1,p2.2]
  simp only[Option.bind_some,cond_false,show((2:Int)==1)=false from rfl,ia,ib,cond_true,fa,fb,GD hx hl h0 (show a<(F.length:Int)by omega),GD hx hl g0 (show b<(F.length:Int)by omega)]
  cases(k==8)<;>cases fB F a<;>cases fB F b<;>cases CY xs kn F a<;>cases CY xs kn F b<;>rfl
theorem IT{xs:List ab}(hp:aF xs=true){kn:List Int}(hl:kn.length≤4294967296):∀(n t m:Nat),t+n=xs.length→n<m→du N0 m (kn,xs,sB xs kn t,(t:Int))=some (kK xs kn)
 |0,t,m,he,hm=>by
  obtain⟨i,rfl⟩:∃i,m=i+1:=⟨m-1,by omega⟩
  rw[du]
  (try dsimp only)
  rw[show t=xs.length by omega,lT,cond_false]
 |n+1,t,m,he,hm=>by
  obtain⟨i,rfl⟩:∃i,m=i+1:=⟨m-1,by omega⟩
  have ht:t<xs.length:=by omega
  have hx:=aX hp
  have hlen:=uj xs kn t
  have ih:=IT hp hl n (t+1) i (by omega) (by omega)
  have hs:sB xs kn (t+1)=sB xs kn t++[fH kn (t:Int) || FV xs kn (sB xs kn t) t]:=rfl
  rw[du]
  (try dsimp only)
  rw[jt ht,cond_true,iJ hl,Option.bind_some,Q4 hp hl ht hlen,aw ht (by omega),BB (show(sB xs kn t).length≤1000000 by omega)]
  rw[hs]at ih
  cases q:fH kn (t:Int)with
  |true =>
   rw[q,Bool.true_or]at ih
   simp only[cond_true]
   exact ih
  |false =>
   rw[q,Bool.false_or]at ih
   simp only[cond_false,Option.bind_some,BB (show(sB xs kn t).length≤1000000 by omega),cond_true]
   exact ih
theorem Ik{xs:List ab}(hp:aF xs=true){kn:List Int}(hl:kn.length≤4294967296):lm N0 (xs,kn)=some (kK xs kn):=by
 have hx:=aX hp
 have h:=IT hp hl xs.length 0 N0 (by omega) (by have:=n0;omega)
 unfold lm
 dsimp only
 have h':du N0 N0 (kn,xs,([]:List Bool),(0:Int))=_:=h
 rw[h'];rfl
theorem xy{n:Nat}(h:n≤4294967296):aO n=true:=decide_eq_true h
def TV (xs:List ab) (F:List Bool) (v:Int):List Int :=
 bif (xs.getD v.toNat dN).1==2 then [(xs.getD v.toNat dN).2.1,(xs.getD v.toNat dN).2.2]else bif (xs.getD v.toNat dN).1==4 then [(xs.getD v.toNat dN).2.1]else bif (xs.getD v.toNat dN).1==3 then(bif fB F (xs.getD v.toNat dN).2.2 then [(xs.getD v.toNat dN).2.1]else [])else []
def Fj (xs:List ab) (F:List Bool):List Int→List Int
 |[]=>[]
 |v::r=>TV xs F v++Fj xs F r
theorem QO (xs:List ab) (F:List Bool) (v:Int):(TV xs F v).length≤2:=by
 unfold TV
 cases(xs.getD v.toNat dN).1==2<;>cases(xs.getD v.toNat dN).1==4<;>cases(xs.getD v.toNat dN).1==3<;>cases fB F (xs.getD v.toNat dN).2.2<;>simp
theorem KQ (xs:List ab) (F:List Bool):∀r,(Fj xs F r).length≤2*r.length
 |[]=>Nat.le_refl _
 |v::r=>by
  have:=KQ xs F r
  have:=QO xs F v
  rw[Fj,List.length_append,List.length_cons]
  omega
theorem JD{xs:List ab}(hp:aF xs=true){v:Int}(h0:0≤v) (h1:v<(xs.length:Int)) (hk:(xs.getD v.toNat dN).1=2∨(xs.getD v.toNat dN).1=3∨(xs.getD v.toNat dN).1=4):(0≤(xs.getD v.toNat dN).2.1∧(xs.getD v.toNat dN).2.1<(xs.length:Int))∧0≤(xs.getD v.toNat dN).2.2∧(xs.getD v.toNat dN).2.2<(xs.length:Int):=by
 rcases nz hp (show v.toNat<xs.length by omega)with⟨a,_⟩|⟨a,_⟩|⟨a,b,c,d,e⟩
 ·omega
 ·omega
 ·exact⟨⟨b,by omega⟩,d,by omega⟩
theorem TU{xs:List ab}(hp:aF xs=true){F:List Bool}{v:Int}(h0:0≤v) (h1:v<(xs.length:Int)):SV xs (TV xs F v):=by
 intro x hx
 have h:=JD hp h0 h1
 unfold TV at hx
 cases q2:(xs.getD v.toNat dN).1==2 with
 |true =>
  obtain⟨g1,g2⟩:=h (.inl (by simpa using q2))
  rw[q2,cond_true]at hx
  rcases List.mem_cons.1 hx with e|e
  ·rw[e];exact g1
  ·rw[List.mem_singleton.1 e];exact g2
 |false =>
  rw[q2,cond_false]at hx
  cases q4:(xs.getD v.toNat dN).1==4 with
  |true =>
   obtain⟨g1,g2⟩:=h (.inr (.inr (by simpa using q4)))
   rw[q4,cond_true]at hx
   rw[List.mem_singleton.1 hx];exact g1
  |false =>
   rw[q4,cond_false]at hx
   cases q3:(xs.getD v.toNat dN).1==3 with
   |true =>
    obtain⟨g1,g2⟩:=h (.inr (.inl (by simpa using q3)))
    rw[q3,cond_true]at hx
    cases qf:fB F (xs.getD v.toNat dN).2.2 with
    |true =>
     rw[qf,cond_true]at hx
     rw[List.mem_singleton.1 hx];exact g1
    |false =>
     rw[qf,cond_false]at hx
     cases hx
   |false =>
    rw[q3,cond_false]at hx
    cases hx
theorem Ow{xs:List ab}(hp:aF xs=true){F:List Bool}:∀{r:List Int},SV xs r→SV xs (Fj xs F r)
 |[],_=>fun x hx=>by cases hx
 |v::r,h=>fun x hx=>by
  rw[Fj]at hx
  rcases List.mem_append.1 hx with e|e
  ·exact TU hp (h v (List.mem_cons_self ..)).1 (h v (List.mem_cons_self ..)).2 x e
  ·exact Ow hp (fun y hy=>h y (List.mem_cons_of_mem _ hy)) x e
theorem DI{xs:List ab}(hp:aF xs=true){kn:List Int}{F:List Bool}(hF:F.length=xs.length):∀(r pre out:List Int) (m:Nat),r.length<m→pre.length+r.length≤1000→out.length+2*r.length≤100000→SV xs r→aA N0 m (xs,kn,F,out,pre++r,((pre++r).length:Int),(pre.length:Int))=some (xs,kn,out++Fj xs F r)
 |[],pre,out,m,hm,hl,ho,hk=>by
  obtain⟨i,rfl⟩:∃i,m=i+1:=⟨m-1,by omega⟩
  rw[aA]
  (try dsimp only)
  rw[B6,cond_false,Fj,List.append_nil]
 |v::r,pre,out,m,hm,hl,ho,hk=>by
  obtain⟨i,rfl⟩:∃i,m=i+1:=⟨m-1,by omega⟩
  have hl':pre.length+(r.length+1)≤1000:=hl
  have hm':r.length+1<i+1:=hm
  have ho':out.length+2*(r.length+1)≤100000:=ho
  have w:IntKind.i64.wrap ((pre.length:Int)+1)=((pre++[v]).length:Int):=by rw[au (by omega) (by omega),pE]
  obtain⟨v0,v1⟩:=hk v (List.mem_cons_self ..)
  have h2:=JD hp v0 v1
  have go:∀out',out'.length+2*r.length≤100000→aA N0 i (xs,kn,F,out',pre++v::r,((pre++v::r).length:Int),((pre++[v]).length:Int))=some (xs,kn,out'++Fj xs F r):=fun out' h=>by
   rw[yE]
   exact DI hp hF r (pre++[v]) out' i (by omega) (by simp;omega) h (fun y hy=>hk y (List.mem_cons_of_mem _ hy))
  have e0:xs.getD v.toNat ((0:Int),((0:Int),(0:Int)))=xs.getD v.toNat dN:=rfl
  rw[aA]
  (try dsimp only)
  rw[B5,cond_true,Ck,Int.toNat_natCast,vB,cond_true,w,qS v0 v1,cond_true,e0,Fj]
  unfold TV
  cases q2:(xs.getD v.toNat dN).1==2 with
  |true =>
   simp only[cond_true,xy (show out.length+[(xs.getD v.toNat dN).2.1,(xs.getD v.toNat dN).2.2].length≤4294967296 by simp;omega)]
   rw[go _ (by simp;omega),List.append_assoc]
  |false =>
   cases q4:(xs.getD v.toNat dN).1==4 with
   |true =>
    simp only[cond_true,cond_false,xy (show out.length+[(xs.getD v.toNat dN).2.1].length≤4294967296 by simp;omega)]
    rw[go _ (by simp;omega),List.append_assoc]
   |false =>
    cases q3:(xs.getD v.toNat dN).1==3 with
    |true =>
     obtain⟨g1,g2⟩:=h2 (.inr (.inl (by simpa using q3)))
     have ef:F.getD (xs.getD v.toNat dN).2.2.toNat false=fB F (xs.getD v.toNat dN).2.2:=rfl
     simp only[cond_true,cond_false,qS g2.1 (show(xs.getD v.toNat dN).2.2<(F.length:Int)by rw[hF];exact g2.2),ef]
     cases qf:fB F (xs.getD v.toNat dN).2.2 with
     |true =>
      simp only[cond_true,xy (show out.length+[(xs.getD v.toNat dN).2.1].length≤4294967296 by simp;omega)]
      rw[go _ (by simp;omega),List.append_assoc]
     |false =>
      simp only[cond_false]
      rw[go _ (by omega)];rfl
    |false =>
     simp only[cond_false]
     rw[go _ (by omega)];rfl
theorem Iz{x:Int}:∀{l kn:List Int},x∈l.foldl oS kn↔x∈kn∨x∈l
 |[],kn=>by simp
 |v::r,kn=>by
  rw[List.foldl_cons,Iz,Oi,List.mem_cons]
  constructor
  ·rintro ((e|e)|e)
   ·exact .inr (.inl e)
   ·exact .inl e
   ·exact .inr (.inr e)
  ·rintro (e|e|e)
   ·exact .inl (.inr e)
   ·exact .inl (.inl e)
   ·exact .inr e
theorem IA:∀{l kn:List Int},kn.Pairwise (·<·)→(l.foldl oS kn).Pairwise (·<·)
 |[],kn,h=>h
 |v::r,kn,h=>IA (l:=r) (kn:=oS kn v) (Oj h v)
theorem DH{xs:List ab}(hp:aF xs=true){F:List Bool}(hF:F.length=xs.length):∀(r pre out:List Int) (m:Nat),r.length<m→pre.length+r.length≤1000→out.length+2*r.length≤800→SV xs r→bL N0 m (pre++r,xs,F,out,(pre.length:Int))=some ((Fj xs F r).foldl oS out)
 |[],pre,out,m,hm,hl,ho,hk=>by
  obtain⟨i,rfl⟩:∃i,m=i+1:=⟨m-1,by omega⟩
  rw[bL]
  (try dsimp only)
  rw[B6,cond_false];rfl
 |v::r,pre,out,m,hm,hl,ho,hk=>by
  obtain⟨i,rfl⟩:∃i,m=i+1:=⟨m-1,by omega⟩
  have hl':pre.length+(r.length+1)≤1000:=hl
  have hm':r.length+1<i+1:=hm
  have ho':out.length+2*(r.length+1)≤800:=ho
  have w:IntKind.i64.wrap ((pre.length:Int)+1)=((pre++[v]).length:Int):=by rw[au (by omega) (by omega),pE]
  obtain⟨v0,v1⟩:=hk v (List.mem_cons_self ..)
  have h2:=JD hp v0 v1
  have go:∀out',out'.length+2*r.length≤800→bL N0 i (pre++v::r,xs,F,out',((pre++[v]).length:Int))=some ((Fj xs F r).foldl oS out'):=fun out' h=>by
   rw[yE]
   exact DH hp hF r (pre++[v]) out' i (by omega) (by simp;omega) h (fun y hy=>hk y (List.mem_cons_of_mem _ hy))
  have e0:xs.getD v.toNat ((0:Int),((0:Int),(0:Int)))=xs.getD v.toNat dN:=rfl
  have l1:=qc out (xs.getD v.toNat dN).2.1
  have l2:=qc (oS out (xs.getD v.toNat dN).2.1) (xs.getD v.toNat dN).2.2
  rw[bL]
  (try dsimp only)
  unfold pW
  (try dsimp only)
  rw[B5,cond_true,Ck,Int.toNat_natCast,vB,cond_true,qS v0 v1,cond_true,e0,Fj,List.foldl_append,Option.bind_some]
  (try dsimp only)
  rw[w]
  unfold TV
  cases q2:(xs.getD v.toNat dN).1==2 with
  |true =>
   simp only[cond_true,pC (show out.length≤900 by omega),pC (show(oS out (xs.getD v.toNat dN).2.1).length≤900 by omega),Option.bind_some]
   rw[go _ (by omega)];rfl
  |false =>
   cases q4:(xs.getD v.toNat dN).1==4 with
   |true =>
    simp only[cond_true,cond_false,pC (show out.length≤900 by omega),Option.bind_some]
    rw[go _ (by omega)];rfl
   |false =>
    cases q3:(xs.getD v.toNat dN).1==3 with
    |true =>
     obtain⟨g1,g2⟩:=h2 (.inr (.inl (by simpa using q3)))
     have ef:F.getD (xs.getD v.toNat dN).2.2.toNat false=fB F (xs.getD v.toNat dN).2.2:=rfl
     simp only[cond_true,cond_false,qS g2.1 (show(xs.getD v.toNat dN).2.2<(F.length:Int)by rw[hF];exact g2.2),ef]
     cases qf:fB F (xs.getD v.toNat dN).2.2 with
     |true =>
      simp only[cond_true,pC (show out.length≤900 by omega),Option.bind_some]
      rw[go _ (by omega)];rfl
     |false =>
      simp only[cond_false]
      rw[go _ (by omega)];rfl
    |false =>
     simp only[cond_false]
     rw[go _ (by omega)];rfl
structure SU (xs:List ab) (kn:List Int):Prop where
 pool:aF xs=true
 len:kn.length≤200
 asc:kn.Pairwise (·<·)
 mem:SV xs kn
def Bc (xs:List ab) (kn:List Int):List Int:=QL (kn++Fj xs (kK xs kn) kn)
theorem Ov{xs:List ab}{kn:List Int}(h:SU xs kn):Bc xs kn=(Fj xs (kK xs kn) kn).foldl oS kn :=
 LA (Fg _) (IA h.asc) fun x=>by rw[Bc,Bb,Iz,List.mem_append]
theorem Mv{xs:List ab}{kn:List Int}(h:SU xs kn) :
  gn N0 (xs,kn)=some (xs,bif decide (((Bc xs kn).length:Int)>200)then kn else Bc xs kn)∧od N0 (xs,kn)=some (Bc xs kn,decide (((Bc xs kn).length:Int)≤200))∧((Bc xs kn).length≤200→SU xs (Bc xs kn))∧kn.length≤(Bc xs kn).length∧(kn.length=(Bc xs kn).length→kn=Bc xs kn):=by
 have hl:=h.len
 have hF:(kK xs kn).length=xs.length:=uj xs kn _
 have ha:=FZ h.asc (Fg (kn++Fj xs (kK xs kn) kn)) (fun x hx=>Bb x |>.2 (List.mem_append_left _ hx))
 have hoL:=KQ xs (kK xs kn) kn
 refine⟨?_,?_,fun hl2=>⟨h.pool,hl2,Fg _,fun x hx=>?_⟩,ha.1,ha.2⟩
 ·have e:=DI h.pool (kn:=kn) hF kn [] kn N0 (by have:=n0;omega) (by simpa using(by omega:kn.length≤1000)) (by omega) h.mem
  have e':aA N0 N0 (xs,kn,kK xs kn,kn,kn,(kn.length:Int),(0:Int))=_:=e
  have hc:gQ kn=some kn:=by
   unfold gQ
   rw[decide_eq_true (show kn.length≤4294967296 by omega)];rfl
  have hlen:(kn++Fj xs (kK xs kn) kn).length≤4294967296:=by rw[List.length_append];omega
  have hs:ow (kn++Fj xs (kK xs kn) kn)=some ((kn++Fj xs (kK xs kn) kn).mergeSort fun a b=>decide (a≤b)):=if_pos hlen
  have hcm:jX ((kn++Fj xs (kK xs kn) kn).mergeSort fun a b=>decide (a≤b))=some (Bc xs kn):=if_pos (by rw[List.length_mergeSort];exact hlen)
  have hcl:qO (Bc xs kn)=some (Bc xs kn):=rfl
  unfold gn
  (try dsimp only)
  simp only[Ie h.pool (show kn.length≤900 by omega) h.mem,Option.bind_some,hc,e',hs,hcm,hcl]
  cases decide (((Bc xs kn).length:Int)>200)<;>rfl
 ·have e:=DH h.pool hF kn [] kn N0 (by have:=n0;omega) (by simpa using(by omega:kn.length≤1000)) (by omega) h.mem
  have e':bL N0 N0 (kn,xs,kK xs kn,kn,(0:Int))=_:=e
  unfold od
  (try dsimp only)
  rw[Ik h.pool (show kn.length≤4294967296 by omega),Option.bind_some,xy (show([]:List Int).length+kn.length≤4294967296 by simp;omega),cond_true,List.nil_append,e',Option.bind_some,Ov h]
 ·rcases List.mem_append.1 ((Bb x).1 hx)with q|q
  ·exact h.mem x q
  ·exact Ow h.pool h.mem x q
theorem GR{xs:List ab}:∀(d:Nat) (kn:List Int) (c1 c2:Int) (m1 m2:Nat),200-kn.length≤d→d<m1→d<m2→SU xs kn→∃kn' c1' c2',cA N0 m1 (xs,kn,c1)=some (xs,kn',c1')∧fO N0 m2 (xs,kn,c2)=some (kn',c2')∧SU xs kn'∧∀x∈kn,x∈kn'
 |d,kn,c1,c2,m1,m2,hd,h1,h2,hk=>by
  obtain⟨i,rfl⟩:∃i,m1=i+1:=⟨m1-1,by omega⟩
  obtain⟨j,rfl⟩:∃j,m2=j+1:=⟨m2-1,by omega⟩
  obtain⟨e1,e2,e3,e4,e5⟩:=Mv hk
  have hl:=hk.len
  rw[cA,fO]
  (try dsimp only)
  rw[e1,e2,Option.bind_some,Option.bind_some]
  (try dsimp only)
  by_cases q:(Bc xs kn).length≤200
  ·rw[decide_eq_false (show ¬((Bc xs kn).length:Int)>200 by omega),decide_eq_true (show((Bc xs kn).length:Int)≤200 by omega),cond_false,Bool.not_true,cond_false]
   by_cases q2:(Bc xs kn).length=kn.length
   ·have:=e5 q2.symm
    have hb:(((Bc xs kn).length:Int)==(kn.length:Int))=true:=by rw[q2];exact beq_self_eq_true _
    rw[hb,cond_true,cond_true]
    exact⟨kn,c1,c2,by rw[←this],rfl,hk,fun x hx=>hx⟩
   ·have hb:(((Bc xs kn).length:Int)==(kn.length:Int))=false:=by rw[beq_eq_false_iff_ne];omega
    rw[hb,cond_false,cond_false]
    match d,hd with
    |0,hd=>omega
    |d+1,hd =>
     obtain⟨kn',c1',c2',g1,g2,g3,g4⟩:=GR d (Bc xs kn) (IntKind.i64.wrap (c1+1)) (IntKind.i64.wrap (c2+1)) i j (by omega) (by omega) (by omega) (e3 q)
     exact⟨kn',c1',c2',g1,g2,g3,fun x hx=>g4 x ((Bb x).2 (List.mem_append_left _ hx))⟩
  ·rw[decide_eq_true (show((Bc xs kn).length:Int)>200 by omega),decide_eq_false (show ¬((Bc xs kn).length:Int)≤200 by omega),cond_true,Bool.not_false,cond_true,beq_self_eq_true,cond_true]
   exact⟨kn,c1,c2,rfl,rfl,hk,fun x hx=>hx⟩
theorem II{xs:List ab}{kn:List Int}(h:SU xs kn):∃kn' c,SU xs kn'∧gS N0 (xs,kn)=some (xs,kK xs kn')∧pX N0 (xs,kn)=some (kn',c)∧lm N0 (xs,kn')=some (kK xs kn')∧∀x∈kn,x∈kn':=by
 have hl:=h.len
 obtain⟨kn',c1,c2,e1,e2,e3,e4⟩:=GR 200 kn 0 0 N0 N0 (by omega) (by have:=n0;omega) (by have:=n0;omega) h
 have hl':=e3.len
 refine⟨kn',c2,e3,?_,?_,Ik h.pool (by omega),e4⟩
 ·unfold gS jr
  (try dsimp only)
  rw[e1]
  simp only[Option.bind_some,Ie h.pool (show kn'.length≤900 by omega) e3.mem]
 ·unfold pX
  (try dsimp only)
  rw[xy (show([]:List Int).length+kn.length≤4294967296 by simp;omega),cond_true,List.nil_append,e2];rfl
section
variable{xs:List ab}{kn:List Int}{li:List aV}{fr:Int}{gv sh:List Int}{lg:List aM}{k:Int}
theorem Dk (hw:aZ xs kn li fr gv sh lg=true):SU xs kn:=by
 unfold aZ rJ at hw
 simp only[Bool.and_eq_true]at hw
 obtain⟨⟨h1,h2,h3⟩,_⟩:=hw
 rw[dc]at h1
 refine⟨h3,of_decide_eq_true h2,PB (fun u hu=>?_),fun x hx=>?_⟩
 ·have:=h1 u (Nat.zero_le _) (by omega)
  unfold iK at this
  rw[Bool.and_eq_true]at this
  exact this.2
 ·obtain⟨j,hj,e⟩:=List.getElem_of_mem hx
  have:=h1 j (Nat.zero_le _) (by omega)
  unfold iK ci at this
  rw[Bool.and_eq_true,Bool.and_eq_true,decide_eq_true_iff,decide_eq_true_iff,List.getD_eq_getElem?_getD,List.getElem?_eq_getElem hj,Option.getD_some,e]at this
  omega
theorem EJ (hw:aZ xs kn li fr gv sh lg=true){c:aM}(hc:mB lg k=some c):iV li k=true:=by
 obtain⟨j,_,h2,h3⟩:=tm lg k _ 0 hc
 unfold aZ at hw
 simp only[Bool.and_eq_true]at hw
 have hl:=hw.2.2.2.2.2.2.2.2.1
 rw[dc]at hl
 have:=hl j (Nat.zero_le _) h2
 unfold uJ at this
 rw[Bool.and_eq_true,h3]at this
 exact this.1
def xw (li:List aV) (gv sh:List Int) (lg:List aM) (k:Int):Bool:=jv li lg k&&(!pQ li sh k&&((li.getD k.toNat zI).1==1 || (!fH gv (li.getD k.toNat zI).2.2.1 && !fH gv (li.getD k.toNat zI).2.2.2.1)))
theorem N4 (hw:aZ xs kn li fr gv sh lg=true) (h:xw li gv sh lg k=true):iV li k=true:=by
 unfold xw at h
 rw[Bool.and_eq_true]at h
 have ht:=h.1
 unfold jv at ht
 cases hc:mB lg k with
 |none=>rw[hc]at ht;cases ht
 |some c=>exact EJ hw hc
theorem Ji (hs:Small xs kn li gv sh lg) (hw:aZ xs kn li fr gv sh lg=true):fi N0 (xs,kn,li,fr,gv,sh,lg,k)=some (xs,kn,li,fr,gv,sh,lg,xw li gv sh lg k)∧jG N0 (xs,kn,li,fr,gv,sh,lg,k)=some (xw li gv sh lg k):=by
 rw[fi,jG];dsimp only
 rw[mw hs hw,p7 hs hw]
 simp only[Option.bind_some]
 unfold xw
 cases ht:jv li lg k with
 |false=>exact⟨rfl,rfl⟩
 |true =>
  have hk:gj (li.length:Int) k=true:=by
   unfold jv at ht
   cases hc:mB lg k with
   |none=>rw[hc]at ht;cases ht
   |some c=>exact t8 hw hc
  simp only[Bool.not_true,cond_false,Fz hs hw,EW hs hw,Option.bind_some,cond_true]
  cases pQ li sh k with
  |true=>exact⟨rfl,rfl⟩
  |false =>
   simp only[cond_false,eJ hk,cond_true,Pi hs.fg,iJ hs.fg,Option.bind_some]
   cases((li.getD k.toNat zI).1==(1:Int))with
   |true=>exact⟨rfl,rfl⟩
   |false =>
    cases fH gv (li.getD k.toNat zI).2.2.1 with
    |true=>exact⟨rfl,rfl⟩
    |false=>exact⟨rfl,rfl⟩
def Dt (F:List Bool) (li:List aV) (gv sh:List Int) (lg:List aM) (i:Nat):Bool := !xw li gv sh lg (i:Int) || !fB F (li.getD i zI).2.2.2.2.2.2.2.2
theorem KF (hs:Small xs kn li gv sh lg) (hw:aZ xs kn li fr gv sh lg=true){i:Nat}(hi:i<li.length) (h:xw li gv sh lg (i:Int)=true):ci xs (li.getD i zI).2.2.2.2.2.2.2.2=true:=by
 have hd:=N4 hw h
 unfold iV at hd
 rw[Bool.and_eq_true,Int.toNat_natCast]at hd
 exact(so hs hw hi).key hd.2
theorem C8 (hs:Small xs kn li gv sh lg):∃v,gc N0 (xs,kn,li,fr,gv,sh,lg)=some v∧iq N0 (xs,kn,li,fr,gv,sh,lg)=some v∧(v=true→aZ xs kn li fr gv sh lg=true∧∀i,i<li.length→xw li gv sh lg (i:Int)=true→fH kn (li.getD i zI).2.2.2.2.2.2.2.2=false):=by
 have hli:=hs.fl
 have hs':=hs
 rw[gc,iq];(try dsimp only)
 rw[(iF hs).1,(iF hs).2]
 simp only[Option.bind_some]
 cases hw:aZ xs kn li fr gv sh lg with
 |false=>exact⟨false,rfl,rfl,fun q=>by cases q⟩
 |true =>
  obtain⟨kn',c,h1,h2,h3,h4,h5⟩:=II (Dk hw)
  rw[h2,h3]
  simp only[Bool.not_true,cond_false,Option.bind_some,h4]
  generalize hF:kK xs kn'=F
  have hFl:F.length=xs.length:=by rw[←hF];exact uj xs kn' _
  have hin:∀i,i<li.length→xw li gv sh lg (i:Int)=true→aI (li.getD i zI).2.2.2.2.2.2.2.2 F.length=true:=fun i hi hc=>by
   have:=KF hs hw hi hc
   unfold ci at this
   rw[Bool.and_eq_true,decide_eq_true_iff,decide_eq_true_iff]at this
   exact qS this.1 (by rw[hFl];omega)
  have ez:∀i:Nat,li.getD i ((0:Int),((0:Int),((0:Int),((0:Int),((0:Int),(([]:List Int),(false,(false,(0:Int)))))))))=li.getD i zI:=fun _=>rfl
  have ef:∀v:Int,F.getD v.toNat false=fB F v:=fun _=>rfl
  have g1:=cm (bD N0) (fun i=>(xs,kn,li,fr,gv,sh,lg,F,li,(li.length:Int),(i:Int))) (Dt F li gv sh lg) false () li.length (fun m i hi=>by
   rw[bD];dsimp only
   rw[jt hi,cond_true,ar hi,cond_true,(Ji (k:=(i:Int)) hs hw).1]
   simp only[Option.bind_some,aw hi hli,Int.toNat_natCast,ez,ef]
   unfold Dt
   cases hc:xw li gv sh lg (i:Int)with
   |false=>rfl
   |true =>
    rw[cond_true,hin i hi hc,cond_true]
    cases fB F (li.getD i zI).2.2.2.2.2.2.2.2<;>rfl) (fun m=>by
   rw[bD];dsimp only;rw[lT];rfl) N0 0 (Nat.zero_le _) (by have:=n0;omega)
  have g2:=cm (bA N0) (fun i=>(xs,kn,li,fr,gv,sh,lg,F,(i:Int))) (Dt F li gv sh lg) false () li.length (fun m i hi=>by
   rw[bA];(try dsimp only)
   rw[jt hi,cond_true,ar hi,(Ji (k:=(i:Int)) hs hw).2]
   simp only[Option.bind_some,aw hi hli,Int.toNat_natCast,ez,ef]
   unfold Dt
   cases hc:xw li gv sh lg (i:Int)with
   |false=>rfl
   |true =>
    rw[cond_true,cond_true,hin i hi hc,cond_true]
    cases fB F (li.getD i zI).2.2.2.2.2.2.2.2<;>rfl) (fun m=>by
   rw[bA];(try dsimp only);rw[lT];rfl) N0 0 (Nat.zero_le _) (by have:=n0;omega)
  rw[Nat.sub_zero]at g1 g2
  have g1':bD N0 N0 (xs,kn,li,fr,gv,sh,lg,F,li,(li.length:Int),(0:Int))=_:=g1
  have g2':bA N0 N0 (xs,kn,li,fr,gv,sh,lg,F,(0:Int))=_:=g2
  rw[g1',g2']
  cases hA:bI (Dt F li gv sh lg) 0 li.length with
  |true =>
   refine⟨true,rfl,rfl,fun _=>⟨trivial,fun i hi hc=>?_⟩⟩
   rw[dc]at hA
   have hs:=hA i (Nat.zero_le _) (by omega)
   have hk:=KF hs' hw hi hc
   unfold ci at hk
   rw[Bool.and_eq_true,decide_eq_true_iff,decide_eq_true_iff]at hk
   unfold Dt at hs
   rw[hc,Bool.not_true,Bool.false_or,Bool.not_eq_true']at hs
   cases hh:fH kn (li.getD i zI).2.2.2.2.2.2.2.2 with
   |false=>rfl
   |true =>
    generalize hv:(li.getD i zI).2.2.2.2.2.2.2.2=v at hk hs hh
    have hm:fH kn' v=true:=by
     rw[vA,List.contains_iff_mem]at hh ⊢
     exact h5 v hh
    have hg:=yG (Dk hw).pool (kn:=kn') (t:=v.toNat) (by omega)
    rw[show((v.toNat:Nat):Int)=v by omega,hm,Bool.true_or,hF, ←Cs,show((v.toNat:Nat):Int)=v by omega,hs]at hg
    cases hg
  |false=>exact⟨false,rfl,rfl,fun q=>by cases q⟩
end
section
variable{xs:List ab}{kn:List Int}{li:List aV}{fr:Int}{gv sh:List Int}{lg:List aM}
end
section
variable{xs:List ab}{kn:List Int}{li:List aV}{fr:Int}{gv sh:List Int}{lg:List aM}{k:Int}
end
end AM
end Go.Proofs.YtpgigedclifoeaaGreatDoor
namespace Go.Proofs.YtpgigedclifoeaaGreatDoor
namespace AM
open Go.ChangeShapes Go.WideShapes Go.ChangeAt Go.RowKit
set_option linter.unusedVariables false
theorem own:ownKnob Tryz.prog.godebug=none:=by kernel_rfl
theorem Ld:laidOutB Tryz.prog=true:=by kernel_rfl
theorem N2:"*"++"errors.errorString"="*errors.errorString":=by decide
theorem JH (u:TypeId) (h:Tryz.prog.typeName? 3 u=some "*errors.errorString"):u=265 :=
 typeName_ptr_named (nm:="errors.errorString") (by rw[N2];kernel_rfl) (by kernel_rfl) (by decide) u (by rw[N2];exact h)
abbrev xS:List (String×DataW Unit):=Rows.fnClaimsRow.laid
theorem sent{W:World}{n:String}{text:List UInt8}{g:Nat}(h:laidMet Tryz.prog [(n, .iface "*errors.errorString" (.ptr (.agg [.lit (.string text)])))] W) (hg:Tryz.prog.globalNamed n=some g) (ht:(Tryz.prog.globals[g]?).map (·.type)=some 189) :
  ∃ev,W.cell? ⟨g,0,none⟩=some ev∧(ev = .nilIface∨∃te pe,ev = .iface te pe):=by
 obtain⟨a,s,hv,_⟩:=laid_sentinel h hg ht Tryz.underlying189 JH Tryz.underlying265 Tryz.underlying267 rfl rfl Tryz.underlying9 (by kernel_rfl) (by kernel_rfl)
 have:=World.var?_cell hg hv 0
 exact⟨_,this, .inr ⟨_,_,rfl⟩⟩
theorem facts{W:World}(h:laidMet Tryz.prog xS W) (hs:W.ShapedOpen Tryz.prog):af W where
 mx:=Go.Proofs.cell_of_shapedOpen_int hs (g:=0) (t:=3) (zero:=#[.int .i64 0]) (by decide) (by kernel_rfl) rfl (by kernel_rfl) (by kernel_rfl) Tryz.underlying3
 tab:=Lib.tabIs_of_head (g:=3) (t:=269) (e:=219) (n:=20) (by kernel_rfl) (by kernel_rfl) (by kernel_rfl) (by kernel_rfl) (by kernel_rfl) (by kernel_rfl)
  (lN h (.tail _ (.tail _ (.head _))))
 es:=sent (lN h (.tail _ (.tail _ (.tail _ (.tail _ (.head _)))))) (by kernel_rfl) (by kernel_rfl)
 er:=sent (lN h (.tail _ (.tail _ (.tail _ (.head _))))) (by kernel_rfl) (by kernel_rfl)
noncomputable def iu (os:Os):World :=
 let w0:=World.holding Tryz.prog os ⟨#[.cells #[.string ⟨#[118,97,108,117,101,32,111,117,116,32,111,102,32,114,97,110,103,101]⟩] 267, .cells #[.string ⟨#[105,110,118,97,108,105,100,32,115,121,110,116,97,120]⟩] 267], #[],[]⟩
 { w0 with heap:=((((w0.heap.modify 4 fun
   | .cells _ t frozen => .cells #[.int .u8 0, .int .u8 1, .int .u8 28, .int .u8 2, .int .u8 29, .int .u8 14, .int .u8 24, .int .u8 3, .int .u8 30, .int .u8 22, .int .u8 20, .int .u8 15, .int .u8 25, .int .u8 17, .int .u8 4, .int .u8 8, .int .u8 31, .int .u8 27, .int .u8 13, .int .u8 23, .int .u8 21, .int .u8 19, .int .u8 16, .int .u8 7, .int .u8 26, .int .u8 12, .int .u8 18, .int .u8 6, .int .u8 11, .int .u8 5, .int .u8 10, .int .u8 9] t frozen
   |o=>o).modify 5 fun
   | .cells _ t frozen => .cells #[.int .u8 0, .int .u8 1, .int .u8 56, .int .u8 2, .int .u8 57, .int .u8 49, .int .u8 28, .int .u8 3, .int .u8 61, .int .u8 58, .int .u8 42, .int .u8 50, .int .u8 38, .int .u8 29, .int .u8 17, .int .u8 4, .int .u8 62, .int .u8 47, .int .u8 59, .int .u8 36, .int .u8 45, .int .u8 43, .int .u8 51, .int .u8 22, .int .u8 53, .int .u8 39, .int .u8 33, .int .u8 30, .int .u8 24, .int .u8 18, .int .u8 12, .int .u8 5, .int .u8 63, .int .u8 55, .int .u8 48, .int .u8 27, .int .u8 60, .int .u8 41, .int .u8 37, .int .u8 16, .int .u8 46, .int .u8 35, .int .u8 44, .int .u8 21, .int .u8 52, .int .u8 32, .int .u8 23, .int .u8 11, .int .u8 54, .int .u8 26, .int .u8 40, .int .u8 15, .int .u8 34, .int .u8 20, .int .u8 31, .int .u8 10, .int .u8 25, .int .u8 14, .int .u8 19, .int .u8 9, .int .u8 13, .int .u8 8, .int .u8 7, .int .u8 6] t frozen
   |o=>o).modify 3 fun
   | .cells _ t frozen => .cells #[.int .u64 1, .int .u64 10, .int .u64 100, .int .u64 1000, .int .u64 10000, .int .u64 100000, .int .u64 1000000, .int .u64 10000000, .int .u64 100000000, .int .u64 1000000000, .int .u64 10000000000, .int .u64 100000000000, .int .u64 1000000000000, .int .u64 10000000000000, .int .u64 100000000000000, .int .u64 1000000000000000, .int .u64 10000000000000000, .int .u64 100000000000000000, .int .u64 1000000000000000000, .int .u64 10000000000000000000] t frozen
   |o=>o).modify 2 fun
   | .cells _ t frozen => .cells #[.iface 265 (.pointer (some ⟨11,0,none⟩))] t frozen
   |o=>o).modify 1 fun
   | .cells _ t frozen => .cells #[.iface 265 (.pointer (some ⟨12,0,none⟩))] t frozen
   |o=>o }
theorem xR (os:Os):(iu os).os=os:=rfl
end AM
end Go.Proofs.YtpgigedclifoeaaGreatDoor
namespace Go.Proofs.YtpgigedclifoeaaGreatDoor
namespace AM
open Go
set_option linter.unusedVariables false
set_option linter.unusedSimpArgs false
theorem LV{xs:List ab}{kn:List Int}{li:List aV}{fr:Int}{gv sh:List Int}{lg:List aM}(hg:GW xs kn li gv sh lg) (hw:aZ xs kn li fr gv sh lg=true):FW 602 xs kn li gv sh lg:=by
 have hp:=aX (I6 hw)
 unfold aZ rJ at hw
 rw[Bool.and_eq_true,Bool.and_eq_true,Bool.and_eq_true,decide_eq_true_iff]at hw
 exact hg.2.2.2.2.2 hp hw.1.2.1
theorem O5{xs:List ab}{kn:List Int}{li:List aV}{fr:Int}{gv sh:List Int}{lg:List aM}(hw:aZ xs kn li fr gv sh lg=true){j:Nat}(hj:j<lg.length):gj (li.length:Int) (lg.getD j zC).1=true:=by
 unfold aZ at hw
 simp only[Bool.and_eq_true]at hw
 have hl:=hw.2.2.2.2.2.2.2.2.1
 rw[dc]at hl
 have:=hl j (Nat.zero_le _) (by omega)
 unfold uJ iV at this
 rw[Bool.and_eq_true,Bool.and_eq_true]at this
 exact this.1.1
theorem Nh{b:List Int}(hb:b.length≤4294967296):∃xs kn li fr gv sh lg,gN N0 b=some (xs,kn,li,fr,gv,sh,lg)∧Small xs kn li gv sh lg∧li.length≤9:=by
 obtain⟨h0,e0,c0⟩:=Uf hb
 obtain⟨i1,h1,xs,kn,li,fr,gv,sh,lg,e1,c1,g1⟩:=FN h0 c0 hb
 have hs:=g1.1
 have hli:=g1.2.1
 have hlg:=g1.2.2.1
 unfold gN jo
 rw[e0,Option.bind_some]
 dsimp only
 rw[e1,Option.bind_some]
 dsimp only
 cases hl:((lg.length:Int)==(0:Int))with
 |true =>
  rw[cond_true]
  exact⟨_,_,_,_,_,_,_,rfl,hs,hli⟩
 |false =>
  rw[beq_eq_false_iff_ne]at hl
  rw[cond_false,(iF (fr:=fr) hs).2,Option.bind_some]
  cases hw:aZ xs kn li fr gv sh lg with
  |false =>
   rw[Bool.not_false,cond_true]
   exact⟨_,_,_,_,_,_,_,rfl,hs,hli⟩
  |true =>
   have f1:=LV g1 hw
   have fk:=f1.fk
   obtain⟨i2,h2,v2,e2,c2,b2⟩:=cR N0 h1 (lg.length:Int) c1
   have hv:0≤v2∧v2<(lg.length:Int):=by
    rcases b2 with⟨q,_⟩|q
    ·omega
    ·exact q
   have hi:=O5 hw (j:=v2.toNat) (by omega)
   obtain⟨i0,i1'⟩:=vy hi
   obtain⟨i3,h3,v3,e3,c3,b3⟩:=cR N0 h2 5 c2
   rw[Bool.not_true,cond_false]
   unfold jF
   dsimp only
   rw[e2,Option.bind_some]
   dsimp only
   have hin:aI v2 lg.length=true:=decide_eq_true hv
   have ez:lg.getD v2.toNat ((0:Int),(false,false))=lg.getD v2.toNat zC:=rfl
   rw[hin,cond_true,Option.bind_some]
   dsimp only
   rw[e3,Option.bind_some,ez]
   generalize (lg.getD v2.toNat zC).1=k at hi i0 i1'
   dsimp only
   rw[eJ hi,cond_true,cond_true,cond_true]
   cases(v3==(0:Int))with
   |true =>
    rw[cond_true,pC (by omega),Option.bind_some,Option.bind_some]
    refine⟨_,_,_,_,_,_,_,rfl,⟨hs.fx,?_,hs.fl,hs.fg,hs.fs,hs.fo,hs.fe⟩,hli⟩
    exact Nat.le_trans (qc kn _) (by omega)
   |false =>
   rw[cond_false]
   cases(v3==(1:Int))with
   |true =>
    obtain⟨i4,h4,v4,e4,c4,b4⟩:=cR N0 h3 (xs.length:Int) c3
    rw[cond_true]
    unfold jd
    dsimp only
    rw[e4,Option.bind_some]
    dsimp only
    rw[eJ hi,cond_true]
    refine⟨_,_,_,_,_,_,_,rfl,yM hs k.toNat rfl (by omega),by rw[List.length_set];exact hli⟩
   |false =>
   rw[cond_false]
   cases(v3==(2:Int))with
   |true =>
    rw[cond_true,show((5:Int) != 0)=true from rfl,cond_true]
    refine⟨_,_,_,_,_,_,_,rfl,yM hs k.toNat rfl (by omega),by rw[List.length_set];exact hli⟩
   |false=>exact⟨_,_,_,_,_,_,_,rfl,hs,hli⟩
section
variable{xs:List ab}{kn:List Int}{li:List aV}{fr:Int}{gv sh:List Int}{lg:List aM}
theorem N5 (hs:Small xs kn li gv sh lg){k:Int}:oz N0 (xs,kn,li,fr,gv,sh,lg,k)=some (aZ xs kn li fr gv sh lg&&xw li gv sh lg k):=by
 rw[oz]
 (try dsimp only)
 rw[(iF hs).1]
 simp only[Option.bind_some]
 cases hw:aZ xs kn li fr gv sh lg with
 |false=>rfl
 |true =>
  rw[(Ji hs hw).1]
  rfl
theorem Az (hs:Small xs kn li gv sh lg) (hw:aZ xs kn li fr gv sh lg=true){a:Bool}(ha:a=true→∀i,i<li.length→xw li gv sh lg (i:Int)=true→fH kn (li.getD i zI).2.2.2.2.2.2.2.2=false):∀(m i:Nat),i≤li.length→li.length<m+i →
  bp N0 m (xs,kn,li,fr,gv,sh,lg,a,(i:Int))=some (Sum.inr ())
 |0,i,h1,h2=>by omega
 |m+1,i,h1,h2=>by
  have hl:=hs.fl
  rw[bp]
  (try dsimp only)
  by_cases hq:i<li.length
  ·have ih:=Az hs hw ha m (i+1) hq (by omega)
   have ez:li.getD i ((0:Int),((0:Int),((0:Int),((0:Int),((0:Int),(([]:List Int),(false,(false,(0:Int)))))))))=li.getD i zI:=rfl
   have hkh:mu N0 (kn,(li.getD i zI).2.2.2.2.2.2.2.2)=some (fH kn (li.getD i zI).2.2.2.2.2.2.2.2):=by
    unfold mu
    dsimp only
    rw[AD hs.fk];rfl
   rw[jt hq,cond_true,N5 (k:=(i:Int)) (fr:=fr) hs,Option.bind_some,hw,Bool.true_and,ar hq,cond_true,Int.toNat_natCast,ez,hkh,Option.bind_some,aw hq hl,ih]
   cases hsec:xw li gv sh lg (i:Int)with
   |false=>rfl
   |true =>
    cases hk:fH kn (li.getD i zI).2.2.2.2.2.2.2.2 with
    |false=>rfl
    |true =>
     cases a with
     |false=>rfl
     |true =>
      have:=ha rfl i hq hsec
      rw[hk]at this
      cases this
  ·rw[Ig hq,cond_false]
end
theorem J0 (b:List Int):i9 N0 b=some true:=by
 unfold i9 xQ
 rw[Option.bind_some]
 cases hb:decide ((b.length:Int)>1048576)with
 |true=>rfl
 |false =>
  rw[decide_eq_false_iff_not]at hb
  obtain⟨xs,kn,li,fr,gv,sh,lg,e1,hs,hli⟩:=Nh (b:=b) (by omega)
  obtain⟨v,j1,j2,j3⟩:=C8 (fr:=fr) hs
  have hN:=n0
  rw[cond_false,e1,Option.bind_some]
  (try dsimp only)
  rw[nW]
  (try dsimp only)
  rw[j1,j2,FD hs,E0 hs,FB hs,EY hs,(iF (fr:=fr) hs).2]
  simp only[Option.bind_some,bne_self_eq_false,cond_false]
  cases hw:aZ xs kn li fr gv sh lg with
  |false =>
   have hv:v=false:=by
    cases v with
    |false=>rfl
    |true =>
     have:=(j3 rfl).1
     rw[hw]at this;cases this
   subst hv
   rfl
  |true =>
   have e:bp N0 N0 (xs,kn,li,fr,gv,sh,lg,v,(0:Int))=some (Sum.inr ()):=Az hs hw (fun q=>(j3 q).2) N0 0 (Nat.zero_le _) (by omega)
   rw[e]
   simp only[Option.bind_some,Bool.true_and,Bool.not_true,cond_false]
   cases v with
   |false=>rfl
   |true =>
    cases bI (pN xs li lg) 0 li.length with
    |false=>rfl
    |true =>
     cases bI (qj li lg) 0 li.length<;>rfl
theorem C7 (x:TD (bE (aC 0 (S4 0).pars))) (hx:P9 _ x):i9 N0 x=some true:=J0 x
end AM
end Go.Proofs.YtpgigedclifoeaaGreatDoor
