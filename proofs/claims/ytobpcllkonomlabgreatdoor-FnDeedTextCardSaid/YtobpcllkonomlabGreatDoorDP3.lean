/- The reference's ParseDeed as a plain function: it reads back what DeedLine writes, and nothing else; both readers of deeds agree. Under: the line is short. And what follows it: see the remarks. -/
import Derived.Test.YtobpcllkonomlabGreatDoorDP2
import Derived.Test.YtobpcllkonomlabGreatDoorRows
import Derived.Test.YtobpcllkonomlabGreatDoorDALo
import Derived.ProofKit
import Derived.OpenShut
import Derived.Deep.DeepHandedRow
import Derived.Shelf.Vars
import Derived.Stop.LaidErr
import Derived.LaidLaws
namespace Go.Proofs.YtobpcllkonomlabGreatDoor
namespace AM
open Go
set_option linter.unusedVariables false
set_option linter.unusedSimpArgs false
theorem AZ{i n:Nat}(h:i<n):aR (i:Int) n=true:=decide_eq_true (by omega)
theorem kM{x:Int}(h1:-9223372036854775808≤x) (h2:x≤9223372036854775807):IntKind.i64.wrap x=x:=nY h1 h2
theorem Na:∀d:Fin 6,(10:Int) ^ d.val≤100000:=by decide
theorem CN (n:Nat){T:ByteArray}(hT:T.size≤1048576){p:Nat}:∀(m i:Nat) (acc:Int),p≤i→i≤p+5→p+5<m+i→0≤acc→acc<10 ^ (i-p)→∃(i':Nat) (acc':Int),bd n m (T,(i:Int),(p:Int),acc)=some (T,(i':Int),(p:Int),acc')∧i≤i'∧(i<i'→i<T.size∧i'≤T.size)∧0≤acc'
 |0,i,acc,h1,h2,hm,_,_=>by omega
 |m+1,i,acc,h1,h2,hm,h0,hb=>by
  have no:∃(i':Nat) (acc':Int),some (T,(i:Int),(p:Int),acc)=some (T,(i':Int),(p:Int),acc')∧i≤i'∧(i<i'→i<T.size∧i'≤T.size)∧0≤acc':=⟨i,acc,rfl,Nat.le_refl _,fun q=>by omega,h0⟩
  rw[bd]
  dsimp only
  by_cases hq:i<T.size
  ·rw[decide_eq_true (show(i:Int)<(T.size:Int)by omega),cond_true,AZ hq,cond_true]
   cases h8:decide (bt T (i:Int)≥48)with
   |false=>exact no
   |true =>
    rw[cond_true,cond_true]
    cases h9:decide (bt T (i:Int)≤57)with
    |false=>exact no
    |true =>
     rw[cond_true,kM (x:=(i:Int)-(p:Int)) (by omega) (by omega)]
     by_cases h5:(i:Int)-(p:Int)<5
     ·rw[decide_eq_true_iff]at h8 h9
      have h10:(10:Int) ^ (i-p)≤100000:=Na ⟨i-p,by omega⟩
      have hs:(10:Int) ^ (i+1-p)=10 ^ (i-p)*10:=by rw[show i+1-p=i-p+1 by omega,Int.pow_succ]
      rw[decide_eq_true h5,cond_true,cond_true,kM (x:=(i:Int)+1) (by omega) (by omega),show(i:Int)+1=((i+1:Nat):Int)by omega,kM (x:=10*acc) (by omega) (by omega),kM (x:=bt T (i:Int)) (by omega) (by omega),kM (x:=10*acc+bt T (i:Int)) (by omega) (by omega),kM (x:=10*acc+bt T (i:Int)-48) (by omega) (by omega)]
      obtain⟨i',a',e1,e2,e3,e4⟩:=CN n hT m (i+1) (10*acc+bt T (i:Int)-48) (by omega) (by omega) (by omega) (by omega) (by omega) (p:=p)
      exact⟨i',a',e1,by omega,fun _=>by omega,e4⟩
     ·rw[decide_eq_false h5,cond_false]
      exact no
  ·rw[decide_eq_false (show ¬(i:Int)<(T.size:Int)by omega),cond_false]
   exact no
theorem xl (n:Nat) (hn:100≤n){T:ByteArray}(hT:T.size≤1048576) (p:Nat):∃(x:Int) (nx:Nat) (b:Bool),eL n (T,(p:Int))=some (x,(nx:Int),b)∧(b=true→0≤x∧p<nx∧nx≤T.size):=by
 obtain⟨i',a',e1,e2,e3,e4⟩:=CN n hT (p:=p) n p 0 (Nat.le_refl _) (by omega) (by omega) (Int.le_refl _) (by rw[Nat.sub_self];decide)
 have no:∃(x:Int) (nx:Nat) (b:Bool),some ((0:Int),(0:Int),false)=some (x,(nx:Int),b)∧(b=true→0≤x∧p<nx∧nx≤T.size):=⟨0,0,false,rfl,fun q=>by cases q⟩
 unfold eL
 dsimp only
 rw[e1,Option.bind_some]
 dsimp only
 cases hq:((i':Int)==(p:Int))with
 |true=>exact no
 |false =>
  have hlt:p<i':=by
   rw[beq_eq_false_iff_ne]at hq
   omega
  have yes:∃(x:Int) (nx:Nat) (b:Bool),some (a',(i':Int),true)=some (x,(nx:Int),b)∧(b=true→0≤x∧p<nx∧nx≤T.size):=⟨a',i',true,rfl,fun _=>⟨e4,hlt,(e3 hlt).2⟩⟩
  rw[cond_false,AZ (e3 hlt).1]
  cases decide (IntKind.i64.wrap ((i':Int)-(p:Int))>4)with
  |true=>exact no
  |false =>
   rw[cond_false,cond_true]
   cases(bt T (p:Int)==48)with
   |false=>exact yes
   |true =>
    rw[cond_true]
    cases decide (IntKind.i64.wrap ((i':Int)-(p:Int))>1)with
    |true=>exact no
    |false=>exact yes
theorem D0 (n:Nat) (hn:100≤n){T:ByteArray}(hT:T.size≤1048576) (p:Nat):∃(x:Int) (nx:Nat) (b:Bool),gj n (T,(p:Int))=some (x,(nx:Int),b):=by
 obtain⟨x,nx,b,e,_⟩:=xl n hn hT p
 unfold gj
 dsimp only
 rw[e,Option.bind_some]
 cases b with
 |true=>exact⟨_,_,_,rfl⟩
 |false=>exact⟨_,_,_,rfl⟩
theorem za (n:Nat) (hn:100≤n){T:ByteArray}(hT:T.size≤1048576){many:Nat}(h4:many≤4):∀(m at_ j:Nat) (out:List Int),out.length=j→j≤many→many<m+j →
  (∃out' at',ak n m (T,(at_:Int),(many:Int),out,(j:Int))=some (Sum.inl (out',at',false)))∨∃(at':Nat) (out':List Int),ak n m (T,(at_:Int),(many:Int),out,(j:Int))=some (Sum.inr ((at':Int),out'))∧out'.length=many
 |0,at_,j,out,ho,hj,hm=>by omega
 |m+1,at_,j,out,ho,hj,hm=>by
  rw[ak]
  dsimp only
  by_cases hq:j<many
  ·rw[decide_eq_true (show(j:Int)<(many:Int)by omega),cond_true]
   by_cases ha:at_<T.size
   ·rw[decide_eq_false (show ¬(at_:Int)≥(T.size:Int)by omega),cond_false,AZ ha,cond_true]
    cases(bt T (at_:Int) != 32)with
    |true=>exact .inl ⟨_,_,rfl⟩
    |false =>
     rw[cond_false,kM (x:=(at_:Int)+1) (by omega) (by omega),show(at_:Int)+1=((at_+1:Nat):Int)by omega]
     obtain⟨x,nx,b,e⟩:=D0 n hn hT (at_+1)
     rw[e,Option.bind_some]
     dsimp only
     cases b with
     |false=>exact .inl ⟨_,_,rfl⟩
     |true =>
      have hr:aO (out.length+[x].length)=true:=decide_eq_true (by rw[List.length_singleton];omega)
      rw[Bool.not_true,cond_false,hr,cond_true,kM (x:=(j:Int)+1) (by omega) (by omega),show(j:Int)+1=((j+1:Nat):Int)by omega]
      exact za n hn hT h4 m nx (j+1) (out++[x]) (by simp;omega) (by omega) (by omega)
   ·rw[decide_eq_true (show(at_:Int)≥(T.size:Int)by omega),cond_true]
    exact .inl ⟨_,_,rfl⟩
  ·rw[decide_eq_false (show ¬(j:Int)<(many:Int)by omega),cond_false]
   exact .inr ⟨at_,out,rfl,by omega⟩
theorem oB (n:Nat) (hn:100≤n){T:ByteArray}(hT:T.size≤1048576){many:Nat}(h4:many≤4) (at_:Nat):(∃out' at',aF n (T,(at_:Int),(many:Int))=some (out',at',false))∨∃(at':Nat) (out':List Int),aF n (T,(at_:Int),(many:Int))=some (out',(at':Int),true)∧out'.length=many:=by
 unfold aF
 dsimp only
 rcases za n hn hT h4 n at_ 0 [] rfl (Nat.zero_le _) (by omega)with⟨o,a,e⟩|⟨a,o,e,h⟩
 ·rw[show((0:Nat):Int)=(0:Int)from rfl]at e
  rw[e,Option.bind_some]
  exact .inl ⟨_,_,rfl⟩
 ·rw[show((0:Nat):Int)=(0:Int)from rfl]at e
  rw[e,Option.bind_some]
  exact .inr ⟨_,_,rfl,h⟩
theorem sK (T:ByteArray) (k a b c d:Int) (t:ByteArray) (g:Bool):∃v,(bif g then some (Sum.inl ((0:Int),(0:Int),(0:Int),(0:Int),(0:Int),(⟨#[]⟩:ByteArray),false))else bif (!(dO k a b c d t).2)then some (Sum.inl ((0:Int),(0:Int),(0:Int),(0:Int),(0:Int),(⟨#[]⟩:ByteArray),false))else bif (!aC (dO k a b c d t).1 T)then some (Sum.inl ((0:Int),(0:Int),(0:Int),(0:Int),(0:Int),(⟨#[]⟩:ByteArray),false))else(some (Sum.inl (k,a,b,c,d,t,true)):Option ((Int×Int×Int×Int×Int×ByteArray×Bool)⊕(Int×Int×Int×Int×Int×ByteArray×Int×Int×Int×Int×Int×ByteArray))))=some (Sum.inl v)∧t5 T v:=by
 cases g with
 |true=>exact⟨_,rfl, .inl rfl⟩
 |false =>
  cases h:(dO k a b c d t).2 with
  |false=>exact⟨_,rfl, .inl rfl⟩
  |true =>
   cases h2:aC (dO k a b c d t).1 T with
   |false=>exact⟨_,rfl, .inl rfl⟩
   |true=>exact⟨_,rfl, .inr ⟨k,a,b,c,d,t,rfl,Prod.ext (nz.1 h2) h⟩⟩
abbrev kG (n m:Nat) (T:ByteArray) (k:Int):=ae n m (T,(0:Int),(0:Int),(0:Int),(0:Int),(0:Int),(⟨#[]⟩:ByteArray),(0:Int),(0:Int),(0:Int),(0:Int),(0:Int),(⟨#[]⟩:ByteArray),k)
theorem vD (n m:Nat){T:ByteArray}(h:T.size<5∨aC (sub T 0 (5:Int)) (ba eS)=false):kG n (m+1) T 1=kG n m T 2:=by
 show ae n (m+1) _=_
 rw[ae]
 dsimp only
 rw[show decide ((1:Int)≤4)=true from rfl,cond_true,show ce n 1=some (ba eS)from rfl,Option.bind_some,show((ba eS).size:Int)=(5:Int)from rfl,show IntKind.i64.wrap ((1:Int)+1)=2 from rfl]
 by_cases hs:T.size<5
 ·rw[decide_eq_true (show(T.size:Int)<(5:Int)by omega),cond_true]
 ·have hr:l4 0 (5:Int) T.size=true:=decide_eq_true (by omega)
  rcases h with h|h
  ·omega
  ·rw[decide_eq_false (show ¬(T.size:Int)<(5:Int)by omega),cond_false,hr,cond_true,h,Bool.not_false,cond_true]
theorem Mj (n m:Nat){T:ByteArray}(hs:5≤T.size) (h:aC (sub T 0 (5:Int)) (ba eS)=true):kG n (m+1) T 1=(aF n (T,(5:Int),(4:Int))).bind fun r2=>(bif (!r2.2.2)then some (Sum.inl ((0:Int),(0:Int),(0:Int),(0:Int),(0:Int),(⟨#[]⟩:ByteArray),false))else bif aR (0:Int) (r2.1).length then(bif aR (1:Int) (r2.1).length then(bif aR (2:Int) (r2.1).length then(bif aR (3:Int) (r2.1).length then((aH n ((1:Int),(r2.1.getD ((0:Int)).toNat (0:Int)),(r2.1.getD ((1:Int)).toNat (0:Int)),(r2.1.getD ((2:Int)).toNat (0:Int)),(r2.1.getD ((3:Int)).toNat (0:Int)),(⟨#[]⟩:ByteArray))).bind fun r4=>(bif (r2.2.1 != (T.size:Int))then some (Sum.inl ((0:Int),(0:Int),(0:Int),(0:Int),(0:Int),(⟨#[]⟩:ByteArray),false))else bif (!r4.2)then some (Sum.inl ((0:Int),(0:Int),(0:Int),(0:Int),(0:Int),(⟨#[]⟩:ByteArray),false))else bif (!aC r4.1 T)then some (Sum.inl ((0:Int),(0:Int),(0:Int),(0:Int),(0:Int),(⟨#[]⟩:ByteArray),false))else some (Sum.inl ((1:Int),(r2.1.getD ((0:Int)).toNat (0:Int)),(r2.1.getD ((1:Int)).toNat (0:Int)),(r2.1.getD ((2:Int)).toNat (0:Int)),(r2.1.getD ((3:Int)).toNat (0:Int)),(⟨#[]⟩:ByteArray),true))))else none)else none)else none)else none):=by
 show ae n (m+1) _=_
 rw[ae]
 dsimp only
 have hr:l4 0 (5:Int) T.size=true:=decide_eq_true (by omega)
 rw[show decide ((1:Int)≤4)=true from rfl,cond_true,show ce n 1=some (ba eS)from rfl,Option.bind_some,show((ba eS).size:Int)=(5:Int)from rfl,decide_eq_false (show ¬(T.size:Int)<(5:Int)by omega),cond_false,hr,cond_true,h,Bool.not_true,cond_false]
 rfl
theorem Nn (n m:Nat) (hn:3000≤n){T:ByteArray}(hT:T.size≤1048576):kG n (m+1) T 1=kG n m T 2∨∃v,kG n (m+1) T 1=some (Sum.inl v)∧t5 T v:=by
 by_cases hs:T.size<5
 ·exact .inl (vD n m (.inl hs))
 cases h:aC (sub T 0 (5:Int)) (ba eS)with
 |false=>exact .inl (vD n m (.inr h))
 |true =>
  right
  rw[Mj n m (by omega) h]
  rcases oB n (by omega) hT (many:=4) (by omega) 5 with⟨o,a,e⟩|⟨a,o,e,ho⟩
  ·have e:aF n (T,(5:Int),(4:Int))=some (o,a,false):=e
   rw[e,Option.bind_some]
   exact⟨_,rfl, .inl rfl⟩
  ·have e:aF n (T,(5:Int),(4:Int))=some (o,(a:Int),true):=e
   rw[e,Option.bind_some]
   dsimp only
   have i0:aR (0:Int) o.length=true:=by rw[ho];rfl
   have i1:aR (1:Int) o.length=true:=by rw[ho];rfl
   have i2:aR (2:Int) o.length=true:=by rw[ho];rfl
   have i3:aR (3:Int) o.length=true:=by rw[ho];rfl
   simp only[Bool.not_true,cond_false,cond_true,i0,i1,i2,i3,iw n hn,Option.bind_some]
   exact sK T _ _ _ _ _ _ _
theorem yM (n m:Nat){T:ByteArray}(h:T.size<4∨aC (sub T 0 (4:Int)) (ba j4)=false):kG n (m+1) T 2=kG n m T 3:=by
 show ae n (m+1) _=_
 rw[ae]
 dsimp only
 rw[show decide ((2:Int)≤4)=true from rfl,cond_true,show ce n 2=some (ba j4)from rfl,Option.bind_some,show((ba j4).size:Int)=(4:Int)from rfl,show IntKind.i64.wrap ((2:Int)+1)=3 from rfl]
 by_cases hs:T.size<4
 ·rw[decide_eq_true (show(T.size:Int)<(4:Int)by omega),cond_true]
 ·have hr:l4 0 (4:Int) T.size=true:=decide_eq_true (by omega)
  rcases h with h|h
  ·omega
  ·rw[decide_eq_false (show ¬(T.size:Int)<(4:Int)by omega),cond_false,hr,cond_true,h,Bool.not_false,cond_true]
theorem Mi (n m:Nat){T:ByteArray}(hs:4≤T.size) (h:aC (sub T 0 (4:Int)) (ba j4)=true):kG n (m+1) T 2=(aF n (T,(4:Int),(1:Int))).bind fun r2=>(bif (!r2.2.2)then some (Sum.inl ((0:Int),(0:Int),(0:Int),(0:Int),(0:Int),(⟨#[]⟩:ByteArray),false))else bif aR (0:Int) (r2.1).length then(bif decide (r2.2.1≥(T.size:Int))then some (Sum.inl ((0:Int),(0:Int),(0:Int),(0:Int),(0:Int),(⟨#[]⟩:ByteArray),false))else bif aR r2.2.1 T.size then(bif (bt T r2.2.1 != (32:Int))then some (Sum.inl ((0:Int),(0:Int),(0:Int),(0:Int),(0:Int),(⟨#[]⟩:ByteArray),false))else bif l4 (IntKind.i64.wrap (r2.2.1+(1:Int))) (T.size:Int) T.size then((aH n ((2:Int),(r2.1.getD ((0:Int)).toNat (0:Int)),(0:Int),(0:Int),(0:Int),(sub T (IntKind.i64.wrap (r2.2.1+(1:Int))) (T.size:Int)))).bind fun r4=>(bif ((T.size:Int) != (T.size:Int))then some (Sum.inl ((0:Int),(0:Int),(0:Int),(0:Int),(0:Int),(⟨#[]⟩:ByteArray),false))else bif (!r4.2)then some (Sum.inl ((0:Int),(0:Int),(0:Int),(0:Int),(0:Int),(⟨#[]⟩:ByteArray),false))else bif (!aC r4.1 T)then some (Sum.inl ((0:Int),(0:Int),(0:Int),(0:Int),(0:Int),(⟨#[]⟩:ByteArray),false))else some (Sum.inl ((2:Int),(r2.1.getD ((0:Int)).toNat (0:Int)),(0:Int),(0:Int),(0:Int),(sub T (IntKind.i64.wrap (r2.2.1+(1:Int))) (T.size:Int)),true))))else none)else none)else none):=by
 show ae n (m+1) _=_
 rw[ae]
 dsimp only
 have hr:l4 0 (4:Int) T.size=true:=decide_eq_true (by omega)
 rw[show decide ((2:Int)≤4)=true from rfl,cond_true,show ce n 2=some (ba j4)from rfl,Option.bind_some,show((ba j4).size:Int)=(4:Int)from rfl,decide_eq_false (show ¬(T.size:Int)<(4:Int)by omega),cond_false,hr,cond_true,h,Bool.not_true,cond_false]
 rfl
theorem Nl (n m:Nat) (hn:3000≤n){T:ByteArray}(hT:T.size≤1048576):kG n (m+1) T 2=kG n m T 3∨∃v,kG n (m+1) T 2=some (Sum.inl v)∧t5 T v:=by
 by_cases hs:T.size<4
 ·exact .inl (yM n m (.inl hs))
 cases h:aC (sub T 0 (4:Int)) (ba j4)with
 |false=>exact .inl (yM n m (.inr h))
 |true =>
  right
  rw[Mi n m (by omega) h]
  rcases oB n (by omega) hT (many:=1) (by omega) 4 with⟨o,a,e⟩|⟨a,o,e,ho⟩
  ·have e:aF n (T,(4:Int),(1:Int))=some (o,a,false):=e
   rw[e,Option.bind_some]
   exact⟨_,rfl, .inl rfl⟩
  ·have e:aF n (T,(4:Int),(1:Int))=some (o,(a:Int),true):=e
   rw[e,Option.bind_some]
   dsimp only
   have i0:aR (0:Int) o.length=true:=by rw[ho];rfl
   simp only[Bool.not_true,cond_false,cond_true,i0]
   by_cases ha:a<T.size
   ·have w1:IntKind.i64.wrap ((a:Int)+1)=((a+1:Nat):Int):=by rw[nY (by omega) (by omega)];omega
    have hr:l4 ((a+1:Nat):Int) (T.size:Int) T.size=true:=decide_eq_true (by omega)
    rw[decide_eq_false (show ¬(a:Int)≥(T.size:Int)by omega),cond_false,AZ ha,cond_true]
    cases(bt T (a:Int) != 32)with
    |true=>exact⟨_,rfl, .inl rfl⟩
    |false =>
     rw[cond_false,w1,hr,cond_true,iw n hn,Option.bind_some]
     exact sK T _ _ _ _ _ _ _
   ·rw[decide_eq_true (show(a:Int)≥(T.size:Int)by omega),cond_true]
    exact⟨_,rfl, .inl rfl⟩
theorem ER (n m:Nat){T:ByteArray}(h:T.size<4∨aC (sub T 0 (4:Int)) (ba j6)=false):kG n (m+1) T 3=kG n m T 4:=by
 show ae n (m+1) _=_
 rw[ae]
 dsimp only
 rw[show decide ((3:Int)≤4)=true from rfl,cond_true,show ce n 3=some (ba j6)from rfl,Option.bind_some,show((ba j6).size:Int)=(4:Int)from rfl,show IntKind.i64.wrap ((3:Int)+1)=4 from rfl]
 by_cases hs:T.size<4
 ·rw[decide_eq_true (show(T.size:Int)<(4:Int)by omega),cond_true]
 ·have hr:l4 0 (4:Int) T.size=true:=decide_eq_true (by omega)
  rcases h with h|h
  ·omega
  ·rw[decide_eq_false (show ¬(T.size:Int)<(4:Int)by omega),cond_false,hr,cond_true,h,Bool.not_false,cond_true]
theorem Mh (n m:Nat){T:ByteArray}(hs:4≤T.size) (h:aC (sub T 0 (4:Int)) (ba j6)=true):kG n (m+1) T 3=(aF n (T,(4:Int),(1:Int))).bind fun r2=>(bif (!r2.2.2)then some (Sum.inl ((0:Int),(0:Int),(0:Int),(0:Int),(0:Int),(⟨#[]⟩:ByteArray),false))else bif aR (0:Int) (r2.1).length then((aH n ((3:Int),(r2.1.getD ((0:Int)).toNat (0:Int)),(0:Int),(0:Int),(0:Int),(⟨#[]⟩:ByteArray))).bind fun r4=>(bif (r2.2.1 != (T.size:Int))then some (Sum.inl ((0:Int),(0:Int),(0:Int),(0:Int),(0:Int),(⟨#[]⟩:ByteArray),false))else bif (!r4.2)then some (Sum.inl ((0:Int),(0:Int),(0:Int),(0:Int),(0:Int),(⟨#[]⟩:ByteArray),false))else bif (!aC r4.1 T)then some (Sum.inl ((0:Int),(0:Int),(0:Int),(0:Int),(0:Int),(⟨#[]⟩:ByteArray),false))else some (Sum.inl ((3:Int),(r2.1.getD ((0:Int)).toNat (0:Int)),(0:Int),(0:Int),(0:Int),(⟨#[]⟩:ByteArray),true))))else none):=by
 show ae n (m+1) _=_
 rw[ae]
 dsimp only
 have hr:l4 0 (4:Int) T.size=true:=decide_eq_true (by omega)
 rw[show decide ((3:Int)≤4)=true from rfl,cond_true,show ce n 3=some (ba j6)from rfl,Option.bind_some,show((ba j6).size:Int)=(4:Int)from rfl,decide_eq_false (show ¬(T.size:Int)<(4:Int)by omega),cond_false,hr,cond_true,h,Bool.not_true,cond_false]
 rfl
theorem Nk (n m:Nat) (hn:3000≤n){T:ByteArray}(hT:T.size≤1048576):kG n (m+1) T 3=kG n m T 4∨∃v,kG n (m+1) T 3=some (Sum.inl v)∧t5 T v:=by
 by_cases hs:T.size<4
 ·exact .inl (ER n m (.inl hs))
 cases h:aC (sub T 0 (4:Int)) (ba j6)with
 |false=>exact .inl (ER n m (.inr h))
 |true =>
  right
  rw[Mh n m (by omega) h]
  rcases oB n (by omega) hT (many:=1) (by omega) 4 with⟨o,a,e⟩|⟨a,o,e,ho⟩
  ·have e:aF n (T,(4:Int),(1:Int))=some (o,a,false):=e
   rw[e,Option.bind_some]
   exact⟨_,rfl, .inl rfl⟩
  ·have e:aF n (T,(4:Int),(1:Int))=some (o,(a:Int),true):=e
   rw[e,Option.bind_some]
   dsimp only
   have i0:aR (0:Int) o.length=true:=by rw[ho];rfl
   simp only[Bool.not_true,cond_false,cond_true,i0,iw n hn,Option.bind_some]
   exact sK T _ _ _ _ _ _ _
theorem Mk (n m:Nat){T:ByteArray}(h:T.size<4∨aC (sub T 0 (4:Int)) (ba j5)=false):kG n (m+1) T 4=kG n m T 5:=by
 show ae n (m+1) _=_
 rw[ae]
 dsimp only
 rw[show decide ((4:Int)≤4)=true from rfl,cond_true,show ce n 4=some (ba j5)from rfl,Option.bind_some,show((ba j5).size:Int)=(4:Int)from rfl,show IntKind.i64.wrap ((4:Int)+1)=5 from rfl]
 by_cases hs:T.size<4
 ·rw[decide_eq_true (show(T.size:Int)<(4:Int)by omega),cond_true]
 ·have hr:l4 0 (4:Int) T.size=true:=decide_eq_true (by omega)
  rcases h with h|h
  ·omega
  ·rw[decide_eq_false (show ¬(T.size:Int)<(4:Int)by omega),cond_false,hr,cond_true,h,Bool.not_false,cond_true]
theorem Mg (n m:Nat){T:ByteArray}(hs:4≤T.size) (h:aC (sub T 0 (4:Int)) (ba j5)=true):kG n (m+1) T 4=(aF n (T,(4:Int),(1:Int))).bind fun r2=>(bif (!r2.2.2)then some (Sum.inl ((0:Int),(0:Int),(0:Int),(0:Int),(0:Int),(⟨#[]⟩:ByteArray),false))else bif aR (0:Int) (r2.1).length then((aH n ((4:Int),(r2.1.getD ((0:Int)).toNat (0:Int)),(0:Int),(0:Int),(0:Int),(⟨#[]⟩:ByteArray))).bind fun r4=>(bif (r2.2.1 != (T.size:Int))then some (Sum.inl ((0:Int),(0:Int),(0:Int),(0:Int),(0:Int),(⟨#[]⟩:ByteArray),false))else bif (!r4.2)then some (Sum.inl ((0:Int),(0:Int),(0:Int),(0:Int),(0:Int),(⟨#[]⟩:ByteArray),false))else bif (!aC r4.1 T)then some (Sum.inl ((0:Int),(0:Int),(0:Int),(0:Int),(0:Int),(⟨#[]⟩:ByteArray),false))else some (Sum.inl ((4:Int),(r2.1.getD ((0:Int)).toNat (0:Int)),(0:Int),(0:Int),(0:Int),(⟨#[]⟩:ByteArray),true))))else none):=by
 show ae n (m+1) _=_
 rw[ae]
 dsimp only
 have hr:l4 0 (4:Int) T.size=true:=decide_eq_true (by omega)
 rw[show decide ((4:Int)≤4)=true from rfl,cond_true,show ce n 4=some (ba j5)from rfl,Option.bind_some,show((ba j5).size:Int)=(4:Int)from rfl,decide_eq_false (show ¬(T.size:Int)<(4:Int)by omega),cond_false,hr,cond_true,h,Bool.not_true,cond_false]
 rfl
theorem Nj (n m:Nat) (hn:3000≤n){T:ByteArray}(hT:T.size≤1048576):kG n (m+1) T 4=kG n m T 5∨∃v,kG n (m+1) T 4=some (Sum.inl v)∧t5 T v:=by
 by_cases hs:T.size<4
 ·exact .inl (Mk n m (.inl hs))
 cases h:aC (sub T 0 (4:Int)) (ba j5)with
 |false=>exact .inl (Mk n m (.inr h))
 |true =>
  right
  rw[Mg n m (by omega) h]
  rcases oB n (by omega) hT (many:=1) (by omega) 4 with⟨o,a,e⟩|⟨a,o,e,ho⟩
  ·have e:aF n (T,(4:Int),(1:Int))=some (o,a,false):=e
   rw[e,Option.bind_some]
   exact⟨_,rfl, .inl rfl⟩
  ·have e:aF n (T,(4:Int),(1:Int))=some (o,(a:Int),true):=e
   rw[e,Option.bind_some]
   dsimp only
   have i0:aR (0:Int) o.length=true:=by rw[ho];rfl
   simp only[Bool.not_true,cond_false,cond_true,i0,iw n hn,Option.bind_some]
   exact sK T _ _ _ _ _ _ _
theorem Ni (n m:Nat) (T:ByteArray):kG n (m+1) T 5=some (Sum.inr ((0:Int),(0:Int),(0:Int),(0:Int),(0:Int),(⟨#[]⟩:ByteArray),(0:Int),(0:Int),(0:Int),(0:Int),(0:Int),(⟨#[]⟩:ByteArray))):=by
 show ae n (m+1) _=_
 rw[ae]
 rfl
theorem xa{n:Nat}{T:ByteArray}{v:Int×Int×Int×Int×Int×ByteArray×Bool}(h:kG n n T 1=some (Sum.inl v)):cj n T=some v:=by
 unfold cj
 have h:ae n n (T,(0:Int),(0:Int),(0:Int),(0:Int),(0:Int),(⟨#[]⟩:ByteArray),(0:Int),(0:Int),(0:Int),(0:Int),(0:Int),(⟨#[]⟩:ByteArray),(1:Int))=some (Sum.inl v):=h
 rw[h];rfl
theorem Gr (n:Nat) (hn:3000≤n) (T:ByteArray) (hT:T.size≤1048576):∃v,cj n T=some v∧t5 T v:=by
 obtain⟨m,hm⟩:∃m,n=m+4+1:=⟨n-5,by omega⟩
 have key:(∃v,kG n (m+4+1) T 1=some (Sum.inl v)∧t5 T v)∨kG n (m+4+1) T 1=some (Sum.inr ((0:Int),(0:Int),(0:Int),(0:Int),(0:Int),(⟨#[]⟩:ByteArray),(0:Int),(0:Int),(0:Int),(0:Int),(0:Int),(⟨#[]⟩:ByteArray))):=by
  rcases Nn n (m+4) hn hT with e1|q
  ·rcases Nl n (m+3) hn hT with e2|q
   ·rcases Nk n (m+2) hn hT with e3|q
    ·rcases Nj n (m+1) hn hT with e4|q
     ·exact .inr (e1.trans (e2.trans (e3.trans (e4.trans (Ni n m T)))))
     ·rw[e1,e2,e3];exact .inl q
    ·rw[e1,e2];exact .inl q
   ·rw[e1];exact .inl q
  ·exact .inl q
 rw[←hm]at key
 rcases key with⟨v,e,h⟩|e
 ·exact⟨v,xa e,h⟩
 ·refine⟨_,?_, .inl rfl⟩
  unfold cj
  have e:ae n n (T,(0:Int),(0:Int),(0:Int),(0:Int),(0:Int),(⟨#[]⟩:ByteArray),(0:Int),(0:Int),(0:Int),(0:Int),(0:Int),(⟨#[]⟩:ByteArray),(1:Int))=_:=e
  rw[e];rfl
def sA (T:ByteArray) (a:Nat) (xs:List ab) (s:Option (List ab×Int×Int×Int)):Prop :=
 ∃ys t k c,s=some (ys,t,k,c)∧(c=0→aM ys=true∧(∃zs,ys=xs++zs)∧cx ys t=true∧∃b:Nat,k=b∧a<b∧b≤T.size)
def Dh (T:ByteArray) (a:Nat) (xs:List ab) (s:Option (List ab×Int×Int×Int×Int)):Prop :=
 ∃ys x y k c,s=some (ys,x,y,k,c)∧(c=0→aM ys=true∧(∃zs,ys=xs++zs)∧cx ys x=true∧cx ys y=true∧∃b:Nat,k=b∧a<b∧b≤T.size)
def xC (kn:List Int) (xs:List ab):Prop:=∀u,u<kn.length→cx xs (kn.getD u 0)=true
theorem jd{xs:List ab}{v:Int}:cx xs v=true↔0≤v∧v<(xs.length:Int):=by
 unfold cx
 rw[Bool.and_eq_true,decide_eq_true_iff,decide_eq_true_iff]
 omega
theorem uI{xs zs:List ab}{v:Int}(h:cx xs v=true):cx (xs++zs) v=true:=by
 rw[jd]at h ⊢
 rw[List.length_append]
 omega
theorem GY{kn:List Int}{xs zs:List ab}(h:xC kn xs):xC kn (xs++zs):=fun u hu=>uI (h u hu)
theorem Co{k a b:Int}{i:Nat}(hi:i≤4294967296) (h:fE N0 (k,a,b,(i:Int))=true):(k=1∧0≤a∧a≤199)∨((k=5∨k=7)∧0≤a∧a<(i:Int))∨((k=2∨k=3∨k=4∨k=6∨k=8)∧0≤a∧a<(i:Int)∧0≤b∧b<(i:Int)):=by
 have w:IntKind.i64.wrap ((i:Int)-(1:Int))=(i:Int)-1:=aw (by omega) (by omega)
 have hr:∀v lo hi:Int,ax N0 (v,lo,hi)=some (decide (v≥lo)&&decide (v≤hi)):=fun v lo hi=>by
  unfold ax
  cases q:decide (v≥lo)<;>(simp[q])
 have hk:fE N0 (k,a,b,(i:Int))=(b7 N0 (k,a,b,(i:Int))).getD false:=rfl
 rw[hk]at h
 unfold b7 at h
 dsimp only at h
 rw[w,hr,hr,hr]at h
 by_cases h1:k=1
 ·subst h1
  rw[show dr N0 1=some 0 from rfl]at h
  left
  cases q:(decide (a≥0)&&decide (a≤199))with
  |false=>simp only[Option.bind_some,beq_self_eq_true,cond_true,q]at h;cases h
  |true =>
   rw[Bool.and_eq_true,decide_eq_true_iff,decide_eq_true_iff]at q
   exact⟨rfl,q.1,q.2⟩
 by_cases h5:k=5∨k=7
 ·right;left
  have hc:dr N0 k=some 1:=by rcases h5 with rfl|rfl<;>rfl
  rw[hc]at h
  cases q:(decide (a≥0)&&decide (a≤(i:Int)-1))with
  |false=>simp only[Option.bind_some,show((1:Int)==0)=false from rfl,beq_self_eq_true,cond_true,cond_false,q]at h;cases h
  |true =>
   rw[Bool.and_eq_true,decide_eq_true_iff,decide_eq_true_iff]at q
   exact⟨h5,q.1,by omega⟩
 by_cases h2:k=2∨k=3∨k=4∨k=6∨k=8
 ·right;right
  have hc:dr N0 k=some 2:=by rcases h2 with rfl|rfl|rfl|rfl|rfl<;>rfl
  rw[hc]at h
  cases q:(decide (a≥0)&&decide (a≤(i:Int)-1))with
  |false=>simp only[Option.bind_some,show((2:Int)==0)=false from rfl,show((2:Int)==1)=false from rfl,beq_self_eq_true,cond_true,cond_false,q]at h;cases h
  |true =>
   cases q2:(decide (b≥0)&&decide (b≤(i:Int)-1))with
   |false=>simp only[Option.bind_some,show((2:Int)==0)=false from rfl,show((2:Int)==1)=false from rfl,beq_self_eq_true,cond_true,cond_false,q,q2]at h;cases h
   |true =>
    rw[Bool.and_eq_true,decide_eq_true_iff,decide_eq_true_iff]at q q2
    exact⟨h2,q.1,by omega,q2.1,by omega⟩
 exfalso
 have hc:∃c,dr N0 k=some c∧c≠0∧c≠1∧c≠2:=by
  unfold dr
  simp only[show(k==1)=false from by rw[beq_eq_false_iff_ne];exact h1,show(k==2)=false from by rw[beq_eq_false_iff_ne];omega,show(k==3)=false from by rw[beq_eq_false_iff_ne];omega,show(k==4)=false from by rw[beq_eq_false_iff_ne];omega,show(k==5)=false from by rw[beq_eq_false_iff_ne];omega,show(k==6)=false from by rw[beq_eq_false_iff_ne];omega,show(k==7)=false from by rw[beq_eq_false_iff_ne];omega,show(k==8)=false from by rw[beq_eq_false_iff_ne];omega,cond_false]
  exact⟨_,rfl,by decide,by decide,by decide⟩
 obtain⟨c,hc,c0,c1,c2⟩:=hc
 rw[hc]at h
 simp only[Option.bind_some,show(c==0)=false from by rw[beq_eq_false_iff_ne];exact c0,show(c==1)=false from by rw[beq_eq_false_iff_ne];exact c1,show(c==2)=false from by rw[beq_eq_false_iff_ne];exact c2,cond_false]at h
 cases h
theorem AT{m:List ab}{p:Int}(hp:aM m=true) (h:cx m p=true) (hk:(m.getD p.toNat nX).1=2∨(m.getD p.toNat nX).1=3∨(m.getD p.toNat nX).1=4):cx m (m.getD p.toNat nX).2.1=true∧cx m (m.getD p.toNat nX).2.2=true:=by
 have h2:=jd.1 h
 have hl:=cW hp
 have:=Co (by omega) (wZ hp (j:=p.toNat) (by omega))
 rw[jd,jd]
 rcases this with⟨q,_⟩|⟨q,_⟩|⟨_,q1,q2,q3,q4⟩
 ·rw[q]at hk;omega
 ·rcases q with q|q<;>(rw[q]at hk;omega)
 ·omega
section
variable{T:ByteArray}{a:Nat}{xs:List ab}{kn:List Int}
theorem gu{ys:List ab}{t k c:Int}(hc:c≠0):sA T a xs (some (ys,t,k,c)):=⟨ys,t,k,c,rfl,fun h=>absurd h hc⟩
theorem sJ{ys:List ab}{t u k c:Int}(hc:c≠0):Dh T a xs (some (ys,t,u,k,c)):=⟨ys,t,u,k,c,rfl,fun h=>absurd h hc⟩
theorem wL (hT:T.size≤100000) (ha:a≤T.size) (e:Int):(ar N0 (T,(a:Int),e)=some (((a+1:Nat):Int),(0:Int))∧a+1≤T.size)∨(∃k c:Int,c≠0∧ar N0 (T,(a:Int),e)=some (k,c)):=by
 unfold ar
 dsimp only
 by_cases h:a<T.size
 ·rw[show decide ((a:Int)≥(T.size:Int))=false from decide_eq_false (by omega),aQ h,cond_false,cond_true]
  cases(bt T (a:Int) != e)with
  |false =>
   rw[cond_false,aw (by omega) (by omega)]
   exact .inl ⟨rfl,h⟩
  |true=>exact .inr ⟨_,3,by decide,rfl⟩
 ·rw[show decide ((a:Int)≥(T.size:Int))=true from decide_eq_true (by omega),cond_true]
  exact .inr ⟨_,2,by decide,rfl⟩
theorem No{rec_:List ab×List Int×ByteArray×Int→Option (List ab×Int×Int×Int)}(hT:T.size≤100000) (ha:a+1≤T.size) (hp:aM xs=true) (hk:xC kn xs):sA T a xs ((eL N0 (T,((a+1:Nat):Int))).bind fun r1=>(cond (!r1.2.2) (some (xs,(-1:Int),(a:Int),(4:Int))) (cond (decide (r1.1≥((kn).length:Int))) (some (xs,(-1:Int),(a:Int),(4:Int))) ((gp N0 rec_ (kn,xs,[],r1.1,r1.2.1)).bind fun g2=>(some (g2.1,g2.2.1,g2.2.2.1,g2.2.2.2)))))):=by
 obtain⟨x,nx,b,e,h⟩:=xl N0 (by have:=n0;omega) (T:=T) (by omega) (a+1)
 rw[e,Option.bind_some]
 dsimp only
 cases b with
 |false=>exact gu (by decide)
 |true =>
  obtain⟨x0,n1,n2⟩:=h rfl
  rw[Bool.not_true,cond_false]
  cases hku:decide (x≥(kn.length:Int))with
  |true=>exact gu (by decide)
  |false =>
   rw[decide_eq_false_iff_not]at hku
   have hu:x.toNat<kn.length:=by omega
   have ex:((x.toNat:Nat):Int)=x:=by omega
   have hin:=aQ hu
   rw[ex]at hin
   rw[cond_false,gp]
   dsimp only
   rw[hin,cond_true,Option.bind_some]
   exact⟨_,_,_,_,rfl,fun _=>⟨hp,⟨[],by simp⟩,hk _ hu,_,rfl,by omega,n2⟩⟩
theorem xm{p:Nat}(hT:T.size≤100000):∀(m i:Nat) (acc:Int),p≤i→i≤p+4→p+4<m+i→∃(i':Nat) (acc':Int),cH N0 m (T,(i:Int),(p:Int),acc)=some (T,(i':Int),(p:Int),acc')∧i≤i'∧(i<i'→i<T.size∧i'≤T.size)
 |0,i,acc,h1,h2,hm=>by omega
 |m+1,i,acc,h1,h2,hm=>by
  have no:∃(i':Nat) (acc':Int),some (T,(i:Int),(p:Int),acc)=some (T,(i':Int),(p:Int),acc')∧i≤i'∧(i<i'→i<T.size∧i'≤T.size):=⟨i,acc,rfl,Nat.le_refl _,fun q=>by omega⟩
  rw[cH]
  dsimp only
  by_cases hq:i<T.size
  ·rw[xr hq,cond_true,aQ hq,cond_true]
   cases decide (bt T (i:Int)≥48)with
   |false=>exact no
   |true =>
    rw[cond_true,cond_true]
    cases decide (bt T (i:Int)≤57)with
    |false=>exact no
    |true =>
     rw[cond_true,aw (n:=(i:Int)-(p:Int)) (by omega) (by omega)]
     by_cases h5:(i:Int)-(p:Int)<4
     ·rw[decide_eq_true h5,cond_true,cond_true,cF hq (by omega)]
      obtain⟨i',a',e1,e2,e3⟩:=xm hT m (i+1) (IntKind.i64.wrap ((IntKind.i64.wrap ((IntKind.i64.wrap ((10:Int)*acc))+(IntKind.i64.wrap (bt T (i:Int)))))-(48:Int))) (by omega) (by omega) (by omega) (p:=p)
      exact⟨i',a',e1,by omega,fun _=>by omega⟩
     ·rw[decide_eq_false h5,cond_false]
      exact no
  ·rw[show decide ((i:Int)<(T.size:Int))=false from decide_eq_false (by omega),cond_false]
   exact no
theorem Gz (hT:T.size≤100000) (p:Nat):∃(x:Int) (nx:Nat) (b:Bool),gi N0 (T,(p:Int))=some (x,(nx:Int),b)∧(b=true→p<nx∧nx≤T.size):=by
 obtain⟨i',a',e1,e2,e3⟩:=xm (p:=p) hT N0 p 0 (Nat.le_refl _) (by omega) (by have:=n0;omega)
 have no:∃(x:Int) (nx:Nat) (b:Bool),some ((0:Int),(0:Int),false)=some (x,(nx:Int),b)∧(b=true→p<nx∧nx≤T.size):=⟨0,0,false,rfl,fun q=>by cases q⟩
 unfold gi
 dsimp only
 rw[e1,Option.bind_some]
 dsimp only
 cases hq:((i':Int)==(p:Int))with
 |true=>exact no
 |false =>
  have hlt:p<i':=by
   rw[beq_eq_false_iff_ne]at hq
   omega
  have yes:∃(x:Int) (nx:Nat) (b:Bool),some (a',(i':Int),true)=some (x,(nx:Int),b)∧(b=true→p<nx∧nx≤T.size):=⟨a',i',true,rfl,fun _=>⟨hlt,(e3 hlt).2⟩⟩
  rw[cond_false,aQ (e3 hlt).1]
  cases decide (IntKind.i64.wrap ((i':Int)-(p:Int))>3)with
  |true=>exact no
  |false =>
   rw[cond_false,cond_true]
   cases(bt T (p:Int)==48)<;>cases decide (IntKind.i64.wrap ((i':Int)-(p:Int))>1)<;>cases decide (a'≥200)<;>first
    |exact no
    |exact yes
theorem K2 (hT:T.size≤100000) (ha:a+1≤T.size) (hp:aM xs=true):sA T a xs ((gi N0 (T,((a+1:Nat):Int))).bind fun r3=>(cond (!r3.2.2) (some (xs,(-1:Int),(a:Int),(4:Int))) ((fV N0 r3.1).bind fun r4=>(cond (!r4) (some (xs,(-1:Int),(a:Int),(4:Int))) ((bO N0 (xs,r3.1)).bind fun r5=>(cond (decide (r5.2<(0:Int))) (some (xs,(-1:Int),r3.2.1,(5:Int))) (some (r5.1,r5.2,r3.2.1,(0:Int))))))))):=by
 obtain⟨x,nx,b,e,h⟩:=Gz hT (a+1)
 rw[e,Option.bind_some]
 dsimp only
 cases b with
 |false=>exact gu (by decide)
 |true =>
  obtain⟨n1,n2⟩:=h rfl
  have hq:∃q,fV N0 x=some q:=by
   unfold fV aS
   cases decide (x≥0)<;>exact⟨_,rfl⟩
  obtain⟨q,hq⟩:=hq
  rw[Bool.not_true,cond_false,hq,Option.bind_some,iY hp]
  cases q with
  |false=>exact gu (by decide)
  |true =>
   rw[Bool.not_true,cond_false,Option.bind_some]
   cases hA:iz xs 1 x 0 with
   |none=>exact gu (by decide)
   |some p =>
    obtain⟨ys,t⟩:=p
    obtain⟨g1,g2,g3⟩:=lh hp hA
    rw[show mZ xs (some (ys,t))=(ys,t)from rfl]
    dsimp only
    rw[show decide (t<(0:Int))=false from decide_eq_false (by have:=(jd.1 g2).1;omega),cond_false]
    exact⟨_,_,_,_,rfl,fun _=>⟨g1,g3,g2,_,rfl,by omega,n2⟩⟩
theorem NY{ys:List ab}(hp:aM ys=true){t:Int}(h:cx ys t=true) (v:Int):∃o,dV N0 (ys,v,t)=some o∧(o<0∨cx ys o=true):=by
 unfold dV
 dsimp only
 rw[pX h,cond_true]
 have e1:((ys.getD t.toNat nX).1==(2:Int))=true→cx ys (ys.getD t.toNat nX).2.1=true∧cx ys (ys.getD t.toNat nX).2.2=true:=fun q=>AT hp h (.inl (by simpa using q))
 have e2:((ys.getD t.toNat nX).1==(4:Int))=true→cx ys (ys.getD t.toNat nX).2.1=true:=fun q=>(AT hp h (.inr (.inr (by simpa using q)))).1
 have ez:ys.getD t.toNat ((0:Int),((0:Int),(0:Int)))=ys.getD t.toNat nX:=rfl
 rw[ez]
 revert e1 e2
 cases((ys.getD t.toNat nX).1==(2:Int))<;>cases((ys.getD t.toNat nX).1==(4:Int))<;>cases(v==(60:Int))<;>cases(v==(33:Int))<;>cases(v==(62:Int))<;>intro e1 e2<;>first
  |exact⟨_,rfl, .inl (by decide)⟩
  |exact⟨_,rfl, .inr (e1 rfl).1⟩
  |exact⟨_,rfl, .inr (e1 rfl).2⟩
  |exact⟨_,rfl, .inr (e2 rfl)⟩
theorem DF{s:Option (List ab×Int×Int×Int)}(hs:sA T (a+1) xs s) (v:Int):sA T a xs (s.bind fun r6=>(cond (r6.2.2.2 != (0:Int)) (some (r6.1,(-1:Int),r6.2.2.1,r6.2.2.2)) ((dV N0 (r6.1,v,r6.2.1)).bind fun r7=>(cond (decide (r7<(0:Int))) (some (r6.1,(-1:Int),r6.2.2.1,(7:Int))) (some (r6.1,r7,r6.2.2.1,(0:Int))))))):=by
 obtain⟨ys,t,k,c,rfl,h⟩:=hs
 rw[Option.bind_some]
 dsimp only
 by_cases hc:c=0
 ·obtain⟨h1,h2,h3,b,h4,h5,h6⟩:=h hc
  obtain⟨o,e1,e2⟩:=NY h1 h3 v
  rw[hc,e1,Option.bind_some,show((0:Int) != 0)=false from rfl,cond_false]
  cases ho:decide (o<0)with
  |true=>exact gu (by decide)
  |false =>
   rw[decide_eq_false_iff_not]at ho
   exact⟨_,_,_,_,rfl,fun _=>⟨h1,h2,e2.resolve_left ho,b,h4,by omega,h6⟩⟩
 ·rw[show(c != 0)=true from by rw[bne_iff_ne];exact hc,cond_true]
  exact gu hc
theorem Jb{ys:List ab}(h1:aM ys=true) (h2:∃zs,ys=xs++zs){b:Nat}(h5:a<b) (h6:b≤T.size) (kd p q:Int):sA T a xs ((aX N0 (ys,kd,p,q)).bind fun r18=>(cond (decide (r18.2<(0:Int))) (some (ys,(-1:Int),(b:Int),(5:Int))) (some (r18.1,r18.2,(b:Int),(0:Int))))):=by
 rw[gt h1,Option.bind_some]
 cases hA:iz ys kd p q with
 |none=>exact gu (by decide)
 |some m =>
  obtain⟨zs,t⟩:=m
  obtain⟨g1,g2,z,g3⟩:=lh h1 hA
  rw[show mZ ys (some (zs,t))=(zs,t)from rfl]
  dsimp only
  rw[show decide (t<(0:Int))=false from decide_eq_false (by have:=(jd.1 g2).1;omega),cond_false]
  obtain⟨z',h2⟩:=h2
  exact⟨_,_,_,_,rfl,fun _=>⟨g1,⟨z'++z,by rw[g3,h2,List.append_assoc]⟩,g2,b,rfl,h5,h6⟩⟩
theorem K4{s:Option (List ab×Int×Int×Int)}(hs:sA T (a+1) xs s) (kd:Int):sA T a xs (s.bind fun r19=>(cond (r19.2.2.2 != (0:Int)) (some (r19.1,(-1:Int),r19.2.2.1,r19.2.2.2)) ((aX N0 (r19.1,kd,r19.2.1,(0:Int))).bind fun r20=>(cond (decide (r20.2<(0:Int))) (some (r19.1,(-1:Int),r19.2.2.1,(5:Int))) (some (r20.1,r20.2,r19.2.2.1,(0:Int))))))):=by
 obtain⟨ys,t,k,c,rfl,h⟩:=hs
 rw[Option.bind_some]
 dsimp only
 by_cases hc:c=0
 ·obtain⟨h1,h2,h3,b,h4,h5,h6⟩:=h hc
  rw[hc,h4,show((0:Int) != 0)=false from rfl,cond_false]
  exact Jb h1 h2 (by omega) h6 kd _ _
 ·rw[show(c != 0)=true from by rw[bne_iff_ne];exact hc,cond_true]
  exact gu hc
theorem K3{s:Option (List ab×Int×Int×Int×Int)}(hs:Dh T (a+1) xs s) (kd:Int):sA T a xs (s.bind fun r17=>(cond (r17.2.2.2.2 != (0:Int)) (some (r17.1,(-1:Int),r17.2.2.2.1,r17.2.2.2.2)) ((aX N0 (r17.1,kd,r17.2.1,r17.2.2.1)).bind fun r18=>(cond (decide (r18.2<(0:Int))) (some (r17.1,(-1:Int),r17.2.2.2.1,(5:Int))) (some (r18.1,r18.2,r17.2.2.2.1,(0:Int))))))):=by
 obtain⟨ys,t,u,k,c,rfl,h⟩:=hs
 rw[Option.bind_some]
 dsimp only
 by_cases hc:c=0
 ·obtain⟨h1,h2,h3,h3',b,h4,h5,h6⟩:=h hc
  rw[hc,h4,show((0:Int) != 0)=false from rfl,cond_false]
  exact Jb h1 h2 (by omega) h6 kd _ _
 ·rw[show(c != 0)=true from by rw[bne_iff_ne];exact hc,cond_true]
  exact gu hc
theorem EY{s:Option (List ab×Int×Int×Int×Int)}(hs:Dh T (a+1) xs s) (v:Int):sA T a xs (s.bind fun r12=>(cond (r12.2.2.2.2 != (0:Int)) (some (r12.1,(-1:Int),r12.2.2.2.1,r12.2.2.2.2)) ((gN N0 (r12.1,v,r12.2.1,r12.2.2.1)).bind fun r13=>(some (r13.1,r13.2.1,r12.2.2.2.1,r13.2.2))))):=by
 obtain⟨ys,x,y,k,c,rfl,h⟩:=hs
 rw[Option.bind_some]
 dsimp only
 by_cases hc:c=0
 ·obtain⟨h1,⟨z',h2⟩,h3,h3',b,h4,h5,h6⟩:=h hc
  rw[hc,h4,show((0:Int) != 0)=false from rfl,cond_false,gN]
  dsimp only
  rw[pX h3,pX h3',cond_true,cond_true]
  cases(v==(111:Int))with
  |true =>
   rw[cond_true]
   cases hk:((ys.getD x.toNat ((0:Int),((0:Int),(0:Int)))).1 != (3:Int))with
   |true=>exact gu (c:=7) (by decide)
   |false =>
    have hk3:(ys.getD x.toNat nX).1=3:=by
     rw[bne_eq_false_iff_eq]at hk
     exact hk
    rw[cond_false]
    cases((ys.getD x.toNat ((0:Int),((0:Int),(0:Int)))).2.2 != y)with
    |true=>exact gu (c:=7) (by decide)
    |false=>exact⟨_,_,_,_,rfl,fun _=>⟨h1,⟨z',h2⟩,(AT h1 h3 (.inr (.inl hk3))).1,b,rfl,by omega,h6⟩⟩
  |false =>
   rw[cond_false]
   cases((ys.getD y.toNat ((0:Int),((0:Int),(0:Int)))).1 != (7:Int))with
   |true=>exact gu (c:=7) (by decide)
   |false =>
    rw[cond_false,sE h1,Option.bind_some]
    cases hA:pH ys y x with
    |none=>exact gu (c:=5) (by decide)
    |some m =>
     obtain⟨zs,t⟩:=m
     obtain⟨g1,g2,z,g3⟩:=lh h1 (ou hA)
     rw[show mZ ys (some (zs,t))=(zs,t)from rfl]
     dsimp only
     rw[show decide (t<(0:Int))=false from decide_eq_false (by have:=(jd.1 g2).1;omega),cond_false]
     exact⟨_,_,_,_,rfl,fun _=>⟨g1,⟨z'++z,by rw[g3,h2,List.append_assoc]⟩,g2,b,rfl,by omega,h6⟩⟩
 ·rw[show(c != 0)=true from by rw[bne_iff_ne];exact hc,cond_true]
  exact gu hc
theorem Xo{c:Int}(h:c≠0):(c==0)=false:=by rw[beq_eq_false_iff_ne];exact h
theorem BS{rec_:List ab×List Int×ByteArray×Int→Option (List ab×Int×Int×Int)}(hT:T.size≤100000) (ih:∀(b:Nat) (ys:List ab),a≤b→b≤T.size→aM ys=true→xC kn ys→sA T b ys (rec_ (ys,kn,T,(b:Int)))) (ha:a≤T.size) (hp:aM xs=true) (hk:xC kn xs){b:Nat}(hb:a≤b) (hb2:b≤T.size) (e:Int):Dh T a xs (cV N0 rec_ (xs,kn,T,(b:Int),false,e)):=by
 unfold cV
 dsimp only
 rw[cond_false,show((0:Int)==0)=true from rfl,cond_true]
 obtain⟨ys,t,k,c,e1,h⟩:=ih b xs hb hb2 hp hk
 rw[e1,Option.bind_some]
 dsimp only
 by_cases hc:c=0
 ·obtain⟨h1,⟨z,rfl⟩,h3,b',rfl,h5,h6⟩:=h hc
  rw[hc,show((0:Int)==0)=true from rfl,cond_true]
  rcases wL hT h6 44 with⟨w1,w2⟩|⟨k2,c2,w0,w1⟩
  ·rw[w1,Option.bind_some]
   dsimp only
   rw[show((0:Int)==0)=true from rfl,cond_true]
   obtain⟨ys2,t2,k2,c2,e2,h'⟩:=ih (b'+1) _ (by omega) w2 h1 (GY hk)
   rw[e2,Option.bind_some]
   dsimp only
   by_cases hc2:c2=0
   ·obtain⟨i1,⟨z2,rfl⟩,i3,b2,rfl,i5,i6⟩:=h' hc2
    rw[hc2,show((0:Int)==0)=true from rfl,cond_true]
    rcases wL hT i6 e with⟨u1,u2⟩|⟨k3,c3,u0,u1⟩
    ·rw[u1,Option.bind_some]
     exact⟨_,_,_,_,_,rfl,fun _=>⟨i1,⟨z++z2,by rw[List.append_assoc]⟩,uI h3,i3,_,rfl,by omega,u2⟩⟩
    ·rw[u1,Option.bind_some]
     exact sJ u0
   ·rw[Xo hc2,cond_false]
    exact sJ hc2
  ·rw[w1,Option.bind_some]
   dsimp only
   rw[Xo w0,cond_false]
   exact sJ w0
 ·rw[Xo hc,cond_false]
  exact sJ hc
theorem F7{T:ByteArray}{a b e:Int}{kn:List Int}{xs:List ab}{rec_:List ab×List Int×ByteArray×Int→Option (List ab×Int×Int×Int)}(h:ar N0 (T,a,40)=some (b,0)):cV N0 rec_ (xs,kn,T,a,true,e)=cV N0 rec_ (xs,kn,T,b,false,e):=by
 unfold cV
 dsimp only
 rw[h]
 rfl
theorem F6{T:ByteArray}{a b e c:Int}{kn:List Int}{xs:List ab}{rec_:List ab×List Int×ByteArray×Int→Option (List ab×Int×Int×Int)}(h:ar N0 (T,a,40)=some (b,c)) (hc:c≠0):cV N0 rec_ (xs,kn,T,a,true,e)=some (xs, -1, -1,b,c):=by
 unfold cV
 dsimp only
 rw[h,cond_true,Option.bind_some]
 dsimp only
 rw[show(c==0)=false from by rw[beq_eq_false_iff_ne];exact hc]
 rfl
theorem Dv{rec_:List ab×List Int×ByteArray×Int→Option (List ab×Int×Int×Int)}(hT:T.size≤100000) (ih:∀(b:Nat) (ys:List ab),a≤b→b≤T.size→aM ys=true→xC kn ys→sA T b ys (rec_ (ys,kn,T,(b:Int)))) (ha:a≤T.size) (hp:aM xs=true) (hk:xC kn xs) (o:Bool) (e:Int):Dh T a xs (cV N0 rec_ (xs,kn,T,(a:Int),o,e)):=by
 cases o with
 |false=>exact BS hT ih ha hp hk (Nat.le_refl _) ha e
 |true =>
  rcases wL hT ha 40 with⟨w1,w2⟩|⟨k,c,w0,w1⟩
  ·have h:=BS hT ih ha hp hk (Nat.le_succ a) w2 e
   rw[F7 w1]
   exact h
  ·rw[F6 w1 w0]
   exact sJ w0
end
theorem GX{T:ByteArray}{a:Int}(h:aR a T.size=true):∃k l e,iW N0 (T,a)=some (k,l,e):=by
 unfold iW
 dsimp only
 rw[h,cond_true]
 cases(bt T a==40)
 ·cases(bt T a==123)
  ·cases(bt T a==91)
   ·cases(bt T a==35)
    ·cases(bt T a==94)
     ·cases(bt T a==107)
      ·cases(bt T a==42)<;>exact⟨_,_,_,rfl⟩
      ·exact⟨_,_,_,rfl⟩
     ·exact⟨_,_,_,rfl⟩
    ·exact⟨_,_,_,rfl⟩
   ·exact⟨_,_,_,rfl⟩
  ·exact⟨_,_,_,rfl⟩
 ·exact⟨_,_,_,rfl⟩
theorem I9{T:ByteArray}(hT:T.size≤100000){kn:List Int}:∀(n a:Nat) (xs:List ab) (j:Nat),T.size-a≤n→n<j→a≤T.size→aM xs=true→xC kn xs→sA T a xs (di N0 j (xs,kn,T,(a:Int)))
 |n,a,xs,0,_,hj,_,_,_=>absurd hj (by omega)
 |n,a,xs,j+1,hn,hj,ha,hp,hk=>by
  show sA T a xs (kf N0 (di N0 j) (xs,kn,T,(a:Int)))
  unfold kf
  dsimp only
  by_cases hs:a<T.size
  ·obtain⟨n,rfl⟩:∃m,n=m+1:=⟨n-1,by omega⟩
   have ih:∀(b:Nat) (ys:List ab),a+1≤b→b≤T.size→aM ys=true→xC kn ys→sA T b ys (di N0 j (ys,kn,T,(b:Int))):=fun b ys q1 q2 q3 q4=>I9 hT n b ys j (by omega) (by omega) q2 q3 q4
   obtain⟨kd,l,e,hkd⟩:=GX (T:=T) (aQ hs)
   rw[show decide ((a:Int)≥(T.size:Int))=false from decide_eq_false (by omega),aQ hs,cond_false,cond_true,hkd,aw (by omega) (by omega),show((a:Int)+1)=((a+1:Nat):Int)from by omega,Option.bind_some]
   dsimp only
   have hi:=ih (a+1) xs (Nat.le_refl _) hs hp hk
   cases(bt T (a:Int)==(64:Int))with
   |true=>exact No hT hs hp hk
   |false =>
   rw[cond_false]
   cases(bt T (a:Int)==(110:Int))with
   |true=>exact K2 hT hs hp
   |false =>
   rw[cond_false]
   cases(bt T (a:Int)==(60:Int))with
   |true=>exact DF hi _
   |false =>
   rw[cond_false]
   cases(bt T (a:Int)==(62:Int))with
   |true=>exact DF hi _
   |false =>
   rw[cond_false]
   cases(bt T (a:Int)==(33:Int))with
   |true=>exact DF hi _
   |false =>
   rw[cond_false]
   cases(bt T (a:Int)==(111:Int))with
   |true=>exact EY (Dv hT ih hs hp hk true 41) _
   |false =>
   rw[cond_false]
   cases(bt T (a:Int)==(120:Int))with
   |true=>exact EY (Dv hT ih hs hp hk true 41) _
   |false =>
   rw[cond_false]
   cases decide (kd>0)with
   |true =>
    rw[cond_true,cond_true]
    cases decide (e>0)with
    |true=>exact K3 (Dv hT ih hs hp hk _ _) _
    |false=>exact K4 hi _
   |false=>exact gu (c:=3) (by decide)
  ·rw[show decide ((a:Int)≥(T.size:Int))=true from decide_eq_true (by omega),cond_true]
   exact gu (by decide)
theorem BY {α:Type}{xs:List α}(h:xs.length≤1000000){k:α}:aO (xs.length+[k].length)=true:=by
 unfold aO
 simp
 omega
def G2 (t:Int):List Int→List Int
 |[]=>[t]
 |v::r=>if v<t then v::G2 t r else t::v::r
def pj (v:Int):Bool→List Int→List Int×Bool
 |b,[]=>([],b)
 |true,x::r=>(x::r,true)
 |false,x::r=>if v<x then(v::x::r,true)else(x::(pj v false r).1,(pj v false r).2)
theorem DK (v:Int) (r:List Int):pj v true r=(r,true):=by cases r<;>rfl
theorem yR (v:Int):∀(r pre out:List Int) (b:Bool) (m:Nat),r.length<m→pre.length+r.length≤1000→out.length+2*r.length≤100000→bB N0 m (pre++r,v,out,b,(pre.length:Int))=some (v,out++(pj v b r).1,(pj v b r).2)
 |[],pre,out,b,m,hm,hl,ho=>by
  obtain⟨i,rfl⟩:∃i,m=i+1:=⟨m-1,by omega⟩
  rw[bB]
  dsimp only
  rw[NG,cond_false]
  cases b<;>simp[pj]
 |x::r,pre,out,b,m,hm,hl,ho=>by
  obtain⟨i,rfl⟩:∃i,m=i+1:=⟨m-1,by omega⟩
  have hl':pre.length+(r.length+1)≤1000:=hl
  have hm':r.length+1<i+1:=hm
  have w:IntKind.i64.wrap ((pre.length:Int)+1)=((pre++[x]).length:Int):=by rw[aw (by omega) (by omega),s6]
  have ho2:out.length+2*(r.length+1)≤100000:=ho
  have go:∀out' b',out'.length+2*r.length≤100000→bB N0 i (pre++x::r,v,out',b',((pre++[x]).length:Int))=some (v,out'++(pj v b' r).1,(pj v b' r).2):=fun out' b' ho'=>by
   rw[LG]
   exact yR v r (pre++[x]) out' b' i (by omega) (by simp;omega) ho'
  rw[bB]
  dsimp only
  rw[NE,cond_true,NM,Int.toNat_natCast,Fz]
  simp only[cond_true,w]
  cases b with
  |true =>
   simp only[Bool.not_true,cond_false,BY (show out.length≤1000000 by omega),cond_true]
   rw[go _ _ (by simp;omega)]
   simp[pj,DK]
  |false =>
   simp only[Bool.not_false,cond_true]
   by_cases hx:v<x
   ·simp only[decide_eq_true (show x>v from hx),cond_true,BY (show out.length≤1000000 by omega),BY (show(out++[v]).length≤1000000 by simp;omega)]
    rw[go _ _ (by simp;omega),pj,if_pos hx,DK]
    simp
   ·simp only[decide_eq_false (show ¬x>v from hx),cond_false,cond_true,BY (show out.length≤1000000 by omega)]
    rw[go _ _ (by simp;omega),pj,if_neg hx]
    simp
theorem B9 (v:Int):∀{r:List Int},v∉r→(bif (pj v false r).2 then(pj v false r).1 else(pj v false r).1++[v])=G2 v r
 |[],_=>rfl
 |x::r,h=>by
  rw[pj,G2]
  by_cases hx:v<x
  ·rw[if_pos hx,if_neg (by omega)];rfl
  ·have hne:v≠x:=fun q=>h (q▸List.mem_cons_self ..)
   rw[if_neg hx,if_pos (by omega), ←B9 v (fun q=>h (List.mem_cons_of_mem _ q))]
   dsimp only
   cases(pj v false r).2<;>rfl
theorem pV (v:Int):∀(r:List Int),(G2 v r).length=r.length+1
 |[]=>rfl
 |x::r=>by
  rw[G2]
  split
  ·rw[List.length_cons,pV v r,List.length_cons]
  ·rfl
theorem G3{l:List Int}{v:Int}:pY l v=l.contains v:=by
 rw[Bool.eq_iff_iff,List.contains_iff_mem,uJ,List.mem_iff_getElem]
 constructor
 ·rintro ⟨j,hj,e⟩
  exact⟨j,hj,by rw[←e];simp[List.getD_eq_getElem?_getD,hj]⟩
 ·rintro ⟨j,hj,e⟩
  exact⟨j,hj,by rw[←e];simp[List.getD_eq_getElem?_getD,hj]⟩
def uj (kn:List Int) (v:Int):List Int:=bif kn.contains v then kn else G2 v kn
theorem sM (kn:List Int) (v:Int):(uj kn v).length≤kn.length+1:=by
 unfold uj
 cases kn.contains v with
 |true=>exact Nat.le_succ _
 |false=>exact Nat.le_of_eq (pV v kn)
theorem wy{kn:List Int}(hl:kn.length≤900) (v:Int):gg N0 (kn,v)=some (uj kn v):=by
 unfold uj gg
 dsimp only
 rw[ko (by omega),Option.bind_some,G3]
 have hlp:=yR v kn [] [] (kn.contains v) N0 (by have:=n0;omega) (by simp;omega) (by simp;omega)
 have hlp':bB N0 N0 (kn,v,([]:List Int),kn.contains v,(0:Int))=_:=hlp
 rw[hlp',Option.bind_some]
 dsimp only
 cases hc:kn.contains v with
 |true =>
  rw[DK]
  rfl
 |false =>
  have hnm:v∉kn:=fun q=>by rw[List.contains_iff_mem.2 q]at hc;cases hc
  have hi:=B9 v hnm
  have hil:=pV v kn
  rw[cond_false]
  cases hb:(pj v false kn).2 with
  |true =>
   rw[hb,cond_true]at hi
   rw[←hi];rfl
  |false =>
   rw[hb,cond_false]at hi
   have:(pj v false kn).1.length≤1000000:=by
    have:=congrArg List.length hi
    simp at this
    omega
   simp only[List.nil_append,Bool.not_false,cond_true,BY this,hi]
theorem Fn{i n:Nat}(h:¬i<n):decide ((i:Int)<(n:Int))=false:=decide_eq_false (by omega)
structure FW (k:Nat) (xs:List ab) (kn:List Int) (li:List cQ) (gv sh:List Int) (lg:List cB):Prop where
 fx:xs.length≤600
 fk:kn.length≤300
 fl:li.length≤9
 fe:∀i,i<li.length→(Bg (li.getD i zI)).length≤26
 fg:gv.length≤k
 fs:sh.length≤k
 fo:lg.length≤k
section
variable{k n:Nat}{xs:List ab}{kn:List Int}{li:List cQ}{fr:Int}{gv sh:List Int}{lg:List cB}
theorem FW.small (h:FW k xs kn li gv sh lg) (hk:k≤4294967296):Small xs kn li gv sh lg where
 fx:=by have:=h.fx;omega
 fk:=by have:=h.fk;omega
 fl:=by have:=h.fl;omega
 fg:=by have:=h.fg;omega
 fs:=by have:=h.fs;omega
 fo:=by have:=h.fo;omega
 fe:=fun i hi=>by have:=h.fe i hi;omega
theorem FW.more (h:FW k xs kn li gv sh lg){k':Nat}(hk:k≤k'):FW k' xs kn li gv sh lg where
 fx:=h.fx
 fk:=h.fk
 fl:=h.fl
 fg:=by have:=h.fg;omega
 fs:=by have:=h.fs;omega
 fo:=by have:=h.fo;omega
 fe:=h.fe
theorem FW.nil:FW k [] [] [] [] [] [] where
 fx:=by simp
 fk:=by simp
 fl:=by simp
 fg:=by simp
 fs:=by simp
 fo:=by simp
 fe:=fun i hi=>absurd hi (by simp)
def vw (k n:Nat) (s:Option (List ab×List Int×List cQ×Int×List Int×List Int×List cB×Int)):Prop :=
 ∃xs kn li fr gv sh lg c,s=some (xs,kn,li,fr,gv,sh,lg,c)∧FW k xs kn li gv sh lg∧n≤kn.length
theorem je{c:Int}(h:FW k xs kn li gv sh lg) (hn:n≤kn.length):vw k n (some (xs,kn,li,fr,gv,sh,lg,c)):=⟨_,_,_,_,_,_,_,_,rfl,h,hn⟩
theorem Kb{w p a b at_:Int}{env:List Int}{d dd:Bool}{key:Int}(he:env.length≤4294967296):gn N0 (w,p,a,b,at_,env,d,dd,key)=some (w,p,a,b,at_,env,d,dd,key):=by
 unfold gn
 dsimp only
 have:aO (([]:List Int).length+env.length)=true:=by
  unfold aO
  exact decide_eq_true (by rw[List.length_nil];omega)
 rw[this,cond_true,List.nil_append]
theorem zY (h:FW k xs kn li gv sh lg):∀(m i:Nat),i≤li.length→li.length-i<m→cw N0 m (xs,kn,li,fr,gv,sh,lg,[],[],[],(0:Int),[],[],[],xs,kn,li.take i,fr,gv,sh,lg,(i:Int))=some ([],[],[],(0:Int),[],[],[],xs,kn,li,fr,gv,sh,lg)
 |0,i,hi,hm=>absurd hm (by omega)
 |m+1,i,hi,hm=>by
  have hl:=h.fl
  rw[cw]
  dsimp only
  by_cases hj:i<li.length
  ·have he:=h.fe i hj
   have ht:li.take (i+1)=li.take i++[li.getD i zI]:=by
    rw[List.getD_eq_getElem?_getD,List.getElem?_eq_getElem hj,Option.getD_some]
    exact(List.take_append_getElem hj).symm
   have hr:aO ((li.take i).length+1)=true:=by
    unfold aO
    exact decide_eq_true (by rw[List.length_take];omega)
   unfold Bg at he
   rw[xr hj,cond_true,iD]
   dsimp only
   rw[aQ hj,cond_true,Int.toNat_natCast,show li.getD i ((0:Int),((0:Int),((0:Int),((0:Int),((0:Int),(([]:List Int),(false,(false,(0:Int)))))))))=li.getD i zI from rfl,Kb (by omega),Option.bind_some]
   dsimp only
   rw[List.length_singleton,hr,cond_true,Option.bind_some]
   dsimp only
   rw[←ht,cF hj (by omega)]
   exact zY h m (i+1) hj (by omega)
  ·rw[Fn (by omega),cond_false,List.take_of_length_le (by omega)]
theorem AA {α β:Type}{l:List α}{z:List β}(hz:z.length=0) (h:l.length≤4294967296):aO (z.length+l.length)=true:=by
 unfold aO
 exact decide_eq_true (by omega)
theorem Ka (h:FW k xs kn li gv sh lg) (hk:k≤900):fH N0 (xs,kn,li,fr,gv,sh,lg)=some (xs,kn,li,fr,gv,sh,lg):=by
 have hs:=h.small (by omega)
 have hl:=h.fl
 have e:=zY (fr:=fr) h N0 0 (Nat.zero_le _) (by have:=n0;omega)
 rw[List.take_zero,show((0:Nat):Int)=0 from rfl]at e
 unfold fH iE
 dsimp only
 rw[tU hs.fx,Option.bind_some,AA rfl hs.fk,AA rfl hs.fg,AA rfl hs.fs,AA rfl hs.fo]
 simp only[cond_true,List.nil_append,Option.bind_some]
 rw[e,Option.bind_some]
theorem zL (ts:List Int) (hts:ts.length≤100):∀(m i:Nat) (kn:List Int),i≤ts.length→ts.length-i<m→kn.length+(ts.length-i)≤800→∃kn',cu N0 m (ts,xs,kn,li,fr,gv,sh,lg,[],[],[],(0:Int),[],[],[],(i:Int))=some (xs,kn',li,fr,gv,sh,lg,[],[],[],(0:Int),[],[],[])∧kn.length≤kn'.length∧kn'.length≤kn.length+(ts.length-i)
 |0,i,kn,hi,hm,hk=>absurd hm (by omega)
 |m+1,i,kn,hi,hm,hk=>by
  rw[cu]
  dsimp only
  by_cases hj:i<ts.length
  ·have hp:=sM kn (ts.getD i 0)
   have hp2:kn.length≤(uj kn (ts.getD i 0)).length:=by
    unfold uj
    cases kn.contains (ts.getD i 0)with
    |true=>exact Nat.le_refl _
    |false=>rw[cond_false,pV];omega
   obtain⟨kn',e1,e2,e3⟩:=zL ts hts m (i+1) (uj kn (ts.getD i 0)) hj (by omega) (by omega)
   rw[xr hj,cond_true,aQ hj,cond_true,Int.toNat_natCast,wy (by omega),Option.bind_some,cF hj (by omega),e1]
   exact⟨kn',rfl,by omega,by omega⟩
  ·rw[Fn (by omega),cond_false]
   exact⟨kn,rfl,Nat.le_refl _,by omega⟩
theorem J2{ts:List Int}(hts:ts.length≤100) (hk:kn.length+ts.length≤800):∃kn',bE N0 (xs,kn,li,fr,gv,sh,lg,ts)=some (xs,kn',li,fr,gv,sh,lg,decide ((kn'.length:Int)≤200))∧kn.length≤kn'.length∧kn'.length≤kn.length+ts.length:=by
 obtain⟨kn',e1,e2,e3⟩:=zL (xs:=xs) (li:=li) (fr:=fr) (gv:=gv) (sh:=sh) (lg:=lg) ts hts N0 0 kn (Nat.zero_le _) (by have:=n0;omega) (by omega)
 rw[show((0:Nat):Int)=0 from rfl]at e1
 unfold bE iC
 dsimp only
 rw[e1]
 exact⟨kn',rfl,e2,by omega⟩
theorem IU{ts:List Int}(h:FW k xs kn li gv sh lg) (hn:n≤kn.length) (hts:ts.length≤50) (hk:kn.length≤250):vw k n ((bE N0 (xs,kn,li,fr,gv,sh,lg,ts)).bind fun r3=>(cond (!r3.2.2.2.2.2.2.2) (some (r3.1,r3.2.1,r3.2.2.1,r3.2.2.2.1,r3.2.2.2.2.1,r3.2.2.2.2.2.1,r3.2.2.2.2.2.2.1,(3:Int))) (some (r3.1,r3.2.1,r3.2.2.1,r3.2.2.2.1,r3.2.2.2.2.1,r3.2.2.2.2.2.1,r3.2.2.2.2.2.2.1,(0:Int))))):=by
 obtain⟨kn',e1,e2,e3⟩:=J2 (xs:=xs) (li:=li) (fr:=fr) (gv:=gv) (sh:=sh) (lg:=lg) (ts:=ts) (kn:=kn) (by omega) (by omega)
 have hw:FW k xs kn' li gv sh lg:={ h with fk:=by omega }
 rw[e1,Option.bind_some]
 dsimp only
 cases decide ((kn'.length:Int)≤200)with
 |true=>exact je hw (by omega)
 |false=>exact je hw (by omega)
theorem Y4{i:Int}{w p a b at_:Int}{env:List Int}{d dd:Bool}{key:Int}{ts:List Int}(h:FW k xs kn li gv sh lg) (hk9:k≤900):∃c:cB,eV N0 (i,xs,kn,li,fr,gv,sh,lg,[],[],[],(0:Int),[],[],[],w,p,a,b,at_,env,d,dd,key,ts)=some (xs,kn,li,fr,gv,sh,lg++[c],[],[],[],(0:Int),[],[],[],ts):=by
 have hg:=h.fg
 have ho:=h.fo
 unfold eV
 dsimp only
 rw[ko (by omega),ko (by omega),Option.bind_some,Option.bind_some,List.length_singleton,show aO (lg.length+1)=true from by unfold aO;exact decide_eq_true (by omega),cond_true]
 exact⟨_,rfl⟩
theorem FW.log (h:FW k xs kn li gv sh lg) (c:cB):FW (k+1) xs kn li gv sh (lg++[c]) where
 fx:=h.fx
 fk:=h.fk
 fl:=h.fl
 fg:=by have:=h.fg;omega
 fs:=by have:=h.fs;omega
 fo:=by have:=h.fo;rw[List.length_append,List.length_singleton];omega
 fe:=h.fe
theorem Mm{i:Int}{w p a b at_:Int}{env:List Int}{d dd d0:Bool}{key:Int}{ts:List Int}(h:FW k xs kn li gv sh lg) (hk9:k≤900) (hts:ts.length≤50) (hk:kn.length≤250) :
  vw (k+1) kn.length (cond d (cond (!d0) ((eV N0 (i,xs,kn,li,fr,gv,sh,lg,[],[],[],(0:Int),[],[],[],w,p,a,b,at_,env,d,dd,key,ts)).bind fun g2=>((bE N0 (g2.1,g2.2.1,g2.2.2.1,g2.2.2.2.1,g2.2.2.2.2.1,g2.2.2.2.2.2.1,g2.2.2.2.2.2.2.1,g2.2.2.2.2.2.2.2.2.2.2.2.2.2.2)).bind fun r3=>(cond (!r3.2.2.2.2.2.2.2) (some (r3.1,r3.2.1,r3.2.2.1,r3.2.2.2.1,r3.2.2.2.2.1,r3.2.2.2.2.2.1,r3.2.2.2.2.2.2.1,(3:Int))) (some (r3.1,r3.2.1,r3.2.2.1,r3.2.2.2.1,r3.2.2.2.2.1,r3.2.2.2.2.2.1,r3.2.2.2.2.2.2.1,(0:Int)))))) ((bE N0 (xs,kn,li,fr,gv,sh,lg,ts)).bind fun r3=>(cond (!r3.2.2.2.2.2.2.2) (some (r3.1,r3.2.1,r3.2.2.1,r3.2.2.2.1,r3.2.2.2.2.1,r3.2.2.2.2.2.1,r3.2.2.2.2.2.2.1,(3:Int))) (some (r3.1,r3.2.1,r3.2.2.1,r3.2.2.2.1,r3.2.2.2.2.1,r3.2.2.2.2.2.1,r3.2.2.2.2.2.2.1,(0:Int)))))) ((bE N0 (xs,kn,li,fr,gv,sh,lg,ts)).bind fun r3=>(cond (!r3.2.2.2.2.2.2.2) (some (r3.1,r3.2.1,r3.2.2.1,r3.2.2.2.1,r3.2.2.2.2.1,r3.2.2.2.2.2.1,r3.2.2.2.2.2.2.1,(3:Int))) (some (r3.1,r3.2.1,r3.2.2.1,r3.2.2.2.1,r3.2.2.2.2.1,r3.2.2.2.2.2.1,r3.2.2.2.2.2.2.1,(0:Int)))))):=by
 cases d with
 |false=>exact IU (h.more (Nat.le_succ k)) (Nat.le_refl _) hts hk
 |true =>
  cases d0 with
  |true=>exact IU (h.more (Nat.le_succ k)) (Nat.le_refl _) hts hk
  |false =>
   obtain⟨c,e⟩:=Y4 (i:=i) (w:=w) (p:=p) (a:=a) (b:=b) (at_:=at_) (env:=env) (d:=true) (dd:=dd) (key:=key) (ts:=ts) (fr:=fr) h hk9
   rw[cond_true,Bool.not_false,cond_true,e,Option.bind_some]
   exact IU (h.log c) (Nat.le_refl _) hts hk
theorem XZ{ys:List ab}{w p a b at_:Int}{env:List Int}{d dd:Bool}{key:Int}{i:Nat}(h:FW k xs kn li gv sh lg) (hk9:k≤900) (hk:kn.length≤250) (hy:ys.length≤600) (he:env.length≤26) (hv:j7 ys (w,p,a,b,at_,env,d,dd,key)=true) (hi:i=li.length∧li.length≤8∨i<li.length) :
  vw (k+1) kn.length (kc N0 (ys,kn,li,fr,gv,sh,lg,w,p,a,b,at_,env,d,dd,key,(i:Int))):=by
 obtain⟨zs,at',env',d',dd',key',out',nx',e1,e2,st⟩:=JV (nx:=fr) (by omega) (by omega) hv
 have hz:=cW st.pool
 have h5:=st.few
 have h26:=st.len
 have hl:=h.fl
 unfold kc
 dsimp only
 rw[e1,Option.bind_some]
 dsimp only
 rcases hi with⟨hi,h8⟩|hi
 ·rw[show((i:Int)==(li.length:Int))=true from by rw[beq_iff_eq];omega,cond_true,List.length_singleton,show aO (li.length+1)=true from by unfold aO;exact decide_eq_true (by omega),cond_true]
  refine Mm ⟨by omega,h.fk,by rw[List.length_append,List.length_singleton];omega,fun j hj=>?_,h.fg,h.fs,h.fo⟩ hk9 (by omega) hk
  rw[List.length_append,List.length_singleton]at hj
  by_cases hj2:j<li.length
  ·rw[List.getD_eq_getElem?_getD,List.getElem?_append_left hj2, ←List.getD_eq_getElem?_getD]
   exact h.fe j hj2
  ·rw[List.getD_eq_getElem?_getD,List.getElem?_append_right (by omega),show j-li.length=0 from by omega]
   show env'.length≤26
   omega
 ·rw[show((i:Int)==(li.length:Int))=false from by rw[beq_eq_false_iff_ne];omega,cond_false,aQ hi,cond_true,Int.toNat_natCast]
  refine Mm ⟨by omega,h.fk,by rw[List.length_set];omega,fun j hj=>?_,h.fg,h.fs,h.fo⟩ hk9 (by omega) hk
  rw[List.length_set]at hj
  rw[List.getD_eq_getElem?_getD,List.getElem?_set]
  by_cases hij:i=j
  ·rw[if_pos hij,if_pos hi,Option.getD_some]
   show env'.length≤26
   omega
  ·rw[if_neg hij, ←List.getD_eq_getElem?_getD]
   exact h.fe j hj
end
theorem Gg{w p:Int}(h:¬((w=1∨w=2∨w=3)∧(p=0∨p=1))):cL N0 (w,p)=some false:=by
 unfold cL dW
 dsimp only
 by_cases w1:w=1
 ·have h0:(p==(0:Int))=false:=by rw[beq_eq_false_iff_ne];omega
  have h1:(p==(1:Int))=false:=by rw[beq_eq_false_iff_ne];omega
  subst w1
  simp only[h0,h1,beq_self_eq_true,Int.reduceBEq,cond_true,cond_false,Option.bind_some,cZ,Bool.not_true]
 by_cases w2:w=2
 ·have h0:(p==(0:Int))=false:=by rw[beq_eq_false_iff_ne];omega
  have h1:(p==(1:Int))=false:=by rw[beq_eq_false_iff_ne];omega
  subst w2
  simp only[h0,h1,beq_self_eq_true,Int.reduceBEq,cond_true,cond_false,Option.bind_some,cZ,Bool.not_true]
 by_cases w3:w=3
 ·have h0:(p==(0:Int))=false:=by rw[beq_eq_false_iff_ne];omega
  have h1:(p==(1:Int))=false:=by rw[beq_eq_false_iff_ne];omega
  subst w3
  simp only[h0,h1,beq_self_eq_true,Int.reduceBEq,cond_true,cond_false,Option.bind_some,cZ,Bool.not_true]
 have k1:(w==(1:Int))=false:=by rw[beq_eq_false_iff_ne];exact w1
 have k2:(w==(2:Int))=false:=by rw[beq_eq_false_iff_ne];exact w2
 have k3:(w==(3:Int))=false:=by rw[beq_eq_false_iff_ne];exact w3
 simp only[k1,k2,k3,cond_false,Option.bind_some,cZ,Bool.not_true]
section
variable{k n:Nat}{xs:List ab}{kn:List Int}{li:List cQ}{fr:Int}{gv sh:List Int}{lg:List cB}
theorem DI (hp:aM xs=true) (hl:kn.length≤200) (hk:xC kn xs) (T:ByteArray):∃ys t b c,gq N0 (xs,kn,T)=some (ys,t,b,c)∧(c=0→aM ys=true∧(∃zs,ys=xs++zs)∧cx ys t=true):=by
 have hx:=cW hp
 have pS:=kS N0 n0 (xs:=xs) (by omega)
 have hP:(decide (xs.length≤500)&&cp N0 [] xs)=true:=hp
 rw[hP]at pS
 unfold gq
 dsimp only
 rw[pS,Option.bind_some,cond_true,tU (by omega),Option.bind_some,vC (by omega) (by omega),Option.bind_some]
 cases hT:decide ((T.size:Int)>2000)with
 |true=>exact⟨_,_,_,1,rfl,fun h=>by cases h⟩
 |false =>
  rw[cond_false]
  rw[decide_eq_false_iff_not]at hT
  cases(dI (mg xs kn) 0 kn.length&&(decide (kn.length≤200)&&(decide (xs.length≤500)&&cp N0 [] xs)))with
  |false=>exact⟨_,_,_,5,rfl,fun h=>by cases h⟩
  |true =>
   obtain⟨ys,t,b,c,e1,h⟩:=I9 (T:=T) (by omega) T.size 0 xs N0 (Nat.sub_le _ _) (by have:=n0;omega) (Nat.zero_le _) hp hk
   rw[show((0:Nat):Int)=0 from rfl]at e1
   rw[Bool.not_true,cond_false,e1,Option.bind_some]
   dsimp only
   by_cases hc:c=0
   ·obtain⟨h1,h2,h3,_⟩:=h hc
    have hy:=cW h1
    rw[hc,show((0:Int) != 0)=false from rfl,cond_false,tU (by omega),Option.bind_some]
    cases decide (b<(T.size:Int))with
    |true=>exact⟨_,_,_,6,rfl,fun h=>by cases h⟩
    |false=>exact⟨_,_,_,0,rfl,fun _=>⟨h1,h2,h3⟩⟩
   ·rw[show(c != 0)=true from by rw[bne_iff_ne];exact hc,cond_true]
    exact⟨_,_,_,c,rfl,fun h=>absurd h hc⟩
theorem nZ (hw:jg xs kn li fr gv sh lg=true):aM xs=true∧kn.length≤200∧xC kn xs∧li.length≤8:=by
 unfold jg xB at hw
 simp only[Bool.and_eq_true]at hw
 obtain⟨⟨h1,h2,h3⟩,h4,_⟩:=hw
 rw[eR]at h1
 refine⟨h3,of_decide_eq_true h2,fun u hu=>?_,of_decide_eq_true h4⟩
 have:=h1 u (Nat.zero_le _) (by omega)
 unfold mg at this
 rw[Bool.and_eq_true]at this
 exact this.1
theorem Nd (h:FW k xs kn li gv sh lg) (hk9:k≤900) (hw:jg xs kn li fr gv sh lg=true) (kd A B C D:Int) (T:ByteArray):vw (k+1) kn.length (ir N0 (xs,kn,li,fr,gv,sh,lg,kd,A,B,C,D,T)):=by
 obtain⟨hp,h200,hki,h8⟩:=nZ hw
 have no:∀c:Int,vw (k+1) kn.length (some (xs,kn,li,fr,gv,sh,lg,c)):=fun c=>je (h.more (Nat.le_succ k)) (Nat.le_refl _)
 unfold ir
 dsimp only
 by_cases hr:(A=1∨A=2∨A=3)∧(B=0∨B=1)
 ·rw[B0 hr.1 hr.2,Option.bind_some,Bool.not_true,cond_false]
  unfold bg
  rw[pW,pW,Option.bind_some,Option.bind_some,Option.bind_some]
  cases hC:(decide (C≥0)&&decide (C≤4))with
  |false=>exact no 2
  |true =>
   rw[Bool.not_true,cond_false]
   rw[Bool.and_eq_true,decide_eq_true_iff,decide_eq_true_iff]at hC
   cases hD:(decide (D≥0)&&decide (D≤4))with
   |false=>exact no 2
   |true =>
    rw[Option.bind_some,Bool.not_true,cond_false]
    rw[Bool.and_eq_true,decide_eq_true_iff,decide_eq_true_iff]at hD
    cases hCD:(C==D)with
    |true=>exact no 2
    |false =>
     rw[cond_false]
     cases hl8:((li.length:Int)==8)with
     |true=>exact no 3
     |false =>
      rw[cond_false]
      cases(fr==8)with
      |true=>exact no 3
      |false =>
       rw[cond_false]
       cases h4:decide ((xs.length:Int)>400)with
       |true=>exact no 3
       |false =>
        rw[cond_false]
        rw[decide_eq_false_iff_not]at h4
        rw[beq_eq_false_iff_ne]at hCD hl8
        obtain⟨ys,e,e1,e2,e3,_,e5⟩:=Li hp (by omega) hr.1 hr.2 hC.1 hC.2 hD.1 hD.2 hCD
        rw[e1,Option.bind_some]
        dsimp only
        rw[Bool.not_true,cond_false]
        obtain⟨xs',kn',li',fr',gv',sh',lg',c,q,q1,q2⟩:=XZ (fr:=fr) (i:=li.length) h hk9 (by omega) (by omega) (by omega) e5 (.inl ⟨rfl,h8⟩)
        rw[q]
        exact⟨_,_,_,_,_,_,_,_,rfl,q1,q2⟩
 ·rw[Gg hr]
  exact no 2
theorem Fy{A:Int}(h8:li.length≤9):(∃i:Nat,A=(i:Int)∧i<li.length∧aS N0 (A,(0:Int),IntKind.i64.wrap ((li.length:Int)-1))=some true)∨aS N0 (A,(0:Int),IntKind.i64.wrap ((li.length:Int)-1))=some false:=by
 rw[aw (by omega) (by omega),pW]
 cases hA:(decide (A≥0)&&decide (A≤(li.length:Int)-1))with
 |false=>exact .inr rfl
 |true =>
  rw[Bool.and_eq_true,decide_eq_true_iff,decide_eq_true_iff]at hA
  exact .inl ⟨A.toNat,by omega,by omega,rfl⟩
theorem G0{zs:List ab}{w p a b at_:Int}{env:List Int}{d dd:Bool}{key:Int}(hg:KB xs (w,p,a,b,at_,env,d,dd,key)) (hq:aM (xs++zs)=true):j7 (xs++zs) (w,p,a,b,at_,env,d,dd,key)=true :=
 oI hg.way hg.side hg.me hg.peer hg.ne hq hg.len (kq hg.env) hg.at0 hg.done (fun q=>⟨hg.live q,uI (hg.key q)⟩) (fun q=>hg.no q)
theorem Pr (h:FW k xs kn li gv sh lg) (hk9:k≤900) (hw:jg xs kn li fr gv sh lg=true) (kd A B C D:Int) (T:ByteArray):vw (k+1) kn.length (jm N0 (xs,kn,li,fr,gv,sh,lg,kd,A,B,C,D,T)):=by
 obtain⟨hp,h200,hki,h8⟩:=nZ hw
 have no:∀c:Int,vw (k+1) kn.length (some (xs,kn,li,fr,gv,sh,lg,c)):=fun c=>je (h.more (Nat.le_succ k)) (Nat.le_refl _)
 unfold jm
 dsimp only
 rcases Fy (A:=A) h.fl with⟨i,rfl,hi,e⟩|e
 ·obtain⟨ys,t,b,c,e1,hr⟩:=DI hp h200 hki T
  rw[e,Option.bind_some,Bool.not_true,cond_false,e1,Option.bind_some]
  dsimp only
  by_cases hc:c=0
  ·obtain⟨g1,⟨z,rfl⟩,g3⟩:=hr hc
   rw[hc,show((0:Int) != 0)=false from rfl,cond_false]
   cases hy:decide (((xs++z).length:Int)>400)with
   |true=>exact no 3
   |false =>
    rw[decide_eq_false_iff_not]at hy
    have hg:=Dq (h.small (by omega)) hw hi
    have he:=h.fe i hi
    rw[cond_false,iA]
    dsimp only
    rw[aQ hi,cond_true,Int.toNat_natCast,show li.getD i ((0:Int),((0:Int),((0:Int),((0:Int),((0:Int),(([]:List Int),(false,(false,(0:Int)))))))))=li.getD i zI from rfl]
    generalize li.getD i zI=x at hg he
    obtain⟨w,p,a,b,at_,env,d,dd,key⟩:=x
    dsimp only
    obtain⟨us,at',e',d',dd',ok,q1,q2,q3,q4,_⟩:=F9 (t:=t) (by omega) (show env.length≤4294967296 from by unfold Bg at he;dsimp only at he;omega) (G0 hg g1)
    rw[q1,Option.bind_some,Option.bind_some]
    dsimp only
    cases ok with
    |false=>exact no 4
    |true =>
     have hu:=cW q4
     rw[Bool.not_true,cond_false]
     obtain⟨xs',kn',li',fr',gv',sh',lg',c,u,u1,u2⟩:=XZ (fr:=fr) (i:=i) h hk9 (by omega) (by omega) (by omega) q2 (.inr hi)
     rw[u]
     exact⟨_,_,_,_,_,_,_,_,rfl,u1,u2⟩
  ·rw[show(c != 0)=true from by rw[bne_iff_ne];exact hc,cond_true]
   exact no 4
 ·rw[e]
  exact no 2
theorem Px (h:FW k xs kn li gv sh lg) (hk9:k≤800) (hw:jg xs kn li fr gv sh lg=true) (kd A B C D:Int) (T:ByteArray):vw (k+1) kn.length (jn N0 (xs,kn,li,fr,gv,sh,lg,kd,A,B,C,D,T)):=by
 obtain⟨hp,h200,hki,h8⟩:=nZ hw
 have no:∀c:Int,vw (k+1) kn.length (some (xs,kn,li,fr,gv,sh,lg,c)):=fun c=>je (h.more (Nat.le_succ k)) (Nat.le_refl _)
 have hs:=h.fs
 unfold jn
 dsimp only
 rcases Fy (A:=A) h.fl with⟨i,rfl,hi,e⟩|e
 ·rw[e,Option.bind_some,Bool.not_true,cond_false,aQ hi,cond_true,ko (by omega),Option.bind_some,wy (by omega),Option.bind_some]
  cases(li.getD ((i:Int)).toNat ((0:Int),((0:Int),((0:Int),((0:Int),((0:Int),(([]:List Int),(false,(false,(0:Int)))))))))).2.2.2.2.2.2.1 with
  |false=>exact no 2
  |true =>
   rw[Bool.not_true,cond_false]
   cases pY sh (i:Int)with
   |true=>exact no 2
   |false =>
    rw[cond_false,iB]
    dsimp only
    have hpl:=sM sh (i:Int)
    obtain⟨kn',e1,e2,e3⟩:=J2 (xs:=xs) (li:=li) (fr:=fr) (gv:=gv) (sh:=uj sh (i:Int)) (lg:=lg) (ts:=[(li.getD ((i:Int)).toNat ((0:Int),((0:Int),((0:Int),((0:Int),((0:Int),(([]:List Int),(false,(false,(0:Int)))))))))).2.2.2.2.2.2.2.2]) (kn:=kn) (by rw[List.length_singleton];omega) (by rw[List.length_singleton];omega)
    rw[List.length_singleton]at e3
    have hf:FW (k+1) xs kn' li gv (uj sh (i:Int)) lg:={ h.more (Nat.le_succ k)with fk:=by omega,fs:=by omega }
    rw[aQ hi,cond_true,e1,Option.bind_some,Option.bind_some]
    dsimp only
    cases decide ((kn'.length:Int)≤200)with
    |false=>exact je hf e2
    |true=>exact je hf e2
 ·rw[e]
  exact no 2
end
section
variable{k n:Nat}{xs:List ab}{kn:List Int}{li:List cQ}{fr:Int}{gv sh:List Int}{lg:List cB}
theorem rY (kd A B C D:Int) (T:ByteArray) (a0:0≤A) (a4:A≤4):∀(m i:Nat) (ns:List Int),i≤5→5-i<m→ns.length≤i+2→∃ns',bS N0 m (xs,kn,li,fr,gv,sh,lg,kd,A,B,C,D,T,[],[],[],(0:Int),[],[],[],ns,(i:Int))=some (xs,kn,li,fr,gv,sh,lg,kd,A,B,C,D,T,[],[],[],(0:Int),[],[],[],ns')∧ns'.length≤7
 |0,i,ns,hi,hm,_=>absurd hm (by omega)
 |m+1,i,ns,hi,hm,hl=>by
  rw[bS]
  dsimp only
  by_cases h5:i<5
  ·have w:IntKind.i64.wrap ((i:Int)+1)=((i+1:Nat):Int):=by rw[aw (by omega) (by omega)];omega
   rw[show decide ((i:Int)<5)=true from decide_eq_true (by omega),cond_true,w]
   cases hA:((i:Int) != A)with
   |false =>
    rw[cond_false]
    exact rY kd A B C D T a0 a4 m (i+1) ns (by omega) (by omega) (by omega)
   |true =>
    rw[bne_iff_ne]at hA
    obtain⟨v,e,_⟩:=sH (a:=A) (b:=(i:Int)) a0 a4 (by omega) (by omega) (fun q=>hA q.symm)
    rw[cond_true,e,Option.bind_some,List.length_singleton,show aO (ns.length+1)=true from by unfold aO;exact decide_eq_true (by omega),cond_true]
    exact rY kd A B C D T a0 a4 m (i+1) (ns++[v]) (by omega) (by omega) (by rw[List.length_append,List.length_singleton];omega)
  ·rw[show decide ((i:Int)<5)=false from decide_eq_false (by omega),cond_false]
   exact⟨ns,rfl,by omega⟩
def Tf (k n:Nat) (s:Option ((List ab×List Int×List cQ×Int×List Int×List Int×List cB×Int)⊕(List ab×List Int×List cQ×Int×List Int×List Int×List cB×List ab×List Int×List cQ×Int×List Int×List Int×List cB))):Prop :=
 (∃xs kn li fr gv sh lg c,s=some (.inl (xs,kn,li,fr,gv,sh,lg,c))∧FW k xs kn li gv sh lg∧n≤kn.length)∨(∃xs kn li fr gv sh lg,s=some (.inr (xs,kn,li,fr,gv,sh,lg,[],[],[],(0:Int),[],[],[]))∧FW k xs kn li gv sh lg∧n≤kn.length)
theorem zM (ns:List Int) (hns:ns.length≤7):∀(m i:Nat) (xs:List ab) (kn:List Int),i≤ns.length→ns.length-i<m→aM xs=true→kn.length≤200→n≤kn.length→FW k xs kn li gv sh lg→Tf k n (bV N0 m (xs,kn,li,fr,gv,sh,lg,[],[],[],(0:Int),[],[],[],ns,(i:Int)))
 |0,i,xs,kn,hi,hm,_,_,_,_=>absurd hm (by omega)
 |m+1,i,xs,kn,hi,hm,hp,hk,hn,h=>by
  rw[bV]
  dsimp only
  by_cases hj:i<ns.length
  ·rw[xr hj,cond_true,gK]
   dsimp only
   rw[aQ hj,cond_true,iY hp,Option.bind_some,Option.bind_some]
   cases hA:iz xs 1 (ns.getD ((i:Int)).toNat 0) 0 with
   |none=>exact .inl ⟨_,_,_,_,_,_,_,_,rfl,h,hn⟩
   |some q =>
    obtain⟨ys,t⟩:=q
    obtain⟨g1,g2,_⟩:=lh hp hA
    have hy:=cW g1
    rw[show mZ xs (some (ys,t))=(ys,t)from rfl]
    dsimp only
    obtain⟨kn',e1,e2,e3⟩:=J2 (xs:=ys) (li:=li) (fr:=fr) (gv:=gv) (sh:=sh) (lg:=lg) (ts:=[t]) (kn:=kn) (by rw[List.length_singleton];omega) (by rw[List.length_singleton];omega)
    rw[List.length_singleton]at e3
    have hf:FW k ys kn' li gv sh lg:={ h with fx:=by omega,fk:=by omega }
    rw[show decide (t<(0:Int))=false from decide_eq_false (by have:=(jd.1 g2).1;omega),cond_false,e1,Option.bind_some]
    dsimp only
    cases h2:decide ((kn'.length:Int)≤200)with
    |false=>exact .inl ⟨_,_,_,_,_,_,_,_,rfl,hf,by omega⟩
    |true =>
     rw[decide_eq_true_iff]at h2
     rw[Bool.not_true,cond_false,cF hj (by omega)]
     exact zM ns hns m (i+1) ys kn' hj (by omega) g1 (by omega) (by omega) hf
  ·rw[Fn hj,cond_false]
   exact .inr ⟨_,_,_,_,_,_,_,rfl,h,hn⟩
theorem Q4 (h:FW k xs kn li gv sh lg) (hk9:k≤800) (hw:jg xs kn li fr gv sh lg=true) (kd A B C D:Int) (T:ByteArray):vw (k+1) kn.length (jo N0 (xs,kn,li,fr,gv,sh,lg,kd,A,B,C,D,T)):=by
 obtain⟨hp,h200,hki,h8⟩:=nZ hw
 have no:∀c:Int,vw (k+1) kn.length (some (xs,kn,li,fr,gv,sh,lg,c)):=fun c=>je (h.more (Nat.le_succ k)) (Nat.le_refl _)
 have hg:=h.fg
 unfold jo
 dsimp only
 by_cases ha:0≤A∧A≤4
 ·rw[kr ha.1 ha.2,Option.bind_some,Bool.not_true,cond_false,ko (by omega),Option.bind_some]
  cases pY gv A with
  |true=>exact no 2
  |false =>
   have hpl:=sM gv A
   obtain⟨ns,e1,e2⟩:=rY (xs:=xs) (kn:=kn) (li:=li) (fr:=fr) (gv:=gv) (sh:=sh) (lg:=lg) kd A B C D T ha.1 ha.2 N0 0 [50+A,90+A] (by omega) (by have:=n0;omega) (by simp)
   have hf:FW (k+1) xs kn li (uj gv A) sh lg:={ h.more (Nat.le_succ k)with fg:=by omega }
   rw[show((0:Nat):Int)=0 from rfl]at e1
   rw[cond_false,rS ha.1 ha.2,lS ha.1 ha.2,Option.bind_some,Option.bind_some,e1,Option.bind_some]
   dsimp only
   rw[wy (by omega),Option.bind_some]
   have hlp:=zM (k:=k+1) (n:=kn.length) (li:=li) (fr:=fr) (gv:=uj gv A) (sh:=sh) (lg:=lg) ns e2 N0 0 xs kn (Nat.zero_le _) (by have:=n0;omega) hp h200 (Nat.le_refl _) hf
   rw[show((0:Nat):Int)=0 from rfl]at hlp
   rcases hlp with⟨xs',kn',li',fr',gv',sh',lg',c,u,u1,u2⟩|⟨xs',kn',li',fr',gv',sh',lg',u,u1,u2⟩
   ·rw[u]
    exact⟨_,_,_,_,_,_,_,_,rfl,u1,u2⟩
   ·rw[u]
    exact⟨_,_,_,_,_,_,_,_,rfl,u1,u2⟩
 ·have e:bg N0 A=some false:=by
   unfold bg
   rw[pW,Option.bind_some]
   have:(decide (A≥0)&&decide (A≤4))=false:=by
    rw[Bool.and_eq_false_iff,decide_eq_false_iff_not,decide_eq_false_iff_not]
    omega
   rw[this]
  rw[e]
  exact no 2
theorem El (kd A B C D:Int) (T:ByteArray):∃v,eK N0 (kd,A,B,C,D,T)=some v:=by
 unfold eK
 cases(kd==(1:Int))
 ·cases(kd==(2:Int))
  ·cases(kd==(3:Int))
   ·cases(kd==(4:Int))<;>exact⟨_,rfl⟩
   ·exact⟨_,rfl⟩
  ·exact⟨_,rfl⟩
 ·exact⟨_,rfl⟩
theorem JU (h:FW k xs kn li gv sh lg) (hk9:k≤800) (hw:jg xs kn li fr gv sh lg=true) (kd A B C D:Int) (T:ByteArray):vw (k+1) kn.length (l8 N0 (xs,kn,li,fr,gv,sh,lg,kd,A,B,C,D,T)):=by
 unfold l8
 dsimp only
 cases(kd==(1:Int))with
 |true =>
  obtain⟨_,_,_,_,_,_,_,_,e,h1,h2⟩:=Nd h (by omega) hw kd A B C D T
  rw[cond_true,e]
  exact⟨_,_,_,_,_,_,_,_,rfl,h1,h2⟩
 |false =>
  cases(kd==(2:Int))with
  |true =>
   obtain⟨_,_,_,_,_,_,_,_,e,h1,h2⟩:=Pr h (by omega) hw kd A B C D T
   rw[cond_false,cond_true,e]
   exact⟨_,_,_,_,_,_,_,_,rfl,h1,h2⟩
  |false =>
   cases(kd==(3:Int))with
   |true =>
    obtain⟨_,_,_,_,_,_,_,_,e,h1,h2⟩:=Q4 h hk9 hw kd A B C D T
    rw[cond_false,cond_false,cond_true,e]
    exact⟨_,_,_,_,_,_,_,_,rfl,h1,h2⟩
   |false =>
    obtain⟨_,_,_,_,_,_,_,_,e,h1,h2⟩:=Px h hk9 hw kd A B C D T
    rw[cond_false,cond_false,cond_false,e]
    exact⟨_,_,_,_,_,_,_,_,rfl,h1,h2⟩
theorem X0 (h:FW k xs kn li gv sh lg) (hk9:k≤800) (kd A B C D:Int) (T:ByteArray):∃xs' kn' li' fr' gv' sh' lg' c,gO N0 (xs,kn,li,fr,gv,sh,lg,kd,A,B,C,D,T)=some (xs',kn',li',fr',gv',sh',lg',c)∧FW (k+1) xs' kn' li' gv' sh' lg'∧(c=0→kn.length≤kn'.length):=by
 unfold gO
 dsimp only
 rw[wI (h.small (by omega)),Option.bind_some]
 cases hw:jg xs kn li fr gv sh lg with
 |false=>exact⟨_,_,_,_,_,_,_,_,rfl,FW.nil,fun q=>by cases q⟩
 |true =>
  obtain⟨v,hv⟩:=El kd A B C D T
  rw[Bool.not_true,cond_false,hv,Option.bind_some]
  cases v with
  |false=>exact⟨_,_,_,_,_,_,_,_,rfl,FW.nil,fun q=>by cases q⟩
  |true =>
   obtain⟨xs',kn',li',fr',gv',sh',lg',c,e,h1,h2⟩:=JU h hk9 hw kd A B C D T
   rw[Bool.not_true,cond_false,iH]
   dsimp only
   rw[Ka h (by omega),Option.bind_some]
   dsimp only
   rw[e,Option.bind_some,Option.bind_some]
   dsimp only
   cases(c != 0)with
   |true =>
    rw[cond_true,Ka h (by omega)]
    exact⟨_,_,_,_,_,_,_,_,rfl,h.more (Nat.le_succ k),fun _=>Nat.le_refl _⟩
   |false =>
    rw[cond_false,Ka h1 (by omega)]
    exact⟨_,_,_,_,_,_,_,_,rfl,h1,fun _=>h2⟩
end
theorem pT (l:List UInt8):(ByteArray.mk l.toArray).size=l.length:=rfl
theorem sN (n:Nat){b:List Int}{i:Int}(h:Int) (l:List ByteArray) (k:Nat) (hl:l≠[]) (hk:∀s∈l,s.size≤k) (hc:Cu b i):∃i' h' v,dh n (b,i,h,l)=some (b,i',h',v)∧Cu b i'∧v.size≤k:=by
 unfold dh
 dsimp only
 obtain⟨i1,h1,v1,e1,c1,hb⟩:=ct n h (l.length:Int) hc
 have hpos:0<l.length:=List.length_pos_iff.2 hl
 rw[e1,Option.bind_some]
 dsimp only
 have hv:0≤v1∧v1<(l.length:Int):=by
  rcases hb with⟨q,_⟩|q
  ·omega
  ·exact q
 have e:v1=((v1.toNat:Nat):Int):=by omega
 have hin:aR v1 l.length=true:=by rw[e];exact aQ (by omega)
 rw[hin,cond_true]
 refine⟨_,_,_,rfl,c1,hk _ ?_⟩
 rw[List.getD_eq_getElem?_getD,List.getElem?_eq_getElem (by omega),Option.getD_some]
 exact List.getElem_mem _
theorem Fb{x:Int}(h0:0≤x) (h1:x≤999):∃r,aW N0 x=some r∧r.size≤3:=by
 unfold aW
 by_cases hq:x≤0
 ·rw[decide_eq_true hq,cond_true]
  exact⟨_,rfl,by decide⟩
 ·rw[decide_eq_false hq,cond_false]
  have:=n0
  obtain⟨r,e1,e2⟩:=zd 3 N0 x (⟨#[]⟩:ByteArray) h0 (by omega) (by have:(10:Int) ^ 3=1000:=rfl;omega) (by omega) (by decide)
  rw[e1,Option.bind_some]
  exact⟨r,rfl,e2⟩
theorem WN{x y:Int}:eU N0 (x,y)=some (if x<y then x else y):=by
 unfold eU
 dsimp only
 by_cases q:x<y
 ·rw[decide_eq_true q,if_pos q];rfl
 ·rw[decide_eq_false q,if_neg q];rfl
def KF (b:List Int) (s:Option (List Int×Int×Int×Int×Int×Int×Int×Int×ByteArray)):Prop :=
 ∃i h kd A B C D T,s=some (b,i,h,kd,A,B,C,D,T)∧Cu b i∧T.size≤100
section
variable{k:Nat}{b:List Int}{xs:List ab}{kn:List Int}{li:List cQ}{fr:Int}{gv sh:List Int}{lg:List cB}
theorem Jh{i:Int}(h:Int){a1 a2 a3 a4 a5 a7 a8 a9 a10 a11:Int}{a6 a12:ByteArray}(hc:Cu b i) (h0:0<li.length):∃i' h' w p a c s1 e1 d1 d2 k1,cC N0 (b,i,h,xs,kn,li,fr,gv,sh,lg,a1,a2,a3,a4,a5,a6,(li.length:Int),a7,a8,a9,a10,a11,a12)=some (b,i',h',a1,a2,a3,a4,a5,a6,a7,a8,a9,a10,a11,a12,w,p,a,c,s1,e1,d1,d2,k1)∧Cu b i':=by
 obtain⟨i1,h1,v1,e1,c1,hb⟩:=ct N0 h (li.length:Int) hc
 have hv:0≤v1∧v1<(li.length:Int):=by
  rcases hb with⟨q,_⟩|q
  ·omega
  ·exact q
 have e:v1=((v1.toNat:Nat):Int):=by omega
 have hin:aR v1 li.length=true:=by rw[e];exact aQ (by omega)
 unfold cC
 dsimp only
 rw[e1,Option.bind_some]
 dsimp only
 rw[hin,cond_true]
 exact⟨_,_,_,_,_,_,_,_,_,_,_,rfl,c1⟩
theorem mR{i:Int}(h:Int) (hc:Cu b i) (hw:FW k xs kn li gv sh lg) (hk1:1≤kn.length):KF b (cU N0 (b,i,h,xs,kn,li,fr,gv,sh,lg)):=by
 have hl9:=hw.fl
 have hk3:=hw.fk
 have start:∀i h,Cu b i→KF b ((aj N0 (b,i,h,(3:Int))).bind fun r1=>((aj N0 (r1.1,r1.2.1,r1.2.2.1,(2:Int))).bind fun r2=>((aj N0 (r2.1,r2.2.1,r2.2.2.1,(3:Int))).bind fun r3=>((aj N0 (r3.1,r3.2.1,r3.2.2.1,(3:Int))).bind fun r4=>(cond (decide (((li).length:Int)>(0:Int))) ((bY N0 (r4.1,r4.2.1,r4.2.2.1,(3:Int))).bind fun r5=>(cond (!r5.2.2.2) ((cC N0 (r5.1,r5.2.1,r5.2.2.1,xs,kn,li,fr,gv,sh,lg,(0:Int),(0:Int),(0:Int),(0:Int),(0:Int),(⟨#[]⟩:ByteArray),((li).length:Int),(1:Int),(IntKind.i64.wrap ((1:Int)+r1.2.2.2)),r2.2.2.2,r3.2.2.2,r4.2.2.2,(⟨#[]⟩:ByteArray))).bind fun g6=>(some (g6.1,g6.2.1,g6.2.2.1,(1:Int),g6.2.2.2.2.2.2.2.2.2.2.2.2.2.2.2.1,(IntKind.i64.wrap ((1:Int)-g6.2.2.2.2.2.2.2.2.2.2.2.2.2.2.2.2.1)),g6.2.2.2.2.2.2.2.2.2.2.2.2.2.2.2.2.2.2.1,g6.2.2.2.2.2.2.2.2.2.2.2.2.2.2.2.2.2.1,(⟨#[]⟩:ByteArray)))) (some (r5.1,r5.2.1,r5.2.2.1,(1:Int),(IntKind.i64.wrap ((1:Int)+r1.2.2.2)),r2.2.2.2,r3.2.2.2,r4.2.2.2,(⟨#[]⟩:ByteArray))))) (some (r4.1,r4.2.1,r4.2.2.1,(1:Int),(IntKind.i64.wrap ((1:Int)+r1.2.2.2)),r2.2.2.2,r3.2.2.2,r4.2.2.2,(⟨#[]⟩:ByteArray)))))))):=by
  intro i h hc
  obtain⟨i1,h1,v1,e1,c1,b1⟩:=ct N0 h 3 hc
  obtain⟨i2,h2,v2,e2,c2,b2⟩:=ct N0 h1 2 c1
  obtain⟨i3,h3,v3,e3,c3,b3⟩:=ct N0 h2 3 c2
  obtain⟨i4,h4,v4,e4,c4,b4⟩:=ct N0 h3 3 c3
  obtain⟨i5,h5,v5,e5,c5⟩:=wB N0 h4 3 c4
  rw[e1,Option.bind_some]
  dsimp only
  rw[e2,Option.bind_some]
  dsimp only
  rw[e3,Option.bind_some]
  dsimp only
  rw[e4,Option.bind_some]
  dsimp only
  cases hl:decide ((li.length:Int)>0)with
  |false=>exact⟨_,_,_,_,_,_,_,_,rfl,c4,by decide⟩
  |true =>
   rw[decide_eq_true_iff]at hl
   rw[cond_true,e5,Option.bind_some]
   dsimp only
   cases v5 with
   |true=>exact⟨_,_,_,_,_,_,_,_,rfl,c5,by decide⟩
   |false =>
    obtain⟨i6,h6,w,p,a,c,s1,f1,d1,d2,k1,e6,c6⟩:=Jh (xs:=xs) (kn:=kn) (fr:=fr) (gv:=gv) (sh:=sh) (lg:=lg) (a1:=0) (a2:=0) (a3:=0) (a4:=0) (a5:=0) (a6:=⟨#[]⟩) (a7:=1) (a8:=IntKind.i64.wrap ((1:Int)+v1)) (a9:=v2) (a10:=v3) (a11:=v4) (a12:=⟨#[]⟩) h5 c5 (show 0<li.length by omega)
    rw[Bool.not_false,cond_true,e6]
    exact⟨_,_,_,_,_,_,_,_,rfl,c6,by decide⟩
 unfold cU
 dsimp only
 cases hl:decide ((li.length:Int)<2)with
 |true=>exact start i h hc
 |false =>
  rw[decide_eq_false_iff_not]at hl
  obtain⟨i1,h1,v1,e1,c1⟩:=wB N0 h 9 hc
  rw[cond_false,e1,Option.bind_some]
  dsimp only
  cases v1 with
  |true=>exact start i1 h1 c1
  |false =>
   obtain⟨i2,h2,v2,e2,c2,b2⟩:=ct N0 h1 14 c1
   rw[cond_false,e2,Option.bind_some]
   dsimp only
   cases(v2==(0:Int))with
   |true =>
    obtain⟨i3,h3,v3,e3,c3,b3⟩:=ct N0 h2 3 c2
    rw[cond_true,e3]
    exact⟨_,_,_,_,_,_,_,_,rfl,c3,by decide⟩
   |false =>
    obtain⟨i3,h3,v3,e3,c3,b3⟩:=ct N0 h2 (li.length:Int) c2
    rw[cond_false]
    cases(v2==(1:Int))with
    |true =>
     rw[cond_true,e3]
     exact⟨_,_,_,_,_,_,_,_,rfl,c3,by decide⟩
    |false =>
     obtain⟨i4,h4,v4,e4,c4,b4⟩:=ct N0 h3 (if(kn.length:Int)<5 then(kn.length:Int)else 5) c3
     obtain⟨i5,h5,v5,e5,c5,b5⟩:=ct N0 h4 (kn.length:Int) c4
     obtain⟨i6,h6,v6,e6,c6,b6⟩:=ct N0 h5 9 c5
     have hv4:0≤v4∧v4≤(kn.length:Int)-1:=by
      rcases b4 with⟨q1,_⟩|⟨q1,q2⟩
      ·split at q1<;>omega
      ·split at q2<;>omega
     have hv5:0≤v5∧v5≤(kn.length:Int)-1:=by
      rcases b5 with⟨q1,_⟩|⟨q1,q2⟩<;>omega
     obtain⟨ra,na,sa⟩:=Fb (x:=(kn.length:Int)-1-v4) (by omega) (by omega)
     obtain⟨rb,nb,sb⟩:=Fb (x:=v5) (by omega) (by omega)
     rw[cond_false,e3,Option.bind_some]
     dsimp only
     rw[WN,Option.bind_some,e4,Option.bind_some]
     dsimp only
     rw[e5,Option.bind_some]
     dsimp only
     rw[e6,Option.bind_some]
     dsimp only
     rw[aw (show -9223372036854775808≤(kn.length:Int)-1 by omega) (by omega),aw (show -9223372036854775808≤(kn.length:Int)-1-v4 by omega) (by omega),na,nb]
     cases(v6==(0:Int))with
     |true =>
      simp(disch:=(simp only[cI,pT,List.length_cons,List.length_nil];omega)) only[Option.bind_some,bG,cond_true,cond_false]
      exact⟨_,_,_,_,_,_,_,_,rfl,c6,by simp only[cI,pT,List.length_cons,List.length_nil];omega⟩
     |false =>
     cases(v6==(1:Int))with
     |true =>
      simp(disch:=(simp only[cI,pT,List.length_cons,List.length_nil];omega)) only[Option.bind_some,bG,cond_true,cond_false]
      exact⟨_,_,_,_,_,_,_,_,rfl,c6,by simp only[cI,pT,List.length_cons,List.length_nil];omega⟩
     |false =>
     cases(v6==(2:Int))with
     |true =>
      simp(disch:=(simp only[cI,pT,List.length_cons,List.length_nil];omega)) only[Option.bind_some,bG,cond_true,cond_false]
      generalize hL:([_,_,_,_,_,_,_,_,_]:List ByteArray)=L
      have hL1:L≠[]:=by rw[←hL];simp
      have hL2:∀s∈L,s.size≤100:=by
       rw[←hL]
       simp only[List.forall_mem_cons,cI,pT,List.length_cons,List.length_nil]
       refine⟨by omega,by omega,by omega,by omega,by omega,by omega,by omega,by omega,by omega,fun s hs=>by cases hs⟩
      obtain⟨i7,h7,v7,e7,c7,s7⟩:=sN N0 h6 L 100 hL1 hL2 c6
      rw[e7]
      exact⟨_,_,_,_,_,_,_,_,rfl,c7,s7⟩
     |false =>
     cases(v6==(3:Int))with
     |true =>
      simp(disch:=(simp only[cI,pT,List.length_cons,List.length_nil];omega)) only[Option.bind_some,bG,cond_true,cond_false]
      exact⟨_,_,_,_,_,_,_,_,rfl,c6,by simp only[cI,pT,List.length_cons,List.length_nil];omega⟩
     |false =>
      simp(disch:=(simp only[cI,pT,List.length_cons,List.length_nil];omega)) only[Option.bind_some,bG,cond_true,cond_false]
      exact⟨_,_,_,_,_,_,_,_,rfl,c6,by simp only[cI,pT,List.length_cons,List.length_nil];omega⟩
end
theorem wK:∀(m i:Nat) (xs:List ab),i≤5→5-i<m→aM xs=true→∃ys,bX N0 m ([],[],[],(0:Int),[],[],[],xs,([]:List Int),(i:Int))=some ([],[],[],(0:Int),[],[],[],ys,([]:List Int))∧aM ys=true
 |0,i,xs,hi,hm,hp=>absurd hm (by omega)
 |m+1,i,xs,hi,hm,hp=>by
  rw[bX]
  dsimp only
  by_cases h5:i<5
  ·have w:IntKind.i64.wrap ((i:Int)+1)=((i+1:Nat):Int):=by rw[aw (by omega) (by omega)];omega
   rw[show decide ((i:Int)<5)=true from decide_eq_true (by omega),cond_true,iY hp,Option.bind_some,w]
   cases hA:iz xs 1 (i:Int) 0 with
   |none=>exact wK m (i+1) xs (by omega) (by omega) hp
   |some q =>
    obtain⟨ys,t⟩:=q
    exact wK m (i+1) ys (by omega) (by omega) (lh hp hA).1
  ·rw[show decide ((i:Int)<5)=false from decide_eq_false (by omega),cond_false]
   exact⟨xs,rfl,hp⟩
theorem Ck{xs:List ab}{kd a b:Int}(hp:aM xs=true):aM (mZ xs (iz xs kd a b)).1=true:=by
 cases hA:iz xs kd a b with
 |none=>exact hp
 |some q =>
  obtain⟨ys,t⟩:=q
  exact(lh hp hA).1
theorem Jf (kn:List Int) (v:Int):1≤(uj kn v).length:=by
 unfold uj
 cases h:kn.contains v with
 |false=>rw[cond_false,pV];omega
 |true =>
  rw[cond_true]
  cases kn with
  |nil=>cases h
  |cons a r=>rw[List.length_cons];omega
theorem BI:∀(m i:Nat) (xs:List ab) (kn:List Int),i≤5→5-i<m→aM xs=true→kn.length≤i→(i=0∨1≤kn.length)→∃ys kn',bW N0 m ([],[],[],(0:Int),[],[],[],xs,kn,(i:Int))=some ([],[],[],(0:Int),[],[],[],ys,kn')∧aM ys=true∧kn'.length≤5∧1≤kn'.length
 |0,i,xs,kn,hi,hm,hp,_,_=>absurd hm (by omega)
 |m+1,i,xs,kn,hi,hm,hp,hk,h1=>by
  rw[bW]
  dsimp only
  by_cases h5:i<5
  ·have w:IntKind.i64.wrap ((i:Int)+1)=((i+1:Nat):Int):=by rw[aw (by omega) (by omega)];omega
   have p1:=Ck (kd:=1) (a:=90+(i:Int)) (b:=0) hp
   have hl:=sM kn (mZ (mZ xs (iz xs 1 (90+(i:Int)) 0)).1 (iz (mZ xs (iz xs 1 (90+(i:Int)) 0)).1 7 (mZ xs (iz xs 1 (90+(i:Int)) 0)).2 0)).2
   have hq:=Jf kn (mZ (mZ xs (iz xs 1 (90+(i:Int)) 0)).1 (iz (mZ xs (iz xs 1 (90+(i:Int)) 0)).1 7 (mZ xs (iz xs 1 (90+(i:Int)) 0)).2 0)).2
   rw[show decide ((i:Int)<5)=true from decide_eq_true (by omega),cond_true,f7]
   dsimp only
   rw[lS (by omega) (by omega),Option.bind_some,iY hp,Option.bind_some,Option.bind_some]
   dsimp only
   rw[gt p1,Option.bind_some,wy (by omega),Option.bind_some,w]
   exact BI m (i+1) _ _ (by omega) (by omega) (Ck p1) (by omega) (.inr hq)
  ·rw[show decide ((i:Int)<5)=false from decide_eq_false (by omega),cond_false]
   exact⟨xs,kn,rfl,hp,by omega,by omega⟩
theorem BG:∃xs kn,iu N0 ()=some (xs,kn,[],(0:Int),[],[],[])∧FW 0 xs kn [] [] [] []∧1≤kn.length:=by
 have hN:=n0
 obtain⟨xs,e1,p1⟩:=wK N0 0 [] (by omega) (by omega) (by decide)
 obtain⟨ys,kn,e2,p2,k2,k3⟩:=BI N0 0 xs [] (by omega) (by omega) p1 (Nat.zero_le _) (.inl rfl)
 rw[show((0:Nat):Int)=0 from rfl]at e1 e2
 have hl:=cW p2
 unfold iu
 rw[e1,Option.bind_some]
 dsimp only
 rw[e2]
 exact⟨ys,kn,rfl,⟨by omega,by omega,by simp,fun i hi=>absurd hi (by simp),by simp,by simp,by simp⟩,k3⟩
abbrev yh:=Int×(Int×(Int×(Int×(Int×ByteArray))))
section
variable{b:List Int}
def Xr (b:List Int) (k:Nat) (xs:List ab) (kn:List Int) (li:List cQ) (fr:Int) (gv sh:List Int) (lg:List cB) (ls:List yh) (nn io:Int) (s:Option (List Int×Int×Int×List ab×List Int×List cQ×Int×List Int×List Int×List cB×List ab×List Int×List cQ×Int×List Int×List Int×List cB×List yh×Int×Int×Int×Int×Int×Int×Int×ByteArray×List ab×List Int×List cQ×Int×List Int×List Int×List cB×Int)):Prop :=
 ∃i h kd A B C D T xs2 kn2 li2 fr2 gv2 sh2 lg2 c,s=some (b,i,h,[],[],[],(0:Int),[],[],[],xs,kn,li,fr,gv,sh,lg,ls,nn,io,kd,A,B,C,D,T,xs2,kn2,li2,fr2,gv2,sh2,lg2,c)∧Cu b i∧T.size≤100∧FW (k+1) xs2 kn2 li2 gv2 sh2 lg2∧(c=0→kn.length≤kn2.length)
theorem BT{k:Nat}{xs:List ab}{kn:List Int}{li:List cQ}{fr:Int}{gv sh:List Int}{lg:List cB}(hw:FW k xs kn li gv sh lg) (hk1:1≤kn.length) (hk8:k≤800) (ls:List yh) (nn io:Int):∀(m j:Nat) (i h kd A B C D:Int) (T:ByteArray) (xs2:List ab) (kn2:List Int) (li2:List cQ) (fr2:Int) (gv2 sh2:List Int) (lg2:List cB) (c:Int),j≤6→6-j<m→Cu b i→T.size≤100→FW (k+1) xs2 kn2 li2 gv2 sh2 lg2→(c=0→kn.length≤kn2.length) →
  Xr b k xs kn li fr gv sh lg ls nn io (bn N0 m (b,i,h,[],[],[],(0:Int),[],[],[],xs,kn,li,fr,gv,sh,lg,ls,nn,io,kd,A,B,C,D,T,xs2,kn2,li2,fr2,gv2,sh2,lg2,c,(j:Int)))
 |0,j,i,h,kd,A,B,C,D,T,xs2,kn2,li2,fr2,gv2,sh2,lg2,c,hj,hm,_,_,_,_=>absurd hm (by omega)
 |m+1,j,i,h,kd,A,B,C,D,T,xs2,kn2,li2,fr2,gv2,sh2,lg2,c,hj,hm,hc,hT,hf,hz=>by
  rw[bn]
  dsimp only
  by_cases h6:j<6
  ·rw[show decide ((j:Int)<6)=true from decide_eq_true (by omega),cond_true]
   cases(c==(4:Int))with
   |false=>exact⟨_,_,_,_,_,_,_,_,_,_,_,_,_,_,_,_,rfl,hc,hT,hf,hz⟩
   |true =>
    have w:IntKind.i64.wrap ((j:Int)+1)=((j+1:Nat):Int):=by rw[aw (by omega) (by omega)];omega
    obtain⟨i1,h1,kd1,A1,B1,C1,D1,T1,e1,c1,s1⟩:=mR (fr:=fr) h hc hw hk1
    obtain⟨xs3,kn3,li3,fr3,gv3,sh3,lg3,cc,e2,f2,z2⟩:=X0 (fr:=fr) hw hk8 kd1 A1 B1 C1 D1 T1
    rw[cond_true,e1,Option.bind_some]
    dsimp only
    rw[e2,Option.bind_some,w]
    exact BT hw hk1 hk8 ls nn io m (j+1) i1 h1 kd1 A1 B1 C1 D1 T1 xs3 kn3 li3 fr3 gv3 sh3 lg3 cc (by omega) (by omega) c1 s1 f2 z2
  ·rw[show decide ((j:Int)<6)=false from decide_eq_false (by omega),cond_false]
   exact⟨_,_,_,_,_,_,_,_,_,_,_,_,_,_,_,_,rfl,hc,hT,hf,hz⟩
def XH (b:List Int) (q:Nat) (s:Option (List Int×Int×Int×List ab×List Int×List cQ×Int×List Int×List Int×List cB×List ab×List Int×List cQ×Int×List Int×List Int×List cB×List yh)):Prop :=
 ∃i h xs kn li fr gv sh lg ls,s=some (b,i,h,[],[],[],(0:Int),[],[],[],xs,kn,li,fr,gv,sh,lg,ls)∧Cu b i∧FW q xs kn li gv sh lg∧1≤kn.length∧ls.length≤q∧∀d∈ls,d.2.2.2.2.2.size≤100
theorem ue (q:Nat) (hq:q≤700):∀(m j:Nat) (i h:Int) (xs:List ab) (kn:List Int) (li:List cQ) (fr:Int) (gv sh:List Int) (lg:List cB) (ls:List yh),j≤q→q-j<m→Cu b i→FW j xs kn li gv sh lg→1≤kn.length→ls.length=j→(∀d∈ls,d.2.2.2.2.2.size≤100) →
  XH b q (bj N0 m (b,i,h,[],[],[],(0:Int),[],[],[],xs,kn,li,fr,gv,sh,lg,ls,(q:Int),(j:Int)))
 |0,j,i,h,xs,kn,li,fr,gv,sh,lg,ls,hj,hm,_,_,_,_,_=>absurd hm (by omega)
 |m+1,j,i,h,xs,kn,li,fr,gv,sh,lg,ls,hj,hm,hc,hw,hk1,hl,hs=>by
  rw[bj]
  dsimp only
  by_cases hjq:j<q
  ·obtain⟨i1,h1,kd1,A1,B1,C1,D1,T1,e1,c1,s1⟩:=mR (fr:=fr) h hc hw hk1
   obtain⟨xs3,kn3,li3,fr3,gv3,sh3,lg3,cc,e2,f2,z2⟩:=X0 (fr:=fr) hw (by omega) kd1 A1 B1 C1 D1 T1
   obtain⟨i4,h4,kd4,A4,B4,C4,D4,T4,xs4,kn4,li4,fr4,gv4,sh4,lg4,c4,e4,cu4,s4,f4,z4⟩:=BT (fr:=fr) hw hk1 (by omega) ls (q:Int) (j:Int) N0 0 i1 h1 kd1 A1 B1 C1 D1 T1 xs3 kn3 li3 fr3 gv3 sh3 lg3 cc (by omega) (by have:=n0;omega) c1 s1 f2 z2
   rw[show((0:Nat):Int)=0 from rfl]at e4
   have hs':∀d∈ls++[((kd4,(A4,(B4,(C4,(D4,T4))))):yh)],d.2.2.2.2.2.size≤100:=fun d hd=>by
    rcases List.mem_append.1 hd with hd|hd
    ·exact hs d hd
    ·rw[List.mem_singleton.1 hd];exact s4
   have hl':(ls++[((kd4,(A4,(B4,(C4,(D4,T4))))):yh)]).length=j+1:=by rw[List.length_append,List.length_singleton,hl]
   rw[xr hjq,cond_true,e1,Option.bind_some]
   dsimp only
   rw[e2,Option.bind_some]
   dsimp only
   rw[e4,Option.bind_some]
   dsimp only
   rw[List.length_singleton,show aO (ls.length+1)=true from by unfold aO;exact decide_eq_true (by omega),cond_true,cF hjq (by omega)]
   cases hc4:(c4==(0:Int))with
   |true =>
    have:=z4 (by simpa using hc4)
    exact ue q hq m (j+1) i4 h4 xs4 kn4 li4 fr4 gv4 sh4 lg4 _ hjq (by omega) cu4 f4 (by omega) hl' hs'
   |false=>exact ue q hq m (j+1) i4 h4 xs kn li fr gv sh lg _ hjq (by omega) cu4 (hw.more (Nat.le_succ j)) hk1 hl' hs'
  ·rw[Fn hjq,cond_false]
   exact⟨_,_,_,_,_,_,_,_,_,_,rfl,hc,hw.more (by omega),hk1,by omega,hs⟩
theorem xR{i:Int}(h most:Int) (hc:Cu b i) (h0:0≤most) (h1:most≤600):∃i' h' xs kn li fr gv sh lg ls,eF N0 (b,i,h,most)=some (b,i',h',xs,kn,li,fr,gv,sh,lg,ls)∧Cu b i'∧FW 601 xs kn li gv sh lg∧1≤kn.length∧ls.length≤601∧∀d∈ls,d.2.2.2.2.2.size≤100:=by
 obtain⟨xs,kn,e1,f1,k1⟩:=BG
 obtain⟨i2,h2,v2,e2,c2,b2⟩:=ct N0 h (most+1) hc
 have hv:0≤v2∧v2≤most:=by
  rcases b2 with⟨q,_⟩|⟨q1,q2⟩<;>omega
 obtain⟨i3,h3,xs3,kn3,li3,fr3,gv3,sh3,lg3,ls3,e3,c3,f3,k3,l3,s3⟩:=ue (b:=b) v2.toNat (by omega) N0 0 i2 h2 xs kn [] 0 [] [] [] [] (Nat.zero_le _) (by have:=n0;omega) c2 f1 k1 rfl (fun d hd=>by cases hd)
 rw[show((0:Nat):Int)=0 from rfl,show((v2.toNat:Nat):Int)=v2 from by omega]at e3
 unfold eF
 dsimp only
 rw[e1,Option.bind_some,aw (by omega) (by omega),e2,Option.bind_some]
 dsimp only
 rw[e3]
 exact⟨_,_,_,_,_,_,_,_,_,_,rfl,c3,f3.more (by omega),k3,(show ls3.length≤601 by omega),s3⟩
end
def KP:Int→List UInt8→Int
 |x,[]=>x
 |x,c::r=>KP (10*x+(c.toNat:Int)-48) r
def yA (c:UInt8):Bool:=decide (48≤c.toNat)&&decide (c.toNat≤57)
def Q0 (l:List UInt8) (u:Nat):Bool:=l.all yA&&(Nat.ble 1 l.length&&(Nat.ble l.length 3&&(decide (KP 0 l=(u:Int))&&(!(l.headD 0==48) || Nat.beq l.length 1))))
set_option maxRecDepth 100000 in
theorem NJ:∀u:Fin 1000,Q0 (Pn u.val) u.val=true:=by decide +kernel
theorem jJ{T:ByteArray}{i:Nat}{c:UInt8}{r:List UInt8}(h:T.data.toList.drop i=c::r):i<T.size∧bt T (i:Int)=(c.toNat:Int)∧T.data.toList.drop (i+1)=r:=by
 have hl:i<T.data.toList.length:=by
  refine Nat.lt_of_not_le fun q=>?_
  rw[List.drop_eq_nil_of_le q]at h
  cases h
 refine⟨hl,?_,?_⟩
 ·rw[List.drop_eq_getElem_cons hl]at h
  rw[MU hl,(List.cons.inj h).1]
 ·rw[List.drop_eq_getElem_cons hl]at h
  exact(List.cons.inj h).2
theorem uc (n m:Nat){T:ByteArray}(hT:T.size≤1048576){i p:Nat}{acc:Int}{c:UInt8}{r:List UInt8}(h:T.data.toList.drop i=c::r) (hc:yA c=true) (h1:p≤i) (h2:i≤p+4) (a0:0≤acc) (a1:acc≤1000000) :
  bd n (m+1) (T,(i:Int),(p:Int),acc)=bd n m (T,((i+1:Nat):Int),(p:Int),10*acc+(c.toNat:Int)-48):=by
 obtain⟨g1,g2,_⟩:=jJ h
 unfold yA at hc
 rw[Bool.and_eq_true,decide_eq_true_iff,decide_eq_true_iff]at hc
 rw[bd]
 dsimp only
 rw[decide_eq_true (show(i:Int)<(T.size:Int)by omega),cond_true,AZ g1,cond_true,g2,decide_eq_true (show(c.toNat:Int)≥48 by omega),cond_true,cond_true,decide_eq_true (show(c.toNat:Int)≤57 by omega),cond_true,kM (x:=(i:Int)-(p:Int)) (by omega) (by omega),decide_eq_true (show(i:Int)-(p:Int)<5 by omega),cond_true,cond_true,kM (x:=(i:Int)+1) (by omega) (by omega),kM (x:=10*acc) (by omega) (by omega),kM (x:=(c.toNat:Int)) (by omega) (by omega),kM (x:=10*acc+(c.toNat:Int)) (by omega) (by omega),kM (x:=10*acc+(c.toNat:Int)-48) (by omega) (by omega),show(i:Int)+1=((i+1:Nat):Int)by omega]
def Cq (r:List UInt8):Prop:=r=[]∨∃c s,r=c::s∧yA c=false
theorem Ar (n m:Nat){T:ByteArray}{i p:Nat}{acc:Int}{r:List UInt8}(h:T.data.toList.drop i=r) (hr:Cq r):bd n (m+1) (T,(i:Int),(p:Int),acc)=some (T,(i:Int),(p:Int),acc):=by
 rw[bd]
 dsimp only
 rcases hr with rfl|⟨c,s,rfl,hc⟩
 ·have hl:T.size≤i:=by
   have:=List.drop_eq_nil_iff.1 h
   exact this
  rw[decide_eq_false (show ¬(i:Int)<(T.size:Int)by omega),cond_false]
 ·obtain⟨g1,g2,_⟩:=jJ h
  rw[decide_eq_true (show(i:Int)<(T.size:Int)by omega),cond_true,AZ g1,cond_true,g2]
  unfold yA at hc
  by_cases h48:48≤c.toNat
  ·rw[decide_eq_true h48,Bool.true_and]at hc
   have h57:¬c.toNat≤57:=of_decide_eq_false hc
   rw[decide_eq_true (show(c.toNat:Int)≥48 by omega),cond_true,cond_true,decide_eq_false (show ¬(c.toNat:Int)≤57 by omega),cond_false]
  ·rw[decide_eq_false (show ¬(c.toNat:Int)≥48 by omega),cond_false]
theorem JW (n m:Nat) (hm:10≤m){T:ByteArray}(hT:T.size≤1048576){p:Nat}{ds r:List UInt8}(hd:∀c∈ds,yA c=true) (h3:ds.length≤3) (h:T.data.toList.drop p=ds++r) (hr:Cq r):bd n m (T,(p:Int),(p:Int),0)=some (T,((p+ds.length:Nat):Int),(p:Int),KP 0 ds):=by
 obtain⟨k,rfl⟩:∃k,m=k+4:=⟨m-4,by omega⟩
 match ds,h3,hd,h with
 |[],_,_,h=>exact Ar n (k+3) h hr
 |[c0],_,hd,h =>
  have d0:=hd c0 (by simp)
  have h1:=(jJ h).2.2
  rw[uc n (k+3) hT h d0 (by omega) (by omega) (by omega) (by omega)]
  exact Ar n (k+2) h1 hr
 |[c0,c1],_,hd,h =>
  have d0:=hd c0 (by simp)
  have d1:=hd c1 (by simp)
  have h1:=(jJ h).2.2
  have h2:=(jJ h1).2.2
  have b0:48≤c0.toNat∧c0.toNat≤57:=by unfold yA at d0;rw[Bool.and_eq_true,decide_eq_true_iff,decide_eq_true_iff]at d0;exact d0
  rw[uc n (k+3) hT h d0 (by omega) (by omega) (by omega) (by omega),uc n (k+2) hT h1 d1 (by omega) (by omega) (by omega) (by omega)]
  exact Ar n (k+1) h2 hr
 |[c0,c1,c2],_,hd,h =>
  have d0:=hd c0 (by simp)
  have d1:=hd c1 (by simp)
  have d2:=hd c2 (by simp)
  have h1:=(jJ h).2.2
  have h2:=(jJ h1).2.2
  have h4:=(jJ h2).2.2
  have b0:48≤c0.toNat∧c0.toNat≤57:=by unfold yA at d0;rw[Bool.and_eq_true,decide_eq_true_iff,decide_eq_true_iff]at d0;exact d0
  have b1:48≤c1.toNat∧c1.toNat≤57:=by unfold yA at d1;rw[Bool.and_eq_true,decide_eq_true_iff,decide_eq_true_iff]at d1;exact d1
  rw[uc n (k+3) hT h d0 (by omega) (by omega) (by omega) (by omega),uc n (k+2) hT h1 d1 (by omega) (by omega) (by omega) (by omega),uc n (k+1) hT h2 d2 (by omega) (by omega) (by omega) (by omega)]
  exact Ar n k h4 hr
theorem Lt{x:Int}(h0:0≤x) (h1:x≤999):(∀c∈Lib.itoa x,yA c=true)∧1≤(Lib.itoa x).length∧(Lib.itoa x).length≤3∧KP 0 (Lib.itoa x)=x∧((Lib.itoa x).headD 0=48→(Lib.itoa x).length=1):=by
 obtain⟨u,rfl⟩:=Int.eq_ofNat_of_zero_le h0
 have hk:=NJ ⟨u,by omega⟩
 rw[JX (by omega)]
 unfold Q0 at hk
 rw[Bool.and_eq_true,Bool.and_eq_true,Bool.and_eq_true,Bool.and_eq_true,decide_eq_true_iff]at hk
 obtain⟨k1,k2,k3,k4,k5⟩:=hk
 refine⟨fun c hc=>List.all_eq_true.1 k1 c hc,Nat.le_of_ble_eq_true k2,Nat.le_of_ble_eq_true k3,k4,fun q=>?_⟩
 rw[q]at k5
 rw[Bool.or_eq_true]at k5
 rcases k5 with w|w
 ·cases w
 ·exact Nat.eq_of_beq_eq_true w
theorem JE (n:Nat) (hn:100≤n){T:ByteArray}(hT:T.size≤1048576){p:Nat}{x:Int}{r:List UInt8}(h0:0≤x) (h1:x≤999) (h:T.data.toList.drop p=Lib.itoa x++r) (hr:Cq r):gj n (T,(p:Int))=some (x,((p+(Lib.itoa x).length:Nat):Int),true):=by
 obtain⟨k1,k2,k3,k4,k5⟩:=Lt h0 h1
 have e:=JW n n (by omega) hT k1 k3 h hr
 rw[k4]at e
 obtain⟨c,s,hcs⟩:∃c s,Lib.itoa x=c::s:=by
  cases q:Lib.itoa x with
  |nil=>rw[q]at k2;simp at k2
  |cons c s=>exact⟨c,s,rfl⟩
 have hb:=jJ (h.trans (by rw[hcs];rfl):T.data.toList.drop p=c::(s++r))
 have w:IntKind.i64.wrap (((p+(Lib.itoa x).length:Nat):Int)-(p:Int))=((Lib.itoa x).length:Int):=by rw[kM (by omega) (by omega)];omega
 have e2:eL n (T,(p:Int))=some (x,((p+(Lib.itoa x).length:Nat):Int),true):=by
  unfold eL
  dsimp only
  rw[e,Option.bind_some]
  dsimp only
  rw[show((((p+(Lib.itoa x).length:Nat):Int))==(p:Int))=false from by rw[beq_eq_false_iff_ne];omega,cond_false,w,decide_eq_false (show ¬((Lib.itoa x).length:Int)>4 by omega),cond_false,AZ hb.1,cond_true]
  cases q:(bt T (p:Int)==48)with
  |false=>rfl
  |true =>
   have hc:c=48:=by
    rw[hb.2.1]at q
    have:(c.toNat:Int)=48:=by simpa using q
    apply UInt8.toNat_inj.1
    show c.toNat=48
    omega
   have:=k5 (by rw[hcs,hc];rfl)
   rw[cond_true,decide_eq_false (show ¬((Lib.itoa x).length:Int)>1 by omega),cond_false]
 unfold gj
 dsimp only
 rw[e2,Option.bind_some]
 dsimp only
 rw[cond_true,w,decide_eq_true (show((Lib.itoa x).length:Int)≤3 by omega)]
theorem ki (n m:Nat) (hn:100≤n){T:ByteArray}(hT:T.size≤1048576){many j p:Nat}{out:List Int}{x:Int}{r:List UInt8}(hj:j<many) (h4:many≤4) (ho:out.length=j) (h0:0≤x) (h1:x≤999) (h:T.data.toList.drop p=32::(Lib.itoa x++r)) (hr:Cq r) :
  ak n (m+1) (T,(p:Int),(many:Int),out,(j:Int))=ak n m (T,((p+1+(Lib.itoa x).length:Nat):Int),(many:Int),out++[x],((j+1:Nat):Int))∧T.data.toList.drop (p+1+(Lib.itoa x).length)=r∧p+1+(Lib.itoa x).length≤T.size:=by
 obtain⟨g1,g2,g3⟩:=jJ h
 have hlen:(T.data.toList.drop (p+1)).length=(Lib.itoa x++r).length:=by rw[g3]
 rw[List.length_drop,List.length_append]at hlen
 have hsz:T.data.toList.length=T.size:=rfl
 refine⟨?_,?_,by omega⟩
 ·rw[ak]
  dsimp only
  have hro:aO (out.length+[x].length)=true:=decide_eq_true (by rw[List.length_singleton];omega)
  rw[decide_eq_true (show(j:Int)<(many:Int)by omega),cond_true,decide_eq_false (show ¬(p:Int)≥(T.size:Int)by omega),cond_false,AZ g1,cond_true,g2,show((((32:UInt8).toNat:Int)) != 32)=false from rfl,cond_false,kM (x:=(p:Int)+1) (by omega) (by omega),show(p:Int)+1=((p+1:Nat):Int)by omega,JE n hn hT h0 h1 g3 hr,Option.bind_some]
  dsimp only
  rw[Bool.not_true,cond_false,hro,cond_true,kM (x:=(j:Int)+1) (by omega) (by omega),show(j:Int)+1=((j+1:Nat):Int)by omega]
 ·have:T.data.toList.drop (p+1+(Lib.itoa x).length)=(T.data.toList.drop (p+1)).drop (Lib.itoa x).length:=by rw[List.drop_drop]
  rw[this,g3]
  exact List.drop_left' rfl
theorem sQ (n m:Nat){T:ByteArray}{many:Nat}{p:Int}{out:List Int}:ak n (m+1) (T,p,(many:Int),out,(many:Int))=some (Sum.inr (p,out)):=by
 rw[ak]
 dsimp only
 rw[decide_eq_false (Int.lt_irrefl _),cond_false]
theorem wC{n:Nat}{T:ByteArray}{p:Int}{many:Int}{q:Int}{out:List Int}(h:ak n n (T,p,many,[],0)=some (Sum.inr (q,out))):aF n (T,p,many)=some (out,q,true):=by
 unfold aF
 dsimp only
 rw[h];rfl
theorem sT (r:List UInt8):Cq (32::r) := .inr ⟨32,r,rfl,rfl⟩
theorem IV (L:List UInt8){s:Nat}(h:s≤L.length):sub (ba L) 0 (s:Int)=ba (L.take s):=by
 apply ByteArray.ext
 show((ba L).extract ((0:Int)).toNat ((s:Int)).toNat).data=_
 rw[ByteArray.data_extract,Int.toNat_natCast]
 apply Array.toList_inj.1
 rw[Array.toList_extract]
 show List.extract (ba L).data.toList 0 s=(ba (L.take s)).data.toList
 rw[iM,iM,List.extract_eq_take_drop]
 simp
theorem uk{L w:List UInt8}{s:Nat}(h:s≤L.length) (hne:L.take s≠w):aC (sub (ba L) 0 (s:Int)) (ba w)=false:=by
 rw[IV L h]
 cases q:aC (ba (L.take s)) (ba w)with
 |false=>rfl
 |true=>exact absurd (NU (nz.1 q)) hne
theorem wz{L w:List UInt8}{s:Nat}(h:s≤L.length) (he:L.take s=w):aC (sub (ba L) 0 (s:Int)) (ba w)=true:=by
 rw[IV L h,he]
 exact cZ _
theorem Ki (n:Nat) (hn:3000≤n){T:ByteArray}{k a b c d:Int}{t:ByteArray}(h:dO k a b c d t=(T,true)):cj n T=some (k,a,b,c,d,t,true):=by
 obtain⟨hg,rfl⟩:=zv h
 unfold A6 at hg
 rw[Bool.and_eq_true,Bool.and_eq_true,Bool.and_eq_true,Bool.and_eq_true,Bool.and_eq_true,Bool.and_eq_true]at hg
 obtain⟨hf,hts,⟨ha,hb,hc,hd⟩,_⟩:=hg
 have hts:t.size≤2000:=of_decide_eq_true hts
 obtain⟨a0,a1⟩:=ia ha
 obtain⟨b0,b1⟩:=ia hb
 obtain⟨c0,c1⟩:=ia hc
 obtain⟨d0,d1⟩:=ia hd
 have la:=c9 a0 a1
 have lb:=c9 b0 b1
 have lc:=c9 c0 c1
 have ld:=c9 d0 d1
 obtain⟨m,hm⟩:∃m,n=m+4+1:=⟨n-5,by omega⟩
 apply xa
 rcases mQ hf with⟨rfl,rfl⟩|⟨rfl,rfl,rfl,rfl⟩|⟨rfl,rfl,rfl,rfl,rfl⟩|⟨rfl,rfl,rfl,rfl,rfl⟩
 ·have eT:body 1 a b c d (⟨#[]⟩:ByteArray)=eS++32::(Lib.itoa a++32::(Lib.itoa b++32::(Lib.itoa c++32::(Lib.itoa d++[])))):=by
   unfold body
   simp
  rw[eT]at h ⊢
  have hl:(eS++32::(Lib.itoa a++32::(Lib.itoa b++32::(Lib.itoa c++32::(Lib.itoa d++[]))))).length≤1048576:=by
   simp only[List.length_append,List.length_cons,List.length_nil]
   omega
  generalize hL:eS++32::(Lib.itoa a++32::(Lib.itoa b++32::(Lib.itoa c++32::(Lib.itoa d++[]))))=L at h hl ⊢
  have hT:(ba L).size≤1048576:=by rw[cA];exact hl
  have hsz:(ba L).size=L.length:=cA L
  have h5:5≤L.length:=by
   rw[←hL]
   simp only[List.length_append,List.length_cons,List.length_nil]
   omega
  have e0:kG n n (ba L) 1=kG n (m+4+1) (ba L) 1:=by rw[←hm]
  have hdr:(ba L).data.toList.drop 5=32::(Lib.itoa a++32::(Lib.itoa b++32::(Lib.itoa c++32::(Lib.itoa d++[])))):=by
   rw[iM, ←hL]
   rfl
  have tk:=Mj n (m+4) (T:=ba L) (by rw[hsz];exact h5) (wz (s:=5) h5 (by rw[←hL];rfl))
  obtain⟨s1,q1,z1⟩:=ki n (m+4) (by omega) hT (many:=4) (j:=0) (out:=[]) (by omega) (by omega) rfl a0 a1 hdr (sT _)
  obtain⟨s2,q2,z2⟩:=ki n (m+3) (by omega) hT (many:=4) (j:=1) (out:=[a]) (by omega) (by omega) rfl b0 b1 q1 (sT _)
  obtain⟨s3,q3,z3⟩:=ki n (m+2) (by omega) hT (many:=4) (j:=2) (out:=[a,b]) (by omega) (by omega) rfl c0 c1 q2 (sT _)
  obtain⟨s4,q4,z4⟩:=ki n (m+1) (by omega) hT (many:=4) (j:=3) (out:=[a,b,c]) (by omega) (by omega) rfl d0 d1 q3 (.inl rfl)
  have s5:=sQ n m (T:=ba L) (many:=4) (p:=((5+1+(Lib.itoa a).length+1+(Lib.itoa b).length+1+(Lib.itoa c).length+1+(Lib.itoa d).length:Nat):Int)) (out:=[a,b,c,d])
  have e1:aF n (ba L,5,4)=some ([a,b,c,d],((5+1+(Lib.itoa a).length+1+(Lib.itoa b).length+1+(Lib.itoa c).length+1+(Lib.itoa d).length:Nat):Int),true):=wC (by
   rw[show ak n n (ba L,(5:Int),(4:Int),[],(0:Int))=ak n (m+4+1) (ba L,(5:Int),(4:Int),[],(0:Int))from by rw[←hm]]
   exact s1.trans (s2.trans (s3.trans (s4.trans s5))))
  have hend:5+1+(Lib.itoa a).length+1+(Lib.itoa b).length+1+(Lib.itoa c).length+1+(Lib.itoa d).length=(ba L).size:=by
   have:=List.drop_eq_nil_iff.1 q4
   have hs2:(ba L).data.toList.length=(ba L).size:=rfl
   omega
  have e2:aH n ((1:Int),([a,b,c,d].getD ((0:Int)).toNat 0),([a,b,c,d].getD ((1:Int)).toNat 0),([a,b,c,d].getD ((2:Int)).toNat 0),([a,b,c,d].getD ((3:Int)).toNat 0),(⟨#[]⟩:ByteArray))=some (ba L,true):=(iw n hn 1 a b c d (⟨#[]⟩:ByteArray)).trans (congrArg some h)
  rw[e0,tk,e1,Option.bind_some]
  dsimp only
  rw[show aR (0:Int) ([a,b,c,d]:List Int).length=true from rfl,show aR (1:Int) ([a,b,c,d]:List Int).length=true from rfl,show aR (2:Int) ([a,b,c,d]:List Int).length=true from rfl,show aR (3:Int) ([a,b,c,d]:List Int).length=true from rfl]
  simp only[Bool.not_true,cond_false,cond_true]
  rw[e2,Option.bind_some,hend,bne_self_eq_false,cond_false]
  dsimp only
  rw[cZ]
  rfl
 ·have eT:body 2 a 0 0 0 t=j4++32::(Lib.itoa a++32::t.data.toList):=by
   unfold body
   simp
  rw[eT]at h ⊢
  have hl:(j4++32::(Lib.itoa a++32::t.data.toList)).length≤1048576:=by
   simp only[List.length_append,List.length_cons,List.length_nil]
   have:=nA t
   omega
  generalize hL:j4++32::(Lib.itoa a++32::t.data.toList)=L at h hl ⊢
  have hT:(ba L).size≤1048576:=by rw[cA];exact hl
  have hsz:(ba L).size=L.length:=cA L
  have h4:4≤L.length:=by
   rw[←hL]
   simp only[List.length_append,List.length_cons,List.length_nil]
   omega
  have n1:kG n (m+4+1) (ba L) 1=kG n (m+4) (ba L) 2:=by
   by_cases hs:L.length<5
   ·exact vD n _ (.inl (by rw[hsz];exact hs))
   ·exact vD n _ (.inr (uk (s:=5) (by omega) (by
     intro q
     rw[←hL]at q
     simp at q)))
  have e0:kG n n (ba L) 1=kG n (m+3+1) (ba L) 2:=by
   rw[show kG n n (ba L) 1=kG n (m+4+1) (ba L) 1 from by rw[←hm]]
   exact n1
  have hdr:(ba L).data.toList.drop 4=32::(Lib.itoa a++32::t.data.toList):=by
   rw[iM, ←hL]
   rfl
  have tk:=Mi n (m+3) (T:=ba L) (by rw[hsz];exact h4) (wz (s:=4) h4 (by rw[←hL];rfl))
  obtain⟨s1,q1,z1⟩:=ki n (m+4) (by omega) hT (many:=1) (j:=0) (out:=[]) (by omega) (by omega) rfl a0 a1 hdr (sT _)
  have s5:=sQ n (m+3) (T:=ba L) (many:=1) (p:=((4+1+(Lib.itoa a).length:Nat):Int)) (out:=[a])
  have e1:aF n (ba L,4,1)=some ([a],((4+1+(Lib.itoa a).length:Nat):Int),true):=wC (by
   rw[show ak n n (ba L,(4:Int),(1:Int),[],(0:Int))=ak n (m+4+1) (ba L,(4:Int),(1:Int),[],(0:Int))from by rw[←hm]]
   exact s1.trans s5)
  obtain⟨g1,g2,g3⟩:=jJ q1
  have w1:IntKind.i64.wrap (((4+1+(Lib.itoa a).length:Nat):Int)+1)=((4+1+(Lib.itoa a).length+1:Nat):Int):=by rw[nY (by omega) (by omega)];omega
  have hr:l4 ((4+1+(Lib.itoa a).length+1:Nat):Int) ((ba L).size:Int) (ba L).size=true:=decide_eq_true (by omega)
  have hsub:sub (ba L) ((4+1+(Lib.itoa a).length+1:Nat):Int) ((ba L).size:Int)=t:=by
   apply ByteArray.ext
   show((ba L).extract (((4+1+(Lib.itoa a).length+1:Nat):Int)).toNat (((ba L).size:Int)).toNat).data=_
   rw[ByteArray.data_extract,Int.toNat_natCast,Int.toNat_natCast]
   apply Array.toList_inj.1
   rw[Array.toList_extract,List.extract_eq_take_drop,g3]
   apply List.take_of_length_le
   have hs2:(ba L).data.toList.length=(ba L).size:=rfl
   have:=congrArg List.length g3
   rw[List.length_drop]at this
   omega
  have e2:aH n ((2:Int),([a].getD ((0:Int)).toNat 0),(0:Int),(0:Int),(0:Int),t)=some (ba L,true):=(iw n hn 2 a 0 0 0 t).trans (congrArg some h)
  rw[e0,tk,e1,Option.bind_some]
  dsimp only
  rw[show aR (0:Int) ([a]:List Int).length=true from rfl]
  simp only[Bool.not_true,cond_false,cond_true]
  rw[decide_eq_false (show ¬((4+1+(Lib.itoa a).length:Nat):Int)≥((ba L).size:Int)by omega),cond_false,AZ g1,cond_true,g2,show((((32:UInt8).toNat:Int)) != 32)=false from rfl,cond_false,w1,hr,cond_true,hsub,e2,Option.bind_some,bne_self_eq_false,cond_false]
  dsimp only
  rw[cZ]
  rfl
 ·have eT:body 3 a 0 0 0 (⟨#[]⟩:ByteArray)=j6++32::(Lib.itoa a++[]):=by
   unfold body
   simp
  rw[eT]at h ⊢
  have hl:(j6++32::(Lib.itoa a++[])).length≤1048576:=by
   simp only[List.length_append,List.length_cons,List.length_nil]
   omega
  generalize hL:j6++32::(Lib.itoa a++[])=L at h hl ⊢
  have hT:(ba L).size≤1048576:=by rw[cA];exact hl
  have hsz:(ba L).size=L.length:=cA L
  have h4:4≤L.length:=by
   rw[←hL]
   simp only[List.length_append,List.length_cons,List.length_nil]
   omega
  have n1:kG n (m+4+1) (ba L) 1=kG n (m+4) (ba L) 2:=by
   by_cases hs:L.length<5
   ·exact vD n _ (.inl (by rw[hsz];exact hs))
   ·exact vD n _ (.inr (uk (s:=5) (by omega) (by
     intro q
     rw[←hL]at q
     simp at q)))
  have n2:kG n (m+3+1) (ba L) 2=kG n (m+3) (ba L) 3:=by
   by_cases hs:L.length<4
   ·exact yM n _ (.inl (by rw[hsz];exact hs))
   ·exact yM n _ (.inr (uk (s:=4) (by omega) (by
     intro q
     rw[←hL]at q
     simp at q)))
  have e0:kG n n (ba L) 1=kG n (m+2+1) (ba L) 3:=by
   rw[show kG n n (ba L) 1=kG n (m+4+1) (ba L) 1 from by rw[←hm]]
   exact n1.trans n2
  have hdr:(ba L).data.toList.drop 4=32::(Lib.itoa a++[]):=by
   rw[iM, ←hL]
   rfl
  have tk:=Mh n (m+2) (T:=ba L) (by rw[hsz];exact h4) (wz (s:=4) h4 (by rw[←hL];rfl))
  obtain⟨s1,q1,z1⟩:=ki n (m+4) (by omega) hT (many:=1) (j:=0) (out:=[]) (by omega) (by omega) rfl a0 a1 hdr (.inl rfl)
  have s5:=sQ n (m+3) (T:=ba L) (many:=1) (p:=((4+1+(Lib.itoa a).length:Nat):Int)) (out:=[a])
  have e1:aF n (ba L,4,1)=some ([a],((4+1+(Lib.itoa a).length:Nat):Int),true):=wC (by
   rw[show ak n n (ba L,(4:Int),(1:Int),[],(0:Int))=ak n (m+4+1) (ba L,(4:Int),(1:Int),[],(0:Int))from by rw[←hm]]
   exact s1.trans s5)
  have hend:4+1+(Lib.itoa a).length=(ba L).size:=by
   have:=List.drop_eq_nil_iff.1 q1
   have hs2:(ba L).data.toList.length=(ba L).size:=rfl
   omega
  have e2:aH n ((3:Int),([a].getD ((0:Int)).toNat 0),(0:Int),(0:Int),(0:Int),(⟨#[]⟩:ByteArray))=some (ba L,true):=(iw n hn 3 a 0 0 0 (⟨#[]⟩:ByteArray)).trans (congrArg some h)
  rw[e0,tk,e1,Option.bind_some]
  dsimp only
  rw[show aR (0:Int) ([a]:List Int).length=true from rfl]
  simp only[Bool.not_true,cond_false,cond_true]
  rw[e2,Option.bind_some,hend,bne_self_eq_false,cond_false]
  dsimp only
  rw[cZ]
  rfl
 ·have eT:body 4 a 0 0 0 (⟨#[]⟩:ByteArray)=j5++32::(Lib.itoa a++[]):=by
   unfold body
   simp
  rw[eT]at h ⊢
  have hl:(j5++32::(Lib.itoa a++[])).length≤1048576:=by
   simp only[List.length_append,List.length_cons,List.length_nil]
   omega
  generalize hL:j5++32::(Lib.itoa a++[])=L at h hl ⊢
  have hT:(ba L).size≤1048576:=by rw[cA];exact hl
  have hsz:(ba L).size=L.length:=cA L
  have h4:4≤L.length:=by
   rw[←hL]
   simp only[List.length_append,List.length_cons,List.length_nil]
   omega
  have n1:kG n (m+4+1) (ba L) 1=kG n (m+4) (ba L) 2:=by
   by_cases hs:L.length<5
   ·exact vD n _ (.inl (by rw[hsz];exact hs))
   ·exact vD n _ (.inr (uk (s:=5) (by omega) (by
     intro q
     rw[←hL]at q
     simp at q)))
  have n2:kG n (m+3+1) (ba L) 2=kG n (m+3) (ba L) 3:=by
   by_cases hs:L.length<4
   ·exact yM n _ (.inl (by rw[hsz];exact hs))
   ·exact yM n _ (.inr (uk (s:=4) (by omega) (by
     intro q
     rw[←hL]at q
     simp at q)))
  have n3:kG n (m+2+1) (ba L) 3=kG n (m+2) (ba L) 4:=by
   by_cases hs:L.length<4
   ·exact ER n _ (.inl (by rw[hsz];exact hs))
   ·exact ER n _ (.inr (uk (s:=4) (by omega) (by
     intro q
     rw[←hL]at q
     simp at q)))
  have e0:kG n n (ba L) 1=kG n (m+1+1) (ba L) 4:=by
   rw[show kG n n (ba L) 1=kG n (m+4+1) (ba L) 1 from by rw[←hm]]
   exact n1.trans (n2.trans n3)
  have hdr:(ba L).data.toList.drop 4=32::(Lib.itoa a++[]):=by
   rw[iM, ←hL]
   rfl
  have tk:=Mg n (m+1) (T:=ba L) (by rw[hsz];exact h4) (wz (s:=4) h4 (by rw[←hL];rfl))
  obtain⟨s1,q1,z1⟩:=ki n (m+4) (by omega) hT (many:=1) (j:=0) (out:=[]) (by omega) (by omega) rfl a0 a1 hdr (.inl rfl)
  have s5:=sQ n (m+3) (T:=ba L) (many:=1) (p:=((4+1+(Lib.itoa a).length:Nat):Int)) (out:=[a])
  have e1:aF n (ba L,4,1)=some ([a],((4+1+(Lib.itoa a).length:Nat):Int),true):=wC (by
   rw[show ak n n (ba L,(4:Int),(1:Int),[],(0:Int))=ak n (m+4+1) (ba L,(4:Int),(1:Int),[],(0:Int))from by rw[←hm]]
   exact s1.trans s5)
  have hend:4+1+(Lib.itoa a).length=(ba L).size:=by
   have:=List.drop_eq_nil_iff.1 q1
   have hs2:(ba L).data.toList.length=(ba L).size:=rfl
   omega
  have e2:aH n ((4:Int),([a].getD ((0:Int)).toNat 0),(0:Int),(0:Int),(0:Int),(⟨#[]⟩:ByteArray))=some (ba L,true):=(iw n hn 4 a 0 0 0 (⟨#[]⟩:ByteArray)).trans (congrArg some h)
  rw[e0,tk,e1,Option.bind_some]
  dsimp only
  rw[show aR (0:Int) ([a]:List Int).length=true from rfl]
  simp only[Bool.not_true,cond_false,cond_true]
  rw[e2,Option.bind_some,hend,bne_self_eq_false,cond_false]
  dsimp only
  rw[cZ]
  rfl
theorem DS (n:Nat) (hn:3000≤n) (T:ByteArray) (hT:T.size≤1048576):∃v,cr n T=some v∧cj n T=some v:=by
 obtain⟨v,h1,h2⟩:=yV n hn T hT
 obtain⟨w,g1,g2⟩:=Gr n hn T hT
 rcases h2 with rfl|⟨k,a,b,c,d,t,rfl,hl⟩
 ·rcases g2 with rfl|⟨k,a,b,c,d,t,rfl,hl⟩
  ·exact⟨_,h1,g1⟩
  ·rw[xZ n hn hl]at h1
   exact⟨_,xZ n hn hl,g1⟩
 ·exact⟨_,h1,Ki n hn hl⟩
end AM
end Go.Proofs.YtobpcllkonomlabGreatDoor
namespace Go.Proofs.YtobpcllkonomlabGreatDoor
namespace AM
open Go.ChangeShapes Go.WideShapes Go.ChangeAt Go.RowKit
set_option linter.unusedVariables false
theorem own:ownKnob Tryz.prog.godebug=none:=by kernel_rfl
theorem Ft:laidOutB Tryz.prog=true:=by kernel_rfl
theorem I3:"*"++"errors.errorString"="*errors.errorString":=by decide
theorem DW (u:TypeId) (h:Tryz.prog.typeName? 3 u=some "*errors.errorString"):u=304 :=
 typeName_ptr_named (nm:="errors.errorString") (by rw[I3];kernel_rfl) (by kernel_rfl) (by decide) u (by rw[I3];exact h)
abbrev tc:List (String×DataW Unit):=Rows.fnDeedTextRow.laid
theorem sent{W:World}{n:String}{text:List UInt8}{g:Nat}(h:laidMet Tryz.prog [(n, .iface "*errors.errorString" (.ptr (.agg [.lit (.string text)])))] W) (hg:Tryz.prog.globalNamed n=some g) (ht:(Tryz.prog.globals[g]?).map (·.type)=some 147) :
  ∃ev,W.cell? ⟨g,0,none⟩=some ev∧(ev = .nilIface∨∃te pe,ev = .iface te pe):=by
 obtain⟨a,s,hv,_⟩:=laid_sentinel h hg ht Tryz.underlying147 DW Tryz.underlying304 Tryz.underlying306 rfl rfl Tryz.underlying9 (by kernel_rfl) (by kernel_rfl)
 have:=World.var?_cell hg hv 0
 exact⟨_,this, .inr ⟨_,_,rfl⟩⟩
theorem facts{W:World}(h:laidMet Tryz.prog tc W) (hs:W.ShapedOpen Tryz.prog):af W where
 mx:=Go.Proofs.cell_of_shapedOpen_int hs (g:=0) (t:=3) (zero:=#[.int .i64 0]) (by decide) (by kernel_rfl) rfl (by kernel_rfl) (by kernel_rfl) Tryz.underlying3
 tab:=Lib.tabIs_of_head (g:=1) (t:=266) (e:=212) (n:=20) (by kernel_rfl) (by kernel_rfl) (by kernel_rfl) (by kernel_rfl) (by kernel_rfl) (by kernel_rfl)
  (ja h (.tail _ (.tail _ (.head _))))
 es:=sent (ja h (.tail _ (.tail _ (.tail _ (.tail _ (.tail _ (.head _))))))) (by kernel_rfl) (by kernel_rfl)
 er:=sent (ja h (.tail _ (.tail _ (.tail _ (.tail _ (.head _)))))) (by kernel_rfl) (by kernel_rfl)
noncomputable def fq (os:Os):World :=
 let w0:=World.holding Tryz.prog os ⟨#[.cells #[.string ⟨#[118,97,108,117,101,32,111,117,116,32,111,102,32,114,97,110,103,101]⟩] 306, .cells #[.string ⟨#[105,110,118,97,108,105,100,32,115,121,110,116,97,120]⟩] 306], #[],[]⟩
 { w0 with heap:=((((((w0.heap.modify 6 fun
   | .cells _ t frozen => .cells #[.int .u8 0, .int .u8 1, .int .u8 28, .int .u8 2, .int .u8 29, .int .u8 14, .int .u8 24, .int .u8 3, .int .u8 30, .int .u8 22, .int .u8 20, .int .u8 15, .int .u8 25, .int .u8 17, .int .u8 4, .int .u8 8, .int .u8 31, .int .u8 27, .int .u8 13, .int .u8 23, .int .u8 21, .int .u8 19, .int .u8 16, .int .u8 7, .int .u8 26, .int .u8 12, .int .u8 18, .int .u8 6, .int .u8 11, .int .u8 5, .int .u8 10, .int .u8 9] t frozen
   |o=>o).modify 7 fun
   | .cells _ t frozen => .cells #[.int .u8 0, .int .u8 1, .int .u8 56, .int .u8 2, .int .u8 57, .int .u8 49, .int .u8 28, .int .u8 3, .int .u8 61, .int .u8 58, .int .u8 42, .int .u8 50, .int .u8 38, .int .u8 29, .int .u8 17, .int .u8 4, .int .u8 62, .int .u8 47, .int .u8 59, .int .u8 36, .int .u8 45, .int .u8 43, .int .u8 51, .int .u8 22, .int .u8 53, .int .u8 39, .int .u8 33, .int .u8 30, .int .u8 24, .int .u8 18, .int .u8 12, .int .u8 5, .int .u8 63, .int .u8 55, .int .u8 48, .int .u8 27, .int .u8 60, .int .u8 41, .int .u8 37, .int .u8 16, .int .u8 46, .int .u8 35, .int .u8 44, .int .u8 21, .int .u8 52, .int .u8 32, .int .u8 23, .int .u8 11, .int .u8 54, .int .u8 26, .int .u8 40, .int .u8 15, .int .u8 34, .int .u8 20, .int .u8 31, .int .u8 10, .int .u8 25, .int .u8 14, .int .u8 19, .int .u8 9, .int .u8 13, .int .u8 8, .int .u8 7, .int .u8 6] t frozen
   |o=>o).modify 1 fun
   | .cells _ t frozen => .cells #[.int .u64 1, .int .u64 10, .int .u64 100, .int .u64 1000, .int .u64 10000, .int .u64 100000, .int .u64 1000000, .int .u64 10000000, .int .u64 100000000, .int .u64 1000000000, .int .u64 10000000000, .int .u64 100000000000, .int .u64 1000000000000, .int .u64 10000000000000, .int .u64 100000000000000, .int .u64 1000000000000000, .int .u64 10000000000000000, .int .u64 100000000000000000, .int .u64 1000000000000000000, .int .u64 10000000000000000000] t frozen
   |o=>o).modify 3 fun
   | .cells _ t frozen => .cells #[.iface 304 (.pointer (some ⟨13,0,none⟩))] t frozen
   |o=>o).modify 2 fun
   | .cells _ t frozen => .cells #[.iface 304 (.pointer (some ⟨14,0,none⟩))] t frozen
   |o=>o).modify 5 fun
   | .cells _ t frozen => .cells #[.int .u8 128, .int .u8 191, .int .u8 160, .int .u8 191, .int .u8 128, .int .u8 159, .int .u8 144, .int .u8 191, .int .u8 128, .int .u8 143, .int .u8 0, .int .u8 0, .int .u8 0, .int .u8 0, .int .u8 0, .int .u8 0, .int .u8 0, .int .u8 0, .int .u8 0, .int .u8 0, .int .u8 0, .int .u8 0, .int .u8 0, .int .u8 0, .int .u8 0, .int .u8 0, .int .u8 0, .int .u8 0, .int .u8 0, .int .u8 0, .int .u8 0, .int .u8 0] t frozen
   |o=>o).modify 4 fun
   | .cells _ t frozen => .cells (Pinned.utf8FirstZ.map fun(z:Nat)=>Value.int .u8 (z:Int)).toArray t frozen
   |o=>o }
theorem ta (os:Os):(fq os).os=os:=rfl
end AM
end Go.Proofs.YtobpcllkonomlabGreatDoor
namespace Go.Proofs.YtobpcllkonomlabGreatDoor
namespace AM
open Go
set_option linter.unusedVariables false
set_option linter.unusedSimpArgs false
theorem EZ{l:Int}{n:Nat}(h0:0≤l) (h1:l≤(n:Int)):l4 0 l n=true∧l4 l (n:Int) n=true:=⟨decide_eq_true (by omega),decide_eq_true (by omega)⟩
theorem J8{b:List Int}{i:Int}(h:Int){s:ByteArray}(l:List ByteArray) (hl:l≠[]) (hk:∀s∈l,s.size≤4) (hs:s.size≤1000) (hc:Cu b i):∃i' h' r,dx N0 (b,i,h,s,l)=some (b,i',h',r)∧Cu b i'∧r.size≤2004:=by
 unfold dx
 dsimp only
 rw[aw (n:=(s.size:Int)+1) (by omega) (by omega)]
 obtain⟨i1,h1,v1,e1,c1,b1⟩:=ct N0 h ((s.size:Int)+1) hc
 have hv:0≤v1∧v1≤(s.size:Int):=by
  rcases b1 with⟨q,_⟩|q
  ·omega
  ·omega
 rw[e1,Option.bind_some]
 dsimp only
 obtain⟨i2,h2,v2,e2,c2,_⟩:=ct N0 h1 3 c1
 rw[e2,Option.bind_some]
 dsimp only
 obtain⟨r1,r2⟩:=EZ hv.1 hv.2
 have z1:=wO s 0 v1
 cases(v2==0)with
 |true =>
  rw[cond_true,r1,cond_true]
  exact⟨_,_,_,rfl,c2,(show(sub s 0 v1).size≤2004 by omega)⟩
 |false =>
  rw[cond_false]
  obtain⟨i3,h3,v3,e3,c3,q3⟩:=sN N0 h2 l 4 hl hk c2
  cases(v2==1)with
  |true =>
   rw[cond_true]
   unfold jk
   dsimp only
   rw[r1,cond_true,e3,Option.bind_some]
   dsimp only
   rw[bG (by omega),cond_true,aw (n:=v1+1) (by omega) (by omega)]
   obtain⟨u,hu,u0,u1⟩:∃u,eU N0 (v1+1,(s.size:Int))=some u∧0≤u∧u≤(s.size:Int):=by
    unfold eU
    dsimp only
    by_cases q:v1+1<(s.size:Int)
    ·rw[decide_eq_true q,cond_true];exact⟨_,rfl,by omega,by omega⟩
    ·rw[decide_eq_false q,cond_false];exact⟨_,rfl,by omega,by omega⟩
   have z2:=wO s u (s.size:Int)
   rw[hu,Option.bind_some,(EZ u0 u1).2,cond_true,bG (by rw[cI];omega),cond_true,Option.bind_some]
   exact⟨_,_,_,rfl,c3,by rw[cI,cI];omega⟩
  |false =>
   rw[cond_false]
   unfold jj
   dsimp only
   have z2:=wO s v1 (s.size:Int)
   rw[r1,cond_true,e3,Option.bind_some]
   dsimp only
   rw[bG (by omega),cond_true,r2,cond_true,bG (by rw[cI];omega),cond_true,Option.bind_some]
   exact⟨_,_,_,rfl,c3,by rw[cI,cI];omega⟩
theorem GN{k a b c d:Int}{t:ByteArray}:(dO k a b c d t).1.size≤t.size+50:=by
 unfold dO
 by_cases hg:A6 k a b c d t=true
 ·rw[if_pos hg]
  have hb:(body k a b c d t).length≤t.size+50:=by
   unfold A6 at hg
   simp only[Bool.and_eq_true]at hg
   obtain⟨_,_,⟨ha,hb,hc,hd⟩,_⟩:=hg
   have la:=c9 (ia ha).1 (ia ha).2
   have lb:=c9 (ia hb).1 (ia hb).2
   have lc:=c9 (ia hc).1 (ia hc).2
   have ld:=c9 (ia hd).1 (ia hd).2
   have ht:t.data.toList.length=t.size:=rfl
   unfold body
   split
   ·simp only[List.length_append,List.length_cons,List.length_nil];omega
   ·split
    ·simp only[List.length_append,List.length_cons,List.length_nil];omega
    ·split<;>(simp only[List.length_append,List.length_cons,List.length_nil];omega)
  exact hb
 ·rw[if_neg hg]
  show(0:Nat)≤_
  omega
def MY (b:List Int) (s:Option (List Int×Int×Int×ByteArray)):Prop:=∃i h T,s=some (b,i,h,T)∧Cu b i∧T.size≤5000
section
variable{b:List Int}
theorem nG{i:Int}(h:Int){s:ByteArray}(hs:s.size≤1000) (hc:Cu b i):MY b ((bY N0 (b,i,h,(12:Int))).bind fun r3=>(cond r3.2.2.2 ((dx N0 (r3.1,r3.2.1,r3.2.2.1,s,[(⟨#[32]⟩:ByteArray),(⟨#[48]⟩:ByteArray),(⟨#[120]⟩:ByteArray),(⟨#[57]⟩:ByteArray),(⟨#[35]⟩:ByteArray),(⟨#[116,97,107,101]⟩:ByteArray)])).bind fun r4=>(some (r4.1,r4.2.1,r4.2.2.1,r4.2.2.2))) (some (r3.1,r3.2.1,r3.2.2.1,s)))):=by
 obtain⟨i1,h1,v1,e1,c1⟩:=wB N0 h 12 hc
 rw[e1,Option.bind_some]
 dsimp only
 cases v1 with
 |false=>exact⟨_,_,_,rfl,c1,(show s.size≤5000 by omega)⟩
 |true =>
  obtain⟨i2,h2,r,e2,c2,s2⟩:=J8 h1 [(⟨#[32]⟩:ByteArray),(⟨#[48]⟩:ByteArray),(⟨#[120]⟩:ByteArray),(⟨#[57]⟩:ByteArray),(⟨#[35]⟩:ByteArray),(⟨#[116,97,107,101]⟩:ByteArray)] (by simp) (by decide) hs c1
  rw[cond_true,e2]
  exact⟨_,_,_,rfl,c2,(show r.size≤5000 by omega)⟩
theorem C7{k:Nat}{xs:List ab}{kn:List Int}{li:List cQ}{fr:Int}{gv sh:List Int}{lg:List cB}{i:Int}(h:Int) (hc:Cu b i) (hw:FW k xs kn li gv sh lg) (hk:k≤900) (hk1:1≤kn.length):MY b (fc N0 (b,i,h,xs,kn,li,fr,gv,sh,lg)):=by
 obtain⟨i1,h1,v1,e1,c1,b1⟩:=ct N0 h 12 hc
 unfold fc
 dsimp only
 rw[e1,Option.bind_some]
 dsimp only
 have pk:∀(l:List ByteArray),l≠[]→(∀s∈l,s.size≤20)→∃i' h' v,dh N0 (b,i1,h1,l)=some (b,i',h',v)∧Cu b i'∧v.size≤20:=fun l hl hk=>sN N0 h1 l 20 hl hk c1
 cases(v1==(0:Int))with
 |true =>
  rw[cond_true]
  generalize hL:([_,_,_,_,_,_,_,_,_]:List ByteArray)=L
  obtain⟨i2,h2,v2,e2,c2,s2⟩:=pk L (by rw[←hL];simp) (by rw[←hL];decide)
  rw[e2,Option.bind_some]
  exact nG h2 (show v2.size≤1000 by omega) c2
 |false =>
 rw[cond_false]
 cases(v1==(1:Int))with
 |true =>
  rw[cond_true]
  generalize hL:([_,_,_,_,_,_,_,_,_,_]:List ByteArray)=L
  obtain⟨i2,h2,v2,e2,c2,s2⟩:=pk L (by rw[←hL];simp) (by rw[←hL];decide)
  rw[e2,Option.bind_some]
  dsimp only
  rw[bG (by simp only[pT,List.length_cons,List.length_nil];omega),cond_true]
  exact nG h2 (by simp only[cI,pT,List.length_cons,List.length_nil];omega) c2
 |false =>
 rw[cond_false]
 cases(v1==(2:Int))with
 |true =>
  rw[cond_true]
  generalize hL:([_,_,_,_,_,_,_]:List ByteArray)=L
  obtain⟨i2,h2,v2,e2,c2,s2⟩:=pk L (by rw[←hL];simp) (by rw[←hL];decide)
  rw[e2,Option.bind_some]
  dsimp only
  rw[bG (by simp only[pT,List.length_cons,List.length_nil];omega),cond_true]
  exact nG h2 (by simp only[cI,pT,List.length_cons,List.length_nil];omega) c2
 |false =>
 rw[cond_false,wI (fr:=fr) (hw.small (by omega)),Option.bind_some]
 cases jg xs kn li fr gv sh lg with
 |false=>exact nG h1 (by decide) c1
 |true =>
  obtain⟨i2,h2,kd,A,B,C,D,T,e2,c2,s2⟩:=mR (fr:=fr) h1 c1 hw hk1
  have hz:=GN (k:=kd) (a:=A) (b:=B) (c:=C) (d:=D) (t:=T)
  rw[cond_true,e2,Option.bind_some]
  dsimp only
  rw[iw N0 (by have:=n0;omega),Option.bind_some]
  cases(dO kd A B C D T).2 with
  |true=>exact nG h2 (by omega) c2
  |false=>exact nG h2 (by decide) c2
theorem I4{i:Int}(h kd A B C D:Int){T:ByteArray}(hT:T.size≤100) (hc:Cu b i):∃i' h' kd' A' B' C' D' T',it N0 (b,i,h,kd,A,B,C,D,T)=some (b,i',h',kd',A',B',C',D',T')∧Cu b i'∧T'.size≤100:=by
 obtain⟨i1,h1,v1,e1,c1,b1⟩:=ct N0 h 20 hc
 unfold it
 dsimp only
 rw[e1,Option.bind_some]
 dsimp only
 cases(v1==(0:Int))with
 |true =>
  obtain⟨i2,h2,v2,e2,c2,b2⟩:=ct N0 h1 6 c1
  rw[cond_true,e2]
  exact⟨_,_,_,_,_,_,_,_,rfl,c2,hT⟩
 |false =>
 rw[cond_false]
 cases(v1==(1:Int))with
 |true =>
  obtain⟨i2,h2,v2,e2,c2,_⟩:=w8 N0 h1 [(-1:Int),(8:Int),(9223372036854775807:Int),(0:Int)] (by simp) c1
  rw[cond_true,e2]
  exact⟨_,_,_,_,_,_,_,_,rfl,c2,hT⟩
 |false =>
 rw[cond_false]
 cases(v1==(2:Int))with
 |true=>exact⟨_,_,_,_,_,_,_,_,rfl,c1,hT⟩
 |false =>
 rw[cond_false]
 cases(v1==(3:Int))with
 |true =>
  obtain⟨i2,h2,v2,e2,c2,s2⟩:=sN N0 h1 [(⟨#[]⟩:ByteArray),(⟨#[64,48]⟩:ByteArray),(⟨#[40]⟩:ByteArray),(⟨#[110,55]⟩:ByteArray)] 100 (by simp) (by decide) c1
  rw[cond_true,e2]
  exact⟨_,_,_,_,_,_,_,_,rfl,c2,s2⟩
 |false=>exact⟨_,_,_,_,_,_,_,_,rfl,c1,hT⟩
theorem Fq{v:Int}(h0:0≤v) (h1:v<2):IntKind.i64.wrap ((2000:Int)+v)=2000+v∧decide (0≤2000+v∧2000+v≤2000+v∧2000+v≤(4294967296:Int))=true:=⟨aw (by omega) (by omega),decide_eq_true (by omega)⟩
theorem wo (hb:b.length≤4294967296):∃kd A B C D T,eN N0 b=some (kd,A,B,C,D,T):=by
 obtain⟨h0,e0,c0⟩:=JJ hb
 obtain⟨i1,h1,xs,kn,li,fr,gv,sh,lg,ls,e1,c1,w1,k1,_⟩:=xR h0 8 c0 (by omega) (by omega)
 obtain⟨i2,h2,kd,A,B,C,D,T,e2,c2,s2⟩:=mR (fr:=fr) h1 c1 w1 k1
 obtain⟨i3,h3,kd',A',B',C',D',T',e3,c3,s3⟩:=I4 h2 kd A B C D s2 c2
 obtain⟨i4,h4,v4,e4,c4,b4⟩:=ct N0 h3 25 c3
 unfold eN
 rw[e0,Option.bind_some]
 dsimp only
 rw[e1,Option.bind_some]
 dsimp only
 rw[e2,Option.bind_some]
 dsimp only
 rw[e3,Option.bind_some]
 dsimp only
 rw[e4,Option.bind_some]
 dsimp only
 cases(v4==(0:Int))with
 |true =>
  rw[cond_true,bG (by simp only[pT,List.length_cons,List.length_nil];omega),cond_true]
  exact⟨_,_,_,_,_,_,rfl⟩
 |false =>
 rw[cond_false]
 cases(v4==(1:Int))with
 |true =>
  obtain⟨i5,h5,v5,e5,c5,_⟩:=w8 N0 h4 [(999:Int),(1000:Int)] (by simp) c4
  rw[cond_true,e5]
  exact⟨_,_,_,_,_,_,rfl⟩
 |false =>
 rw[cond_false]
 cases(v4==(2:Int))with
 |true =>
  obtain⟨i5,h5,v5,e5,c5,b5⟩:=ct N0 h4 2 c4
  obtain⟨q1,q2⟩:=Fq (v:=v5) (by rcases b5 with⟨q,_⟩|q<;>omega) (by rcases b5 with⟨q,_⟩|q<;>omega)
  rw[cond_true,e5,Option.bind_some]
  dsimp only
  rw[q1,q2,cond_true]
  exact⟨_,_,_,_,_,_,rfl⟩
 |false=>exact⟨_,_,_,_,_,_,rfl⟩
theorem vi (hb:b.length≤4294967296):∃T,cR N0 b=some T∧T.size≤1048576:=by
 obtain⟨h0,e0,c0⟩:=JJ hb
 obtain⟨i1,h1,xs,kn,li,fr,gv,sh,lg,ls,e1,c1,w1,k1,_⟩:=xR h0 6 c0 (by omega) (by omega)
 obtain⟨i2,h2,T,e2,c2,s2⟩:=C7 (fr:=fr) h1 c1 w1 (by omega) k1
 obtain⟨i3,h3,v3,e3,c3⟩:=wB N0 h2 60 c2
 unfold cR
 rw[e0,Option.bind_some]
 dsimp only
 rw[e1,Option.bind_some]
 dsimp only
 rw[e2,Option.bind_some]
 dsimp only
 rw[e3,Option.bind_some]
 dsimp only
 cases v3 with
 |false=>exact⟨T,rfl,by omega⟩
 |true =>
  obtain⟨i4,h4,v4,e4,c4,b4⟩:=ct N0 h3 2 c3
  obtain⟨q1,q2⟩:=Fq (v:=v4) (by rcases b4 with⟨q,_⟩|q<;>omega) (by rcases b4 with⟨q,_⟩|q<;>omega)
  have hv:v4<2:=by rcases b4 with⟨q,_⟩|q<;>omega
  have hz:(gc (List.replicate (2000+v4).toNat (0:Int))).size≤3000:=by rw[og,List.length_replicate];omega
  rw[cond_true,e4,Option.bind_some]
  dsimp only
  rw[q1,q2,cond_true,bG (by simp only[pT,List.length_cons,List.length_nil];omega),cond_true]
  exact⟨_,rfl,by simp only[cI,pT,List.length_cons,List.length_nil];omega⟩
theorem Bj (b:List Int):eI N0 b=some true:=by
 have h3:3000≤N0:=by have:=n0;omega
 unfold eI s9
 rw[Option.bind_some]
 cases hb:decide ((b.length:Int)>1048576)with
 |true=>rfl
 |false =>
  rw[decide_eq_false_iff_not]at hb
  obtain⟨kd,A,B,C,D,T,e1⟩:=wo (b:=b) (by omega)
  obtain⟨L,e2,s2⟩:=vi (b:=b) (by omega)
  obtain⟨v,p1,p2⟩:=DS N0 h3 L s2
  obtain⟨v',p3,p4⟩:=yV N0 h3 L s2
  obtain rfl:v=v':=Option.some.inj (p1.symm.trans p3)
  rw[cond_false,e1,Option.bind_some]
  dsimp only
  -- the second half of the law,whatever the first
  have half:((cR N0 b).bind fun r10=>((cr N0 r10).bind fun r11=>((cj N0 r10).bind fun r12=>(cond (r11.2.2.2.2.2.2 != r12.2.2.2.2.2.2) (some false) ((cY N0 (r11.1,r11.2.1,r11.2.2.1,r11.2.2.2.1,r11.2.2.2.2.1,r11.2.2.2.2.2.1)).bind fun r13=>(cond (!r11.2.2.2.2.2.2) (cond (r11.1==(0:Int)&&(r11.2.1==(0:Int)&&(r11.2.2.1==(0:Int)&&(r11.2.2.2.1==(0:Int)&&(r11.2.2.2.2.1==(0:Int)&&(aC r11.2.2.2.2.2.1 (⟨#[]⟩:ByteArray)&&true)))))) (some true) (cond r11.2.2.2.2.2.2 (cond r13.2 (some (aC r13.1 r10)) (some false)) (some false))) (cond r11.2.2.2.2.2.2 (cond r13.2 (some (aC r13.1 r10)) (some false)) (some false))))))))=some true:=by
   rw[e2,Option.bind_some,p1,Option.bind_some,p2,Option.bind_some,bne_self_eq_false,cond_false,kU N0 h3,Option.bind_some]
   rcases p4 with rfl|⟨k,a,b,c,d,t,rfl,hl⟩
   ·rfl
   ·dsimp only
    rw[hl]
    dsimp only
    rw[cZ]
    rfl
  rw[kU N0 h3,iw N0 h3,Option.bind_some,Option.bind_some,bne_self_eq_false,cond_false]
  cases hg:(dO kd A B C D T).2 with
  |false=>exact half
  |true =>
   have hb:=xZ N0 h3 (T:=(dO kd A B C D T).1) (k:=kd) (a:=A) (b:=B) (c:=C) (d:=D) (t:=T) (Prod.ext rfl hg)
   rw[cond_true,hb,Option.bind_some]
   dsimp only
   simp only[beq_self_eq_true,cZ,Bool.and_self,Bool.not_true,cond_false]
   exact half
end
theorem wq (x:TD (be (au 0 (S6 0).pars))) (hx:KC _ x):eI N0 x=some true:=Bj x
end AM
end Go.Proofs.YtobpcllkonomlabGreatDoor
