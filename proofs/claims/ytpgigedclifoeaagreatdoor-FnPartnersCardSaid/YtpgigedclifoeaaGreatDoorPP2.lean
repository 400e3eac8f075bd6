/- Small laws on whole numbers that wrap, on strings as lists of bytes, and on answers that may be none. No condition. And what follows it: see the remarks. -/
import Derived.Test.YtpgigedclifoeaaGreatDoorPW4
import Derived.Lib.ItoaNum
import Derived.Lib.IndexMore
import Derived.Laws.BitsLemmas
import Derived.Test.YtpgigedclifoeaaGreatDoorPALd
import Derived.Test.YtpgigedclifoeaaGreatDoorPP1
import Derived.Lib.AtoiAllCases
import Derived.Lib.AtoiAll
import Derived.Lib.Split
namespace Go.Proofs.YtpgigedclifoeaaGreatDoor
namespace AM
open Go
set_option linter.unusedSimpArgs false
set_option linter.unusedVariables false
theorem Mo{n:Int}(h1:-9223372036854775808≤n) (h2:n≤9223372036854775807):IntKind.i64.wrap n=n:=by
 rw[IntKind.wrap_i64];omega
theorem lq{a b:ByteArray}(h:a.size+b.size≤4611686018427387904):aP a b=true:=decide_eq_true h
theorem pH (a:ByteArray):gZ a a=true:=decide_eq_true rfl
end AM
end Go.Proofs.YtpgigedclifoeaaGreatDoor
namespace Go.Proofs.YtpgigedclifoeaaGreatDoor
namespace AM
open Go
set_option linter.unusedVariables false
set_option linter.unusedSimpArgs false
abbrev N0:Nat:=1000000000000000000000000000000
theorem am{n:Int}(h1:-9223372036854775808≤n) (h2:n≤9223372036854775807):IntKind.i64.wrap n=n:=by
 rw[IntKind.wrap_i64];omega
theorem kK {α:Type}{l:List α}{i:Nat}(h:i<l.length) (d:α):l.getD i d=l[i]:=by
 rw[List.getD_eq_getElem?_getD,List.getElem?_eq_getElem h];rfl
theorem ax{i n:Nat}(h:i<n):aY (i:Int) n=true:=by
 unfold aY
 exact decide_eq_true ⟨Int.natCast_nonneg _,by omega⟩
theorem aX{i n:Nat}(hi:i<n) (hn:n≤4294967296):IntKind.i64.wrap ((i:Int)+(1:Int))=((i+1:Nat):Int):=by
 rw[am (by omega) (by omega)];omega
theorem pg:∀(t:Ty),t.hasSl=false→∀x:t.den,t.eqv x x=true
 | .int _,_,x=>by simp[Ty.eqv]
 | .bool,_,x=>by simp[Ty.eqv]
 | .str,_,x=>decide_eq_true rfl
 | .sl _,h,_=>by cases h
 | .pr a b,h,x=>by
  have h:(a.hasSl || b.hasSl)=false:=h
  rw[Bool.or_eq_false_iff]at h
  show(a.eqv x.1 x.1&&b.eqv x.2 x.2)=true
  rw[pg a h.1,pg b h.2];rfl
theorem AS{kt:Ty}{k:kt.den}{m:List (kt.den×Int)}{j:Nat}{v:Int}(h:cx kt k m 0=some (j,v)):j<m.length:=by
 obtain⟨_,h2⟩:=nJ h
 exact(List.getElem?_eq_some_iff.1 h2).1
theorem DL {α:Type}{y:Int}{k:α}{c:Int}:∀{m:List (α×Int)}{j:Nat},j<m.length→xB y (m.set j (k,c)) j=m.set j (k,y)
 |[],_,h=>by simp at h
 |p::r,0,_=>rfl
 |p::r,j+1,h=>by
  show p::xB y (r.set j (k,c)) j=p::r.set j (k,y)
  rw[DL (by simpa using h)]
theorem AO {α:Type}{y:Int}{k:α}{c:Int}:∀{m:List (α×Int)},xB y (m++[(k,c)]) m.length=m++[(k,y)]
 |[]=>rfl
 |p::r=>by
  show p::xB y (r++[(k,c)]) r.length=p::(r++[(k,y)])
  rw[AO]
theorem IZ{kt:Ty}{k:kt.den}{c y:Int}{m:List (kt.den×Int)}:I4 (tP kt k m) y (ld kt k c m)=ld kt k y m:=by
 unfold I4 tP ld
 cases h:cx kt k m 0 with
 |some p =>
  obtain⟨j,v⟩:=p
  dsimp only
  rw[Int.toNat_natCast]
  exact DL (AS h)
 |none =>
  dsimp only
  rw[Int.toNat_natCast]
  exact AO
theorem M2{kt:Ty}{k:kt.den}{c:Int}{m:List (kt.den×Int)}:aY (tP kt k m) (ld kt k c m).length=true:=by
 unfold tP ld
 cases h:cx kt k m 0 with
 |some p =>
  obtain⟨j,v⟩:=p
  dsimp only
  rw[List.length_set]
  exact ax (AS h)
 |none =>
  dsimp only
  rw[List.length_append]
  exact ax (by simp)
theorem uP{kt:Ty}{k k':kt.den}{x:Int}(hne:kt.eqv k' k=false):∀{m:List (kt.den×Int)}{i j:Nat}{v:Int},cx kt k m i=some (j,v)→cx kt k' (m.set (j-i) (k,x)) i=cx kt k' m i
 |[],_,_,_,h=>by cases h
 |p::r,i,j,v,h=>by
  unfold cx at h
  cases q:kt.eqv k p.1 with
  |true =>
   rw[q]at h
   obtain⟨rfl,rfl⟩:=Prod.mk.inj (Option.some.inj h)
   rw[Nat.sub_self,List.set_cons_zero]
   have:=wO kt q
   unfold cx
   rw[hne, ←this,hne]
   rfl
  |false =>
   rw[q]at h
   have h:cx kt k r (i+1)=some (j,v):=h
   obtain⟨h1,_⟩:=nJ h
   rw[show j-i=(j-(i+1))+1 by omega,List.set_cons_succ]
   unfold cx
   rw[uP hne h]
theorem tj{kt:Ty}{k k':kt.den}{x:Int}(hne:kt.eqv k' k=false):∀{m:List (kt.den×Int)}{i:Nat},cx kt k' (m++[(k,x)]) i=cx kt k' m i
 |[],i=>by
  show cx kt k' [(k,x)] i=_
  unfold cx
  rw[hne];rfl
 |p::r,i=>by
  show cx kt k' (p::(r++[(k,x)])) i=_
  unfold cx
  rw[tj hne]
theorem uO{kt:Ty}{k k':kt.den}{x:Int}{m:List (kt.den×Int)}(hne:kt.eqv k' k=false):eT kt k' (ld kt k x m)=eT kt k' m:=by
 unfold eT ld
 cases h:cx kt k m 0 with
 |some p =>
  obtain⟨j,v⟩:=p
  have:=uP (x:=x) hne h
  rw[Nat.sub_zero]at this
  simp only[this]
 |none=>simp only[tj hne]
abbrev ab:=Int×(Int×Int)
abbrev kN:Ty := .pr (.int .i64) (.pr (.int .i64) (.int .i64))
theorem eC (n:Nat) (a b c:Int):aI n (a,b,c)=some (decide (a≥b)&&decide (a≤c)):=by
 unfold aI
 cases decide (a≥b)<;>rfl
theorem oB (n:Nat) (a b c:Int):bS n (a,b,c)=some (decide (a≥b)&&decide (a≤c)):=eC n a b c
theorem zt (n:Nat) (x:Int):∃v,dS n x=some v:=by
 unfold dS
 simp only[cond_eq_ite]
 repeat' split
 all_goals exact⟨_,rfl⟩
theorem DE (n:Nat) (x:Int×Int×Int×Int):∃v,bM n x=some v:=by
 unfold bM
 obtain⟨v,hv⟩:=zt n x.1
 rw[hv]
 simp only[Option.bind_some,eC,cond_eq_ite]
 repeat' split
 all_goals exact⟨_,rfl⟩
def gf (n:Nat) (x:Int×Int×Int×Int):Bool:=(bM n x).getD false
theorem wg (n:Nat) (x):bM n x=some (gf n x):=by
 obtain⟨v,hv⟩:=DE n x
 unfold gf
 rw[hv];rfl
theorem Dg (n:Nat) (x):de n x=some (gf n x):=wg n x
def cp (n:Nat) (pre:List ab):List ab→Bool
 |[]=>true
 |k::r=>(!pre.contains k&&gf n (k.1,k.2.1,k.2.2,(pre.length:Int)))&&cp n (pre++[k]) r
theorem Br (n:Nat){pre r:List ab}{k:ab}(hx:(pre++k::r).length≤4294967296):∀(m j:Nat),j≤pre.length→pre.length<m+j →
  ∃q:Nat,bB n m (pre++k::r,k.1,k.2.1,k.2.2,(j:Int))=some (Sum.inl (q:Int))∧q≤pre.length∧(q=pre.length↔k∉pre.drop j)
 |0,j,h1,h2=>by omega
 |m+1,j,h1,h2=>by
  have hlt:j<(pre++k::r).length:=by simp;omega
  have e0:bB n (m+1) (pre++k::r,k.1,k.2.1,k.2.2,(j:Int))=(cond (decide ((j:Int)<((pre++k::r).length:Int))) (cond (aY (j:Int) (pre++k::r).length) (cond (((pre++k::r).getD ((j:Int)).toNat ((0:Int),((0:Int),(0:Int)))).1==k.1&&(((pre++k::r).getD ((j:Int)).toNat ((0:Int),((0:Int),(0:Int)))).2.1==k.2.1&&(((pre++k::r).getD ((j:Int)).toNat ((0:Int),((0:Int),(0:Int)))).2.2==k.2.2&&true))) (some (Sum.inl (j:Int))) (bB n m (pre++k::r,k.1,k.2.1,k.2.2,IntKind.i64.wrap ((j:Int)+(1:Int))))) none) (some (Sum.inr ()))):=rfl
  rw[e0,decide_eq_true (by omega:(j:Int)<((pre++k::r).length:Int)),cond_true,ax hlt,cond_true,Int.toNat_natCast,kK hlt]
  have heq:∀p:ab,(p.1==k.1&&(p.2.1==k.2.1&&(p.2.2==k.2.2&&true)))=decide (p=k):=by
   intro p
   obtain⟨p1,p2,p3⟩:=p
   obtain⟨k1,k2,k3⟩:=k
   rw[Bool.eq_iff_iff]
   simp
  rw[heq]
  rcases Nat.lt_or_ge j pre.length with q|q
  ·have hg:(pre++k::r)[j]=pre[j]:=List.getElem_append_left q
   rw[hg]
   have hd:pre.drop j=pre[j]::pre.drop (j+1):=List.drop_eq_getElem_cons q
   by_cases hk:pre[j]=k
   ·rw[decide_eq_true hk,cond_true]
    exact⟨j,rfl,by omega,by rw[hd,hk];simp;omega⟩
   ·rw[decide_eq_false hk,cond_false,aX hlt hx]
    obtain⟨z,g1,g2,g3⟩:=Br n hx m (j+1) q (by omega)
    refine⟨z,g1,g2,g3.trans ?_⟩
    rw[hd,List.mem_cons]
    constructor
    ·intro h h2
     rcases h2 with h2|h2
     ·exact hk h2.symm
     ·exact h h2
    ·exact fun h h2=>h (.inr h2)
  ·have hj:j=pre.length:=by omega
   subst hj
   rw[show(pre++k::r)[pre.length]=k by simp,decide_eq_true rfl,cond_true]
   exact⟨pre.length,rfl,Nat.le_refl _,by simp⟩
theorem Ni (n:Nat) (hn:4294967296<n){pre r:List ab}{k:ab}(hx:(pre++k::r).length≤4294967296):∃q:Int,cS n (pre++k::r,k.1,k.2.1,k.2.2)=some q∧(q != (pre.length:Int))=pre.contains k:=by
  have hlen : pre.length < n := by have : pre.length ≤ (pre ++ k :: r).length := by simp
                                   omega
  obtain⟨z,g1,g2,g3⟩:=Br n hx n 0 (Nat.zero_le _) (by omega)
  refine⟨(z:Int),?_,?_⟩
  · show((bB n n (pre++k::r,k.1,k.2.1,k.2.2,((0:Nat):Int))).bind _)=_
    rw[g1];rfl
  · rw[List.drop_zero]at g3
    rw[Bool.eq_iff_iff]
    simp only[bne_iff_ne,ne_eq,List.contains_iff_mem]
    constructor
    · intro h
      exact Classical.byContradiction fun h2=>h (by rw[g3.2 h2])
    · intro h h2
      exact(g3.1 (by omega)) h
theorem s5 (n:Nat) (hn:4294967296<n):∀(m:Nat) (pre r:List ab),(pre++r).length≤4294967296→r.length<m→cI n m (pre++r,(pre.length:Int))=some (bif cp n pre r then Sum.inr ()else Sum.inl false)
 |0,pre,r,hx,hm=>by omega
 |m+1,pre,[],hx,hm=>by
  show(cond (decide ((pre.length:Int)<((pre++[]).length:Int))) _ _)=_
  rw[decide_eq_false (by simp),cond_false];rfl
 |m+1,pre,k::r,hx,hm=>by
  have hlt:pre.length<(pre++k::r).length:=by simp
  have e0:cI n (m+1) (pre++k::r,(pre.length:Int))=(cond (decide ((pre.length:Int)<((pre++k::r).length:Int))) (cond (aY (pre.length:Int) (pre++k::r).length) ((de n (((pre++k::r).getD ((pre.length:Int)).toNat ((0:Int),((0:Int),(0:Int)))).1,((pre++k::r).getD ((pre.length:Int)).toNat ((0:Int),((0:Int),(0:Int)))).2.1,((pre++k::r).getD ((pre.length:Int)).toNat ((0:Int),((0:Int),(0:Int)))).2.2,(pre.length:Int))).bind fun r1=>(cond (!r1) (some (Sum.inl false)) (cond (aY (pre.length:Int) (pre++k::r).length) ((cS n (pre++k::r,((pre++k::r).getD ((pre.length:Int)).toNat ((0:Int),((0:Int),(0:Int)))).1,((pre++k::r).getD ((pre.length:Int)).toNat ((0:Int),((0:Int),(0:Int)))).2.1,((pre++k::r).getD ((pre.length:Int)).toNat ((0:Int),((0:Int),(0:Int)))).2.2)).bind fun r2=>(cond (r2 != (pre.length:Int)) (some (Sum.inl false)) (cI n m (pre++k::r,IntKind.i64.wrap ((pre.length:Int)+(1:Int)))))) none))) none) (some (Sum.inr ()))):=rfl
  obtain⟨q,g1,g2⟩:=Ni n hn (pre:=pre) (r:=r) (k:=k) hx
  rw[e0,decide_eq_true (by omega:(pre.length:Int)<((pre++k::r).length:Int)),cond_true,ax hlt,cond_true,Int.toNat_natCast,kK hlt,show(pre++k::r)[pre.length]=k by simp,Dg,g1]
  simp only[Option.bind_some,cond_true]
  rw[g2,aX hlt hx]
  have ih:=s5 n hn m (pre++[k]) r (by simpa using hx) (by simp at hm;omega)
  rw[show pre++[k]++r=pre++k::r by simp,show(pre++[k]).length=pre.length+1 by simp]at ih
  rw[ih]
  rw[show cp n pre (k::r)=((!pre.contains k&&gf n (k.1,k.2.1,k.2.2,(pre.length:Int)))&&cp n (pre++[k]) r)from rfl]
  cases gf n (k.1,k.2.1,k.2.2,(pre.length:Int))<;>cases pre.contains k<;>cases cp n (pre++[k]) r<;>rfl
theorem l9 (n:Nat) (hn:4294967296<n){xs:List ab}(hx:xs.length≤4294967296):fF n xs=some (decide (xs.length≤500)&&cp n [] xs):=by
 unfold fF
 by_cases q:xs.length≤500
 ·rw[decide_eq_false (by omega:¬(xs.length:Int)>(500:Int)),cond_false,decide_eq_true q,Bool.true_and]
  have:=s5 n hn n [] xs (by simpa using hx) (by omega)
  rw[List.nil_append,show(([]:List ab).length:Int)=(0:Int)from rfl]at this
  rw[this]
  cases cp n [] xs<;>rfl
 ·rw[decide_eq_true (by omega:(xs.length:Int)>(500:Int)),cond_true,decide_eq_false q];rfl
def Cnt (kvs:List (ab×Int)) (pre:List ab):Prop:=∀k:ab,eT kN k kvs=if k∈pre then 1 else 0
theorem Tm{a b:ab}:kN.eqv a b=decide (a=b):=by
 rw[Bool.eq_iff_iff,decide_eq_true_iff]
 exact⟨wO kN,fun h=>h▸pg kN rfl a⟩
theorem ID (n:Nat) (kvs:List (ab×Int)) (i a b c:Int) (xs:List ab) (l j:Int):aA n (kvs,i,a,b,c,xs,l,j)=some (ld kN (a,b,c) (IntKind.i64.wrap (eT kN (a,b,c) kvs+(1:Int))) kvs,i,a,b,c,xs,l,j):=by
 unfold aA
 rw[M2,cond_true,IZ]
theorem tu (n:Nat){xs:List ab}(hx:xs.length≤4294967296):∀(m:Nat) (pre r:List ab) (kvs:List (ab×Int)),xs=pre++r→Cnt kvs pre→r.length<m→cL n m (kvs,xs,(xs.length:Int),(pre.length:Int))=some (bif cp n pre r then Sum.inr ()else Sum.inl false)
 |0,pre,r,kvs,he,hc,hm=>by omega
 |m+1,pre,[],kvs,he,hc,hm=>by
  show(cond (decide ((pre.length:Int)<(xs.length:Int))) _ _)=_
  rw[decide_eq_false (by rw[he];simp),cond_false];rfl
 |m+1,pre,k::r,kvs,he,hc,hm=>by
  have hlt:pre.length<xs.length:=by rw[he];simp
  have hk:xs[pre.length]=k:=by simp[he]
  have e0:cL n (m+1) (kvs,xs,(xs.length:Int),(pre.length:Int))=(cond (decide ((pre.length:Int)<(xs.length:Int))) (cond (aY (pre.length:Int) xs.length) ((aA n (kvs,(pre.length:Int),(xs.getD ((pre.length:Int)).toNat ((0:Int),((0:Int),(0:Int)))).1,(xs.getD ((pre.length:Int)).toNat ((0:Int),((0:Int),(0:Int)))).2.1,(xs.getD ((pre.length:Int)).toNat ((0:Int),((0:Int),(0:Int)))).2.2,xs,(xs.length:Int),(pre.length:Int))).bind fun g1=>(cond (decide ((eT kN (g1.2.2.1,(g1.2.2.2.1,g1.2.2.2.2.1)) g1.1)>(1:Int))) (some (Sum.inl false)) ((bM n (g1.2.2.1,g1.2.2.2.1,g1.2.2.2.2.1,g1.2.1)).bind fun r2=>(cond (!r2) (some (Sum.inl false)) (cL n m (g1.1,g1.2.2.2.2.2.1,g1.2.2.2.2.2.2.1,(IntKind.i64.wrap (g1.2.2.2.2.2.2.2+(1:Int))))))))) none) (some (Sum.inr ()))):=rfl
  rw[e0,decide_eq_true (by omega:(pre.length:Int)<(xs.length:Int)),cond_true,ax hlt,cond_true,Int.toNat_natCast,kK hlt,hk,ID]
  simp only[Option.bind_some]
  have hself:kN.eqv (k.1,k.2.1,k.2.2) (k.1,k.2.1,k.2.2)=true:=pg kN rfl _
  have hke:((k.1,k.2.1,k.2.2):ab)=k:=rfl
  rw[sy hself,wg,aX hlt hx]
  rw[show cp n pre (k::r)=((!pre.contains k&&gf n (k.1,k.2.1,k.2.2,(pre.length:Int)))&&cp n (pre++[k]) r)from rfl]
  have hck:=hc k
  by_cases hin:k∈pre
  ·rw[if_pos hin]at hck
   have:pre.contains k=true:=by simpa using hin
   rw[this,show eT kN (k.1,k.2.1,k.2.2) kvs=1 from hck]
   rfl
  ·rw[if_neg hin]at hck
   have hcf:pre.contains k=false:=by simpa using hin
   rw[hcf,show eT kN (k.1,k.2.1,k.2.2) kvs=0 from hck]
   rw[show decide (IntKind.i64.wrap ((0:Int)+(1:Int))>(1:Int))=false from rfl,cond_false]
   have ih:=tu n hx m (pre++[k]) r (ld kN k (IntKind.i64.wrap ((0:Int)+(1:Int))) kvs) (by simpa using he) (by
    intro k'
    by_cases q:k'=k
    ·subst q
     rw[sy (pg kN rfl k')]
     simp;rfl
    ·rw[uO (by rw[Tm];exact decide_eq_false q),hc k']
     simp[q]) (by simp at hm;omega)
   rw[show(pre++[k]).length=pre.length+1 by simp]at ih
   simp only[Option.bind_some]
   rw[show ld kN (k.1,k.2.1,k.2.2) (IntKind.i64.wrap ((0:Int)+(1:Int))) kvs=ld kN k (IntKind.i64.wrap ((0:Int)+(1:Int))) kvs from rfl,ih]
   cases gf n (k.1,k.2.1,k.2.2,(pre.length:Int))<;>cases cp n (pre++[k]) r<;>rfl
theorem rQ (n:Nat) (hn:4294967296<n){xs:List ab}(hx:xs.length≤4294967296):eQ n xs=some (decide (xs.length≤500)&&cp n [] xs):=by
 unfold eQ
 by_cases q:xs.length≤500
 ·rw[decide_eq_false (by omega:¬(xs.length:Int)>(500:Int)),cond_false,decide_eq_true q,Bool.true_and]
  have:=tu n hx n [] xs [] rfl (fun k=>by simp[eT,cx]) (by omega)
  rw[show(([]:List ab).length:Int)=(0:Int)from rfl]at this
  rw[this]
  cases cp n [] xs<;>rfl
 ·rw[decide_eq_true (by omega:(xs.length:Int)>(500:Int)),cond_true,decide_eq_false q];rfl
def ci (xs:List ab) (v:Int):Bool:=decide (v≥0)&&decide (v≤(xs.length:Int)-1)
theorem wB (n:Nat){xs:List ab}(hx:xs.length≤4294967296) (v:Int):eW n (xs,v)=some (ci xs v):=by
 show((bS n (v,(0:Int),IntKind.i64.wrap ((xs.length:Int)-(1:Int)))).bind fun r1=>some r1)=_
 rw[am (by omega) (by omega),oB];rfl
theorem lF (n:Nat){xs:List ab}(hx:xs.length≤4294967296) (v:Int):cQ n (xs,v)=some (xs,ci xs v):=by
 show((aI n (v,(0:Int),IntKind.i64.wrap ((xs.length:Int)-(1:Int)))).bind fun r1=>some (xs,r1))=_
 rw[am (by omega) (by omega),eC];rfl
def eE (xs:List ab):List Int→Bool
 |[]=>true
 |v::r=>(v == -1 || ci xs v)&&eE xs r
theorem u6 (n:Nat){xs:List ab}(hx:xs.length≤4294967296){env:List Int}(he:env.length≤4294967296):∀(m:Nat) (pre r:List Int),env=pre++r→r.length<m →
  ch n m (env,xs,env,(env.length:Int),(pre.length:Int))=some (bif eE xs r then Sum.inr (env,xs)else Sum.inl false)
 |0,pre,r,h,hm=>by omega
 |m+1,pre,[],h,hm=>by
  show(cond (decide ((pre.length:Int)<(env.length:Int))) _ _)=_
  rw[decide_eq_false (by rw[h];simp),cond_false];rfl
 |m+1,pre,v::r,h,hm=>by
  have hlt:pre.length<env.length:=by rw[h];simp
  have hk:env[pre.length]=v:=by simp[h]
  have e0:ch n (m+1) (env,xs,env,(env.length:Int),(pre.length:Int))=(cond (decide ((pre.length:Int)<(env.length:Int))) (cond (aY (pre.length:Int) env.length) (cond ((env.getD ((pre.length:Int)).toNat (0:Int)) != (-1:Int)) ((cQ n (xs,(env.getD ((pre.length:Int)).toNat (0:Int)))).bind fun r1=>(cond (!r1.2) (some (Sum.inl false)) (ch n m (env,r1.1,env,(env.length:Int),(IntKind.i64.wrap ((pre.length:Int)+(1:Int))))))) (ch n m (env,xs,env,(env.length:Int),(IntKind.i64.wrap ((pre.length:Int)+(1:Int)))))) none) (some (Sum.inr (env,xs)))):=rfl
  rw[e0,decide_eq_true (by omega:(pre.length:Int)<(env.length:Int)),cond_true,ax hlt,cond_true,Int.toNat_natCast,kK hlt,hk,aX hlt he,lF n hx]
  have ih:=u6 n hx he m (pre++[v]) r (by simpa using h) (by simp at hm;omega)
  rw[show(pre++[v]).length=pre.length+1 by simp]at ih
  simp only[Option.bind_some,ih]
  rw[show eE xs (v::r)=((v == -1 || ci xs v)&&eE xs r)from rfl,show(v != -1) = !(v == -1)from rfl]
  cases v == -1<;>cases ci xs v<;>cases eE xs r<;>rfl
theorem ql (n:Nat) (hn:4294967296<n){xs:List ab}(hx:xs.length≤4294967296){env:List Int}(he:env.length≤4294967296) :
  lI n (xs,env)=some (eE xs env&&(decide (env.length=26)&&(decide (xs.length≤500)&&cp n [] xs))):=by
 have:=u6 n hx he n [] env rfl (by omega)
 rw[show(([]:List Int).length:Int)=(0:Int)from rfl]at this
 show((ch n n (env,xs,env,(env.length:Int),(0:Int))).bind _)=_
 rw[this]
 cases eE xs env with
 |false=>rfl
 |true =>
  show(cond ((env.length:Int)==(26:Int)) ((eQ n xs).bind fun r5=>some r5) (some false))=_
  rw[rQ n hn hx]
  by_cases q:env.length=26
  ·rw[show((env.length:Int)==(26:Int))=true by rw[q];rfl,decide_eq_true q];rfl
  ·rw[show((env.length:Int)==(26:Int))=false by simp;omega,decide_eq_false q];rfl
theorem uD (n:Nat){xs:List ab}(hx:xs.length≤4294967296){env:List Int}(he:env.length=26):∀(m:Nat) (pre r:List Int),env=pre++r→r.length<m →
  bK n m (env,xs,(pre.length:Int))=some (bif eE xs r then Sum.inr ()else Sum.inl false)
 |0,pre,r,h,hm=>by omega
 |m+1,pre,[],h,hm=>by
  show(cond (decide ((pre.length:Int)<(26:Int))) _ _)=_
  have:pre.length=26:=by rw[h]at he;simpa using he
  rw[decide_eq_false (by omega),cond_false];rfl
 |m+1,pre,v::r,h,hm=>by
  have hlt:pre.length<env.length:=by rw[h];simp
  have hk:env[pre.length]=v:=by simp[h]
  have e0:bK n (m+1) (env,xs,(pre.length:Int))=(cond (decide ((pre.length:Int)<(26:Int))) (cond (aY (pre.length:Int) env.length) (cond ((env.getD ((pre.length:Int)).toNat (0:Int)) != (-1:Int)) (cond (aY (pre.length:Int) env.length) ((eW n (xs,(env.getD ((pre.length:Int)).toNat (0:Int)))).bind fun r1=>(cond (!r1) (some (Sum.inl false)) (bK n m (env,xs,(IntKind.i64.wrap ((pre.length:Int)+(1:Int))))))) none) (bK n m (env,xs,(IntKind.i64.wrap ((pre.length:Int)+(1:Int)))))) none) (some (Sum.inr ()))):=rfl
  rw[e0,decide_eq_true (by omega:(pre.length:Int)<(26:Int)),cond_true,ax hlt,cond_true,cond_true,Int.toNat_natCast,kK hlt,hk,aX hlt (by omega),wB n hx]
  have ih:=uD n hx he m (pre++[v]) r (by simpa using h) (by simp at hm;omega)
  rw[show(pre++[v]).length=pre.length+1 by simp]at ih
  simp only[Option.bind_some,ih]
  rw[show eE xs (v::r)=((v == -1 || ci xs v)&&eE xs r)from rfl,show(v != -1) = !(v == -1)from rfl]
  cases v == -1<;>cases ci xs v<;>cases eE xs r<;>rfl
theorem EJ (n:Nat) (hn:4294967296<n){xs:List ab}(hx:xs.length≤4294967296){env:List Int}:ov n (xs,env)=some (decide (env.length=26)&&eE xs env):=by
 show(cond ((env.length:Int) != (26:Int)) (some false) ((bK n n (env,xs,(0:Int))).bind _))=_
 by_cases q:env.length=26
 ·have:=uD n hx q n [] env rfl (by omega)
  rw[show(([]:List Int).length:Int)=(0:Int)from rfl]at this
  rw[show((env.length:Int) != (26:Int))=false by rw[q];rfl,cond_false,this,decide_eq_true q]
  cases eE xs env<;>rfl
 ·rw[show((env.length:Int) != (26:Int))=true by simp;omega,decide_eq_false q];rfl
theorem MD{w p:Int}{L:Nat}(h1:(eN N0 (w,p)).map (fun r=>(r.1.length,r.2))=some (L,true)) (h2:(cO N0 (w,p)).map List.length=some L) (h3:di N0 (w,p)=some true) (h4:L≤20) :
  ∃a b,eN N0 (w,p)=some (a,true)∧cO N0 (w,p)=some b∧a.length=b.length∧a.length≤20∧di N0 (w,p)=some true:=by
 cases e1:eN N0 (w,p)with
 |none=>rw[e1]at h1;cases h1
 |some r =>
  cases e2:cO N0 (w,p)with
  |none=>rw[e2]at h2;cases h2
  |some b =>
   rw[e1]at h1
   rw[e2]at h2
   obtain⟨g1,g2⟩:=Prod.mk.inj (Option.some.inj h1)
   have g3:b.length=L:=Option.some.inj h2
   obtain⟨a,t⟩:=r
   have g2:t=true:=g2
   subst g2
   exact⟨a,b,rfl,rfl,by rw[g3];exact g1,by have:a.length=L:=g1;omega,h3⟩
theorem ME (w p:Int) (hw:w=1∨w=2∨w=3) (hp:p=0∨p=1):∃a b,eN N0 (w,p)=some (a,true)∧cO N0 (w,p)=some b∧a.length=b.length∧a.length≤20∧di N0 (w,p)=some true:=by
 rcases hw with rfl|rfl|rfl<;>rcases hp with rfl|rfl
 all_goals exact MD (L:=5) (by kernel_rfl) (by kernel_rfl) (by kernel_rfl) (by omega)
theorem De (w p:Int) (h:¬((w=1∨w=2∨w=3)∧(p=0∨p=1))):eN N0 (w,p)=some ([],false)∧di N0 (w,p)=some false:=by
 constructor
 ·have e1:gR N0 (w,p)=some (⟨#[]⟩:ByteArray):=by
   unfold gR
   simp only[eC,Option.bind_some]
   by_cases h1:decide (w≥1)&&decide (w≤3)
   ·rw[h1]
    have h2:(decide (p≥0)&&decide (p≤1))=false:=by
     rw[Bool.eq_false_iff]
     intro h2
     simp at h1 h2
     omega
    rw[h2];rfl
   ·rw[Bool.not_eq_true]at h1
    rw[h1];rfl
  show((gR N0 (w,p)).bind _)=_
  rw[e1]
  show((iC N0 (⟨#[]⟩:ByteArray)).bind fun r2=>some (r2.1,r2.2))=_
  rw[show iC N0 (⟨#[]⟩:ByteArray)=some ([],false)by kernel_rfl];rfl
 ·have e1:eL N0 (w,p)=some (⟨#[]⟩:ByteArray):=by
   unfold eL
   have q:∀a b:Int,(w==a)=decide (w=a):=fun a b=>rfl
   by_cases w1:w=1
   ·subst w1
    have p0:(p==0)=false:=by simp;omega
    have p1:(p==1)=false:=by simp;omega
    simp only[p0,p1];rfl
   ·by_cases w2:w=2
    ·subst w2
     have p0:(p==0)=false:=by simp;omega
     have p1:(p==1)=false:=by simp;omega
     simp only[p0,p1];rfl
    ·by_cases w3:w=3
     ·subst w3
      have p0:(p==0)=false:=by simp;omega
      have p1:(p==1)=false:=by simp;omega
      simp only[p0,p1];rfl
     ·have e1:(w==1)=false:=by simpa using w1
      have e2:(w==2)=false:=by simpa using w2
      have e3:(w==3)=false:=by simpa using w3
      simp only[e1,e2,e3];rfl
  show((eL N0 (w,p)).bind fun r1=>some (!gZ r1 (⟨#[]⟩:ByteArray)))=_
  rw[e1]
  show some (!gZ (⟨#[]⟩:ByteArray) (⟨#[]⟩:ByteArray))=_
  rw[show gZ (⟨#[]⟩:ByteArray) (⟨#[]⟩:ByteArray)=true from decide_eq_true rfl];rfl
theorem se (n:Nat) (x:Int):iV n x=some (decide (x≥0)&&decide (x≤4)):=by
 show((aI n (x,(0:Int),(4:Int))).bind fun r=>some r)=_
 rw[eC];rfl
theorem JP (n:Nat) (x:Int):br n x=some (decide (x≥0)&&decide (x≤4)):=se n x
theorem n0:4294967296<N0:=by decide
def GB (n:Nat) (x:List ab×Int×Int×Int×Int×Int×List Int×Bool×Bool×Int):Option Bool:=(fF n x.1).bind fun r1=>(cond r1 ((gC n (x.1,x.2.1,x.2.2.1,x.2.2.2.1,x.2.2.2.2.1,x.2.2.2.2.2.1,x.2.2.2.2.2.2.1,x.2.2.2.2.2.2.2.1,x.2.2.2.2.2.2.2.2.1,x.2.2.2.2.2.2.2.2.2)).bind fun r2=>(some r2)) (some false))
theorem Fu{xs:List ab}(hx:xs.length≤4294967296){w p a b at_:Int}{env:List Int}(he:env.length≤4294967296){dn dd:Bool}{key:Int} :
  ∃v,fH N0 (xs,w,p,a,b,at_,env,dn,dd,key)=some v∧GB N0 (xs,w,p,a,b,at_,env,dn,dd,key)=some v:=by
 unfold fH GB gC
 simp only[l9 N0 n0 hx,ql N0 n0 hx he,EJ N0 n0 hx,se,JP,Option.bind_some]
 by_cases hr:(w=1∨w=2∨w=3)∧(p=0∨p=1)
 ·obtain⟨ra,rb,r1,r2,r3,r4,r5⟩:=ME w p hr.1 hr.2
  rw[r1,r2,r5]
  simp only[Option.bind_some,eC,oB,lF N0 hx,wB N0 hx, ←r3,am (show -9223372036854775808≤(ra.length:Int)-1 by omega) (show(ra.length:Int)-1≤9223372036854775807 by omega)]
  generalize (decide (a≥0)&&decide (a≤4))=A
  generalize (decide (b≥0)&&decide (b≤4))=B
  generalize (a==b)=C
  generalize eE xs env=D
  generalize decide (env.length=26)=F
  generalize (decide (xs.length≤500)&&cp N0 [] xs)=G
  generalize ci xs key=H
  generalize (key == -1)=K
  have hq:(at_==(ra.length:Int))=true→(decide (at_≥0)&&decide (at_≤(ra.length:Int)))=true:=by
   intro h
   have:at_=(ra.length:Int):=by simpa using h
   simp;omega
  have hq2:(at_==(ra.length:Int))=false→(decide (at_≥0)&&decide (at_≤(ra.length:Int)-1))=(decide (at_≥0)&&decide (at_≤(ra.length:Int))):=by
   intro h
   have:at_≠(ra.length:Int):=by simpa using h
   congr 1
   rw[Bool.eq_iff_iff];simp;omega
  have hq3:(at_==(ra.length:Int))=true→(decide (at_≥0)&&decide (at_≤(ra.length:Int)-1))=false:=by
   intro h
   have:at_=(ra.length:Int):=by simpa using h
   rw[Bool.and_eq_false_iff];right;simp;omega
  revert hq hq2 hq3
  generalize (at_==(ra.length:Int))=M
  generalize (decide (at_≥0)&&decide (at_≤(ra.length:Int)))=R
  generalize (decide (at_≥0)&&decide (at_≤(ra.length:Int)-1))=R2
  intro hq hq2 hq3
  cases M
  ·have:=hq2 rfl
   subst this
   refine⟨A&&(B&&(!C&&(D&&(F&&(G&&(R2&&(!dn&&K))))))),?_,?_⟩<;>clear hq hq2 hq3<;>revert A B C D F G H K R2 dn dd<;>decide
  ·have h1:=hq rfl
   have h2:=hq3 rfl
   subst h1;subst h2
   refine⟨A&&(B&&(!C&&(D&&(F&&(G&&(dn&&(!dd&&H))))))),?_,?_⟩<;>clear hq hq2 hq3<;>revert A B C D F G H K dn dd<;>decide
 ·obtain⟨r1,r2⟩:=De w p hr
  rw[r1,r2]
  refine⟨false,rfl,?_⟩
  cases(decide (xs.length≤500)&&cp N0 [] xs)<;>rfl
def cy (g:Nat→Bool):Nat→Nat→Bool
 |_,0=>true
 |i,k+1=>g i&&cy g (i+1) k
theorem ee{g:Nat→Bool}:∀{k i:Nat},cy g i k=true↔∀j,i≤j→j<i+k→g j=true
 |0,i=>⟨fun _ j h1 h2=>by omega,fun _=>rfl⟩
 |k+1,i=>by
  show(g i&&cy g (i+1) k)=true↔_
  rw[Bool.and_eq_true,ee]
  constructor
  ·rintro ⟨h1,h2⟩ j g1 g2
   rcases Nat.eq_or_lt_of_le g1 with q|q
   ·subst q;exact h1
   ·exact h2 j q (by omega)
  ·exact fun h=>⟨h i (Nat.le_refl _) (by omega),fun j g1 g2=>h j (by omega) (by omega)⟩
theorem sx {α:Type} [DecidableEq α]:∀{l m:List α},l.Nodup→(∀x∈l,x∈m)→l.length≤m.length
 |[],m,_,_=>Nat.zero_le _
 |a::l,m,hn,hs=>by
  have ha:=hs a (List.mem_cons_self ..)
  have hn':=List.nodup_cons.1 hn
  have:=sx (l:=l) (m:=m.erase a) hn'.2 (fun x hx=>(List.mem_erase_of_ne (fun(e:x=a)=>hn'.1 (e▸hx))).2 (hs x (List.mem_cons_of_mem _ hx)))
  rw[List.length_erase_of_mem ha]at this
  have:0<m.length:=List.length_pos_of_mem ha
  simp;omega
theorem Fk {α:Type} [DecidableEq α]{l m:List α}(hl:l.Nodup) (hm:m.Nodup) (hs:∀x∈l,x∈m):(∀x∈m,x∈l)↔l.length=m.length:=by
 constructor
 ·exact fun h=>Nat.le_antisymm (sx hl hs) (sx hm h)
 ·intro h x hx
  exact Classical.byContradiction fun hn=>by
   have:=sx (l:=x::l) (m:=m) (List.nodup_cons.2 ⟨hn,hl⟩) (fun y hy=>by
    rcases List.mem_cons.1 hy with q|q
    ·exact q▸hx
    ·exact hs y q)
   simp at this;omega
def places (d:Nat→Bool) (n:Nat):List Nat:=(List.range n).filter d
theorem B0 (d:Nat→Bool) (n:Nat):(places d n).Nodup:=List.nodup_range.filter _
theorem tQ{d:Nat→Bool}{n i:Nat}:i∈places d n↔i<n∧d i=true:=by
 unfold places
 rw[List.mem_filter,List.mem_range]
theorem Do (d:Nat→Bool) (n:Nat):(places d (n+1)).length=(places d n).length+(bif d n then 1 else 0):=by
 unfold places
 rw[List.range_succ,List.filter_append,List.length_append]
 cases h:d n<;>simp[h]
theorem Lj (done:Nat→Bool) (n:Nat) (L:List Int) (hnd:L.Nodup) (hin:∀k∈L, ∃i:Nat,k=(i:Int)∧i<n∧done i=true):(∀i:Nat,i<n→done i=true→(i:Int)∈L)↔L.length=(places done n).length:=by
 have hm:((places done n).map Int.ofNat).Nodup:=List.pairwise_map.2 ((B0 done n).imp fun hne e=>hne (Int.ofNat.inj e))
 have:=Fk hnd hm (fun k hk=>by
  obtain⟨i,rfl,h1,h2⟩:=hin k hk
  exact List.mem_map.2 ⟨i,tQ.2 ⟨h1,h2⟩,rfl⟩)
 rw[List.length_map]at this
 rw[←this]
 constructor
 ·intro h x hx
  obtain⟨i,hi,rfl⟩:=List.mem_map.1 hx
  have:=tQ.1 hi
  exact h i this.1 this.2
 ·intro h i h1 h2
  exact h _ (List.mem_map.2 ⟨i,tQ.2 ⟨h1,h2⟩,rfl⟩)
theorem Fj{L:List Int}:L.Nodup↔∀i,i<L.length→∀j,j<i→L.getD j 0≠L.getD i 0:=by
 rw[List.Nodup,List.pairwise_iff_getElem]
 constructor
 ·intro h i hi j hj
  rw[kK hi,kK (by omega)]
  exact h j i (by omega) hi hj
 ·intro h i j hi hj hij
  have:=h j hj i hij
  rw[kK hi,kK hj]at this
  exact this
abbrev bx:=Int×(Int×(Int×(Int×(Int×((List Int)×(Bool×(Bool×Int)))))))
abbrev bu:=Int×(Bool×Bool)
abbrev zI:bx:=((0:Int),((0:Int),((0:Int),((0:Int),((0:Int),([],(false,(false,(0:Int)))))))))
abbrev zC:bu:=((0:Int),(false,false))
theorem eg{X A B:Type}(L:Nat→X→Option (A⊕B)) (st:Nat→X) (g:Nat→Bool) (bad:A) (fin:B) (len:Nat)
  (step:∀m i,i<len→L (m+1) (st i)=bif g i then L m (st (i+1))else some (.inl bad)) (stop:∀m,L (m+1) (st len)=some (.inr fin)) :
  ∀m i,i≤len→len<m+i→L m (st i)=some (bif cy g i (len-i)then .inr fin else .inl bad)
 |0,i,h1,h2=>by omega
 |m+1,i,h1,h2=>by
  rcases Nat.eq_or_lt_of_le h1 with q|q
  ·subst q
   rw[stop,Nat.sub_self];rfl
  ·rw[step m i q,show len-i=(len-(i+1))+1 by omega]
   show(bif g i then _ else _)=some (bif g i&&cy g (i+1) (len-(i+1))then _ else _)
   cases g i with
   |false=>rfl
   |true=>exact eg L st g bad fin len step stop m (i+1) q (by omega)
theorem so{i:Nat}(h:0<i) (hi:i≤4294967296):IntKind.i64.wrap ((i:Int)-(1:Int))=((i-1:Nat):Int):=by
 rw[am (by omega) (by omega)];omega
theorem Lf (i n:Nat):decide ((i:Int)<(n:Int))=decide (i<n):=by
 rw[Bool.eq_iff_iff];simp
theorem oL{i n:Nat}(h:i<n):decide ((i:Int)<(n:Int))=true:=decide_eq_true (by omega)
theorem tR (n:Nat):decide ((n:Int)<(n:Int))=false:=decide_eq_false (by omega)
def fc (l:List Int) (j:Nat):Bool:=decide (j=0) || decide (l.getD (j-1) 0<l.getD j 0)
def iB (xs:List ab) (k:List Int) (j:Nat):Bool:=ci xs (k.getD j 0)&&fc k j
theorem Lw{i:Nat}(h:0<i):decide ((i:Int)>(0:Int))=true:=decide_eq_true (by omega)
theorem A3 (a b:Int):decide (a≤b) = !decide (b<a):=by
 rw[Bool.eq_iff_iff];simp
theorem Bl (a b:Int):decide (a≥b) = !decide (a<b):=by
 rw[Bool.eq_iff_iff];simp
theorem Ae{xs:List ab}(hx:xs.length≤4294967296){k:List Int}(hk:k.length≤4294967296) (m i:Nat) (hi:i<k.length) :
  bn N0 (m+1) (k,xs,k,(k.length:Int),(i:Int))=bif iB xs k i then bn N0 m (k,xs,k,(k.length:Int),((i+1:Nat):Int))else some (.inl false):=by
 rw[bn]
 dsimp only
 rw[oL hi,cond_true,ax hi,cond_true,lF N0 hx]
 simp only[Option.bind_some,Int.toNat_natCast,aX hi hk]
 unfold iB fc
 cases ci xs (k.getD i 0)with
 |false=>rfl
 |true =>
  rcases Nat.eq_zero_or_pos i with q|q
  ·subst q;rfl
  ·rw[Lw q,cond_true,so q (by omega),ax (by omega),cond_true,Int.toNat_natCast,A3,decide_eq_false (by omega:¬i=0)]
   cases decide (k.getD (i-1) 0<k.getD i 0)<;>rfl
theorem D3{xs:List ab}(hx:xs.length≤4294967296){k:List Int}(hk:k.length≤4294967296) :
  oC N0 (xs,k)=some (cy (iB xs k) 0 k.length&&(decide (k.length≤200)&&(decide (xs.length≤500)&&cp N0 [] xs))):=by
 have:=eg (bn N0) (fun i=>(k,xs,k,(k.length:Int),(i:Int))) (iB xs k) false (k,xs) k.length (Ae hx hk) (fun m=>by
  rw[bn];dsimp only;rw[tR];rfl) N0 0 (Nat.zero_le _) (by have:=n0;omega)
 rw[Nat.sub_zero]at this
 show((bn N0 N0 (k,xs,k,(k.length:Int),(0:Int))).bind _)=_
 rw[show bn N0 N0 (k,xs,k,(k.length:Int),(0:Int))=_ from this]
 cases cy (iB xs k) 0 k.length with
 |false=>rfl
 |true =>
  show(cond (decide ((k.length:Int)≤(200:Int))) ((eQ N0 xs).bind fun r5=>some r5) (some false))=_
  rw[rQ N0 n0 hx]
  by_cases q:k.length≤200
  ·rw[decide_eq_true (by omega:(k.length:Int)≤(200:Int)),decide_eq_true q];rfl
  ·rw[decide_eq_false (by omega:¬(k.length:Int)≤(200:Int)),decide_eq_false q];rfl
theorem zV{xs:List ab}(hx:xs.length≤4294967296){k:List Int}(hk:k.length≤4294967296) (m i:Nat) (hi:i<k.length) :
  bk N0 (m+1) (k,xs,(i:Int))=bif iB xs k i then bk N0 m (k,xs,((i+1:Nat):Int))else some (.inl false):=by
 rw[bk]
 dsimp only
 rw[oL hi,cond_true,ax hi,cond_true,wB N0 hx]
 simp only[Option.bind_some,Int.toNat_natCast,aX hi hk]
 unfold iB fc
 cases ci xs (k.getD i 0)with
 |false=>rfl
 |true =>
  rcases Nat.eq_zero_or_pos i with q|q
  ·subst q;rfl
  ·rw[Lw q,cond_true,so q (by omega),ax (by omega),cond_true,Int.toNat_natCast,Bl,decide_eq_false (by omega:¬i=0)]
   cases decide (k.getD (i-1) 0<k.getD i 0)<;>rfl
theorem xr{xs:List ab}(hx:xs.length≤4294967296){k:List Int}(hk:k.length≤4294967296) :
  j7 N0 (xs,k)=some (cy (iB xs k) 0 k.length&&(decide (k.length≤200)&&(decide (xs.length≤500)&&cp N0 [] xs))):=by
 have:=eg (bk N0) (fun i=>(k,xs,(i:Int))) (iB xs k) false () k.length (zV hx hk) (fun m=>by
  rw[bk];dsimp only;rw[tR];rfl) N0 0 (Nat.zero_le _) (by have:=n0;omega)
 rw[Nat.sub_zero]at this
 have e:l5 N0 (xs,k)=some (decide (k.length≤200)&&cy (iB xs k) 0 k.length):=by
  show(cond (decide ((k.length:Int)>(200:Int))) (some false) ((bk N0 N0 (k,xs,(0:Int))).bind _))=_
  rw[show bk N0 N0 (k,xs,(0:Int))=_ from this]
  by_cases q:k.length≤200
  ·rw[decide_eq_false (by omega:¬(k.length:Int)>(200:Int)),decide_eq_true q]
   cases cy (iB xs k) 0 k.length<;>rfl
  ·rw[decide_eq_true (by omega:(k.length:Int)>(200:Int)),decide_eq_false q];rfl
 show((fF N0 xs).bind fun r1=>(cond r1 ((l5 N0 (xs,k)).bind fun r2=>(some r2)) (some false)))=_
 rw[l9 N0 n0 hx,e]
 generalize (decide (xs.length≤500)&&cp N0 [] xs)=P
 generalize cy (iB xs k) 0 k.length=Q
 generalize decide (k.length≤200)=R
 cases P<;>cases Q<;>cases R<;>rfl
theorem LK{k:List Int}(hk:k.length≤4294967296) (m i:Nat) (h0:0<i) (hi:i<k.length) :
  ay N0 (m+1) (k,(i:Int))=bif fc k i then ay N0 m (k,((i+1:Nat):Int))else some (.inl false):=by
 rw[ay]
 dsimp only
 rw[oL hi,cond_true,ax hi,cond_true,so h0 (by omega),ax (by omega),cond_true,Int.toNat_natCast,Int.toNat_natCast,aX hi hk,A3]
 unfold fc
 rw[decide_eq_false (by omega:¬i=0)]
 cases decide (k.getD (i-1) 0<k.getD i 0)<;>rfl
theorem zg{k:List Int}(hk:k.length≤4294967296):gn N0 k=some (cy (fc k) 0 k.length):=by
 have h0:∀m,ay N0 (m+1) (k,(k.length:Int))=some (.inr ()):=fun m=>by
  rw[ay];dsimp only;rw[tR];rfl
 show((ay N0 N0 (k,(1:Int))).bind _)=_
 rcases Nat.eq_zero_or_pos k.length with q|q
 ·have:k=[]:=List.eq_nil_of_length_eq_zero q
  subst this
  rfl
 ·have:=eg (ay N0) (fun i=>(k,((i+1:Nat):Int))) (fun i=>fc k (i+1)) false () (k.length-1) (fun m i hi=>LK hk m (i+1) (Nat.succ_pos i) (by omega)) (fun m=>by
   rw[show k.length-1+1=k.length by omega];exact h0 m) N0 0 (Nat.zero_le _) (by have:=n0;omega)
  rw[show ay N0 N0 (k,(1:Int))=_ from this]
  have e:cy (fun i=>fc k (i+1)) 0 (k.length-1-0)=cy (fc k) 0 k.length:=by
   rw[Bool.eq_iff_iff,ee,ee]
   constructor
   ·intro h j h1 h2
    rcases Nat.eq_zero_or_pos j with z|z
    ·subst z;rfl
    ·have:=h (j-1) (Nat.zero_le _) (by omega)
     rw[show j-1+1=j by omega]at this
     exact this
   ·intro h j h1 h2
    exact h (j+1) (Nat.zero_le _) (by omega)
  rw[e]
  cases cy (fc k) 0 k.length<;>rfl
def u4 (lo hi v:Int):Bool:=decide (v≥lo)&&decide (v≤hi)
theorem JN{k:List Int}(hk:k.length≤4294967296) (lo hi:Int) (m i:Nat) (hl:i<k.length) :
  bl N0 (m+1) (k,lo,hi,(i:Int))=bif u4 lo hi (k.getD i 0)&&fc k i then bl N0 m (k,lo,hi,((i+1:Nat):Int))else some (.inl false):=by
 rw[bl]
 dsimp only
 rw[oL hl,cond_true,ax hl,cond_true,oB]
 simp only[Option.bind_some,Int.toNat_natCast,aX hl hk]
 rw[show(decide (k.getD i 0≥lo)&&decide (k.getD i 0≤hi))=u4 lo hi (k.getD i 0)from rfl]
 unfold fc
 cases u4 lo hi (k.getD i 0)with
 |false=>rfl
 |true =>
  rcases Nat.eq_zero_or_pos i with q|q
  ·subst q;rfl
  ·rw[Lw q,cond_true,so q (by omega),ax (by omega),cond_true,Int.toNat_natCast,Bl,decide_eq_false (by omega:¬i=0)]
   cases decide (k.getD (i-1) 0<k.getD i 0)<;>rfl
theorem yp{k:List Int}(hk:k.length≤4294967296) (lo hi:Int):l7 N0 (k,lo,hi)=some (cy (fun j=>u4 lo hi (k.getD j 0)&&fc k j) 0 k.length):=by
 have:=eg (bl N0) (fun i=>(k,lo,hi,(i:Int))) (fun j=>u4 lo hi (k.getD j 0)&&fc k j) false () k.length (JN hk lo hi) (fun m=>by
  rw[bl];dsimp only;rw[tR];rfl) N0 0 (Nat.zero_le _) (by have:=n0;omega)
 rw[Nat.sub_zero]at this
 show((bl N0 N0 (k,lo,hi,(0:Int))).bind _)=_
 rw[show bl N0 N0 (k,lo,hi,(0:Int))=_ from this]
 cases cy (fun j=>u4 lo hi (k.getD j 0)&&fc k j) 0 k.length<;>rfl
def rR (l:List Int) (v:Int):Bool := !cy (fun j => !(l.getD j 0==v)) 0 l.length
theorem lE{k:List Int}(hk:k.length≤4294967296) (v:Int):dY N0 (k,v)=some (rR k v):=by
 have:=eg (bG N0) (fun i=>(k,v,(i:Int))) (fun j => !(k.getD j 0==v)) true () k.length (fun m i hi=>by
  rw[bG];dsimp only
  rw[oL hi,cond_true,ax hi,cond_true,Int.toNat_natCast,aX hi hk]
  cases(k.getD i 0==v)<;>rfl) (fun m=>by
  rw[bG];dsimp only;rw[tR];rfl) N0 0 (Nat.zero_le _) (by have:=n0;omega)
 rw[Nat.sub_zero]at this
 show((bG N0 N0 (k,v,(0:Int))).bind _)=_
 rw[show bG N0 N0 (k,v,(0:Int))=_ from this]
 unfold rR
 cases cy (fun j => !(k.getD j 0==v)) 0 k.length<;>rfl
theorem wD{l:List Int}{v:Int}:rR l v=true↔∃j,j<l.length∧l.getD j 0=v:=by
 unfold rR
 rw[Bool.not_eq_true',Bool.eq_false_iff,ne_eq,ee]
 constructor
 ·intro h
  refine Classical.byContradiction fun h2=>h fun j _ hj=>?_
  have:¬l.getD j 0=v:=fun e=>h2 ⟨j,by omega,e⟩
  simpa using this
 ·rintro ⟨j,h1,h2⟩ h
  have:=h j (Nat.zero_le _) (by omega)
  rw[h2]at this
  simp at this
abbrev kI:Ty := .int .i64
abbrev um (x:bx):List Int:=x.2.2.2.2.2.1
def dn (x:bx):Bool:=x.2.2.2.2.2.2.1
structure Small (xs:List ab) (kn:List Int) (li:List bx) (gv sh:List Int) (lg:List bu):Prop where
 fx:xs.length≤4294967296
 fk:kn.length≤4294967296
 fl:li.length≤4294967296
 fg:gv.length≤4294967296
 fs:sh.length≤4294967296
 fo:lg.length≤4294967296
 fe:∀i,i<li.length→(um (li.getD i zI)).length≤4294967296
def jq (xs:List ab) (x:bx):Bool:=(fH N0 (xs,x.1,x.2.1,x.2.2.1,x.2.2.2.1,x.2.2.2.2.1,x.2.2.2.2.2.1,x.2.2.2.2.2.2.1,x.2.2.2.2.2.2.2.1,x.2.2.2.2.2.2.2.2)).getD false
theorem sJ{xs:List ab}(hx:xs.length≤4294967296){x:bx}(he:(um x).length≤4294967296) :
  fH N0 (xs,x.1,x.2.1,x.2.2.1,x.2.2.2.1,x.2.2.2.2.1,x.2.2.2.2.2.1,x.2.2.2.2.2.2.1,x.2.2.2.2.2.2.2.1,x.2.2.2.2.2.2.2.2)=some (jq xs x) ∧
  GB N0 (xs,x.1,x.2.1,x.2.2.1,x.2.2.2.1,x.2.2.2.2.1,x.2.2.2.2.2.1,x.2.2.2.2.2.2.1,x.2.2.2.2.2.2.2.1,x.2.2.2.2.2.2.2.2)=some (jq xs x):=by
 obtain⟨v,h1,h2⟩:=Fu hx (w:=x.1) (p:=x.2.1) (a:=x.2.2.1) (b:=x.2.2.2.1) (at_:=x.2.2.2.2.1) (env:=x.2.2.2.2.2.1) he (dn:=x.2.2.2.2.2.2.1) (dd:=x.2.2.2.2.2.2.2.1) (key:=x.2.2.2.2.2.2.2.2)
 unfold jq
 rw[h1]
 exact⟨rfl,h2⟩
def aW (xs:List ab):Bool:=decide (xs.length≤500)&&cp N0 [] xs
theorem P7{xs:List ab}(hx:xs.length≤4294967296){x:bx}(he:(um x).length≤4294967296) (hP:aW xs=true) :
  gC N0 (xs,x.1,x.2.1,x.2.2.1,x.2.2.2.1,x.2.2.2.2.1,x.2.2.2.2.2.1,x.2.2.2.2.2.2.1,x.2.2.2.2.2.2.2.1,x.2.2.2.2.2.2.2.2)=some (jq xs x):=by
 have h2:=(sJ hx he).2
 have hP:(decide (xs.length≤500)&&cp N0 [] xs)=true:=hP
 rw[GB]at h2
 dsimp only at h2
 rw[l9 N0 n0 hx,hP]at h2
 simp only[Option.bind_some,cond_true]at h2
 cases hq:gC N0 (xs,x.1,x.2.1,x.2.2.1,x.2.2.2.1,x.2.2.2.2.1,x.2.2.2.2.2.1,x.2.2.2.2.2.2.1,x.2.2.2.2.2.2.2.1,x.2.2.2.2.2.2.2.2)with
 |none=>rw[hq]at h2;cases h2
 |some v=>rw[hq]at h2;exact h2
def gB (n:Int) (k:Int):Bool:=decide (k≥0)&&decide (k≤n-1)
def nN (li:List bx) (k:Int):Bool:=gB (li.length:Int) k&&dn (li.getD k.toNat zI)
theorem lH{li:List bx}{k:Int}(h:gB (li.length:Int) k=true):aY k li.length=true:=by
 unfold gB at h
 simp at h
 exact decide_eq_true ⟨by omega,by omega⟩
section
variable{xs:List ab}{kn:List Int}{li:List bx}{fr:Int}{gv sh:List Int}{lg:List bu}
theorem sH (hl:li.length≤4294967296) (k:Int):dB N0 (xs,kn,li,fr,gv,sh,lg,k)=some (xs,kn,li,fr,gv,sh,lg,gB (li.length:Int) k):=by
 rw[dB]
 dsimp only
 rw[am (by omega) (by omega),eC];rfl
theorem Bd (hl:li.length≤4294967296) (k:Int):ej N0 (xs,kn,li,fr,gv,sh,lg,k)=some (xs,kn,li,fr,gv,sh,lg,nN li k):=by
 rw[ej]
 dsimp only
 rw[sH hl]
 simp only[Option.bind_some]
 unfold nN
 cases h:gB (li.length:Int) k with
 |false=>rfl
 |true =>
  rw[lH h];rfl
def lk (lg:List bu) (j:Nat):Int:=(lg.getD j zC).1
def vf (li:List bx) (lg:List bu) (i:Nat):Bool:=nN li (lk lg i)&&cy (fun j => !(lk lg j==lk lg i)) 0 i
def wo (lg:List bu):Nat→List (Int×Int)
 |0=>[]
 |i+1=>ld kI (lk lg i) (IntKind.i64.wrap (eT kI (lk lg i) (wo lg i)+(1:Int))) (wo lg i)
def ur (lg:List bu) (k:Int):Nat→Nat
 |0=>0
 |i+1=>ur lg k i+(if lk lg i=k then 1 else 0)
theorem CB (lg:List bu) (k:Int):∀i,ur lg k i≤i
 |0=>Nat.le_refl _
 |i+1=>by
  have:=CB lg k i
  show ur lg k i+(if lk lg i=k then 1 else 0)≤i+1
  split<;>omega
theorem za (lg:List bu) (k:Int):∀i,i≤4294967296→eT kI k (wo lg i)=(ur lg k i:Int)
 |0,_=>rfl
 |i+1,h=>by
  have ih:=fun k=>za lg k i (by omega)
  show eT kI k (ld kI (lk lg i) (IntKind.i64.wrap (eT kI (lk lg i) (wo lg i)+(1:Int))) (wo lg i))=((ur lg k i+(if lk lg i=k then 1 else 0):Nat):Int)
  by_cases q:lk lg i=k
  ·subst q
   rw[sy (pg kI rfl _),za lg _ i (by omega),if_pos rfl]
   have:=CB lg (lk lg i) i
   rw[am (by omega) (by omega)];omega
  ·have hne:kI.eqv k (lk lg i)=false:=by
    rw[Bool.eq_false_iff]
    exact fun h=>q (wO kI h).symm
   rw[uO hne,za lg k i (by omega),if_neg q,Nat.add_zero]
theorem xd (lg:List bu) (k:Int):∀i,ur lg k i=0↔∀j,j<i→lk lg j≠k
 |0=>⟨fun _ j h=>by omega,fun _=>rfl⟩
 |i+1=>by
  show ur lg k i+(if lk lg i=k then 1 else 0)=0↔_
  have ih:=xd lg k i
  by_cases q:lk lg i=k
  ·rw[if_pos q]
   exact⟨fun h=>by omega,fun h=>absurd q (h i (by omega))⟩
  ·rw[if_neg q,Nat.add_zero,ih]
   constructor
   ·intro h j hj
    rcases Nat.lt_or_ge j i with z|z
    ·exact h j z
    ·have:j=i:=by omega
     subst this;exact q
   ·exact fun h j hj=>h j (by omega)
theorem Lh (hg:lg.length≤4294967296){i:Nat}(hi:i<lg.length):decide (eT kI (lk lg i) (wo lg (i+1))>(1:Int)) = !cy (fun j => !(lk lg j==lk lg i)) 0 i:=by
 rw[za lg _ (i+1) (by omega),show ur lg (lk lg i) (i+1)=ur lg (lk lg i) i+1 from by show _+(if _ then 1 else 0)=_;rw[if_pos rfl]]
 have hc:=CB lg (lk lg i) i
 rw[Bool.eq_iff_iff,decide_eq_true_iff,Bool.not_eq_true',Bool.eq_false_iff,ne_eq,ee]
 have hz:=xd lg (lk lg i) i
 constructor
 ·intro h h2
  have:ur lg (lk lg i) i=0:=hz.2 fun j hj e=>by
   have:=h2 j (Nat.zero_le _) (by omega)
   rw[e]at this
   simp at this
  omega
 ·intro h
  have:ur lg (lk lg i) i≠0:=fun e=>h fun j _ hj=>by
   have:=hz.1 e j (by omega)
   simpa using this
  omega
def qo (li:List bx) (lg:List bu) (i:Nat):Bool := !dn (li.getD i zI) || !(((ur lg (i:Int) lg.length:Nat):Int)==(0:Int))
theorem Lk (hl:li.length≤4294967296) (hg:lg.length≤4294967296):eV N0 (xs,kn,li,fr,gv,sh,lg)=some (xs,kn,li,fr,gv,sh,lg,cy (vf li lg) 0 lg.length&&cy (qo li lg) 0 li.length):=by
 have h1:=eg (aS N0) (fun i=>(xs,kn,li,fr,gv,sh,lg,wo lg i,lg,(lg.length:Int),(i:Int))) (vf li lg) (xs,kn,li,fr,gv,sh,lg,false) (xs,kn,li,fr,gv,sh,lg,wo lg lg.length) lg.length (fun m i hi=>by
  rw[aS];dsimp only
  rw[oL hi,cond_true,ax hi,cond_true,Bd hl]
  simp only[Option.bind_some,Int.toNat_natCast,aX hi hg]
  show(cond (!nN li (lk lg i)) (some (Sum.inl (xs,kn,li,fr,gv,sh,lg,false))) (cond (decide (eT kI (lk lg i) (wo lg (i+1))>(1:Int))) (some (Sum.inl (xs,kn,li,fr,gv,sh,lg,false))) (aS N0 m (xs,kn,li,fr,gv,sh,lg,wo lg (i+1),lg,(lg.length:Int),((i+1:Nat):Int)))))=_
  rw[Lh hg hi]
  unfold vf
  cases nN li (lk lg i)with
  |false=>rfl
  |true =>
   cases cy (fun j => !(lk lg j==lk lg i)) 0 i<;>rfl) (fun m=>by
  rw[aS];dsimp only;rw[tR];rfl) N0 0 (Nat.zero_le _) (by have:=n0;omega)
 have h2:=eg (aJ N0) (fun i=>(xs,kn,li,fr,gv,sh,lg,wo lg lg.length,li,(li.length:Int),(i:Int))) (qo li lg) (xs,kn,li,fr,gv,sh,lg,false) (xs,kn,li,fr,gv,sh,lg) li.length (fun m i hi=>by
  rw[aJ];dsimp only
  rw[oL hi,cond_true,ax hi,cond_true]
  simp only[Int.toNat_natCast,aX hi hl]
  rw[za lg (i:Int) lg.length hg]
  unfold qo dn
  cases(li.getD i zI).2.2.2.2.2.2.1 with
  |false=>rfl
  |true=>cases(((ur lg (i:Int) lg.length:Nat):Int)==(0:Int))<;>rfl) (fun m=>by
  rw[aJ];dsimp only;rw[tR];rfl) N0 0 (Nat.zero_le _) (by have:=n0;omega)
 rw[Nat.sub_zero]at h1 h2
 rw[eV]
 dsimp only
 rw[show aS N0 N0 (xs,kn,li,fr,gv,sh,lg,[],lg,(lg.length:Int),(0:Int))=_ from h1]
 cases cy (vf li lg) 0 lg.length with
 |false=>rfl
 |true =>
  show((aJ N0 N0 (xs,kn,li,fr,gv,sh,lg,wo lg lg.length,li,(li.length:Int),(0:Int))).bind _)=_
  rw[show aJ N0 N0 (xs,kn,li,fr,gv,sh,lg,wo lg lg.length,li,(li.length:Int),(0:Int))=_ from h2]
  cases cy (qo li lg) 0 li.length<;>rfl
def rN (xs:List ab) (li:List bx):Bool:=cy (fun i=>jq xs (li.getD i zI)) 0 li.length
def sO (gv:List Int):Bool:=cy (fun i=>u4 0 4 (gv.getD i 0)) 0 gv.length
def tH (li:List bx) (sh:List Int):Bool:=cy (fun i=>nN li (sh.getD i 0)) 0 sh.length
def tl (xs:List ab) (kn:List Int):Bool:=cy (iB xs kn) 0 kn.length&&(decide (kn.length≤200)&&aW xs)
theorem Cn (hs:Small xs kn li gv sh lg):gF N0 (xs,kn,li,fr,gv,sh,lg)=some (tl xs kn&&(decide (li.length≤8)&&(u4 0 8 fr&&(cy (fc gv) 0 gv.length&&(cy (fc sh) 0 sh.length&&(rN xs li&&(sO gv&&(tH li sh&&(cy (vf li lg) 0 lg.length&&cy (qo li lg) 0 li.length))))))))):=by
 have h1:=eg (cb N0) (fun i=>(xs,kn,li,fr,gv,sh,lg,li,(li.length:Int),(i:Int))) (fun i=>jq xs (li.getD i zI)) false (xs,kn,li,fr,gv,sh,lg) li.length (fun m i hi=>by
  rw[cb];dsimp only
  rw[oL hi,cond_true,ax hi,cond_true]
  simp only[Int.toNat_natCast,aX hi hs.fl]
  rw[(sJ hs.fx (hs.fe i hi)).1]
  simp only[Option.bind_some]
  cases jq xs (li.getD i zI)<;>rfl) (fun m=>by
  rw[cb];dsimp only;rw[tR];rfl) N0 0 (Nat.zero_le _) (by have:=n0;have:=hs.fl;omega)
 have h2:=eg (bA N0) (fun i=>(xs,kn,li,fr,gv,sh,lg,gv,(gv.length:Int),(i:Int))) (fun i=>u4 0 4 (gv.getD i 0)) false (xs,kn,li,fr,gv,sh,lg) gv.length (fun m i hi=>by
  rw[bA];dsimp only
  rw[oL hi,cond_true,ax hi,cond_true,se]
  simp only[Option.bind_some,Int.toNat_natCast,aX hi hs.fg]
  rw[show(decide (gv.getD i 0≥0)&&decide (gv.getD i 0≤4))=u4 0 4 (gv.getD i 0)from rfl]
  cases u4 0 4 (gv.getD i 0)<;>rfl) (fun m=>by
  rw[bA];dsimp only;rw[tR];rfl) N0 0 (Nat.zero_le _) (by have:=n0;have:=hs.fg;omega)
 have h3:=eg (bz N0) (fun i=>(xs,kn,li,fr,gv,sh,lg,sh,(sh.length:Int),(i:Int))) (fun i=>nN li (sh.getD i 0)) false (xs,kn,li,fr,gv,sh,lg) sh.length (fun m i hi=>by
  rw[bz];dsimp only
  rw[oL hi,cond_true,ax hi,cond_true,Bd hs.fl]
  simp only[Option.bind_some,Int.toNat_natCast,aX hi hs.fs]
  cases nN li (sh.getD i 0)<;>rfl) (fun m=>by
  rw[bz];dsimp only;rw[tR];rfl) N0 0 (Nat.zero_le _) (by have:=n0;have:=hs.fs;omega)
 rw[Nat.sub_zero]at h1 h2 h3
 rw[gF]
 dsimp only
 rw[D3 hs.fx hs.fk,eC,zg hs.fg,zg hs.fs,
  show cb N0 N0 (xs,kn,li,fr,gv,sh,lg,li,(li.length:Int),(0:Int))=_ from h1]
 simp only[Option.bind_some]
 rw[show(cy (iB xs kn) 0 kn.length&&(decide (kn.length≤200)&&(decide (xs.length≤500)&&cp N0 [] xs)))=tl xs kn from rfl,
  show(decide (fr≥0)&&decide (fr≤8))=u4 0 8 fr from rfl,show cy (fun i=>jq xs (li.getD i zI)) 0 li.length=rN xs li from rfl]
 cases tl xs kn with
 |false=>rfl
 |true =>
  by_cases q:li.length≤8
  ·rw[decide_eq_false (by omega:¬(li.length:Int)>(8:Int)),decide_eq_true q]
   cases u4 0 8 fr with
   |false=>rfl
   |true =>
    cases cy (fc gv) 0 gv.length with
    |false=>rfl
    |true =>
     cases cy (fc sh) 0 sh.length with
     |false=>rfl
     |true =>
      cases rN xs li with
      |false=>rfl
      |true =>
       show((bA N0 N0 (xs,kn,li,fr,gv,sh,lg,gv,(gv.length:Int),(0:Int))).bind _)=_
       rw[show bA N0 N0 (xs,kn,li,fr,gv,sh,lg,gv,(gv.length:Int),(0:Int))=_ from h2,show cy (fun i=>u4 0 4 (gv.getD i 0)) 0 gv.length=sO gv from rfl]
       cases sO gv with
       |false=>rfl
       |true =>
        show((bz N0 N0 (xs,kn,li,fr,gv,sh,lg,sh,(sh.length:Int),(0:Int))).bind _)=_
        rw[show bz N0 N0 (xs,kn,li,fr,gv,sh,lg,sh,(sh.length:Int),(0:Int))=_ from h3,show cy (fun i=>nN li (sh.getD i 0)) 0 sh.length=tH li sh from rfl]
        cases tH li sh with
        |false=>rfl
        |true =>
         show((eV N0 (xs,kn,li,fr,gv,sh,lg)).bind _)=_
         rw[Lk hs.fl hs.fo];rfl
  ·rw[decide_eq_true (by omega:(li.length:Int)>(8:Int)),decide_eq_false q];rfl
def CQ (li:List bx) (i:Nat):Bool:=dn (li.getD i zI)
def Mn (xs:List ab) (li:List bx) (sh:List Int) (i:Nat):Bool:=jq xs (li.getD i zI)&&(!rR sh (i:Int) || CQ li i)
theorem IK (d:Nat→Bool) (n:Nat):(places d n).length≤n:=by
 unfold places
 exact Nat.le_trans (List.length_filter_le _ _) (by simp)
theorem RY (hs:Small xs kn li gv sh lg) (hP:aW xs=true):bj N0 N0 (xs,kn,li,fr,gv,sh,lg,(li.length:Int),(0:Int),(0:Int)) =
  some (bif cy (Mn xs li sh) 0 li.length then .inr (xs,kn,li,fr,gv,sh,lg,(li.length:Int),((places (CQ li) li.length).length:Int))else .inl false):=by
 have h:=eg (bj N0) (fun i=>(xs,kn,li,fr,gv,sh,lg,(li.length:Int),((places (CQ li) i).length:Int),(i:Int))) (Mn xs li sh) false (xs,kn,li,fr,gv,sh,lg,(li.length:Int),((places (CQ li) li.length).length:Int)) li.length (fun m i hi=>by
  rw[bj];dsimp only
  rw[oL hi,cond_true,ax hi,cond_true]
  simp only[Int.toNat_natCast,aX hi hs.fl]
  rw[P7 hs.fx (hs.fe i hi) hP,lE hs.fs]
  simp only[Option.bind_some,cond_true]
  have hpl:=IK (CQ li) i
  have hli:=hs.fl
  rw[Do,show(li.getD i zI).2.2.2.2.2.2.1=CQ li i from rfl,aX (i:=(places (CQ li) i).length) (n:=i+1) (by omega) (by omega)]
  unfold Mn
  cases jq xs (li.getD i zI)with
  |false=>rfl
  |true =>
   cases rR sh (i:Int)<;>cases CQ li i<;>rfl) (fun m=>by
  rw[bj];dsimp only;rw[tR];rfl) N0 0 (Nat.zero_le _) (by have:=n0;have:=hs.fl;omega)
 rw[Nat.sub_zero]at h
 exact h
theorem Pw (hg:lg.length≤4294967296){N D k:Int}{i:Nat}(hi:i<lg.length):bD N0 N0 (xs,kn,li,fr,gv,sh,lg,N,D,(i:Int),k,(0:Int)) =
  some (bif cy (fun j => !(lk lg j==k)) 0 i then .inr (xs,kn,li,fr,gv,sh,lg,N,D,(i:Int))else .inl false):=by
 have h:=eg (bD N0) (fun j=>(xs,kn,li,fr,gv,sh,lg,N,D,(i:Int),k,(j:Int))) (fun j => !(lk lg j==k)) false (xs,kn,li,fr,gv,sh,lg,N,D,(i:Int)) i (fun m j hj=>by
  rw[bD];dsimp only
  rw[oL hj,cond_true,ax (by omega:j<lg.length),cond_true]
  simp only[Int.toNat_natCast,aX (by omega:j<lg.length) hg]
  rw[show(lg.getD j zC).1=lk lg j from rfl]
  cases(lk lg j==k)<;>rfl) (fun m=>by
  rw[bD];dsimp only;rw[tR];rfl) N0 0 (Nat.zero_le _) (by have:=n0;omega)
 rw[Nat.sub_zero]at h
 exact h
theorem Px (hl:li.length≤4294967296) (hg:lg.length≤4294967296){D:Int}:bf N0 N0 (xs,kn,li,fr,gv,sh,lg,(li.length:Int),D,(0:Int)) =
  some (bif cy (vf li lg) 0 lg.length then .inr (xs,kn,li,fr,gv,sh,lg,D)else .inl false):=by
 have h:=eg (bf N0) (fun i=>(xs,kn,li,fr,gv,sh,lg,(li.length:Int),D,(i:Int))) (vf li lg) false (xs,kn,li,fr,gv,sh,lg,D) lg.length (fun m i hi=>by
  rw[bf];dsimp only
  rw[oL hi,cond_true,ax hi,cond_true,am (show -9223372036854775808≤(li.length:Int)-1 by omega) (show(li.length:Int)-1≤9223372036854775807 by omega),oB]
  simp only[Option.bind_some,Int.toNat_natCast]
  rw[show(decide ((lg.getD i zC).1≥0)&&decide ((lg.getD i zC).1≤(li.length:Int)-1))=gB (li.length:Int) (lk lg i)from rfl,show(lg.getD i zC).1=lk lg i from rfl]
  unfold vf nN
  cases hq:gB (li.length:Int) (lk lg i)with
  |false=>rfl
  |true =>
   rw[lH hq,Pw hg hi]
   unfold dn
   cases(li.getD (lk lg i).toNat zI).2.2.2.2.2.2.1 with
   |false=>rfl
   |true =>
    cases cy (fun j => !(lk lg j==lk lg i)) 0 i with
    |false=>rfl
    |true =>
     show bf N0 m (xs,kn,li,fr,gv,sh,lg,(li.length:Int),D,IntKind.i64.wrap ((i:Int)+(1:Int)))=_
     rw[aX hi hg];rfl) (fun m=>by
  rw[bf];dsimp only;rw[tR];rfl) N0 0 (Nat.zero_le _) (by have:=n0;omega)
 rw[Nat.sub_zero]at h
 exact h
theorem BR (hs:Small xs kn li gv sh lg):du N0 (xs,kn,li,fr,gv,sh,lg)=some (tl xs kn&&(decide (li.length≤8)&&(u4 0 8 fr&&(cy (fun j=>u4 0 4 (gv.getD j 0)&&fc gv j) 0 gv.length&&(cy (fun j=>u4 0 ((li.length:Int)-1) (sh.getD j 0)&&fc sh j) 0 sh.length&&(cy (Mn xs li sh) 0 li.length&&(cy (vf li lg) 0 lg.length&&((lg.length:Int)==((places (CQ li) li.length).length:Int))))))))):=by
 have hli:=hs.fl
 rw[du]
 dsimp only
 rw[xr hs.fx hs.fk,oB,yp hs.fg,am (show -9223372036854775808≤(li.length:Int)-1 by omega) (show(li.length:Int)-1≤9223372036854775807 by omega),yp hs.fs]
 simp only[Option.bind_some]
 rw[show(cy (iB xs kn) 0 kn.length&&(decide (kn.length≤200)&&(decide (xs.length≤500)&&cp N0 [] xs)))=tl xs kn from rfl,
  show(decide (fr≥0)&&decide (fr≤8))=u4 0 8 fr from rfl]
 cases hk:tl xs kn with
 |false=>rfl
 |true =>
  have hP:aW xs=true:=by
   unfold tl at hk
   rw[Bool.and_eq_true,Bool.and_eq_true]at hk
   exact hk.2.2
  rw[RY hs hP]
  by_cases q:li.length≤8
  ·rw[decide_eq_false (by omega:¬(li.length:Int)>(8:Int)),decide_eq_true q]
   cases u4 0 8 fr with
   |false=>rfl
   |true =>
    cases cy (fun j=>u4 0 4 (gv.getD j 0)&&fc gv j) 0 gv.length with
    |false=>rfl
    |true =>
     cases cy (fun j=>u4 0 ((li.length:Int)-1) (sh.getD j 0)&&fc sh j) 0 sh.length with
     |false=>rfl
     |true =>
      cases cy (Mn xs li sh) 0 li.length with
      |false=>rfl
      |true =>
       show((bf N0 N0 (xs,kn,li,fr,gv,sh,lg,(li.length:Int),((places (CQ li) li.length).length:Int),(0:Int))).bind _)=_
       rw[Px hs.fl hs.fo]
       cases cy (vf li lg) 0 lg.length<;>rfl
  ·rw[decide_eq_true (by omega:(li.length:Int)>(8:Int)),decide_eq_false q];rfl
end
theorem Et (a b:Nat→Bool) (i k:Nat):cy (fun j=>a j&&b j) i k=(cy a i k&&cy b i k):=by
 rw[Bool.eq_iff_iff,Bool.and_eq_true,ee,ee,ee]
 constructor
 ·intro h
  refine⟨fun j h1 h2=>?_,fun j h1 h2=>?_⟩
  ·have:=h j h1 h2
   rw[Bool.and_eq_true]at this;exact this.1
  ·have:=h j h1 h2
   rw[Bool.and_eq_true]at this;exact this.2
 ·rintro ⟨h1,h2⟩ j h3 h4
  rw[Bool.and_eq_true]
  exact⟨h1 j h3 h4,h2 j h3 h4⟩
section
variable{xs:List ab}{kn:List Int}{li:List bx}{fr:Int}{gv sh:List Int}{lg:List bu}
theorem EL:(rN xs li&&tH li sh)=(cy (fun j=>u4 0 ((li.length:Int)-1) (sh.getD j 0)) 0 sh.length&&cy (Mn xs li sh) 0 li.length):=by
 unfold rN tH
 rw[Bool.eq_iff_iff,Bool.and_eq_true,Bool.and_eq_true,ee,ee,ee,ee]
 constructor
 ·rintro ⟨h1,h2⟩
  refine⟨fun j h3 h4=>?_,fun i h3 h4=>?_⟩
  ·have:=h2 j h3 h4
   unfold nN at this
   rw[Bool.and_eq_true]at this
   exact this.1
  ·unfold Mn
   rw[Bool.and_eq_true]
   refine⟨h1 i h3 h4,?_⟩
   cases hh:rR sh (i:Int)with
   |false=>rfl
   |true =>
    obtain⟨j,h5,h6⟩:=wD.1 hh
    have:=h2 j (Nat.zero_le _) (by omega)
    unfold nN at this
    rw[Bool.and_eq_true,h6,Int.toNat_natCast]at this
    show(false || CQ li i)=true
    rw[Bool.false_or];exact this.2
 ·rintro ⟨h1,h2⟩
  refine⟨fun i h3 h4=>?_,fun j h3 h4=>?_⟩
  ·have:=h2 i h3 h4
   unfold Mn at this
   rw[Bool.and_eq_true]at this
   exact this.1
  ·have hr:=h1 j h3 h4
   unfold nN
   rw[Bool.and_eq_true]
   refine⟨hr,?_⟩
   have hr':=hr
   unfold u4 at hr'
   rw[Bool.and_eq_true,decide_eq_true_iff,decide_eq_true_iff]at hr'
   obtain⟨i,hi⟩:=Int.eq_ofNat_of_zero_le hr'.1
   rw[hi]at hr' ⊢
   rw[Int.toNat_natCast]
   have:=h2 i (Nat.zero_le _) (by omega)
   unfold Mn at this
   rw[Bool.and_eq_true]at this
   have hh:rR sh (i:Int)=true:=wD.2 ⟨j,by omega,hi⟩
   have h3:=this.2
   rw[hh]at h3
   exact h3
theorem Li (h:cy (vf li lg) 0 lg.length=true):cy (qo li lg) 0 li.length=((lg.length:Int)==((places (CQ li) li.length).length:Int)):=by
 rw[ee]at h
 have hg:∀i,i<lg.length→nN li (lk lg i)=true∧∀j,j<i→lk lg j≠lk lg i:=fun i hi=>by
  have:=h i (Nat.zero_le _) (by omega)
  unfold vf at this
  rw[Bool.and_eq_true,ee]at this
  refine⟨this.1,fun j hj e=>?_⟩
  have:=this.2 j (Nat.zero_le _) (by omega)
  rw[e]at this
  simp at this
 have hL:((List.range lg.length).map (lk lg)).length=lg.length:=by simp
 have hnd:((List.range lg.length).map (lk lg)).Nodup:=by
  rw[Fj,hL]
  intro i hi j hj
  have e:∀k,k<lg.length→((List.range lg.length).map (lk lg)).getD k 0=lk lg k:=fun k hk=>by
   rw[kK (by rw[hL];exact hk)];simp
  rw[e i hi,e j (by omega)]
  exact(hg i hi).2 j hj
 have hin:∀k∈(List.range lg.length).map (lk lg), ∃i:Nat,k=(i:Int)∧i<li.length∧CQ li i=true:=by
  intro k hk
  obtain⟨j,hj,rfl⟩:=List.mem_map.1 hk
  have:=(hg j (List.mem_range.1 hj)).1
  unfold nN gB at this
  rw[Bool.and_eq_true,Bool.and_eq_true,decide_eq_true_iff,decide_eq_true_iff]at this
  obtain⟨⟨h1,h2⟩,h3⟩:=this
  obtain⟨i,hi⟩:=Int.eq_ofNat_of_zero_le h1
  rw[hi]at h2 h3
  rw[Int.toNat_natCast]at h3
  exact⟨i,hi,by omega,h3⟩
 have key:=Lj (CQ li) li.length _ hnd hin
 rw[hL]at key
 rw[Bool.eq_iff_iff,ee,beq_iff_eq]
 have hmem:∀i:Nat,(i:Int)∈(List.range lg.length).map (lk lg)↔ur lg (i:Int) lg.length≠0:=by
  intro i
  rw[Ne,xd,List.mem_map]
  constructor
  ·rintro ⟨j,h1,h2⟩ h3
   exact h3 j (List.mem_range.1 h1) h2
  ·intro h1
   refine Classical.byContradiction fun h2=>h1 fun j hj e=>h2 ⟨j,List.mem_range.2 hj,e⟩
 have e1:((lg.length:Int)=((places (CQ li) li.length).length:Int))↔lg.length=(places (CQ li) li.length).length:=by omega
 rw[e1, ←key]
 constructor
 ·intro h1 i h2 h3
  have:=h1 i (Nat.zero_le _) (by omega)
  rw[hmem]
  unfold qo at this
  rw[show dn (li.getD i zI)=CQ li i from rfl,h3]at this
  intro h4
  rw[h4]at this
  exact absurd this (by decide)
 ·intro h1 i _ h2
  unfold qo
  cases h3:dn (li.getD i zI)with
  |false=>rfl
  |true =>
   have:=(hmem i).1 (h1 i (by omega) h3)
   show(false || !(((ur lg (i:Int) lg.length:Nat):Int)==(0:Int)))=true
   rw[Bool.false_or,Bool.not_eq_true',beq_eq_false_iff_ne]
   omega
def dJ (xs:List ab) (kn:List Int) (li:List bx) (fr:Int) (gv sh:List Int) (lg:List bu):Bool :=
 tl xs kn&&(decide (li.length≤8)&&(u4 0 8 fr&&(cy (fc gv) 0 gv.length&&(cy (fc sh) 0 sh.length&&(rN xs li&&(sO gv&&(tH li sh&&(cy (vf li lg) 0 lg.length&&cy (qo li lg) 0 li.length))))))))
theorem yh (hs:Small xs kn li gv sh lg):du N0 (xs,kn,li,fr,gv,sh,lg)=some (dJ xs kn li fr gv sh lg):=by
 refine(BR hs).trans (congrArg some ?_)
 unfold dJ
 have e1:cy (fun j=>u4 0 4 (gv.getD j 0)&&fc gv j) 0 gv.length=(sO gv&&cy (fc gv) 0 gv.length):=Et _ _ _ _
 have e2:cy (fun j=>u4 0 ((li.length:Int)-1) (sh.getD j 0)&&fc sh j) 0 sh.length=(cy (fun j=>u4 0 ((li.length:Int)-1) (sh.getD j 0)) 0 sh.length&&cy (fc sh) 0 sh.length):=Et _ _ _ _
 have e3:=EL (xs:=xs) (li:=li) (sh:=sh)
 rw[e1,e2]
 cases hl:cy (vf li lg) 0 lg.length with
 |true =>
  rw[Li hl]
  revert e3
  generalize cy (fun j=>u4 0 ((li.length:Int)-1) (sh.getD j 0)) 0 sh.length=A
  generalize cy (Mn xs li sh) 0 li.length=B
  generalize rN xs li=C
  generalize tH li sh=D
  generalize sO gv=E
  generalize cy (fc gv) 0 gv.length=F
  generalize cy (fc sh) 0 sh.length=G
  generalize ((lg.length:Int)==((places (CQ li) li.length).length:Int))=H
  generalize tl xs kn=K
  generalize decide (li.length≤8)=M
  generalize u4 0 8 fr=R
  intro e3
  have:(A&&B)=(C&&D):=e3.symm
  cases A<;>cases B<;>cases C<;>cases D<;>simp_all<;>(cases E<;>cases F<;>cases G<;>rfl)
 |false =>
  simp only[Bool.false_and,Bool.and_false]
theorem lm (hs:Small xs kn li gv sh lg):gF N0 (xs,kn,li,fr,gv,sh,lg)=some (dJ xs kn li fr gv sh lg)∧du N0 (xs,kn,li,fr,gv,sh,lg)=some (dJ xs kn li fr gv sh lg):=⟨Cn hs,yh hs⟩
end
section
variable{xs:List ab}{kn:List Int}{li:List bx}{fr:Int}{gv sh:List Int}{lg:List bu}
end
section
variable{xs:List ab}{kn:List Int}{li:List bx}{fr:Int}{gv sh:List Int}{lg:List bu}{k:Int}
end
abbrev og:ab:=((0:Int),((0:Int),(0:Int)))
def pf (xs:List ab) (k:ab):Nat→Nat→Option Nat
 |_,0=>none
 |i,m+1=>if xs.getD i og=k then some i else pf xs k (i+1) m
abbrev tf (xs:List ab) (k:ab):Option Nat:=pf xs k 0 xs.length
theorem B5{xs:List ab}{k:ab}:∀{m i j:Nat},pf xs k i m=some j→i≤j∧j<i+m∧xs.getD j og=k
 |0,_,_,h=>by cases h
 |m+1,i,j,h=>by
  unfold pf at h
  by_cases hk:xs.getD i og=k
  ·rw[if_pos hk]at h
   obtain rfl:=Option.some.inj h
   exact⟨Nat.le_refl _,by omega,hk⟩
  ·rw[if_neg hk]at h
   obtain⟨h1,h2,h3⟩:=B5 h
   exact⟨by omega,by omega,h3⟩
theorem Gb{xs:List ab}{k:ab}:∀{m i:Nat},pf xs k i m=none→∀q,i≤q→q<i+m→xs.getD q og≠k
 |0,i,_,q,h1,h2=>by omega
 |m+1,i,h,q,h1,h2=>by
  unfold pf at h
  by_cases hk:xs.getD i og=k
  ·rw[if_pos hk]at h;cases h
  ·rw[if_neg hk]at h
   rcases Nat.eq_or_lt_of_le h1 with e|e
   ·subst e;exact hk
   ·exact Gb h q e (by omega)
theorem DC (p k:ab):(p.1==k.1&&(p.2.1==k.2.1&&(p.2.2==k.2.2&&true)))=decide (p=k):=by
 obtain⟨p1,p2,p3⟩:=p
 obtain⟨k1,k2,k3⟩:=k
 rw[Bool.eq_iff_iff]
 simp
theorem IX (p k:ab):(k.1==p.1&&(k.2.1==p.2.1&&(k.2.2==p.2.2&&true)))=decide (p=k):=by
 rw[DC k p,Bool.eq_iff_iff]
 simp[eq_comm]
theorem Ga{xs:List ab}{k:ab}{i:Nat}(h:i<xs.length):pf xs k i (xs.length-i)=if xs.getD i og=k then some i else pf xs k (i+1) (xs.length-(i+1)):=by
 have e:xs.length-i=(xs.length-(i+1))+1:=by omega
 rw[e];rfl
theorem KC{xs:List ab}{k:ab}{i:Nat}(h:xs.length≤i):pf xs k i (xs.length-i)=none:=by
 have e:xs.length-i=0:=by omega
 rw[e];rfl
theorem zf (n:Nat){xs:List ab}(hx:xs.length≤4294967296) (k:ab):∀(m i:Nat),i≤xs.length→xs.length<m+i→aj n m (xs,k.1,k.2.1,k.2.2,(xs.length:Int),(i:Int)) =
  some (match pf xs k i (xs.length-i)with|some j=>Sum.inl (j:Int)|none=>Sum.inr ())
 |0,i,h1,h2=>by omega
 |m+1,i,h1,h2=>by
  have e0:aj n (m+1) (xs,k.1,k.2.1,k.2.2,(xs.length:Int),(i:Int))=(cond (decide ((i:Int)<(xs.length:Int))) (cond (aY (i:Int) xs.length) (cond (k.1==(xs.getD ((i:Int)).toNat og).1&&(k.2.1==(xs.getD ((i:Int)).toNat og).2.1&&(k.2.2==(xs.getD ((i:Int)).toNat og).2.2&&true))) (some (Sum.inl (i:Int))) (aj n m (xs,k.1,k.2.1,k.2.2,(xs.length:Int),IntKind.i64.wrap ((i:Int)+(1:Int))))) none) (some (Sum.inr ()))):=rfl
  rw[e0,Lf]
  by_cases hlt:i<xs.length
  ·rw[decide_eq_true hlt,cond_true,ax hlt,cond_true,Int.toNat_natCast,aX hlt hx,IX,Ga hlt]
   by_cases hk:xs.getD i og=k
   ·rw[decide_eq_true hk,cond_true,if_pos hk]
   ·rw[decide_eq_false hk,cond_false,if_neg hk,zf n hx k m (i+1) hlt (by omega)]
  ·rw[decide_eq_false hlt,cond_false,KC (by omega)]
theorem zn (n:Nat){xs:List ab}(hx:xs.length≤4294967296) (k:ab):∀(m i:Nat),i≤xs.length→xs.length<m+i→bB n m (xs,k.1,k.2.1,k.2.2,(i:Int)) =
  some (match pf xs k i (xs.length-i)with|some j=>Sum.inl (j:Int)|none=>Sum.inr ())
 |0,i,h1,h2=>by omega
 |m+1,i,h1,h2=>by
  have e0:bB n (m+1) (xs,k.1,k.2.1,k.2.2,(i:Int))=(cond (decide ((i:Int)<(xs.length:Int))) (cond (aY (i:Int) xs.length) (cond ((xs.getD ((i:Int)).toNat og).1==k.1&&((xs.getD ((i:Int)).toNat og).2.1==k.2.1&&((xs.getD ((i:Int)).toNat og).2.2==k.2.2&&true))) (some (Sum.inl (i:Int))) (bB n m (xs,k.1,k.2.1,k.2.2,IntKind.i64.wrap ((i:Int)+(1:Int))))) none) (some (Sum.inr ()))):=rfl
  rw[e0,Lf]
  by_cases hlt:i<xs.length
  ·rw[decide_eq_true hlt,cond_true,ax hlt,cond_true,Int.toNat_natCast,aX hlt hx,DC,Ga hlt]
   by_cases hk:xs.getD i og=k
   ·rw[decide_eq_true hk,cond_true,if_pos hk]
   ·rw[decide_eq_false hk,cond_false,if_neg hk,zn n hx k m (i+1) hlt (by omega)]
  ·rw[decide_eq_false hlt,cond_false,KC (by omega)]
def PI (xs:List ab) (k:ab):Int:=match tf xs k with
 |some j=>(j:Int)
 |none=>-1
theorem Lq{xs:List ab}(hx:xs.length≤4294967296) (k:ab):aV N0 (xs,k.1,k.2.1,k.2.2)=some (PI xs k):=by
 unfold aV
 dsimp only
 have h:=zf N0 hx k N0 0 (Nat.zero_le _) (by have:=n0;omega)
 rw[Nat.sub_zero]at h
 rw[show(0:Int)=((0:Nat):Int)from rfl,h]
 unfold PI tf
 cases pf xs k 0 xs.length<;>rfl
theorem Jl{xs:List ab}(hx:xs.length≤4294967296) (k:ab):cS N0 (xs,k.1,k.2.1,k.2.2)=some (PI xs k):=by
 unfold cS
 dsimp only
 have h:=zn N0 hx k N0 0 (Nat.zero_le _) (by have:=n0;omega)
 rw[Nat.sub_zero]at h
 rw[show(0:Int)=((0:Nat):Int)from rfl,h]
 unfold PI tf
 cases pf xs k 0 xs.length<;>rfl
theorem Dc {α:Type}{xs:List ab}(h:xs.length≤500){k:α}:aO (xs.length+[k].length)=true:=by
 unfold aO
 rw[List.length_singleton]
 simp
 omega
theorem K6{c a b:Int}{i j:Nat}(hj:j≤4294967296) (hij:i≤j) (h:gf N0 (c,a,b,(i:Int))=true):gf N0 (c,a,b,(j:Int))=true:=by
 have wi:IntKind.i64.wrap ((i:Int)-(1:Int))=(i:Int)-1:=am (by omega) (by omega)
 have wj:IntKind.i64.wrap ((j:Int)-(1:Int))=(j:Int)-1:=am (by omega) (by omega)
 have up:∀v:Int,(decide (v≥0)&&decide (v≤(i:Int)-1))=true→(decide (v≥0)&&decide (v≤(j:Int)-1))=true:=fun v hv=>by
  rw[Bool.and_eq_true,decide_eq_true_iff,decide_eq_true_iff]at hv ⊢
  omega
 have ha:=up a
 have hb:=up b
 revert h
 unfold gf bM
 dsimp only
 obtain⟨v,hv⟩:=zt N0 c
 rw[hv]
 simp only[Option.bind_some,eC,wi,wj]
 generalize (decide (a≥0)&&decide (a≤(i:Int)-1))=A1 at ha ⊢
 generalize (decide (a≥0)&&decide (a≤(j:Int)-1))=A2 at ha ⊢
 generalize (decide (b≥0)&&decide (b≤(i:Int)-1))=B1 at hb ⊢
 generalize (decide (b≥0)&&decide (b≤(j:Int)-1))=B2 at hb ⊢
 cases(v==(0:Int))
 ·cases(v==(1:Int))
  ·cases(v==(2:Int))
   ·exact id
   ·cases A1
    ·exact fun h=>Bool.noConfusion h
    ·cases B1
     ·exact fun h=>(by cases A2<;>exact Bool.noConfusion h)
     ·rw[ha rfl,hb rfl];exact id
  ·cases A1
   ·exact fun h=>Bool.noConfusion h
   ·rw[ha rfl];exact id
 ·exact id
theorem AJ{n:Nat}:∀{r pre:List ab},cp n pre r=true→∀j,j<r.length→gf n ((r.getD j og).1,(r.getD j og).2.1,(r.getD j og).2.2,((pre.length+j:Nat):Int))=true
 |[],pre,_,j,hj=>absurd hj (Nat.not_lt_zero _)
 |k::r,pre,h,j,hj=>by
  have h:((!pre.contains k&&gf n (k.1,k.2.1,k.2.2,(pre.length:Int)))&&cp n (pre++[k]) r)=true:=h
  rw[Bool.and_eq_true,Bool.and_eq_true]at h
  match j with
  |0=>exact h.1.2
  |j+1 =>
   have:=AJ h.2 j (by simpa using hj)
   rw[List.length_append]at this
   have e:pre.length+(j+1)=pre.length+[k].length+j:=by simp;omega
   rw[e]
   exact this
theorem yJ{n:Nat}:∀{r pre s:List ab},cp n pre (r++s)=(cp n pre r&&cp n (pre++r) s)
 |[],pre,s=>by simp[cp]
 |k::r,pre,s=>by
  show((!pre.contains k&&gf n (k.1,k.2.1,k.2.2,(pre.length:Int)))&&cp n (pre++[k]) (r++s))=(((!pre.contains k&&gf n (k.1,k.2.1,k.2.2,(pre.length:Int)))&&cp n (pre++[k]) r)&&cp n (pre++(k::r)) s)
  rw[yJ]
  simp only[Bool.and_assoc,List.append_assoc,List.singleton_append]
theorem cd{xs:List ab}(h:aW xs=true):xs.length≤500:=by
 unfold aW at h
 rw[Bool.and_eq_true,decide_eq_true_iff]at h
 exact h.1
theorem yA{xs:List ab}(h:aW xs=true){j:Nat}(hj:j<xs.length):gf N0 ((xs.getD j og).1,(xs.getD j og).2.1,(xs.getD j og).2.2,(j:Int))=true:=by
 unfold aW at h
 rw[Bool.and_eq_true]at h
 have:=AJ h.2 j hj
 simpa using this
theorem E2{xs:List ab}(h:aW xs=true) (hl:xs.length<500){k:ab}(hk:gf N0 (k.1,k.2.1,k.2.2,(xs.length:Int))=true) (hn:tf xs k=none):aW (xs++[k])=true:=by
 unfold aW at h ⊢
 rw[Bool.and_eq_true]at h ⊢
 refine⟨decide_eq_true (by simp;omega),?_⟩
 rw[yJ,h.2,Bool.true_and,List.nil_append]
 show((!xs.contains k&&gf N0 (k.1,k.2.1,k.2.2,(xs.length:Int)))&&true)=true
 rw[hk,Bool.and_true,Bool.and_true,Bool.not_eq_true']
 rw[←Bool.not_eq_true]
 intro hc
 have hm:k∈xs:=by simpa using hc
 obtain⟨j,hj,e⟩:=List.mem_iff_getElem.1 hm
 refine Gb hn j (Nat.zero_le _) (by omega) ?_
 rw[kK hj]
 exact e
def zG (xs:List ab) (k:ab):Option (List ab×Int) :=
 bif gf N0 (k.1,k.2.1,k.2.2,(xs.length:Int))then(match tf xs k with
  |some j=>some (xs,(j:Int))
  |none=>if 500≤xs.length then none else some (xs++[k],(xs.length:Int)))else none
def PX (kd a b:Int):ab:=bif kd==8 then(kd,mn a b,mx a b)else(kd,a,b)
def gV (xs:List ab) (kd a b:Int):Option (List ab×Int):=zG xs (PX kd a b)
def jU (xs:List ab):Option (List ab×Int)→List ab×Int
 |some r=>r
 |none=>(xs, -1)
theorem JR{xs ys:List ab}{k:ab}{t:Int}(hp:aW xs=true) (h:zG xs k=some (ys,t)):aW ys=true∧0≤t∧t<(ys.length:Int)∧(∃zs,ys=xs++zs)∧ys.getD t.toNat og=k:=by
 unfold zG at h
 cases hk:gf N0 (k.1,k.2.1,k.2.2,(xs.length:Int))with
 |false=>rw[hk]at h;cases h
 |true =>
  rw[hk,cond_true]at h
  cases hf:tf xs k with
  |some j =>
   rw[hf]at h
   obtain⟨rfl,rfl⟩:=Prod.mk.inj (Option.some.inj h)
   obtain⟨h1,h2,h3⟩:=B5 hf
   exact⟨hp,by omega,by omega,⟨[],by simp⟩,by rw[Int.toNat_natCast];exact h3⟩
  |none =>
   rw[hf]at h
   dsimp only at h
   by_cases hl:500≤xs.length
   ·rw[if_pos hl]at h;cases h
   ·rw[if_neg hl]at h
    obtain⟨rfl,rfl⟩:=Prod.mk.inj (Option.some.inj h)
    exact⟨E2 hp (by omega) hk hf,by omega,by simp;omega,⟨[k],rfl⟩,by rw[Int.toNat_natCast];simp[List.getD_eq_getElem?_getD]⟩
theorem ze{xs:List ab}(hx:xs.length≤4294967296) (v:Int):e9 N0 (xs,v)=some (xs,ci xs v):=lF N0 hx v
theorem D5{xs:List ab}(hx:xs.length≤500) (k:ab):((bM N0 (k.1,k.2.1,k.2.2,((xs).length:Int))).bind fun r1=>(cond (!r1) (some (xs,(-1:Int))) ((dT N0 (xs,k.1,k.2.1,k.2.2)).bind fun r2=>(cond (decide (r2.2≥(0:Int))) (some (r2.1,r2.2)) (cond (decide (((r2.1).length:Int)≥(500:Int))) (some (r2.1,(-1:Int))) ((dC N0 (r2.1,k.1,k.2.1,k.2.2)).bind fun g3=>(some (g3,(IntKind.i64.wrap (((g3).length:Int)-(1:Int)))))))))))
  = some (jU xs (zG xs k)):=by
 rw[wg,Option.bind_some]
 unfold zG
 cases gf N0 (k.1,k.2.1,k.2.2,(xs.length:Int))with
 |false=>rfl
 |true =>
  rw[cond_true,Bool.not_true,cond_false]
  have e1:dT N0 (xs,k.1,k.2.1,k.2.2)=some (xs,PI xs k):=by
   unfold dT
   dsimp only
   rw[Lq (by omega)];rfl
  rw[e1,Option.bind_some]
  dsimp only
  unfold PI
  cases hf:tf xs k with
  |some j =>
   dsimp only
   rw[decide_eq_true (by omega:(j:Int)≥(0:Int)),cond_true];rfl
  |none =>
   dsimp only
   rw[decide_eq_false (by omega:¬((-1:Int)≥(0:Int))),cond_false]
   by_cases hl:500≤xs.length
   ·rw[decide_eq_true (by omega:(xs.length:Int)≥(500:Int)),cond_true,if_pos hl];rfl
   ·rw[decide_eq_false (by omega:¬((xs.length:Int)≥(500:Int))),cond_false,if_neg hl]
    have e2:dC N0 (xs,k.1,k.2.1,k.2.2)=some (xs++[k]):=by
     unfold dC
     dsimp only
     have:aO (xs.length+[(k.1,(k.2.1,k.2.2))].length)=true:=Dc hx
     rw[this];rfl
    rw[e2,Option.bind_some]
    have e3:IntKind.i64.wrap (((xs++[k]).length:Int)-(1:Int))=(xs.length:Int):=by
     have hl:(xs++[k]).length=xs.length+1:=by rw[List.length_append,List.length_singleton]
     rw[hl,am (by omega) (by omega)]
     omega
    rw[e3];rfl
theorem qn{xs:List ab}(hx:xs.length≤500) (kd a b:Int):eP N0 (xs,kd,a,b)=some (jU xs (gV xs kd a b)):=by
 unfold eP gV PX
 dsimp only
 cases hk:(kd==(8:Int))with
 |true=>rw[cond_true,cond_true];exact D5 hx (kd,mn a b,mx a b)
 |false=>rw[cond_false,cond_false];exact D5 hx (kd,a,b)
theorem D2{xs:List ab}(hx:xs.length≤500) (c:Int):eZ N0 (xs,c)=some (jU xs (gV xs 1 c 0)):=by
 unfold eZ
 dsimp only
 rw[qn hx];rfl
theorem yq{xs:List ab}(hp:aW xs=true) (k:ab):((cS N0 (xs,k.1,k.2.1,k.2.2)).bind fun r9=>(cond (decide (r9≥(0:Int))) (some (xs,r9)) ((de N0 (k.1,k.2.1,k.2.2,((xs).length:Int))).bind fun r10=>(cond (!r10) (some (xs,(-1:Int))) (cond (((xs).length:Int)==(500:Int)) (some (xs,(-1:Int))) ((aU N0 xs).bind fun r11=>(cond (aO ((r11).length+([(k.1,(k.2.1,k.2.2))]).length)) ((fZ N0 (xs,[],(r11++[(k.1,(k.2.1,k.2.2))]))).bind fun g12=>(some (g12.1,g12.2))) none)))))))
  = some (jU xs (zG xs k)):=by
 have hx:=cd hp
 rw[Jl (by omega),Option.bind_some]
 unfold PI zG
 cases hf:tf xs k with
 |some j =>
  obtain⟨h1,h2,h3⟩:=B5 hf
  have hj:j<xs.length:=by omega
  have hnd:=yA hp hj
  rw[h3]at hnd
  rw[K6 (by omega) (Nat.le_of_lt hj) hnd]
  dsimp only
  rw[decide_eq_true (by omega:(j:Int)≥(0:Int)),cond_true];rfl
 |none =>
  dsimp only
  rw[decide_eq_false (by omega:¬((-1:Int)≥(0:Int))),cond_false,Dg,Option.bind_some]
  cases gf N0 (k.1,k.2.1,k.2.2,(xs.length:Int))with
  |false=>rfl
  |true =>
   rw[cond_true,Bool.not_true,cond_false]
   by_cases hl:500≤xs.length
   ·have:((xs.length:Int)==(500:Int))=true:=by simp;omega
    rw[this,cond_true,if_pos hl];rfl
   ·have:((xs.length:Int)==(500:Int))=false:=by simp;omega
    rw[this,cond_false,if_neg hl]
    have e1:aU N0 xs=some xs:=by
     unfold aU
     have:aO (([]:List ab).length+xs.length)=true:=by
      unfold aO
      simp
      omega
     rw[this];rfl
    rw[e1,Option.bind_some]
    have:aO (xs.length+[(k.1,(k.2.1,k.2.2))].length)=true:=Dc hx
    rw[this,cond_true];rfl
theorem ix{xs:List ab}(hp:aW xs=true) (kd a b:Int):bb N0 (xs,kd,a,b)=some (jU xs (gV xs kd a b)):=by
 unfold bb gV PX mn mx
 dsimp only
 cases hk:(kd==(8:Int))with
 |true =>
  rw[cond_true,cond_true]
  by_cases hab:a>b
  ·rw[decide_eq_true hab,cond_true,if_pos (by omega:b<a),if_neg (by omega:¬b>a)]
   exact yq hp (kd,b,a)
  ·rw[decide_eq_false hab,cond_false,if_neg (by omega:¬b<a)]
   have:(if b>a then b else a)=b:=by split<;>omega
   rw[this]
   exact yq hp (kd,a,b)
 |false=>rw[cond_false,cond_false];exact yq hp (kd,a,b)
theorem j8{xs:List ab}(hp:aW xs=true) (c:Int):bU N0 (xs,c)=some (jU xs (gV xs 1 c 0)):=by
 unfold bU
 dsimp only
 rw[ix hp];rfl
def nI (xs:List ab) (a e:Int):Option (List ab×Int) :=
 bif ci xs a then(bif ci xs e then(bif (xs.getD a.toNat og).1==7 then gV xs 8 e (xs.getD a.toNat og).2.1 else none)else none)else none
theorem o9{xs:List ab}{a:Int}(h:ci xs a=true):aY a xs.length=true:=by
 unfold ci at h
 rw[Bool.and_eq_true,decide_eq_true_iff,decide_eq_true_iff]at h
 have e:a=((a.toNat:Nat):Int):=by omega
 rw[e]
 exact ax (by omega)
theorem Co{xs:List ab}(hx:xs.length≤500) (a e:Int):eD N0 (xs,a,e)=some (jU xs (nI xs a e)):=by
 unfold eD nI
 dsimp only
 rw[ze (by omega),Option.bind_some]
 dsimp only
 cases ha:ci xs a with
 |false=>rfl
 |true =>
  rw[Bool.not_true,cond_false,cond_true,ze (by omega),Option.bind_some]
  dsimp only
  cases ci xs e with
  |false=>rfl
  |true =>
   rw[Bool.not_true,cond_false,cond_true,o9 ha,cond_true,cond_true]
   show(cond (!((xs.getD a.toNat og).1==(7:Int))) _ _)=_
   cases((xs.getD a.toNat og).1==(7:Int))with
   |false=>rfl
   |true =>
    rw[Bool.not_true,cond_false,cond_true,qn hx];rfl
theorem uC{xs:List ab}(hp:aW xs=true) (a e:Int):dV N0 (xs,a,e)=some (jU xs (nI xs a e)):=by
 have hx:=cd hp
 unfold dV nI
 dsimp only
 rw[wB N0 (by omega),Option.bind_some]
 cases ha:ci xs a with
 |false=>rfl
 |true =>
  rw[Bool.not_true,cond_false,cond_true,wB N0 (by omega),Option.bind_some]
  cases ci xs e with
  |false=>rfl
  |true =>
   rw[Bool.not_true,cond_false,cond_true,o9 ha,cond_true,cond_true]
   show(cond (!((xs.getD a.toNat og).1==(7:Int))) _ _)=_
   cases((xs.getD a.toNat og).1==(7:Int))with
   |false=>rfl
   |true =>
    rw[Bool.not_true,cond_false,cond_true,ix hp];rfl
inductive mZ where
 |name (c:Int)
 |var (i:Int)
 |ask (i:Int)
 |un (k:Int) (p:mZ)
 |bin (k:Int) (p q:mZ)
 |exp (p q:mZ)
def mZ.asks:mZ→Bool
 | .ask _=>true
 | .un _ p=>p.asks
 | .bin _ p q=>p.asks || q.asks
 | .exp p q=>p.asks || q.asks
 |_=>false
def mk (env:List Int):mZ→List ab→Option (List ab×Int)
 | .name c,xs=>gV xs 1 c 0
 | .var i,xs=>bif decide (env.getD i.toNat 0<0)then none else some (xs,env.getD i.toNat 0)
 | .ask _,xs=>none
 | .un k p,xs=>(mk env p xs).bind fun r=>gV r.1 k r.2 0
 | .bin k p q,xs=>(mk env p xs).bind fun r=>(mk env q r.1).bind fun s=>gV s.1 k r.2 s.2
 | .exp p q,xs=>(mk env p xs).bind fun r=>(mk env q r.1).bind fun s=>nI s.1 s.2 r.2
theorem p9{env:List Int}:∀{p:mZ}(xs:List ab),p.asks=true→mk env p xs=none
 | .name c,xs,h=>by cases h
 | .var i,xs,h=>by cases h
 | .ask _,xs,_=>rfl
 | .un k p,xs,h=>by
  show(mk env p xs).bind _=none
  rw[p9 xs (show p.asks=true from h)];rfl
 | .bin k p q,xs,h=>by
  have h:(p.asks || q.asks)=true:=h
  show(mk env p xs).bind _=none
  cases hp:p.asks with
  |true=>rw[p9 xs hp];rfl
  |false =>
   rw[hp,Bool.false_or]at h
   cases mk env p xs with
   |none=>rfl
   |some r=>show(mk env q r.1).bind _=none;rw[p9 r.1 h];rfl
 | .exp p q,xs,h=>by
  have h:(p.asks || q.asks)=true:=h
  show(mk env p xs).bind _=none
  cases hp:p.asks with
  |true=>rw[p9 xs hp];rfl
  |false =>
   rw[hp,Bool.false_or]at h
   cases mk env p xs with
   |none=>rfl
   |some r=>show(mk env q r.1).bind _=none;rw[p9 r.1 h];rfl
def BC (xs ys:List ab) (t:Int):Prop:=aW ys=true∧0≤t∧(∃zs,ys=xs++zs)
theorem eF{xs ys:List ab}{kd a b t:Int}(hp:aW xs=true) (h:gV xs kd a b=some (ys,t)):BC xs ys t∧t<(ys.length:Int):=by
 obtain⟨h1,h2,h3,h4,_⟩:=JR hp h
 exact⟨⟨h1,h2,h4⟩,h3⟩
theorem BC.trans{xs ys zs:List ab}{t u:Int}(h1:BC xs ys t) (h2:BC ys zs u):BC xs zs u:=by
 obtain⟨a1,a2,v,rfl⟩:=h1
 obtain⟨b1,b2,w,rfl⟩:=h2
 exact⟨b1,b2,v++w,by rw[List.append_assoc]⟩
theorem pV{xs ys:List ab}{a e t:Int}(h:nI xs a e=some (ys,t)):gV xs 8 e (xs.getD a.toNat og).2.1=some (ys,t):=by
 unfold nI at h
 cases h1:ci xs a with
 |false=>rw[h1]at h;cases h
 |true =>
  cases h2:ci xs e with
  |false=>rw[h1,h2]at h;cases h
  |true =>
   cases h3:((xs.getD a.toNat og).1==7)with
   |false=>rw[h1,h2,h3]at h;cases h
   |true=>rw[h1,h2,h3]at h;exact h
theorem cR{env:List Int}:∀{p:mZ}{xs ys:List ab}{t:Int},aW xs=true→mk env p xs=some (ys,t)→BC xs ys t
 | .name c,xs,ys,t,hp,h=>(eF hp h).1
 | .var i,xs,ys,t,hp,h=>by
  have h:(bif decide (env.getD i.toNat 0<0)then none else some (xs,env.getD i.toNat 0))=some (ys,t):=h
  by_cases hn:env.getD i.toNat 0<0
  ·rw[decide_eq_true hn]at h;cases h
  ·rw[decide_eq_false hn]at h
   obtain⟨rfl,rfl⟩:=Prod.mk.inj (Option.some.inj h)
   exact⟨hp,by omega,[],by simp⟩
 | .ask _,xs,ys,t,hp,h=>by cases h
 | .un k p,xs,ys,t,hp,h=>by
  obtain⟨r,h1,h2⟩:=Option.bind_eq_some_iff.1 (show(mk env p xs).bind _=some (ys,t)from h)
  have g1:=cR hp (show mk env p xs=some (r.1,r.2)from h1)
  exact g1.trans (eF g1.1 h2).1
 | .bin k p q,xs,ys,t,hp,h=>by
  obtain⟨r,h1,h2⟩:=Option.bind_eq_some_iff.1 (show(mk env p xs).bind _=some (ys,t)from h)
  have g1:=cR hp (show mk env p xs=some (r.1,r.2)from h1)
  obtain⟨s,h3,h4⟩:=Option.bind_eq_some_iff.1 h2
  have g2:=cR g1.1 (show mk env q r.1=some (s.1,s.2)from h3)
  exact(g1.trans g2).trans (eF g2.1 h4).1
 | .exp p q,xs,ys,t,hp,h=>by
  obtain⟨r,h1,h2⟩:=Option.bind_eq_some_iff.1 (show(mk env p xs).bind _=some (ys,t)from h)
  have g1:=cR hp (show mk env p xs=some (r.1,r.2)from h1)
  obtain⟨s,h3,h4⟩:=Option.bind_eq_some_iff.1 h2
  have g2:=cR g1.1 (show mk env q r.1=some (s.1,s.2)from h3)
  exact(g1.trans g2).trans (eF g2.1 (pV h4)).1
abbrev dO:=Int×(Int×List Int)
abbrev fI:=Int×(Int×(Int×Bool))
abbrev zP:dO:=((0:Int),((0:Int),[]))
abbrev zS:fI:=((0:Int),((0:Int),((0:Int),false)))
def qJ (s:Int):Int:=if s=40 then 2 else if s=123 then 3 else if s=91 then 4 else if s=35 then 5 else if s=107 then 6 else if s=94 then 7 else if s=42 then 8 else 0
def Gx (x:dO) (y:fI):Option mZ :=
 bif x.1==110 then(bif y.1==1&&(x.2.1==y.2.1 && !y.2.2.2)then some (.name x.2.1)else none)
 else bif x.1==36 then(bif (y.1==9&&(x.2.1==y.2.1 && !y.2.2.2))&&(decide (0≤x.2.1)&&decide (x.2.1<26))then some (.var x.2.1)else none)
 else bif x.1==63 then(bif (y.1==9&&(x.2.1==y.2.1&&y.2.2.2))&&(decide (0≤x.2.1)&&decide (x.2.1<26))then some (.ask x.2.1)else none)
 else none
def ww (s:Int):Bool:=s==110 || (s==36 || s==63)
def Ff (x:dO) (y:fI) (P:mZ):Option mZ :=
 bif !ww x.1&&(!(x.1==120)&&((qJ x.1==y.1)&&((y.1==5 || y.1==7)&&(y.2.2.2==P.asks))))then some (.un y.1 P)else none
def Mu (x:dO) (y:fI) (P Q:mZ):Option mZ :=
 bif !ww x.1&&(y.2.2.2==(P.asks || Q.asks))then(bif x.1==120 then(bif y.1==10 then some (.exp P Q)else none)else(bif (qJ x.1==y.1)&&(y.1==2 || (y.1==3 || (y.1==4 || (y.1==6 || y.1==8))))then some (.bin y.1 P Q)else none))else none
def nq (l1:List dO) (l2:List fI):Nat→Int→Int→Option mZ
 |0,_,_=>none
 |k+1,a,b=>bif aY a l1.length&&aY b l2.length then(match(l1.getD a.toNat zP).2.2 with
   |[]=>Gx (l1.getD a.toNat zP) (l2.getD b.toNat zS)
   |[p]=>(nq l1 l2 k p (l2.getD b.toNat zS).2.1).bind fun P=>Ff (l1.getD a.toNat zP) (l2.getD b.toNat zS) P
   |[p,q]=>(nq l1 l2 k p (l2.getD b.toNat zS).2.1).bind fun P=>(nq l1 l2 k q (l2.getD b.toNat zS).2.2.1).bind fun Q=>Mu (l1.getD a.toNat zP) (l2.getD b.toNat zS) P Q
   |_=>none)else none
theorem mf{x:dO}{y:fI}{P:mZ}(h:Gx x y=some P) :
  ((x.1==110)=true∧y.1=1∧y.2.1=x.2.1∧y.2.2.2=false∧P = .name x.2.1) ∨
  ((x.1==110)=false∧(x.1==36)=true∧y.1=9∧y.2.1=x.2.1∧y.2.2.2=false∧0≤x.2.1∧x.2.1<26∧P = .var x.2.1) ∨
  ((x.1==110)=false∧(x.1==36)=false∧(x.1==63)=true∧y.1=9∧y.2.1=x.2.1∧y.2.2.2=true∧0≤x.2.1∧x.2.1<26∧P = .ask x.2.1):=by
 unfold Gx at h
 cases h1:(x.1==110)with
 |true =>
  rw[h1,cond_true]at h
  cases hc:(y.1==1&&(x.2.1==y.2.1 && !y.2.2.2))with
  |false=>rw[hc]at h;cases h
  |true =>
   rw[hc]at h
   simp only[Bool.and_eq_true,beq_iff_eq,Bool.not_eq_true']at hc
   exact .inl ⟨rfl,hc.1,hc.2.1.symm,hc.2.2,(Option.some.inj h).symm⟩
 |false =>
  rw[h1,cond_false]at h
  cases h2:(x.1==36)with
  |true =>
   rw[h2,cond_true]at h
   cases hc:((y.1==9&&(x.2.1==y.2.1 && !y.2.2.2))&&(decide (0≤x.2.1)&&decide (x.2.1<26)))with
   |false=>rw[hc]at h;cases h
   |true =>
    rw[hc]at h
    simp only[Bool.and_eq_true,beq_iff_eq,Bool.not_eq_true',decide_eq_true_iff]at hc
    exact .inr (.inl ⟨rfl,rfl,hc.1.1,hc.1.2.1.symm,hc.1.2.2,hc.2.1,hc.2.2,(Option.some.inj h).symm⟩)
  |false =>
   rw[h2,cond_false]at h
   cases h3:(x.1==63)with
   |false=>rw[h3]at h;cases h
   |true =>
    rw[h3,cond_true]at h
    cases hc:((y.1==9&&(x.2.1==y.2.1&&y.2.2.2))&&(decide (0≤x.2.1)&&decide (x.2.1<26)))with
    |false=>rw[hc]at h;cases h
    |true =>
     rw[hc]at h
     simp only[Bool.and_eq_true,beq_iff_eq,decide_eq_true_iff]at hc
     exact .inr (.inr ⟨rfl,rfl,rfl,hc.1.1,hc.1.2.1.symm,hc.1.2.2,hc.2.1,hc.2.2,(Option.some.inj h).symm⟩)
theorem Bc{s:Int}(h:(!ww s)=true):(s==110)=false∧(s==36)=false∧(s==63)=false:=by
 unfold ww at h
 simpa using h
theorem lA{x:dO}{y:fI}{P R:mZ}(h:Ff x y P=some R) :
  ((x.1==110)=false∧(x.1==36)=false∧(x.1==63)=false)∧(x.1==120)=false∧qJ x.1=y.1∧(y.1=5∨y.1=7)∧y.2.2.2=P.asks∧R = .un y.1 P:=by
 unfold Ff at h
 cases hc:(!ww x.1&&(!(x.1==120)&&((qJ x.1==y.1)&&((y.1==5 || y.1==7)&&(y.2.2.2==P.asks)))))with
 |false=>rw[hc]at h;cases h
 |true =>
  rw[hc]at h
  rw[Bool.and_eq_true]at hc
  have h2:=hc.2
  simp only[Bool.and_eq_true,Bool.not_eq_true',beq_iff_eq,Bool.or_eq_true]at h2
  exact⟨Bc hc.1,h2.1,h2.2.1,h2.2.2.1,h2.2.2.2,(Option.some.inj h).symm⟩
theorem nC{x:dO}{y:fI}{P Q R:mZ}(h:Mu x y P Q=some R) :
  ((x.1==110)=false∧(x.1==36)=false∧(x.1==63)=false)∧y.2.2.2=(P.asks || Q.asks) ∧
  (((x.1==120)=true∧y.1=10∧R = .exp P Q)∨((x.1==120)=false∧qJ x.1=y.1∧(y.1=2∨y.1=3∨y.1=4∨y.1=6∨y.1=8)∧R = .bin y.1 P Q)):=by
 unfold Mu at h
 cases hc:(!ww x.1&&(y.2.2.2==(P.asks || Q.asks)))with
 |false=>rw[hc]at h;cases h
 |true =>
  rw[hc,cond_true]at h
  rw[Bool.and_eq_true]at hc
  refine⟨Bc hc.1,by simpa using hc.2,?_⟩
  cases h1:(x.1==120)with
  |true =>
   rw[h1,cond_true]at h
   cases h2:(y.1==10)with
   |false=>rw[h2]at h;cases h
   |true=>rw[h2]at h;exact .inl ⟨rfl,by simpa using h2,(Option.some.inj h).symm⟩
  |false =>
   rw[h1,cond_false]at h
   cases h2:((qJ x.1==y.1)&&(y.1==2 || (y.1==3 || (y.1==4 || (y.1==6 || y.1==8)))))with
   |false=>rw[h2]at h;cases h
   |true =>
    rw[h2]at h
    simp only[Bool.and_eq_true,beq_iff_eq,Bool.or_eq_true]at h2
    exact .inr ⟨rfl,h2.1,h2.2,(Option.some.inj h).symm⟩
theorem A8 (n:Nat){s:Int}(h:qJ s≠0):kf n s=some (qJ s):=by
 unfold kf qJ
 unfold qJ at h
 by_cases h1:s=40
 ·subst h1;rfl
 by_cases h2:s=123
 ·subst h2;rfl
 by_cases h3:s=91
 ·subst h3;rfl
 by_cases h4:s=35
 ·subst h4;rfl
 by_cases h5:s=107
 ·subst h5;rfl
 by_cases h6:s=94
 ·subst h6;rfl
 by_cases h7:s=42
 ·subst h7;rfl
 ·rw[if_neg h1,if_neg h2,if_neg h3,if_neg h4,if_neg h5,if_neg h6,if_neg h7]at h
  exact absurd rfl h
abbrev Vu:=List dO×List ab×List Int×Int
abbrev Mf:=List dO×List ab×Int
theorem Fo (n:Nat) (rec_:Vu→Option Mf) (m:Nat) (l:List dO) (xs:List ab) (env:List Int) (s c:Int) (ps:List Int) (u v p:Int) :
  aB n rec_ (m+2) (l,xs,env,s,c,ps,u,v,[p],(1:Int),(0:Int))=(rec_ (l,xs,env,p)).bind fun r2=>cond (decide (r2.2.2<(0:Int))) (some (Sum.inl (r2.1,r2.2.1,(-1:Int)))) (some (Sum.inr (r2.1,r2.2.1,s,c,ps,r2.2.2,v))):=by kernel_rfl
theorem Fn (n:Nat) (rec_:Vu→Option Mf) (m:Nat) (l:List dO) (xs:List ab) (env:List Int) (s c:Int) (ps:List Int) (u v p q:Int) :
  aB n rec_ (m+3) (l,xs,env,s,c,ps,u,v,[p,q],(2:Int),(0:Int))=(rec_ (l,xs,env,p)).bind fun r2=>cond (decide (r2.2.2<(0:Int))) (some (Sum.inl (r2.1,r2.2.1,(-1:Int)))) ((rec_ (r2.1,r2.2.1,env,q)).bind fun r3=>cond (decide (r3.2.2<(0:Int))) (some (Sum.inl (r3.1,r3.2.1,(-1:Int)))) (some (Sum.inr (r3.1,r3.2.1,s,c,ps,r2.2.2,r3.2.2)))):=by kernel_rfl
def Mg (l:List dO) (res:Option Mf) (m:Option (List ab×Int)):Prop:=∃ys t,res=some (l,ys,t)∧(match m with
 |some s=>(ys,t)=s
 |none=>t<0)
theorem sC{l:List dO}{xs:List ab}{m:Option (List ab×Int)}(h:∀r,m=some r→0≤r.2):Mg l (some (l,(jU xs m).1,(jU xs m).2)) m:=by
 refine⟨_,_,rfl,?_⟩
 cases m with
 |none=>show(-1:Int)<0;omega
 |some s=>rfl
theorem sP{xs:List ab}{kd a b:Int}(hp:aW xs=true):∀r,gV xs kd a b=some r→0≤r.2:=fun r h=>(eF hp (show _=some (r.1,r.2)from h)).1.2.1
theorem Ax{xs:List ab}{a e:Int}(hp:aW xs=true):∀r,nI xs a e=some r→0≤r.2:=fun r h=>(eF hp (pV (show _=some (r.1,r.2)from h))).1.2.1
theorem ny{l1:List dO}{l2:List fI}{k:Nat}{a b:Int}{P:mZ}(h:nq l1 l2 (k+1) a b=some P) :
    aY a l1.length=true∧aY b l2.length=true ∧
    (((l1.getD a.toNat zP).2.2=[]∧Gx (l1.getD a.toNat zP) (l2.getD b.toNat zS)=some P) ∨
     (∃p Q,(l1.getD a.toNat zP).2.2=[p]∧nq l1 l2 k p (l2.getD b.toNat zS).2.1=some Q∧Ff (l1.getD a.toNat zP) (l2.getD b.toNat zS) Q=some P) ∨
     (∃p q Q R,(l1.getD a.toNat zP).2.2=[p,q]∧nq l1 l2 k p (l2.getD b.toNat zS).2.1=some Q∧nq l1 l2 k q (l2.getD b.toNat zS).2.2.1=some R∧Mu (l1.getD a.toNat zP) (l2.getD b.toNat zS) Q R=some P)):=by
  unfold nq at h
  cases hb:(aY a l1.length&&aY b l2.length)with
  |false=>rw[hb]at h;cases h
  |true =>
    rw[hb,cond_true]at h
    rw[Bool.and_eq_true]at hb
    refine⟨hb.1,hb.2,?_⟩
    split at h
    · rename_i e;exact .inl ⟨e,h⟩
    · rename_i p e
      obtain⟨Q,h1,h2⟩:=Option.bind_eq_some_iff.1 h
      exact .inr (.inl ⟨p,Q,e,h1,h2⟩)
    · rename_i p q e
      obtain⟨Q,h1,h2⟩:=Option.bind_eq_some_iff.1 h
      obtain⟨R,h3,h4⟩:=Option.bind_eq_some_iff.1 h2
      exact .inr (.inr ⟨p,q,Q,R,e,h1,h3,h4⟩)
    · cases h
theorem w9{env:List Int}(he:env.length=26){i:Int}(h0:0≤i) (h1:i<26):aY i env.length=true:=by
 have e:i=((i.toNat:Nat):Int):=by omega
 rw[e]
 exact ax (by omega)
theorem Fm{env:List Int}(xs:List ab) (i:Int):(match mk env (.var i) xs with
  |some s=>(xs,env.getD i.toNat 0)=s
  |none=>env.getD i.toNat 0<0):=by
 by_cases hn:env.getD i.toNat 0<0
 ·have:mk env (.var i) xs=none:=by
   show(bif decide (env.getD i.toNat 0<0)then none else some (xs,env.getD i.toNat 0))=none
   rw[decide_eq_true hn];rfl
  rw[this];exact hn
 ·have:mk env (.var i) xs=some (xs,env.getD i.toNat 0):=by
   show(bif decide (env.getD i.toNat 0<0)then none else some (xs,env.getD i.toNat 0))=_
   rw[decide_eq_false hn];rfl
  rw[this]
theorem u5{l1:List dO}{l2:List fI}{env:List Int}(he:env.length=26):∀(k:Nat) (a b:Int) (P:mZ) (xs:List ab) (j:Nat),nq l1 l2 k a b=some P→k≤j→aW xs=true→Mg l1 (aw N0 j (l1,xs,env,a)) (mk env P xs)
 |0,a,b,P,xs,j,h,_,_=>by cases h
 |k+1,a,b,P,xs,0,h,hj,_=>by omega
 |k+1,a,b,P,xs,j+1,h,hj,hp=>by
  have hx:=cd hp
  obtain⟨hb,_,hc⟩:=ny h
  have e0:aw N0 (j+1) (l1,xs,env,a)=cond (aY a l1.length) (cond ((l1.getD a.toNat zP).1==(110:Int)) ((eZ N0 (xs,(l1.getD a.toNat zP).2.1)).bind fun r1=>(some (l1,r1.1,r1.2))) (cond ((l1.getD a.toNat zP).1==(36:Int)) (cond (aY (l1.getD a.toNat zP).2.1 env.length) (some (l1,xs,env.getD (l1.getD a.toNat zP).2.1.toNat (0:Int))) none) (cond ((l1.getD a.toNat zP).1==(63:Int)) (some (l1,xs,(-1:Int))) ((aB N0 (aw N0 j) N0 (l1,xs,env,(l1.getD a.toNat zP).1,(l1.getD a.toNat zP).2.1,(l1.getD a.toNat zP).2.2,(0:Int),(0:Int),(l1.getD a.toNat zP).2.2,((l1.getD a.toNat zP).2.2.length:Int),(0:Int))).bind fun e3=>(match e3 with
   |Sum.inl a4=>(some (a4.1,a4.2.1,a4.2.2))
   |Sum.inr b5=>(cond (b5.2.2.1==(120:Int)) ((eD N0 (b5.2.1,b5.2.2.2.2.2.2,b5.2.2.2.2.2.1)).bind fun r6=>(some (b5.1,r6.1,r6.2))) ((cW N0 (aw N0 j) (b5.1,b5.2.1,b5.2.2.1,b5.2.2.2.1,b5.2.2.2.2.1,b5.2.2.2.2.2.1,b5.2.2.2.2.2.2)).bind fun g7=>(some (g7.1,g7.2.1,g7.2.2))))))))) none:=rfl
  rw[e0,hb,cond_true]
  rcases hc with⟨hps,hl⟩|⟨p,Q,hps,h1,h2⟩|⟨p,q,Q,R,hps,h1,h2,h3⟩
  ·rcases mf hl with⟨c1,_,_,_,rfl⟩|⟨c1,c2,_,_,_,c6,c7,rfl⟩|⟨c1,c2,c3,_,_,_,_,_,rfl⟩
   ·rw[c1,cond_true,D2 hx,Option.bind_some]
    exact sC (sP hp)
   ·rw[c1,c2,cond_false,cond_true,w9 he c6 c7,cond_true]
    exact⟨_,_,rfl,Fm xs _⟩
   ·rw[c1,c2,c3,cond_false,cond_false,cond_true]
    exact⟨_,_,rfl,by show(-1:Int)<0;omega⟩
  ·obtain⟨⟨c1,c2,c3⟩,c4,c5,c6,c7,rfl⟩:=lA h2
   rw[c1,c2,c3,cond_false,cond_false,cond_false,hps]
   have el:(([p]:List Int).length:Int)=1:=rfl
   rw[el]
   obtain⟨ys,t,g1,g2⟩:=u5 he k p _ Q xs j h1 (by omega) hp
   have lp:=Fo N0 (aw N0 j) 999999999999999999999999999998 l1 xs env (l1.getD a.toNat zP).1 (l1.getD a.toNat zP).2.1 [p] 0 0 p
   rw[show(999999999999999999999999999998+2:Nat)=N0 from by kernel_rfl,g1,Option.bind_some]at lp
   rw[lp]
   dsimp only
   show Mg l1 _ ((mk env Q xs).bind fun r=>gV r.1 (l2.getD b.toNat zS).1 r.2 0)
   cases hm:mk env Q xs with
   |none =>
    rw[hm]at g2
    have g2:t<0:=g2
    rw[decide_eq_true g2,cond_true]
    exact⟨ys, -1,rfl,by show(-1:Int)<0;omega⟩
   |some s =>
    rw[hm]at g2
    have g2:(ys,t)=s:=g2
    subst g2
    have gr:=cR hp hm
    rw[decide_eq_false (by have:=gr.2.1;omega),cond_false,Option.bind_some,Option.bind_some]
    dsimp only
    have hk0:qJ (l1.getD a.toNat zP).1≠0:=by rw[c5];omega
    rw[c4,cond_false]
    unfold cW
    dsimp only
    rw[A8 N0 hk0,Option.bind_some,qn (cd gr.1),Option.bind_some,Option.bind_some,c5]
    exact sC (sP gr.1)
  ·obtain⟨⟨c1,c2,c3⟩,c4,c5⟩:=nC h3
   rw[c1,c2,c3,cond_false,cond_false,cond_false,hps]
   have el:(([p,q]:List Int).length:Int)=2:=rfl
   rw[el]
   obtain⟨ys,t,g1,g2⟩:=u5 he k p _ Q xs j h1 (by omega) hp
   have lp:=Fn N0 (aw N0 j) 999999999999999999999999999997 l1 xs env (l1.getD a.toNat zP).1 (l1.getD a.toNat zP).2.1 [p,q] 0 0 p q
   rw[show(999999999999999999999999999997+3:Nat)=N0 from by kernel_rfl,g1,Option.bind_some]at lp
   rw[lp]
   dsimp only
   have hmk:∀u:Nat,(mk env Q xs=none→mk env P xs=none)∧(∀s,mk env Q xs=some s→mk env R s.1=none→mk env P xs=none):=by
    intro u
    rcases c5 with⟨_,_,rfl⟩|⟨_,_,_,rfl⟩
    ·exact⟨fun e=>by show(mk env Q xs).bind _=none;rw[e];rfl,fun s e1 e2=>by show(mk env Q xs).bind _=none;rw[e1];show(mk env R s.1).bind _=none;rw[e2];rfl⟩
    ·exact⟨fun e=>by show(mk env Q xs).bind _=none;rw[e];rfl,fun s e1 e2=>by show(mk env Q xs).bind _=none;rw[e1];show(mk env R s.1).bind _=none;rw[e2];rfl⟩
   cases hm:mk env Q xs with
   |none =>
    rw[hm]at g2
    have g2:t<0:=g2
    rw[decide_eq_true g2,cond_true,(hmk 0).1 hm]
    exact⟨ys, -1,rfl,by show(-1:Int)<0;omega⟩
   |some s =>
    rw[hm]at g2
    have g2:(ys,t)=s:=g2
    subst g2
    have gr:=cR hp hm
    obtain⟨zs,u,g3,g4⟩:=u5 he k q _ R ys j h2 (by omega) gr.1
    rw[decide_eq_false (by have:=gr.2.1;omega),cond_false,g3,Option.bind_some]
    dsimp only
    cases hm2:mk env R ys with
    |none =>
     rw[hm2]at g4
     have g4:u<0:=g4
     rw[decide_eq_true g4,cond_true,(hmk 0).2 _ hm hm2]
     exact⟨zs, -1,rfl,by show(-1:Int)<0;omega⟩
    |some s2 =>
     rw[hm2]at g4
     have g4:(zs,u)=s2:=g4
     subst g4
     have gr2:=cR gr.1 hm2
     rw[decide_eq_false (by have:=gr2.2.1;omega),cond_false,Option.bind_some]
     dsimp only
     rcases c5 with⟨d1,d2,rfl⟩|⟨d1,d2,d3,rfl⟩
     ·rw[d1,cond_true,Co (cd gr2.1),Option.bind_some]
      have e:mk env (.exp Q R) xs=nI zs u t:=by
       show(mk env Q xs).bind _=_
       rw[hm]
       show(mk env R ys).bind _=_
       rw[hm2];rfl
      rw[e]
      exact sC (Ax gr2.1)
     ·have hk0:qJ (l1.getD a.toNat zP).1≠0:=by rw[d2];omega
      rw[d1,cond_false]
      unfold cW
      dsimp only
      rw[A8 N0 hk0,Option.bind_some,qn (cd gr2.1),Option.bind_some,Option.bind_some,d2]
      have e:mk env (.bin (l2.getD b.toNat zS).1 Q R) xs=gV zs (l2.getD b.toNat zS).1 t u:=by
       show(mk env Q xs).bind _=_
       rw[hm]
       show(mk env R ys).bind _=_
       rw[hm2];rfl
      rw[e]
      exact sC (sP gr2.1)
abbrev OU:=List dO×Int×Int
abbrev Mh:=List dO×Bool
theorem Jt (n:Nat) (rec_:OU→Option Mh) (m:Nat) (l:List dO) (s c v p:Int) (ps:List Int) :
  aZ n rec_ (m+2) (l,v,s,c,ps,[p],(1:Int),(0:Int))=(rec_ (l,p,v)).bind fun r1=>cond r1.2 (some (Sum.inl (r1.1,true))) (some (Sum.inr (r1.1,v,s,c,ps))):=by kernel_rfl
theorem Js (n:Nat) (rec_:OU→Option Mh) (m:Nat) (l:List dO) (s c v p q:Int) (ps:List Int) :
  aZ n rec_ (m+3) (l,v,s,c,ps,[p,q],(2:Int),(0:Int))=(rec_ (l,p,v)).bind fun r1=>cond r1.2 (some (Sum.inl (r1.1,true))) ((rec_ (r1.1,q,v)).bind fun r2=>cond r2.2 (some (Sum.inl (r2.1,true))) (some (Sum.inr (r2.1,v,s,c,ps)))):=by kernel_rfl
theorem yc{l1:List dO}{l2:List fI}:∀(k:Nat) (a b:Int) (P:mZ) (j:Nat),nq l1 l2 k a b=some P→k≤j→aD N0 j (l1,a,(63:Int))=some (l1,P.asks)
 |0,a,b,P,j,h,_=>by cases h
 |k+1,a,b,P,0,h,hj=>by omega
 |k+1,a,b,P,j+1,h,hj=>by
  obtain⟨hb,_,hc⟩:=ny h
  have e0:aD N0 (j+1) (l1,a,(63:Int))=cond (aY a l1.length) ((aZ N0 (aD N0 j) N0 (l1,(63:Int),(l1.getD a.toNat zP).1,(l1.getD a.toNat zP).2.1,(l1.getD a.toNat zP).2.2,(l1.getD a.toNat zP).2.2,((l1.getD a.toNat zP).2.2.length:Int),(0:Int))).bind fun e2=>(match e2 with
   |Sum.inl a3=>(some (a3.1,a3.2))
   |Sum.inr b4=>(some (b4.1,(b4.2.2.1==b4.2.1))))) none:=rfl
  rw[e0,hb,cond_true]
  rcases hc with⟨hps,hl⟩|⟨p,Q,hps,h1,h2⟩|⟨p,q,Q,R,hps,h1,h2,h3⟩
  ·rw[hps]
   have lp:aZ N0 (aD N0 j) N0 (l1,(63:Int),(l1.getD a.toNat zP).1,(l1.getD a.toNat zP).2.1,[],[],(([]:List Int).length:Int),(0:Int))=some (Sum.inr (l1,(63:Int),(l1.getD a.toNat zP).1,(l1.getD a.toNat zP).2.1,[])):=by
    rw[show N0=999999999999999999999999999999+1 from by kernel_rfl];rfl
   rw[lp,Option.bind_some]
   show some (l1,((l1.getD a.toNat zP).1==(63:Int)))=_
   rcases mf hl with⟨c1,_,_,_,rfl⟩|⟨c1,c2,_,_,_,c6,c7,rfl⟩|⟨c1,c2,c3,_,_,_,_,_,rfl⟩
   ·have:(l1.getD a.toNat zP).1=110:=by simpa using c1
    rw[this];rfl
   ·have:(l1.getD a.toNat zP).1=36:=by simpa using c2
    rw[this];rfl
   ·rw[c3];rfl
  ·obtain⟨⟨c1,c2,c3⟩,c4,c5,c6,c7,rfl⟩:=lA h2
   rw[hps]
   have lp:=Jt N0 (aD N0 j) 999999999999999999999999999998 l1 (l1.getD a.toNat zP).1 (l1.getD a.toNat zP).2.1 63 p [p]
   rw[show(999999999999999999999999999998+2:Nat)=N0 from by kernel_rfl,yc k p _ Q j h1 (by omega),Option.bind_some]at lp
   have el:(([p]:List Int).length:Int)=1:=rfl
   rw[el,lp]
   show(cond Q.asks (some (Sum.inl (l1,true))) (some (Sum.inr (l1,(63:Int),(l1.getD a.toNat zP).1,(l1.getD a.toNat zP).2.1,[p])))).bind _=some (l1,Q.asks)
   cases Q.asks with
   |true=>rfl
   |false=>rw[cond_false,Option.bind_some];dsimp only;rw[c3]
  ·obtain⟨⟨c1,c2,c3⟩,c4,c5⟩:=nC h3
   rw[hps]
   have lp:=Js N0 (aD N0 j) 999999999999999999999999999997 l1 (l1.getD a.toNat zP).1 (l1.getD a.toNat zP).2.1 63 p q [p,q]
   rw[show(999999999999999999999999999997+3:Nat)=N0 from by kernel_rfl,yc k p _ Q j h1 (by omega),Option.bind_some]at lp
   dsimp only at lp
   rw[yc k q _ R j h2 (by omega),Option.bind_some]at lp
   have el:(([p,q]:List Int).length:Int)=2:=rfl
   rw[el,lp]
   have ha:P.asks=(Q.asks || R.asks):=by
    rcases c5 with⟨_,_,rfl⟩|⟨_,_,_,rfl⟩<;>rfl
   rw[ha]
   cases Q.asks with
   |true=>rfl
   |false =>
    rw[cond_false]
    cases R.asks with
    |true=>rfl
    |false=>rw[cond_false,Option.bind_some];dsimp only;rw[c3];rfl
abbrev LQ:=List ab×Int
def tA (res:Option LQ) (m:Option (List ab×Int)):Prop:=∃ys t,res=some (ys,t)∧(match m with
 |some s=>(ys,t)=s
 |none=>t=-1)
theorem sB{xs:List ab}{m:Option (List ab×Int)}(h:∀r,m=some r→0≤r.2):tA (some ((jU xs m).1,(jU xs m).2)) m:=by
 refine⟨_,_,rfl,?_⟩
 cases m with
 |none=>rfl
 |some s=>rfl
theorem M4{env:List Int}(hv:∀i:Nat,env.getD i 0<0→env.getD i 0=-1) (xs:List ab) (i:Int):(match mk env (.var i) xs with
  |some s=>(xs,env.getD i.toNat 0)=s
  |none=>env.getD i.toNat 0=-1):=by
 have h:=Fm (env:=env) xs i
 cases q:mk env (.var i) xs with
 |none=>rw[q]at h;exact hv _ h
 |some s=>rw[q]at h;exact h
theorem Dt (n:Nat) (y:fI):cf n (y.1,y.2.1,y.2.2.1,y.2.2.2)=cond (y.1==(9:Int)) (some (0:Int)) (cond (y.1==(10:Int)) (some (2:Int)) ((kp n y.1).bind fun r1=>(some r1))):=rfl
theorem ru{l1:List dO}{l2:List fI}{env:List Int}(he:env.length=26) (hv:∀i:Nat,env.getD i 0<0→env.getD i 0=-1):∀(k:Nat) (a b:Int) (P:mZ) (xs:List ab) (j:Nat),nq l1 l2 k a b=some P→k≤j→aW xs=true→tA (bX N0 j (xs,env,l2,b)) (mk env P xs)
 |0,a,b,P,xs,j,h,_,_=>by cases h
 |k+1,a,b,P,xs,0,h,hj,_=>by omega
 |k+1,a,b,P,xs,j+1,h,hj,hp=>by
  have hx:=cd hp
  obtain⟨_,hb,hc⟩:=ny h
  have e0:bX N0 (j+1) (xs,env,l2,b)=cond (aY b l2.length) (cond (l2.getD b.toNat zS).2.2.2 (some (xs,(-1:Int))) (cond ((l2.getD b.toNat zS).1==(9:Int)) ((eA N0 (bX N0 j) (env,xs,[],(l2.getD b.toNat zS).1,(l2.getD b.toNat zS).2.1,(l2.getD b.toNat zS).2.2.1,(l2.getD b.toNat zS).2.2.2)).bind fun g1=>(some (g1.1,g1.2))) (cond ((l2.getD b.toNat zS).1==(1:Int)) ((bU N0 (xs,(l2.getD b.toNat zS).2.1)).bind fun r2=>(some (r2.1,r2.2))) ((bX N0 j (xs,env,l2,(l2.getD b.toNat zS).2.1)).bind fun r3=>(cond (decide (r3.2<(0:Int))) (some (xs,(-1:Int))) ((cf N0 ((l2.getD b.toNat zS).1,(l2.getD b.toNat zS).2.1,(l2.getD b.toNat zS).2.2.1,(l2.getD b.toNat zS).2.2.2)).bind fun r4=>(cond (r4==(1:Int)) ((bb N0 (r3.1,(l2.getD b.toNat zS).1,r3.2,(0:Int))).bind fun r5=>(some (r5.1,r5.2))) ((bX N0 j (r3.1,env,l2,(l2.getD b.toNat zS).2.2.1)).bind fun r6=>(cond (decide (r6.2<(0:Int))) (some (xs,(-1:Int))) (cond ((l2.getD b.toNat zS).1==(10:Int)) ((dV N0 (r6.1,r6.2,r3.2)).bind fun r7=>(some (r7.1,r7.2))) ((bb N0 (r6.1,(l2.getD b.toNat zS).1,r3.2,r6.2)).bind fun r8=>(some (r8.1,r8.2))))))))))))) none:=rfl
  rw[e0,hb,cond_true]
  have fin2:∀(z:Option LQ),(l2.getD b.toNat zS).2.2.2=P.asks→(P.asks=false→tA z (mk env P xs))→tA (cond (l2.getD b.toNat zS).2.2.2 (some (xs,(-1:Int))) z) (mk env P xs):=fun z q1 q2=>by
   rw[q1]
   cases hA:P.asks with
   |true =>
    rw[cond_true,p9 xs hA]
    exact⟨xs, -1,rfl,rfl⟩
   |false=>rw[cond_false];exact q2 hA
  rcases hc with⟨hps,hl⟩|⟨p,Q,hps,h1,h2⟩|⟨p,q,Q,R,hps,h1,h2,h3⟩
  ·rcases mf hl with⟨c1,c2,c3,c4,rfl⟩|⟨_,c1,c2,c3,c4,c6,c7,rfl⟩|⟨_,_,c1,c2,c3,c4,c6,c7,rfl⟩
   ·rw[c4,c2,c3,cond_false]
    show tA ((bU N0 (xs,(l1.getD a.toNat zP).2.1)).bind fun r2=>(some (r2.1,r2.2))) _
    rw[j8 hp,Option.bind_some]
    exact sB (sP hp)
   ·rw[c4,c2,c3,cond_false]
    show tA ((eA N0 (bX N0 j) (env,xs,[],_,(l1.getD a.toNat zP).2.1,_,_)).bind fun g1=>(some (g1.1,g1.2))) _
    unfold eA
    dsimp only
    rw[w9 he c6 c7,cond_true,Option.bind_some]
    exact⟨_,_,rfl,M4 hv xs _⟩
   ·rw[c4,cond_true]
    exact⟨xs, -1,rfl,rfl⟩
  ·obtain⟨_,c4,c5,c6,c7,rfl⟩:=lA h2
   refine fin2 _ c7 fun hA=>?_
   have n9:((l2.getD b.toNat zS).1==(9:Int))=false:=by rw[beq_eq_false_iff_ne];omega
   have n1:((l2.getD b.toNat zS).1==(1:Int))=false:=by rw[beq_eq_false_iff_ne];omega
   have hpt:cf N0 ((l2.getD b.toNat zS).1,(l2.getD b.toNat zS).2.1,(l2.getD b.toNat zS).2.2.1,(l2.getD b.toNat zS).2.2.2)=some 1:=by
    rw[Dt]
    rcases c6 with e|e<;>rw[e]<;>rfl
   rw[n9,n1,cond_false,cond_false]
   obtain⟨ys,t,g1,g2⟩:=ru he hv k p _ Q xs j h1 (by omega) hp
   rw[g1,Option.bind_some]
   dsimp only
   show tA _ ((mk env Q xs).bind fun r=>gV r.1 (l2.getD b.toNat zS).1 r.2 0)
   cases hm:mk env Q xs with
   |none =>
    rw[hm]at g2
    have g2:t=-1:=g2
    rw[decide_eq_true (by omega:t<0),cond_true]
    exact⟨xs, -1,rfl,rfl⟩
   |some s =>
    rw[hm]at g2
    have g2:(ys,t)=s:=g2
    subst g2
    have gr:=cR hp hm
    rw[decide_eq_false (by have:=gr.2.1;omega),cond_false,hpt,Option.bind_some,Option.bind_some]
    show tA ((bb N0 (ys,(l2.getD b.toNat zS).1,t,(0:Int))).bind fun r5=>(some (r5.1,r5.2))) _
    rw[ix gr.1,Option.bind_some]
    exact sB (sP gr.1)
  ·obtain⟨_,c4,c5⟩:=nC h3
   have hasks:P.asks=(Q.asks || R.asks):=by
    rcases c5 with⟨_,_,rfl⟩|⟨_,_,_,rfl⟩<;>rfl
   refine fin2 _ (c4.trans hasks.symm) fun hA=>?_
   have n9:((l2.getD b.toNat zS).1==(9:Int))=false:=by
    rw[beq_eq_false_iff_ne]
    rcases c5 with⟨_,e,_⟩|⟨_,_,e,_⟩<;>omega
   have n1:((l2.getD b.toNat zS).1==(1:Int))=false:=by
    rw[beq_eq_false_iff_ne]
    rcases c5 with⟨_,e,_⟩|⟨_,_,e,_⟩<;>omega
   have hpt:cf N0 ((l2.getD b.toNat zS).1,(l2.getD b.toNat zS).2.1,(l2.getD b.toNat zS).2.2.1,(l2.getD b.toNat zS).2.2.2)=some 2:=by
    rw[Dt]
    rcases c5 with⟨_,e,_⟩|⟨_,_,e,_⟩
    ·rw[e];rfl
    ·rcases e with e|e|e|e|e<;>rw[e]<;>rfl
   rw[n9,n1,cond_false,cond_false]
   have hmk:(mk env Q xs=none→mk env P xs=none)∧(∀s,mk env Q xs=some s→mk env R s.1=none→mk env P xs=none):=by
    rcases c5 with⟨_,_,rfl⟩|⟨_,_,_,rfl⟩
    ·exact⟨fun e=>by show(mk env Q xs).bind _=none;rw[e];rfl,fun s e1 e2=>by show(mk env Q xs).bind _=none;rw[e1];show(mk env R s.1).bind _=none;rw[e2];rfl⟩
    ·exact⟨fun e=>by show(mk env Q xs).bind _=none;rw[e];rfl,fun s e1 e2=>by show(mk env Q xs).bind _=none;rw[e1];show(mk env R s.1).bind _=none;rw[e2];rfl⟩
   obtain⟨ys,t,g1,g2⟩:=ru he hv k p _ Q xs j h1 (by omega) hp
   rw[g1,Option.bind_some]
   dsimp only
   cases hm:mk env Q xs with
   |none =>
    rw[hm]at g2
    have g2:t=-1:=g2
    rw[decide_eq_true (by omega:t<0),cond_true,hmk.1 hm]
    exact⟨xs, -1,rfl,rfl⟩
   |some s =>
    rw[hm]at g2
    have g2:(ys,t)=s:=g2
    subst g2
    have gr:=cR hp hm
    rw[decide_eq_false (by have:=gr.2.1;omega),cond_false,hpt,Option.bind_some]
    show tA ((bX N0 j (ys,env,l2,(l2.getD b.toNat zS).2.2.1)).bind fun r6=>(cond (decide (r6.2<(0:Int))) (some (xs,(-1:Int))) (cond ((l2.getD b.toNat zS).1==(10:Int)) ((dV N0 (r6.1,r6.2,t)).bind fun r7=>(some (r7.1,r7.2))) ((bb N0 (r6.1,(l2.getD b.toNat zS).1,t,r6.2)).bind fun r8=>(some (r8.1,r8.2)))))) _
    obtain⟨zs,u,g3,g4⟩:=ru he hv k q _ R ys j h2 (by omega) gr.1
    rw[g3,Option.bind_some]
    dsimp only
    cases hm2:mk env R ys with
    |none =>
     rw[hm2]at g4
     have g4:u=-1:=g4
     rw[decide_eq_true (by omega:u<0),cond_true,hmk.2 _ hm hm2]
     exact⟨xs, -1,rfl,rfl⟩
    |some s2 =>
     rw[hm2]at g4
     have g4:(zs,u)=s2:=g4
     subst g4
     have gr2:=cR gr.1 hm2
     rw[decide_eq_false (by have:=gr2.2.1;omega),cond_false]
     rcases c5 with⟨d1,d2,rfl⟩|⟨d1,d2,d3,rfl⟩
     ·rw[d2]
      show tA ((dV N0 (zs,u,t)).bind fun r7=>(some (r7.1,r7.2))) _
      rw[uC gr2.1,Option.bind_some]
      have e:mk env (.exp Q R) xs=nI zs u t:=by
       show(mk env Q xs).bind _=_
       rw[hm]
       show(mk env R ys).bind _=_
       rw[hm2];rfl
      rw[e]
      exact sB (Ax gr2.1)
     ·have n10:((l2.getD b.toNat zS).1==(10:Int))=false:=by rw[beq_eq_false_iff_ne];omega
      rw[n10,cond_false,ix gr2.1,Option.bind_some]
      have e:mk env (.bin (l2.getD b.toNat zS).1 Q R) xs=gV zs (l2.getD b.toNat zS).1 t u:=by
       show(mk env Q xs).bind _=_
       rw[hm]
       show(mk env R ys).bind _=_
       rw[hm2];rfl
      rw[e]
      exact sB (sP gr2.1)
theorem Jb {α β:Type}(f:α→β) (c:Bool) (a b:Option α):Option.map f (cond c a b)=cond c (Option.map f a) (Option.map f b):=by cases c<;>rfl
theorem Jc {α β γ:Type}(f:β→γ) (x:Option α) (g:α→Option β):Option.map f (x.bind g)=x.bind fun a=>Option.map f (g a):=by cases x<;>rfl
theorem JL {α β γ:Type}(f:α→β) (x:Option α) (g:β→Option γ):(Option.map f x).bind g=x.bind fun a=>g (f a):=by cases x<;>rfl
theorem FI {α β:Type}(f:α→Option β) (c:Bool) (a b:Option α):(cond c a b).bind f=cond c (a.bind f) (b.bind f):=by cases c<;>rfl
theorem At {α β:Type}(f:α→β) (a:α):Option.map f (some a)=some (f a):=rfl
theorem IW {α β:Type}(f:α→β):Option.map f (none:Option α)=none:=rfl
theorem oM (n:Nat):∀(k:Nat) (xs:List ab) (env:List Int) (l:List fI) (b:Int),cH n k (xs,env,l,b)=(bX n k (xs,env,l,b)).map (fun r=>(env,r.1,r.2))
 |0,xs,env,l,b=>rfl
 |k+1,xs,env,l,b=>by
  have ih:=oM n k
  show jb n (cH n k) (xs,env,l,b)=(kD n (bX n k) (xs,env,l,b)).map _
  simp only[jb,kD,ia,eA,ih,Jb,Jc,JL,At,IW,FI,Option.bind_some,Option.bind_none]
def qF (w p:Int):List (Int×ByteArray):=(cO N0 (w,p)).getD []
theorem pO{w p:Int}(hw:w=1∨w=2∨w=3) (hp:p=0∨p=1):eN N0 (w,p)=some (qF w p,true)∧cO N0 (w,p)=some (qF w p)∧(qF w p).length=5:=by
 rcases hw with rfl|rfl|rfl<;>rcases hp with rfl|rfl
 all_goals exact⟨by kernel_rfl,by kernel_rfl,by kernel_rfl⟩
def tz (T:ByteArray) (P:mZ):Prop:=∃b l1 l2 k,dA N0 T=some (b,true,l1)∧dX N0 T=some (l2,true)∧k≤N0∧nq l1 l2 k ((l1.length:Int)-1) ((l2.length:Int)-1)=some P∧l1.length≤4294967296∧l2.length≤4294967296
def MN (T:ByteArray) (f:mZ→Bool):Bool:=match dA N0 T,dX N0 T with
 |some r,some q=>r.2.1&&(q.2&&((match nq r.2.2 q.1 40 ((r.2.2.length:Int)-1) ((q.1.length:Int)-1)with|some P=>f P|none=>false)&&(Nat.ble r.2.2.length 300&&Nat.ble q.1.length 300)))
 |_,_=>false
theorem Gc{T:ByteArray}{f:mZ→Bool}(h:MN T f=true):∃P,tz T P∧f P=true:=by
 unfold MN at h
 split at h
 ·rename_i r q e1 e2
  rw[Bool.and_eq_true,Bool.and_eq_true,Bool.and_eq_true,Bool.and_eq_true]at h
  obtain⟨h1,h2,h3,h4,h5⟩:=h
  obtain⟨b,o,l1⟩:=r
  obtain⟨l2,o2⟩:=q
  have h1:o=true:=h1
  have h2:o2=true:=h2
  subst h1;subst h2
  split at h3
  ·rename_i P e3
   exact⟨P,⟨b,l1,l2,40,e1,e2,by decide,e3,Nat.le_trans (show l1.length≤300 from Nat.le_of_ble_eq_true h4) (by decide),Nat.le_trans (show l2.length≤300 from Nat.le_of_ble_eq_true h5) (by decide)⟩,h3⟩
  ·cases h3
 ·cases h
def U1 (a:Int×ByteArray):Bool:=a.1==1&&(a.2.size==1&&(decide (97≤bt a.2 0)&&decide (bt a.2 0≤122))) || (a.1==3&&MN a.2 (fun _=>true) || ((a.1==2 || a.1==4)&&MN a.2 (fun P => !P.asks)))
def N5 (w p:Int):Bool:=(qF w p).all U1&&(List.range 5).all (fun i=>(((qF w p).getD i ((0:Int),(⟨#[]⟩:ByteArray))).1==4)==Nat.beq i 4)
theorem IB{w p:Int}(hw:w=1∨w=2∨w=3) (hp:p=0∨p=1):N5 w p=true:=by
 rcases hw with rfl|rfl|rfl<;>rcases hp with rfl|rfl
 all_goals kernel_rfl
theorem uM (h:some false=some true):False:=by cases h
structure G5 (xs:List ab) (x:bx):Prop where
 way:x.1=1∨x.1=2∨x.1=3
 side:x.2.1=0∨x.2.1=1
 me:0≤x.2.2.1∧x.2.2.1≤4
 peer:0≤x.2.2.2.1∧x.2.2.2.1≤4
 ne:x.2.2.1≠x.2.2.2.1
 env:eE xs (um x)=true
 len:(um x).length=26
 pool:aW xs=true
 at0:0≤x.2.2.2.2.1∧x.2.2.2.2.1≤5
 done:dn x=(x.2.2.2.2.1==5)
 live:dn x=true→x.2.2.2.2.2.2.2.1=false
 key:dn x=true→ci xs x.2.2.2.2.2.2.2.2=true
 no:dn x=false→x.2.2.2.2.2.2.2.2=-1
theorem Cq{xs:List ab}(hx:xs.length≤4294967296){x:bx}(he:(um x).length≤4294967296) (h:jq xs x=true):G5 xs x:=by
 have h1:=(sJ hx he).1
 rw[h]at h1
 obtain⟨w,p,a,b,at_,env,d,dd,key⟩:=x
 dsimp only at h1
 unfold fH at h1
 simp only[ql N0 n0 hx (show env.length≤4294967296 from he),se,Option.bind_some]at h1
 by_cases hr:(w=1∨w=2∨w=3)∧(p=0∨p=1)
 ·obtain⟨r1,r2,r3⟩:=pO hr.1 hr.2
  rw[r1]at h1
  simp only[Option.bind_some,eC,lF N0 hx,r3,Bool.not_true,cond_false]at h1
  cases ha:(decide (a≥0)&&decide (a≤4))with
  |false=>rw[ha]at h1;exact(uM h1).elim
  |true =>
   cases hb:(decide (b≥0)&&decide (b≤4))with
   |false=>rw[ha,hb]at h1;exact(uM h1).elim
   |true =>
    cases hab:(a==b)with
    |true=>rw[ha,hb,hab]at h1;exact(uM h1).elim
    |false =>
     cases h2:(eE xs env&&(decide (env.length=26)&&(decide (xs.length≤500)&&cp N0 [] xs)))with
     |false=>rw[ha,hb,hab,h2]at h1;exact(uM h1).elim
     |true =>
      cases h3:(decide (at_≥0)&&decide (at_≤((5:Nat):Int)))with
      |false=>rw[ha,hb,hab,h2,h3]at h1;exact(uM h1).elim
      |true =>
       rw[ha,hb,hab,h2,h3]at h1
       simp only[Bool.not_true,cond_false]at h1
       rw[Bool.and_eq_true,decide_eq_true_iff,decide_eq_true_iff]at ha hb h3
       rw[Bool.and_eq_true,Bool.and_eq_true]at h2
       have h5:(at_==((5:Nat):Int))=(at_==5):=rfl
       rw[h5]at h1
       cases h4:((at_==5) != d)with
       |true=>rw[h4]at h1;exact(uM h1).elim
       |false =>
        rw[h4,cond_false]at h1
        have h6:d=(at_==5):=by
         rw[bne_eq_false_iff_eq]at h4
         exact h4.symm
        refine⟨hr.1,hr.2,⟨ha.1,ha.2⟩,⟨hb.1,hb.2⟩,by simpa using hab,h2.1,of_decide_eq_true h2.2.1,h2.2.2,⟨h3.1,h3.2⟩,h6,fun hd=>?_,fun hd=>?_,fun hd=>?_⟩
        ·have hd:d=true:=hd
         subst hd
         show dd=false
         cases dd with
         |false=>rfl
         |true=>exact(uM h1).elim
        ·have hd:d=true:=hd
         subst hd
         cases dd with
         |false=>exact Option.some.inj h1
         |true=>exact(uM h1).elim
        ·have hd:d=false:=hd
         subst hd
         have:(key == -1)=true:=Option.some.inj h1
         exact by simpa using this
 ·rw[(De w p hr).1]at h1
  exact(uM h1).elim
theorem rY{xs:List ab}:∀{env:List Int},eE xs env=true→∀i:Nat,env.getD i 0<0→env.getD i 0=-1
 |[],_,i,h=>by simp at h
 |v::r,hb,i,h=>by
  have hb:((v == -1 || ci xs v)&&eE xs r)=true:=hb
  rw[Bool.and_eq_true,Bool.or_eq_true]at hb
  match i with
  |0 =>
   have h:v<0:=h
   rcases hb.1 with q|q
   ·exact by simpa using q
   ·unfold ci at q
    simp at q
    omega
  |i+1=>exact rY hb.2 i h
theorem GP{xs:List ab}(hx:xs.length≤4294967296):cg N0 xs=some xs:=by
 unfold cg gQ
 rw[decide_eq_true hx];rfl
theorem vL{xs:List ab}(hx:xs.length≤4294967296):aU N0 xs=some xs:=by
 unfold aU
 have:aO (([]:List ab).length+xs.length)=true:=by
  unfold aO
  simp
  omega
 rw[this];rfl
theorem Fb{T:ByteArray}{P:mZ}(hT:tz T P){xs:List ab}(hp:aW xs=true){env:List Int}(he:env.length=26) (hv:eE xs env=true):ni N0 (xs,env,T)=some (jU xs (mk env P xs)):=by
 obtain⟨b,l1,l2,k,e1,e2,hk,hd,hl1,hl2⟩:=hT
 have hx:=cd hp
 have hP:(decide (xs.length≤500)&&cp N0 [] xs)=true:=hp
 unfold ni
 dsimp only
 rw[rQ N0 n0 (by omega),hP]
 simp only[Option.bind_some,Bool.not_true,cond_false,e1]
 rw[ql N0 n0 (by omega) (by omega),hv,decide_eq_true he,hP]
 simp only[Option.bind_some,Bool.and_true,Bool.not_true,cond_false]
 have ew:bQ N0 l1=some (l1,(l1.length:Int)-1):=by
  unfold bQ
  rw[am (by omega) (by omega)]
 rw[ew]
 simp only[Option.bind_some]
 rw[yc k _ _ P N0 hd hk]
 simp only[Option.bind_some]
 cases hA:P.asks with
 |true=>rw[cond_true,GP (by omega),p9 xs hA];rfl
 |false =>
  rw[cond_false,GP (by omega)]
  simp only[Option.bind_some,ew]
  obtain⟨ys,t,g1,g2⟩:=u5 he k _ _ P xs N0 hd hk hp
  rw[g1]
  simp only[Option.bind_some]
  cases hm:mk env P xs with
  |none =>
   rw[hm]at g2
   have g2:t<0:=g2
   rw[decide_eq_true g2,cond_true];rfl
  |some s =>
   rw[hm]at g2
   have g2:(ys,t)=s:=g2
   subst g2
   have gr:=cR hp hm
   rw[decide_eq_false (by have:=gr.2.1;omega),cond_false];rfl
theorem y0{T:ByteArray}{P:mZ}(hT:tz T P){xs:List ab}(hp:aW xs=true){env:List Int}(he:env.length=26) (hv:eE xs env=true):∃l2 ys t,dX N0 T=some (l2,true)∧l2.length≤4294967296∧bX N0 N0 (xs,env,l2,(l2.length:Int)-1)=some (ys,t)∧(match mk env P xs with
  |some s=>(ys,t)=s
  |none=>t=-1):=by
 obtain⟨b,l1,l2,k,e1,e2,hk,hd,hl1,hl2⟩:=hT
 obtain⟨ys,t,g1,g2⟩:=ru he (rY hv) k _ _ P xs N0 hd hk hp
 exact⟨l2,ys,t,e2,hl2,g1,g2⟩
theorem BW{w p:Int}(hw:w=1∨w=2∨w=3) (hp:p=0∨p=1){i:Nat}(hi:i<5) (a:Int×ByteArray) (ha:a=(qF w p).getD i ((0:Int),(⟨#[]⟩:ByteArray))) :
  (a.1=4↔i=4)∧((a.1=1∧a.2.size=1∧97≤bt a.2 0∧bt a.2 0≤122)∨(a.1=3∧∃P,tz a.2 P)∨((a.1=2∨a.1=4)∧∃P,tz a.2 P∧P.asks=false)):=by
 have hb:=IB hw hp
 obtain⟨_,_,hl⟩:=pO hw hp
 unfold N5 at hb
 rw[Bool.and_eq_true]at hb
 have h2:=List.all_eq_true.1 hb.2 i (List.mem_range.2 hi)
 rw[←ha]at h2
 have hm:a∈qF w p:=by
  rw[ha,List.getD_eq_getElem?_getD,List.getElem?_eq_getElem (by omega)]
  exact List.getElem_mem _
 have h1:=List.all_eq_true.1 hb.1 a hm
 refine⟨?_,?_⟩
 ·have h2:(a.1==4)=Nat.beq i 4:=by simpa using h2
  constructor
  ·intro h
   rw[h]at h2
   exact Nat.eq_of_beq_eq_true h2.symm
  ·intro h
   rw[h]at h2
   have:(a.1==4)=true:=h2
   exact by simpa using this
 ·unfold U1 at h1
  rw[Bool.or_eq_true,Bool.or_eq_true,Bool.and_eq_true,Bool.and_eq_true,Bool.and_eq_true,Bool.and_eq_true,Bool.and_eq_true,Bool.or_eq_true]at h1
  rcases h1 with⟨h1,h3,h4,h5⟩|⟨h1,h3⟩|⟨h1,h3⟩
  ·exact .inl ⟨by simpa using h1,by simpa using h3,of_decide_eq_true h4,of_decide_eq_true h5⟩
  ·obtain⟨P,hP,_⟩:=Gc h3
   exact .inr (.inl ⟨by simpa using h1,P,hP⟩)
  ·obtain⟨P,hP,hA⟩:=Gc h3
   exact .inr (.inr ⟨by simpa using h1,P,hP,by simpa using hA⟩)
section
variable{xs:List ab}{kn:List Int}{li:List bx}{fr:Int}{gv sh:List Int}{lg:List bu}{k:Int}
theorem EC (hw:dJ xs kn li fr gv sh lg=true){i:Nat}(hi:i<li.length):jq xs (li.getD i zI)=true:=by
 unfold dJ at hw
 rw[Bool.and_eq_true,Bool.and_eq_true,Bool.and_eq_true,Bool.and_eq_true,Bool.and_eq_true,Bool.and_eq_true]at hw
 have h:=hw.2.2.2.2.2.1
 unfold rN at h
 exact ee.1 h i (Nat.zero_le _) (by omega)
theorem tD (hs:Small xs kn li gv sh lg) (hw:dJ xs kn li fr gv sh lg=true){i:Nat}(hi:i<li.length):G5 xs (li.getD i zI):=Cq hs.fx (hs.fe i hi) (EC hw hi)
def iT (xs:List ab) (li:List bx) (k:Int):Int:=(cG N0 (xs,[],li,0,[],[],[],k)).getD 0
theorem wz{n k:Int}(h:gB n k=true):0≤k∧k<n:=by
 unfold gB at h
 rw[Bool.and_eq_true,decide_eq_true_iff,decide_eq_true_iff]at h
 omega
theorem dD{xs:List ab}{t:Int}:ci xs t=true↔0≤t∧t<(xs.length:Int):=by
 unfold ci
 rw[Bool.and_eq_true,decide_eq_true_iff,decide_eq_true_iff]
 omega
theorem Lp (hl:li.length≤4294967296) (hi:gB (li.length:Int) k=true) (hg:G5 xs (li.getD k.toNat zI)) :
  (cG N0 (xs,kn,li,fr,gv,sh,lg,k)=some (iT xs li k)∧ct N0 (xs,kn,li,fr,gv,sh,lg,k)=some (xs,kn,li,fr,gv,sh,lg,iT xs li k))∧(iT xs li k=-1∨ci xs (iT xs li k)=true):=by
 have hx:=cd hg.pool
 obtain⟨k0,k1⟩:=wz hi
 have hb:=lH hi
 suffices h:∃v,(cG N0 (xs,kn,li,fr,gv,sh,lg,k)=some v∧ct N0 (xs,kn,li,fr,gv,sh,lg,k)=some (xs,kn,li,fr,gv,sh,lg,v))∧(v=-1∨ci xs v=true)by
  obtain⟨v,⟨h1,h2⟩,h3⟩:=h
  have:iT xs li k=v:=by
   unfold iT
   rw[show cG N0 (xs,[],li,0,[],[],[],k)=cG N0 (xs,kn,li,fr,gv,sh,lg,k)from rfl,h1];rfl
  rw[this]
  exact⟨⟨h1,h2⟩,h3⟩
 have hin:(decide (k≥0)&&decide (k≤IntKind.i64.wrap ((li.length:Int)-(1:Int))))=true:=by
  rw[am (by omega) (by omega)]
  simp
  omega
 unfold cG ct fW
 simp only[oB,hin,Option.bind_some,Bool.not_true,cond_false,hb,cond_true]
 have q1:=hg.way
 have q2:=hg.side
 have q3:=hg.env
 have q4:=hg.len
 have q5:=hg.key
 revert q1 q2 q3 q4 q5
 generalize li.getD k.toNat zI=X
 intro q1 q2 q3 q4 q5
 cases hd:X.2.2.2.2.2.2.1 with
 |true=>exact⟨_,⟨rfl,rfl⟩, .inr (q5 hd)⟩
 |false =>
  simp only[cond_false]
  obtain⟨r1,r2,r3⟩:=pO q1 q2
  rw[r1,r2]
  simp only[Option.bind_some,r3]
  rw[show IntKind.i64.wrap (((5:Nat):Int)-(1:Int))=4 by decide,show aY 4 5=true by decide]
  simp only[cond_true]
  obtain⟨hA,hact⟩:=BW q1 q2 (i:=4) (by decide) _ rfl
  have hA:=hA.2 rfl
  rw[show((4:Int)).toNat=4 from rfl]
  revert hA hact
  generalize (qF X.1 X.2.1).getD 4 ((0:Int),(⟨#[]⟩:ByteArray))=A
  intro hact hA
  have hT:∃P,tz A.2 P:=by
   rcases hact with⟨h,_⟩|⟨_,h⟩|⟨_,P,h,_⟩
   ·rw[hA]at h;exact absurd h (by decide)
   ·exact h
   ·exact⟨P,h⟩
  obtain⟨P,hP⟩:=hT
  have e1:kJ N0 (xs,X.2.2.2.2.2.1,A.2)=some (jU xs (mk X.2.2.2.2.2.1 P xs)):=Fb hP hg.pool q4 q3
  obtain⟨l2,ys,t,e2,e3,e4,e5⟩:=y0 hP hg.pool q4 q3
  rw[e1,e2]
  simp only[Option.bind_some]
  rw[am (by omega) (by omega),e4]
  simp only[Option.bind_some,lF N0 (show xs.length≤4294967296 by omega)]
  have e4:True:=trivial
  cases hm:mk X.2.2.2.2.2.1 P xs with
  |none =>
   rw[hm]at e5
   have e5:t=-1:=e5
   subst e5
   rw[show(jU xs none).2=-1 from rfl,show ci xs (-1)=false by unfold ci;simp]
   rw[decide_eq_true (by omega:(-1:Int)<(xs.length:Int))]
   exact⟨-1,⟨rfl,rfl⟩, .inl rfl⟩
  |some s =>
   rw[hm]at e5
   have e5:(ys,t)=s:=e5
   subst e5
   have gr:=cR hg.pool hm
   have t0:=gr.2.1
   rw[show(jU xs (some (ys,t))).2=t from rfl]
   by_cases ht:t<(xs.length:Int)
   ·rw[decide_eq_true ht,dD.2 ⟨t0,ht⟩]
    exact⟨t,⟨rfl,rfl⟩, .inr (dD.2 ⟨t0,ht⟩)⟩
   ·have:ci xs t=false:=by
     rw[←Bool.not_eq_true,dD]
     omega
    rw[decide_eq_false ht,this]
    exact⟨-1,⟨rfl,rfl⟩, .inl rfl⟩
theorem nB (hs:Small xs kn li gv sh lg) (hw:dJ xs kn li fr gv sh lg=true) (hi:gB (li.length:Int) k=true) :
  (cG N0 (xs,kn,li,fr,gv,sh,lg,k)=some (iT xs li k)∧ct N0 (xs,kn,li,fr,gv,sh,lg,k)=some (xs,kn,li,fr,gv,sh,lg,iT xs li k))∧(iT xs li k=-1∨ci xs (iT xs li k)=true) :=
 Lp hs.fl hi (tD hs hw (by obtain⟨a,b⟩:=wz hi;omega))
theorem Ft (hs:Small xs kn li gv sh lg):∃v,fO N0 (xs,kn,li,fr,gv,sh,lg,k)=some v∧nG N0 (xs,kn,li,fr,gv,sh,lg,k)=some v:=by
 rw[fO,nG];dsimp only
 rw[sH hs.fl,(lm hs).2]
 simp only[Option.bind_some,(lm hs).1]
 cases hi:gB (li.length:Int) k with
 |true =>
  cases hw:dJ xs kn li fr gv sh lg with
  |false=>exact⟨-1,rfl,rfl⟩
  |true =>
   obtain⟨⟨h1,h2⟩,_⟩:=nB hs hw hi
   rw[h1,h2]
   exact⟨_,rfl,rfl⟩
 |false =>
  cases hw:dJ xs kn li fr gv sh lg with
  |false=>exact⟨-1,rfl,rfl⟩
  |true =>
   refine⟨-1,rfl,?_⟩
   have hin:(decide (k≥0)&&decide (k≤IntKind.i64.wrap ((li.length:Int)-(1:Int))))=false:=by
    have:=hs.fl
    rw[am (by omega) (by omega)]
    exact hi
   unfold cG
   simp only[oB,hin,Option.bind_some];rfl
def iZ (d:Nat→Bool):Nat→Nat→List Int
 |_,0=>[]
 |i,m+1=>bif d i then(i:Int)::iZ d (i+1) m else iZ d (i+1) m
theorem xx{d e:Nat→Bool}:∀{m i:Nat},(∀j,i≤j→j<i+m→d j=e j)→iZ d i m=iZ e i m
 |0,_,_=>rfl
 |m+1,i,h=>by
  unfold iZ
  rw[h i (Nat.le_refl _) (by omega),xx (m:=m) (i:=i+1) (fun j h1 h2=>h j (by omega) (by omega))]
theorem yC{d:Nat→Bool}:∀{m i:Nat},(∀j,i≤j→j<i+m→d j=false)→iZ d i m=[]
 |0,_,_=>rfl
 |m+1,i,h=>by
  unfold iZ
  rw[h i (Nat.le_refl _) (by omega),cond_false,yC (m:=m) (i:=i+1) (fun j h1 h2=>h j (by omega) (by omega))]
def J6 (xs:List ab) (li:List bx) (k:Int) (j:Nat):Bool :=
 let X:=li.getD k.toNat zI
 let Y:=li.getD j zI
 (Y.1==X.1)&&(!(Y.2.1==X.2.1)&&((Y.2.2.1==X.2.2.2.1)&&((Y.2.2.2.1==X.2.2.1)&&((iT xs li (j:Int)==iT xs li k)&&((X.2.1==0) || dn Y)))))
def ow (xs:List ab) (li:List bx) (k:Int):List Int:=bif decide (iT xs li k<0)then []else iZ (J6 xs li k) 0 li.length
theorem P0 {α:Type}{c1 c2 c3 c4 c5 c6 c7 c8 c9:Bool}{S T:α}:(cond c1 S (cond c2 S (cond c3 S (cond c4 S (cond c5 S (cond c6 (cond c7 S (cond c8 (cond c9 T S) S)) (cond c8 (cond c9 T S) S)))))))
  = cond (!c1&&(!c2&&(!c3&&(!c4&&(!c5&&((!c6 || !c7)&&(c8&&c9))))))) T S:=by
 cases c1<;>cases c2<;>cases c3<;>cases c4<;>cases c5<;>cases c6<;>cases c7<;>cases c8<;>cases c9<;>rfl
theorem PZ {α:Type}{c1 c2 c3 c4 c5 c6 c7:Bool}{S T:α}:(cond c1 (cond c2 (cond c3 (cond c4 (cond c5 (cond c6 T (cond c7 T S)) S) S) S) S) S)
  = cond (c1&&(c2&&(c3&&(c4&&(c5&&(c6 || c7)))))) T S:=by
 cases c1<;>cases c2<;>cases c3<;>cases c4<;>cases c5<;>cases c6<;>cases c7<;>rfl
def pI (xs:List ab) (li:List bx) (k:Int) (j:Nat):Bool :=
 let X:=li.getD k.toNat zI
 let Y:=li.getD j zI
 !((j:Int)==k)&&(!(Y.1 != X.1)&&(!(Y.2.1==X.2.1)&&(!(Y.2.2.1 != X.2.2.2.1)&&(!(Y.2.2.2.1 != X.2.2.1)&&((!(X.2.1==1) || !(!(dn Y)))&&((iT xs li k != -1)&&(iT xs li (j:Int)==iT xs li k)))))))
theorem oQ (hs:Small xs kn li gv sh lg) (hw:dJ xs kn li fr gv sh lg=true) (X:bx) (hX:X=li.getD k.toNat zI):∀(m i:Nat) (out:List Int),i≤li.length→li.length<m+i→out.length≤i →
  ai N0 m (xs,kn,li,fr,gv,sh,lg,k,X.1,X.2.1,X.2.2.1,X.2.2.2.1,X.2.2.2.2.1,X.2.2.2.2.2.1,X.2.2.2.2.2.2.1,X.2.2.2.2.2.2.2.1,X.2.2.2.2.2.2.2.2,iT xs li k,out,li,(li.length:Int),(i:Int))=some (xs,kn,li,fr,gv,sh,lg,out++iZ (pI xs li k) i (li.length-i))
 |0,i,out,h1,h2,h3=>by omega
 |m+1,i,out,h1,h2,h3=>by
  have hl:=hs.fl
  rcases Nat.eq_or_lt_of_le h1 with q|q
  ·subst q
   rw[ai];dsimp only
   rw[tR,cond_false,Nat.sub_self]
   simp[iZ]
  ·have hi:gB (li.length:Int) (i:Int)=true:=by
    unfold gB
    simp
    omega
   obtain⟨⟨_,kI⟩,_⟩:=nB (k:=(i:Int)) hs hw hi
   have hroom:aO (out.length+[(i:Int)].length)=true:=by
    unfold aO
    rw[List.length_singleton]
    simp
    omega
   have S:=oQ hs hw X hX m (i+1) out q (by omega) (by omega)
   have T:=oQ hs hw X hX m (i+1) (out++[(i:Int)]) q (by omega) (by rw[List.length_append,List.length_singleton];omega)
   rw[ai];dsimp only
   rw[oL q,cond_true,ax q,cond_true]
   simp only[Int.toNat_natCast,aX q hl,kI,Option.bind_some,hroom,cond_true,S,T]
   rw[P0]
   have e:li.length-i=(li.length-(i+1))+1:=by omega
   rw[e]
   have hp:iZ (pI xs li k) i (li.length-(i+1)+1)=bif pI xs li k i then(i:Int)::iZ (pI xs li k) (i+1) (li.length-(i+1))else iZ (pI xs li k) (i+1) (li.length-(i+1)):=rfl
   rw[hp]
   have hc:pI xs li k i=(!((i:Int)==k)&&(!((li.getD i zI).1 != X.1)&&(!((li.getD i zI).2.1==X.2.1)&&(!((li.getD i zI).2.2.1 != X.2.2.2.1)&&(!((li.getD i zI).2.2.2.1 != X.2.2.1)&&((!(X.2.1==1) || !(!(li.getD i zI).2.2.2.2.2.2.1))&&((iT xs li k != -1)&&(iT xs li (i:Int)==iT xs li k)))))))):=by
    rw[hX];rfl
   rw[←hc]
   cases pI xs li k i with
   |true=>rw[cond_true,cond_true,List.append_assoc];rfl
   |false=>rfl
theorem oJ (hs:Small xs kn li gv sh lg) (hw:dJ xs kn li fr gv sh lg=true) (X:bx) (hX:X=li.getD k.toNat zI):∀(m i:Nat) (out:List Int),i≤li.length→li.length<m+i→out.length≤i →
  ap N0 m (xs,kn,li,fr,gv,sh,lg,out,iT xs li k,X.1,X.2.1,X.2.2.1,X.2.2.2.1,X.2.2.2.2.1,X.2.2.2.2.2.1,X.2.2.2.2.2.2.1,X.2.2.2.2.2.2.2.1,X.2.2.2.2.2.2.2.2,(i:Int))=some (out++iZ (J6 xs li k) i (li.length-i))
 |0,i,out,h1,h2,h3=>by omega
 |m+1,i,out,h1,h2,h3=>by
  have hl:=hs.fl
  rcases Nat.eq_or_lt_of_le h1 with q|q
  ·subst q
   rw[ap];dsimp only
   rw[tR,cond_false,Nat.sub_self]
   simp[iZ]
  ·have hi:gB (li.length:Int) (i:Int)=true:=by
    unfold gB
    simp
    omega
   obtain⟨⟨kI,_⟩,_⟩:=nB (k:=(i:Int)) hs hw hi
   have hroom:aO (out.length+[(i:Int)].length)=true:=by
    unfold aO
    rw[List.length_singleton]
    simp
    omega
   have S:=oJ hs hw X hX m (i+1) out q (by omega) (by omega)
   have T:=oJ hs hw X hX m (i+1) (out++[(i:Int)]) q (by omega) (by rw[List.length_append,List.length_singleton];omega)
   rw[ap];dsimp only
   rw[oL q,cond_true,ax q,cond_true]
   simp only[Int.toNat_natCast,aX q hl,kI,Option.bind_some,hroom,cond_true,S,T]
   rw[PZ]
   have e:li.length-i=(li.length-(i+1))+1:=by omega
   rw[e]
   have hp:iZ (J6 xs li k) i (li.length-(i+1)+1)=bif J6 xs li k i then(i:Int)::iZ (J6 xs li k) (i+1) (li.length-(i+1))else iZ (J6 xs li k) (i+1) (li.length-(i+1)):=rfl
   rw[hp]
   have hc:J6 xs li k i=(((li.getD i zI).1==X.1)&&(((li.getD i zI).2.1 != X.2.1)&&(((li.getD i zI).2.2.1==X.2.2.2.1)&&(((li.getD i zI).2.2.2.1==X.2.2.1)&&((iT xs li (i:Int)==iT xs li k)&&((X.2.1==0) || (li.getD i zI).2.2.2.2.2.2.1)))))):=by
    rw[hX];rfl
   rw[←hc]
   cases J6 xs li k i with
   |true=>rw[cond_true,cond_true,List.append_assoc];rfl
   |false=>rfl
theorem IM (hs:Small xs kn li gv sh lg) (hw:dJ xs kn li fr gv sh lg=true) (hi:gB (li.length:Int) k=true) :
  eG N0 (xs,kn,li,fr,gv,sh,lg,k)=some (xs,kn,li,fr,gv,sh,lg,ow xs li k)∧eR N0 (xs,kn,li,fr,gv,sh,lg,k)=some (ow xs li k):=by
 obtain⟨⟨k1,k2⟩,k3⟩:=nB hs hw hi
 obtain⟨i0,i1⟩:=wz hi
 have hG:=tD hs hw (i:=k.toNat) (by omega)
 constructor
 ·rw[eG];dsimp only
  rw[lH hi,cond_true,k2]
  simp only[Option.bind_some]
  have h:=oQ (fr:=fr) (k:=k) hs hw (li.getD k.toNat zI) rfl N0 0 [] (Nat.zero_le _) (by have:=n0;have:=hs.fl;omega) (Nat.le_refl _)
  rw[show((0:Nat):Int)=(0:Int)from rfl]at h
  rw[h]
  simp only[Option.bind_some,List.nil_append,Nat.sub_zero]
  unfold ow
  by_cases hn:iT xs li k<0
  ·rw[decide_eq_true hn,cond_true,yC]
   intro j _ _
   have:(iT xs li k != -1)=false:=by
    rcases k3 with h|h
    ·rw[h];rfl
    ·have:=(dD.1 h).1;omega
   unfold pI
   simp only[this,Bool.false_and,Bool.and_false]
  ·rw[decide_eq_false hn,cond_false,xx (e:=J6 xs li k)]
   intro j _ _
   have h1:(iT xs li k != -1)=true:=by
    rw[bne_iff_ne];omega
   have h2:=hG.side
   unfold pI J6
   dsimp only
   rw[h1]
   by_cases hjk:(j:Int)=k
   ·have h5:(li.getD j zI)=li.getD k.toNat zI:=by rw[←hjk,Int.toNat_natCast]
    rw[h5,hjk]
    simp only[beq_self_eq_true,Bool.not_true,Bool.false_and,Bool.and_false]
   ·generalize li.getD k.toNat zI=X at *
    have h3:((j:Int)==k)=false:=by simpa using hjk
    rw[h3]
    generalize li.getD j zI=Y
    have h4:(!(X.2.1==1) || !(!(dn Y)))=((X.2.1==0) || dn Y):=by
     rcases h2 with h2|h2<;>rw[h2]<;>cases dn Y<;>rfl
    rw[h4]
    simp only[bne,Bool.not_not,Bool.not_false,Bool.true_and]
    cases(Y.1==X.1)<;>cases(Y.2.1==X.2.1)<;>cases(Y.2.2.1==X.2.2.2.1)<;>cases(Y.2.2.2.1==X.2.2.1)<;>cases((X.2.1==0) || dn Y)<;>cases(iT xs li (j:Int)==iT xs li k)<;>rfl
 ·rw[eR];dsimp only
  rw[k1]
  simp only[Option.bind_some]
  unfold ow
  by_cases hn:iT xs li k<0
  ·rw[decide_eq_true hn];rfl
  ·rw[decide_eq_false hn,cond_false,cond_false,lH hi,cond_true]
   have h:=oJ (fr:=fr) (k:=k) hs hw (li.getD k.toNat zI) rfl N0 0 [] (Nat.zero_le _) (by have:=n0;have:=hs.fl;omega) (Nat.le_refl _)
   rw[show((0:Nat):Int)=(0:Int)from rfl]at h
   rw[h]
   simp only[Option.bind_some,List.nil_append,Nat.sub_zero]
end
def Al (env:List Int):Prop:=env.length=26∧∀i:Nat,env.getD i 0<0→env.getD i 0=-1
theorem F2{env:List Int}{i:Nat}(h:i<env.length) (t:Int):(env.set i t).getD i 0=t:=by
 rw[List.getD_eq_getElem?_getD,List.getElem?_set_self h];rfl
theorem Al.set{env:List Int}(h:Al env){i:Nat}(hi:i<env.length){t:Int}(ht:0≤t):Al (env.set i t):=by
 refine⟨by rw[List.length_set];exact h.1,fun j hj=>?_⟩
 by_cases e:i=j
 ·subst e
  rw[F2 hi]at hj
  omega
 ·have e2:(env.set i t).getD j 0=env.getD j 0:=by rw[List.getD_eq_getElem?_getD,List.getD_eq_getElem?_getD,List.getElem?_set_ne e]
  rw[e2]at hj ⊢
  exact h.2 _ hj
theorem iW{xs zs:List ab}{t:Int}(h:ci xs t=true):ci (xs++zs) t=true:=by
 rw[dD]at h ⊢
 rw[List.length_append]
 omega
def I8 (env:List Int) (P:mZ) (xs:List ab) (t:Int):Option (List Int×List ab):=(mk env P xs).bind fun r=>bif r.2==t then some (env,r.1)else none
abbrev nd (xs:List ab) (t:Int):ab:=xs.getD t.toNat og
def dK:mZ→List Int→List ab→Int→Option (List Int×List ab)
 | .ask i,env,xs,t=>bif decide (env.getD i.toNat 0<0)then some (env.set i.toNat t,xs)else bif env.getD i.toNat 0==t then some (env,xs)else none
 | .bin k p q,env,xs,t=>bif k==2 then(bif (nd xs t).1==2 then(dK p env xs (nd xs t).2.1).bind fun r=>dK q r.1 r.2 (nd xs t).2.2 else none)
   else bif k==3 || k==4 then(bif (nd xs t).1==k then(dK q env xs (nd xs t).2.2).bind fun r=>dK p r.1 r.2 (nd xs t).2.1 else none)
   else I8 env (.bin k p q) xs t
 | .name c,env,xs,t=>I8 env (.name c) xs t
 | .var i,env,xs,t=>I8 env (.var i) xs t
 | .un k p,env,xs,t=>I8 env (.un k p) xs t
 | .exp p q,env,xs,t=>I8 env (.exp p q) xs t
theorem rJ{env e:List Int}{P:mZ}{xs ys:List ab}{t:Int}(hE:Al env) (hp:aW xs=true) (h:I8 env P xs t=some (e,ys)):Al e∧aW ys=true∧∃zs,ys=xs++zs:=by
 obtain⟨r,h1,h2⟩:=Option.bind_eq_some_iff.1 (show(mk env P xs).bind _=some (e,ys)from h)
 have g:=cR hp (show mk env P xs=some (r.1,r.2)from h1)
 cases hc:(r.2==t)with
 |false=>rw[hc]at h2;cases h2
 |true =>
  rw[hc]at h2
  obtain⟨rfl,rfl⟩:=Prod.mk.inj (Option.some.inj h2)
  exact⟨hE,g.1,g.2.2⟩
theorem Fs{xs:List ab}{t:Int}(hp:aW xs=true) (ht:ci xs t=true) (hk:(nd xs t).1=2∨(nd xs t).1=3∨(nd xs t).1=4):ci xs (nd xs t).2.1=true∧ci xs (nd xs t).2.2=true:=by
 have hl:=cd hp
 rw[dD]at ht
 have h:=yA hp (j:=t.toNat) (by omega)
 have hd:(xs.getD t.toNat og)=nd xs t:=rfl
 rw[hd]at h
 generalize nd xs t=X at h hk
 have hc:dS N0 X.1=some 2:=by rcases hk with e|e|e<;>rw[e]<;>rfl
 rw[show((t.toNat:Nat):Int)=t from by omega]at h
 unfold gf bM at h
 dsimp only at h
 rw[hc,am (by omega) (by omega)]at h
 simp only[Option.bind_some,eC]at h
 have c0:((2:Int)==(0:Int))=false:=by decide
 have c1:((2:Int)==(1:Int))=false:=by decide
 have c2:((2:Int)==(2:Int))=true:=by decide
 rw[c0,c1,c2,cond_false,cond_false,cond_true]at h
 cases h1:(decide (X.2.1≥0)&&decide (X.2.1≤t-1))with
 |false=>rw[h1]at h;cases h
 |true =>
  cases h2:(decide (X.2.2≥0)&&decide (X.2.2≤t-1))with
  |false=>rw[h1,h2]at h;cases h
  |true =>
   rw[Bool.and_eq_true,decide_eq_true_iff,decide_eq_true_iff]at h1 h2
   rw[dD,dD]
   omega
theorem eM:∀{P:mZ}{env e:List Int}{xs ys:List ab}{t:Int},Al env→aW xs=true→ci xs t=true→dK P env xs t=some (e,ys)→Al e∧aW ys=true∧∃zs,ys=xs++zs
 | .name c,env,e,xs,ys,t,hE,hp,ht,h=>rJ hE hp h
 | .var i,env,e,xs,ys,t,hE,hp,ht,h=>rJ hE hp h
 | .un k p,env,e,xs,ys,t,hE,hp,ht,h=>rJ hE hp h
 | .exp p q,env,e,xs,ys,t,hE,hp,ht,h=>rJ hE hp h
 | .ask i,env,e,xs,ys,t,hE,hp,ht,h=>by
  have h:(bif decide (env.getD i.toNat 0<0)then some (env.set i.toNat t,xs)else bif env.getD i.toNat 0==t then some (env,xs)else none)=some (e,ys):=h
  by_cases hn:env.getD i.toNat 0<0
  ·rw[decide_eq_true hn]at h
   obtain⟨rfl,rfl⟩:=Prod.mk.inj (Option.some.inj h)
   have hi:i.toNat<env.length:=by
    refine Nat.lt_of_not_le fun q=>?_
    rw[List.getD_eq_getElem?_getD,List.getElem?_eq_none q]at hn
    exact absurd hn (by decide)
   exact⟨hE.set hi (dD.1 ht).1,hp,[],by simp⟩
  ·rw[decide_eq_false hn]at h
   cases hc:(env.getD i.toNat 0==t)with
   |false=>rw[hc]at h;cases h
   |true =>
    rw[hc]at h
    obtain⟨rfl,rfl⟩:=Prod.mk.inj (Option.some.inj h)
    exact⟨hE,hp,[],by simp⟩
 | .bin k p q,env,e,xs,ys,t,hE,hp,ht,h=>by
  have h:(bif k==2 then(bif (nd xs t).1==2 then(dK p env xs (nd xs t).2.1).bind fun r=>dK q r.1 r.2 (nd xs t).2.2 else none)
   else bif k==3 || k==4 then(bif (nd xs t).1==k then(dK q env xs (nd xs t).2.2).bind fun r=>dK p r.1 r.2 (nd xs t).2.1 else none)
   else I8 env (.bin k p q) xs t)=some (e,ys):=h
  cases h2:(k==2)with
  |true =>
   rw[h2,cond_true]at h
   cases h3:((nd xs t).1==2)with
   |false=>rw[h3]at h;cases h
   |true =>
    rw[h3,cond_true]at h
    obtain⟨k1,k2⟩:=Fs hp ht (.inl (by simpa using h3))
    obtain⟨r,h4,h5⟩:=Option.bind_eq_some_iff.1 h
    obtain⟨g1,g2,w,g3⟩:=eM hE hp k1 (show _=some (r.1,r.2)from h4)
    obtain⟨g4,g5,v,g6⟩:=eM g1 g2 (by rw[g3];exact iW k2) h5
    exact⟨g4,g5,w++v,by rw[g6,g3,List.append_assoc]⟩
  |false =>
   rw[h2,cond_false]at h
   cases h3:(k==3 || k==4)with
   |false=>rw[h3,cond_false]at h;exact rJ hE hp h
   |true =>
    rw[h3,cond_true]at h
    cases h6:((nd xs t).1==k)with
    |false=>rw[h6]at h;cases h
    |true =>
     rw[h6,cond_true]at h
     have h7:(nd xs t).1=k:=by simpa using h6
     have h8:k=3∨k=4:=by simpa using h3
     obtain⟨k1,k2⟩:=Fs hp ht (by rw[h7];exact .inr h8)
     obtain⟨r,h4,h5⟩:=Option.bind_eq_some_iff.1 h
     obtain⟨g1,g2,w,g3⟩:=eM hE hp k2 (show _=some (r.1,r.2)from h4)
     obtain⟨g4,g5,v,g6⟩:=eM g1 g2 (by rw[g3];exact iW k1) h5
     exact⟨g4,g5,w++v,by rw[g6,g3,List.append_assoc]⟩
def xk (res:Option (List Int×List ab×Bool)) (m:Option (List Int×List ab)):Prop:=∃e ys c,res=some (e,ys,c)∧(match m with
 |some s=>(e,ys)=s∧c=true
 |none=>c=false)
theorem M8{l1:List dO}{l2:List fI}{env:List Int}{xs:List ab}{k:Nat}{a b t:Int}{P:mZ}(he:Al env) (hd:nq l1 l2 k a b=some P) (hk:k≤N0) (hp:aW xs=true) (ht:0≤t) :
  xk ((cH N0 N0 (xs,env,l2,b)).bind fun r16=>(cond (r16.2.2==t) (some (r16.1,r16.2.1,(decide (r16.2.2≥(0:Int))))) (some (r16.1,r16.2.1,false)))) (I8 env P xs t):=by
 obtain⟨ys,u,g1,g2⟩:=ru he.1 he.2 k a b P xs N0 hd hk hp
 rw[oM,g1,At,Option.bind_some]
 dsimp only
 unfold I8
 cases hm:mk env P xs with
 |none =>
  rw[hm]at g2
  have g2:u=-1:=g2
  have:(u==t)=false:=by rw[beq_eq_false_iff_ne];omega
  rw[this,cond_false]
  exact⟨_,_,_,rfl,rfl⟩
 |some s =>
  rw[hm]at g2
  have g2:(ys,u)=s:=g2
  subst g2
  have gr:=cR hp hm
  rw[Option.bind_some]
  dsimp only
  cases(u==t)with
  |true=>exact⟨_,_,_,rfl,rfl,decide_eq_true gr.2.1⟩
  |false=>exact⟨_,_,_,rfl,rfl⟩
theorem lz{l1:List dO}{l2:List fI}:∀(k:Nat) (a b:Int) (P:mZ) (env:List Int) (xs:List ab) (t:Int) (j:Nat),nq l1 l2 k a b=some P→k≤j→k≤N0→Al env→aW xs=true→ci xs t=true→xk (bN N0 j (xs,env,l2,b,t)) (dK P env xs t)
 |0,a,b,P,env,xs,t,j,h,_,_,_,_,_=>by cases h
 |k+1,a,b,P,env,xs,t,0,h,hj,_,_,_,_=>by omega
 |k+1,a,b,P,env,xs,t,j+1,h,hj,hn,hE,hp,ht=>by
  have hx:=cd hp
  obtain⟨t0,t1⟩:=dD.1 ht
  obtain⟨_,hb,hc⟩:=ny h
  have mb:=M8 (t:=t) hE h hn hp t0
  have e0:bN N0 (j+1) (xs,env,l2,b,t)=jT N0 (bN N0 j) (xs,env,l2,b,t):=rfl
  rw[e0]
  unfold jT eS
  dsimp only
  rw[hb,o9 ht]
  simp only[cond_true]
  rcases hc with⟨hps,hl⟩|⟨p,Q,hps,h1,h2⟩|⟨p,q,Q,R,hps,h1,h2,h3⟩
  ·rcases mf hl with⟨c1,c2,c3,c4,rfl⟩|⟨_,c1,c2,c3,c4,c6,c7,rfl⟩|⟨_,_,c1,c2,c3,c4,c6,c7,rfl⟩
   ·rw[c2]
    exact mb
   ·rw[c2,c4,c3,w9 hE.1 c6 c7]
    refine⟨env,xs,(env.getD (l1.getD a.toNat zP).2.1.toNat 0==t),rfl,?_⟩
    show match I8 env (.var (l1.getD a.toNat zP).2.1) xs t with
     |some s=>(env,xs)=s∧(env.getD (l1.getD a.toNat zP).2.1.toNat 0==t)=true
     |none=>(env.getD (l1.getD a.toNat zP).2.1.toNat 0==t)=false
    have hv:=Fm (env:=env) xs (l1.getD a.toNat zP).2.1
    unfold I8
    cases hm:mk env (.var (l1.getD a.toNat zP).2.1) xs with
    |none =>
     rw[hm]at hv
     have hv:env.getD (l1.getD a.toNat zP).2.1.toNat 0<0:=hv
     show(_==t)=false
     rw[beq_eq_false_iff_ne];omega
    |some s =>
     rw[hm]at hv
     have hv:(xs,env.getD (l1.getD a.toNat zP).2.1.toNat 0)=s:=hv
     subst hv
     rw[Option.bind_some]
     dsimp only
     cases(env.getD (l1.getD a.toNat zP).2.1.toNat 0==t)with
     |true=>exact⟨rfl,rfl⟩
     |false=>rfl
   ·rw[c2,c4,c3]
    have hi:aY (l1.getD a.toNat zP).2.1 (env.set (l1.getD a.toNat zP).2.1.toNat t).length=true:=by rw[List.length_set];exact w9 hE.1 c6 c7
    rw[w9 hE.1 c6 c7,hi,F2 (i:=(l1.getD a.toNat zP).2.1.toNat) (by have:=hE.1;omega)]
    show xk _ (bif decide (env.getD (l1.getD a.toNat zP).2.1.toNat 0<0)then some (env.set (l1.getD a.toNat zP).2.1.toNat t,xs)else bif env.getD (l1.getD a.toNat zP).2.1.toNat 0==t then some (env,xs)else none)
    by_cases hneg:env.getD (l1.getD a.toNat zP).2.1.toNat 0<0
    ·rw[decide_eq_true hneg]
     exact⟨_,_,_,rfl,rfl,by simp⟩
    ·rw[decide_eq_false hneg]
     cases hq:(env.getD (l1.getD a.toNat zP).2.1.toNat 0==t)with
     |true=>exact⟨_,_,_,rfl,rfl,rfl⟩
     |false=>exact⟨_,_,_,rfl,rfl⟩
  ·obtain⟨_,c4,c5,c6,c7,rfl⟩:=lA h2
   rcases c6 with e|e
   ·rw[e]at mb ⊢
    exact mb
   ·rw[e]at mb ⊢
    exact mb
  ·obtain⟨_,c4,c5⟩:=nC h3
   rcases c5 with⟨d1,d2,rfl⟩|⟨d1,d2,d3,rfl⟩
   ·rw[d2]
    exact mb
   ·rcases d3 with d3|d3|d3|d3|d3
    ·rw[d3]
     show xk (cond ((nd xs t).1 != 2) (some (env,xs,false)) ((bN N0 j (xs,env,l2,(l2.getD b.toNat zS).2.1,(nd xs t).2.1)).bind fun r4=>(cond (!r4.2.2) (some (r4.1,xs,false)) ((bN N0 j (r4.2.1,r4.1,l2,(l2.getD b.toNat zS).2.2.1,(nd xs t).2.2)).bind fun r5=>(some (r5.1,r5.2.1,r5.2.2)))))) (bif (nd xs t).1==2 then(dK Q env xs (nd xs t).2.1).bind fun r=>dK R r.1 r.2 (nd xs t).2.2 else none)
     rw[show((nd xs t).1 != 2) = !((nd xs t).1==2)from rfl]
     cases hkd:((nd xs t).1==2)with
     |false=>exact⟨_,_,_,rfl,rfl⟩
     |true =>
      obtain⟨k1,k2⟩:=Fs hp ht (.inl (by simpa using hkd))
      obtain⟨e,ys,c,g1,g2⟩:=lz k p _ Q env xs (nd xs t).2.1 j h1 (by omega) (by omega) hE hp k1
      rw[Bool.not_true,cond_false,cond_true,g1,Option.bind_some]
      dsimp only
      cases hm:dK Q env xs (nd xs t).2.1 with
      |none =>
       rw[hm]at g2
       have g2:c=false:=g2
       subst g2
       exact⟨_,_,_,rfl,rfl⟩
      |some s =>
       rw[hm]at g2
       obtain⟨g2,g3⟩:=(g2:(e,ys)=s∧c=true)
       subst g2;subst g3
       obtain⟨f1,f2,w,f3⟩:=eM hE hp k1 hm
       obtain⟨e2,zs,c2,g4,g5⟩:=lz k q _ R e ys (nd xs t).2.2 j h2 (by omega) (by omega) f1 f2 (by rw[f3];exact iW k2)
       rw[Bool.not_true,cond_false,g4]
       exact⟨_,_,_,rfl,g5⟩
    ·rw[d3]
     show xk (cond ((nd xs t).1 != 3) (some (env,xs,false)) ((bN N0 j (xs,env,l2,(l2.getD b.toNat zS).2.2.1,(nd xs t).2.2)).bind fun r4=>(cond (!r4.2.2) (some (r4.1,xs,false)) ((bN N0 j (r4.2.1,r4.1,l2,(l2.getD b.toNat zS).2.1,(nd xs t).2.1)).bind fun r5=>(some (r5.1,r5.2.1,r5.2.2)))))) (bif (nd xs t).1==3 then(dK R env xs (nd xs t).2.2).bind fun r=>dK Q r.1 r.2 (nd xs t).2.1 else none)
     rw[show((nd xs t).1 != 3) = !((nd xs t).1==3)from rfl]
     cases hkd:((nd xs t).1==3)with
     |false=>exact⟨_,_,_,rfl,rfl⟩
     |true =>
      obtain⟨k1,k2⟩:=Fs hp ht (by
       have:(nd xs t).1=3:=by simpa using hkd
       rw[this];decide)
      obtain⟨e,ys,c,g1,g2⟩:=lz k q _ R env xs (nd xs t).2.2 j h2 (by omega) (by omega) hE hp k2
      rw[Bool.not_true,cond_false,cond_true,g1,Option.bind_some]
      dsimp only
      cases hm:dK R env xs (nd xs t).2.2 with
      |none =>
       rw[hm]at g2
       have g2:c=false:=g2
       subst g2
       exact⟨_,_,_,rfl,rfl⟩
      |some s =>
       rw[hm]at g2
       obtain⟨g2,g3⟩:=(g2:(e,ys)=s∧c=true)
       subst g2;subst g3
       obtain⟨f1,f2,w,f3⟩:=eM hE hp k2 hm
       obtain⟨e2,zs,c2,g4,g5⟩:=lz k p _ Q e ys (nd xs t).2.1 j h1 (by omega) (by omega) f1 f2 (by rw[f3];exact iW k1)
       rw[Bool.not_true,cond_false,g4]
       exact⟨_,_,_,rfl,g5⟩
    ·rw[d3]
     show xk (cond ((nd xs t).1 != 4) (some (env,xs,false)) ((bN N0 j (xs,env,l2,(l2.getD b.toNat zS).2.2.1,(nd xs t).2.2)).bind fun r4=>(cond (!r4.2.2) (some (r4.1,xs,false)) ((bN N0 j (r4.2.1,r4.1,l2,(l2.getD b.toNat zS).2.1,(nd xs t).2.1)).bind fun r5=>(some (r5.1,r5.2.1,r5.2.2)))))) (bif (nd xs t).1==4 then(dK R env xs (nd xs t).2.2).bind fun r=>dK Q r.1 r.2 (nd xs t).2.1 else none)
     rw[show((nd xs t).1 != 4) = !((nd xs t).1==4)from rfl]
     cases hkd:((nd xs t).1==4)with
     |false=>exact⟨_,_,_,rfl,rfl⟩
     |true =>
      obtain⟨k1,k2⟩:=Fs hp ht (by
       have:(nd xs t).1=4:=by simpa using hkd
       rw[this];decide)
      obtain⟨e,ys,c,g1,g2⟩:=lz k q _ R env xs (nd xs t).2.2 j h2 (by omega) (by omega) hE hp k2
      rw[Bool.not_true,cond_false,cond_true,g1,Option.bind_some]
      dsimp only
      cases hm:dK R env xs (nd xs t).2.2 with
      |none =>
       rw[hm]at g2
       have g2:c=false:=g2
       subst g2
       exact⟨_,_,_,rfl,rfl⟩
      |some s =>
       rw[hm]at g2
       obtain⟨g2,g3⟩:=(g2:(e,ys)=s∧c=true)
       subst g2;subst g3
       obtain⟨f1,f2,w,f3⟩:=eM hE hp k2 hm
       obtain⟨e2,zs,c2,g4,g5⟩:=lz k p _ Q e ys (nd xs t).2.1 j h1 (by omega) (by omega) f1 f2 (by rw[f3];exact iW k1)
       rw[Bool.not_true,cond_false,g4]
       exact⟨_,_,_,rfl,g5⟩
    ·rw[d3]at mb ⊢
     exact mb
    ·rw[d3]at mb ⊢
     exact mb
theorem GH {α:Type}(pre r:List α) (a d:α):(pre++a::r).getD pre.length d=a:=by
 rw[List.getD_eq_getElem?_getD,List.getElem?_append_right (Nat.le_refl _),Nat.sub_self];rfl
theorem Lr {α:Type}(pre r:List α) (a:α):aY (pre.length:Int) (pre++a::r).length=true:=ax (by simp)
theorem Le {α:Type}(pre r:List α) (a:α):decide ((pre.length:Int)<((pre++a::r).length:Int))=true:=decide_eq_true (by simp;omega)
theorem Lg {α:Type}(pre:List α):decide ((pre.length:Int)<((pre++([]:List α)).length:Int))=false:=decide_eq_false (by simp)
theorem GX {α:Type}(pre r:List α) (a:α):pre++a::r=(pre++[a])++r:=by rw[List.append_assoc];rfl
theorem sE {α:Type}(pre:List α) (a:α):((pre++[a]).length:Int)=(pre.length:Int)+1:=by rw[List.length_append,List.length_singleton];omega
theorem Fq{w p a b at_:Int}{env:List Int}{d dd:Bool}{key:Int}(he:env.length≤4294967296):kB N0 (w,p,a,b,at_,env,d,dd,key)=some (w,p,a,b,at_,env,d,dd,key):=by
 unfold kB
 dsimp only
 have:aO (([]:List Int).length+env.length)=true:=by
  unfold aO
  simp
  omega
 rw[this];rfl
theorem Fr{T:ByteArray}{P:mZ}(hT:tz T P){xs:List ab}(hp:aW xs=true){env:List Int}(he:env.length=26) (hv:eE xs env=true){t:Int}(ht:ci xs t=true) :
  ∃l2 e ys c,dX N0 T=some (l2,true)∧kC N0 (xs,env,l2,t)=some (ys,e,c)∧(match dK P env xs t with
   |some s=>(e,ys)=s∧c=true
   |none=>c=false):=by
 obtain⟨b,l1,l2,k,e1,e2,hk,hd,hl1,hl2⟩:=hT
 obtain⟨e,ys,c,g1,g2⟩:=lz k _ _ P env xs t N0 hd hk hk ⟨he,rY hv⟩ hp ht
 refine⟨l2,e,ys,c,e2,?_,g2⟩
 unfold kC
 dsimp only
 have:aO (([]:List Int).length+env.length)=true:=by
  unfold aO
  simp
  omega
 rw[this,cond_true,List.nil_append,am (by omega) (by omega),g1];rfl
theorem lJ{xs zs:List ab}:∀{env:List Int},eE xs env=true→eE (xs++zs) env=true
 |[],_=>rfl
 |v::r,h=>by
  have h:((v == -1 || ci xs v)&&eE xs r)=true:=h
  show((v == -1 || ci (xs++zs) v)&&eE (xs++zs) r)=true
  rw[Bool.and_eq_true,Bool.or_eq_true]at h ⊢
  exact⟨h.1.imp id iW,lJ h.2⟩
theorem rX{xs:List ab}{t:Int}(ht:ci xs t=true):∀{env:List Int}(i:Nat),eE xs env=true→eE xs (env.set i t)=true
 |[],i,_=>rfl
 |v::r,0,h=>by
  have h:((v == -1 || ci xs v)&&eE xs r)=true:=h
  show((t == -1 || ci xs t)&&eE xs r)=true
  rw[Bool.and_eq_true]at h
  rw[ht,h.2,Bool.or_true];rfl
 |v::r,i+1,h=>by
  have h:((v == -1 || ci xs v)&&eE xs r)=true:=h
  show((v == -1 || ci xs v)&&eE xs (r.set i t))=true
  rw[Bool.and_eq_true]at h
  rw[h.1,rX ht i h.2];rfl
abbrev GoT:=List ab×Int×Int×Int×Int×Int×List Int×Bool×Bool×Int×List Int×Int
def Y6:(GoT⊕(Int×List ab×Int×Int×Int×Int×Int×List Int×Bool×Bool×Int×List ab×Int×Int×Int×Int×Int×List Int×Bool×Bool×Int×List Int))→GoT
 | .inl a=>a
 | .inr b=>(b.2.1,b.2.2.1,b.2.2.2.1,b.2.2.2.2.1,b.2.2.2.2.2.1,b.2.2.2.2.2.2.1,b.2.2.2.2.2.2.2.1,b.2.2.2.2.2.2.2.2.1,b.2.2.2.2.2.2.2.2.2.1,b.2.2.2.2.2.2.2.2.2.2.1,b.2.2.2.2.2.2.2.2.2.2.2.2.2.2.2.2.2.2.2.2.2,b.1)
theorem l97{x:Int}(h0:97≤x) (h1:x≤122):IntKind.u8.wrap (x-97)=x-97∧IntKind.i64.wrap (IntKind.i64.wrap x-97)=x-97:=by
 have h:x=97∨x=98∨x=99∨x=100∨x=101∨x=102∨x=103∨x=104∨x=105∨x=106∨x=107∨x=108∨x=109∨x=110∨x=111∨x=112∨x=113∨x=114∨x=115∨x=116∨x=117∨x=118∨x=119∨x=120∨x=121∨x=122:=by omega
 rcases h with h|h|h|h|h|h|h|h|h|h|h|h|h|h|h|h|h|h|h|h|h|h|h|h|h|h<;>subst h<;>exact⟨by decide,by decide⟩
theorem n0s:∃m,N0=m+1:=⟨N0-1,by have:=n0;omega⟩
theorem GL{xs:List ab}:∀{env:List Int},eE xs env=true→∀i:Nat,0≤env.getD i 0→i<env.length→ci xs (env.getD i 0)=true
 |[],_,i,_,h=>absurd h (Nat.not_lt_zero _)
 |v::r,hb,i,h0,hl=>by
  have hb:((v == -1 || ci xs v)&&eE xs r)=true:=hb
  rw[Bool.and_eq_true,Bool.or_eq_true]at hb
  match i with
  |0 =>
   rcases hb.1 with q|q
   ·have q:v=-1:=by simpa using q
    have h0:0≤v:=h0
    omega
   ·exact q
  |i+1=>exact GL hb.2 i h0 (by simpa using hl)
def mZ.Fine:mZ→Prop
 | .name _=>True
 | .var i=>0≤i∧i<26
 | .ask i=>0≤i∧i<26
 | .un _ p=>p.Fine
 | .bin _ p q=>p.Fine∧q.Fine
 | .exp p q=>p.Fine∧q.Fine
theorem nz{l1:List dO}{l2:List fI}:∀{k:Nat}{a b:Int}{P:mZ},nq l1 l2 k a b=some P→P.Fine
 |0,a,b,P,h=>by cases h
 |k+1,a,b,P,h=>by
  obtain⟨_,_,hc⟩:=ny h
  rcases hc with⟨_,hl⟩|⟨p,Q,_,h1,h2⟩|⟨p,q,Q,R,_,h1,h2,h3⟩
  ·rcases mf hl with⟨_,_,_,_,rfl⟩|⟨_,_,_,_,_,c6,c7,rfl⟩|⟨_,_,_,_,_,_,c6,c7,rfl⟩
   ·exact trivial
   ·exact⟨c6,c7⟩
   ·exact⟨c6,c7⟩
  ·obtain⟨_,_,_,_,_,rfl⟩:=lA h2
   exact(show Q.Fine from nz h1)
  ·obtain⟨_,_,c5⟩:=nC h3
   rcases c5 with⟨_,_,rfl⟩|⟨_,_,_,rfl⟩
   ·exact⟨nz h1,nz h2⟩
   ·exact⟨nz h1,nz h2⟩
theorem tz.fine{T:ByteArray}{P:mZ}(h:tz T P):P.Fine:=by
 obtain⟨_,_,_,_,_,_,_,hd,_⟩:=h
 exact nz hd
theorem OD{env:List Int}:∀{P:mZ}{xs ys:List ab}{t:Int},P.Fine→aW xs=true→env.length=26→eE xs env=true→mk env P xs=some (ys,t)→ci ys t=true
 | .name c,xs,ys,t,_,hp,_,_,h=>by
  obtain⟨g,g2⟩:=eF hp h
  exact dD.2 ⟨g.2.1,g2⟩
 | .var i,xs,ys,t,hf,hp,he,hv,h=>by
  have h:(bif decide (env.getD i.toNat 0<0)then none else some (xs,env.getD i.toNat 0))=some (ys,t):=h
  by_cases hn:env.getD i.toNat 0<0
  ·rw[decide_eq_true hn]at h;cases h
  ·rw[decide_eq_false hn]at h
   obtain⟨rfl,rfl⟩:=Prod.mk.inj (Option.some.inj h)
   obtain⟨f1,f2⟩:=hf
   exact GL hv _ (by omega) (by omega)
 | .ask i,xs,ys,t,_,_,_,_,h=>by cases h
 | .un k p,xs,ys,t,hf,hp,he,hv,h=>by
  obtain⟨r,h1,h2⟩:=Option.bind_eq_some_iff.1 (show(mk env p xs).bind _=some (ys,t)from h)
  have g1:=cR hp (show mk env p xs=some (r.1,r.2)from h1)
  obtain⟨g,g2⟩:=eF g1.1 h2
  exact dD.2 ⟨g.2.1,g2⟩
 | .bin k p q,xs,ys,t,hf,hp,he,hv,h=>by
  obtain⟨r,h1,h2⟩:=Option.bind_eq_some_iff.1 (show(mk env p xs).bind _=some (ys,t)from h)
  have g1:=cR hp (show mk env p xs=some (r.1,r.2)from h1)
  obtain⟨s,h3,h4⟩:=Option.bind_eq_some_iff.1 h2
  have g2:=cR g1.1 (show mk env q r.1=some (s.1,s.2)from h3)
  obtain⟨g,g3⟩:=eF g2.1 h4
  exact dD.2 ⟨g.2.1,g3⟩
 | .exp p q,xs,ys,t,hf,hp,he,hv,h=>by
  obtain⟨r,h1,h2⟩:=Option.bind_eq_some_iff.1 (show(mk env p xs).bind _=some (ys,t)from h)
  have g1:=cR hp (show mk env p xs=some (r.1,r.2)from h1)
  obtain⟨s,h3,h4⟩:=Option.bind_eq_some_iff.1 h2
  have g2:=cR g1.1 (show mk env q r.1=some (s.1,s.2)from h3)
  obtain⟨g,g3⟩:=eF g2.1 (pV h4)
  exact dD.2 ⟨g.2.1,g3⟩
def tB (env e:List Int):Prop:=∀i:Nat,env.getD i 0≠-1→e.getD i 0=env.getD i 0
theorem tB.refl (env:List Int):tB env env:=fun _ _=>rfl
theorem tB.trans{a b c:List Int}(h1:tB a b) (h2:tB b c):tB a c:=fun i h=>(h2 i (by rw[h1 i h];exact h)).trans (h1 i h)
theorem rI{env e:List Int}{P:mZ}{xs ys:List ab}{t:Int}(hp:aW xs=true) (hv:eE xs env=true) (h:I8 env P xs t=some (e,ys)):eE ys e=true∧tB env e:=by
 obtain⟨r,h1,h2⟩:=Option.bind_eq_some_iff.1 (show(mk env P xs).bind _=some (e,ys)from h)
 obtain⟨_,_,zs,hz⟩:=cR hp (show mk env P xs=some (r.1,r.2)from h1)
 cases hc:(r.2==t)with
 |false=>rw[hc]at h2;cases h2
 |true =>
  rw[hc]at h2
  obtain⟨rfl,rfl⟩:=Prod.mk.inj (Option.some.inj h2)
  exact⟨by rw[hz];exact lJ hv,tB.refl _⟩
theorem md:∀{P:mZ}{env e:List Int}{xs ys:List ab}{t:Int},Al env→eE xs env=true→aW xs=true→ci xs t=true→dK P env xs t=some (e,ys)→eE ys e=true∧tB env e
 | .name c,env,e,xs,ys,t,hE,hv,hp,ht,h=>rI hp hv h
 | .var i,env,e,xs,ys,t,hE,hv,hp,ht,h=>rI hp hv h
 | .un k p,env,e,xs,ys,t,hE,hv,hp,ht,h=>rI hp hv h
 | .exp p q,env,e,xs,ys,t,hE,hv,hp,ht,h=>rI hp hv h
 | .ask i,env,e,xs,ys,t,hE,hv,hp,ht,h=>by
  have h:(bif decide (env.getD i.toNat 0<0)then some (env.set i.toNat t,xs)else bif env.getD i.toNat 0==t then some (env,xs)else none)=some (e,ys):=h
  by_cases hn:env.getD i.toNat 0<0
  ·rw[decide_eq_true hn]at h
   obtain⟨rfl,rfl⟩:=Prod.mk.inj (Option.some.inj h)
   refine⟨rX ht _ hv,fun j hj=>?_⟩
   have hij:i.toNat≠j:=fun q=>by
    rw[←q]at hj
    exact hj (hE.2 _ hn)
   rw[List.getD_eq_getElem?_getD,List.getD_eq_getElem?_getD,List.getElem?_set_ne hij]
  ·rw[decide_eq_false hn]at h
   cases hc:(env.getD i.toNat 0==t)with
   |false=>rw[hc]at h;cases h
   |true =>
    rw[hc]at h
    obtain⟨rfl,rfl⟩:=Prod.mk.inj (Option.some.inj h)
    exact⟨hv,tB.refl _⟩
 | .bin k p q,env,e,xs,ys,t,hE,hv,hp,ht,h=>by
  have h:(bif k==2 then(bif (nd xs t).1==2 then(dK p env xs (nd xs t).2.1).bind fun r=>dK q r.1 r.2 (nd xs t).2.2 else none)
   else bif k==3 || k==4 then(bif (nd xs t).1==k then(dK q env xs (nd xs t).2.2).bind fun r=>dK p r.1 r.2 (nd xs t).2.1 else none)
   else I8 env (.bin k p q) xs t)=some (e,ys):=h
  cases h2:(k==2)with
  |true =>
   rw[h2,cond_true]at h
   cases h3:((nd xs t).1==2)with
   |false=>rw[h3]at h;cases h
   |true =>
    rw[h3,cond_true]at h
    obtain⟨k1,k2⟩:=Fs hp ht (.inl (by simpa using h3))
    obtain⟨r,h4,h5⟩:=Option.bind_eq_some_iff.1 h
    have h4:dK p env xs (nd xs t).2.1=some (r.1,r.2):=h4
    obtain⟨g1,g2,w,g3⟩:=eM hE hp k1 h4
    obtain⟨m1,m2⟩:=md hE hv hp k1 h4
    obtain⟨m3,m4⟩:=md g1 m1 g2 (by rw[g3];exact iW k2) h5
    exact⟨m3,m2.trans m4⟩
  |false =>
   rw[h2,cond_false]at h
   cases h3:(k==3 || k==4)with
   |false=>rw[h3,cond_false]at h;exact rI hp hv h
   |true =>
    rw[h3,cond_true]at h
    cases h6:((nd xs t).1==k)with
    |false=>rw[h6]at h;cases h
    |true =>
     rw[h6,cond_true]at h
     have h7:(nd xs t).1=k:=by simpa using h6
     have h8:k=3∨k=4:=by simpa using h3
     obtain⟨k1,k2⟩:=Fs hp ht (by rw[h7];exact .inr h8)
     obtain⟨r,h4,h5⟩:=Option.bind_eq_some_iff.1 h
     have h4:dK q env xs (nd xs t).2.2=some (r.1,r.2):=h4
     obtain⟨g1,g2,w,g3⟩:=eM hE hp k2 h4
     obtain⟨m1,m2⟩:=md hE hv hp k2 h4
     obtain⟨m3,m4⟩:=md g1 m1 g2 (by rw[g3];exact iW k1) h5
     exact⟨m3,m2.trans m4⟩
theorem qj{xs:List ab}{w p a b at_:Int}{env:List Int}{d dd:Bool}{key:Int}(hw:w=1∨w=2∨w=3) (hs:p=0∨p=1) (ha:0≤a∧a≤4) (hb:0≤b∧b≤4) (hab:a≠b) (hp:aW xs=true) (he:env.length=26) (hv:eE xs env=true)
  (h0:0≤at_∧at_≤5) (hd:d=(at_==5)) (h1:d=true→dd=false∧ci xs key=true) (h2:d=false→key=-1):jq xs (w,p,a,b,at_,env,d,dd,key)=true:=by
 have hx:=cd hp
 have h:=(sJ (xs:=xs) (by omega) (x:=(w,p,a,b,at_,env,d,dd,key)) (show env.length≤4294967296 by omega)).1
 dsimp only at h
 unfold fH at h
 obtain⟨r1,r2,r3⟩:=pO hw hs
 have hP:(decide (xs.length≤500)&&cp N0 [] xs)=true:=hp
 have k1:(decide (a≥0)&&decide (a≤4))=true:=by simp;omega
 have k2:(decide (b≥0)&&decide (b≤4))=true:=by simp;omega
 have k3:(a==b)=false:=by simpa using hab
 have k4:(decide (at_≥0)&&decide (at_≤((5:Nat):Int)))=true:=by simp;omega
 have k5:((at_==((5:Nat):Int)) != d)=false:=by
  rw[show(at_==((5:Nat):Int))=(at_==5)from rfl, ←hd]
  cases d<;>rfl
 simp only[ql N0 n0 (show xs.length≤4294967296 by omega) (show env.length≤4294967296 by omega),se,Option.bind_some,r1,eC,lF N0 (show xs.length≤4294967296 by omega),r3,Bool.not_true,cond_false,k1,k2,k3,hv,decide_eq_true he,hP,Bool.and_true,k4,k5]at h
 cases d with
 |true =>
  obtain⟨q1,q2⟩:=h1 rfl
  subst q1
  simp only[q2,cond_true,cond_false]at h
  exact(Option.some.inj h).symm
 |false =>
  have q:=h2 rfl
  subst q
  simp only[cond_false]at h
  exact(Option.some.inj h).symm
structure sf (xs:List ab) (at_ key:Int) (out:List Int) (ys:List ab) (at':Int) (env':List Int) (d' dd':Bool) (key':Int) (out':List Int):Prop where
 pool:aW ys=true
 len:env'.length=26
 few:out'.length≤5
 env:eE ys env'=true
 grows:∃zs,ys=xs++zs
 on:at_≤at'
 most:at'≤5
 done:d'=(at'==5)
 key1:d'=true→dd'=false∧ci ys key'=true
 key0:d'=false→key'=key
 sent:∀v∈out',v∈out∨ci ys v=true
theorem sf.stay{xs:List ab}{at_ key:Int}{out env:List Int}{dd:Bool}(h0:at_<5) (hp:aW xs=true) (he:env.length=26) (hv:eE xs env=true) (ho:out.length≤5):sf xs at_ key out xs at_ env false dd key out :=
 ⟨hp,he,ho,hv,⟨[],by simp⟩,Int.le_refl _,by omega,by rw[eq_comm,beq_eq_false_iff_ne];omega,fun q=>(by cases q),fun _=>rfl,fun v h => .inl h⟩
theorem sf.go{xs zs ys:List ab}{at_ at' key key2:Int}{out out2 env' out':List Int}{d' dd':Bool}{key':Int}(h:sf zs (at_+1) key2 out2 ys at' env' d' dd' key' out') (g:∃us,zs=xs++us) (hk:key2=key∨at_=4) (ho:∀v∈out2,v∈out∨ci zs v=true):sf xs at_ key out ys at' env' d' dd' key' out':=by
 obtain⟨us,rfl⟩:=g
 obtain⟨vs,hvs⟩:=h.grows
 refine⟨h.pool,h.len,h.few,h.env,⟨us++vs,by rw[hvs,List.append_assoc]⟩,by have:=h.on;omega,h.most,h.done,h.key1,fun q=>?_,fun v hv=>?_⟩
 ·rcases hk with e|e
  ·rw[←e];exact h.key0 q
  ·have q1:=h.done
   rw[q,show at'=5 by have:=h.on;have:=h.most;omega]at q1
   cases q1
 ·rcases h.sent v hv with q|q
  ·rcases ho v q with q|q
   ·exact .inl q
   ·exact .inr (by rw[hvs];exact iW q)
  ·exact .inr q
abbrev bs (T:ByteArray):List UInt8:=T.data.toList
def MS:ByteArray:=⟨#[36,63,120]⟩
theorem LP (a:Int):0≤bits .and .i64 a 255∧bits .and .i64 a 255≤255:=by
 have h:((BitVec.ofInt 64 a) &&& (BitVec.ofInt 64 255)).toNat≤255:=by
  rw[BitVec.toNat_and]
  exact Nat.and_le_right
 have e:bits .and .i64 a 255=IntKind.i64.wrap (((BitVec.ofInt 64 a) &&& (BitVec.ofInt 64 255)).toNat:Int):=rfl
 rw[e,am (by omega) (by omega)]
 omega
def Cu (b:List Int) (i:Int):Prop:=0≤i∧b.length≤4294967296
theorem vM (n:Nat){b:List Int}{i:Int}(h:Int) (hc:Cu b i):∃i' h' v,fA n (b,i,h)=some (b,i',h',v)∧Cu b i'∧0≤v∧v≤255:=by
 obtain⟨h0,h1⟩:=hc
 unfold fA
 dsimp only
 rw[decide_eq_true (show(0:Int)≤33 by decide),decide_eq_true (show(0:Int)≤45 by decide),cond_true,cond_true]
 by_cases hl:i<(b.length:Int)
 ·have e:i=((i.toNat:Nat):Int):=by omega
  have hin:aY i b.length=true:=by rw[e];exact ax (by omega)
  rw[decide_eq_true hl,hin,cond_true,cond_true,am (n:=i+1) (by omega) (by omega)]
  exact⟨_,_,_,rfl,⟨by omega,h1⟩,LP _⟩
 ·rw[decide_eq_false hl,cond_false]
  exact⟨_,_,_,rfl,⟨h0,h1⟩,LP _⟩
theorem FZ{x k:Int}(hx:0≤x) (hk:0<k):0≤x.tmod k∧x.tmod k<k:=by
 rw[Int.tmod_eq_emod_of_nonneg hx]
 exact⟨Int.emod_nonneg _ (by omega),Int.emod_lt_of_pos _ hk⟩
def Bel (k v:Int):Prop:=(k≤0∧v=0)∨(0≤v∧v<k)
theorem cC (n:Nat){b:List Int}{i:Int}(h k:Int) (hc:Cu b i):∃i' h' v,ag n (b,i,h,k)=some (b,i',h',v)∧Cu b i'∧Bel k v:=by
 unfold ag
 dsimp only
 by_cases h0:k≤0
 ·rw[decide_eq_true h0,cond_true]
  exact⟨_,_,_,rfl,hc, .inl ⟨h0,rfl⟩⟩
 ·have hk:(k != 0)=true:=by rw[bne_iff_ne];omega
  rw[decide_eq_false h0,cond_false]
  by_cases h1:k≤256
  ·rw[decide_eq_true h1,cond_true]
   obtain⟨i1,h1,v1,e1,c1,q1,q2⟩:=vM n h hc
   rw[e1,Option.bind_some]
   dsimp only
   rw[hk,cond_true]
   exact⟨_,_,_,rfl,c1, .inr (FZ q1 (by omega))⟩
  ·rw[decide_eq_false h1,cond_false]
   obtain⟨i1,h1,v1,e1,c1,p1,q1⟩:=vM n h hc
   rw[e1,Option.bind_some]
   dsimp only
   obtain⟨i2,h2,v2,e2,c2,p2,q2⟩:=vM n h1 c1
   rw[e2,Option.bind_some]
   dsimp only
   obtain⟨i3,h3,v3,e3,c3,p3,q3⟩:=vM n h2 c2
   rw[e3,Option.bind_some]
   dsimp only
   obtain⟨i4,h4,v4,e4,c4,p4,q4⟩:=vM n h3 c3
   rw[e4,Option.bind_some]
   dsimp only
   rw[hk,cond_true]
   have w1:IntKind.i64.wrap (v1*16777216)=v1*16777216:=am (by omega) (by omega)
   have w2:IntKind.i64.wrap (v2*65536)=v2*65536:=am (by omega) (by omega)
   have w3:IntKind.i64.wrap (v3*256)=v3*256:=am (by omega) (by omega)
   have w4:IntKind.i64.wrap (v1*16777216+v2*65536)=v1*16777216+v2*65536:=am (by omega) (by omega)
   have w5:IntKind.i64.wrap (v1*16777216+v2*65536+v3*256)=v1*16777216+v2*65536+v3*256:=am (by omega) (by omega)
   have w6:IntKind.i64.wrap (v1*16777216+v2*65536+v3*256+v4)=v1*16777216+v2*65536+v3*256+v4:=am (by omega) (by omega)
   rw[w1,w2,w3,w4,w5,w6]
   exact⟨_,_,_,rfl,c4, .inr (FZ (by omega) (by omega))⟩
theorem x8 (n:Nat){b:List Int}{i:Int}(h k:Int) (hc:Cu b i):∃i' h' v,dZ n (b,i,h,k)=some (b,i',h',v)∧Cu b i':=by
 unfold dZ
 dsimp only
 obtain⟨i1,h1,v1,e1,c1,_⟩:=cC n h k hc
 rw[e1,Option.bind_some]
 exact⟨_,_,_,rfl,c1⟩
theorem Fa (n:Nat){b:List Int}{i:Int}(h:Int) (l:List Int) (hl:l≠[]) (hc:Cu b i):∃i' h' v,iq n (b,i,h,l)=some (b,i',h',v)∧Cu b i'∧v∈l:=by
 unfold iq
 dsimp only
 obtain⟨i1,h1,v1,e1,c1,hb⟩:=cC n h (l.length:Int) hc
 have hpos:0<l.length:=List.length_pos_iff.2 hl
 rw[e1,Option.bind_some]
 dsimp only
 have hv:0≤v1∧v1<(l.length:Int):=by
  rcases hb with⟨q,_⟩|q
  ·omega
  ·exact q
 have e:v1=((v1.toNat:Nat):Int):=by omega
 have hin:aY v1 l.length=true:=by rw[e];exact ax (by omega)
 rw[hin,cond_true]
 refine⟨_,_,_,rfl,c1,?_⟩
 rw[List.getD_eq_getElem?_getD,List.getElem?_eq_getElem (by omega),Option.getD_some]
 exact List.getElem_mem _
theorem DH{b:List Int}(hb:b.length≤4294967296):∀(m:Nat) (h:Int) (j:Nat),4001<m+j→j≤4000→∃h',dr N0 m (b,h,(j:Int))=some (b,h')
 |0,h,j,hm,hj=>by omega
 |m+1,h,j,hm,hj=>by
  unfold dr
  dsimp only
  by_cases h1:j<b.length
  ·rw[decide_eq_true (show(j:Int)<(b.length:Int)by omega),cond_true]
   by_cases h2:j<4000
   ·rw[decide_eq_true (show(j:Int)<4000 by omega),cond_true,ax h1,cond_true,am (n:=(j:Int)+1) (by omega) (by omega),show(j:Int)+1=((j+1:Nat):Int)by omega]
    exact DH hb m _ (j+1) (by omega) (by omega)
   ·rw[decide_eq_false (show ¬(j:Int)<4000 by omega),cond_false]
    exact⟨_,rfl⟩
  ·rw[decide_eq_false (show ¬(j:Int)<(b.length:Int)by omega),cond_false]
   exact⟨_,rfl⟩
theorem PY{b:List Int}(hb:b.length≤4294967296):∃h,nD N0 b=some (false,b,(0:Int),h)∧Cu b 0:=by
 unfold nD
 have:=n0
 obtain⟨h',e⟩:=DH hb N0 (IntKind.i64.wrap ((12241:Int)+(b.length:Int))) 0 (by omega) (by omega)
 rw[show((0:Nat):Int)=(0:Int)from rfl]at e
 rw[e,Option.bind_some]
 exact⟨_,rfl,by decide,hb⟩
theorem GD{a:Int}{n m:Nat}(h:aY a n=true) (hm:n≤m):aY a m=true:=by
 unfold aY at h ⊢
 simp at h ⊢
 omega
theorem GC{a:Int}{n:Nat}(h:aY a n=true):0≤a∧a.toNat<n:=by
 unfold aY at h
 simp at h
 omega
theorem Eb {α:Type}{l x:List α}{i:Nat}(h:i<l.length) (d:α):(l++x).getD i d=l.getD i d:=by
 rw[List.getD_eq_getElem?_getD,List.getD_eq_getElem?_getD,List.getElem?_append_left h]
theorem sM{l1 x1:List dO}{l2 x2:List fI}:∀{k k':Nat}{a b:Int}{P:mZ},nq l1 l2 k a b=some P→k≤k'→nq (l1++x1) (l2++x2) k' a b=some P
 |0,k',a,b,P,h,_=>by cases h
 |k+1,0,a,b,P,h,hk=>by omega
 |k+1,k'+1,a,b,P,h,hk=>by
  obtain⟨h1,h2,hc⟩:=ny h
  have g1:=(GC h1).2
  have g2:=(GC h2).2
  unfold nq
  rw[GD h1 (by simp),GD h2 (by simp),Bool.and_true,cond_true,Eb g1,Eb g2]
  rcases hc with⟨hps,hl⟩|⟨p,Q,hps,q1,q2⟩|⟨p,q,Q,R,hps,q1,q2,q3⟩
  ·rw[hps];exact hl
  ·rw[hps]
   dsimp only
   rw[sM q1 (by omega),Option.bind_some]
   exact q2
  ·rw[hps]
   dsimp only
   rw[sM q1 (by omega),Option.bind_some,sM q2 (by omega),Option.bind_some]
   exact q3
theorem Gy {α:Type}(l:List α) (x d:α):(l++[x]).getD (((l++[x]).length:Int)-1).toNat d=x∧aY (((l++[x]).length:Int)-1) (l++[x]).length=true:=by
 have e:(((l++[x]).length:Int)-1).toNat=l.length:=by rw[sE];omega
 have e2:((l++[x]).length:Int)-1=(l.length:Int):=by rw[sE];omega
 refine⟨by rw[e];exact GH l [] x d,?_⟩
 rw[e2]
 exact ax (by simp)
theorem LB{l1:List dO}{l2:List fI}{k:Nat}{s c p kd A B:Int}{P Q:mZ}{u:Bool}(h:nq l1 l2 k p A=some Q) (h2:Ff (s,(c,[p])) (kd,(A,(B,u))) Q=some P) :
  nq (l1++[(s,(c,[p]))]) (l2++[(kd,(A,(B,u)))]) (k+1) (((l1++[(s,(c,[p]))]).length:Int)-1) (((l2++[(kd,(A,(B,u)))]).length:Int)-1)=some P:=by
 obtain⟨a1,a2⟩:=Gy l1 (s,(c,[p])) zP
 obtain⟨b1,b2⟩:=Gy l2 (kd,(A,(B,u))) zS
 unfold nq
 rw[a2,b2,a1,b1]
 dsimp only
 rw[Bool.and_true,cond_true,sM h (Nat.le_refl _),Option.bind_some]
 exact h2
abbrev RdO:=ByteArray×Int×Int×ByteArray×Bool×Bool×Bool×List dO×Int
abbrev PsO:=List fI×Int×Int×Bool
def mZ.lets:mZ→List Int
 | .ask i=>[i]
 | .un _ p=>p.lets
 | .bin _ p q=>p.lets++q.lets
 | .exp p q=>p.lets++q.lets
 |_=>[]
def yY (l:List dO):List Int:=l.flatMap fun x=>bif x.1==63 then [x.2.1]else []
def yX (l:List fI):List Int:=l.flatMap fun y=>bif y.1==9&&y.2.2.2 then [y.2.1]else []
theorem Jh (a b:List dO):yY (a++b)=yY a++yY b:=List.flatMap_append
theorem Jf (a b:List fI):yX (a++b)=yX a++yX b:=List.flatMap_append
theorem Jg (x:dO):yY [x]=bif x.1==63 then [x.2.1]else []:=by show _++[]=_;rw[List.append_nil]
theorem Je (y:fI):yX [y]=bif y.1==9&&y.2.2.2 then [y.2.1]else []:=by show _++[]=_;rw[List.append_nil]
theorem IT{x:dO}{y:fI}{P Q:mZ}(h:Ff x y Q=some P):yY [x]=[]∧yX [y]=[]∧P.lets=Q.lets:=by
 rw[Jg,Je]
 obtain⟨⟨_,_,c3⟩,_,_,c4,_,rfl⟩:=lA h
 rw[c3,show(y.1==9)=false from by rw[beq_eq_false_iff_ne];omega]
 exact⟨rfl,rfl,rfl⟩
def U0 (T:ByteArray) (i:Nat):List Int:=bif bt T (i:Int)==63 then [bt T ((i:Int)+1)-97]else []
def EN (T:ByteArray) (a b:Nat):List Int:=(List.range' a (b-a)).flatMap (U0 T)
theorem Kq{T:ByteArray}{a b c:Nat}(h1:a≤b) (h2:b≤c):EN T a c=EN T a b++EN T b c:=by
 unfold EN
 rw[←List.flatMap_append]
 congr 1
 have:=List.range'_append (s:=a) (m:=b-a) (n:=c-b) (step:=1)
 rw[show a+1*(b-a)=b by omega,show b-a+(c-b)=c-a by omega]at this
 exact this.symm
def X9 (T:ByteArray) (a:Nat) (l1:List dO) (l2:List fI) (ri:Option RdO) (rs:Option PsO):Prop :=
 (∃(a':Nat) (l1':List dO) (l2':List fI) (k:Nat) (P:mZ),ri=some (T,(a':Int),(0:Int),MS,false,false,false,l1',(l1'.length:Int)-1)∧rs=some (l2',(l2'.length:Int)-1,(a':Int),true)∧a<a'∧a'≤T.size∧l1'.length=l2'.length∧l1'.length+a≤l1.length+a' ∧
  (∃x,l1'=l1++x∧yY x=P.lets∧EN T a a'=P.lets)∧(∃y,l2'=l2++y∧yX y=P.lets)∧k+a≤a'∧nq l1' l2' k ((l1'.length:Int)-1) ((l2'.length:Int)-1)=some P) ∨
 (∃a2 c l1' v l2',ri=some (T,a2,c,MS,false,false,false,l1',v)∧c≠0∧rs=some (l2',(0:Int),(0:Int),false))
theorem Ls {α:Type}(l:List α) (x:α):(((l++[x]).length:Int)-1)=(l.length:Int):=by rw[sE];omega
theorem X9.one{T:ByteArray}{a b:Nat}{l1 m1:List dO}{l2 m2:List fI}{s kd:Int}{k:Nat}{P Q:mZ}(h1:a<b) (h2:b≤T.size) (hl:m1.length=m2.length) (hb:m1.length+a<l1.length+b){f:Nat}(hf:a≤f) (hfb:f≤b) (hsc:EN T a f=[]) (g1:∃x,m1=l1++x∧yY x=Q.lets∧EN T f b=Q.lets) (g2:∃y,m2=l2++y∧yX y=Q.lets) (hk:k+a<b)
  (hd:nq m1 m2 k ((m1.length:Int)-1) ((m2.length:Int)-1)=some Q) (hp:Ff (s,(0,[(m1.length:Int)-1])) (kd,((m2.length:Int)-1,(0,Q.asks))) Q=some P) :
  X9 T a l1 l2 (some (T,(b:Int),(0:Int),MS,false,false,false,m1++[(s,(0,[(m1.length:Int)-1]))],((m1++[(s,(0,[(m1.length:Int)-1]))]).length:Int)-1)) (some (m2++[(kd,((m2.length:Int)-1,(0,Q.asks)))],(m2.length:Int),(b:Int),true)):=by
 obtain⟨x,rfl,gx,gs⟩:=g1
 obtain⟨y,rfl,gy⟩:=g2
 obtain⟨e1,e2,e3⟩:=IT hp
 exact .inl ⟨b,_,_,k+1,P,rfl,by rw[Ls],h1,h2,by simp at hl ⊢;omega,by rw[List.length_append,List.length_singleton];omega,⟨_,List.append_assoc ..,by rw[Jh,gx,e1,e3,List.append_nil],by rw[Kq hf hfb,hsc,gs,e3,List.nil_append]⟩,⟨_,List.append_assoc ..,by rw[Jf,gy,e2,e3,List.append_nil]⟩,by omega,LB hd hp⟩
section
variable{T:ByteArray}{a:Nat}{c:UInt8}{r:List UInt8}{l1:List dO}{l2:List fI}{i1 i2 n:Nat}
end
section
variable{T:ByteArray}{a:Nat}{c:UInt8}{r:List UInt8}{l1:List dO}{l2:List fI}{i1 i2 n:Nat}
end
def mZ.plain:mZ→mZ
 | .ask i => .var i
 | .un k p => .un k p.plain
 | .bin k p q => .bin k p.plain q.plain
 | .exp p q => .exp p.plain q.plain
 |p=>p
theorem K8{xs:List ab}{ys:List ab}{t:Int}{a:Int}(hp:aW xs=true) (h0:0≤a) (h1:a≤199):gf N0 (1,a,0,(xs.length:Int))=true:=by
 have hr:∀v lo hi:Int,aI N0 (v,lo,hi)=some (decide (v≥lo)&&decide (v≤hi)):=fun v lo hi=>by
  unfold aI
  cases q:decide (v≥lo)<;>(simp[q])
 show(bM N0 (1,a,0,(xs.length:Int))).getD false=true
 unfold bM
 dsimp only
 rw[hr,show dS N0 1=some 0 from rfl]
 simp only[Option.bind_some,beq_self_eq_true,cond_true,decide_eq_true h0,decide_eq_true h1,Bool.and_self]
 rfl
theorem EP {α:Type}{xs:List α}(h:xs.length≤1000){k:α}:aO (xs.length+[k].length)=true:=by
 unfold aO;rw[List.length_singleton];exact decide_eq_true (by omega)
theorem xF:∀(m:Nat) (l:List Int),l.length≤26→26<m+l.length→∃e,cJ N0 m (l,(l.length:Int))=some e∧e.length=26∧((∀v∈l,v=-1)→∀v∈e,v=-1)
 |0,l,h,hm=>by omega
 |m+1,l,h,hm=>by
  unfold cJ
  dsimp only
  by_cases hq:l.length<26
  ·rw[decide_eq_true (show(l.length:Int)<26 by omega),cond_true,EP (by omega),cond_true,am (n:=(l.length:Int)+1) (by omega) (by omega), ←sE l (-1)]
   obtain⟨e,e1,e2,e3⟩:=xF m (l++[-1]) (by simp;omega) (by simp;omega)
   refine⟨e,e1,e2,fun hl=>e3 fun v hv=>?_⟩
   rcases List.mem_append.1 hv with q|q
   ·exact hl v q
   ·exact List.mem_singleton.1 q
  ·rw[decide_eq_false (show ¬(l.length:Int)<26 by omega),cond_false]
   exact⟨l,rfl,by omega,fun h=>h⟩
theorem JC:∃e,l8 N0 ()=some e∧e.length=26∧∀v∈e,v=-1:=by
 unfold l8
 have:=n0
 obtain⟨e,e1,e2,e3⟩:=xF N0 [] (by simp) (by omega)
 have e1:cJ N0 N0 (([]:List Int),(0:Int))=some e:=e1
 rw[e1,Option.bind_some]
 exact⟨e,rfl,e2,e3 (fun v hv=>by cases hv)⟩
theorem gK (a b:ByteArray):(a++b).size=a.size+b.size:=ByteArray.size_append
theorem tG (l:List Int):(nu l).size=l.length:=by
 show(l.map _).toArray.size=_
 rw[List.size_toArray,List.length_map]
theorem AK:∀(k m:Nat) (x:Int) (s:ByteArray),0≤x→x≤1000000→x<10 ^ k→k<m→s.size+k≤1000→∃r,cY N0 m (x,s)=some r∧r.size≤s.size+k
 |_,0,x,s,_,_,_,h,_=>by omega
 |0,m+1,x,s,h0,hx,h1,hm,hs=>by
  unfold cY
  dsimp only
  rw[decide_eq_false (show ¬x>0 by have:(10:Int) ^ 0=1:=rfl;omega),cond_false]
  exact⟨s,rfl,by omega⟩
 |k+1,m+1,x,s,h0,hx,h1,hm,hs=>by
  unfold cY
  dsimp only
  by_cases hq:x>0
  ·rw[decide_eq_true hq,cond_true,show((10:Int) != 0)=true from rfl,cond_true,lq (by rw[tG,List.length_singleton];omega),cond_true,cond_true]
   have hd:x.tdiv 10=x / 10:=Int.tdiv_eq_ediv_of_nonneg h0
   have h2:x / 10<10 ^ k:=by
    rw[Int.pow_succ]at h1
    omega
   rw[hd,am (n:=x / 10) (by omega) (by omega)]
   obtain⟨r,e1,e2⟩:=AK k m (x / 10) (nu [(IntKind.u8.wrap (IntKind.i64.wrap ((48:Int)+(x.tmod (10:Int)))))]++s) (by omega) (by omega) h2 (by omega) (by rw[gK,tG,List.length_singleton];omega)
   exact⟨r,e1,by rw[gK,tG,List.length_singleton]at e2;omega⟩
  ·rw[decide_eq_false hq,cond_false]
   exact⟨s,rfl,by omega⟩
theorem Iu{xs:List ab}{w p a b at_:Int}{env:List Int}{d dd:Bool}{key t:Int}(hx:xs.length≤4294967296) (he:env.length≤4294967296) (h:jq xs (w,p,a,b,at_,env,d,dd,key)=true) :
  ∃ys at' e d' dd' ok,dh N0 (xs,w,p,a,b,at_,env,d,dd,key,t)=some (ys,w,p,a,b,at',e,d',dd',key,ok)∧jq ys (w,p,a,b,at',e,d',dd',key)=true∧e.length=26∧aW ys=true∧∃zs,ys=xs++zs:=by
 have hg:=Cq hx (x:=(w,p,a,b,at_,env,d,dd,key)) he h
 have g1:w=1∨w=2∨w=3:=hg.way
 have g2:p=0∨p=1:=hg.side
 have g3:eE xs env=true:=hg.env
 have g4:env.length=26:=hg.len
 have g5:0≤at_∧at_≤5:=hg.at0
 have g6:d=(at_==5):=hg.done
 have hp:=hg.pool
 obtain⟨r1,r2,r3⟩:=pO g1 g2
 have no:dh N0 (xs,w,p,a,b,at_,env,d,dd,key,t)=some (xs,w,p,a,b,at_,env,d,dd,key,false) →
   ∃ys at' e d' dd' ok,dh N0 (xs,w,p,a,b,at_,env,d,dd,key,t)=some (ys,w,p,a,b,at',e,d',dd',key,ok)∧jq ys (w,p,a,b,at',e,d',dd',key)=true∧e.length=26∧aW ys=true∧∃zs,ys=xs++zs:=fun q=>⟨_,_,_,_,_,_,q,h,g4,hp,[],by simp⟩
 cases d with
 |true =>
  refine no ?_
  unfold dh dg
  simp only[Option.bind_some,Bool.not_true,cond_false,cond_true]
 |false =>
  cases dd with
  |true =>
   refine no ?_
   unfold dh dg
   simp only[Option.bind_some,Bool.not_true,cond_false,cond_true]
  |false =>
   have a5:at_≠5:=fun q=>by rw[q]at g6;exact absurd g6 (by decide)
   have hin:aY at_ 5=true:=by
    have e:at_=((at_.toNat:Nat):Int):=by omega
    rw[e];exact ax (by omega)
   obtain⟨hA,hact⟩:=BW g1 g2 (i:=at_.toNat) (by omega) _ rfl
   have hh:=wB N0 hx t
   revert hA hact
   generalize hAA:(qF w p).getD at_.toNat ((0:Int),(⟨#[]⟩:ByteArray))=A
   intro hA hact
   cases hk:(A.1 != 3)with
   |true =>
    refine no ?_
    unfold dh dg ft jG
    simp only[hh,Option.bind_some,Bool.not_true,cond_false,cond_true,r2,r3,hin,hAA,hk]
    cases ci xs t<;>simp only[Bool.not_true,Bool.not_false,cond_false,cond_true,Option.bind_some,r2,r3,hin,hAA,hk]
   |false =>
    have hk3:A.1=3:=by simpa using hk
    have hT:∃P,tz A.2 P:=by
     rcases hact with⟨h,_⟩|⟨_,h⟩|⟨h,_⟩
     ·omega
     ·exact h
     ·omega
    obtain⟨P,hP⟩:=hT
    cases ht:ci xs t with
    |false =>
     refine no ?_
     unfold dh dg
     simp only[hh,ht,Option.bind_some,Bool.not_true,Bool.not_false,cond_false,cond_true]
    |true =>
     rw[ht]at hh
     obtain⟨l2,e,ys,c,q1,q2,q3⟩:=Fr hP hp g4 g3 ht
     cases hM:dK P env xs t with
     |none =>
      rw[hM]at q3
      have q3:c=false:=q3
      subst q3
      refine no ?_
      unfold dh ft jF
      simp only[hh,r2,r3,hin,hAA,hk,q1,q2,Option.bind_some,Bool.not_true,Bool.not_false,cond_false,cond_true]
     |some s =>
      rw[hM]at q3
      obtain⟨q3,q4⟩:=(q3:(e,ys)=s∧c=true)
      subst q3;subst q4
      obtain⟨f1,f2,f3⟩:=eM ⟨g4,rY g3⟩ hp ht hM
      obtain⟨f4,f5⟩:=md ⟨g4,rY g3⟩ g3 hp ht hM
      have n4:at_.toNat≠4:=fun q=>by have:=hA.2 q;omega
      have wa:IntKind.i64.wrap (at_+(1:Int))=at_+1:=am (by omega) (by omega)
      refine⟨ys,at_+1,e,false,false,true,?_,qj g1 g2 hg.me hg.peer hg.ne f2 f1.1 f4 ⟨by omega,by omega⟩ (by rw[eq_comm,beq_eq_false_iff_ne];omega) (fun q=>by cases q) (fun _=>hg.no rfl),f1.1,f2,f3⟩
      unfold dh ft iN
      simp only[hh,r2,r3,hin,hAA,hk,q1,q2,wa,Option.bind_some,Bool.not_true,Bool.not_false,cond_false,cond_true]
theorem K9{xs:List ab}(hp:aW xs=true) (hl:xs.length<490){v:Int}(h0:0≤v) (h1:v≤199):∃ys t,bU N0 (xs,v)=some (ys,t)∧gV xs 1 v 0=some (ys,t)∧ys.length≤xs.length+1:=by
 have hn:=K8 (ys:=[]) (t:=0) hp h0 h1
 have ha:∃ys t,gV xs 1 v 0=some (ys,t)∧ys.length≤xs.length+1:=by
  show ∃ys t,zG xs (1,v,0)=some (ys,t)∧_
  unfold zG
  dsimp only
  rw[hn,cond_true]
  cases hf:tf xs (1,v,0)with
  |some j=>exact⟨_,_,rfl,by omega⟩
  |none =>
   dsimp only
   rw[if_neg (by omega)]
   exact⟨_,_,rfl,by simp⟩
 obtain⟨ys,t,e,l⟩:=ha
 refine⟨ys,t,?_,e,l⟩
 unfold bU
 dsimp only
 rw[ix hp,e];rfl
theorem IF{i:Nat}{t:Int}(h0:0≤t) (h1:t<(i:Int)) (hi:i≤4294967296):gf N0 (7,t,0,(i:Int))=true:=by
 have w:IntKind.i64.wrap ((i:Int)-(1:Int))=(i:Int)-1:=am (by omega) (by omega)
 have hr:∀v lo hi:Int,aI N0 (v,lo,hi)=some (decide (v≥lo)&&decide (v≤hi)):=fun v lo hi=>by
  unfold aI
  cases q:decide (v≥lo)<;>(simp[q])
 show(bM N0 (7,t,0,(i:Int))).getD false=true
 unfold bM
 dsimp only
 rw[w,hr,hr,hr,show dS N0 7=some 1 from rfl]
 simp only[Option.bind_some,show((1:Int)==0)=false from rfl,beq_self_eq_true,cond_true,cond_false,decide_eq_true (show t≥0 by omega),decide_eq_true (show t≤(i:Int)-1 by omega),Bool.and_self]
 rfl
theorem IG{xs:List ab}(hp:aW xs=true) (hl:xs.length<490){t:Int}(ht:ci xs t=true):∃ys u,bb N0 (xs,(7:Int),t,(0:Int))=some (ys,u)∧gV xs 7 t 0=some (ys,u)∧ys.length≤xs.length+1:=by
 rw[dD]at ht
 have hn:=IF ht.1 ht.2 (by omega)
 have ha:∃ys t',gV xs 7 t 0=some (ys,t')∧ys.length≤xs.length+1:=by
  show ∃ys t',zG xs (7,t,0)=some (ys,t')∧_
  unfold zG
  dsimp only
  rw[hn,cond_true]
  cases hf:tf xs (7,t,0)with
  |some j=>exact⟨_,_,rfl,by omega⟩
  |none =>
   dsimp only
   rw[if_neg (by omega)]
   exact⟨_,_,rfl,by simp⟩
 obtain⟨ys,u,e,l⟩:=ha
 refine⟨ys,u,?_,e,l⟩
 rw[ix hp,e];rfl
def xS:List Int:=[(109:Int),(112:Int),(115:Int),(113:Int),(107:Int),(116:Int),(117:Int)]
theorem Nb:∀j:Nat,j<7→97≤xS.getD j 0∧xS.getD j 0≤122:=by decide
theorem ml{xs ys:List ab}{kd a b t:Int}(hp:aW xs=true) (h:gV xs kd a b=some (ys,t)):aW ys=true∧ci ys t=true∧∃zs,ys=xs++zs:=by
 obtain⟨⟨g1,g2,g3⟩,g4⟩:=eF hp h
 exact⟨g1,dD.2 ⟨g2,g4⟩,g3⟩
theorem oK{xs0:List ab}{w p a b:Int}{ns:List Int}(hns:ns.length=7) (hin:∀j:Nat,j<7→0≤ns.getD j 0∧ns.getD j 0≤199):∀(m j:Nat) (xs:List ab) (env:List Int),j≤7→7<m+j→aW xs=true→xs.length+2*(7-j)≤480→env.length=26→eE xs env=true →
  ∃ys e,bH N0 m (xs0,[],(0:Int),(0:Int),(0:Int),(0:Int),(0:Int),[],false,false,(0:Int),w,p,a,b,(0:Int),env,false,false,(-1:Int),ns,xS,xs,(j:Int))=some (Sum.inr ([],(0:Int),(0:Int),(0:Int),(0:Int),(0:Int),[],false,false,(0:Int),w,p,a,b,(0:Int),e,false,false,(-1:Int),ys))∧aW ys=true∧ys.length≤xs.length+2*(7-j)∧e.length=26∧eE ys e=true∧∃zs,ys=xs++zs
 |0,j,xs,env,hj,hm,_,_,_,_=>by omega
 |m+1,j,xs,env,hj,hm,hp,hl,he,hv=>by
  unfold bH
  dsimp only
  by_cases hq:j<7
  ·obtain⟨n1,n2⟩:=hin j hq
   obtain⟨l1,l2⟩:=Nb j hq
   have hll:xS.length=7:=rfl
   have hi2:aY (j:Int) xS.length=true:=ax (by omega)
   have wj:IntKind.i64.wrap ((j:Int)+1)=((j+1:Nat):Int):=by rw[am (by omega) (by omega)];omega
   have hw:=(l97 l1 l2).2
   have hie:aY (xS.getD j 0-97) env.length=true:=by
    rw[show xS.getD j 0-97=(((xS.getD j 0-97).toNat:Nat):Int)by omega]
    exact ax (by omega)
   obtain⟨ys,t,e1,e2,e3⟩:=K9 hp (by omega) n1 n2
   obtain⟨p1,h1,zs,hz⟩:=ml hp e2
   have hv1:eE ys env=true:=by rw[hz];exact lJ hv
   have t0:=(dD.1 h1).1
   rw[decide_eq_true (show(j:Int)<(ns.length:Int)by omega),cond_true]
   unfold iQ
   dsimp only
   rw[ax (show j<ns.length by omega),cond_true,Int.toNat_natCast,e1,Option.bind_some,Option.bind_some]
   dsimp only
   rw[decide_eq_true (show t≥0 by omega),cond_true,hi2,cond_true,Int.toNat_natCast,hw,hie,wj]
   cases(xS.getD j 0==117)with
   |true =>
    obtain⟨us,u,f1,f2,f3⟩:=IG p1 (by omega) h1
    obtain⟨p2,h2,ws,hw2⟩:=ml p1 f2
    have u0:=(dD.1 h2).1
    have hv2:eE us env=true:=by rw[hw2];exact lJ hv1
    rw[cond_true,f1,Option.bind_some]
    dsimp only
    rw[decide_eq_false (show ¬u<0 by omega),cond_false,cond_true,cond_true]
    obtain⟨vs,e,k1,k2,k3,k4,k5,ks,k6⟩:=oK hns hin m (j+1) us (env.set (xS.getD j 0-97).toNat u) (by omega) (by omega) p2 (by omega) (by rw[List.length_set];exact he) (rX h2 _ hv2)
    exact⟨vs,e,k1,k2,by omega,k4,k5,zs++(ws++ks),by rw[k6,hw2,hz,List.append_assoc,List.append_assoc]⟩
   |false =>
    rw[cond_false,decide_eq_false (show ¬t<0 by omega),cond_false,cond_true,cond_true]
    obtain⟨vs,e,k1,k2,k3,k4,k5,ks,k6⟩:=oK hns hin m (j+1) ys (env.set (xS.getD j 0-97).toNat t) (by omega) (by omega) p1 (by omega) (by rw[List.length_set];exact he) (rX h1 _ hv1)
    exact⟨vs,e,k1,k2,by omega,k4,k5,zs++ks,by rw[k6,hz,List.append_assoc]⟩
  ·rw[decide_eq_false (show ¬(j:Int)<(ns.length:Int)by omega),cond_false]
   exact⟨xs,env,rfl,hp,by omega,he,hv,[],by simp⟩
theorem Eh{xs:List ab}:∀{e:List Int},(∀v∈e,v=-1)→eE xs e=true
 |[],_=>rfl
 |v::e,h=>by
  show((v == -1 || ci xs v)&&eE xs e)=true
  rw[h v (List.mem_cons_self ..),Eh (fun u hu=>h u (List.mem_cons_of_mem _ hu))]
  rfl
theorem Df{w p:Int}(hw:w=1∨w=2∨w=3) (hp:p=0∨p=1):di N0 (w,p)=some true:=by
 rcases hw with rfl|rfl|rfl<;>rcases hp with rfl|rfl
 all_goals kernel_rfl
theorem lK{a:Int}(h0:0≤a) (h1:a≤4):br N0 a=some true:=by
 unfold br
 rw[oB,decide_eq_true (show a≥0 by omega),decide_eq_true h1];rfl
theorem tS{a:Int}(h0:0≤a) (h1:a≤4):gD N0 a=some (50+a):=by
 unfold gD
 rw[lK h0 h1,Option.bind_some,Bool.not_true,cond_false,am (by omega) (by omega)]
theorem m7{a:Int}(h0:0≤a) (h1:a≤4):dw N0 a=some (90+a):=by
 unfold dw
 rw[lK h0 h1,Option.bind_some,Bool.not_true,cond_false,am (by omega) (by omega)]
theorem uF{a b:Int}(h0:0≤a) (h1:a≤4) (g0:0≤b) (g1:b≤4) (hab:a≠b):∃v,gb N0 (a,b)=some v∧0≤v∧v≤199:=by
 unfold gb ir pL
 dsimp only
 rw[lK h0 h1,lK g0 g1,show(a==b)=false from by rw[beq_eq_false_iff_ne];exact hab]
 simp only[Option.bind_some,Bool.not_true,cond_false]
 cases decide (a<b)with
 |true =>
  simp only[cond_true,Option.bind_some]
  cases decide (a>b)with
  |true=>simp only[cond_true,Option.bind_some];rw[am (n:=5*a) (by omega) (by omega),am (n:=60+5*a) (by omega) (by omega),am (by omega) (by omega)];exact⟨_,rfl,by omega,by omega⟩
  |false=>simp only[cond_false,Option.bind_some];rw[am (n:=5*a) (by omega) (by omega),am (n:=60+5*a) (by omega) (by omega),am (by omega) (by omega)];exact⟨_,rfl,by omega,by omega⟩
 |false =>
  simp only[cond_false,Option.bind_some]
  cases decide (a>b)with
  |true=>simp only[cond_true,Option.bind_some];rw[am (n:=5*b) (by omega) (by omega),am (n:=60+5*b) (by omega) (by omega),am (by omega) (by omega)];exact⟨_,rfl,by omega,by omega⟩
  |false=>simp only[cond_false,Option.bind_some];rw[am (n:=5*b) (by omega) (by omega),am (n:=60+5*b) (by omega) (by omega),am (by omega) (by omega)];exact⟨_,rfl,by omega,by omega⟩
theorem M0{xs:List ab}(hp:aW xs=true) (hl:xs.length≤400){w p a b:Int}(hw:w=1∨w=2∨w=3) (hs:p=0∨p=1) (a0:0≤a) (a1:a≤4) (b0:0≤b) (b1:b≤4) (hab:a≠b) :
  ∃ys e,kE N0 (xs,w,p,a,b)=some (ys,w,p,a,b,(0:Int),e,false,false,(-1:Int),true)∧ys.length≤xs.length+14∧e.length=26∧(∃zs,ys=xs++zs)∧jq ys (w,p,a,b,0,e,false,false, -1)=true:=by
 have hN:=n0
 have pS:=l9 N0 n0 (xs:=xs) (by omega)
 have hP:(decide (xs.length≤500)&&cp N0 [] xs)=true:=hp
 rw[hP]at pS
 obtain⟨e0,q1,q2,q3⟩:=JC
 obtain⟨s,s1,s2,s3⟩:=uF a0 a1 b0 b1 hab
 unfold kE
 dsimp only
 rw[pS]
 simp only[Df hw hs,lK a0 a1,lK b0 b1,show(a==b)=false from by rw[beq_eq_false_iff_ne];exact hab,q1,tS a0 a1,tS b0 b1,s1,m7 a0 a1,m7 b0 b1,Option.bind_some,Bool.not_true,cond_false]
 obtain⟨ys,e,k1,k2,k3,k4,k5,k6⟩:=oK (xs0:=xs) (w:=w) (p:=p) (a:=a) (b:=b) (ns:=[a,b,50+a,50+b,s,90+a,90+b]) rfl (fun j hj=>by
  match j,hj with
  |0,_=>exact⟨a0,(show a≤199 by omega)⟩
  |1,_=>exact⟨b0,(show b≤199 by omega)⟩
  |2,_=>exact⟨(show 0≤50+a by omega),(show 50+a≤199 by omega)⟩
  |3,_=>exact⟨(show 0≤50+b by omega),(show 50+b≤199 by omega)⟩
  |4,_=>exact⟨s2,s3⟩
  |5,_=>exact⟨(show 0≤90+a by omega),(show 90+a≤199 by omega)⟩
  |6,_=>exact⟨(show 0≤90+b by omega),(show 90+b≤199 by omega)⟩
  |n+7,h=>omega) N0 0 xs e0 (by omega) (by omega) hp (by omega) q2 (Eh q3)
 rw[show((0:Nat):Int)=(0:Int)from rfl]at k1
 unfold xS at k1
 rw[k1,Option.bind_some]
 dsimp only
 unfold iP
 dsimp only
 have hyl:=cd k2
 rw[vL (xs:=ys) (by omega),Option.bind_some,Option.bind_some]
 exact⟨ys,e,rfl,by omega,k4,k6,qj hw hs ⟨a0,a1⟩ ⟨b0,b1⟩ hab k2 k4 k5 (by omega) rfl (fun q=>by cases q) (fun _=>rfl)⟩
def Ct (n:Int):Int:=(gc N0 n).getD 0
theorem Jw (n:Int):gc N0 n=some (Ct n):=by
 unfold Ct gc
 rw[oB]
 simp only[Option.bind_some]
 cases(decide (n≥0)&&decide (n≤99))<;>rfl
structure Pe (xs:List ab) (at_ key:Int) (out:List Int) (rs:Option (GoT⊕(Int×List ab×Int×Int×Int×Int×Int×List Int×Bool×Bool×Int×List ab×Int×Int×Int×Int×Int×List Int×Bool×Bool×Int×List Int))) (w p a b:Int):Prop where
 ex:∃es ys at' env' d' dd' key' out' nx,rs=some es∧Y6 es=(ys,w,p,a,b,at',env',d',dd',key',out',nx)∧sf xs at_ key out ys at' env' d' dd' key' out'
theorem u9{w p a b:Int}(hw:w=1∨w=2∨w=3) (hs:p=0∨p=1):∀(k:Nat) (at_:Int) (env:List Int) (key nx:Int) (xs:List ab) (out:List Int) (m2:Nat),at_+(k:Int)=5→0≤at_→aW xs=true→env.length=26→eE xs env=true→(at_=5→ci xs key=true)→out.length+k≤5→k<m2 →
  Pe xs at_ key out (ar N0 m2 (nx,xs,w,p,a,b,at_,env,(at_==5),false,key,[],(0:Int),(0:Int),(0:Int),(0:Int),(0:Int),[],false,false,(0:Int),out,qF w p)) w p a b
 |k,at_,env,key,nx,xs,out,0,h0,h1,hp,he,hv,hky,ho,hm2=>by omega
 |0,at_,env,key,nx,xs,out,m2+1,h0,h1,hp,he,hv,hky,ho,hm2=>by
  have e5:at_=5:=by omega
  subst e5
  have hl:=cd hp
  refine⟨_,xs,5,env,true,false,key,out,nx,rfl,rfl,hp,he,by omega,hv,⟨[],by simp⟩,Int.le_refl _,Int.le_refl _,rfl,fun _=>⟨rfl,hky rfl⟩,fun q=>(by cases q),fun v h => .inl h⟩
 |k+1,at_,env,key,nx,xs,out,m2+1,h0,h1,hp,he,hv,hky,ho,hm2=>by
  have hl:=cd hp
  have c5:(at_==5)=false:=by rw[beq_eq_false_iff_ne];omega
  have hin:aY at_ 5=true:=by
   have e:at_=((at_.toNat:Nat):Int):=by omega
   rw[e];exact ax (by omega)
  obtain⟨_,_,r3⟩:=pO hw hs
  obtain⟨hA,hact⟩:=BW hw hs (i:=at_.toNat) (by omega) _ rfl
  have w1:IntKind.i64.wrap (at_+1)=at_+1:=am (by omega) (by omega)
  have rm:∀t:Int,aO (out.length+[t].length)=true:=fun t=>by
   unfold aO
   rw[List.length_singleton]
   simp
   omega
  revert hA hact
  generalize hAA:(qF w p).getD at_.toNat ((0:Int),(⟨#[]⟩:ByteArray))=A
  intro hA hact
  rw[c5]
  rcases hact with⟨k1,s1,s2,s3⟩|⟨k1,_⟩|⟨k1,P,hP,hAs⟩
  ·have k1':(A.1==1)=true:=by rw[k1];rfl
   have k3':(A.1==3)=false:=by rw[k1];rfl
   have k4':(A.1==4)=false:=by rw[k1];rfl
   have k2':(A.1==2)=false:=by rw[k1];rfl
   have n4:at_.toNat≠4:=fun q=>by have:=hA.2 q;omega
   have c6:(at_+1==5)=false:=by rw[beq_eq_false_iff_ne];omega
   have f2:=Jw nx
   have nS:=j8 hp (Ct nx)
   cases hq:gV xs 1 (Ct nx) 0 with
   |none =>
    rw[hq]at nS
    refine⟨.inl (xs,w,p,a,b,at_,env,false,true,key,out,nx),xs,at_,env,false,true,key,out,nx,?_,rfl,sf.stay (by omega) hp he hv (by omega)⟩
    rw[ar];dsimp only
    simp only[it,d5,f8,r3,hin,hAA,k1',k2',k3',k4',f2,nS,jU,Bool.not_false,Bool.not_true,cond_true,cond_false,Option.bind_some,show decide ((-1:Int)<0)=true from rfl,show decide ((-1:Int)≥0)=false from rfl]
   |some s =>
    obtain⟨ys,t⟩:=s
    rw[hq]at nS
    obtain⟨⟨g1,g2,zs,g3⟩,g4⟩:=eF hp hq
    have tb:ci ys t=true:=dD.2 ⟨g2,g4⟩
    obtain⟨u1,u2⟩:=l97 s2 s3
    have ib:aY (bt A.2 0-97) env.length=true:=w9 he (by omega) (by omega)
    have sz:aY (0:Int) A.2.size=true:=by rw[s1];rfl
    have tn:decide (t<0)=false:=decide_eq_false (by omega)
    have tp:decide (t≥0)=true:=decide_eq_true (by omega)
    have ih:=u9 (a:=a) (b:=b) hw hs k (at_+1) (env.set (bt A.2 0-97).toNat t) key (IntKind.i64.wrap (nx+1)) ys out m2 (by omega) (by omega) g1 (by rw[List.length_set];exact he) (rX tb _ (by rw[g3];exact lJ hv)) (fun q=>by omega) (by omega) (by omega)
    rw[c6]at ih
    obtain⟨es,zs2,at',env',d',dd',key',out',nx',q2,q4,q5⟩:=ih
    refine⟨es,zs2,at',env',d',dd',key',out',nx',?_,q4,q5.go ⟨zs,g3⟩ (.inl rfl) (fun v h => .inl h)⟩
    rw[ar];dsimp only
    simp only[it,d5,f8,r3,hin,hAA,k1',k2',k3',k4',f2,nS,jU,Bool.not_false,Bool.not_true,cond_true,cond_false,Option.bind_some,tn,tp,sz,u2,ib,w1,q2]
  ·have k1':(A.1==1)=false:=by rw[k1];rfl
   have k3':(A.1==3)=true:=by rw[k1];rfl
   refine⟨.inl (xs,w,p,a,b,at_,env,false,false,key,out,nx),xs,at_,env,false,false,key,out,nx,?_,rfl,sf.stay (by omega) hp he hv (by omega)⟩
   rw[ar];dsimp only
   simp only[f8,r3,hin,hAA,k1',k3',Bool.not_false,Bool.not_true,cond_true,cond_false,Option.bind_some]
  ·have k1':(A.1==1)=false:=by rcases k1 with e|e<;>rw[e]<;>rfl
   have k3':(A.1==3)=false:=by rcases k1 with e|e<;>rw[e]<;>rfl
   obtain⟨l2,ys,t,e1,e2,e3,e4⟩:=y0 hP hp he hv
   have w2:IntKind.i64.wrap ((l2.length:Int)-1)=(l2.length:Int)-1:=am (by omega) (by omega)
   have mo:cH N0 N0 (xs,env,l2,(l2.length:Int)-1)=some (env,ys,t):=by
    rw[oM,e3];rfl
   cases hq:mk env P xs with
   |none =>
    rw[hq]at e4
    have e4:t=-1:=e4
    subst e4
    refine⟨.inl (xs,w,p,a,b,at_,env,false,true,key,out,nx),xs,at_,env,false,true,key,out,nx,?_,rfl,sf.stay (by omega) hp he hv (by omega)⟩
    rw[ar];dsimp only
    simp only[d5,r3,hin,hAA,k1',k3',e1,w2,mo,Bool.not_false,Bool.not_true,cond_true,cond_false,Option.bind_some,show decide ((-1:Int)<0)=true from rfl]
   |some s =>
    rw[hq]at e4
    have e4:(ys,t)=s:=e4
    subst e4
    obtain⟨g1,g2,zs,g3⟩:=cR hp hq
    have tn:decide (t<0)=false:=decide_eq_false (by omega)
    have tp:decide (t≥0)=true:=decide_eq_true (by omega)
    have hv':eE ys env=true:=by rw[g3];exact lJ hv
    rcases k1 with k1|k1
    ·have k4':(A.1==4)=false:=by rw[k1];rfl
     have k2':(A.1==2)=true:=by rw[k1];rfl
     have n4:at_.toNat≠4:=fun q=>by have:=hA.2 q;omega
     have c6:(at_+1==5)=false:=by rw[beq_eq_false_iff_ne];omega
     have ih:=u9 (a:=a) (b:=b) hw hs k (at_+1) env key nx ys (out++[t]) m2 (by omega) (by omega) g1 he hv' (fun q=>by omega) (by rw[List.length_append,List.length_singleton];omega) (by omega)
     rw[c6]at ih
     obtain⟨es,zs2,at',env',d',dd',key',out',nx',q2,q4,q5⟩:=ih
     refine⟨es,zs2,at',env',d',dd',key',out',nx',?_,q4,q5.go ⟨zs,g3⟩ (.inl rfl) (fun v h=>(List.mem_append.1 h).imp id (fun h=>by rw[List.mem_singleton.1 h];exact OD hP.fine hp he hv hq))⟩
     rw[ar];dsimp only
     simp only[r3,hin,hAA,k1',k2',k3',k4',e1,w2,mo,Bool.not_false,Bool.not_true,cond_true,cond_false,Option.bind_some,tn,tp,w1,rm t,q2]
    ·have k4':(A.1==4)=true:=by rw[k1];rfl
     have k2':(A.1==2)=false:=by rw[k1];rfl
     have n4:at_.toNat=4:=hA.1 k1
     have c6:(at_+1==5)=true:=by rw[beq_iff_eq];omega
     have ih:=u9 (a:=a) (b:=b) hw hs k (at_+1) env t nx ys out m2 (by omega) (by omega) g1 he hv' (fun _=>OD hP.fine hp he hv hq) (by omega) (by omega)
     rw[c6]at ih
     obtain⟨es,zs2,at',env',d',dd',key',out',nx',q2,q4,q5⟩:=ih
     refine⟨es,zs2,at',env',d',dd',key',out',nx',?_,q4,q5.go ⟨zs,g3⟩ (.inr (by omega)) (fun v h => .inl h)⟩
     rw[ar];dsimp only
     simp only[r3,hin,hAA,k1',k2',k3',k4',e1,w2,mo,Bool.not_false,Bool.not_true,cond_true,cond_false,Option.bind_some,tn,w1,q2]
theorem Lo{xs:List ab}{w p a b at_:Int}{env:List Int}{d dd:Bool}{key nx:Int}(hx:xs.length≤4294967296) (he:env.length≤4294967296) (hv:jq xs (w,p,a,b,at_,env,d,dd,key)=true) :
  ∃ys at' env' d' dd' key' out' nx',lx N0 (xs,w,p,a,b,at_,env,d,dd,key,nx)=some (ys,w,p,a,b,at',env',d',dd',key',out',nx')∧jq ys (w,p,a,b,at',env',d',dd',key')=true∧sf xs at_ key [] ys at' env' d' dd' key' out':=by
 have hg:=Cq hx (x:=(w,p,a,b,at_,env,d,dd,key)) he hv
 have g1:w=1∨w=2∨w=3:=hg.way
 have g2:p=0∨p=1:=hg.side
 have g3:eE xs env=true:=hg.env
 have g4:env.length=26:=hg.len
 have g5:0≤at_∧at_≤5:=hg.at0
 have g6:d=(at_==5):=hg.done
 have hp:=hg.pool
 obtain⟨r1,r2,r3⟩:=pO g1 g2
 have cl:=Fq (w:=w) (p:=p) (a:=a) (b:=b) (at_:=at_) (d:=d) (dd:=dd) (key:=key) he
 have hsz:=cd hp
 have ends:Pe xs at_ key [] (ar N0 N0 (nx,xs,w,p,a,b,at_,env,d,dd,key,[],(0:Int),(0:Int),(0:Int),(0:Int),(0:Int),[],false,false,(0:Int),[],qF w p)) w p a b:=by
  cases dd with
  |true =>
   have hd:d=false:=by
    cases d with
    |false=>rfl
    |true=>exact absurd (show true=false from hg.live rfl) (by decide)
   subst hd
   obtain⟨m,hm⟩:=n0s
   refine⟨.inr (nx,xs,w,p,a,b,at_,env,false,true,key,[],(0:Int),(0:Int),(0:Int),(0:Int),(0:Int),[],false,false,(0:Int),[]),xs,at_,env,false,true,key,[],nx,?_,rfl,sf.stay (by have:at_≠5:=fun q=>(by rw[q]at g6;cases g6);omega) hp g4 g3 (by simp)⟩
   rw[show ar N0 N0=ar N0 (m+1)from congrArg _ hm,ar];rfl
  |false =>
   have h:=u9 (a:=a) (b:=b) g1 g2 (5-at_).toNat at_ env key nx xs [] N0 (by omega) g5.1 hp g4 g3 (fun q=>hg.key (by show d=true;rw[g6,q];rfl)) (by simp;omega) (by have:=n0;omega)
   rw[←g6]at h
   exact h
 obtain⟨es,ys,at',env',d',dd',key',out',nx',q2,q4,st⟩:=ends
 have go2:lx N0 (xs,w,p,a,b,at_,env,d,dd,key,nx)=some (ys,w,p,a,b,at',env',d',dd',key',out',nx'):=by
  unfold lx kA
  simp only[cl,r2,Option.bind_some,q2]
  cases es with
  |inl x =>
   simp only[Y6]at q4
   subst q4;rfl
  |inr x =>
   simp only[Y6,Prod.mk.injEq]at q4
   obtain⟨z1,z2,z3,z4,z5,z6,z7,z8,z9,z10,z11,z12⟩:=q4
   simp only[z1,z2,z3,z4,z5,z6,z7,z8,z9,z10,z11,z12,Option.bind_some]
 have hno:d=false→key=-1:=fun q=>hg.no q
 exact⟨ys,at',env',d',dd',key',out',nx',go2,qj g1 g2 hg.me hg.peer hg.ne st.pool st.len st.env ⟨by have:=st.on;omega,st.most⟩ st.done st.key1 (fun q=>(st.key0 q).trans (hno (by
   rw[g6,beq_eq_false_iff_ne]
   have:=st.done
   rw[q,eq_comm,beq_eq_false_iff_ne]at this
   have:=st.on
   have:=st.most
   omega))),st⟩
end AM
end Go.Proofs.YtpgigedclifoeaaGreatDoor
namespace Go.Proofs.YtpgigedclifoeaaGreatDoor
namespace AM
open Go
set_option linter.unusedSimpArgs false
set_option linter.unusedVariables false
def body (k a b c d:Int) (t:ByteArray):List UInt8 :=
 if k=1 then [115,116,97,114,116]++[32]++Lib.itoa a++[32]++Lib.itoa b++[32]++Lib.itoa c++[32]++Lib.itoa d
 else if k=2 then [116,97,107,101]++[32]++Lib.itoa a++[32]++t.data.toList
 else if k=3 then [103,105,118,101]++[32]++Lib.itoa a
 else [115,104,111,119]++[32]++Lib.itoa a
def Y5 (x:Int):Bool:=decide (0≤x∧x≤999)
end AM
end Go.Proofs.YtpgigedclifoeaaGreatDoor
namespace Go.Proofs.YtpgigedclifoeaaGreatDoor
namespace AM
open Go
set_option linter.unusedVariables false
set_option linter.unusedSimpArgs false
theorem Tk{i n:Nat}(h:i<n):aY (i:Int) n=true:=decide_eq_true (by omega)
theorem Am{x:Int}(h1:-9223372036854775808≤x) (h2:x≤9223372036854775807):IntKind.i64.wrap x=x:=Mo h1 h2
theorem Pp:∀d:Fin 6,(10:Int) ^ d.val≤100000:=by decide
theorem DZ (n:Nat){T:ByteArray}(hT:T.size≤1048576){p:Nat}:∀(m i:Nat) (acc:Int),p≤i→i≤p+5→p+5<m+i→0≤acc→acc<10 ^ (i-p)→∃(i':Nat) (acc':Int),dc n m (T,(i:Int),(p:Int),acc)=some (T,(i':Int),(p:Int),acc')∧i≤i'∧(i<i'→i<T.size∧i'≤T.size)∧0≤acc'
 |0,i,acc,h1,h2,hm,_,_=>by omega
 |m+1,i,acc,h1,h2,hm,h0,hb=>by
  have no:∃(i':Nat) (acc':Int),some (T,(i:Int),(p:Int),acc)=some (T,(i':Int),(p:Int),acc')∧i≤i'∧(i<i'→i<T.size∧i'≤T.size)∧0≤acc':=⟨i,acc,rfl,Nat.le_refl _,fun q=>by omega,h0⟩
  rw[dc]
  dsimp only
  by_cases hq:i<T.size
  ·rw[decide_eq_true (show(i:Int)<(T.size:Int)by omega),cond_true,Tk hq,cond_true]
   cases h8:decide (bt T (i:Int)≥48)with
   |false=>exact no
   |true =>
    rw[cond_true,cond_true]
    cases h9:decide (bt T (i:Int)≤57)with
    |false=>exact no
    |true =>
     rw[cond_true,Am (x:=(i:Int)-(p:Int)) (by omega) (by omega)]
     by_cases h5:(i:Int)-(p:Int)<5
     ·rw[decide_eq_true_iff]at h8 h9
      have h10:(10:Int) ^ (i-p)≤100000:=Pp ⟨i-p,by omega⟩
      have hs:(10:Int) ^ (i+1-p)=10 ^ (i-p)*10:=by rw[show i+1-p=i-p+1 by omega,Int.pow_succ]
      rw[decide_eq_true h5,cond_true,cond_true,Am (x:=(i:Int)+1) (by omega) (by omega),show(i:Int)+1=((i+1:Nat):Int)by omega,Am (x:=10*acc) (by omega) (by omega),Am (x:=bt T (i:Int)) (by omega) (by omega),Am (x:=10*acc+bt T (i:Int)) (by omega) (by omega),Am (x:=10*acc+bt T (i:Int)-48) (by omega) (by omega)]
      obtain⟨i',a',e1,e2,e3,e4⟩:=DZ n hT m (i+1) (10*acc+bt T (i:Int)-48) (by omega) (by omega) (by omega) (by omega) (by omega) (p:=p)
      exact⟨i',a',e1,by omega,fun _=>by omega,e4⟩
     ·rw[decide_eq_false h5,cond_false]
      exact no
  ·rw[decide_eq_false (show ¬(i:Int)<(T.size:Int)by omega),cond_false]
   exact no
theorem Fi (n:Nat) (hn:100≤n){T:ByteArray}(hT:T.size≤1048576) (p:Nat):∃(x:Int) (nx:Nat) (b:Bool),j6 n (T,(p:Int))=some (x,(nx:Int),b)∧(b=true→0≤x∧p<nx∧nx≤T.size):=by
 obtain⟨i',a',e1,e2,e3,e4⟩:=DZ n hT (p:=p) n p 0 (Nat.le_refl _) (by omega) (by omega) (Int.le_refl _) (by rw[Nat.sub_self];decide)
 have no:∃(x:Int) (nx:Nat) (b:Bool),some ((0:Int),(0:Int),false)=some (x,(nx:Int),b)∧(b=true→0≤x∧p<nx∧nx≤T.size):=⟨0,0,false,rfl,fun q=>by cases q⟩
 unfold j6
 dsimp only
 rw[e1,Option.bind_some]
 dsimp only
 cases hq:((i':Int)==(p:Int))with
 |true=>exact no
 |false =>
  have hlt:p<i':=by
   rw[beq_eq_false_iff_ne]at hq
   omega
  have yes:∃(x:Int) (nx:Nat) (b:Bool),some (a',(i':Int),true)=some (x,(nx:Int),b)∧(b=true→0≤x∧p<nx∧nx≤T.size):=⟨a',i',true,rfl,fun _=>⟨e4,hlt,(e3 hlt).2⟩⟩
  rw[cond_false,Tk (e3 hlt).1]
  cases decide (IntKind.i64.wrap ((i':Int)-(p:Int))>4)with
  |true=>exact no
  |false =>
   rw[cond_false,cond_true]
   cases(bt T (p:Int)==48)with
   |false=>exact yes
   |true =>
    rw[cond_true]
    cases decide (IntKind.i64.wrap ((i':Int)-(p:Int))>1)with
    |true=>exact no
    |false=>exact yes
end AM
end Go.Proofs.YtpgigedclifoeaaGreatDoor
