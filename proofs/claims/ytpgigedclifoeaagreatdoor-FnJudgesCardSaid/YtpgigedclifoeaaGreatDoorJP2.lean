/- Small laws on whole numbers that wrap, on strings as lists of bytes, and on answers that may be none. No condition. And what follows it: see the remarks. -/
import Derived.Test.YtpgigedclifoeaaGreatDoorJW4
import Derived.Lib.ItoaNum
import Derived.Lib.IndexMore
import Derived.Laws.BitsLemmas
import Derived.Test.YtpgigedclifoeaaGreatDoorJALd
import Derived.Test.YtpgigedclifoeaaGreatDoorJP1
import Derived.Lib.AtoiAllCases
namespace Go.Proofs.YtpgigedclifoeaaGreatDoor
namespace AM
open Go
set_option linter.unusedSimpArgs false
set_option linter.unusedVariables false
theorem Qh{n:Int}(h1:-9223372036854775808≤n) (h2:n≤9223372036854775807):IntKind.i64.wrap n=n:=by
 rw[IntKind.wrap_i64];omega
theorem m8{a b:ByteArray}(h:a.size+b.size≤4611686018427387904):aW a b=true:=decide_eq_true h
theorem su (a:ByteArray):jn a a=true:=decide_eq_true rfl
end AM
end Go.Proofs.YtpgigedclifoeaaGreatDoor
namespace Go.Proofs.YtpgigedclifoeaaGreatDoor
namespace AM
open Go
set_option linter.unusedVariables false
set_option linter.unusedSimpArgs false
abbrev N0:Nat:=1000000000000000000000000000000
theorem au{n:Int}(h1:-9223372036854775808≤n) (h2:n≤9223372036854775807):IntKind.i64.wrap n=n:=by
 rw[IntKind.wrap_i64];omega
theorem kw {α:Type}{l:List α}{i:Nat}(h:i<l.length) (d:α):l.getD i d=l[i]:=by
 rw[List.getD_eq_getElem?_getD,List.getElem?_eq_getElem h];rfl
theorem ar{i n:Nat}(h:i<n):aI (i:Int) n=true:=by
 unfold aI
 exact decide_eq_true ⟨Int.natCast_nonneg _,by omega⟩
theorem aw{i n:Nat}(hi:i<n) (hn:n≤4294967296):IntKind.i64.wrap ((i:Int)+(1:Int))=((i+1:Nat):Int):=by
 rw[au (by omega) (by omega)];omega
theorem rQ:∀(t:Ty),t.hasSl=false→∀x:t.den,t.eqv x x=true
 | .int _,_,x=>by simp[Ty.eqv]
 | .bool,_,x=>by simp[Ty.eqv]
 | .str,_,x=>decide_eq_true rfl
 | .sl _,h,_=>by cases h
 | .pr a b,h,x=>by
  have h:(a.hasSl || b.hasSl)=false:=h
  rw[Bool.or_eq_false_iff]at h
  show(a.eqv x.1 x.1&&b.eqv x.2 x.2)=true
  rw[rQ a h.1,rQ b h.2];rfl
theorem DR{kt:Ty}{k:kt.den}{m:List (kt.den×Int)}{j:Nat}{v:Int}(h:cN kt k m 0=some (j,v)):j<m.length:=by
 obtain⟨_,h2⟩:=qd h
 exact(List.getElem?_eq_some_iff.1 h2).1
theorem G5 {α:Type}{y:Int}{k:α}{c:Int}:∀{m:List (α×Int)}{j:Nat},j<m.length→Ax y (m.set j (k,c)) j=m.set j (k,y)
 |[],_,h=>by simp at h
 |p::r,0,_=>rfl
 |p::r,j+1,h=>by
  show p::Ax y (r.set j (k,c)) j=p::r.set j (k,y)
  rw[G5 (by simpa using h)]
theorem DN {α:Type}{y:Int}{k:α}{c:Int}:∀{m:List (α×Int)},Ax y (m++[(k,c)]) m.length=m++[(k,y)]
 |[]=>rfl
 |p::r=>by
  show p::Ax y (r++[(k,c)]) r.length=p::(r++[(k,y)])
  rw[DN]
theorem ME{kt:Ty}{k:kt.den}{c y:Int}{m:List (kt.den×Int)}:MF (wD kt k m) y (mU kt k c m)=mU kt k y m:=by
 unfold MF wD mU
 cases h:cN kt k m 0 with
 |some p =>
  obtain⟨j,v⟩:=p
  dsimp only
  rw[Int.toNat_natCast]
  exact G5 (DR h)
 |none =>
  dsimp only
  rw[Int.toNat_natCast]
  exact DN
theorem QX{kt:Ty}{k:kt.den}{c:Int}{m:List (kt.den×Int)}:aI (wD kt k m) (mU kt k c m).length=true:=by
 unfold wD mU
 cases h:cN kt k m 0 with
 |some p =>
  obtain⟨j,v⟩:=p
  dsimp only
  rw[List.length_set]
  exact ar (DR h)
 |none =>
  dsimp only
  rw[List.length_append]
  exact ar (by simp)
theorem xI{kt:Ty}{k k':kt.den}{x:Int}(hne:kt.eqv k' k=false):∀{m:List (kt.den×Int)}{i j:Nat}{v:Int},cN kt k m i=some (j,v)→cN kt k' (m.set (j-i) (k,x)) i=cN kt k' m i
 |[],_,_,_,h=>by cases h
 |p::r,i,j,v,h=>by
  unfold cN at h
  cases q:kt.eqv k p.1 with
  |true =>
   rw[q]at h
   obtain⟨rfl,rfl⟩:=Prod.mk.inj (Option.some.inj h)
   rw[Nat.sub_self,List.set_cons_zero]
   have:=zE kt q
   unfold cN
   rw[hne, ←this,hne]
   rfl
  |false =>
   rw[q]at h
   have h:cN kt k r (i+1)=some (j,v):=h
   obtain⟨h1,_⟩:=qd h
   rw[show j-i=(j-(i+1))+1 by omega,List.set_cons_succ]
   unfold cN
   rw[xI hne h]
theorem v9{kt:Ty}{k k':kt.den}{x:Int}(hne:kt.eqv k' k=false):∀{m:List (kt.den×Int)}{i:Nat},cN kt k' (m++[(k,x)]) i=cN kt k' m i
 |[],i=>by
  show cN kt k' [(k,x)] i=_
  unfold cN
  rw[hne];rfl
 |p::r,i=>by
  show cN kt k' (p::(r++[(k,x)])) i=_
  unfold cN
  rw[v9 hne]
theorem xH{kt:Ty}{k k':kt.den}{x:Int}{m:List (kt.den×Int)}(hne:kt.eqv k' k=false):fZ kt k' (mU kt k x m)=fZ kt k' m:=by
 unfold fZ mU
 cases h:cN kt k m 0 with
 |some p =>
  obtain⟨j,v⟩:=p
  have:=xI (x:=x) hne h
  rw[Nat.sub_zero]at this
  simp only[this]
 |none=>simp only[v9 hne]
abbrev ab:=Int×(Int×Int)
abbrev kN:Ty := .pr (.int .i64) (.pr (.int .i64) (.int .i64))
theorem eK (n:Nat) (a b c:Int):aD n (a,b,c)=some (decide (a≥b)&&decide (a≤c)):=by
 unfold aD
 cases decide (a≥b)<;>rfl
theorem rK (n:Nat) (a b c:Int):bO n (a,b,c)=some (decide (a≥b)&&decide (a≤c)):=eK n a b c
theorem Cx (n:Nat) (x:Int):∃v,bh n x=some v:=by
 unfold bh
 simp only[cond_eq_ite]
 repeat' split
 all_goals exact⟨_,rfl⟩
theorem GX (n:Nat) (x:Int×Int×Int×Int):∃v,bH n x=some v:=by
 unfold bH
 obtain⟨v,hv⟩:=Cx n x.1
 rw[hv]
 simp only[Option.bind_some,eK,cond_eq_ite]
 repeat' split
 all_goals exact⟨_,rfl⟩
def gP (n:Nat) (x:Int×Int×Int×Int):Bool:=(bH n x).getD false
theorem yX (n:Nat) (x):bH n x=some (gP n x):=by
 obtain⟨v,hv⟩:=GX n x
 unfold gP
 rw[hv];rfl
theorem Gv (n:Nat) (x):dx n x=some (gP n x):=yX n x
def cG (n:Nat) (pre:List ab):List ab→Bool
 |[]=>true
 |k::r=>(!pre.contains k&&gP n (k.1,k.2.1,k.2.2,(pre.length:Int)))&&cG n (pre++[k]) r
theorem Ep (n:Nat){pre r:List ab}{k:ab}(hx:(pre++k::r).length≤4294967296):∀(m j:Nat),j≤pre.length→pre.length<m+j →
  ∃q:Nat,cn n m (pre++k::r,k.1,k.2.1,k.2.2,(j:Int))=some (Sum.inl (q:Int))∧q≤pre.length∧(q=pre.length↔k∉pre.drop j)
 |0,j,h1,h2=>by omega
 |m+1,j,h1,h2=>by
  have hlt:j<(pre++k::r).length:=by simp;omega
  have e0:cn n (m+1) (pre++k::r,k.1,k.2.1,k.2.2,(j:Int))=(cond (decide ((j:Int)<((pre++k::r).length:Int))) (cond (aI (j:Int) (pre++k::r).length) (cond (((pre++k::r).getD ((j:Int)).toNat ((0:Int),((0:Int),(0:Int)))).1==k.1&&(((pre++k::r).getD ((j:Int)).toNat ((0:Int),((0:Int),(0:Int)))).2.1==k.2.1&&(((pre++k::r).getD ((j:Int)).toNat ((0:Int),((0:Int),(0:Int)))).2.2==k.2.2&&true))) (some (Sum.inl (j:Int))) (cn n m (pre++k::r,k.1,k.2.1,k.2.2,IntKind.i64.wrap ((j:Int)+(1:Int))))) none) (some (Sum.inr ()))):=rfl
  rw[e0,decide_eq_true (by omega:(j:Int)<((pre++k::r).length:Int)),cond_true,ar hlt,cond_true,Int.toNat_natCast,kw hlt]
  have heq:∀p:ab,(p.1==k.1&&(p.2.1==k.2.1&&(p.2.2==k.2.2&&true)))=decide (p=k):=by
   intro p
   obtain⟨p1,p2,p3⟩:=p
   obtain⟨k1,k2,k3⟩:=k
   rw[Bool.eq_iff_iff]
   simp
  rw[heq]
  rcases Nat.lt_or_ge j pre.length with q|q
  ·have hg:(pre++k::r)[j]=pre[j]:=List.getElem_append_left q
   rw[hg]
   have hd:pre.drop j=pre[j]::pre.drop (j+1):=List.drop_eq_getElem_cons q
   by_cases hk:pre[j]=k
   ·rw[decide_eq_true hk,cond_true]
    exact⟨j,rfl,by omega,by rw[hd,hk];simp;omega⟩
   ·rw[decide_eq_false hk,cond_false,aw hlt hx]
    obtain⟨z,g1,g2,g3⟩:=Ep n hx m (j+1) q (by omega)
    refine⟨z,g1,g2,g3.trans ?_⟩
    rw[hd,List.mem_cons]
    constructor
    ·intro h h2
     rcases h2 with h2|h2
     ·exact hk h2.symm
     ·exact h h2
    ·exact fun h h2=>h (.inr h2)
  ·have hj:j=pre.length:=by omega
   subst hj
   rw[show(pre++k::r)[pre.length]=k by simp,decide_eq_true rfl,cond_true]
   exact⟨pre.length,rfl,Nat.le_refl _,by simp⟩
theorem Rd (n:Nat) (hn:4294967296<n){pre r:List ab}{k:ab}(hx:(pre++k::r).length≤4294967296):∃q:Int,cV n (pre++k::r,k.1,k.2.1,k.2.2)=some q∧(q != (pre.length:Int))=pre.contains k:=by
  have hlen : pre.length < n := by have : pre.length ≤ (pre ++ k :: r).length := by simp
                                   omega
  obtain⟨z,g1,g2,g3⟩:=Ep n hx n 0 (Nat.zero_le _) (by omega)
  refine⟨(z:Int),?_,?_⟩
  · show((cn n n (pre++k::r,k.1,k.2.1,k.2.2,((0:Nat):Int))).bind _)=_
    rw[g1];rfl
  · rw[List.drop_zero]at g3
    rw[Bool.eq_iff_iff]
    simp only[bne_iff_ne,ne_eq,List.contains_iff_mem]
    constructor
    · intro h
      exact Classical.byContradiction fun h2=>h (by rw[g3.2 h2])
    · intro h h2
      exact(g3.1 (by omega)) h
theorem vV (n:Nat) (hn:4294967296<n):∀(m:Nat) (pre r:List ab),(pre++r).length≤4294967296→r.length<m→dQ n m (pre++r,(pre.length:Int))=some (bif cG n pre r then Sum.inr ()else Sum.inl false)
 |0,pre,r,hx,hm=>by omega
 |m+1,pre,[],hx,hm=>by
  show(cond (decide ((pre.length:Int)<((pre++[]).length:Int))) _ _)=_
  rw[decide_eq_false (by simp),cond_false];rfl
 |m+1,pre,k::r,hx,hm=>by
  have hlt:pre.length<(pre++k::r).length:=by simp
  have e0:dQ n (m+1) (pre++k::r,(pre.length:Int))=(cond (decide ((pre.length:Int)<((pre++k::r).length:Int))) (cond (aI (pre.length:Int) (pre++k::r).length) ((dx n (((pre++k::r).getD ((pre.length:Int)).toNat ((0:Int),((0:Int),(0:Int)))).1,((pre++k::r).getD ((pre.length:Int)).toNat ((0:Int),((0:Int),(0:Int)))).2.1,((pre++k::r).getD ((pre.length:Int)).toNat ((0:Int),((0:Int),(0:Int)))).2.2,(pre.length:Int))).bind fun r1=>(cond (!r1) (some (Sum.inl false)) (cond (aI (pre.length:Int) (pre++k::r).length) ((cV n (pre++k::r,((pre++k::r).getD ((pre.length:Int)).toNat ((0:Int),((0:Int),(0:Int)))).1,((pre++k::r).getD ((pre.length:Int)).toNat ((0:Int),((0:Int),(0:Int)))).2.1,((pre++k::r).getD ((pre.length:Int)).toNat ((0:Int),((0:Int),(0:Int)))).2.2)).bind fun r2=>(cond (r2 != (pre.length:Int)) (some (Sum.inl false)) (dQ n m (pre++k::r,IntKind.i64.wrap ((pre.length:Int)+(1:Int)))))) none))) none) (some (Sum.inr ()))):=rfl
  obtain⟨q,g1,g2⟩:=Rd n hn (pre:=pre) (r:=r) (k:=k) hx
  rw[e0,decide_eq_true (by omega:(pre.length:Int)<((pre++k::r).length:Int)),cond_true,ar hlt,cond_true,Int.toNat_natCast,kw hlt,show(pre++k::r)[pre.length]=k by simp,Gv,g1]
  simp only[Option.bind_some,cond_true]
  rw[g2,aw hlt hx]
  have ih:=vV n hn m (pre++[k]) r (by simpa using hx) (by simp at hm;omega)
  rw[show pre++[k]++r=pre++k::r by simp,show(pre++[k]).length=pre.length+1 by simp]at ih
  rw[ih]
  rw[show cG n pre (k::r)=((!pre.contains k&&gP n (k.1,k.2.1,k.2.2,(pre.length:Int)))&&cG n (pre++[k]) r)from rfl]
  cases gP n (k.1,k.2.1,k.2.2,(pre.length:Int))<;>cases pre.contains k<;>cases cG n (pre++[k]) r<;>rfl
theorem ot (n:Nat) (hn:4294967296<n){xs:List ab}(hx:xs.length≤4294967296):gM n xs=some (decide (xs.length≤500)&&cG n [] xs):=by
 unfold gM
 by_cases q:xs.length≤500
 ·rw[decide_eq_false (by omega:¬(xs.length:Int)>(500:Int)),cond_false,decide_eq_true q,Bool.true_and]
  have:=vV n hn n [] xs (by simpa using hx) (by omega)
  rw[List.nil_append,show(([]:List ab).length:Int)=(0:Int)from rfl]at this
  rw[this]
  cases cG n [] xs<;>rfl
 ·rw[decide_eq_true (by omega:(xs.length:Int)>(500:Int)),cond_true,decide_eq_false q];rfl
def Cnt (kvs:List (ab×Int)) (pre:List ab):Prop:=∀k:ab,fZ kN k kvs=if k∈pre then 1 else 0
theorem XT{a b:ab}:kN.eqv a b=decide (a=b):=by
 rw[Bool.eq_iff_iff,decide_eq_true_iff]
 exact⟨zE kN,fun h=>h▸rQ kN rfl a⟩
theorem Mk (n:Nat) (kvs:List (ab×Int)) (i a b c:Int) (xs:List ab) (l j:Int):aP n (kvs,i,a,b,c,xs,l,j)=some (mU kN (a,b,c) (IntKind.i64.wrap (fZ kN (a,b,c) kvs+(1:Int))) kvs,i,a,b,c,xs,l,j):=by
 unfold aP
 dsimp only
 rw[QX,cond_true,ME]
theorem wc (n:Nat){xs:List ab}(hx:xs.length≤4294967296):∀(m:Nat) (pre r:List ab) (kvs:List (ab×Int)),xs=pre++r→Cnt kvs pre→r.length<m→dX n m (kvs,xs,(xs.length:Int),(pre.length:Int))=some (bif cG n pre r then Sum.inr ()else Sum.inl false)
 |0,pre,r,kvs,he,hc,hm=>by omega
 |m+1,pre,[],kvs,he,hc,hm=>by
  show(cond (decide ((pre.length:Int)<(xs.length:Int))) _ _)=_
  rw[decide_eq_false (by rw[he];simp),cond_false];rfl
 |m+1,pre,k::r,kvs,he,hc,hm=>by
  have hlt:pre.length<xs.length:=by rw[he];simp
  have hk:xs[pre.length]=k:=by simp[he]
  have e0:dX n (m+1) (kvs,xs,(xs.length:Int),(pre.length:Int))=(cond (decide ((pre.length:Int)<(xs.length:Int))) (cond (aI (pre.length:Int) xs.length) ((aP n (kvs,(pre.length:Int),(xs.getD ((pre.length:Int)).toNat ((0:Int),((0:Int),(0:Int)))).1,(xs.getD ((pre.length:Int)).toNat ((0:Int),((0:Int),(0:Int)))).2.1,(xs.getD ((pre.length:Int)).toNat ((0:Int),((0:Int),(0:Int)))).2.2,xs,(xs.length:Int),(pre.length:Int))).bind fun g1=>(cond (decide ((fZ kN (g1.2.2.1,(g1.2.2.2.1,g1.2.2.2.2.1)) g1.1)>(1:Int))) (some (Sum.inl false)) ((bH n (g1.2.2.1,g1.2.2.2.1,g1.2.2.2.2.1,g1.2.1)).bind fun r2=>(cond (!r2) (some (Sum.inl false)) (dX n m (g1.1,g1.2.2.2.2.2.1,g1.2.2.2.2.2.2.1,(IntKind.i64.wrap (g1.2.2.2.2.2.2.2+(1:Int))))))))) none) (some (Sum.inr ()))):=rfl
  rw[e0,decide_eq_true (by omega:(pre.length:Int)<(xs.length:Int)),cond_true,ar hlt,cond_true,Int.toNat_natCast,kw hlt,hk,Mk]
  simp only[Option.bind_some]
  have hself:kN.eqv (k.1,k.2.1,k.2.2) (k.1,k.2.1,k.2.2)=true:=rQ kN rfl _
  have hke:((k.1,k.2.1,k.2.2):ab)=k:=rfl
  rw[vn hself,yX,aw hlt hx]
  rw[show cG n pre (k::r)=((!pre.contains k&&gP n (k.1,k.2.1,k.2.2,(pre.length:Int)))&&cG n (pre++[k]) r)from rfl]
  have hck:=hc k
  by_cases hin:k∈pre
  ·rw[if_pos hin]at hck
   have:pre.contains k=true:=by simpa using hin
   rw[this,show fZ kN (k.1,k.2.1,k.2.2) kvs=1 from hck]
   rfl
  ·rw[if_neg hin]at hck
   have hcf:pre.contains k=false:=by simpa using hin
   rw[hcf,show fZ kN (k.1,k.2.1,k.2.2) kvs=0 from hck]
   rw[show decide (IntKind.i64.wrap ((0:Int)+(1:Int))>(1:Int))=false from rfl,cond_false]
   have ih:=wc n hx m (pre++[k]) r (mU kN k (IntKind.i64.wrap ((0:Int)+(1:Int))) kvs) (by simpa using he) (by
    intro k'
    by_cases q:k'=k
    ·subst q
     rw[vn (rQ kN rfl k')]
     simp;rfl
    ·rw[xH (by rw[XT];exact decide_eq_false q),hc k']
     simp[q]) (by simp at hm;omega)
   rw[show(pre++[k]).length=pre.length+1 by simp]at ih
   simp only[Option.bind_some]
   rw[show mU kN (k.1,k.2.1,k.2.2) (IntKind.i64.wrap ((0:Int)+(1:Int))) kvs=mU kN k (IntKind.i64.wrap ((0:Int)+(1:Int))) kvs from rfl,ih]
   cases gP n (k.1,k.2.1,k.2.2,(pre.length:Int))<;>cases cG n (pre++[k]) r<;>rfl
theorem uH (n:Nat) (hn:4294967296<n){xs:List ab}(hx:xs.length≤4294967296):fX n xs=some (decide (xs.length≤500)&&cG n [] xs):=by
 unfold fX
 by_cases q:xs.length≤500
 ·rw[decide_eq_false (by omega:¬(xs.length:Int)>(500:Int)),cond_false,decide_eq_true q,Bool.true_and]
  have:=wc n hx n [] xs [] rfl (fun k=>by simp[fZ,cN]) (by omega)
  rw[show(([]:List ab).length:Int)=(0:Int)from rfl]at this
  rw[this]
  cases cG n [] xs<;>rfl
 ·rw[decide_eq_true (by omega:(xs.length:Int)>(500:Int)),cond_true,decide_eq_false q];rfl
def ci (xs:List ab) (v:Int):Bool:=decide (v≥0)&&decide (v≤(xs.length:Int)-1)
theorem zn (n:Nat){xs:List ab}(hx:xs.length≤4294967296) (v:Int):ge n (xs,v)=some (ci xs v):=by
 show((bO n (v,(0:Int),IntKind.i64.wrap ((xs.length:Int)-(1:Int)))).bind fun r1=>some r1)=_
 rw[au (by omega) (by omega),rK];rfl
theorem nD (n:Nat){xs:List ab}(hx:xs.length≤4294967296) (v:Int):dp n (xs,v)=some (xs,ci xs v):=by
 show((aD n (v,(0:Int),IntKind.i64.wrap ((xs.length:Int)-(1:Int)))).bind fun r1=>some (xs,r1))=_
 rw[au (by omega) (by omega),eK];rfl
def fC (xs:List ab):List Int→Bool
 |[]=>true
 |v::r=>(v == -1 || ci xs v)&&fC xs r
theorem xW (n:Nat){xs:List ab}(hx:xs.length≤4294967296){env:List Int}(he:env.length≤4294967296):∀(m:Nat) (pre r:List Int),env=pre++r→r.length<m →
  dh n m (env,xs,env,(env.length:Int),(pre.length:Int))=some (bif fC xs r then Sum.inr (env,xs)else Sum.inl false)
 |0,pre,r,h,hm=>by omega
 |m+1,pre,[],h,hm=>by
  show(cond (decide ((pre.length:Int)<(env.length:Int))) _ _)=_
  rw[decide_eq_false (by rw[h];simp),cond_false];rfl
 |m+1,pre,v::r,h,hm=>by
  have hlt:pre.length<env.length:=by rw[h];simp
  have hk:env[pre.length]=v:=by simp[h]
  have e0:dh n (m+1) (env,xs,env,(env.length:Int),(pre.length:Int))=(cond (decide ((pre.length:Int)<(env.length:Int))) (cond (aI (pre.length:Int) env.length) (cond ((env.getD ((pre.length:Int)).toNat (0:Int)) != (-1:Int)) ((dp n (xs,(env.getD ((pre.length:Int)).toNat (0:Int)))).bind fun r1=>(cond (!r1.2) (some (Sum.inl false)) (dh n m (env,r1.1,env,(env.length:Int),(IntKind.i64.wrap ((pre.length:Int)+(1:Int))))))) (dh n m (env,xs,env,(env.length:Int),(IntKind.i64.wrap ((pre.length:Int)+(1:Int)))))) none) (some (Sum.inr (env,xs)))):=rfl
  rw[e0,decide_eq_true (by omega:(pre.length:Int)<(env.length:Int)),cond_true,ar hlt,cond_true,Int.toNat_natCast,kw hlt,hk,aw hlt he,nD n hx]
  have ih:=xW n hx he m (pre++[v]) r (by simpa using h) (by simp at hm;omega)
  rw[show(pre++[v]).length=pre.length+1 by simp]at ih
  simp only[Option.bind_some,ih]
  rw[show fC xs (v::r)=((v == -1 || ci xs v)&&fC xs r)from rfl,show(v != -1) = !(v == -1)from rfl]
  cases v == -1<;>cases ci xs v<;>cases fC xs r<;>rfl
theorem sY (n:Nat) (hn:4294967296<n){xs:List ab}(hx:xs.length≤4294967296){env:List Int}(he:env.length≤4294967296) :
  nG n (xs,env)=some (fC xs env&&(decide (env.length=26)&&(decide (xs.length≤500)&&cG n [] xs))):=by
 have:=xW n hx he n [] env rfl (by omega)
 rw[show(([]:List Int).length:Int)=(0:Int)from rfl]at this
 show((dh n n (env,xs,env,(env.length:Int),(0:Int))).bind _)=_
 rw[this]
 cases fC xs env with
 |false=>rfl
 |true =>
  show(cond ((env.length:Int)==(26:Int)) ((fX n xs).bind fun r5=>some r5) (some false))=_
  rw[uH n hn hx]
  by_cases q:env.length=26
  ·rw[show((env.length:Int)==(26:Int))=true by rw[q];rfl,decide_eq_true q];rfl
  ·rw[show((env.length:Int)==(26:Int))=false by simp;omega,decide_eq_false q];rfl
theorem xq (n:Nat){xs:List ab}(hx:xs.length≤4294967296){env:List Int}(he:env.length=26):∀(m:Nat) (pre r:List Int),env=pre++r→r.length<m →
  cE n m (env,xs,(pre.length:Int))=some (bif fC xs r then Sum.inr ()else Sum.inl false)
 |0,pre,r,h,hm=>by omega
 |m+1,pre,[],h,hm=>by
  show(cond (decide ((pre.length:Int)<(26:Int))) _ _)=_
  have:pre.length=26:=by rw[h]at he;simpa using he
  rw[decide_eq_false (by omega),cond_false];rfl
 |m+1,pre,v::r,h,hm=>by
  have hlt:pre.length<env.length:=by rw[h];simp
  have hk:env[pre.length]=v:=by simp[h]
  have e0:cE n (m+1) (env,xs,(pre.length:Int))=(cond (decide ((pre.length:Int)<(26:Int))) (cond (aI (pre.length:Int) env.length) (cond ((env.getD ((pre.length:Int)).toNat (0:Int)) != (-1:Int)) (cond (aI (pre.length:Int) env.length) ((ge n (xs,(env.getD ((pre.length:Int)).toNat (0:Int)))).bind fun r1=>(cond (!r1) (some (Sum.inl false)) (cE n m (env,xs,(IntKind.i64.wrap ((pre.length:Int)+(1:Int))))))) none) (cE n m (env,xs,(IntKind.i64.wrap ((pre.length:Int)+(1:Int)))))) none) (some (Sum.inr ()))):=rfl
  rw[e0,decide_eq_true (by omega:(pre.length:Int)<(26:Int)),cond_true,ar hlt,cond_true,cond_true,Int.toNat_natCast,kw hlt,hk,aw hlt (by omega),zn n hx]
  have ih:=xq n hx he m (pre++[v]) r (by simpa using h) (by simp at hm;omega)
  rw[show(pre++[v]).length=pre.length+1 by simp]at ih
  simp only[Option.bind_some,ih]
  rw[show fC xs (v::r)=((v == -1 || ci xs v)&&fC xs r)from rfl,show(v != -1) = !(v == -1)from rfl]
  cases v == -1<;>cases ci xs v<;>cases fC xs r<;>rfl
theorem Jd (n:Nat) (hn:4294967296<n){xs:List ab}(hx:xs.length≤4294967296){env:List Int}:qM n (xs,env)=some (decide (env.length=26)&&fC xs env):=by
 show(cond ((env.length:Int) != (26:Int)) (some false) ((cE n n (env,xs,(0:Int))).bind _))=_
 by_cases q:env.length=26
 ·have:=xq n hx q n [] env rfl (by omega)
  rw[show(([]:List Int).length:Int)=(0:Int)from rfl]at this
  rw[show((env.length:Int) != (26:Int))=false by rw[q];rfl,cond_false,this,decide_eq_true q]
  cases fC xs env<;>rfl
 ·rw[show((env.length:Int) != (26:Int))=true by simp;omega,decide_eq_false q];rfl
theorem Qy{w p:Int}{L:Nat}(h1:(fV N0 (w,p)).map (fun r=>(r.1.length,r.2))=some (L,true)) (h2:(di N0 (w,p)).map List.length=some L) (h3:dA N0 (w,p)=some true) (h4:L≤20) :
  ∃a b,fV N0 (w,p)=some (a,true)∧di N0 (w,p)=some b∧a.length=b.length∧a.length≤20∧dA N0 (w,p)=some true:=by
 cases e1:fV N0 (w,p)with
 |none=>rw[e1]at h1;cases h1
 |some r =>
  cases e2:di N0 (w,p)with
  |none=>rw[e2]at h2;cases h2
  |some b =>
   rw[e1]at h1
   rw[e2]at h2
   obtain⟨g1,g2⟩:=Prod.mk.inj (Option.some.inj h1)
   have g3:b.length=L:=Option.some.inj h2
   obtain⟨a,t⟩:=r
   have g2:t=true:=g2
   subst g2
   exact⟨a,b,rfl,rfl,by rw[g3];exact g1,by have:a.length=L:=g1;omega,h3⟩
theorem Qz (w p:Int) (hw:w=1∨w=2∨w=3) (hp:p=0∨p=1):∃a b,fV N0 (w,p)=some (a,true)∧di N0 (w,p)=some b∧a.length=b.length∧a.length≤20∧dA N0 (w,p)=some true:=by
 rcases hw with rfl|rfl|rfl<;>rcases hp with rfl|rfl
 all_goals exact Qy (L:=5) (by kernel_rfl) (by kernel_rfl) (by kernel_rfl) (by omega)
theorem Gt (w p:Int) (h:¬((w=1∨w=2∨w=3)∧(p=0∨p=1))):fV N0 (w,p)=some ([],false)∧dA N0 (w,p)=some false:=by
 constructor
 ·have e1:jb N0 (w,p)=some (⟨#[]⟩:ByteArray):=by
   unfold jb
   simp only[eK,Option.bind_some]
   by_cases h1:decide (w≥1)&&decide (w≤3)
   ·rw[h1]
    have h2:(decide (p≥0)&&decide (p≤1))=false:=by
     rw[Bool.eq_false_iff]
     intro h2
     simp at h1 h2
     omega
    rw[h2];rfl
   ·rw[Bool.not_eq_true]at h1
    rw[h1];rfl
  show((jb N0 (w,p)).bind _)=_
  rw[e1]
  show((jY N0 (⟨#[]⟩:ByteArray)).bind fun r2=>some (r2.1,r2.2))=_
  rw[show jY N0 (⟨#[]⟩:ByteArray)=some ([],false)by kernel_rfl];rfl
 ·have e1:fS N0 (w,p)=some (⟨#[]⟩:ByteArray):=by
   unfold fS
   have q:∀a b:Int,(w==a)=decide (w=a):=fun a b=>rfl
   by_cases w1:w=1
   ·subst w1
    have p0:(p==0)=false:=by simp;omega
    have p1:(p==1)=false:=by simp;omega
    simp only[p0,p1];rfl
   ·by_cases w2:w=2
    ·subst w2
     have p0:(p==0)=false:=by simp;omega
     have p1:(p==1)=false:=by simp;omega
     simp only[p0,p1];rfl
    ·by_cases w3:w=3
     ·subst w3
      have p0:(p==0)=false:=by simp;omega
      have p1:(p==1)=false:=by simp;omega
      simp only[p0,p1];rfl
     ·have e1:(w==1)=false:=by simpa using w1
      have e2:(w==2)=false:=by simpa using w2
      have e3:(w==3)=false:=by simpa using w3
      simp only[e1,e2,e3];rfl
  show((fS N0 (w,p)).bind fun r1=>some (!jn r1 (⟨#[]⟩:ByteArray)))=_
  rw[e1]
  show some (!jn (⟨#[]⟩:ByteArray) (⟨#[]⟩:ByteArray))=_
  rw[show jn (⟨#[]⟩:ByteArray) (⟨#[]⟩:ByteArray)=true from decide_eq_true rfl];rfl
theorem uX (n:Nat) (x:Int):kq n x=some (decide (x≥0)&&decide (x≤4)):=by
 show((aD n (x,(0:Int),(4:Int))).bind fun r=>some r)=_
 rw[eK];rfl
theorem Ns (n:Nat) (x:Int):bG n x=some (decide (x≥0)&&decide (x≤4)):=uX n x
theorem n0:4294967296<N0:=by decide
def Lf (n:Nat) (x:List ab×Int×Int×Int×Int×Int×List Int×Bool×Bool×Int):Option Bool:=(gM n x.1).bind fun r1=>(cond r1 ((iG n (x.1,x.2.1,x.2.2.1,x.2.2.2.1,x.2.2.2.2.1,x.2.2.2.2.2.1,x.2.2.2.2.2.2.1,x.2.2.2.2.2.2.2.1,x.2.2.2.2.2.2.2.2.1,x.2.2.2.2.2.2.2.2.2)).bind fun r2=>(some r2)) (some false))
theorem J1{xs:List ab}(hx:xs.length≤4294967296){w p a b at_:Int}{env:List Int}(he:env.length≤4294967296){dn dd:Bool}{key:Int} :
  ∃v,gU N0 (xs,w,p,a,b,at_,env,dn,dd,key)=some v∧Lf N0 (xs,w,p,a,b,at_,env,dn,dd,key)=some v:=by
 unfold gU Lf iG
 simp only[ot N0 n0 hx,sY N0 n0 hx he,Jd N0 n0 hx,uX,Ns,Option.bind_some]
 by_cases hr:(w=1∨w=2∨w=3)∧(p=0∨p=1)
 ·obtain⟨ra,rb,r1,r2,r3,r4,r5⟩:=Qz w p hr.1 hr.2
  rw[r1,r2,r5]
  simp only[Option.bind_some,eK,rK,nD N0 hx,zn N0 hx, ←r3,au (show -9223372036854775808≤(ra.length:Int)-1 by omega) (show(ra.length:Int)-1≤9223372036854775807 by omega)]
  generalize (decide (a≥0)&&decide (a≤4))=A
  generalize (decide (b≥0)&&decide (b≤4))=B
  generalize (a==b)=C
  generalize fC xs env=D
  generalize decide (env.length=26)=F
  generalize (decide (xs.length≤500)&&cG N0 [] xs)=G
  generalize ci xs key=H
  generalize (key == -1)=K
  have hq:(at_==(ra.length:Int))=true→(decide (at_≥0)&&decide (at_≤(ra.length:Int)))=true:=by
   intro h
   have:at_=(ra.length:Int):=by simpa using h
   simp;omega
  have hq2:(at_==(ra.length:Int))=false→(decide (at_≥0)&&decide (at_≤(ra.length:Int)-1))=(decide (at_≥0)&&decide (at_≤(ra.length:Int))):=by
   intro h
   have:at_≠(ra.length:Int):=by simpa using h
   congr 1
   rw[Bool.eq_iff_iff];simp;omega
  have hq3:(at_==(ra.length:Int))=true→(decide (at_≥0)&&decide (at_≤(ra.length:Int)-1))=false:=by
   intro h
   have:at_=(ra.length:Int):=by simpa using h
   rw[Bool.and_eq_false_iff];right;simp;omega
  revert hq hq2 hq3
  generalize (at_==(ra.length:Int))=M
  generalize (decide (at_≥0)&&decide (at_≤(ra.length:Int)))=R
  generalize (decide (at_≥0)&&decide (at_≤(ra.length:Int)-1))=R2
  intro hq hq2 hq3
  cases M
  ·have:=hq2 rfl
   subst this
   refine⟨A&&(B&&(!C&&(D&&(F&&(G&&(R2&&(!dn&&K))))))),?_,?_⟩<;>clear hq hq2 hq3<;>revert A B C D F G H K R2 dn dd<;>decide
  ·have h1:=hq rfl
   have h2:=hq3 rfl
   subst h1;subst h2
   refine⟨A&&(B&&(!C&&(D&&(F&&(G&&(dn&&(!dd&&H))))))),?_,?_⟩<;>clear hq hq2 hq3<;>revert A B C D F G H K dn dd<;>decide
 ·obtain⟨r1,r2⟩:=Gt w p hr
  rw[r1,r2]
  refine⟨false,rfl,?_⟩
  cases(decide (xs.length≤500)&&cG N0 [] xs)<;>rfl
def bI (g:Nat→Bool):Nat→Nat→Bool
 |_,0=>true
 |i,k+1=>g i&&bI g (i+1) k
theorem dc{g:Nat→Bool}:∀{k i:Nat},bI g i k=true↔∀j,i≤j→j<i+k→g j=true
 |0,i=>⟨fun _ j h1 h2=>by omega,fun _=>rfl⟩
 |k+1,i=>by
  show(g i&&bI g (i+1) k)=true↔_
  rw[Bool.and_eq_true,dc]
  constructor
  ·rintro ⟨h1,h2⟩ j g1 g2
   rcases Nat.eq_or_lt_of_le g1 with q|q
   ·subst q;exact h1
   ·exact h2 j q (by omega)
  ·exact fun h=>⟨h i (Nat.le_refl _) (by omega),fun j g1 g2=>h j (by omega) (by omega)⟩
theorem vj {α:Type} [DecidableEq α]:∀{l m:List α},l.Nodup→(∀x∈l,x∈m)→l.length≤m.length
 |[],m,_,_=>Nat.zero_le _
 |a::l,m,hn,hs=>by
  have ha:=hs a (List.mem_cons_self ..)
  have hn':=List.nodup_cons.1 hn
  have:=vj (l:=l) (m:=m.erase a) hn'.2 (fun x hx=>(List.mem_erase_of_ne (fun(e:x=a)=>hn'.1 (e▸hx))).2 (hs x (List.mem_cons_of_mem _ hx)))
  rw[List.length_erase_of_mem ha]at this
  have:0<m.length:=List.length_pos_of_mem ha
  simp;omega
theorem JR {α:Type} [DecidableEq α]{l m:List α}(hl:l.Nodup) (hm:m.Nodup) (hs:∀x∈l,x∈m):(∀x∈m,x∈l)↔l.length=m.length:=by
 constructor
 ·exact fun h=>Nat.le_antisymm (vj hl hs) (vj hm h)
 ·intro h x hx
  exact Classical.byContradiction fun hn=>by
   have:=vj (l:=x::l) (m:=m) (List.nodup_cons.2 ⟨hn,hl⟩) (fun y hy=>by
    rcases List.mem_cons.1 hy with q|q
    ·exact q▸hx
    ·exact hs y q)
   simp at this;omega
def places (d:Nat→Bool) (n:Nat):List Nat:=(List.range n).filter d
theorem Fd (d:Nat→Bool) (n:Nat):(places d n).Nodup:=List.nodup_range.filter _
theorem wE{d:Nat→Bool}{n i:Nat}:i∈places d n↔i<n∧d i=true:=by
 unfold places
 rw[List.mem_filter,List.mem_range]
theorem GE (d:Nat→Bool) (n:Nat):(places d (n+1)).length=(places d n).length+(bif d n then 1 else 0):=by
 unfold places
 rw[List.range_succ,List.filter_append,List.length_append]
 cases h:d n<;>simp[h]
theorem O6 (done:Nat→Bool) (n:Nat) (L:List Int) (hnd:L.Nodup) (hin:∀k∈L, ∃i:Nat,k=(i:Int)∧i<n∧done i=true):(∀i:Nat,i<n→done i=true→(i:Int)∈L)↔L.length=(places done n).length:=by
 have hm:((places done n).map Int.ofNat).Nodup:=List.pairwise_map.2 ((Fd done n).imp fun hne e=>hne (Int.ofNat.inj e))
 have:=JR hnd hm (fun k hk=>by
  obtain⟨i,rfl,h1,h2⟩:=hin k hk
  exact List.mem_map.2 ⟨i,wE.2 ⟨h1,h2⟩,rfl⟩)
 rw[List.length_map]at this
 rw[←this]
 constructor
 ·intro h x hx
  obtain⟨i,hi,rfl⟩:=List.mem_map.1 hx
  have:=wE.1 hi
  exact h i this.1 this.2
 ·intro h i h1 h2
  exact h _ (List.mem_map.2 ⟨i,wE.2 ⟨h1,h2⟩,rfl⟩)
theorem JQ{L:List Int}:L.Nodup↔∀i,i<L.length→∀j,j<i→L.getD j 0≠L.getD i 0:=by
 rw[List.Nodup,List.pairwise_iff_getElem]
 constructor
 ·intro h i hi j hj
  rw[kw hi,kw (by omega)]
  exact h j i (by omega) hi hj
 ·intro h i j hi hj hij
  have:=h j hj i hij
  rw[kw hi,kw hj]at this
  exact this
abbrev aV:=Int×(Int×(Int×(Int×(Int×((List Int)×(Bool×(Bool×Int)))))))
abbrev aM:=Int×(Bool×Bool)
abbrev zI:aV:=((0:Int),((0:Int),((0:Int),((0:Int),((0:Int),([],(false,(false,(0:Int)))))))))
abbrev zC:aM:=((0:Int),(false,false))
theorem cm{X A B:Type}(L:Nat→X→Option (A⊕B)) (st:Nat→X) (g:Nat→Bool) (bad:A) (fin:B) (len:Nat)
  (step:∀m i,i<len→L (m+1) (st i)=bif g i then L m (st (i+1))else some (.inl bad)) (stop:∀m,L (m+1) (st len)=some (.inr fin)) :
  ∀m i,i≤len→len<m+i→L m (st i)=some (bif bI g i (len-i)then .inr fin else .inl bad)
 |0,i,h1,h2=>by omega
 |m+1,i,h1,h2=>by
  rcases Nat.eq_or_lt_of_le h1 with q|q
  ·subst q
   rw[stop,Nat.sub_self];rfl
  ·rw[step m i q,show len-i=(len-(i+1))+1 by omega]
   show(bif g i then _ else _)=some (bif g i&&bI g (i+1) (len-(i+1))then _ else _)
   cases g i with
   |false=>rfl
   |true=>exact cm L st g bad fin len step stop m (i+1) q (by omega)
theorem u9{i:Nat}(h:0<i) (hi:i≤4294967296):IntKind.i64.wrap ((i:Int)-(1:Int))=((i-1:Nat):Int):=by
 rw[au (by omega) (by omega)];omega
theorem O2 (i n:Nat):decide ((i:Int)<(n:Int))=decide (i<n):=by
 rw[Bool.eq_iff_iff];simp
theorem jt{i n:Nat}(h:i<n):decide ((i:Int)<(n:Int))=true:=decide_eq_true (by omega)
theorem lT (n:Nat):decide ((n:Int)<(n:Int))=false:=decide_eq_false (by omega)
def ft (l:List Int) (j:Nat):Bool:=decide (j=0) || decide (l.getD (j-1) 0<l.getD j 0)
def iK (xs:List ab) (k:List Int) (j:Nat):Bool:=ci xs (k.getD j 0)&&ft k j
theorem Ph{i:Nat}(h:0<i):decide ((i:Int)>(0:Int))=true:=decide_eq_true (by omega)
theorem D0 (a b:Int):decide (a≤b) = !decide (b<a):=by
 rw[Bool.eq_iff_iff];simp
theorem Ei (a b:Int):decide (a≥b) = !decide (a<b):=by
 rw[Bool.eq_iff_iff];simp
theorem C9{xs:List ab}(hx:xs.length≤4294967296){k:List Int}(hk:k.length≤4294967296) (m i:Nat) (hi:i<k.length) :
  bW N0 (m+1) (k,xs,k,(k.length:Int),(i:Int))=bif iK xs k i then bW N0 m (k,xs,k,(k.length:Int),((i+1:Nat):Int))else some (.inl false):=by
 rw[bW]
 dsimp only
 rw[jt hi,cond_true,ar hi,cond_true,nD N0 hx]
 simp only[Option.bind_some,Int.toNat_natCast,aw hi hk]
 unfold iK ft
 cases ci xs (k.getD i 0)with
 |false=>rfl
 |true =>
  rcases Nat.eq_zero_or_pos i with q|q
  ·subst q;rfl
  ·rw[Ph q,cond_true,u9 q (by omega),ar (by omega),cond_true,Int.toNat_natCast,D0,decide_eq_false (by omega:¬i=0)]
   cases decide (k.getD (i-1) 0<k.getD i 0)<;>rfl
theorem Iq{xs:List ab}(hx:xs.length≤4294967296){k:List Int}(hk:k.length≤4294967296) :
  qT N0 (xs,k)=some (bI (iK xs k) 0 k.length&&(decide (k.length≤200)&&(decide (xs.length≤500)&&cG N0 [] xs))):=by
 have:=cm (bW N0) (fun i=>(k,xs,k,(k.length:Int),(i:Int))) (iK xs k) false (k,xs) k.length (C9 hx hk) (fun m=>by
  rw[bW];dsimp only;rw[lT];rfl) N0 0 (Nat.zero_le _) (by have:=n0;omega)
 rw[Nat.sub_zero]at this
 show((bW N0 N0 (k,xs,k,(k.length:Int),(0:Int))).bind _)=_
 rw[show bW N0 N0 (k,xs,k,(k.length:Int),(0:Int))=_ from this]
 cases bI (iK xs k) 0 k.length with
 |false=>rfl
 |true =>
  show(cond (decide ((k.length:Int)≤(200:Int))) ((fX N0 xs).bind fun r5=>some r5) (some false))=_
  rw[uH N0 n0 hx]
  by_cases q:k.length≤200
  ·rw[decide_eq_true (by omega:(k.length:Int)≤(200:Int)),decide_eq_true q];rfl
  ·rw[decide_eq_false (by omega:¬(k.length:Int)≤(200:Int)),decide_eq_false q];rfl
theorem CU{xs:List ab}(hx:xs.length≤4294967296){k:List Int}(hk:k.length≤4294967296) (m i:Nat) (hi:i<k.length) :
  bU N0 (m+1) (k,xs,(i:Int))=bif iK xs k i then bU N0 m (k,xs,((i+1:Nat):Int))else some (.inl false):=by
 rw[bU]
 dsimp only
 rw[jt hi,cond_true,ar hi,cond_true,zn N0 hx]
 simp only[Option.bind_some,Int.toNat_natCast,aw hi hk]
 unfold iK ft
 cases ci xs (k.getD i 0)with
 |false=>rfl
 |true =>
  rcases Nat.eq_zero_or_pos i with q|q
  ·subst q;rfl
  ·rw[Ph q,cond_true,u9 q (by omega),ar (by omega),cond_true,Int.toNat_natCast,Ei,decide_eq_false (by omega:¬i=0)]
   cases decide (k.getD (i-1) 0<k.getD i 0)<;>rfl
theorem Ap{xs:List ab}(hx:xs.length≤4294967296){k:List Int}(hk:k.length≤4294967296) :
  lJ N0 (xs,k)=some (bI (iK xs k) 0 k.length&&(decide (k.length≤200)&&(decide (xs.length≤500)&&cG N0 [] xs))):=by
 have:=cm (bU N0) (fun i=>(k,xs,(i:Int))) (iK xs k) false () k.length (CU hx hk) (fun m=>by
  rw[bU];dsimp only;rw[lT];rfl) N0 0 (Nat.zero_le _) (by have:=n0;omega)
 rw[Nat.sub_zero]at this
 have e:oh N0 (xs,k)=some (decide (k.length≤200)&&bI (iK xs k) 0 k.length):=by
  show(cond (decide ((k.length:Int)>(200:Int))) (some false) ((bU N0 N0 (k,xs,(0:Int))).bind _))=_
  rw[show bU N0 N0 (k,xs,(0:Int))=_ from this]
  by_cases q:k.length≤200
  ·rw[decide_eq_false (by omega:¬(k.length:Int)>(200:Int)),decide_eq_true q]
   cases bI (iK xs k) 0 k.length<;>rfl
  ·rw[decide_eq_true (by omega:(k.length:Int)>(200:Int)),decide_eq_false q];rfl
 show((gM N0 xs).bind fun r1=>(cond r1 ((oh N0 (xs,k)).bind fun r2=>(some r2)) (some false)))=_
 rw[ot N0 n0 hx,e]
 generalize (decide (xs.length≤500)&&cG N0 [] xs)=P
 generalize bI (iK xs k) 0 k.length=Q
 generalize decide (k.length≤200)=R
 cases P<;>cases Q<;>cases R<;>rfl
theorem PA{k:List Int}(hk:k.length≤4294967296) (m i:Nat) (h0:0<i) (hi:i<k.length) :
  aR N0 (m+1) (k,(i:Int))=bif ft k i then aR N0 m (k,((i+1:Nat):Int))else some (.inl false):=by
 rw[aR]
 dsimp only
 rw[jt hi,cond_true,ar hi,cond_true,u9 h0 (by omega),ar (by omega),cond_true,Int.toNat_natCast,Int.toNat_natCast,aw hi hk,D0]
 unfold ft
 rw[decide_eq_false (by omega:¬i=0)]
 cases decide (k.getD (i-1) 0<k.getD i 0)<;>rfl
theorem Cl{k:List Int}(hk:k.length≤4294967296):ix N0 k=some (bI (ft k) 0 k.length):=by
 have h0:∀m,aR N0 (m+1) (k,(k.length:Int))=some (.inr ()):=fun m=>by
  rw[aR];dsimp only;rw[lT];rfl
 show((aR N0 N0 (k,(1:Int))).bind _)=_
 rcases Nat.eq_zero_or_pos k.length with q|q
 ·have:k=[]:=List.eq_nil_of_length_eq_zero q
  subst this
  rfl
 ·have:=cm (aR N0) (fun i=>(k,((i+1:Nat):Int))) (fun i=>ft k (i+1)) false () (k.length-1) (fun m i hi=>PA hk m (i+1) (Nat.succ_pos i) (by omega)) (fun m=>by
   rw[show k.length-1+1=k.length by omega];exact h0 m) N0 0 (Nat.zero_le _) (by have:=n0;omega)
  rw[show aR N0 N0 (k,(1:Int))=_ from this]
  have e:bI (fun i=>ft k (i+1)) 0 (k.length-1-0)=bI (ft k) 0 k.length:=by
   rw[Bool.eq_iff_iff,dc,dc]
   constructor
   ·intro h j h1 h2
    rcases Nat.eq_zero_or_pos j with z|z
    ·subst z;rfl
    ·have:=h (j-1) (Nat.zero_le _) (by omega)
     rw[show j-1+1=j by omega]at this
     exact this
   ·intro h j h1 h2
    exact h (j+1) (Nat.zero_le _) (by omega)
  rw[e]
  cases bI (ft k) 0 k.length<;>rfl
def xU (lo hi v:Int):Bool:=decide (v≥lo)&&decide (v≤hi)
theorem Nq{k:List Int}(hk:k.length≤4294967296) (lo hi:Int) (m i:Nat) (hl:i<k.length) :
  bV N0 (m+1) (k,lo,hi,(i:Int))=bif xU lo hi (k.getD i 0)&&ft k i then bV N0 m (k,lo,hi,((i+1:Nat):Int))else some (.inl false):=by
 rw[bV]
 dsimp only
 rw[jt hl,cond_true,ar hl,cond_true,rK]
 simp only[Option.bind_some,Int.toNat_natCast,aw hl hk]
 rw[show(decide (k.getD i 0≥lo)&&decide (k.getD i 0≤hi))=xU lo hi (k.getD i 0)from rfl]
 unfold ft
 cases xU lo hi (k.getD i 0)with
 |false=>rfl
 |true =>
  rcases Nat.eq_zero_or_pos i with q|q
  ·subst q;rfl
  ·rw[Ph q,cond_true,u9 q (by omega),ar (by omega),cond_true,Int.toNat_natCast,Ei,decide_eq_false (by omega:¬i=0)]
   cases decide (k.getD (i-1) 0<k.getD i 0)<;>rfl
theorem Bv{k:List Int}(hk:k.length≤4294967296) (lo hi:Int):oo N0 (k,lo,hi)=some (bI (fun j=>xU lo hi (k.getD j 0)&&ft k j) 0 k.length):=by
 have:=cm (bV N0) (fun i=>(k,lo,hi,(i:Int))) (fun j=>xU lo hi (k.getD j 0)&&ft k j) false () k.length (Nq hk lo hi) (fun m=>by
  rw[bV];dsimp only;rw[lT];rfl) N0 0 (Nat.zero_le _) (by have:=n0;omega)
 rw[Nat.sub_zero]at this
 show((bV N0 N0 (k,lo,hi,(0:Int))).bind _)=_
 rw[show bV N0 N0 (k,lo,hi,(0:Int))=_ from this]
 cases bI (fun j=>xU lo hi (k.getD j 0)&&ft k j) 0 k.length<;>rfl
def fH (l:List Int) (v:Int):Bool := !bI (fun j => !(l.getD j 0==v)) 0 l.length
theorem iJ{k:List Int}(hk:k.length≤4294967296) (v:Int):cP N0 (k,v)=some (fH k v):=by
 have:=cm (cF N0) (fun i=>(k,v,(i:Int))) (fun j => !(k.getD j 0==v)) true () k.length (fun m i hi=>by
  rw[cF];dsimp only
  rw[jt hi,cond_true,ar hi,cond_true,Int.toNat_natCast,aw hi hk]
  cases(k.getD i 0==v)<;>rfl) (fun m=>by
  rw[cF];dsimp only;rw[lT];rfl) N0 0 (Nat.zero_le _) (by have:=n0;omega)
 rw[Nat.sub_zero]at this
 show((cF N0 N0 (k,v,(0:Int))).bind _)=_
 rw[show cF N0 N0 (k,v,(0:Int))=_ from this]
 unfold fH
 cases bI (fun j => !(k.getD j 0==v)) 0 k.length<;>rfl
theorem zp{l:List Int}{v:Int}:fH l v=true↔∃j,j<l.length∧l.getD j 0=v:=by
 unfold fH
 rw[Bool.not_eq_true',Bool.eq_false_iff,ne_eq,dc]
 constructor
 ·intro h
  refine Classical.byContradiction fun h2=>h fun j _ hj=>?_
  have:¬l.getD j 0=v:=fun e=>h2 ⟨j,by omega,e⟩
  simpa using this
 ·rintro ⟨j,h1,h2⟩ h
  have:=h j (Nat.zero_le _) (by omega)
  rw[h2]at this
  simp at this
abbrev kI:Ty := .int .i64
abbrev xb (x:aV):List Int:=x.2.2.2.2.2.1
def dn (x:aV):Bool:=x.2.2.2.2.2.2.1
structure Small (xs:List ab) (kn:List Int) (li:List aV) (gv sh:List Int) (lg:List aM):Prop where
 fx:xs.length≤4294967296
 fk:kn.length≤4294967296
 fl:li.length≤4294967296
 fg:gv.length≤4294967296
 fs:sh.length≤4294967296
 fo:lg.length≤4294967296
 fe:∀i,i<li.length→(xb (li.getD i zI)).length≤4294967296
def kZ (xs:List ab) (x:aV):Bool:=(gU N0 (xs,x.1,x.2.1,x.2.2.1,x.2.2.2.1,x.2.2.2.2.1,x.2.2.2.2.2.1,x.2.2.2.2.2.2.1,x.2.2.2.2.2.2.2.1,x.2.2.2.2.2.2.2.2)).getD false
theorem vw{xs:List ab}(hx:xs.length≤4294967296){x:aV}(he:(xb x).length≤4294967296) :
  gU N0 (xs,x.1,x.2.1,x.2.2.1,x.2.2.2.1,x.2.2.2.2.1,x.2.2.2.2.2.1,x.2.2.2.2.2.2.1,x.2.2.2.2.2.2.2.1,x.2.2.2.2.2.2.2.2)=some (kZ xs x) ∧
  Lf N0 (xs,x.1,x.2.1,x.2.2.1,x.2.2.2.1,x.2.2.2.2.1,x.2.2.2.2.2.1,x.2.2.2.2.2.2.1,x.2.2.2.2.2.2.2.1,x.2.2.2.2.2.2.2.2)=some (kZ xs x):=by
 obtain⟨v,h1,h2⟩:=J1 hx (w:=x.1) (p:=x.2.1) (a:=x.2.2.1) (b:=x.2.2.2.1) (at_:=x.2.2.2.2.1) (env:=x.2.2.2.2.2.1) he (dn:=x.2.2.2.2.2.2.1) (dd:=x.2.2.2.2.2.2.2.1) (key:=x.2.2.2.2.2.2.2.2)
 unfold kZ
 rw[h1]
 exact⟨rfl,h2⟩
def aF (xs:List ab):Bool:=decide (xs.length≤500)&&cG N0 [] xs
theorem Um{xs:List ab}(hx:xs.length≤4294967296){x:aV}(he:(xb x).length≤4294967296) (hP:aF xs=true) :
  iG N0 (xs,x.1,x.2.1,x.2.2.1,x.2.2.2.1,x.2.2.2.2.1,x.2.2.2.2.2.1,x.2.2.2.2.2.2.1,x.2.2.2.2.2.2.2.1,x.2.2.2.2.2.2.2.2)=some (kZ xs x):=by
 have h2:=(vw hx he).2
 have hP:(decide (xs.length≤500)&&cG N0 [] xs)=true:=hP
 rw[Lf]at h2
 dsimp only at h2
 rw[ot N0 n0 hx,hP]at h2
 simp only[Option.bind_some,cond_true]at h2
 cases hq:iG N0 (xs,x.1,x.2.1,x.2.2.1,x.2.2.2.1,x.2.2.2.2.1,x.2.2.2.2.2.1,x.2.2.2.2.2.2.1,x.2.2.2.2.2.2.2.1,x.2.2.2.2.2.2.2.2)with
 |none=>rw[hq]at h2;cases h2
 |some v=>rw[hq]at h2;exact h2
def gj (n:Int) (k:Int):Bool:=decide (k≥0)&&decide (k≤n-1)
def iV (li:List aV) (k:Int):Bool:=gj (li.length:Int) k&&dn (li.getD k.toNat zI)
theorem eJ{li:List aV}{k:Int}(h:gj (li.length:Int) k=true):aI k li.length=true:=by
 unfold gj at h
 simp at h
 exact decide_eq_true ⟨by omega,by omega⟩
section
variable{xs:List ab}{kn:List Int}{li:List aV}{fr:Int}{gv sh:List Int}{lg:List aM}
theorem M2 (hl:li.length≤4294967296) (k:Int):gR N0 (xs,kn,li,fr,gv,sh,lg,k)=some (xs,kn,li,fr,gv,sh,lg,gj (li.length:Int) k):=by
 rw[gR]
 (try dsimp only)
 rw[au (by omega) (by omega),eK];rfl
theorem zi (hl:li.length≤4294967296) (k:Int):dW N0 (xs,kn,li,fr,gv,sh,lg,k)=some (xs,kn,li,fr,gv,sh,lg,iV li k):=by
 rw[dW]
 (try dsimp only)
 rw[M2 hl]
 simp only[Option.bind_some]
 unfold iV
 cases h:gj (li.length:Int) k with
 |false=>rfl
 |true =>
  rw[eJ h];rfl
def lk (lg:List aM) (j:Nat):Int:=(lg.getD j zC).1
def uJ (li:List aV) (lg:List aM) (i:Nat):Bool:=iV li (lk lg i)&&bI (fun j => !(lk lg j==lk lg i)) 0 i
def zd (lg:List aM):Nat→List (Int×Int)
 |0=>[]
 |i+1=>mU kI (lk lg i) (IntKind.i64.wrap (fZ kI (lk lg i) (zd lg i)+(1:Int))) (zd lg i)
def xe (lg:List aM) (k:Int):Nat→Nat
 |0=>0
 |i+1=>xe lg k i+(if lk lg i=k then 1 else 0)
theorem FP (lg:List aM) (k:Int):∀i,xe lg k i≤i
 |0=>Nat.le_refl _
 |i+1=>by
  have:=FP lg k i
  show xe lg k i+(if lk lg i=k then 1 else 0)≤i+1
  split<;>omega
theorem Cc (lg:List aM) (k:Int):∀i,i≤4294967296→fZ kI k (zd lg i)=(xe lg k i:Int)
 |0,_=>rfl
 |i+1,h=>by
  have ih:=fun k=>Cc lg k i (by omega)
  show fZ kI k (mU kI (lk lg i) (IntKind.i64.wrap (fZ kI (lk lg i) (zd lg i)+(1:Int))) (zd lg i))=((xe lg k i+(if lk lg i=k then 1 else 0):Nat):Int)
  by_cases q:lk lg i=k
  ·subst q
   rw[vn (rQ kI rfl _),Cc lg _ i (by omega),if_pos rfl]
   have:=FP lg (lk lg i) i
   rw[au (by omega) (by omega)];omega
  ·have hne:kI.eqv k (lk lg i)=false:=by
    rw[Bool.eq_false_iff]
    exact fun h=>q (zE kI h).symm
   rw[xH hne,Cc lg k i (by omega),if_neg q,Nat.add_zero]
theorem Aa (lg:List aM) (k:Int):∀i,xe lg k i=0↔∀j,j<i→lk lg j≠k
 |0=>⟨fun _ j h=>by omega,fun _=>rfl⟩
 |i+1=>by
  show xe lg k i+(if lk lg i=k then 1 else 0)=0↔_
  have ih:=Aa lg k i
  by_cases q:lk lg i=k
  ·rw[if_pos q]
   exact⟨fun h=>by omega,fun h=>absurd q (h i (by omega))⟩
  ·rw[if_neg q,Nat.add_zero,ih]
   constructor
   ·intro h j hj
    rcases Nat.lt_or_ge j i with z|z
    ·exact h j z
    ·have:j=i:=by omega
     subst this;exact q
   ·exact fun h j hj=>h j (by omega)
theorem O3 (hg:lg.length≤4294967296){i:Nat}(hi:i<lg.length):decide (fZ kI (lk lg i) (zd lg (i+1))>(1:Int)) = !bI (fun j => !(lk lg j==lk lg i)) 0 i:=by
 rw[Cc lg _ (i+1) (by omega),show xe lg (lk lg i) (i+1)=xe lg (lk lg i) i+1 from by show _+(if _ then 1 else 0)=_;rw[if_pos rfl]]
 have hc:=FP lg (lk lg i) i
 rw[Bool.eq_iff_iff,decide_eq_true_iff,Bool.not_eq_true',Bool.eq_false_iff,ne_eq,dc]
 have hz:=Aa lg (lk lg i) i
 constructor
 ·intro h h2
  have:xe lg (lk lg i) i=0:=hz.2 fun j hj e=>by
   have:=h2 j (Nat.zero_le _) (by omega)
   rw[e]at this
   simp at this
  omega
 ·intro h
  have:xe lg (lk lg i) i≠0:=fun e=>h fun j _ hj=>by
   have:=hz.1 e j (by omega)
   simpa using this
  omega
def s5 (li:List aV) (lg:List aM) (i:Nat):Bool := !dn (li.getD i zI) || !(((xe lg (i:Int) lg.length:Nat):Int)==(0:Int))
theorem O7 (hl:li.length≤4294967296) (hg:lg.length≤4294967296):ga N0 (xs,kn,li,fr,gv,sh,lg)=some (xs,kn,li,fr,gv,sh,lg,bI (uJ li lg) 0 lg.length&&bI (s5 li lg) 0 li.length):=by
 have h1:=cm (bB N0) (fun i=>(xs,kn,li,fr,gv,sh,lg,zd lg i,lg,(lg.length:Int),(i:Int))) (uJ li lg) (xs,kn,li,fr,gv,sh,lg,false) (xs,kn,li,fr,gv,sh,lg,zd lg lg.length) lg.length (fun m i hi=>by
  rw[bB];dsimp only
  rw[jt hi,cond_true,ar hi,cond_true,zi hl]
  simp only[Option.bind_some,Int.toNat_natCast,aw hi hg]
  show(cond (!iV li (lk lg i)) (some (Sum.inl (xs,kn,li,fr,gv,sh,lg,false))) (cond (decide (fZ kI (lk lg i) (zd lg (i+1))>(1:Int))) (some (Sum.inl (xs,kn,li,fr,gv,sh,lg,false))) (bB N0 m (xs,kn,li,fr,gv,sh,lg,zd lg (i+1),lg,(lg.length:Int),((i+1:Nat):Int)))))=_
  rw[O3 hg hi]
  unfold uJ
  cases iV li (lk lg i)with
  |false=>rfl
  |true =>
   cases bI (fun j => !(lk lg j==lk lg i)) 0 i<;>rfl) (fun m=>by
  rw[bB];dsimp only;rw[lT];rfl) N0 0 (Nat.zero_le _) (by have:=n0;omega)
 have h2:=cm (bc N0) (fun i=>(xs,kn,li,fr,gv,sh,lg,zd lg lg.length,li,(li.length:Int),(i:Int))) (s5 li lg) (xs,kn,li,fr,gv,sh,lg,false) (xs,kn,li,fr,gv,sh,lg) li.length (fun m i hi=>by
  rw[bc];(try dsimp only)
  rw[jt hi,cond_true,ar hi,cond_true]
  simp only[Int.toNat_natCast,aw hi hl]
  rw[Cc lg (i:Int) lg.length hg]
  unfold s5 dn
  cases(li.getD i zI).2.2.2.2.2.2.1 with
  |false=>rfl
  |true=>cases(((xe lg (i:Int) lg.length:Nat):Int)==(0:Int))<;>rfl) (fun m=>by
  rw[bc];(try dsimp only);rw[lT];rfl) N0 0 (Nat.zero_le _) (by have:=n0;omega)
 rw[Nat.sub_zero]at h1 h2
 rw[ga]
 (try dsimp only)
 rw[show bB N0 N0 (xs,kn,li,fr,gv,sh,lg,[],lg,(lg.length:Int),(0:Int))=_ from h1]
 cases bI (uJ li lg) 0 lg.length with
 |false=>rfl
 |true =>
  show((bc N0 N0 (xs,kn,li,fr,gv,sh,lg,zd lg lg.length,li,(li.length:Int),(0:Int))).bind _)=_
  rw[show bc N0 N0 (xs,kn,li,fr,gv,sh,lg,zd lg lg.length,li,(li.length:Int),(0:Int))=_ from h2]
  cases bI (s5 li lg) 0 li.length<;>rfl
def uE (xs:List ab) (li:List aV):Bool:=bI (fun i=>kZ xs (li.getD i zI)) 0 li.length
def vE (gv:List Int):Bool:=bI (fun i=>xU 0 4 (gv.getD i 0)) 0 gv.length
def uh (li:List aV) (sh:List Int):Bool:=bI (fun i=>iV li (sh.getD i 0)) 0 sh.length
def rJ (xs:List ab) (kn:List Int):Bool:=bI (iK xs kn) 0 kn.length&&(decide (kn.length≤200)&&aF xs)
theorem Fy (hs:Small xs kn li gv sh lg):fL N0 (xs,kn,li,fr,gv,sh,lg)=some (rJ xs kn&&(decide (li.length≤8)&&(xU 0 8 fr&&(bI (ft gv) 0 gv.length&&(bI (ft sh) 0 sh.length&&(uE xs li&&(vE gv&&(uh li sh&&(bI (uJ li lg) 0 lg.length&&bI (s5 li lg) 0 li.length))))))))):=by
 have h1:=cm (dg N0) (fun i=>(xs,kn,li,fr,gv,sh,lg,li,(li.length:Int),(i:Int))) (fun i=>kZ xs (li.getD i zI)) false (xs,kn,li,fr,gv,sh,lg) li.length (fun m i hi=>by
  rw[dg];(try dsimp only)
  rw[jt hi,cond_true,ar hi,cond_true]
  simp only[Int.toNat_natCast,aw hi hs.fl]
  rw[(vw hs.fx (hs.fe i hi)).1]
  simp only[Option.bind_some]
  cases kZ xs (li.getD i zI)<;>rfl) (fun m=>by
  rw[dg];(try dsimp only);rw[lT];rfl) N0 0 (Nat.zero_le _) (by have:=n0;have:=hs.fl;omega)
 have h2:=cm (cq N0) (fun i=>(xs,kn,li,fr,gv,sh,lg,gv,(gv.length:Int),(i:Int))) (fun i=>xU 0 4 (gv.getD i 0)) false (xs,kn,li,fr,gv,sh,lg) gv.length (fun m i hi=>by
  rw[cq];(try dsimp only)
  rw[jt hi,cond_true,ar hi,cond_true,uX]
  simp only[Option.bind_some,Int.toNat_natCast,aw hi hs.fg]
  rw[show(decide (gv.getD i 0≥0)&&decide (gv.getD i 0≤4))=xU 0 4 (gv.getD i 0)from rfl]
  cases xU 0 4 (gv.getD i 0)<;>rfl) (fun m=>by
  rw[cq];(try dsimp only);rw[lT];rfl) N0 0 (Nat.zero_le _) (by have:=n0;have:=hs.fg;omega)
 have h3:=cm (cp N0) (fun i=>(xs,kn,li,fr,gv,sh,lg,sh,(sh.length:Int),(i:Int))) (fun i=>iV li (sh.getD i 0)) false (xs,kn,li,fr,gv,sh,lg) sh.length (fun m i hi=>by
  rw[cp];dsimp only
  rw[jt hi,cond_true,ar hi,cond_true,zi hs.fl]
  simp only[Option.bind_some,Int.toNat_natCast,aw hi hs.fs]
  cases iV li (sh.getD i 0)<;>rfl) (fun m=>by
  rw[cp];dsimp only;rw[lT];rfl) N0 0 (Nat.zero_le _) (by have:=n0;have:=hs.fs;omega)
 rw[Nat.sub_zero]at h1 h2 h3
 rw[fL]
 (try dsimp only)
 rw[Iq hs.fx hs.fk,eK,Cl hs.fg,Cl hs.fs,
  show dg N0 N0 (xs,kn,li,fr,gv,sh,lg,li,(li.length:Int),(0:Int))=_ from h1]
 simp only[Option.bind_some]
 rw[show(bI (iK xs kn) 0 kn.length&&(decide (kn.length≤200)&&(decide (xs.length≤500)&&cG N0 [] xs)))=rJ xs kn from rfl,
  show(decide (fr≥0)&&decide (fr≤8))=xU 0 8 fr from rfl,show bI (fun i=>kZ xs (li.getD i zI)) 0 li.length=uE xs li from rfl]
 cases rJ xs kn with
 |false=>rfl
 |true =>
  by_cases q:li.length≤8
  ·rw[decide_eq_false (by omega:¬(li.length:Int)>(8:Int)),decide_eq_true q]
   cases xU 0 8 fr with
   |false=>rfl
   |true =>
    cases bI (ft gv) 0 gv.length with
    |false=>rfl
    |true =>
     cases bI (ft sh) 0 sh.length with
     |false=>rfl
     |true =>
      cases uE xs li with
      |false=>rfl
      |true =>
       show((cq N0 N0 (xs,kn,li,fr,gv,sh,lg,gv,(gv.length:Int),(0:Int))).bind _)=_
       rw[show cq N0 N0 (xs,kn,li,fr,gv,sh,lg,gv,(gv.length:Int),(0:Int))=_ from h2,show bI (fun i=>xU 0 4 (gv.getD i 0)) 0 gv.length=vE gv from rfl]
       cases vE gv with
       |false=>rfl
       |true =>
        show((cp N0 N0 (xs,kn,li,fr,gv,sh,lg,sh,(sh.length:Int),(0:Int))).bind _)=_
        rw[show cp N0 N0 (xs,kn,li,fr,gv,sh,lg,sh,(sh.length:Int),(0:Int))=_ from h3,show bI (fun i=>iV li (sh.getD i 0)) 0 sh.length=uh li sh from rfl]
        cases uh li sh with
        |false=>rfl
        |true =>
         show((ga N0 (xs,kn,li,fr,gv,sh,lg)).bind _)=_
         rw[O7 hs.fl hs.fo];rfl
  ·rw[decide_eq_true (by omega:(li.length:Int)>(8:Int)),decide_eq_false q];rfl
def F8 (li:List aV) (i:Nat):Bool:=dn (li.getD i zI)
def Qe (xs:List ab) (li:List aV) (sh:List Int) (i:Nat):Bool:=kZ xs (li.getD i zI)&&(!fH sh (i:Int) || F8 li i)
theorem Mr (d:Nat→Bool) (n:Nat):(places d n).length≤n:=by
 unfold places
 exact Nat.le_trans (List.length_filter_le _ _) (by simp)
theorem Wj (hs:Small xs kn li gv sh lg) (hP:aF xs=true):bQ N0 N0 (xs,kn,li,fr,gv,sh,lg,(li.length:Int),(0:Int),(0:Int)) =
  some (bif bI (Qe xs li sh) 0 li.length then .inr (xs,kn,li,fr,gv,sh,lg,(li.length:Int),((places (F8 li) li.length).length:Int))else .inl false):=by
 have h:=cm (bQ N0) (fun i=>(xs,kn,li,fr,gv,sh,lg,(li.length:Int),((places (F8 li) i).length:Int),(i:Int))) (Qe xs li sh) false (xs,kn,li,fr,gv,sh,lg,(li.length:Int),((places (F8 li) li.length).length:Int)) li.length (fun m i hi=>by
  rw[bQ];(try dsimp only)
  rw[jt hi,cond_true,ar hi,cond_true]
  simp only[Int.toNat_natCast,aw hi hs.fl]
  rw[Um hs.fx (hs.fe i hi) hP,iJ hs.fs]
  simp only[Option.bind_some,cond_true]
  have hpl:=Mr (F8 li) i
  have hli:=hs.fl
  rw[GE,show(li.getD i zI).2.2.2.2.2.2.1=F8 li i from rfl,aw (i:=(places (F8 li) i).length) (n:=i+1) (by omega) (by omega)]
  unfold Qe
  cases kZ xs (li.getD i zI)with
  |false=>rfl
  |true =>
   cases fH sh (i:Int)<;>cases F8 li i<;>rfl) (fun m=>by
  rw[bQ];(try dsimp only);rw[lT];rfl) N0 0 (Nat.zero_le _) (by have:=n0;have:=hs.fl;omega)
 rw[Nat.sub_zero]at h
 exact h
theorem TE (hg:lg.length≤4294967296){N D k:Int}{i:Nat}(hi:i<lg.length):cJ N0 N0 (xs,kn,li,fr,gv,sh,lg,N,D,(i:Int),k,(0:Int)) =
  some (bif bI (fun j => !(lk lg j==k)) 0 i then .inr (xs,kn,li,fr,gv,sh,lg,N,D,(i:Int))else .inl false):=by
 have h:=cm (cJ N0) (fun j=>(xs,kn,li,fr,gv,sh,lg,N,D,(i:Int),k,(j:Int))) (fun j => !(lk lg j==k)) false (xs,kn,li,fr,gv,sh,lg,N,D,(i:Int)) i (fun m j hj=>by
  rw[cJ];(try dsimp only)
  rw[jt hj,cond_true,ar (by omega:j<lg.length),cond_true]
  simp only[Int.toNat_natCast,aw (by omega:j<lg.length) hg]
  rw[show(lg.getD j zC).1=lk lg j from rfl]
  cases(lk lg j==k)<;>rfl) (fun m=>by
  rw[cJ];(try dsimp only);rw[lT];rfl) N0 0 (Nat.zero_le _) (by have:=n0;omega)
 rw[Nat.sub_zero]at h
 exact h
theorem TF (hl:li.length≤4294967296) (hg:lg.length≤4294967296){D:Int}:bR N0 N0 (xs,kn,li,fr,gv,sh,lg,(li.length:Int),D,(0:Int)) =
  some (bif bI (uJ li lg) 0 lg.length then .inr (xs,kn,li,fr,gv,sh,lg,D)else .inl false):=by
 have h:=cm (bR N0) (fun i=>(xs,kn,li,fr,gv,sh,lg,(li.length:Int),D,(i:Int))) (uJ li lg) false (xs,kn,li,fr,gv,sh,lg,D) lg.length (fun m i hi=>by
  rw[bR];(try dsimp only)
  rw[jt hi,cond_true,ar hi,cond_true,au (show -9223372036854775808≤(li.length:Int)-1 by omega) (show(li.length:Int)-1≤9223372036854775807 by omega),rK]
  simp only[Option.bind_some,Int.toNat_natCast]
  rw[show(decide ((lg.getD i zC).1≥0)&&decide ((lg.getD i zC).1≤(li.length:Int)-1))=gj (li.length:Int) (lk lg i)from rfl,show(lg.getD i zC).1=lk lg i from rfl]
  unfold uJ iV
  cases hq:gj (li.length:Int) (lk lg i)with
  |false=>rfl
  |true =>
   rw[eJ hq,TE hg hi]
   unfold dn
   cases(li.getD (lk lg i).toNat zI).2.2.2.2.2.2.1 with
   |false=>rfl
   |true =>
    cases bI (fun j => !(lk lg j==lk lg i)) 0 i with
    |false=>rfl
    |true =>
     show bR N0 m (xs,kn,li,fr,gv,sh,lg,(li.length:Int),D,IntKind.i64.wrap ((i:Int)+(1:Int)))=_
     rw[aw hi hg];rfl) (fun m=>by
  rw[bR];(try dsimp only);rw[lT];rfl) N0 0 (Nat.zero_le _) (by have:=n0;omega)
 rw[Nat.sub_zero]at h
 exact h
theorem EV (hs:Small xs kn li gv sh lg):cC N0 (xs,kn,li,fr,gv,sh,lg)=some (rJ xs kn&&(decide (li.length≤8)&&(xU 0 8 fr&&(bI (fun j=>xU 0 4 (gv.getD j 0)&&ft gv j) 0 gv.length&&(bI (fun j=>xU 0 ((li.length:Int)-1) (sh.getD j 0)&&ft sh j) 0 sh.length&&(bI (Qe xs li sh) 0 li.length&&(bI (uJ li lg) 0 lg.length&&((lg.length:Int)==((places (F8 li) li.length).length:Int))))))))):=by
 have hli:=hs.fl
 rw[cC]
 (try dsimp only)
 rw[Ap hs.fx hs.fk,rK,Bv hs.fg,au (show -9223372036854775808≤(li.length:Int)-1 by omega) (show(li.length:Int)-1≤9223372036854775807 by omega),Bv hs.fs]
 simp only[Option.bind_some]
 rw[show(bI (iK xs kn) 0 kn.length&&(decide (kn.length≤200)&&(decide (xs.length≤500)&&cG N0 [] xs)))=rJ xs kn from rfl,
  show(decide (fr≥0)&&decide (fr≤8))=xU 0 8 fr from rfl]
 cases hk:rJ xs kn with
 |false=>rfl
 |true =>
  have hP:aF xs=true:=by
   unfold rJ at hk
   rw[Bool.and_eq_true,Bool.and_eq_true]at hk
   exact hk.2.2
  rw[Wj hs hP]
  by_cases q:li.length≤8
  ·rw[decide_eq_false (by omega:¬(li.length:Int)>(8:Int)),decide_eq_true q]
   cases xU 0 8 fr with
   |false=>rfl
   |true =>
    cases bI (fun j=>xU 0 4 (gv.getD j 0)&&ft gv j) 0 gv.length with
    |false=>rfl
    |true =>
     cases bI (fun j=>xU 0 ((li.length:Int)-1) (sh.getD j 0)&&ft sh j) 0 sh.length with
     |false=>rfl
     |true =>
      cases bI (Qe xs li sh) 0 li.length with
      |false=>rfl
      |true =>
       show((bR N0 N0 (xs,kn,li,fr,gv,sh,lg,(li.length:Int),((places (F8 li) li.length).length:Int),(0:Int))).bind _)=_
       rw[TF hs.fl hs.fo]
       cases bI (uJ li lg) 0 lg.length<;>rfl
  ·rw[decide_eq_true (by omega:(li.length:Int)>(8:Int)),decide_eq_false q];rfl
end
theorem IU (a b:Nat→Bool) (i k:Nat):bI (fun j=>a j&&b j) i k=(bI a i k&&bI b i k):=by
 rw[Bool.eq_iff_iff,Bool.and_eq_true,dc,dc,dc]
 constructor
 ·intro h
  refine⟨fun j h1 h2=>?_,fun j h1 h2=>?_⟩
  ·have:=h j h1 h2
   rw[Bool.and_eq_true]at this;exact this.1
  ·have:=h j h1 h2
   rw[Bool.and_eq_true]at this;exact this.2
 ·rintro ⟨h1,h2⟩ j h3 h4
  rw[Bool.and_eq_true]
  exact⟨h1 j h3 h4,h2 j h3 h4⟩
section
variable{xs:List ab}{kn:List Int}{li:List aV}{fr:Int}{gv sh:List Int}{lg:List aM}
theorem Jg:(uE xs li&&uh li sh)=(bI (fun j=>xU 0 ((li.length:Int)-1) (sh.getD j 0)) 0 sh.length&&bI (Qe xs li sh) 0 li.length):=by
 unfold uE uh
 rw[Bool.eq_iff_iff,Bool.and_eq_true,Bool.and_eq_true,dc,dc,dc,dc]
 constructor
 ·rintro ⟨h1,h2⟩
  refine⟨fun j h3 h4=>?_,fun i h3 h4=>?_⟩
  ·have:=h2 j h3 h4
   unfold iV at this
   rw[Bool.and_eq_true]at this
   exact this.1
  ·unfold Qe
   rw[Bool.and_eq_true]
   refine⟨h1 i h3 h4,?_⟩
   cases hh:fH sh (i:Int)with
   |false=>rfl
   |true =>
    obtain⟨j,h5,h6⟩:=zp.1 hh
    have:=h2 j (Nat.zero_le _) (by omega)
    unfold iV at this
    rw[Bool.and_eq_true,h6,Int.toNat_natCast]at this
    show(false || F8 li i)=true
    rw[Bool.false_or];exact this.2
 ·rintro ⟨h1,h2⟩
  refine⟨fun i h3 h4=>?_,fun j h3 h4=>?_⟩
  ·have:=h2 i h3 h4
   unfold Qe at this
   rw[Bool.and_eq_true]at this
   exact this.1
  ·have hr:=h1 j h3 h4
   unfold iV
   rw[Bool.and_eq_true]
   refine⟨hr,?_⟩
   have hr':=hr
   unfold xU at hr'
   rw[Bool.and_eq_true,decide_eq_true_iff,decide_eq_true_iff]at hr'
   obtain⟨i,hi⟩:=Int.eq_ofNat_of_zero_le hr'.1
   rw[hi]at hr' ⊢
   rw[Int.toNat_natCast]
   have:=h2 i (Nat.zero_le _) (by omega)
   unfold Qe at this
   rw[Bool.and_eq_true]at this
   have hh:fH sh (i:Int)=true:=zp.2 ⟨j,by omega,hi⟩
   have h3:=this.2
   rw[hh]at h3
   exact h3
theorem O4 (h:bI (uJ li lg) 0 lg.length=true):bI (s5 li lg) 0 li.length=((lg.length:Int)==((places (F8 li) li.length).length:Int)):=by
 rw[dc]at h
 have hg:∀i,i<lg.length→iV li (lk lg i)=true∧∀j,j<i→lk lg j≠lk lg i:=fun i hi=>by
  have:=h i (Nat.zero_le _) (by omega)
  unfold uJ at this
  rw[Bool.and_eq_true,dc]at this
  refine⟨this.1,fun j hj e=>?_⟩
  have:=this.2 j (Nat.zero_le _) (by omega)
  rw[e]at this
  simp at this
 have hL:((List.range lg.length).map (lk lg)).length=lg.length:=by simp
 have hnd:((List.range lg.length).map (lk lg)).Nodup:=by
  rw[JQ,hL]
  intro i hi j hj
  have e:∀k,k<lg.length→((List.range lg.length).map (lk lg)).getD k 0=lk lg k:=fun k hk=>by
   rw[kw (by rw[hL];exact hk)];simp
  rw[e i hi,e j (by omega)]
  exact(hg i hi).2 j hj
 have hin:∀k∈(List.range lg.length).map (lk lg), ∃i:Nat,k=(i:Int)∧i<li.length∧F8 li i=true:=by
  intro k hk
  obtain⟨j,hj,rfl⟩:=List.mem_map.1 hk
  have:=(hg j (List.mem_range.1 hj)).1
  unfold iV gj at this
  rw[Bool.and_eq_true,Bool.and_eq_true,decide_eq_true_iff,decide_eq_true_iff]at this
  obtain⟨⟨h1,h2⟩,h3⟩:=this
  obtain⟨i,hi⟩:=Int.eq_ofNat_of_zero_le h1
  rw[hi]at h2 h3
  rw[Int.toNat_natCast]at h3
  exact⟨i,hi,by omega,h3⟩
 have key:=O6 (F8 li) li.length _ hnd hin
 rw[hL]at key
 rw[Bool.eq_iff_iff,dc,beq_iff_eq]
 have hmem:∀i:Nat,(i:Int)∈(List.range lg.length).map (lk lg)↔xe lg (i:Int) lg.length≠0:=by
  intro i
  rw[Ne,Aa,List.mem_map]
  constructor
  ·rintro ⟨j,h1,h2⟩ h3
   exact h3 j (List.mem_range.1 h1) h2
  ·intro h1
   refine Classical.byContradiction fun h2=>h1 fun j hj e=>h2 ⟨j,List.mem_range.2 hj,e⟩
 have e1:((lg.length:Int)=((places (F8 li) li.length).length:Int))↔lg.length=(places (F8 li) li.length).length:=by omega
 rw[e1, ←key]
 constructor
 ·intro h1 i h2 h3
  have:=h1 i (Nat.zero_le _) (by omega)
  rw[hmem]
  unfold s5 at this
  rw[show dn (li.getD i zI)=F8 li i from rfl,h3]at this
  intro h4
  rw[h4]at this
  exact absurd this (by decide)
 ·intro h1 i _ h2
  unfold s5
  cases h3:dn (li.getD i zI)with
  |false=>rfl
  |true =>
   have:=(hmem i).1 (h1 i (by omega) h3)
   show(false || !(((xe lg (i:Int) lg.length:Nat):Int)==(0:Int)))=true
   rw[Bool.false_or,Bool.not_eq_true',beq_eq_false_iff_ne]
   omega
def aZ (xs:List ab) (kn:List Int) (li:List aV) (fr:Int) (gv sh:List Int) (lg:List aM):Bool :=
 rJ xs kn&&(decide (li.length≤8)&&(xU 0 8 fr&&(bI (ft gv) 0 gv.length&&(bI (ft sh) 0 sh.length&&(uE xs li&&(vE gv&&(uh li sh&&(bI (uJ li lg) 0 lg.length&&bI (s5 li lg) 0 li.length))))))))
theorem Bm (hs:Small xs kn li gv sh lg):cC N0 (xs,kn,li,fr,gv,sh,lg)=some (aZ xs kn li fr gv sh lg):=by
 refine(EV hs).trans (congrArg some ?_)
 unfold aZ
 have e1:bI (fun j=>xU 0 4 (gv.getD j 0)&&ft gv j) 0 gv.length=(vE gv&&bI (ft gv) 0 gv.length):=IU _ _ _ _
 have e2:bI (fun j=>xU 0 ((li.length:Int)-1) (sh.getD j 0)&&ft sh j) 0 sh.length=(bI (fun j=>xU 0 ((li.length:Int)-1) (sh.getD j 0)) 0 sh.length&&bI (ft sh) 0 sh.length):=IU _ _ _ _
 have e3:=Jg (xs:=xs) (li:=li) (sh:=sh)
 rw[e1,e2]
 cases hl:bI (uJ li lg) 0 lg.length with
 |true =>
  rw[O4 hl]
  revert e3
  generalize bI (fun j=>xU 0 ((li.length:Int)-1) (sh.getD j 0)) 0 sh.length=A
  generalize bI (Qe xs li sh) 0 li.length=B
  generalize uE xs li=C
  generalize uh li sh=D
  generalize vE gv=E
  generalize bI (ft gv) 0 gv.length=F
  generalize bI (ft sh) 0 sh.length=G
  generalize ((lg.length:Int)==((places (F8 li) li.length).length:Int))=H
  generalize rJ xs kn=K
  generalize decide (li.length≤8)=M
  generalize xU 0 8 fr=R
  intro e3
  have:(A&&B)=(C&&D):=e3.symm
  cases A<;>cases B<;>cases C<;>cases D<;>simp_all<;>(cases E<;>cases F<;>cases G<;>rfl)
 |false =>
  simp only[Bool.false_and,Bool.and_false]
theorem iF (hs:Small xs kn li gv sh lg):fL N0 (xs,kn,li,fr,gv,sh,lg)=some (aZ xs kn li fr gv sh lg)∧cC N0 (xs,kn,li,fr,gv,sh,lg)=some (aZ xs kn li fr gv sh lg):=⟨Fy hs,Bm hs⟩
end
section
variable{xs:List ab}{kn:List Int}{li:List aV}{fr:Int}{gv sh:List Int}{lg:List aM}
end
section
variable{xs:List ab}{kn:List Int}{li:List aV}{fr:Int}{gv sh:List Int}{lg:List aM}{k:Int}
theorem AD{l:List Int}(hl:l.length≤4294967296) (v:Int):bM N0 (l,v)=some (fH l v):=by
 have h:∀(m i:Nat),i≤l.length→l.length<m+i →
   (∃j:Nat,ay N0 m (l,v,(l.length:Int),(i:Int))=some (.inl (j:Int))∧bI (fun j => !(l.getD j 0==v)) i (l.length-i)=false) ∨
   (ay N0 m (l,v,(l.length:Int),(i:Int))=some (.inr ())∧bI (fun j => !(l.getD j 0==v)) i (l.length-i)=true):=by
  intro m
  induction m with
  |zero=>intro i h1 h2;omega
  |succ m ih =>
   intro i h1 h2
   rcases Nat.eq_or_lt_of_le h1 with q|q
   ·subst q
    refine .inr ⟨?_,?_⟩
    ·rw[ay];dsimp only;rw[lT];rfl
    ·rw[Nat.sub_self];rfl
   ·rw[ay]
    dsimp only
    rw[jt q,cond_true,ar q,cond_true,Int.toNat_natCast,aw q hl,show l.length-i=(l.length-(i+1))+1 by omega]
    show(∃j:Nat,_∧(!(l.getD i 0==v)&&bI (fun j => !(l.getD j 0==v)) (i+1) (l.length-(i+1)))=false)∨(_∧(!(l.getD i 0==v)&&bI (fun j => !(l.getD j 0==v)) (i+1) (l.length-(i+1)))=true)
    have hc:(v==l.getD i 0)=(l.getD i 0==v):=by
     rw[Bool.eq_iff_iff,beq_iff_eq,beq_iff_eq]
     exact⟨fun h=>h.symm,fun h=>h.symm⟩
    rw[hc]
    cases hq:(l.getD i 0==v)with
    |true=>exact .inl ⟨i,rfl,rfl⟩
    |false=>exact ih (i+1) q (by omega)
 rcases h N0 0 (Nat.zero_le _) (by have:=n0;omega)with⟨j,h1,h2⟩|⟨h1,h2⟩
 ·rw[bM];dsimp only
  rw[dJ];dsimp only
  rw[show ay N0 N0 (l,v,(l.length:Int),(0:Int))=_ from h1]
  unfold fH
  rw[Nat.sub_zero]at h2
  rw[h2]
  show some (decide ((j:Int)≥0))=some true
  rw[decide_eq_true (by omega:(j:Int)≥0)]
 ·rw[bM];dsimp only
  rw[dJ];dsimp only
  rw[show ay N0 N0 (l,v,(l.length:Int),(0:Int))=_ from h1]
  unfold fH
  rw[Nat.sub_zero]at h2
  rw[h2];rfl
theorem Pi (hg:gv.length≤4294967296) (v:Int):gb N0 (xs,kn,li,fr,gv,sh,lg,v)=some (xs,kn,li,fr,gv,sh,lg,fH gv v):=by
 rw[gb];(try dsimp only)
 rw[AD hg];rfl
def jc (lg:List aM) (k:Int):Nat→Nat→Option aM
 |_,0=>none
 |i,m+1=>bif lk lg i==k then some (lg.getD i zC)else jc lg k (i+1) m
def mB (lg:List aM) (k:Int):Option aM:=jc lg k 0 lg.length
theorem uI (hg:lg.length≤4294967296):∀(m i:Nat),i≤lg.length→lg.length<m+i→bv N0 m (xs,kn,li,fr,gv,sh,lg,k,(0:Int),false,false,lg,(lg.length:Int),(i:Int)) =
  some (match jc lg k i (lg.length-i)with|some c => .inl (xs,kn,li,fr,gv,sh,lg,c.1,c.2.1,c.2.2,true)|none => .inr (xs,kn,li,fr,gv,sh,lg,(0:Int),false,false))
 |0,i,h1,h2=>by omega
 |m+1,i,h1,h2=>by
  rcases Nat.eq_or_lt_of_le h1 with q|q
  ·subst q
   rw[bv];(try dsimp only);rw[lT,Nat.sub_self];rfl
  ·have ih:=uI hg m (i+1) q (by omega)
   rw[bv];(try dsimp only)
   rw[jt q,cond_true,ar q,cond_true,Int.toNat_natCast,aw q hg,show lg.length-i=(lg.length-(i+1))+1 by omega,ih]
   show(cond (lk lg i==k) _ _)=some (match(bif lk lg i==k then some (lg.getD i zC)else jc lg k (i+1) (lg.length-(i+1)))with|some c=>_|none=>_)
   cases(lk lg i==k)<;>rfl
theorem FC (hg:lg.length≤4294967296):gm N0 (xs,kn,li,fr,gv,sh,lg,k) =
  some (match mB lg k with|some c=>(xs,kn,li,fr,gv,sh,lg,c.1,c.2.1,c.2.2,true)|none=>(xs,kn,li,fr,gv,sh,lg,(0:Int),false,false,false)):=by
 have h:=uI (xs:=xs) (kn:=kn) (li:=li) (fr:=fr) (gv:=gv) (sh:=sh) (k:=k) hg N0 0 (Nat.zero_le _) (by have:=n0;omega)
 rw[Nat.sub_zero]at h
 rw[gm];(try dsimp only)
 rw[show bv N0 N0 (xs,kn,li,fr,gv,sh,lg,k,(0:Int),false,false,lg,(lg.length:Int),(0:Int))=_ from h]
 unfold mB
 cases jc lg k 0 lg.length<;>rfl
theorem ug (hg:lg.length≤4294967296):∀(m i:Nat),i≤lg.length→lg.length<m+i→cI N0 m (k,xs,kn,li,fr,gv,sh,lg,(0:Int),false,false,(i:Int)) =
  some (match jc lg k i (lg.length-i)with|some c => .inl (c.1,c.2.1,c.2.2,true)|none => .inr ((0:Int),false,false))
 |0,i,h1,h2=>by omega
 |m+1,i,h1,h2=>by
  rcases Nat.eq_or_lt_of_le h1 with q|q
  ·subst q
   rw[cI];(try dsimp only);rw[lT,Nat.sub_self];rfl
  ·have ih:=ug hg m (i+1) q (by omega)
   rw[cI];(try dsimp only)
   rw[jt q,cond_true,ar q,cond_true,cond_true,Int.toNat_natCast,aw q hg,show lg.length-i=(lg.length-(i+1))+1 by omega,ih]
   show(cond (lk lg i==k) _ _)=some (match(bif lk lg i==k then some (lg.getD i zC)else jc lg k (i+1) (lg.length-(i+1)))with|some c=>_|none=>_)
   cases(lk lg i==k)<;>rfl
theorem EZ (hg:lg.length≤4294967296):kW N0 (xs,kn,li,fr,gv,sh,lg,k) =
  some (match mB lg k with|some c=>(c.1,c.2.1,c.2.2,true)|none=>((0:Int),false,false,false)):=by
 have h:=ug (xs:=xs) (kn:=kn) (li:=li) (fr:=fr) (gv:=gv) (sh:=sh) (k:=k) hg N0 0 (Nat.zero_le _) (by have:=n0;omega)
 rw[Nat.sub_zero]at h
 rw[kW];(try dsimp only)
 rw[show cI N0 N0 (k,xs,kn,li,fr,gv,sh,lg,(0:Int),false,false,(0:Int))=_ from h]
 unfold mB
 cases jc lg k 0 lg.length<;>rfl
theorem tm (lg:List aM) (k:Int):∀(m i:Nat){c:aM},jc lg k i m=some c→∃j,i≤j∧j<i+m∧lk lg j=k
 |0,i,c,h=>by cases h
 |m+1,i,c,h=>by
  unfold jc at h
  cases q:(lk lg i==k)with
  |true=>exact⟨i,Nat.le_refl _,by omega,beq_iff_eq.1 q⟩
  |false =>
   rw[q]at h
   obtain⟨j,h1,h2,h3⟩:=tm lg k m (i+1) h
   exact⟨j,by omega,by omega,h3⟩
theorem t8 (hw:aZ xs kn li fr gv sh lg=true){c:aM}(hc:mB lg k=some c):gj (li.length:Int) k=true:=by
 obtain⟨j,_,h2,h3⟩:=tm lg k _ 0 hc
 unfold aZ at hw
 simp only[Bool.and_eq_true]at hw
 have hl:=hw.2.2.2.2.2.2.2.2.1
 rw[dc]at hl
 have:=hl j (Nat.zero_le _) h2
 unfold uJ at this
 rw[Bool.and_eq_true]at this
 have:=this.1
 unfold iV at this
 rw[Bool.and_eq_true,h3]at this
 exact this.1
theorem Al (hw:aZ xs kn li fr gv sh lg=true){j:Nat}(hj:j<sh.length):gj (li.length:Int) (sh.getD j 0)=true:=by
 unfold aZ at hw
 simp only[Bool.and_eq_true]at hw
 have hl:=hw.2.2.2.2.2.2.2.1
 unfold uh at hl
 rw[dc]at hl
 have:=hl j (Nat.zero_le _) (by omega)
 unfold iV at this
 rw[Bool.and_eq_true]at this
 exact this.1
def jv (li:List aV) (lg:List aM) (k:Int):Bool:=match mB lg k with
 |some c => !c.2.1&&(((li.getD k.toNat zI).1 != (2:Int)) || !c.2.2)
 |none=>false
theorem mw (hs:Small xs kn li gv sh lg) (hw:aZ xs kn li fr gv sh lg=true):cZ N0 (xs,kn,li,fr,gv,sh,lg,k)=some (xs,kn,li,fr,gv,sh,lg,jv li lg k):=by
 rw[cZ];dsimp only
 rw[FC hs.fo]
 simp only[Option.bind_some]
 unfold jv
 cases hc:mB lg k with
 |none=>rfl
 |some c =>
  have:=eJ (t8 hw hc)
  dsimp only
  rw[this]
  cases c.2.1<;>cases((li.getD k.toNat zI).1 != (2:Int))<;>cases c.2.2<;>rfl
theorem p7 (hs:Small xs kn li gv sh lg) (hw:aZ xs kn li fr gv sh lg=true):d8 N0 (xs,kn,li,fr,gv,sh,lg,k)=some (jv li lg k):=by
 rw[d8];(try dsimp only)
 rw[EZ hs.fo]
 simp only[Option.bind_some]
 unfold jv
 cases hc:mB lg k with
 |none=>rfl
 |some c =>
  have:=eJ (t8 hw hc)
  dsimp only
  rw[this]
  cases c.2.1<;>cases((li.getD k.toNat zI).1 != (2:Int))<;>cases c.2.2<;>rfl
def Cf (li:List aV) (k:Int):Int:=(li.getD k.toNat zI).2.2.2.2.2.2.2.2
def uy (li:List aV) (sh:List Int) (k:Int) (j:Nat):Bool := !(Cf li (sh.getD j 0)==Cf li k)
def pQ (li:List aV) (sh:List Int) (k:Int):Bool:=iV li k && !bI (uy li sh k) 0 sh.length
theorem TW{j:Int}(h1:gj (li.length:Int) j=true) (h2:gj (li.length:Int) k=true):eE N0 (j,false,k,xs,kn,li,fr,gv,sh,lg)=some (false,k,xs,kn,li,fr,gv,sh,lg,Cf li j==Cf li k):=by
 rw[eE];(try dsimp only)
 rw[eJ h1,eJ h2];rfl
theorem uG (hs:Small xs kn li gv sh lg) (hw:aZ xs kn li fr gv sh lg=true) (hk:gj (li.length:Int) k=true):∀(m i:Nat),i≤sh.length→sh.length<m+i →
  (∃j:Nat,ap N0 m (sh,false,(sh.length:Int),(i:Int),false,k,xs,kn,li,fr,gv,sh,lg)=some (.inl ((j:Int),false,k,xs,kn,li,fr,gv,sh,lg))∧bI (uy li sh k) i (sh.length-i)=false) ∨
  (ap N0 m (sh,false,(sh.length:Int),(i:Int),false,k,xs,kn,li,fr,gv,sh,lg)=some (.inr (false,k,xs,kn,li,fr,gv,sh,lg))∧bI (uy li sh k) i (sh.length-i)=true)
 |0,i,h1,h2=>by omega
 |m+1,i,h1,h2=>by
  rcases Nat.eq_or_lt_of_le h1 with q|q
  ·subst q
   refine .inr ⟨?_,?_⟩
   ·rw[ap];dsimp only;rw[lT];rfl
   ·rw[Nat.sub_self];rfl
  ·have ih:=uG hs hw hk m (i+1) q (by omega)
   rw[ap]
   dsimp only
   rw[jt q,cond_true,ar q,cond_true,Int.toNat_natCast,aw q hs.fs,show sh.length-i=(sh.length-(i+1))+1 by omega,TW (Al hw q) hk]
   simp only[Option.bind_some]
   show(∃j:Nat,_∧(uy li sh k i&&bI (uy li sh k) (i+1) (sh.length-(i+1)))=false)∨(_∧(uy li sh k i&&bI (uy li sh k) (i+1) (sh.length-(i+1)))=true)
   unfold uy at ih ⊢
   cases hq:(Cf li (sh.getD i 0)==Cf li k)with
   |true=>exact .inl ⟨i,rfl,rfl⟩
   |false=>exact ih
theorem Fz (hs:Small xs kn li gv sh lg) (hw:aZ xs kn li fr gv sh lg=true):fG N0 (xs,kn,li,fr,gv,sh,lg,k)=some (xs,kn,li,fr,gv,sh,lg,pQ li sh k):=by
 rw[fG];dsimp only
 rw[zi hs.fl]
 simp only[Option.bind_some]
 unfold pQ
 cases hd:iV li k with
 |false=>rfl
 |true =>
  have hk:gj (li.length:Int) k=true:=by
   unfold iV at hd
   rw[Bool.and_eq_true]at hd
   exact hd.1
  rw[cond_true,dj];dsimp only
  rw[dK];(try dsimp only)
  rcases uG hs hw hk N0 0 (Nat.zero_le _) (by have:=n0;have:=hs.fs;omega)with⟨j,h1,h2⟩|⟨h1,h2⟩
  ·rw[show ap N0 N0 (sh,false,(sh.length:Int),(0:Int),false,k,xs,kn,li,fr,gv,sh,lg)=_ from h1]
   rw[Nat.sub_zero]at h2
   rw[h2]
   simp only[Option.bind_some]
   rw[decide_eq_true (by omega:(j:Int)≥0)];rfl
  ·rw[show ap N0 N0 (sh,false,(sh.length:Int),(0:Int),false,k,xs,kn,li,fr,gv,sh,lg)=_ from h1]
   rw[Nat.sub_zero]at h2
   rw[h2];rfl
theorem EW (hs:Small xs kn li gv sh lg) (hw:aZ xs kn li fr gv sh lg=true):kV N0 (xs,kn,li,fr,gv,sh,lg,k)=some (pQ li sh k):=by
 have hli:=hs.fl
 rw[kV];(try dsimp only)
 rw[au (show -9223372036854775808≤(li.length:Int)-1 by omega) (show(li.length:Int)-1≤9223372036854775807 by omega),rK]
 simp only[Option.bind_some]
 rw[show(decide (k≥0)&&decide (k≤(li.length:Int)-1))=gj (li.length:Int) k from rfl]
 unfold pQ iV
 cases hk:gj (li.length:Int) k with
 |false=>rfl
 |true =>
  rw[eJ hk]
  unfold dn
  cases(li.getD k.toNat zI).2.2.2.2.2.2.1 with
  |false=>rfl
  |true =>
   have h:=cm (co N0) (fun i=>(k,xs,kn,li,fr,gv,sh,lg,(i:Int))) (uy li sh k) true () sh.length (fun m i hi=>by
    rw[co];(try dsimp only)
    rw[jt hi,cond_true,ar hi,cond_true,Int.toNat_natCast,aw hi hs.fs,eJ (Al hw hi),cond_true,eJ hk,cond_true]
    unfold uy Cf
    cases((li.getD (sh.getD i 0).toNat zI).2.2.2.2.2.2.2.2==(li.getD k.toNat zI).2.2.2.2.2.2.2.2)<;>rfl) (fun m=>by
    rw[co];(try dsimp only);rw[lT];rfl) N0 0 (Nat.zero_le _) (by have:=n0;have:=hs.fs;omega)
   rw[Nat.sub_zero]at h
   show((co N0 N0 (k,xs,kn,li,fr,gv,sh,lg,(0:Int))).bind _)=_
   rw[show co N0 N0 (k,xs,kn,li,fr,gv,sh,lg,(0:Int))=_ from h]
   cases bI (uy li sh k) 0 sh.length<;>rfl
end
def IK (li:List aV) (lg:List aM) (i j:Nat):Bool :=
 jv li lg (i:Int)&&(jv li lg (j:Int)&&(((li.getD i zI).1==(li.getD j zI).1)&&(((li.getD i zI).2.1==(li.getD j zI).2.1)&&((li.getD i zI).2.2.2.2.2.2.2.2==(li.getD j zI).2.2.2.2.2.2.2.2))))
def qj (li:List aV) (lg:List aM) (i:Nat):Bool:=bI (fun j => !IK li lg i j) 0 i
theorem N3{li:List aV}{i:Nat}(h:i≤li.length):(sl li 0 (i:Int)).length=i:=by
 unfold sl
 simp
 omega
theorem TG{li:List aV}{i j:Nat}(h:i≤li.length) (hj:j<i):(sl li 0 (i:Int)).getD j zI=li.getD j zI:=by
 unfold sl
 rw[List.getD_eq_getElem?_getD,List.getD_eq_getElem?_getD]
 congr 1
 simp[List.getElem?_take,hj]
section
variable{xs:List ab}{kn:List Int}{li:List aV}{fr:Int}{gv sh:List Int}{lg:List aM}{k:Int}
theorem Un (hs:Small xs kn li gv sh lg) (hw:aZ xs kn li fr gv sh lg=true){i:Nat}(hi:i<li.length) :
  bg N0 N0 (xs,kn,li,fr,gv,sh,lg,(i:Int),(li.getD i zI).1,(li.getD i zI).2.1,(li.getD i zI).2.2.1,(li.getD i zI).2.2.2.1,(li.getD i zI).2.2.2.2.1,(li.getD i zI).2.2.2.2.2.1,(li.getD i zI).2.2.2.2.2.2.1,(li.getD i zI).2.2.2.2.2.2.2.1,(li.getD i zI).2.2.2.2.2.2.2.2,li,(li.length:Int),(i:Int),sl li 0 (i:Int),((sl li 0 (i:Int)).length:Int),(0:Int)) =
   some (bif qj li lg i then .inr (xs,kn,li,fr,gv,sh,lg,li,(li.length:Int),(i:Int))else .inl false):=by
 have hli:=hs.fl
 rw[N3 (Nat.le_of_lt hi)]
 have h:=cm (bg N0) (fun j=>(xs,kn,li,fr,gv,sh,lg,(i:Int),(li.getD i zI).1,(li.getD i zI).2.1,(li.getD i zI).2.2.1,(li.getD i zI).2.2.2.1,(li.getD i zI).2.2.2.2.1,(li.getD i zI).2.2.2.2.2.1,(li.getD i zI).2.2.2.2.2.2.1,(li.getD i zI).2.2.2.2.2.2.2.1,(li.getD i zI).2.2.2.2.2.2.2.2,li,(li.length:Int),(i:Int),sl li 0 (i:Int),(i:Int),(j:Int))) (fun j => !IK li lg i j) false (xs,kn,li,fr,gv,sh,lg,li,(li.length:Int),(i:Int)) i (fun m j hj=>by
  rw[bg];dsimp only
  rw[jt hj,cond_true,N3 (Nat.le_of_lt hi),ar hj,cond_true,mw hs hw]
  simp only[Option.bind_some,Int.toNat_natCast,aw (Nat.lt_trans hj hi) hli,mw hs hw,TG (Nat.le_of_lt hi) hj]
  unfold IK
  cases jv li lg (i:Int)<;>cases jv li lg (j:Int)<;>cases((li.getD i zI).1==(li.getD j zI).1)<;>cases((li.getD i zI).2.1==(li.getD j zI).2.1)<;>cases((li.getD i zI).2.2.2.2.2.2.2.2==(li.getD j zI).2.2.2.2.2.2.2.2)<;>rfl) (fun m=>by
  rw[bg];dsimp only;rw[lT];rfl) N0 0 (Nat.zero_le _) (by have:=n0;omega)
 rw[Nat.sub_zero]at h
 exact h
theorem FB (hs:Small xs kn li gv sh lg):iz N0 (xs,kn,li,fr,gv,sh,lg)=some (aZ xs kn li fr gv sh lg&&bI (qj li lg) 0 li.length):=by
 have hli:=hs.fl
 rw[iz];(try dsimp only)
 rw[(iF hs).1]
 simp only[Option.bind_some]
 cases hw:aZ xs kn li fr gv sh lg with
 |false=>rfl
 |true =>
  have h:=cm (bK N0) (fun i=>(xs,kn,li,fr,gv,sh,lg,li,(li.length:Int),(i:Int))) (qj li lg) false () li.length (fun m i hi=>by
   rw[bK];(try dsimp only)
   rw[jt hi,cond_true,ar hi,cond_true,show CW 0 (i:Int) li.length=true from decide_eq_true ⟨Int.le_refl _,by omega,by omega⟩,cond_true]
   simp only[Int.toNat_natCast]
   rw[Un hs hw hi]
   cases qj li lg i with
   |false=>rfl
   |true =>
    show bK N0 m (xs,kn,li,fr,gv,sh,lg,li,(li.length:Int),IntKind.i64.wrap ((i:Int)+(1:Int)))=_
    rw[aw hi hli];rfl) (fun m=>by
   rw[bK];(try dsimp only);rw[lT];rfl) N0 0 (Nat.zero_le _) (by have:=n0;omega)
  rw[Nat.sub_zero]at h
  show((bK N0 N0 (xs,kn,li,fr,gv,sh,lg,li,(li.length:Int),(0:Int))).bind _)=_
  rw[show bK N0 N0 (xs,kn,li,fr,gv,sh,lg,li,(li.length:Int),(0:Int))=_ from h]
  cases bI (qj li lg) 0 li.length<;>rfl
theorem Wi (hs:Small xs kn li gv sh lg) (hw:aZ xs kn li fr gv sh lg=true){i:Nat}(hi:i<li.length) :
  bf N0 N0 (xs,kn,li,fr,gv,sh,lg,(i:Int),(0:Int))=some (bif qj li lg i then .inr (xs,kn,li,fr,gv,sh,lg,(i:Int))else .inl false):=by
 have hli:=hs.fl
 have h:=cm (bf N0) (fun j=>(xs,kn,li,fr,gv,sh,lg,(i:Int),(j:Int))) (fun j => !IK li lg i j) false (xs,kn,li,fr,gv,sh,lg,(i:Int)) i (fun m j hj=>by
  rw[bf];dsimp only
  rw[jt hj,cond_true,mg];(try dsimp only)
  rw[ar hi,cond_true,ar (Nat.lt_trans hj hi),cond_true]
  simp only[Option.bind_some,Int.toNat_natCast,aw (Nat.lt_trans hj hi) hli,p7 hs hw]
  unfold IK
  cases jv li lg (i:Int)<;>cases jv li lg (j:Int)<;>cases((li.getD i zI).1==(li.getD j zI).1)<;>cases((li.getD i zI).2.1==(li.getD j zI).2.1)<;>cases((li.getD i zI).2.2.2.2.2.2.2.2==(li.getD j zI).2.2.2.2.2.2.2.2)<;>rfl) (fun m=>by
  rw[bf];dsimp only;rw[lT];rfl) N0 0 (Nat.zero_le _) (by have:=n0;omega)
 rw[Nat.sub_zero]at h
 exact h
theorem EY (hs:Small xs kn li gv sh lg):jQ N0 (xs,kn,li,fr,gv,sh,lg)=some (aZ xs kn li fr gv sh lg&&bI (qj li lg) 0 li.length):=by
 have hli:=hs.fl
 rw[jQ];(try dsimp only)
 rw[(iF hs).2]
 simp only[Option.bind_some]
 cases hw:aZ xs kn li fr gv sh lg with
 |false=>rfl
 |true =>
  have h:=cm (bJ N0) (fun i=>(xs,kn,li,fr,gv,sh,lg,(i:Int))) (qj li lg) false () li.length (fun m i hi=>by
   rw[bJ];(try dsimp only)
   rw[jt hi,cond_true,Wi hs hw hi]
   cases qj li lg i with
   |false=>rfl
   |true =>
    show bJ N0 m (xs,kn,li,fr,gv,sh,lg,IntKind.i64.wrap ((i:Int)+(1:Int)))=_
    rw[aw hi hli];rfl) (fun m=>by
   rw[bJ];(try dsimp only);rw[lT];rfl) N0 0 (Nat.zero_le _) (by have:=n0;omega)
  rw[Nat.sub_zero]at h
  show((bJ N0 N0 (xs,kn,li,fr,gv,sh,lg,(0:Int))).bind _)=_
  rw[show bJ N0 N0 (xs,kn,li,fr,gv,sh,lg,(0:Int))=_ from h]
  cases bI (qj li lg) 0 li.length<;>rfl
end
abbrev dN:ab:=((0:Int),((0:Int),(0:Int)))
def pf (xs:List ab) (k:ab):Nat→Nat→Option Nat
 |_,0=>none
 |i,m+1=>if xs.getD i dN=k then some i else pf xs k (i+1) m
abbrev ou (xs:List ab) (k:ab):Option Nat:=pf xs k 0 xs.length
theorem Ba{xs:List ab}{k:ab}:∀{m i j:Nat},pf xs k i m=some j→i≤j∧j<i+m∧xs.getD j dN=k
 |0,_,_,h=>by cases h
 |m+1,i,j,h=>by
  unfold pf at h
  by_cases hk:xs.getD i dN=k
  ·rw[if_pos hk]at h
   obtain rfl:=Option.some.inj h
   exact⟨Nat.le_refl _,by omega,hk⟩
  ·rw[if_neg hk]at h
   obtain⟨h1,h2,h3⟩:=Ba h
   exact⟨by omega,by omega,h3⟩
theorem KO{xs:List ab}{k:ab}:∀{m i:Nat},pf xs k i m=none→∀q,i≤q→q<i+m→xs.getD q dN≠k
 |0,i,_,q,h1,h2=>by omega
 |m+1,i,h,q,h1,h2=>by
  unfold pf at h
  by_cases hk:xs.getD i dN=k
  ·rw[if_pos hk]at h;cases h
  ·rw[if_neg hk]at h
   rcases Nat.eq_or_lt_of_le h1 with e|e
   ·subst e;exact hk
   ·exact KO h q e (by omega)
theorem GU (p k:ab):(p.1==k.1&&(p.2.1==k.2.1&&(p.2.2==k.2.2&&true)))=decide (p=k):=by
 obtain⟨p1,p2,p3⟩:=p
 obtain⟨k1,k2,k3⟩:=k
 rw[Bool.eq_iff_iff]
 simp
theorem MC (p k:ab):(k.1==p.1&&(k.2.1==p.2.1&&(k.2.2==p.2.2&&true)))=decide (p=k):=by
 rw[GU k p,Bool.eq_iff_iff]
 simp[eq_comm]
theorem KN{xs:List ab}{k:ab}{i:Nat}(h:i<xs.length):pf xs k i (xs.length-i)=if xs.getD i dN=k then some i else pf xs k (i+1) (xs.length-(i+1)):=by
 have e:xs.length-i=(xs.length-(i+1))+1:=by omega
 rw[e];rfl
theorem Om{xs:List ab}{k:ab}{i:Nat}(h:xs.length≤i):pf xs k i (xs.length-i)=none:=by
 have e:xs.length-i=0:=by omega
 rw[e];rfl
theorem Cj (n:Nat){xs:List ab}(hx:xs.length≤4294967296) (k:ab):∀(m i:Nat),i≤xs.length→xs.length<m+i→aq n m (xs,k.1,k.2.1,k.2.2,(xs.length:Int),(i:Int)) =
  some (match pf xs k i (xs.length-i)with|some j=>Sum.inl (j:Int)|none=>Sum.inr ())
 |0,i,h1,h2=>by omega
 |m+1,i,h1,h2=>by
  have e0:aq n (m+1) (xs,k.1,k.2.1,k.2.2,(xs.length:Int),(i:Int))=(cond (decide ((i:Int)<(xs.length:Int))) (cond (aI (i:Int) xs.length) (cond (k.1==(xs.getD ((i:Int)).toNat dN).1&&(k.2.1==(xs.getD ((i:Int)).toNat dN).2.1&&(k.2.2==(xs.getD ((i:Int)).toNat dN).2.2&&true))) (some (Sum.inl (i:Int))) (aq n m (xs,k.1,k.2.1,k.2.2,(xs.length:Int),IntKind.i64.wrap ((i:Int)+(1:Int))))) none) (some (Sum.inr ()))):=rfl
  rw[e0,O2]
  by_cases hlt:i<xs.length
  ·rw[decide_eq_true hlt,cond_true,ar hlt,cond_true,Int.toNat_natCast,aw hlt hx,MC,KN hlt]
   by_cases hk:xs.getD i dN=k
   ·rw[decide_eq_true hk,cond_true,if_pos hk]
   ·rw[decide_eq_false hk,cond_false,if_neg hk,Cj n hx k m (i+1) hlt (by omega)]
  ·rw[decide_eq_false hlt,cond_false,Om (by omega)]
theorem Cq (n:Nat){xs:List ab}(hx:xs.length≤4294967296) (k:ab):∀(m i:Nat),i≤xs.length→xs.length<m+i→cn n m (xs,k.1,k.2.1,k.2.2,(i:Int)) =
  some (match pf xs k i (xs.length-i)with|some j=>Sum.inl (j:Int)|none=>Sum.inr ())
 |0,i,h1,h2=>by omega
 |m+1,i,h1,h2=>by
  have e0:cn n (m+1) (xs,k.1,k.2.1,k.2.2,(i:Int))=(cond (decide ((i:Int)<(xs.length:Int))) (cond (aI (i:Int) xs.length) (cond ((xs.getD ((i:Int)).toNat dN).1==k.1&&((xs.getD ((i:Int)).toNat dN).2.1==k.2.1&&((xs.getD ((i:Int)).toNat dN).2.2==k.2.2&&true))) (some (Sum.inl (i:Int))) (cn n m (xs,k.1,k.2.1,k.2.2,IntKind.i64.wrap ((i:Int)+(1:Int))))) none) (some (Sum.inr ()))):=rfl
  rw[e0,O2]
  by_cases hlt:i<xs.length
  ·rw[decide_eq_true hlt,cond_true,ar hlt,cond_true,Int.toNat_natCast,aw hlt hx,GU,KN hlt]
   by_cases hk:xs.getD i dN=k
   ·rw[decide_eq_true hk,cond_true,if_pos hk]
   ·rw[decide_eq_false hk,cond_false,if_neg hk,Cq n hx k m (i+1) hlt (by omega)]
  ·rw[decide_eq_false hlt,cond_false,Om (by omega)]
def Qf (xs:List ab) (k:ab):Int:=match ou xs k with
 |some j=>(j:Int)
 |none=>-1
theorem Io{xs:List ab}(hx:xs.length≤4294967296) (k:ab):be N0 (xs,k.1,k.2.1,k.2.2)=some (Qf xs k):=by
 unfold be
 dsimp only
 have h:=Cj N0 hx k N0 0 (Nat.zero_le _) (by have:=n0;omega)
 rw[Nat.sub_zero]at h
 rw[show(0:Int)=((0:Nat):Int)from rfl,h]
 unfold Qf ou
 cases pf xs k 0 xs.length<;>rfl
theorem D6{xs:List ab}(hx:xs.length≤4294967296) (k:ab):cV N0 (xs,k.1,k.2.1,k.2.2)=some (Qf xs k):=by
 unfold cV
 dsimp only
 have h:=Cq N0 hx k N0 0 (Nat.zero_le _) (by have:=n0;omega)
 rw[Nat.sub_zero]at h
 rw[show(0:Int)=((0:Nat):Int)from rfl,h]
 unfold Qf ou
 cases pf xs k 0 xs.length<;>rfl
theorem Gs {α:Type}{xs:List ab}(h:xs.length≤500){k:α}:aO (xs.length+[k].length)=true:=by
 unfold aO
 rw[List.length_singleton]
 simp
 omega
theorem OU{c a b:Int}{i j:Nat}(hj:j≤4294967296) (hij:i≤j) (h:gP N0 (c,a,b,(i:Int))=true):gP N0 (c,a,b,(j:Int))=true:=by
 have wi:IntKind.i64.wrap ((i:Int)-(1:Int))=(i:Int)-1:=au (by omega) (by omega)
 have wj:IntKind.i64.wrap ((j:Int)-(1:Int))=(j:Int)-1:=au (by omega) (by omega)
 have up:∀v:Int,(decide (v≥0)&&decide (v≤(i:Int)-1))=true→(decide (v≥0)&&decide (v≤(j:Int)-1))=true:=fun v hv=>by
  rw[Bool.and_eq_true,decide_eq_true_iff,decide_eq_true_iff]at hv ⊢
  omega
 have ha:=up a
 have hb:=up b
 revert h
 unfold gP bH
 dsimp only
 obtain⟨v,hv⟩:=Cx N0 c
 rw[hv]
 simp only[Option.bind_some,eK,wi,wj]
 generalize (decide (a≥0)&&decide (a≤(i:Int)-1))=A1 at ha ⊢
 generalize (decide (a≥0)&&decide (a≤(j:Int)-1))=A2 at ha ⊢
 generalize (decide (b≥0)&&decide (b≤(i:Int)-1))=B1 at hb ⊢
 generalize (decide (b≥0)&&decide (b≤(j:Int)-1))=B2 at hb ⊢
 cases(v==(0:Int))
 ·cases(v==(1:Int))
  ·cases(v==(2:Int))
   ·exact id
   ·cases A1
    ·exact fun h=>Bool.noConfusion h
    ·cases B1
     ·exact fun h=>(by cases A2<;>exact Bool.noConfusion h)
     ·rw[ha rfl,hb rfl];exact id
  ·cases A1
   ·exact fun h=>Bool.noConfusion h
   ·rw[ha rfl];exact id
 ·exact id
theorem DJ{n:Nat}:∀{r pre:List ab},cG n pre r=true→∀j,j<r.length→gP n ((r.getD j dN).1,(r.getD j dN).2.1,(r.getD j dN).2.2,((pre.length+j:Nat):Int))=true
 |[],pre,_,j,hj=>absurd hj (Nat.not_lt_zero _)
 |k::r,pre,h,j,hj=>by
  have h:((!pre.contains k&&gP n (k.1,k.2.1,k.2.2,(pre.length:Int)))&&cG n (pre++[k]) r)=true:=h
  rw[Bool.and_eq_true,Bool.and_eq_true]at h
  match j with
  |0=>exact h.1.2
  |j+1 =>
   have:=DJ h.2 j (by simpa using hj)
   rw[List.length_append]at this
   have e:pre.length+(j+1)=pre.length+[k].length+j:=by simp;omega
   rw[e]
   exact this
theorem BQ{n:Nat}:∀{r pre s:List ab},cG n pre (r++s)=(cG n pre r&&cG n (pre++r) s)
 |[],pre,s=>by simp[cG]
 |k::r,pre,s=>by
  show((!pre.contains k&&gP n (k.1,k.2.1,k.2.2,(pre.length:Int)))&&cG n (pre++[k]) (r++s))=(((!pre.contains k&&gP n (k.1,k.2.1,k.2.2,(pre.length:Int)))&&cG n (pre++[k]) r)&&cG n (pre++(k::r)) s)
  rw[BQ]
  simp only[Bool.and_assoc,List.append_assoc,List.singleton_append]
theorem aX{xs:List ab}(h:aF xs=true):xs.length≤500:=by
 unfold aF at h
 rw[Bool.and_eq_true,decide_eq_true_iff]at h
 exact h.1
theorem xB{xs:List ab}(h:aF xs=true){j:Nat}(hj:j<xs.length):gP N0 ((xs.getD j dN).1,(xs.getD j dN).2.1,(xs.getD j dN).2.2,(j:Int))=true:=by
 unfold aF at h
 rw[Bool.and_eq_true]at h
 have:=DJ h.2 j hj
 simpa using this
theorem Jw{xs:List ab}(h:aF xs=true) (hl:xs.length<500){k:ab}(hk:gP N0 (k.1,k.2.1,k.2.2,(xs.length:Int))=true) (hn:ou xs k=none):aF (xs++[k])=true:=by
 unfold aF at h ⊢
 rw[Bool.and_eq_true]at h ⊢
 refine⟨decide_eq_true (by simp;omega),?_⟩
 rw[BQ,h.2,Bool.true_and,List.nil_append]
 show((!xs.contains k&&gP N0 (k.1,k.2.1,k.2.2,(xs.length:Int)))&&true)=true
 rw[hk,Bool.and_true,Bool.and_true,Bool.not_eq_true']
 rw[←Bool.not_eq_true]
 intro hc
 have hm:k∈xs:=by simpa using hc
 obtain⟨j,hj,e⟩:=List.mem_iff_getElem.1 hm
 refine KO hn j (Nat.zero_le _) (by omega) ?_
 rw[kw hj]
 exact e
def CI (xs:List ab) (k:ab):Option (List ab×Int) :=
 bif gP N0 (k.1,k.2.1,k.2.2,(xs.length:Int))then(match ou xs k with
  |some j=>some (xs,(j:Int))
  |none=>if 500≤xs.length then none else some (xs++[k],(xs.length:Int)))else none
def Ue (kd a b:Int):ab:=bif kd==8 then(kd,mn a b,mx a b)else(kd,a,b)
def jh (xs:List ab) (kd a b:Int):Option (List ab×Int):=CI xs (Ue kd a b)
def lu (xs:List ab):Option (List ab×Int)→List ab×Int
 |some r=>r
 |none=>(xs, -1)
theorem Nu{xs ys:List ab}{k:ab}{t:Int}(hp:aF xs=true) (h:CI xs k=some (ys,t)):aF ys=true∧0≤t∧t<(ys.length:Int)∧(∃zs,ys=xs++zs)∧ys.getD t.toNat dN=k:=by
 unfold CI at h
 cases hk:gP N0 (k.1,k.2.1,k.2.2,(xs.length:Int))with
 |false=>rw[hk]at h;cases h
 |true =>
  rw[hk,cond_true]at h
  cases hf:ou xs k with
  |some j =>
   rw[hf]at h
   obtain⟨rfl,rfl⟩:=Prod.mk.inj (Option.some.inj h)
   obtain⟨h1,h2,h3⟩:=Ba hf
   exact⟨hp,by omega,by omega,⟨[],by simp⟩,by rw[Int.toNat_natCast];exact h3⟩
  |none =>
   rw[hf]at h
   dsimp only at h
   by_cases hl:500≤xs.length
   ·rw[if_pos hl]at h;cases h
   ·rw[if_neg hl]at h
    obtain⟨rfl,rfl⟩:=Prod.mk.inj (Option.some.inj h)
    exact⟨Jw hp (by omega) hk hf,by omega,by simp;omega,⟨[k],rfl⟩,by rw[Int.toNat_natCast];simp[List.getD_eq_getElem?_getD]⟩
theorem Ch{xs:List ab}(hx:xs.length≤4294967296) (v:Int):gq N0 (xs,v)=some (xs,ci xs v):=nD N0 hx v
theorem Ir{xs:List ab}(hx:xs.length≤500) (k:ab):((bH N0 (k.1,k.2.1,k.2.2,((xs).length:Int))).bind fun r1=>(cond (!r1) (some (xs,(-1:Int))) ((eM N0 (xs,k.1,k.2.1,k.2.2)).bind fun r2=>(cond (decide (r2.2≥(0:Int))) (some (r2.1,r2.2)) (cond (decide (((r2.1).length:Int)≥(500:Int))) (some (r2.1,(-1:Int))) ((fm N0 (r2.1,k.1,k.2.1,k.2.2)).bind fun g3=>(some (g3,(IntKind.i64.wrap (((g3).length:Int)-(1:Int)))))))))))
  = some (lu xs (CI xs k)):=by
 rw[yX,Option.bind_some]
 unfold CI
 cases gP N0 (k.1,k.2.1,k.2.2,(xs.length:Int))with
 |false=>rfl
 |true =>
  rw[cond_true,Bool.not_true,cond_false]
  have e1:eM N0 (xs,k.1,k.2.1,k.2.2)=some (xs,Qf xs k):=by
   unfold eM
   dsimp only
   rw[Io (by omega)];rfl
  rw[e1,Option.bind_some]
  dsimp only
  unfold Qf
  cases hf:ou xs k with
  |some j =>
   dsimp only
   rw[decide_eq_true (by omega:(j:Int)≥(0:Int)),cond_true];rfl
  |none =>
   dsimp only
   rw[decide_eq_false (by omega:¬((-1:Int)≥(0:Int))),cond_false]
   by_cases hl:500≤xs.length
   ·rw[decide_eq_true (by omega:(xs.length:Int)≥(500:Int)),cond_true,if_pos hl];rfl
   ·rw[decide_eq_false (by omega:¬((xs.length:Int)≥(500:Int))),cond_false,if_neg hl]
    have e2:fm N0 (xs,k.1,k.2.1,k.2.2)=some (xs++[k]):=by
     unfold fm
     dsimp only
     have:aO (xs.length+[(k.1,(k.2.1,k.2.2))].length)=true:=Gs hx
     rw[this];rfl
    rw[e2,Option.bind_some]
    have e3:IntKind.i64.wrap (((xs++[k]).length:Int)-(1:Int))=(xs.length:Int):=by
     have hl:(xs++[k]).length=xs.length+1:=by rw[List.length_append,List.length_singleton]
     rw[hl,au (by omega) (by omega)]
     omega
    rw[e3];rfl
theorem sZ{xs:List ab}(hx:xs.length≤500) (kd a b:Int):fW N0 (xs,kd,a,b)=some (lu xs (jh xs kd a b)):=by
 unfold fW jh Ue
 dsimp only
 cases hk:(kd==(8:Int))with
 |true=>rw[cond_true,cond_true];exact Ir hx (kd,mn a b,mx a b)
 |false=>rw[cond_false,cond_false];exact Ir hx (kd,a,b)
theorem Ip{xs:List ab}(hx:xs.length≤500) (c:Int):gp N0 (xs,c)=some (lu xs (jh xs 1 c 0)):=by
 unfold gp
 dsimp only
 rw[sZ hx];rfl
theorem Bw{xs:List ab}(hp:aF xs=true) (k:ab):((cV N0 (xs,k.1,k.2.1,k.2.2)).bind fun r9=>(cond (decide (r9≥(0:Int))) (some (xs,r9)) ((dx N0 (k.1,k.2.1,k.2.2,((xs).length:Int))).bind fun r10=>(cond (!r10) (some (xs,(-1:Int))) (cond (((xs).length:Int)==(500:Int)) (some (xs,(-1:Int))) ((bb N0 xs).bind fun r11=>(cond (aO ((r11).length+([(k.1,(k.2.1,k.2.2))]).length)) ((jE N0 (xs,[],(r11++[(k.1,(k.2.1,k.2.2))]))).bind fun g12=>(some (g12.1,g12.2))) none)))))))
  = some (lu xs (CI xs k)):=by
 have hx:=aX hp
 rw[D6 (by omega),Option.bind_some]
 unfold Qf CI
 cases hf:ou xs k with
 |some j =>
  obtain⟨h1,h2,h3⟩:=Ba hf
  have hj:j<xs.length:=by omega
  have hnd:=xB hp hj
  rw[h3]at hnd
  rw[OU (by omega) (Nat.le_of_lt hj) hnd]
  dsimp only
  rw[decide_eq_true (by omega:(j:Int)≥(0:Int)),cond_true];rfl
 |none =>
  dsimp only
  rw[decide_eq_false (by omega:¬((-1:Int)≥(0:Int))),cond_false,Gv,Option.bind_some]
  cases gP N0 (k.1,k.2.1,k.2.2,(xs.length:Int))with
  |false=>rfl
  |true =>
   rw[cond_true,Bool.not_true,cond_false]
   by_cases hl:500≤xs.length
   ·have:((xs.length:Int)==(500:Int))=true:=by simp;omega
    rw[this,cond_true,if_pos hl];rfl
   ·have:((xs.length:Int)==(500:Int))=false:=by simp;omega
    rw[this,cond_false,if_neg hl]
    have e1:bb N0 xs=some xs:=by
     unfold bb
     have:aO (([]:List ab).length+xs.length)=true:=by
      unfold aO
      simp
      omega
     rw[this];rfl
    rw[e1,Option.bind_some]
    have:aO (xs.length+[(k.1,(k.2.1,k.2.2))].length)=true:=Gs hx
    rw[this,cond_true];rfl
theorem jR{xs:List ab}(hp:aF xs=true) (kd a b:Int):bk N0 (xs,kd,a,b)=some (lu xs (jh xs kd a b)):=by
 unfold bk jh Ue mn mx
 dsimp only
 cases hk:(kd==(8:Int))with
 |true =>
  rw[cond_true,cond_true]
  by_cases hab:a>b
  ·rw[decide_eq_true hab,cond_true,if_pos (by omega:b<a),if_neg (by omega:¬b>a)]
   exact Bw hp (kd,b,a)
  ·rw[decide_eq_false hab,cond_false,if_neg (by omega:¬b<a)]
   have:(if b>a then b else a)=b:=by split<;>omega
   rw[this]
   exact Bw hp (kd,a,b)
 |false=>rw[cond_false,cond_false];exact Bw hp (kd,a,b)
theorem lK{xs:List ab}(hp:aF xs=true) (c:Int):cf N0 (xs,c)=some (lu xs (jh xs 1 c 0)):=by
 unfold cf
 dsimp only
 rw[jR hp];rfl
def p9 (xs:List ab) (a e:Int):Option (List ab×Int) :=
 bif ci xs a then(bif ci xs e then(bif (xs.getD a.toNat dN).1==7 then jh xs 8 e (xs.getD a.toNat dN).2.1 else none)else none)else none
theorem rL{xs:List ab}{a:Int}(h:ci xs a=true):aI a xs.length=true:=by
 unfold ci at h
 rw[Bool.and_eq_true,decide_eq_true_iff,decide_eq_true_iff]at h
 have e:a=((a.toNat:Nat):Int):=by omega
 rw[e]
 exact ar (by omega)
theorem FA{xs:List ab}(hx:xs.length≤500) (a e:Int):fA N0 (xs,a,e)=some (lu xs (p9 xs a e)):=by
 unfold fA p9
 dsimp only
 rw[Ch (by omega),Option.bind_some]
 dsimp only
 cases ha:ci xs a with
 |false=>rfl
 |true =>
  rw[Bool.not_true,cond_false,cond_true,Ch (by omega),Option.bind_some]
  dsimp only
  cases ci xs e with
  |false=>rfl
  |true =>
   rw[Bool.not_true,cond_false,cond_true,rL ha,cond_true,cond_true]
   show(cond (!((xs.getD a.toNat dN).1==(7:Int))) _ _)=_
   cases((xs.getD a.toNat dN).1==(7:Int))with
   |false=>rfl
   |true =>
    rw[Bool.not_true,cond_false,cond_true,sZ hx];rfl
theorem xp{xs:List ab}(hp:aF xs=true) (a e:Int):eR N0 (xs,a,e)=some (lu xs (p9 xs a e)):=by
 have hx:=aX hp
 unfold eR p9
 dsimp only
 rw[zn N0 (by omega),Option.bind_some]
 cases ha:ci xs a with
 |false=>rfl
 |true =>
  rw[Bool.not_true,cond_false,cond_true,zn N0 (by omega),Option.bind_some]
  cases ci xs e with
  |false=>rfl
  |true =>
   rw[Bool.not_true,cond_false,cond_true,rL ha,cond_true,cond_true]
   show(cond (!((xs.getD a.toNat dN).1==(7:Int))) _ _)=_
   cases((xs.getD a.toNat dN).1==(7:Int))with
   |false=>rfl
   |true =>
    rw[Bool.not_true,cond_false,cond_true,jR hp];rfl
inductive py where
 |name (c:Int)
 |var (i:Int)
 |ask (i:Int)
 |un (k:Int) (p:py)
 |bin (k:Int) (p q:py)
 |exp (p q:py)
def py.asks:py→Bool
 | .ask _=>true
 | .un _ p=>p.asks
 | .bin _ p q=>p.asks || q.asks
 | .exp p q=>p.asks || q.asks
 |_=>false
def mk (env:List Int):py→List ab→Option (List ab×Int)
 | .name c,xs=>jh xs 1 c 0
 | .var i,xs=>bif decide (env.getD i.toNat 0<0)then none else some (xs,env.getD i.toNat 0)
 | .ask _,xs=>none
 | .un k p,xs=>(mk env p xs).bind fun r=>jh r.1 k r.2 0
 | .bin k p q,xs=>(mk env p xs).bind fun r=>(mk env q r.1).bind fun s=>jh s.1 k r.2 s.2
 | .exp p q,xs=>(mk env p xs).bind fun r=>(mk env q r.1).bind fun s=>p9 s.1 s.2 r.2
theorem sQ{env:List Int}:∀{p:py}(xs:List ab),p.asks=true→mk env p xs=none
 | .name c,xs,h=>by cases h
 | .var i,xs,h=>by cases h
 | .ask _,xs,_=>rfl
 | .un k p,xs,h=>by
  show(mk env p xs).bind _=none
  rw[sQ xs (show p.asks=true from h)];rfl
 | .bin k p q,xs,h=>by
  have h:(p.asks || q.asks)=true:=h
  show(mk env p xs).bind _=none
  cases hp:p.asks with
  |true=>rw[sQ xs hp];rfl
  |false =>
   rw[hp,Bool.false_or]at h
   cases mk env p xs with
   |none=>rfl
   |some r=>show(mk env q r.1).bind _=none;rw[sQ r.1 h];rfl
 | .exp p q,xs,h=>by
  have h:(p.asks || q.asks)=true:=h
  show(mk env p xs).bind _=none
  cases hp:p.asks with
  |true=>rw[sQ xs hp];rfl
  |false =>
   rw[hp,Bool.false_or]at h
   cases mk env p xs with
   |none=>rfl
   |some r=>show(mk env q r.1).bind _=none;rw[sQ r.1 h];rfl
def ED (xs ys:List ab) (t:Int):Prop:=aF ys=true∧0≤t∧(∃zs,ys=xs++zs)
theorem fD{xs ys:List ab}{kd a b t:Int}(hp:aF xs=true) (h:jh xs kd a b=some (ys,t)):ED xs ys t∧t<(ys.length:Int):=by
 obtain⟨h1,h2,h3,h4,_⟩:=Nu hp h
 exact⟨⟨h1,h2,h4⟩,h3⟩
theorem ED.trans{xs ys zs:List ab}{t u:Int}(h1:ED xs ys t) (h2:ED ys zs u):ED xs zs u:=by
 obtain⟨a1,a2,v,rfl⟩:=h1
 obtain⟨b1,b2,w,rfl⟩:=h2
 exact⟨b1,b2,v++w,by rw[List.append_assoc]⟩
theorem sI{xs ys:List ab}{a e t:Int}(h:p9 xs a e=some (ys,t)):jh xs 8 e (xs.getD a.toNat dN).2.1=some (ys,t):=by
 unfold p9 at h
 cases h1:ci xs a with
 |false=>rw[h1]at h;cases h
 |true =>
  cases h2:ci xs e with
  |false=>rw[h1,h2]at h;cases h
  |true =>
   cases h3:((xs.getD a.toNat dN).1==7)with
   |false=>rw[h1,h2,h3]at h;cases h
   |true=>rw[h1,h2,h3]at h;exact h
theorem dq{env:List Int}:∀{p:py}{xs ys:List ab}{t:Int},aF xs=true→mk env p xs=some (ys,t)→ED xs ys t
 | .name c,xs,ys,t,hp,h=>(fD hp h).1
 | .var i,xs,ys,t,hp,h=>by
  have h:(bif decide (env.getD i.toNat 0<0)then none else some (xs,env.getD i.toNat 0))=some (ys,t):=h
  by_cases hn:env.getD i.toNat 0<0
  ·rw[decide_eq_true hn]at h;cases h
  ·rw[decide_eq_false hn]at h
   obtain⟨rfl,rfl⟩:=Prod.mk.inj (Option.some.inj h)
   exact⟨hp,by omega,[],by simp⟩
 | .ask _,xs,ys,t,hp,h=>by cases h
 | .un k p,xs,ys,t,hp,h=>by
  obtain⟨r,h1,h2⟩:=Option.bind_eq_some_iff.1 (show(mk env p xs).bind _=some (ys,t)from h)
  have g1:=dq hp (show mk env p xs=some (r.1,r.2)from h1)
  exact g1.trans (fD g1.1 h2).1
 | .bin k p q,xs,ys,t,hp,h=>by
  obtain⟨r,h1,h2⟩:=Option.bind_eq_some_iff.1 (show(mk env p xs).bind _=some (ys,t)from h)
  have g1:=dq hp (show mk env p xs=some (r.1,r.2)from h1)
  obtain⟨s,h3,h4⟩:=Option.bind_eq_some_iff.1 h2
  have g2:=dq g1.1 (show mk env q r.1=some (s.1,s.2)from h3)
  exact(g1.trans g2).trans (fD g2.1 h4).1
 | .exp p q,xs,ys,t,hp,h=>by
  obtain⟨r,h1,h2⟩:=Option.bind_eq_some_iff.1 (show(mk env p xs).bind _=some (ys,t)from h)
  have g1:=dq hp (show mk env p xs=some (r.1,r.2)from h1)
  obtain⟨s,h3,h4⟩:=Option.bind_eq_some_iff.1 h2
  have g2:=dq g1.1 (show mk env q r.1=some (s.1,s.2)from h3)
  exact(g1.trans g2).trans (fD g2.1 (sI h4)).1
abbrev eF:=Int×(Int×List Int)
abbrev gV:=Int×(Int×(Int×Bool))
abbrev zP:eF:=((0:Int),((0:Int),[]))
abbrev zS:gV:=((0:Int),((0:Int),((0:Int),false)))
def tE (s:Int):Int:=if s=40 then 2 else if s=123 then 3 else if s=91 then 4 else if s=35 then 5 else if s=107 then 6 else if s=94 then 7 else if s=42 then 8 else 0
def La (x:eF) (y:gV):Option py :=
 bif x.1==110 then(bif y.1==1&&(x.2.1==y.2.1 && !y.2.2.2)then some (.name x.2.1)else none)
 else bif x.1==36 then(bif (y.1==9&&(x.2.1==y.2.1 && !y.2.2.2))&&(decide (0≤x.2.1)&&decide (x.2.1<26))then some (.var x.2.1)else none)
 else bif x.1==63 then(bif (y.1==9&&(x.2.1==y.2.1&&y.2.2.2))&&(decide (0≤x.2.1)&&decide (x.2.1<26))then some (.ask x.2.1)else none)
 else none
def zh (s:Int):Bool:=s==110 || (s==36 || s==63)
def JI (x:eF) (y:gV) (P:py):Option py :=
 bif !zh x.1&&(!(x.1==120)&&((tE x.1==y.1)&&((y.1==5 || y.1==7)&&(y.2.2.2==P.asks))))then some (.un y.1 P)else none
def Qn (x:eF) (y:gV) (P Q:py):Option py :=
 bif !zh x.1&&(y.2.2.2==(P.asks || Q.asks))then(bif x.1==120 then(bif y.1==10 then some (.exp P Q)else none)else(bif (tE x.1==y.1)&&(y.1==2 || (y.1==3 || (y.1==4 || (y.1==6 || y.1==8))))then some (.bin y.1 P Q)else none))else none
def pK (l1:List eF) (l2:List gV):Nat→Int→Int→Option py
 |0,_,_=>none
 |k+1,a,b=>bif aI a l1.length&&aI b l2.length then(match(l1.getD a.toNat zP).2.2 with
   |[]=>La (l1.getD a.toNat zP) (l2.getD b.toNat zS)
   |[p]=>(pK l1 l2 k p (l2.getD b.toNat zS).2.1).bind fun P=>JI (l1.getD a.toNat zP) (l2.getD b.toNat zS) P
   |[p,q]=>(pK l1 l2 k p (l2.getD b.toNat zS).2.1).bind fun P=>(pK l1 l2 k q (l2.getD b.toNat zS).2.2.1).bind fun Q=>Qn (l1.getD a.toNat zP) (l2.getD b.toNat zS) P Q
   |_=>none)else none
theorem ox{x:eF}{y:gV}{P:py}(h:La x y=some P) :
  ((x.1==110)=true∧y.1=1∧y.2.1=x.2.1∧y.2.2.2=false∧P = .name x.2.1) ∨
  ((x.1==110)=false∧(x.1==36)=true∧y.1=9∧y.2.1=x.2.1∧y.2.2.2=false∧0≤x.2.1∧x.2.1<26∧P = .var x.2.1) ∨
  ((x.1==110)=false∧(x.1==36)=false∧(x.1==63)=true∧y.1=9∧y.2.1=x.2.1∧y.2.2.2=true∧0≤x.2.1∧x.2.1<26∧P = .ask x.2.1):=by
 unfold La at h
 cases h1:(x.1==110)with
 |true =>
  rw[h1,cond_true]at h
  cases hc:(y.1==1&&(x.2.1==y.2.1 && !y.2.2.2))with
  |false=>rw[hc]at h;cases h
  |true =>
   rw[hc]at h
   simp only[Bool.and_eq_true,beq_iff_eq,Bool.not_eq_true']at hc
   exact .inl ⟨rfl,hc.1,hc.2.1.symm,hc.2.2,(Option.some.inj h).symm⟩
 |false =>
  rw[h1,cond_false]at h
  cases h2:(x.1==36)with
  |true =>
   rw[h2,cond_true]at h
   cases hc:((y.1==9&&(x.2.1==y.2.1 && !y.2.2.2))&&(decide (0≤x.2.1)&&decide (x.2.1<26)))with
   |false=>rw[hc]at h;cases h
   |true =>
    rw[hc]at h
    simp only[Bool.and_eq_true,beq_iff_eq,Bool.not_eq_true',decide_eq_true_iff]at hc
    exact .inr (.inl ⟨rfl,rfl,hc.1.1,hc.1.2.1.symm,hc.1.2.2,hc.2.1,hc.2.2,(Option.some.inj h).symm⟩)
  |false =>
   rw[h2,cond_false]at h
   cases h3:(x.1==63)with
   |false=>rw[h3]at h;cases h
   |true =>
    rw[h3,cond_true]at h
    cases hc:((y.1==9&&(x.2.1==y.2.1&&y.2.2.2))&&(decide (0≤x.2.1)&&decide (x.2.1<26)))with
    |false=>rw[hc]at h;cases h
    |true =>
     rw[hc]at h
     simp only[Bool.and_eq_true,beq_iff_eq,decide_eq_true_iff]at hc
     exact .inr (.inr ⟨rfl,rfl,rfl,hc.1.1,hc.1.2.1.symm,hc.1.2.2,hc.2.1,hc.2.2,(Option.some.inj h).symm⟩)
theorem Ea{s:Int}(h:(!zh s)=true):(s==110)=false∧(s==36)=false∧(s==63)=false:=by
 unfold zh at h
 simpa using h
theorem nA{x:eF}{y:gV}{P R:py}(h:JI x y P=some R) :
  ((x.1==110)=false∧(x.1==36)=false∧(x.1==63)=false)∧(x.1==120)=false∧tE x.1=y.1∧(y.1=5∨y.1=7)∧y.2.2.2=P.asks∧R = .un y.1 P:=by
 unfold JI at h
 cases hc:(!zh x.1&&(!(x.1==120)&&((tE x.1==y.1)&&((y.1==5 || y.1==7)&&(y.2.2.2==P.asks)))))with
 |false=>rw[hc]at h;cases h
 |true =>
  rw[hc]at h
  rw[Bool.and_eq_true]at hc
  have h2:=hc.2
  simp only[Bool.and_eq_true,Bool.not_eq_true',beq_iff_eq,Bool.or_eq_true]at h2
  exact⟨Ea hc.1,h2.1,h2.2.1,h2.2.2.1,h2.2.2.2,(Option.some.inj h).symm⟩
theorem pV{x:eF}{y:gV}{P Q R:py}(h:Qn x y P Q=some R) :
  ((x.1==110)=false∧(x.1==36)=false∧(x.1==63)=false)∧y.2.2.2=(P.asks || Q.asks) ∧
  (((x.1==120)=true∧y.1=10∧R = .exp P Q)∨((x.1==120)=false∧tE x.1=y.1∧(y.1=2∨y.1=3∨y.1=4∨y.1=6∨y.1=8)∧R = .bin y.1 P Q)):=by
 unfold Qn at h
 cases hc:(!zh x.1&&(y.2.2.2==(P.asks || Q.asks)))with
 |false=>rw[hc]at h;cases h
 |true =>
  rw[hc,cond_true]at h
  rw[Bool.and_eq_true]at hc
  refine⟨Ea hc.1,by simpa using hc.2,?_⟩
  cases h1:(x.1==120)with
  |true =>
   rw[h1,cond_true]at h
   cases h2:(y.1==10)with
   |false=>rw[h2]at h;cases h
   |true=>rw[h2]at h;exact .inl ⟨rfl,by simpa using h2,(Option.some.inj h).symm⟩
  |false =>
   rw[h1,cond_false]at h
   cases h2:((tE x.1==y.1)&&(y.1==2 || (y.1==3 || (y.1==4 || (y.1==6 || y.1==8)))))with
   |false=>rw[h2]at h;cases h
   |true =>
    rw[h2]at h
    simp only[Bool.and_eq_true,beq_iff_eq,Bool.or_eq_true]at h2
    exact .inr ⟨rfl,h2.1,h2.2,(Option.some.inj h).symm⟩
theorem D7 (n:Nat){s:Int}(h:tE s≠0):lQ n s=some (tE s):=by
 unfold lQ tE
 unfold tE at h
 by_cases h1:s=40
 ·subst h1;rfl
 by_cases h2:s=123
 ·subst h2;rfl
 by_cases h3:s=91
 ·subst h3;rfl
 by_cases h4:s=35
 ·subst h4;rfl
 by_cases h5:s=107
 ·subst h5;rfl
 by_cases h6:s=94
 ·subst h6;rfl
 by_cases h7:s=42
 ·subst h7;rfl
 ·rw[if_neg h1,if_neg h2,if_neg h3,if_neg h4,if_neg h5,if_neg h6,if_neg h7]at h
  exact absurd rfl h
abbrev Z6:=List eF×List ab×List Int×Int
abbrev P5:=List eF×List ab×Int
theorem JV (n:Nat) (rec_:Z6→Option P5) (m:Nat) (l:List eF) (xs:List ab) (env:List Int) (s c:Int) (ps:List Int) (u v p:Int) :
  aU n rec_ (m+2) (l,xs,env,s,c,ps,u,v,[p],(1:Int),(0:Int))=(rec_ (l,xs,env,p)).bind fun r2=>cond (decide (r2.2.2<(0:Int))) (some (Sum.inl (r2.1,r2.2.1,(-1:Int)))) (some (Sum.inr (r2.1,r2.2.1,s,c,ps,r2.2.2,v))):=by kernel_rfl
theorem JU (n:Nat) (rec_:Z6→Option P5) (m:Nat) (l:List eF) (xs:List ab) (env:List Int) (s c:Int) (ps:List Int) (u v p q:Int) :
  aU n rec_ (m+3) (l,xs,env,s,c,ps,u,v,[p,q],(2:Int),(0:Int))=(rec_ (l,xs,env,p)).bind fun r2=>cond (decide (r2.2.2<(0:Int))) (some (Sum.inl (r2.1,r2.2.1,(-1:Int)))) ((rec_ (r2.1,r2.2.1,env,q)).bind fun r3=>cond (decide (r3.2.2<(0:Int))) (some (Sum.inl (r3.1,r3.2.1,(-1:Int)))) (some (Sum.inr (r3.1,r3.2.1,s,c,ps,r2.2.2,r3.2.2)))):=by kernel_rfl
def P6 (l:List eF) (res:Option P5) (m:Option (List ab×Int)):Prop:=∃ys t,res=some (l,ys,t)∧(match m with
 |some s=>(ys,t)=s
 |none=>t<0)
theorem vq{l:List eF}{xs:List ab}{m:Option (List ab×Int)}(h:∀r,m=some r→0≤r.2):P6 l (some (l,(lu xs m).1,(lu xs m).2)) m:=by
 refine⟨_,_,rfl,?_⟩
 cases m with
 |none=>show(-1:Int)<0;omega
 |some s=>rfl
theorem vF{xs:List ab}{kd a b:Int}(hp:aF xs=true):∀r,jh xs kd a b=some r→0≤r.2:=fun r h=>(fD hp (show _=some (r.1,r.2)from h)).1.2.1
theorem Dw{xs:List ab}{a e:Int}(hp:aF xs=true):∀r,p9 xs a e=some r→0≤r.2:=fun r h=>(fD hp (sI (show _=some (r.1,r.2)from h))).1.2.1
theorem pR{l1:List eF}{l2:List gV}{k:Nat}{a b:Int}{P:py}(h:pK l1 l2 (k+1) a b=some P) :
    aI a l1.length=true∧aI b l2.length=true ∧
    (((l1.getD a.toNat zP).2.2=[]∧La (l1.getD a.toNat zP) (l2.getD b.toNat zS)=some P) ∨
     (∃p Q,(l1.getD a.toNat zP).2.2=[p]∧pK l1 l2 k p (l2.getD b.toNat zS).2.1=some Q∧JI (l1.getD a.toNat zP) (l2.getD b.toNat zS) Q=some P) ∨
     (∃p q Q R,(l1.getD a.toNat zP).2.2=[p,q]∧pK l1 l2 k p (l2.getD b.toNat zS).2.1=some Q∧pK l1 l2 k q (l2.getD b.toNat zS).2.2.1=some R∧Qn (l1.getD a.toNat zP) (l2.getD b.toNat zS) Q R=some P)):=by
  unfold pK at h
  cases hb:(aI a l1.length&&aI b l2.length)with
  |false=>rw[hb]at h;cases h
  |true =>
    rw[hb,cond_true]at h
    rw[Bool.and_eq_true]at hb
    refine⟨hb.1,hb.2,?_⟩
    split at h
    · rename_i e;exact .inl ⟨e,h⟩
    · rename_i p e
      obtain⟨Q,h1,h2⟩:=Option.bind_eq_some_iff.1 h
      exact .inr (.inl ⟨p,Q,e,h1,h2⟩)
    · rename_i p q e
      obtain⟨Q,h1,h2⟩:=Option.bind_eq_some_iff.1 h
      obtain⟨R,h3,h4⟩:=Option.bind_eq_some_iff.1 h2
      exact .inr (.inr ⟨p,q,Q,R,e,h1,h3,h4⟩)
    · cases h
theorem zW{env:List Int}(he:env.length=26){i:Int}(h0:0≤i) (h1:i<26):aI i env.length=true:=by
 have e:i=((i.toNat:Nat):Int):=by omega
 rw[e]
 exact ar (by omega)
theorem JT{env:List Int}(xs:List ab) (i:Int):(match mk env (.var i) xs with
  |some s=>(xs,env.getD i.toNat 0)=s
  |none=>env.getD i.toNat 0<0):=by
 by_cases hn:env.getD i.toNat 0<0
 ·have:mk env (.var i) xs=none:=by
   show(bif decide (env.getD i.toNat 0<0)then none else some (xs,env.getD i.toNat 0))=none
   rw[decide_eq_true hn];rfl
  rw[this];exact hn
 ·have:mk env (.var i) xs=some (xs,env.getD i.toNat 0):=by
   show(bif decide (env.getD i.toNat 0<0)then none else some (xs,env.getD i.toNat 0))=_
   rw[decide_eq_false hn];rfl
  rw[this]
theorem xV{l1:List eF}{l2:List gV}{env:List Int}(he:env.length=26):∀(k:Nat) (a b:Int) (P:py) (xs:List ab) (j:Nat),pK l1 l2 k a b=some P→k≤j→aF xs=true→P6 l1 (aQ N0 j (l1,xs,env,a)) (mk env P xs)
 |0,a,b,P,xs,j,h,_,_=>by cases h
 |k+1,a,b,P,xs,0,h,hj,_=>by omega
 |k+1,a,b,P,xs,j+1,h,hj,hp=>by
  have hx:=aX hp
  obtain⟨hb,_,hc⟩:=pR h
  have e0:aQ N0 (j+1) (l1,xs,env,a)=cond (aI a l1.length) (cond ((l1.getD a.toNat zP).1==(110:Int)) ((gp N0 (xs,(l1.getD a.toNat zP).2.1)).bind fun r1=>(some (l1,r1.1,r1.2))) (cond ((l1.getD a.toNat zP).1==(36:Int)) (cond (aI (l1.getD a.toNat zP).2.1 env.length) (some (l1,xs,env.getD (l1.getD a.toNat zP).2.1.toNat (0:Int))) none) (cond ((l1.getD a.toNat zP).1==(63:Int)) (some (l1,xs,(-1:Int))) ((aU N0 (aQ N0 j) N0 (l1,xs,env,(l1.getD a.toNat zP).1,(l1.getD a.toNat zP).2.1,(l1.getD a.toNat zP).2.2,(0:Int),(0:Int),(l1.getD a.toNat zP).2.2,((l1.getD a.toNat zP).2.2.length:Int),(0:Int))).bind fun e3=>(match e3 with
   |Sum.inl a4=>(some (a4.1,a4.2.1,a4.2.2))
   |Sum.inr b5=>(cond (b5.2.2.1==(120:Int)) ((fA N0 (b5.2.1,b5.2.2.2.2.2.2,b5.2.2.2.2.2.1)).bind fun r6=>(some (b5.1,r6.1,r6.2))) ((eD N0 (aQ N0 j) (b5.1,b5.2.1,b5.2.2.1,b5.2.2.2.1,b5.2.2.2.2.1,b5.2.2.2.2.2.1,b5.2.2.2.2.2.2)).bind fun g7=>(some (g7.1,g7.2.1,g7.2.2))))))))) none:=by kernel_rfl
  rw[e0,hb,cond_true]
  rcases hc with⟨hps,hl⟩|⟨p,Q,hps,h1,h2⟩|⟨p,q,Q,R,hps,h1,h2,h3⟩
  ·rcases ox hl with⟨c1,_,_,_,rfl⟩|⟨c1,c2,_,_,_,c6,c7,rfl⟩|⟨c1,c2,c3,_,_,_,_,_,rfl⟩
   ·rw[c1,cond_true,Ip hx,Option.bind_some]
    exact vq (vF hp)
   ·rw[c1,c2,cond_false,cond_true,zW he c6 c7,cond_true]
    exact⟨_,_,rfl,JT xs _⟩
   ·rw[c1,c2,c3,cond_false,cond_false,cond_true]
    exact⟨_,_,rfl,by show(-1:Int)<0;omega⟩
  ·obtain⟨⟨c1,c2,c3⟩,c4,c5,c6,c7,rfl⟩:=nA h2
   rw[c1,c2,c3,cond_false,cond_false,cond_false,hps]
   have el:(([p]:List Int).length:Int)=1:=rfl
   rw[el]
   obtain⟨ys,t,g1,g2⟩:=xV he k p _ Q xs j h1 (by omega) hp
   have lp:=JV N0 (aQ N0 j) 999999999999999999999999999998 l1 xs env (l1.getD a.toNat zP).1 (l1.getD a.toNat zP).2.1 [p] 0 0 p
   rw[show(999999999999999999999999999998+2:Nat)=N0 from by kernel_rfl,g1,Option.bind_some]at lp
   rw[lp]
   dsimp only
   show P6 l1 _ ((mk env Q xs).bind fun r=>jh r.1 (l2.getD b.toNat zS).1 r.2 0)
   cases hm:mk env Q xs with
   |none =>
    rw[hm]at g2
    have g2:t<0:=g2
    rw[decide_eq_true g2,cond_true]
    exact⟨ys, -1,rfl,by show(-1:Int)<0;omega⟩
   |some s =>
    rw[hm]at g2
    have g2:(ys,t)=s:=g2
    subst g2
    have gr:=dq hp hm
    rw[decide_eq_false (by have:=gr.2.1;omega),cond_false,Option.bind_some,Option.bind_some]
    dsimp only
    have hk0:tE (l1.getD a.toNat zP).1≠0:=by rw[c5];omega
    rw[c4,cond_false]
    unfold eD
    dsimp only
    rw[D7 N0 hk0,Option.bind_some,sZ (aX gr.1),Option.bind_some,Option.bind_some,c5]
    exact vq (vF gr.1)
  ·obtain⟨⟨c1,c2,c3⟩,c4,c5⟩:=pV h3
   rw[c1,c2,c3,cond_false,cond_false,cond_false,hps]
   have el:(([p,q]:List Int).length:Int)=2:=rfl
   rw[el]
   obtain⟨ys,t,g1,g2⟩:=xV he k p _ Q xs j h1 (by omega) hp
   have lp:=JU N0 (aQ N0 j) 999999999999999999999999999997 l1 xs env (l1.getD a.toNat zP).1 (l1.getD a.toNat zP).2.1 [p,q] 0 0 p q
   rw[show(999999999999999999999999999997+3:Nat)=N0 from by kernel_rfl,g1,Option.bind_some]at lp
   rw[lp]
   dsimp only
   have hmk:∀u:Nat,(mk env Q xs=none→mk env P xs=none)∧(∀s,mk env Q xs=some s→mk env R s.1=none→mk env P xs=none):=by
    intro u
    rcases c5 with⟨_,_,rfl⟩|⟨_,_,_,rfl⟩
    ·exact⟨fun e=>by show(mk env Q xs).bind _=none;rw[e];rfl,fun s e1 e2=>by show(mk env Q xs).bind _=none;rw[e1];show(mk env R s.1).bind _=none;rw[e2];rfl⟩
    ·exact⟨fun e=>by show(mk env Q xs).bind _=none;rw[e];rfl,fun s e1 e2=>by show(mk env Q xs).bind _=none;rw[e1];show(mk env R s.1).bind _=none;rw[e2];rfl⟩
   cases hm:mk env Q xs with
   |none =>
    rw[hm]at g2
    have g2:t<0:=g2
    rw[decide_eq_true g2,cond_true,(hmk 0).1 hm]
    exact⟨ys, -1,rfl,by show(-1:Int)<0;omega⟩
   |some s =>
    rw[hm]at g2
    have g2:(ys,t)=s:=g2
    subst g2
    have gr:=dq hp hm
    obtain⟨zs,u,g3,g4⟩:=xV he k q _ R ys j h2 (by omega) gr.1
    rw[decide_eq_false (by have:=gr.2.1;omega),cond_false,g3,Option.bind_some]
    dsimp only
    cases hm2:mk env R ys with
    |none =>
     rw[hm2]at g4
     have g4:u<0:=g4
     rw[decide_eq_true g4,cond_true,(hmk 0).2 _ hm hm2]
     exact⟨zs, -1,rfl,by show(-1:Int)<0;omega⟩
    |some s2 =>
     rw[hm2]at g4
     have g4:(zs,u)=s2:=g4
     subst g4
     have gr2:=dq gr.1 hm2
     rw[decide_eq_false (by have:=gr2.2.1;omega),cond_false,Option.bind_some]
     dsimp only
     rcases c5 with⟨d1,d2,rfl⟩|⟨d1,d2,d3,rfl⟩
     ·rw[d1,cond_true,FA (aX gr2.1),Option.bind_some]
      have e:mk env (.exp Q R) xs=p9 zs u t:=by
       show(mk env Q xs).bind _=_
       rw[hm]
       show(mk env R ys).bind _=_
       rw[hm2];rfl
      rw[e]
      exact vq (Dw gr2.1)
     ·have hk0:tE (l1.getD a.toNat zP).1≠0:=by rw[d2];omega
      rw[d1,cond_false]
      unfold eD
      dsimp only
      rw[D7 N0 hk0,Option.bind_some,sZ (aX gr2.1),Option.bind_some,Option.bind_some,d2]
      have e:mk env (.bin (l2.getD b.toNat zS).1 Q R) xs=jh zs (l2.getD b.toNat zS).1 t u:=by
       show(mk env Q xs).bind _=_
       rw[hm]
       show(mk env R ys).bind _=_
       rw[hm2];rfl
      rw[e]
      exact vq (vF gr2.1)
abbrev SX:=List eF×Int×Int
abbrev P8:=List eF×Bool
theorem M5 (n:Nat) (rec_:SX→Option P8) (m:Nat) (l:List eF) (s c v p:Int) (ps:List Int) :
  bP n rec_ (m+2) (l,v,s,c,ps,[p],(1:Int),(0:Int))=(rec_ (l,p,v)).bind fun r1=>cond r1.2 (some (Sum.inl (r1.1,true))) (some (Sum.inr (r1.1,v,s,c,ps))):=by kernel_rfl
theorem M4 (n:Nat) (rec_:SX→Option P8) (m:Nat) (l:List eF) (s c v p q:Int) (ps:List Int) :
  bP n rec_ (m+3) (l,v,s,c,ps,[p,q],(2:Int),(0:Int))=(rec_ (l,p,v)).bind fun r1=>cond r1.2 (some (Sum.inl (r1.1,true))) ((rec_ (r1.1,q,v)).bind fun r2=>cond r2.2 (some (Sum.inl (r2.1,true))) (some (Sum.inr (r2.1,v,s,c,ps)))):=by kernel_rfl
theorem Bg{l1:List eF}{l2:List gV}:∀(k:Nat) (a b:Int) (P:py) (j:Nat),pK l1 l2 k a b=some P→k≤j→aS N0 j (l1,a,(63:Int))=some (l1,P.asks)
 |0,a,b,P,j,h,_=>by cases h
 |k+1,a,b,P,0,h,hj=>by omega
 |k+1,a,b,P,j+1,h,hj=>by
  obtain⟨hb,_,hc⟩:=pR h
  have e0:aS N0 (j+1) (l1,a,(63:Int))=cond (aI a l1.length) ((bP N0 (aS N0 j) N0 (l1,(63:Int),(l1.getD a.toNat zP).1,(l1.getD a.toNat zP).2.1,(l1.getD a.toNat zP).2.2,(l1.getD a.toNat zP).2.2,((l1.getD a.toNat zP).2.2.length:Int),(0:Int))).bind fun e2=>(match e2 with
   |Sum.inl a3=>(some (a3.1,a3.2))
   |Sum.inr b4=>(some (b4.1,(b4.2.2.1==b4.2.1))))) none:=rfl
  rw[e0,hb,cond_true]
  rcases hc with⟨hps,hl⟩|⟨p,Q,hps,h1,h2⟩|⟨p,q,Q,R,hps,h1,h2,h3⟩
  ·rw[hps]
   have lp:bP N0 (aS N0 j) N0 (l1,(63:Int),(l1.getD a.toNat zP).1,(l1.getD a.toNat zP).2.1,[],[],(([]:List Int).length:Int),(0:Int))=some (Sum.inr (l1,(63:Int),(l1.getD a.toNat zP).1,(l1.getD a.toNat zP).2.1,[])):=by
    rw[show N0=999999999999999999999999999999+1 from by kernel_rfl];rfl
   rw[lp,Option.bind_some]
   show some (l1,((l1.getD a.toNat zP).1==(63:Int)))=_
   rcases ox hl with⟨c1,_,_,_,rfl⟩|⟨c1,c2,_,_,_,c6,c7,rfl⟩|⟨c1,c2,c3,_,_,_,_,_,rfl⟩
   ·have:(l1.getD a.toNat zP).1=110:=by simpa using c1
    rw[this];rfl
   ·have:(l1.getD a.toNat zP).1=36:=by simpa using c2
    rw[this];rfl
   ·rw[c3];rfl
  ·obtain⟨⟨c1,c2,c3⟩,c4,c5,c6,c7,rfl⟩:=nA h2
   rw[hps]
   have lp:=M5 N0 (aS N0 j) 999999999999999999999999999998 l1 (l1.getD a.toNat zP).1 (l1.getD a.toNat zP).2.1 63 p [p]
   rw[show(999999999999999999999999999998+2:Nat)=N0 from by kernel_rfl,Bg k p _ Q j h1 (by omega),Option.bind_some]at lp
   have el:(([p]:List Int).length:Int)=1:=rfl
   rw[el,lp]
   show(cond Q.asks (some (Sum.inl (l1,true))) (some (Sum.inr (l1,(63:Int),(l1.getD a.toNat zP).1,(l1.getD a.toNat zP).2.1,[p])))).bind _=some (l1,Q.asks)
   cases Q.asks with
   |true=>rfl
   |false=>rw[cond_false,Option.bind_some];dsimp only;rw[c3]
  ·obtain⟨⟨c1,c2,c3⟩,c4,c5⟩:=pV h3
   rw[hps]
   have lp:=M4 N0 (aS N0 j) 999999999999999999999999999997 l1 (l1.getD a.toNat zP).1 (l1.getD a.toNat zP).2.1 63 p q [p,q]
   rw[show(999999999999999999999999999997+3:Nat)=N0 from by kernel_rfl,Bg k p _ Q j h1 (by omega),Option.bind_some]at lp
   dsimp only at lp
   rw[Bg k q _ R j h2 (by omega),Option.bind_some]at lp
   have el:(([p,q]:List Int).length:Int)=2:=rfl
   rw[el,lp]
   have ha:P.asks=(Q.asks || R.asks):=by
    rcases c5 with⟨_,_,rfl⟩|⟨_,_,_,rfl⟩<;>rfl
   rw[ha]
   cases Q.asks with
   |true=>rfl
   |false =>
    rw[cond_false]
    cases R.asks with
    |true=>rfl
    |false=>rw[cond_false,Option.bind_some];dsimp only;rw[c3];rfl
abbrev PI:=List ab×Int
def wk (res:Option PI) (m:Option (List ab×Int)):Prop:=∃ys t,res=some (ys,t)∧(match m with
 |some s=>(ys,t)=s
 |none=>t=-1)
theorem vp{xs:List ab}{m:Option (List ab×Int)}(h:∀r,m=some r→0≤r.2):wk (some ((lu xs m).1,(lu xs m).2)) m:=by
 refine⟨_,_,rfl,?_⟩
 cases m with
 |none=>rfl
 |some s=>rfl
theorem QZ{env:List Int}(hv:∀i:Nat,env.getD i 0<0→env.getD i 0=-1) (xs:List ab) (i:Int):(match mk env (.var i) xs with
  |some s=>(xs,env.getD i.toNat 0)=s
  |none=>env.getD i.toNat 0=-1):=by
 have h:=JT (env:=env) xs i
 cases q:mk env (.var i) xs with
 |none=>rw[q]at h;exact hv _ h
 |some s=>rw[q]at h;exact h
theorem GK (n:Nat) (y:gV):ct n (y.1,y.2.1,y.2.2.1,y.2.2.2)=cond (y.1==(9:Int)) (some (0:Int)) (cond (y.1==(10:Int)) (some (2:Int)) ((gH n y.1).bind fun r1=>(some r1))):=rfl
theorem uf{l1:List eF}{l2:List gV}{env:List Int}(he:env.length=26) (hv:∀i:Nat,env.getD i 0<0→env.getD i 0=-1):∀(k:Nat) (a b:Int) (P:py) (xs:List ab) (j:Nat),pK l1 l2 k a b=some P→k≤j→aF xs=true→wk (cB N0 j (xs,env,l2,b)) (mk env P xs)
 |0,a,b,P,xs,j,h,_,_=>by cases h
 |k+1,a,b,P,xs,0,h,hj,_=>by omega
 |k+1,a,b,P,xs,j+1,h,hj,hp=>by
  have hx:=aX hp
  obtain⟨_,hb,hc⟩:=pR h
  have e0:cB N0 (j+1) (xs,env,l2,b)=cond (aI b l2.length) (cond (l2.getD b.toNat zS).2.2.2 (some (xs,(-1:Int))) (cond ((l2.getD b.toNat zS).1==(9:Int)) ((gC N0 (cB N0 j) (env,xs,[],(l2.getD b.toNat zS).1,(l2.getD b.toNat zS).2.1,(l2.getD b.toNat zS).2.2.1,(l2.getD b.toNat zS).2.2.2)).bind fun g1=>(some (g1.1,g1.2))) (cond ((l2.getD b.toNat zS).1==(1:Int)) ((cf N0 (xs,(l2.getD b.toNat zS).2.1)).bind fun r2=>(some (r2.1,r2.2))) ((cB N0 j (xs,env,l2,(l2.getD b.toNat zS).2.1)).bind fun r3=>(cond (decide (r3.2<(0:Int))) (some (xs,(-1:Int))) ((ct N0 ((l2.getD b.toNat zS).1,(l2.getD b.toNat zS).2.1,(l2.getD b.toNat zS).2.2.1,(l2.getD b.toNat zS).2.2.2)).bind fun r4=>(cond (r4==(1:Int)) ((bk N0 (r3.1,(l2.getD b.toNat zS).1,r3.2,(0:Int))).bind fun r5=>(some (r5.1,r5.2))) ((cB N0 j (r3.1,env,l2,(l2.getD b.toNat zS).2.2.1)).bind fun r6=>(cond (decide (r6.2<(0:Int))) (some (xs,(-1:Int))) (cond ((l2.getD b.toNat zS).1==(10:Int)) ((eR N0 (r6.1,r6.2,r3.2)).bind fun r7=>(some (r7.1,r7.2))) ((bk N0 (r6.1,(l2.getD b.toNat zS).1,r3.2,r6.2)).bind fun r8=>(some (r8.1,r8.2))))))))))))) none:=rfl
  rw[e0,hb,cond_true]
  have fin2:∀(z:Option PI),(l2.getD b.toNat zS).2.2.2=P.asks→(P.asks=false→wk z (mk env P xs))→wk (cond (l2.getD b.toNat zS).2.2.2 (some (xs,(-1:Int))) z) (mk env P xs):=fun z q1 q2=>by
   rw[q1]
   cases hA:P.asks with
   |true =>
    rw[cond_true,sQ xs hA]
    exact⟨xs, -1,rfl,rfl⟩
   |false=>rw[cond_false];exact q2 hA
  rcases hc with⟨hps,hl⟩|⟨p,Q,hps,h1,h2⟩|⟨p,q,Q,R,hps,h1,h2,h3⟩
  ·rcases ox hl with⟨c1,c2,c3,c4,rfl⟩|⟨_,c1,c2,c3,c4,c6,c7,rfl⟩|⟨_,_,c1,c2,c3,c4,c6,c7,rfl⟩
   ·rw[c4,c2,c3,cond_false]
    show wk ((cf N0 (xs,(l1.getD a.toNat zP).2.1)).bind fun r2=>(some (r2.1,r2.2))) _
    rw[lK hp,Option.bind_some]
    exact vp (vF hp)
   ·rw[c4,c2,c3,cond_false]
    show wk ((gC N0 (cB N0 j) (env,xs,[],_,(l1.getD a.toNat zP).2.1,_,_)).bind fun g1=>(some (g1.1,g1.2))) _
    unfold gC
    dsimp only
    rw[zW he c6 c7,cond_true,Option.bind_some]
    exact⟨_,_,rfl,QZ hv xs _⟩
   ·rw[c4,cond_true]
    exact⟨xs, -1,rfl,rfl⟩
  ·obtain⟨_,c4,c5,c6,c7,rfl⟩:=nA h2
   refine fin2 _ c7 fun hA=>?_
   have n9:((l2.getD b.toNat zS).1==(9:Int))=false:=by rw[beq_eq_false_iff_ne];omega
   have n1:((l2.getD b.toNat zS).1==(1:Int))=false:=by rw[beq_eq_false_iff_ne];omega
   have hpt:ct N0 ((l2.getD b.toNat zS).1,(l2.getD b.toNat zS).2.1,(l2.getD b.toNat zS).2.2.1,(l2.getD b.toNat zS).2.2.2)=some 1:=by
    rw[GK]
    rcases c6 with e|e<;>rw[e]<;>rfl
   rw[n9,n1,cond_false,cond_false]
   obtain⟨ys,t,g1,g2⟩:=uf he hv k p _ Q xs j h1 (by omega) hp
   rw[g1,Option.bind_some]
   dsimp only
   show wk _ ((mk env Q xs).bind fun r=>jh r.1 (l2.getD b.toNat zS).1 r.2 0)
   cases hm:mk env Q xs with
   |none =>
    rw[hm]at g2
    have g2:t=-1:=g2
    rw[decide_eq_true (by omega:t<0),cond_true]
    exact⟨xs, -1,rfl,rfl⟩
   |some s =>
    rw[hm]at g2
    have g2:(ys,t)=s:=g2
    subst g2
    have gr:=dq hp hm
    rw[decide_eq_false (by have:=gr.2.1;omega),cond_false,hpt,Option.bind_some,Option.bind_some]
    show wk ((bk N0 (ys,(l2.getD b.toNat zS).1,t,(0:Int))).bind fun r5=>(some (r5.1,r5.2))) _
    rw[jR gr.1,Option.bind_some]
    exact vp (vF gr.1)
  ·obtain⟨_,c4,c5⟩:=pV h3
   have hasks:P.asks=(Q.asks || R.asks):=by
    rcases c5 with⟨_,_,rfl⟩|⟨_,_,_,rfl⟩<;>rfl
   refine fin2 _ (c4.trans hasks.symm) fun hA=>?_
   have n9:((l2.getD b.toNat zS).1==(9:Int))=false:=by
    rw[beq_eq_false_iff_ne]
    rcases c5 with⟨_,e,_⟩|⟨_,_,e,_⟩<;>omega
   have n1:((l2.getD b.toNat zS).1==(1:Int))=false:=by
    rw[beq_eq_false_iff_ne]
    rcases c5 with⟨_,e,_⟩|⟨_,_,e,_⟩<;>omega
   have hpt:ct N0 ((l2.getD b.toNat zS).1,(l2.getD b.toNat zS).2.1,(l2.getD b.toNat zS).2.2.1,(l2.getD b.toNat zS).2.2.2)=some 2:=by
    rw[GK]
    rcases c5 with⟨_,e,_⟩|⟨_,_,e,_⟩
    ·rw[e];rfl
    ·rcases e with e|e|e|e|e<;>rw[e]<;>rfl
   rw[n9,n1,cond_false,cond_false]
   have hmk:(mk env Q xs=none→mk env P xs=none)∧(∀s,mk env Q xs=some s→mk env R s.1=none→mk env P xs=none):=by
    rcases c5 with⟨_,_,rfl⟩|⟨_,_,_,rfl⟩
    ·exact⟨fun e=>by show(mk env Q xs).bind _=none;rw[e];rfl,fun s e1 e2=>by show(mk env Q xs).bind _=none;rw[e1];show(mk env R s.1).bind _=none;rw[e2];rfl⟩
    ·exact⟨fun e=>by show(mk env Q xs).bind _=none;rw[e];rfl,fun s e1 e2=>by show(mk env Q xs).bind _=none;rw[e1];show(mk env R s.1).bind _=none;rw[e2];rfl⟩
   obtain⟨ys,t,g1,g2⟩:=uf he hv k p _ Q xs j h1 (by omega) hp
   rw[g1,Option.bind_some]
   dsimp only
   cases hm:mk env Q xs with
   |none =>
    rw[hm]at g2
    have g2:t=-1:=g2
    rw[decide_eq_true (by omega:t<0),cond_true,hmk.1 hm]
    exact⟨xs, -1,rfl,rfl⟩
   |some s =>
    rw[hm]at g2
    have g2:(ys,t)=s:=g2
    subst g2
    have gr:=dq hp hm
    rw[decide_eq_false (by have:=gr.2.1;omega),cond_false,hpt,Option.bind_some]
    show wk ((cB N0 j (ys,env,l2,(l2.getD b.toNat zS).2.2.1)).bind fun r6=>(cond (decide (r6.2<(0:Int))) (some (xs,(-1:Int))) (cond ((l2.getD b.toNat zS).1==(10:Int)) ((eR N0 (r6.1,r6.2,t)).bind fun r7=>(some (r7.1,r7.2))) ((bk N0 (r6.1,(l2.getD b.toNat zS).1,t,r6.2)).bind fun r8=>(some (r8.1,r8.2)))))) _
    obtain⟨zs,u,g3,g4⟩:=uf he hv k q _ R ys j h2 (by omega) gr.1
    rw[g3,Option.bind_some]
    dsimp only
    cases hm2:mk env R ys with
    |none =>
     rw[hm2]at g4
     have g4:u=-1:=g4
     rw[decide_eq_true (by omega:u<0),cond_true,hmk.2 _ hm hm2]
     exact⟨xs, -1,rfl,rfl⟩
    |some s2 =>
     rw[hm2]at g4
     have g4:(zs,u)=s2:=g4
     subst g4
     have gr2:=dq gr.1 hm2
     rw[decide_eq_false (by have:=gr2.2.1;omega),cond_false]
     rcases c5 with⟨d1,d2,rfl⟩|⟨d1,d2,d3,rfl⟩
     ·rw[d2]
      show wk ((eR N0 (zs,u,t)).bind fun r7=>(some (r7.1,r7.2))) _
      rw[xp gr2.1,Option.bind_some]
      have e:mk env (.exp Q R) xs=p9 zs u t:=by
       show(mk env Q xs).bind _=_
       rw[hm]
       show(mk env R ys).bind _=_
       rw[hm2];rfl
      rw[e]
      exact vp (Dw gr2.1)
     ·have n10:((l2.getD b.toNat zS).1==(10:Int))=false:=by rw[beq_eq_false_iff_ne];omega
      rw[n10,cond_false,jR gr2.1,Option.bind_some]
      have e:mk env (.bin (l2.getD b.toNat zS).1 Q R) xs=jh zs (l2.getD b.toNat zS).1 t u:=by
       show(mk env Q xs).bind _=_
       rw[hm]
       show(mk env R ys).bind _=_
       rw[hm2];rfl
      rw[e]
      exact vp (vF gr2.1)
theorem MM {α β:Type}(f:α→β) (c:Bool) (a b:Option α):Option.map f (cond c a b)=cond c (Option.map f a) (Option.map f b):=by cases c<;>rfl
theorem MN {α β γ:Type}(f:β→γ) (x:Option α) (g:α→Option β):Option.map f (x.bind g)=x.bind fun a=>Option.map f (g a):=by cases x<;>rfl
theorem No {α β γ:Type}(f:α→β) (x:Option α) (g:β→Option γ):(Option.map f x).bind g=x.bind fun a=>g (f a):=by cases x<;>rfl
theorem Kk {α β:Type}(f:α→Option β) (c:Bool) (a b:Option α):(cond c a b).bind f=cond c (a.bind f) (b.bind f):=by cases c<;>rfl
theorem Dr {α β:Type}(f:α→β) (a:α):Option.map f (some a)=some (f a):=rfl
theorem MB {α β:Type}(f:α→β):Option.map f (none:Option α)=none:=rfl
theorem re (n:Nat):∀(k:Nat) (xs:List ab) (env:List Int) (l:List gV) (b:Int),dw n k (xs,env,l,b)=(cB n k (xs,env,l,b)).map (fun r=>(env,r.1,r.2))
 |0,xs,env,l,b=>rfl
 |k+1,xs,env,l,b=>by
  have ih:=re n k
  show kD n (dw n k) (xs,env,l,b)=(mc n (cB n k) (xs,env,l,b)).map _
  simp only[kD,mc,l9,gC,ih,MM,MN,No,Dr,MB,Kk,Option.bind_some,Option.bind_none]
def tA (w p:Int):List (Int×ByteArray):=(di N0 (w,p)).getD []
theorem sC{w p:Int}(hw:w=1∨w=2∨w=3) (hp:p=0∨p=1):fV N0 (w,p)=some (tA w p,true)∧di N0 (w,p)=some (tA w p)∧(tA w p).length=5:=by
 rcases hw with rfl|rfl|rfl<;>rcases hp with rfl|rfl
 all_goals exact⟨by kernel_rfl,by kernel_rfl,by kernel_rfl⟩
def wh (T:ByteArray) (P:py):Prop:=∃b l1 l2 k,dV N0 T=some (b,true,l1)∧eT N0 T=some (l2,true)∧k≤N0∧pK l1 l2 k ((l1.length:Int)-1) ((l2.length:Int)-1)=some P∧l1.length≤4294967296∧l2.length≤4294967296
def QI (T:ByteArray) (f:py→Bool):Bool:=match dV N0 T,eT N0 T with
 |some r,some q=>r.2.1&&(q.2&&((match pK r.2.2 q.1 40 ((r.2.2.length:Int)-1) ((q.1.length:Int)-1)with|some P=>f P|none=>false)&&(Nat.ble r.2.2.length 300&&Nat.ble q.1.length 300)))
 |_,_=>false
theorem KP{T:ByteArray}{f:py→Bool}(h:QI T f=true):∃P,wh T P∧f P=true:=by
 unfold QI at h
 split at h
 ·rename_i r q e1 e2
  rw[Bool.and_eq_true,Bool.and_eq_true,Bool.and_eq_true,Bool.and_eq_true]at h
  obtain⟨h1,h2,h3,h4,h5⟩:=h
  obtain⟨b,o,l1⟩:=r
  obtain⟨l2,o2⟩:=q
  have h1:o=true:=h1
  have h2:o2=true:=h2
  subst h1;subst h2
  split at h3
  ·rename_i P e3
   exact⟨P,⟨b,l1,l2,40,e1,e2,by decide,e3,Nat.le_trans (show l1.length≤300 from Nat.le_of_ble_eq_true h4) (by decide),Nat.le_trans (show l2.length≤300 from Nat.le_of_ble_eq_true h5) (by decide)⟩,h3⟩
  ·cases h3
 ·cases h
def Zz (a:Int×ByteArray):Bool:=a.1==1&&(a.2.size==1&&(decide (97≤bt a.2 0)&&decide (bt a.2 0≤122))) || (a.1==3&&QI a.2 (fun _=>true) || ((a.1==2 || a.1==4)&&QI a.2 (fun P => !P.asks)))
def R8 (w p:Int):Bool:=(tA w p).all Zz&&(List.range 5).all (fun i=>(((tA w p).getD i ((0:Int),(⟨#[]⟩:ByteArray))).1==4)==Nat.beq i 4)
theorem Mi{w p:Int}(hw:w=1∨w=2∨w=3) (hp:p=0∨p=1):R8 w p=true:=by
 rcases hw with rfl|rfl|rfl<;>rcases hp with rfl|rfl
 all_goals kernel_rfl
theorem xF (h:some false=some true):False:=by cases h
structure LL (xs:List ab) (x:aV):Prop where
 way:x.1=1∨x.1=2∨x.1=3
 side:x.2.1=0∨x.2.1=1
 me:0≤x.2.2.1∧x.2.2.1≤4
 peer:0≤x.2.2.2.1∧x.2.2.2.1≤4
 ne:x.2.2.1≠x.2.2.2.1
 env:fC xs (xb x)=true
 len:(xb x).length=26
 pool:aF xs=true
 at0:0≤x.2.2.2.2.1∧x.2.2.2.2.1≤5
 done:dn x=(x.2.2.2.2.1==5)
 live:dn x=true→x.2.2.2.2.2.2.2.1=false
 key:dn x=true→ci xs x.2.2.2.2.2.2.2.2=true
 no:dn x=false→x.2.2.2.2.2.2.2.2=-1
theorem FF{xs:List ab}(hx:xs.length≤4294967296){x:aV}(he:(xb x).length≤4294967296) (h:kZ xs x=true):LL xs x:=by
 have h1:=(vw hx he).1
 rw[h]at h1
 obtain⟨w,p,a,b,at_,env,d,dd,key⟩:=x
 dsimp only at h1
 unfold gU at h1
 simp only[sY N0 n0 hx (show env.length≤4294967296 from he),uX,Option.bind_some]at h1
 by_cases hr:(w=1∨w=2∨w=3)∧(p=0∨p=1)
 ·obtain⟨r1,r2,r3⟩:=sC hr.1 hr.2
  rw[r1]at h1
  simp only[Option.bind_some,eK,nD N0 hx,r3,Bool.not_true,cond_false]at h1
  cases ha:(decide (a≥0)&&decide (a≤4))with
  |false=>rw[ha]at h1;exact(xF h1).elim
  |true =>
   cases hb:(decide (b≥0)&&decide (b≤4))with
   |false=>rw[ha,hb]at h1;exact(xF h1).elim
   |true =>
    cases hab:(a==b)with
    |true=>rw[ha,hb,hab]at h1;exact(xF h1).elim
    |false =>
     cases h2:(fC xs env&&(decide (env.length=26)&&(decide (xs.length≤500)&&cG N0 [] xs)))with
     |false=>rw[ha,hb,hab,h2]at h1;exact(xF h1).elim
     |true =>
      cases h3:(decide (at_≥0)&&decide (at_≤((5:Nat):Int)))with
      |false=>rw[ha,hb,hab,h2,h3]at h1;exact(xF h1).elim
      |true =>
       rw[ha,hb,hab,h2,h3]at h1
       simp only[Bool.not_true,cond_false]at h1
       rw[Bool.and_eq_true,decide_eq_true_iff,decide_eq_true_iff]at ha hb h3
       rw[Bool.and_eq_true,Bool.and_eq_true]at h2
       have h5:(at_==((5:Nat):Int))=(at_==5):=rfl
       rw[h5]at h1
       cases h4:((at_==5) != d)with
       |true=>rw[h4]at h1;exact(xF h1).elim
       |false =>
        rw[h4,cond_false]at h1
        have h6:d=(at_==5):=by
         rw[bne_eq_false_iff_eq]at h4
         exact h4.symm
        refine⟨hr.1,hr.2,⟨ha.1,ha.2⟩,⟨hb.1,hb.2⟩,by simpa using hab,h2.1,of_decide_eq_true h2.2.1,h2.2.2,⟨h3.1,h3.2⟩,h6,fun hd=>?_,fun hd=>?_,fun hd=>?_⟩
        ·have hd:d=true:=hd
         subst hd
         show dd=false
         cases dd with
         |false=>rfl
         |true=>exact(xF h1).elim
        ·have hd:d=true:=hd
         subst hd
         cases dd with
         |false=>exact Option.some.inj h1
         |true=>exact(xF h1).elim
        ·have hd:d=false:=hd
         subst hd
         have:(key == -1)=true:=Option.some.inj h1
         exact by simpa using this
 ·rw[(Gt w p hr).1]at h1
  exact(xF h1).elim
theorem uT{xs:List ab}:∀{env:List Int},fC xs env=true→∀i:Nat,env.getD i 0<0→env.getD i 0=-1
 |[],_,i,h=>by simp at h
 |v::r,hb,i,h=>by
  have hb:((v == -1 || ci xs v)&&fC xs r)=true:=hb
  rw[Bool.and_eq_true,Bool.or_eq_true]at hb
  match i with
  |0 =>
   have h:v<0:=h
   rcases hb.1 with q|q
   ·exact by simpa using q
   ·unfold ci at q
    simp at q
    omega
  |i+1=>exact uT hb.2 i h
theorem Lt{xs:List ab}(hx:xs.length≤4294967296):cw N0 xs=some xs:=by
 unfold cw i8
 rw[decide_eq_true hx];rfl
theorem yz{xs:List ab}(hx:xs.length≤4294967296):bb N0 xs=some xs:=by
 unfold bb
 have:aO (([]:List ab).length+xs.length)=true:=by
  unfold aO
  simp
  omega
 rw[this];rfl
theorem JC{T:ByteArray}{P:py}(hT:wh T P){xs:List ab}(hp:aF xs=true){env:List Int}(he:env.length=26) (hv:fC xs env=true):pH N0 (xs,env,T)=some (lu xs (mk env P xs)):=by
 obtain⟨b,l1,l2,k,e1,e2,hk,hd,hl1,hl2⟩:=hT
 have hx:=aX hp
 have hP:(decide (xs.length≤500)&&cG N0 [] xs)=true:=hp
 unfold pH
 dsimp only
 rw[uH N0 n0 (by omega),hP]
 simp only[Option.bind_some,Bool.not_true,cond_false,e1]
 rw[sY N0 n0 (by omega) (by omega),hv,decide_eq_true he,hP]
 simp only[Option.bind_some,Bool.and_true,Bool.not_true,cond_false]
 have ew:ca N0 l1=some (l1,(l1.length:Int)-1):=by
  unfold ca
  rw[au (by omega) (by omega)]
 rw[ew]
 simp only[Option.bind_some]
 rw[Bg k _ _ P N0 hd hk]
 simp only[Option.bind_some]
 cases hA:P.asks with
 |true=>rw[cond_true,Lt (by omega),sQ xs hA];rfl
 |false =>
  rw[cond_false,Lt (by omega)]
  simp only[Option.bind_some,ew]
  obtain⟨ys,t,g1,g2⟩:=xV he k _ _ P xs N0 hd hk hp
  rw[g1]
  simp only[Option.bind_some]
  cases hm:mk env P xs with
  |none =>
   rw[hm]at g2
   have g2:t<0:=g2
   rw[decide_eq_true g2,cond_true];rfl
  |some s =>
   rw[hm]at g2
   have g2:(ys,t)=s:=g2
   subst g2
   have gr:=dq hp hm
   rw[decide_eq_false (by have:=gr.2.1;omega),cond_false];rfl
theorem Cb{T:ByteArray}{P:py}(hT:wh T P){xs:List ab}(hp:aF xs=true){env:List Int}(he:env.length=26) (hv:fC xs env=true):∃l2 ys t,eT N0 T=some (l2,true)∧l2.length≤4294967296∧cB N0 N0 (xs,env,l2,(l2.length:Int)-1)=some (ys,t)∧(match mk env P xs with
  |some s=>(ys,t)=s
  |none=>t=-1):=by
 obtain⟨b,l1,l2,k,e1,e2,hk,hd,hl1,hl2⟩:=hT
 obtain⟨ys,t,g1,g2⟩:=uf he (uT hv) k _ _ P xs N0 hd hk hp
 exact⟨l2,ys,t,e2,hl2,g1,g2⟩
theorem E8{w p:Int}(hw:w=1∨w=2∨w=3) (hp:p=0∨p=1){i:Nat}(hi:i<5) (a:Int×ByteArray) (ha:a=(tA w p).getD i ((0:Int),(⟨#[]⟩:ByteArray))) :
  (a.1=4↔i=4)∧((a.1=1∧a.2.size=1∧97≤bt a.2 0∧bt a.2 0≤122)∨(a.1=3∧∃P,wh a.2 P)∨((a.1=2∨a.1=4)∧∃P,wh a.2 P∧P.asks=false)):=by
 have hb:=Mi hw hp
 obtain⟨_,_,hl⟩:=sC hw hp
 unfold R8 at hb
 rw[Bool.and_eq_true]at hb
 have h2:=List.all_eq_true.1 hb.2 i (List.mem_range.2 hi)
 rw[←ha]at h2
 have hm:a∈tA w p:=by
  rw[ha,List.getD_eq_getElem?_getD,List.getElem?_eq_getElem (by omega)]
  exact List.getElem_mem _
 have h1:=List.all_eq_true.1 hb.1 a hm
 refine⟨?_,?_⟩
 ·have h2:(a.1==4)=Nat.beq i 4:=by simpa using h2
  constructor
  ·intro h
   rw[h]at h2
   exact Nat.eq_of_beq_eq_true h2.symm
  ·intro h
   rw[h]at h2
   have:(a.1==4)=true:=h2
   exact by simpa using this
 ·unfold Zz at h1
  rw[Bool.or_eq_true,Bool.or_eq_true,Bool.and_eq_true,Bool.and_eq_true,Bool.and_eq_true,Bool.and_eq_true,Bool.and_eq_true,Bool.or_eq_true]at h1
  rcases h1 with⟨h1,h3,h4,h5⟩|⟨h1,h3⟩|⟨h1,h3⟩
  ·exact .inl ⟨by simpa using h1,by simpa using h3,of_decide_eq_true h4,of_decide_eq_true h5⟩
  ·obtain⟨P,hP,_⟩:=KP h3
   exact .inr (.inl ⟨by simpa using h1,P,hP⟩)
  ·obtain⟨P,hP,hA⟩:=KP h3
   exact .inr (.inr ⟨by simpa using h1,P,hP,by simpa using hA⟩)
section
variable{xs:List ab}{kn:List Int}{li:List aV}{fr:Int}{gv sh:List Int}{lg:List aM}{k:Int}
theorem I6 (hw:aZ xs kn li fr gv sh lg=true):aF xs=true:=by
 unfold aZ rJ at hw
 rw[Bool.and_eq_true,Bool.and_eq_true,Bool.and_eq_true]at hw
 exact hw.1.2.2
theorem I7 (hw:aZ xs kn li fr gv sh lg=true){i:Nat}(hi:i<li.length):kZ xs (li.getD i zI)=true:=by
 unfold aZ at hw
 rw[Bool.and_eq_true,Bool.and_eq_true,Bool.and_eq_true,Bool.and_eq_true,Bool.and_eq_true,Bool.and_eq_true]at hw
 have h:=hw.2.2.2.2.2.1
 unfold uE at h
 exact dc.1 h i (Nat.zero_le _) (by omega)
theorem so (hs:Small xs kn li gv sh lg) (hw:aZ xs kn li fr gv sh lg=true){i:Nat}(hi:i<li.length):LL xs (li.getD i zI):=FF hs.fx (hs.fe i hi) (I7 hw hi)
def ml (xs:List ab) (li:List aV) (k:Int):Int:=(eW N0 (xs,[],li,0,[],[],[],k)).getD 0
theorem vy{n k:Int}(h:gj n k=true):0≤k∧k<n:=by
 unfold gj at h
 rw[Bool.and_eq_true,decide_eq_true_iff,decide_eq_true_iff]at h
 omega
theorem dY{xs:List ab}{t:Int}:ci xs t=true↔0≤t∧t<(xs.length:Int):=by
 unfold ci
 rw[Bool.and_eq_true,decide_eq_true_iff,decide_eq_true_iff]
 omega
theorem Pc (hl:li.length≤4294967296) (hi:gj (li.length:Int) k=true) (hg:LL xs (li.getD k.toNat zI)) :
  (eW N0 (xs,kn,li,fr,gv,sh,lg,k)=some (ml xs li k)∧dm N0 (xs,kn,li,fr,gv,sh,lg,k)=some (xs,kn,li,fr,gv,sh,lg,ml xs li k))∧(ml xs li k=-1∨ci xs (ml xs li k)=true):=by
 have hx:=aX hg.pool
 obtain⟨k0,k1⟩:=vy hi
 have hb:=eJ hi
 suffices h:∃v,(eW N0 (xs,kn,li,fr,gv,sh,lg,k)=some v∧dm N0 (xs,kn,li,fr,gv,sh,lg,k)=some (xs,kn,li,fr,gv,sh,lg,v))∧(v=-1∨ci xs v=true)by
  obtain⟨v,⟨h1,h2⟩,h3⟩:=h
  have:ml xs li k=v:=by
   unfold ml
   rw[show eW N0 (xs,[],li,0,[],[],[],k)=eW N0 (xs,kn,li,fr,gv,sh,lg,k)from rfl,h1];rfl
  rw[this]
  exact⟨⟨h1,h2⟩,h3⟩
 have hin:(decide (k≥0)&&decide (k≤IntKind.i64.wrap ((li.length:Int)-(1:Int))))=true:=by
  rw[au (by omega) (by omega)]
  simp
  omega
 unfold eW dm kG
 simp only[rK,hin,Option.bind_some,Bool.not_true,cond_false,hb,cond_true]
 have q1:=hg.way
 have q2:=hg.side
 have q3:=hg.env
 have q4:=hg.len
 have q5:=hg.key
 revert q1 q2 q3 q4 q5
 generalize li.getD k.toNat zI=X
 intro q1 q2 q3 q4 q5
 cases hd:X.2.2.2.2.2.2.1 with
 |true=>exact⟨_,⟨rfl,rfl⟩, .inr (q5 hd)⟩
 |false =>
  simp only[cond_false]
  obtain⟨r1,r2,r3⟩:=sC q1 q2
  rw[r1,r2]
  simp only[Option.bind_some,r3]
  rw[show IntKind.i64.wrap (((5:Nat):Int)-(1:Int))=4 by decide,show aI 4 5=true by decide]
  simp only[cond_true]
  obtain⟨hA,hact⟩:=E8 q1 q2 (i:=4) (by decide) _ rfl
  have hA:=hA.2 rfl
  rw[show((4:Int)).toNat=4 from rfl]
  revert hA hact
  generalize (tA X.1 X.2.1).getD 4 ((0:Int),(⟨#[]⟩:ByteArray))=A
  intro hact hA
  have hT:∃P,wh A.2 P:=by
   rcases hact with⟨h,_⟩|⟨_,h⟩|⟨_,P,h,_⟩
   ·rw[hA]at h;exact absurd h (by decide)
   ·exact h
   ·exact⟨P,h⟩
  obtain⟨P,hP⟩:=hT
  have e1:mr N0 (xs,X.2.2.2.2.2.1,A.2)=some (lu xs (mk X.2.2.2.2.2.1 P xs)):=JC hP hg.pool q4 q3
  obtain⟨l2,ys,t,e2,e3,e4,e5⟩:=Cb hP hg.pool q4 q3
  rw[e1,e2]
  simp only[Option.bind_some]
  rw[au (by omega) (by omega),e4]
  simp only[Option.bind_some,nD N0 (show xs.length≤4294967296 by omega)]
  have e4:True:=trivial
  cases hm:mk X.2.2.2.2.2.1 P xs with
  |none =>
   rw[hm]at e5
   have e5:t=-1:=e5
   subst e5
   rw[show(lu xs none).2=-1 from rfl,show ci xs (-1)=false by unfold ci;simp]
   rw[decide_eq_true (by omega:(-1:Int)<(xs.length:Int))]
   exact⟨-1,⟨rfl,rfl⟩, .inl rfl⟩
  |some s =>
   rw[hm]at e5
   have e5:(ys,t)=s:=e5
   subst e5
   have gr:=dq hg.pool hm
   have t0:=gr.2.1
   rw[show(lu xs (some (ys,t))).2=t from rfl]
   by_cases ht:t<(xs.length:Int)
   ·rw[decide_eq_true ht,dY.2 ⟨t0,ht⟩]
    exact⟨t,⟨rfl,rfl⟩, .inr (dY.2 ⟨t0,ht⟩)⟩
   ·have:ci xs t=false:=by
     rw[←Bool.not_eq_true,dY]
     omega
    rw[decide_eq_false ht,this]
    exact⟨-1,⟨rfl,rfl⟩, .inl rfl⟩
theorem wn (hs:Small xs kn li gv sh lg) (hw:aZ xs kn li fr gv sh lg=true) (hi:gj (li.length:Int) k=true) :
  (eW N0 (xs,kn,li,fr,gv,sh,lg,k)=some (ml xs li k)∧dm N0 (xs,kn,li,fr,gv,sh,lg,k)=some (xs,kn,li,fr,gv,sh,lg,ml xs li k))∧(ml xs li k=-1∨ci xs (ml xs li k)=true) :=
 Pc hs.fl hi (so hs hw (by obtain⟨a,b⟩:=vy hi;omega))
def mW (d:Nat→Bool):Nat→Nat→List Int
 |_,0=>[]
 |i,m+1=>bif d i then(i:Int)::mW d (i+1) m else mW d (i+1) m
theorem At{d e:Nat→Bool}:∀{m i:Nat},(∀j,i≤j→j<i+m→d j=e j)→mW d i m=mW e i m
 |0,_,_=>rfl
 |m+1,i,h=>by
  unfold mW
  rw[h i (Nat.le_refl _) (by omega),At (m:=m) (i:=i+1) (fun j h1 h2=>h j (by omega) (by omega))]
theorem BI{d:Nat→Bool}:∀{m i:Nat},(∀j,i≤j→j<i+m→d j=false)→mW d i m=[]
 |0,_,_=>rfl
 |m+1,i,h=>by
  unfold mW
  rw[h i (Nat.le_refl _) (by omega),cond_false,BI (m:=m) (i:=i+1) (fun j h1 h2=>h j (by omega) (by omega))]
def Qg (xs:List ab) (li:List aV) (k:Int) (j:Nat):Bool :=
 let X:=li.getD k.toNat zI
 let Y:=li.getD j zI
 (Y.1==X.1)&&(!(Y.2.1==X.2.1)&&((Y.2.2.1==X.2.2.2.1)&&((Y.2.2.2.1==X.2.2.1)&&((ml xs li (j:Int)==ml xs li k)&&((X.2.1==0) || dn Y)))))
def uu (xs:List ab) (li:List aV) (k:Int):List Int:=bif decide (ml xs li k<0)then []else mW (Qg xs li k) 0 li.length
theorem Uh {α:Type}{c1 c2 c3 c4 c5 c6 c7 c8 c9:Bool}{S T:α}:(cond c1 S (cond c2 S (cond c3 S (cond c4 S (cond c5 S (cond c6 (cond c7 S (cond c8 (cond c9 T S) S)) (cond c8 (cond c9 T S) S)))))))
  = cond (!c1&&(!c2&&(!c3&&(!c4&&(!c5&&((!c6 || !c7)&&(c8&&c9))))))) T S:=by
 cases c1<;>cases c2<;>cases c3<;>cases c4<;>cases c5<;>cases c6<;>cases c7<;>cases c8<;>cases c9<;>rfl
theorem Ug {α:Type}{c1 c2 c3 c4 c5 c6 c7:Bool}{S T:α}:(cond c1 (cond c2 (cond c3 (cond c4 (cond c5 (cond c6 T (cond c7 T S)) S) S) S) S) S)
  = cond (c1&&(c2&&(c3&&(c4&&(c5&&(c6 || c7)))))) T S:=by
 cases c1<;>cases c2<;>cases c3<;>cases c4<;>cases c5<;>cases c6<;>cases c7<;>rfl
def pI (xs:List ab) (li:List aV) (k:Int) (j:Nat):Bool :=
 let X:=li.getD k.toNat zI
 let Y:=li.getD j zI
 !((j:Int)==k)&&(!(Y.1 != X.1)&&(!(Y.2.1==X.2.1)&&(!(Y.2.2.1 != X.2.2.2.1)&&(!(Y.2.2.2.1 != X.2.2.1)&&((!(X.2.1==1) || !(!(dn Y)))&&((ml xs li k != -1)&&(ml xs li (j:Int)==ml xs li k)))))))
theorem rk (hs:Small xs kn li gv sh lg) (hw:aZ xs kn li fr gv sh lg=true) (X:aV) (hX:X=li.getD k.toNat zI):∀(m i:Nat) (out:List Int),i≤li.length→li.length<m+i→out.length≤i →
  aj N0 m (xs,kn,li,fr,gv,sh,lg,k,X.1,X.2.1,X.2.2.1,X.2.2.2.1,X.2.2.2.2.1,X.2.2.2.2.2.1,X.2.2.2.2.2.2.1,X.2.2.2.2.2.2.2.1,X.2.2.2.2.2.2.2.2,ml xs li k,out,li,(li.length:Int),(i:Int))=some (xs,kn,li,fr,gv,sh,lg,out++mW (pI xs li k) i (li.length-i))
 |0,i,out,h1,h2,h3=>by omega
 |m+1,i,out,h1,h2,h3=>by
  have hl:=hs.fl
  rcases Nat.eq_or_lt_of_le h1 with q|q
  ·subst q
   rw[aj];dsimp only
   rw[lT,cond_false,Nat.sub_self]
   simp[mW]
  ·have hi:gj (li.length:Int) (i:Int)=true:=by
    unfold gj
    simp
    omega
   obtain⟨⟨_,kI⟩,_⟩:=wn (k:=(i:Int)) hs hw hi
   have hroom:aO (out.length+[(i:Int)].length)=true:=by
    unfold aO
    rw[List.length_singleton]
    simp
    omega
   have S:=rk hs hw X hX m (i+1) out q (by omega) (by omega)
   have T:=rk hs hw X hX m (i+1) (out++[(i:Int)]) q (by omega) (by rw[List.length_append,List.length_singleton];omega)
   rw[aj];dsimp only
   rw[jt q,cond_true,ar q,cond_true]
   simp only[Int.toNat_natCast,aw q hl,kI,Option.bind_some,hroom,cond_true,S,T]
   rw[Uh]
   have e:li.length-i=(li.length-(i+1))+1:=by omega
   rw[e]
   have hp:mW (pI xs li k) i (li.length-(i+1)+1)=bif pI xs li k i then(i:Int)::mW (pI xs li k) (i+1) (li.length-(i+1))else mW (pI xs li k) (i+1) (li.length-(i+1)):=rfl
   rw[hp]
   have hc:pI xs li k i=(!((i:Int)==k)&&(!((li.getD i zI).1 != X.1)&&(!((li.getD i zI).2.1==X.2.1)&&(!((li.getD i zI).2.2.1 != X.2.2.2.1)&&(!((li.getD i zI).2.2.2.1 != X.2.2.1)&&((!(X.2.1==1) || !(!(li.getD i zI).2.2.2.2.2.2.1))&&((ml xs li k != -1)&&(ml xs li (i:Int)==ml xs li k)))))))):=by
    rw[hX];rfl
   rw[←hc]
   cases pI xs li k i with
   |true=>rw[cond_true,cond_true,List.append_assoc];rfl
   |false=>rfl
theorem q9 (hs:Small xs kn li gv sh lg) (hw:aZ xs kn li fr gv sh lg=true) (X:aV) (hX:X=li.getD k.toNat zI):∀(m i:Nat) (out:List Int),i≤li.length→li.length<m+i→out.length≤i →
  aE N0 m (xs,kn,li,fr,gv,sh,lg,out,ml xs li k,X.1,X.2.1,X.2.2.1,X.2.2.2.1,X.2.2.2.2.1,X.2.2.2.2.2.1,X.2.2.2.2.2.2.1,X.2.2.2.2.2.2.2.1,X.2.2.2.2.2.2.2.2,(i:Int))=some (out++mW (Qg xs li k) i (li.length-i))
 |0,i,out,h1,h2,h3=>by omega
 |m+1,i,out,h1,h2,h3=>by
  have hl:=hs.fl
  rcases Nat.eq_or_lt_of_le h1 with q|q
  ·subst q
   rw[aE];(try dsimp only)
   rw[lT,cond_false,Nat.sub_self]
   simp[mW]
  ·have hi:gj (li.length:Int) (i:Int)=true:=by
    unfold gj
    simp
    omega
   obtain⟨⟨kI,_⟩,_⟩:=wn (k:=(i:Int)) hs hw hi
   have hroom:aO (out.length+[(i:Int)].length)=true:=by
    unfold aO
    rw[List.length_singleton]
    simp
    omega
   have S:=q9 hs hw X hX m (i+1) out q (by omega) (by omega)
   have T:=q9 hs hw X hX m (i+1) (out++[(i:Int)]) q (by omega) (by rw[List.length_append,List.length_singleton];omega)
   rw[aE];(try dsimp only)
   rw[jt q,cond_true,ar q,cond_true]
   simp only[Int.toNat_natCast,aw q hl,kI,Option.bind_some,hroom,cond_true,S,T]
   rw[Ug]
   have e:li.length-i=(li.length-(i+1))+1:=by omega
   rw[e]
   have hp:mW (Qg xs li k) i (li.length-(i+1)+1)=bif Qg xs li k i then(i:Int)::mW (Qg xs li k) (i+1) (li.length-(i+1))else mW (Qg xs li k) (i+1) (li.length-(i+1)):=rfl
   rw[hp]
   have hc:Qg xs li k i=(((li.getD i zI).1==X.1)&&(((li.getD i zI).2.1 != X.2.1)&&(((li.getD i zI).2.2.1==X.2.2.2.1)&&(((li.getD i zI).2.2.2.1==X.2.2.1)&&((ml xs li (i:Int)==ml xs li k)&&((X.2.1==0) || (li.getD i zI).2.2.2.2.2.2.1)))))):=by
    rw[hX];rfl
   rw[←hc]
   cases Qg xs li k i with
   |true=>rw[cond_true,cond_true,List.append_assoc];rfl
   |false=>rfl
theorem DC (hs:Small xs kn li gv sh lg) (hw:aZ xs kn li fr gv sh lg=true) (hi:gj (li.length:Int) k=true) :
  fF N0 (xs,kn,li,fr,gv,sh,lg,k)=some (xs,kn,li,fr,gv,sh,lg,uu xs li k)∧ig N0 (xs,kn,li,fr,gv,sh,lg,k)=some (uu xs li k):=by
 obtain⟨⟨k1,k2⟩,k3⟩:=wn hs hw hi
 obtain⟨i0,i1⟩:=vy hi
 have hG:=so hs hw (i:=k.toNat) (by omega)
 constructor
 ·rw[fF];dsimp only
  rw[eJ hi,cond_true,k2]
  simp only[Option.bind_some]
  have h:=rk (fr:=fr) (k:=k) hs hw (li.getD k.toNat zI) rfl N0 0 [] (Nat.zero_le _) (by have:=n0;have:=hs.fl;omega) (Nat.le_refl _)
  rw[show((0:Nat):Int)=(0:Int)from rfl]at h
  rw[h]
  simp only[Option.bind_some,List.nil_append,Nat.sub_zero]
  unfold uu
  by_cases hn:ml xs li k<0
  ·rw[decide_eq_true hn,cond_true,BI]
   intro j _ _
   have:(ml xs li k != -1)=false:=by
    rcases k3 with h|h
    ·rw[h];rfl
    ·have:=(dY.1 h).1;omega
   unfold pI
   simp only[this,Bool.false_and,Bool.and_false]
  ·rw[decide_eq_false hn,cond_false,At (e:=Qg xs li k)]
   intro j _ _
   have h1:(ml xs li k != -1)=true:=by
    rw[bne_iff_ne];omega
   have h2:=hG.side
   unfold pI Qg
   dsimp only
   rw[h1]
   by_cases hjk:(j:Int)=k
   ·have h5:(li.getD j zI)=li.getD k.toNat zI:=by rw[←hjk,Int.toNat_natCast]
    rw[h5,hjk]
    simp only[beq_self_eq_true,Bool.not_true,Bool.false_and,Bool.and_false]
   ·generalize li.getD k.toNat zI=X at *
    have h3:((j:Int)==k)=false:=by simpa using hjk
    rw[h3]
    generalize li.getD j zI=Y
    have h4:(!(X.2.1==1) || !(!(dn Y)))=((X.2.1==0) || dn Y):=by
     rcases h2 with h2|h2<;>rw[h2]<;>cases dn Y<;>rfl
    rw[h4]
    simp only[bne,Bool.not_not,Bool.not_false,Bool.true_and]
    cases(Y.1==X.1)<;>cases(Y.2.1==X.2.1)<;>cases(Y.2.2.1==X.2.2.2.1)<;>cases(Y.2.2.2.1==X.2.2.1)<;>cases((X.2.1==0) || dn Y)<;>cases(ml xs li (j:Int)==ml xs li k)<;>rfl
 ·rw[ig];(try dsimp only)
  rw[k1]
  simp only[Option.bind_some]
  unfold uu
  by_cases hn:ml xs li k<0
  ·rw[decide_eq_true hn];rfl
  ·rw[decide_eq_false hn,cond_false,cond_false,eJ hi,cond_true]
   have h:=q9 (fr:=fr) (k:=k) hs hw (li.getD k.toNat zI) rfl N0 0 [] (Nat.zero_le _) (by have:=n0;have:=hs.fl;omega) (Nat.le_refl _)
   rw[show((0:Nat):Int)=(0:Int)from rfl]at h
   rw[h]
   simp only[Option.bind_some,List.nil_append,Nat.sub_zero]
def pN (xs:List ab) (li:List aV) (lg:List aM) (i:Nat):Bool := !jv li lg (i:Int) || (((uu xs li (i:Int)).length:Int)==1)
theorem FD (hs:Small xs kn li gv sh lg):gG N0 (xs,kn,li,fr,gv,sh,lg)=some (aZ xs kn li fr gv sh lg&&bI (pN xs li lg) 0 li.length):=by
 have hli:=hs.fl
 rw[gG];(try dsimp only)
 rw[(iF hs).1]
 simp only[Option.bind_some]
 cases hw:aZ xs kn li fr gv sh lg with
 |false=>rfl
 |true =>
  have h:=cm (bz N0) (fun i=>(xs,kn,li,fr,gv,sh,lg,(li.length:Int),(i:Int))) (pN xs li lg) false () li.length (fun m i hi=>by
   have hi0:gj (li.length:Int) (i:Int)=true:=by
    unfold gj
    simp
    omega
   rw[bz];dsimp only
   rw[jt hi,cond_true,mw hs hw]
   simp only[Option.bind_some,aw hi hli,(DC (k:=(i:Int)) hs hw hi0).1]
   unfold pN
   cases jv li lg (i:Int)with
   |false=>rfl
   |true =>
    rw[cond_true,Bool.not_true,Bool.false_or]
    cases hq:(((uu xs li (i:Int)).length:Int)==1)with
    |true=>rw[show(((uu xs li (i:Int)).length:Int) != 1)=false by rw[bne,hq];rfl];rfl
    |false=>rw[show(((uu xs li (i:Int)).length:Int) != 1)=true by rw[bne,hq];rfl];rfl) (fun m=>by
   rw[bz];dsimp only;rw[lT];rfl) N0 0 (Nat.zero_le _) (by have:=n0;omega)
  rw[Nat.sub_zero]at h
  show((bz N0 N0 (xs,kn,li,fr,gv,sh,lg,(li.length:Int),(0:Int))).bind _)=_
  rw[show bz N0 N0 (xs,kn,li,fr,gv,sh,lg,(li.length:Int),(0:Int))=_ from h]
  cases bI (pN xs li lg) 0 li.length<;>rfl
theorem E0 (hs:Small xs kn li gv sh lg):iS N0 (xs,kn,li,fr,gv,sh,lg)=some (aZ xs kn li fr gv sh lg&&bI (pN xs li lg) 0 li.length):=by
 have hli:=hs.fl
 rw[iS];(try dsimp only)
 rw[(iF hs).2]
 simp only[Option.bind_some]
 cases hw:aZ xs kn li fr gv sh lg with
 |false=>rfl
 |true =>
  have h:=cm (bx N0) (fun i=>(xs,kn,li,fr,gv,sh,lg,(i:Int))) (pN xs li lg) false () li.length (fun m i hi=>by
   have hi0:gj (li.length:Int) (i:Int)=true:=by
    unfold gj
    simp
    omega
   rw[bx];(try dsimp only)
   rw[jt hi,cond_true,p7 hs hw]
   simp only[Option.bind_some,aw hi hli,(DC (k:=(i:Int)) hs hw hi0).2]
   unfold pN
   cases jv li lg (i:Int)with
   |false=>rfl
   |true =>
    rw[cond_true,Bool.not_true,Bool.false_or]
    cases hq:(((uu xs li (i:Int)).length:Int)==1)with
    |true=>rw[show(((uu xs li (i:Int)).length:Int) != 1)=false by rw[bne,hq];rfl];rfl
    |false=>rw[show(((uu xs li (i:Int)).length:Int) != 1)=true by rw[bne,hq];rfl];rfl) (fun m=>by
   rw[bx];(try dsimp only);rw[lT];rfl) N0 0 (Nat.zero_le _) (by have:=n0;omega)
  rw[Nat.sub_zero]at h
  show((bx N0 N0 (xs,kn,li,fr,gv,sh,lg,(0:Int))).bind _)=_
  rw[show bx N0 N0 (xs,kn,li,fr,gv,sh,lg,(0:Int))=_ from h]
  cases bI (pN xs li lg) 0 li.length<;>rfl
end
def Di (env:List Int):Prop:=env.length=26∧∀i:Nat,env.getD i 0<0→env.getD i 0=-1
theorem KE{env:List Int}{i:Nat}(h:i<env.length) (t:Int):(env.set i t).getD i 0=t:=by
 rw[List.getD_eq_getElem?_getD,List.getElem?_set_self h];rfl
theorem Di.set{env:List Int}(h:Di env){i:Nat}(hi:i<env.length){t:Int}(ht:0≤t):Di (env.set i t):=by
 refine⟨by rw[List.length_set];exact h.1,fun j hj=>?_⟩
 by_cases e:i=j
 ·subst e
  rw[KE hi]at hj
  omega
 ·have e2:(env.set i t).getD j 0=env.getD j 0:=by rw[List.getD_eq_getElem?_getD,List.getD_eq_getElem?_getD,List.getElem?_set_ne e]
  rw[e2]at hj ⊢
  exact h.2 _ hj
theorem kr{xs zs:List ab}{t:Int}(h:ci xs t=true):ci (xs++zs) t=true:=by
 rw[dY]at h ⊢
 rw[List.length_append]
 omega
def MJ (env:List Int) (P:py) (xs:List ab) (t:Int):Option (List Int×List ab):=(mk env P xs).bind fun r=>bif r.2==t then some (env,r.1)else none
abbrev nd (xs:List ab) (t:Int):ab:=xs.getD t.toNat dN
def ei:py→List Int→List ab→Int→Option (List Int×List ab)
 | .ask i,env,xs,t=>bif decide (env.getD i.toNat 0<0)then some (env.set i.toNat t,xs)else bif env.getD i.toNat 0==t then some (env,xs)else none
 | .bin k p q,env,xs,t=>bif k==2 then(bif (nd xs t).1==2 then(ei p env xs (nd xs t).2.1).bind fun r=>ei q r.1 r.2 (nd xs t).2.2 else none)
   else bif k==3 || k==4 then(bif (nd xs t).1==k then(ei q env xs (nd xs t).2.2).bind fun r=>ei p r.1 r.2 (nd xs t).2.1 else none)
   else MJ env (.bin k p q) xs t
 | .name c,env,xs,t=>MJ env (.name c) xs t
 | .var i,env,xs,t=>MJ env (.var i) xs t
 | .un k p,env,xs,t=>MJ env (.un k p) xs t
 | .exp p q,env,xs,t=>MJ env (.exp p q) xs t
theorem uA{env e:List Int}{P:py}{xs ys:List ab}{t:Int}(hE:Di env) (hp:aF xs=true) (h:MJ env P xs t=some (e,ys)):Di e∧aF ys=true∧∃zs,ys=xs++zs:=by
 obtain⟨r,h1,h2⟩:=Option.bind_eq_some_iff.1 (show(mk env P xs).bind _=some (e,ys)from h)
 have g:=dq hp (show mk env P xs=some (r.1,r.2)from h1)
 cases hc:(r.2==t)with
 |false=>rw[hc]at h2;cases h2
 |true =>
  rw[hc]at h2
  obtain⟨rfl,rfl⟩:=Prod.mk.inj (Option.some.inj h2)
  exact⟨hE,g.1,g.2.2⟩
theorem JZ{xs:List ab}{t:Int}(hp:aF xs=true) (ht:ci xs t=true) (hk:(nd xs t).1=2∨(nd xs t).1=3∨(nd xs t).1=4):ci xs (nd xs t).2.1=true∧ci xs (nd xs t).2.2=true:=by
 have hl:=aX hp
 rw[dY]at ht
 have h:=xB hp (j:=t.toNat) (by omega)
 have hd:(xs.getD t.toNat dN)=nd xs t:=rfl
 rw[hd]at h
 generalize nd xs t=X at h hk
 have hc:bh N0 X.1=some 2:=by rcases hk with e|e|e<;>rw[e]<;>rfl
 rw[show((t.toNat:Nat):Int)=t from by omega]at h
 unfold gP bH at h
 dsimp only at h
 rw[hc,au (by omega) (by omega)]at h
 simp only[Option.bind_some,eK]at h
 have c0:((2:Int)==(0:Int))=false:=by decide
 have c1:((2:Int)==(1:Int))=false:=by decide
 have c2:((2:Int)==(2:Int))=true:=by decide
 rw[c0,c1,c2,cond_false,cond_false,cond_true]at h
 cases h1:(decide (X.2.1≥0)&&decide (X.2.1≤t-1))with
 |false=>rw[h1]at h;cases h
 |true =>
  cases h2:(decide (X.2.2≥0)&&decide (X.2.2≤t-1))with
  |false=>rw[h1,h2]at h;cases h
  |true =>
   rw[Bool.and_eq_true,decide_eq_true_iff,decide_eq_true_iff]at h1 h2
   rw[dY,dY]
   omega
theorem fU:∀{P:py}{env e:List Int}{xs ys:List ab}{t:Int},Di env→aF xs=true→ci xs t=true→ei P env xs t=some (e,ys)→Di e∧aF ys=true∧∃zs,ys=xs++zs
 | .name c,env,e,xs,ys,t,hE,hp,ht,h=>uA hE hp h
 | .var i,env,e,xs,ys,t,hE,hp,ht,h=>uA hE hp h
 | .un k p,env,e,xs,ys,t,hE,hp,ht,h=>uA hE hp h
 | .exp p q,env,e,xs,ys,t,hE,hp,ht,h=>uA hE hp h
 | .ask i,env,e,xs,ys,t,hE,hp,ht,h=>by
  have h:(bif decide (env.getD i.toNat 0<0)then some (env.set i.toNat t,xs)else bif env.getD i.toNat 0==t then some (env,xs)else none)=some (e,ys):=h
  by_cases hn:env.getD i.toNat 0<0
  ·rw[decide_eq_true hn]at h
   obtain⟨rfl,rfl⟩:=Prod.mk.inj (Option.some.inj h)
   have hi:i.toNat<env.length:=by
    refine Nat.lt_of_not_le fun q=>?_
    rw[List.getD_eq_getElem?_getD,List.getElem?_eq_none q]at hn
    exact absurd hn (by decide)
   exact⟨hE.set hi (dY.1 ht).1,hp,[],by simp⟩
  ·rw[decide_eq_false hn]at h
   cases hc:(env.getD i.toNat 0==t)with
   |false=>rw[hc]at h;cases h
   |true =>
    rw[hc]at h
    obtain⟨rfl,rfl⟩:=Prod.mk.inj (Option.some.inj h)
    exact⟨hE,hp,[],by simp⟩
 | .bin k p q,env,e,xs,ys,t,hE,hp,ht,h=>by
  have h:(bif k==2 then(bif (nd xs t).1==2 then(ei p env xs (nd xs t).2.1).bind fun r=>ei q r.1 r.2 (nd xs t).2.2 else none)
   else bif k==3 || k==4 then(bif (nd xs t).1==k then(ei q env xs (nd xs t).2.2).bind fun r=>ei p r.1 r.2 (nd xs t).2.1 else none)
   else MJ env (.bin k p q) xs t)=some (e,ys):=h
  cases h2:(k==2)with
  |true =>
   rw[h2,cond_true]at h
   cases h3:((nd xs t).1==2)with
   |false=>rw[h3]at h;cases h
   |true =>
    rw[h3,cond_true]at h
    obtain⟨k1,k2⟩:=JZ hp ht (.inl (by simpa using h3))
    obtain⟨r,h4,h5⟩:=Option.bind_eq_some_iff.1 h
    obtain⟨g1,g2,w,g3⟩:=fU hE hp k1 (show _=some (r.1,r.2)from h4)
    obtain⟨g4,g5,v,g6⟩:=fU g1 g2 (by rw[g3];exact kr k2) h5
    exact⟨g4,g5,w++v,by rw[g6,g3,List.append_assoc]⟩
  |false =>
   rw[h2,cond_false]at h
   cases h3:(k==3 || k==4)with
   |false=>rw[h3,cond_false]at h;exact uA hE hp h
   |true =>
    rw[h3,cond_true]at h
    cases h6:((nd xs t).1==k)with
    |false=>rw[h6]at h;cases h
    |true =>
     rw[h6,cond_true]at h
     have h7:(nd xs t).1=k:=by simpa using h6
     have h8:k=3∨k=4:=by simpa using h3
     obtain⟨k1,k2⟩:=JZ hp ht (by rw[h7];exact .inr h8)
     obtain⟨r,h4,h5⟩:=Option.bind_eq_some_iff.1 h
     obtain⟨g1,g2,w,g3⟩:=fU hE hp k2 (show _=some (r.1,r.2)from h4)
     obtain⟨g4,g5,v,g6⟩:=fU g1 g2 (by rw[g3];exact kr k1) h5
     exact⟨g4,g5,w++v,by rw[g6,g3,List.append_assoc]⟩
def Ai (res:Option (List Int×List ab×Bool)) (m:Option (List Int×List ab)):Prop:=∃e ys c,res=some (e,ys,c)∧(match m with
 |some s=>(e,ys)=s∧c=true
 |none=>c=false)
theorem Q3{l1:List eF}{l2:List gV}{env:List Int}{xs:List ab}{k:Nat}{a b t:Int}{P:py}(he:Di env) (hd:pK l1 l2 k a b=some P) (hk:k≤N0) (hp:aF xs=true) (ht:0≤t) :
  Ai ((dw N0 N0 (xs,env,l2,b)).bind fun r16=>(cond (r16.2.2==t) (some (r16.1,r16.2.1,(decide (r16.2.2≥(0:Int))))) (some (r16.1,r16.2.1,false)))) (MJ env P xs t):=by
 obtain⟨ys,u,g1,g2⟩:=uf he.1 he.2 k a b P xs N0 hd hk hp
 rw[re,g1,Dr,Option.bind_some]
 dsimp only
 unfold MJ
 cases hm:mk env P xs with
 |none =>
  rw[hm]at g2
  have g2:u=-1:=g2
  have:(u==t)=false:=by rw[beq_eq_false_iff_ne];omega
  rw[this,cond_false]
  exact⟨_,_,_,rfl,rfl⟩
 |some s =>
  rw[hm]at g2
  have g2:(ys,u)=s:=g2
  subst g2
  have gr:=dq hp hm
  rw[Option.bind_some]
  dsimp only
  cases(u==t)with
  |true=>exact⟨_,_,_,rfl,rfl,decide_eq_true gr.2.1⟩
  |false=>exact⟨_,_,_,rfl,rfl⟩
theorem nw{l1:List eF}{l2:List gV}:∀(k:Nat) (a b:Int) (P:py) (env:List Int) (xs:List ab) (t:Int) (j:Nat),pK l1 l2 k a b=some P→k≤j→k≤N0→Di env→aF xs=true→ci xs t=true→Ai (cu N0 j (xs,env,l2,b,t)) (ei P env xs t)
 |0,a,b,P,env,xs,t,j,h,_,_,_,_,_=>by cases h
 |k+1,a,b,P,env,xs,t,0,h,hj,_,_,_,_=>by omega
 |k+1,a,b,P,env,xs,t,j+1,h,hj,hn,hE,hp,ht=>by
  have hx:=aX hp
  obtain⟨t0,t1⟩:=dY.1 ht
  obtain⟨_,hb,hc⟩:=pR h
  have mb:=Q3 (t:=t) hE h hn hp t0
  have e0:cu N0 (j+1) (xs,env,l2,b,t)=lq N0 (cu N0 j) (xs,env,l2,b,t):=rfl
  rw[e0]
  unfold lq ii
  dsimp only
  rw[hb,rL ht]
  simp only[cond_true]
  rcases hc with⟨hps,hl⟩|⟨p,Q,hps,h1,h2⟩|⟨p,q,Q,R,hps,h1,h2,h3⟩
  ·rcases ox hl with⟨c1,c2,c3,c4,rfl⟩|⟨_,c1,c2,c3,c4,c6,c7,rfl⟩|⟨_,_,c1,c2,c3,c4,c6,c7,rfl⟩
   ·rw[c2]
    exact mb
   ·rw[c2,c4,c3,zW hE.1 c6 c7]
    refine⟨env,xs,(env.getD (l1.getD a.toNat zP).2.1.toNat 0==t),rfl,?_⟩
    show match MJ env (.var (l1.getD a.toNat zP).2.1) xs t with
     |some s=>(env,xs)=s∧(env.getD (l1.getD a.toNat zP).2.1.toNat 0==t)=true
     |none=>(env.getD (l1.getD a.toNat zP).2.1.toNat 0==t)=false
    have hv:=JT (env:=env) xs (l1.getD a.toNat zP).2.1
    unfold MJ
    cases hm:mk env (.var (l1.getD a.toNat zP).2.1) xs with
    |none =>
     rw[hm]at hv
     have hv:env.getD (l1.getD a.toNat zP).2.1.toNat 0<0:=hv
     show(_==t)=false
     rw[beq_eq_false_iff_ne];omega
    |some s =>
     rw[hm]at hv
     have hv:(xs,env.getD (l1.getD a.toNat zP).2.1.toNat 0)=s:=hv
     subst hv
     rw[Option.bind_some]
     dsimp only
     cases(env.getD (l1.getD a.toNat zP).2.1.toNat 0==t)with
     |true=>exact⟨rfl,rfl⟩
     |false=>rfl
   ·rw[c2,c4,c3]
    have hi:aI (l1.getD a.toNat zP).2.1 (env.set (l1.getD a.toNat zP).2.1.toNat t).length=true:=by rw[List.length_set];exact zW hE.1 c6 c7
    rw[zW hE.1 c6 c7,hi,KE (i:=(l1.getD a.toNat zP).2.1.toNat) (by have:=hE.1;omega)]
    show Ai _ (bif decide (env.getD (l1.getD a.toNat zP).2.1.toNat 0<0)then some (env.set (l1.getD a.toNat zP).2.1.toNat t,xs)else bif env.getD (l1.getD a.toNat zP).2.1.toNat 0==t then some (env,xs)else none)
    by_cases hneg:env.getD (l1.getD a.toNat zP).2.1.toNat 0<0
    ·rw[decide_eq_true hneg]
     exact⟨_,_,_,rfl,rfl,by simp⟩
    ·rw[decide_eq_false hneg]
     cases hq:(env.getD (l1.getD a.toNat zP).2.1.toNat 0==t)with
     |true=>exact⟨_,_,_,rfl,rfl,rfl⟩
     |false=>exact⟨_,_,_,rfl,rfl⟩
  ·obtain⟨_,c4,c5,c6,c7,rfl⟩:=nA h2
   rcases c6 with e|e
   ·rw[e]at mb ⊢
    exact mb
   ·rw[e]at mb ⊢
    exact mb
  ·obtain⟨_,c4,c5⟩:=pV h3
   rcases c5 with⟨d1,d2,rfl⟩|⟨d1,d2,d3,rfl⟩
   ·rw[d2]
    exact mb
   ·rcases d3 with d3|d3|d3|d3|d3
    ·rw[d3]
     show Ai (cond ((nd xs t).1 != 2) (some (env,xs,false)) ((cu N0 j (xs,env,l2,(l2.getD b.toNat zS).2.1,(nd xs t).2.1)).bind fun r4=>(cond (!r4.2.2) (some (r4.1,xs,false)) ((cu N0 j (r4.2.1,r4.1,l2,(l2.getD b.toNat zS).2.2.1,(nd xs t).2.2)).bind fun r5=>(some (r5.1,r5.2.1,r5.2.2)))))) (bif (nd xs t).1==2 then(ei Q env xs (nd xs t).2.1).bind fun r=>ei R r.1 r.2 (nd xs t).2.2 else none)
     rw[show((nd xs t).1 != 2) = !((nd xs t).1==2)from rfl]
     cases hkd:((nd xs t).1==2)with
     |false=>exact⟨_,_,_,rfl,rfl⟩
     |true =>
      obtain⟨k1,k2⟩:=JZ hp ht (.inl (by simpa using hkd))
      obtain⟨e,ys,c,g1,g2⟩:=nw k p _ Q env xs (nd xs t).2.1 j h1 (by omega) (by omega) hE hp k1
      rw[Bool.not_true,cond_false,cond_true,g1,Option.bind_some]
      dsimp only
      cases hm:ei Q env xs (nd xs t).2.1 with
      |none =>
       rw[hm]at g2
       have g2:c=false:=g2
       subst g2
       exact⟨_,_,_,rfl,rfl⟩
      |some s =>
       rw[hm]at g2
       obtain⟨g2,g3⟩:=(g2:(e,ys)=s∧c=true)
       subst g2;subst g3
       obtain⟨f1,f2,w,f3⟩:=fU hE hp k1 hm
       obtain⟨e2,zs,c2,g4,g5⟩:=nw k q _ R e ys (nd xs t).2.2 j h2 (by omega) (by omega) f1 f2 (by rw[f3];exact kr k2)
       rw[Bool.not_true,cond_false,g4]
       exact⟨_,_,_,rfl,g5⟩
    ·rw[d3]
     show Ai (cond ((nd xs t).1 != 3) (some (env,xs,false)) ((cu N0 j (xs,env,l2,(l2.getD b.toNat zS).2.2.1,(nd xs t).2.2)).bind fun r4=>(cond (!r4.2.2) (some (r4.1,xs,false)) ((cu N0 j (r4.2.1,r4.1,l2,(l2.getD b.toNat zS).2.1,(nd xs t).2.1)).bind fun r5=>(some (r5.1,r5.2.1,r5.2.2)))))) (bif (nd xs t).1==3 then(ei R env xs (nd xs t).2.2).bind fun r=>ei Q r.1 r.2 (nd xs t).2.1 else none)
     rw[show((nd xs t).1 != 3) = !((nd xs t).1==3)from rfl]
     cases hkd:((nd xs t).1==3)with
     |false=>exact⟨_,_,_,rfl,rfl⟩
     |true =>
      obtain⟨k1,k2⟩:=JZ hp ht (by
       have:(nd xs t).1=3:=by simpa using hkd
       rw[this];decide)
      obtain⟨e,ys,c,g1,g2⟩:=nw k q _ R env xs (nd xs t).2.2 j h2 (by omega) (by omega) hE hp k2
      rw[Bool.not_true,cond_false,cond_true,g1,Option.bind_some]
      dsimp only
      cases hm:ei R env xs (nd xs t).2.2 with
      |none =>
       rw[hm]at g2
       have g2:c=false:=g2
       subst g2
       exact⟨_,_,_,rfl,rfl⟩
      |some s =>
       rw[hm]at g2
       obtain⟨g2,g3⟩:=(g2:(e,ys)=s∧c=true)
       subst g2;subst g3
       obtain⟨f1,f2,w,f3⟩:=fU hE hp k2 hm
       obtain⟨e2,zs,c2,g4,g5⟩:=nw k p _ Q e ys (nd xs t).2.1 j h1 (by omega) (by omega) f1 f2 (by rw[f3];exact kr k1)
       rw[Bool.not_true,cond_false,g4]
       exact⟨_,_,_,rfl,g5⟩
    ·rw[d3]
     show Ai (cond ((nd xs t).1 != 4) (some (env,xs,false)) ((cu N0 j (xs,env,l2,(l2.getD b.toNat zS).2.2.1,(nd xs t).2.2)).bind fun r4=>(cond (!r4.2.2) (some (r4.1,xs,false)) ((cu N0 j (r4.2.1,r4.1,l2,(l2.getD b.toNat zS).2.1,(nd xs t).2.1)).bind fun r5=>(some (r5.1,r5.2.1,r5.2.2)))))) (bif (nd xs t).1==4 then(ei R env xs (nd xs t).2.2).bind fun r=>ei Q r.1 r.2 (nd xs t).2.1 else none)
     rw[show((nd xs t).1 != 4) = !((nd xs t).1==4)from rfl]
     cases hkd:((nd xs t).1==4)with
     |false=>exact⟨_,_,_,rfl,rfl⟩
     |true =>
      obtain⟨k1,k2⟩:=JZ hp ht (by
       have:(nd xs t).1=4:=by simpa using hkd
       rw[this];decide)
      obtain⟨e,ys,c,g1,g2⟩:=nw k q _ R env xs (nd xs t).2.2 j h2 (by omega) (by omega) hE hp k2
      rw[Bool.not_true,cond_false,cond_true,g1,Option.bind_some]
      dsimp only
      cases hm:ei R env xs (nd xs t).2.2 with
      |none =>
       rw[hm]at g2
       have g2:c=false:=g2
       subst g2
       exact⟨_,_,_,rfl,rfl⟩
      |some s =>
       rw[hm]at g2
       obtain⟨g2,g3⟩:=(g2:(e,ys)=s∧c=true)
       subst g2;subst g3
       obtain⟨f1,f2,w,f3⟩:=fU hE hp k2 hm
       obtain⟨e2,zs,c2,g4,g5⟩:=nw k p _ Q e ys (nd xs t).2.1 j h1 (by omega) (by omega) f1 f2 (by rw[f3];exact kr k1)
       rw[Bool.not_true,cond_false,g4]
       exact⟨_,_,_,rfl,g5⟩
    ·rw[d3]at mb ⊢
     exact mb
    ·rw[d3]at mb ⊢
     exact mb
theorem vB {α:Type}(pre r:List α) (a d:α):(pre++a::r).getD pre.length d=a:=by
 rw[List.getD_eq_getElem?_getD,List.getElem?_append_right (Nat.le_refl _),Nat.sub_self];rfl
theorem Ck {α:Type}(pre r:List α) (a:α):aI (pre.length:Int) (pre++a::r).length=true:=ar (by simp)
theorem B5 {α:Type}(pre r:List α) (a:α):decide ((pre.length:Int)<((pre++a::r).length:Int))=true:=decide_eq_true (by simp;omega)
theorem B6 {α:Type}(pre:List α):decide ((pre.length:Int)<((pre++([]:List α)).length:Int))=false:=decide_eq_false (by simp)
theorem yE {α:Type}(pre r:List α) (a:α):pre++a::r=(pre++[a])++r:=by rw[List.append_assoc];rfl
theorem pE {α:Type}(pre:List α) (a:α):((pre++[a]).length:Int)=(pre.length:Int)+1:=by rw[List.length_append,List.length_singleton];omega
theorem JX{w p a b at_:Int}{env:List Int}{d dd:Bool}{key:Int}(he:env.length≤4294967296):l7 N0 (w,p,a,b,at_,env,d,dd,key)=some (w,p,a,b,at_,env,d,dd,key):=by
 unfold l7
 dsimp only
 have:aO (([]:List Int).length+env.length)=true:=by
  unfold aO
  simp
  omega
 rw[this];rfl
theorem JY{T:ByteArray}{P:py}(hT:wh T P){xs:List ab}(hp:aF xs=true){env:List Int}(he:env.length=26) (hv:fC xs env=true){t:Int}(ht:ci xs t=true) :
  ∃l2 e ys c,eT N0 T=some (l2,true)∧l8 N0 (xs,env,l2,t)=some (ys,e,c)∧(match ei P env xs t with
   |some s=>(e,ys)=s∧c=true
   |none=>c=false):=by
 obtain⟨b,l1,l2,k,e1,e2,hk,hd,hl1,hl2⟩:=hT
 obtain⟨e,ys,c,g1,g2⟩:=nw k _ _ P env xs t N0 hd hk hk ⟨he,uT hv⟩ hp ht
 refine⟨l2,e,ys,c,e2,?_,g2⟩
 unfold l8
 dsimp only
 have:aO (([]:List Int).length+env.length)=true:=by
  unfold aO
  simp
  omega
 rw[this,cond_true,List.nil_append,au (by omega) (by omega),g1];rfl
theorem nI{xs zs:List ab}:∀{env:List Int},fC xs env=true→fC (xs++zs) env=true
 |[],_=>rfl
 |v::r,h=>by
  have h:((v == -1 || ci xs v)&&fC xs r)=true:=h
  show((v == -1 || ci (xs++zs) v)&&fC (xs++zs) r)=true
  rw[Bool.and_eq_true,Bool.or_eq_true]at h ⊢
  exact⟨h.1.imp id kr,nI h.2⟩
theorem uS{xs:List ab}{t:Int}(ht:ci xs t=true):∀{env:List Int}(i:Nat),fC xs env=true→fC xs (env.set i t)=true
 |[],i,_=>rfl
 |v::r,0,h=>by
  have h:((v == -1 || ci xs v)&&fC xs r)=true:=h
  show((t == -1 || ci xs t)&&fC xs r)=true
  rw[Bool.and_eq_true]at h
  rw[ht,h.2,Bool.or_true];rfl
 |v::r,i+1,h=>by
  have h:((v == -1 || ci xs v)&&fC xs r)=true:=h
  show((v == -1 || ci xs v)&&fC xs (r.set i t))=true
  rw[Bool.and_eq_true]at h
  rw[h.1,uS ht i h.2];rfl
abbrev GoT:=List ab×Int×Int×Int×Int×Int×List Int×Bool×Bool×Int×List Int×Int
def goS:(GoT⊕(Int×List ab×Int×Int×Int×Int×Int×List Int×Bool×Bool×Int×List ab×Int×Int×Int×Int×Int×List Int×Bool×Bool×Int×List Int))→GoT
 | .inl a=>a
 | .inr b=>(b.2.1,b.2.2.1,b.2.2.2.1,b.2.2.2.2.1,b.2.2.2.2.2.1,b.2.2.2.2.2.2.1,b.2.2.2.2.2.2.2.1,b.2.2.2.2.2.2.2.2.1,b.2.2.2.2.2.2.2.2.2.1,b.2.2.2.2.2.2.2.2.2.2.1,b.2.2.2.2.2.2.2.2.2.2.2.2.2.2.2.2.2.2.2.2.2,b.1)
theorem l97{x:Int}(h0:97≤x) (h1:x≤122):IntKind.u8.wrap (x-97)=x-97∧IntKind.i64.wrap (IntKind.i64.wrap x-97)=x-97:=by
 have h:x=97∨x=98∨x=99∨x=100∨x=101∨x=102∨x=103∨x=104∨x=105∨x=106∨x=107∨x=108∨x=109∨x=110∨x=111∨x=112∨x=113∨x=114∨x=115∨x=116∨x=117∨x=118∨x=119∨x=120∨x=121∨x=122:=by omega
 rcases h with h|h|h|h|h|h|h|h|h|h|h|h|h|h|h|h|h|h|h|h|h|h|h|h|h|h<;>subst h<;>exact⟨by decide,by decide⟩
theorem n0s:∃m,N0=m+1:=⟨N0-1,by have:=n0;omega⟩
theorem Lo{xs:List ab}:∀{env:List Int},fC xs env=true→∀i:Nat,0≤env.getD i 0→i<env.length→ci xs (env.getD i 0)=true
 |[],_,i,_,h=>absurd h (Nat.not_lt_zero _)
 |v::r,hb,i,h0,hl=>by
  have hb:((v == -1 || ci xs v)&&fC xs r)=true:=hb
  rw[Bool.and_eq_true,Bool.or_eq_true]at hb
  match i with
  |0 =>
   rcases hb.1 with q|q
   ·have q:v=-1:=by simpa using q
    have h0:0≤v:=h0
    omega
   ·exact q
  |i+1=>exact Lo hb.2 i h0 (by simpa using hl)
def py.Fine:py→Prop
 | .name _=>True
 | .var i=>0≤i∧i<26
 | .ask i=>0≤i∧i<26
 | .un _ p=>p.Fine
 | .bin _ p q=>p.Fine∧q.Fine
 | .exp p q=>p.Fine∧q.Fine
theorem pT{l1:List eF}{l2:List gV}:∀{k:Nat}{a b:Int}{P:py},pK l1 l2 k a b=some P→P.Fine
 |0,a,b,P,h=>by cases h
 |k+1,a,b,P,h=>by
  obtain⟨_,_,hc⟩:=pR h
  rcases hc with⟨_,hl⟩|⟨p,Q,_,h1,h2⟩|⟨p,q,Q,R,_,h1,h2,h3⟩
  ·rcases ox hl with⟨_,_,_,_,rfl⟩|⟨_,_,_,_,_,c6,c7,rfl⟩|⟨_,_,_,_,_,_,c6,c7,rfl⟩
   ·exact trivial
   ·exact⟨c6,c7⟩
   ·exact⟨c6,c7⟩
  ·obtain⟨_,_,_,_,_,rfl⟩:=nA h2
   exact(show Q.Fine from pT h1)
  ·obtain⟨_,_,c5⟩:=pV h3
   rcases c5 with⟨_,_,rfl⟩|⟨_,_,_,rfl⟩
   ·exact⟨pT h1,pT h2⟩
   ·exact⟨pT h1,pT h2⟩
theorem wh.fine{T:ByteArray}{P:py}(h:wh T P):P.Fine:=by
 obtain⟨_,_,_,_,_,_,_,hd,_⟩:=h
 exact pT hd
theorem SE{env:List Int}:∀{P:py}{xs ys:List ab}{t:Int},P.Fine→aF xs=true→env.length=26→fC xs env=true→mk env P xs=some (ys,t)→ci ys t=true
 | .name c,xs,ys,t,_,hp,_,_,h=>by
  obtain⟨g,g2⟩:=fD hp h
  exact dY.2 ⟨g.2.1,g2⟩
 | .var i,xs,ys,t,hf,hp,he,hv,h=>by
  have h:(bif decide (env.getD i.toNat 0<0)then none else some (xs,env.getD i.toNat 0))=some (ys,t):=h
  by_cases hn:env.getD i.toNat 0<0
  ·rw[decide_eq_true hn]at h;cases h
  ·rw[decide_eq_false hn]at h
   obtain⟨rfl,rfl⟩:=Prod.mk.inj (Option.some.inj h)
   obtain⟨f1,f2⟩:=hf
   exact Lo hv _ (by omega) (by omega)
 | .ask i,xs,ys,t,_,_,_,_,h=>by cases h
 | .un k p,xs,ys,t,hf,hp,he,hv,h=>by
  obtain⟨r,h1,h2⟩:=Option.bind_eq_some_iff.1 (show(mk env p xs).bind _=some (ys,t)from h)
  have g1:=dq hp (show mk env p xs=some (r.1,r.2)from h1)
  obtain⟨g,g2⟩:=fD g1.1 h2
  exact dY.2 ⟨g.2.1,g2⟩
 | .bin k p q,xs,ys,t,hf,hp,he,hv,h=>by
  obtain⟨r,h1,h2⟩:=Option.bind_eq_some_iff.1 (show(mk env p xs).bind _=some (ys,t)from h)
  have g1:=dq hp (show mk env p xs=some (r.1,r.2)from h1)
  obtain⟨s,h3,h4⟩:=Option.bind_eq_some_iff.1 h2
  have g2:=dq g1.1 (show mk env q r.1=some (s.1,s.2)from h3)
  obtain⟨g,g3⟩:=fD g2.1 h4
  exact dY.2 ⟨g.2.1,g3⟩
 | .exp p q,xs,ys,t,hf,hp,he,hv,h=>by
  obtain⟨r,h1,h2⟩:=Option.bind_eq_some_iff.1 (show(mk env p xs).bind _=some (ys,t)from h)
  have g1:=dq hp (show mk env p xs=some (r.1,r.2)from h1)
  obtain⟨s,h3,h4⟩:=Option.bind_eq_some_iff.1 h2
  have g2:=dq g1.1 (show mk env q r.1=some (s.1,s.2)from h3)
  obtain⟨g,g3⟩:=fD g2.1 (sI h4)
  exact dY.2 ⟨g.2.1,g3⟩
def wl (env e:List Int):Prop:=∀i:Nat,env.getD i 0≠-1→e.getD i 0=env.getD i 0
theorem wl.refl (env:List Int):wl env env:=fun _ _=>rfl
theorem wl.trans{a b c:List Int}(h1:wl a b) (h2:wl b c):wl a c:=fun i h=>(h2 i (by rw[h1 i h];exact h)).trans (h1 i h)
theorem uz{env e:List Int}{P:py}{xs ys:List ab}{t:Int}(hp:aF xs=true) (hv:fC xs env=true) (h:MJ env P xs t=some (e,ys)):fC ys e=true∧wl env e:=by
 obtain⟨r,h1,h2⟩:=Option.bind_eq_some_iff.1 (show(mk env P xs).bind _=some (e,ys)from h)
 obtain⟨_,_,zs,hz⟩:=dq hp (show mk env P xs=some (r.1,r.2)from h1)
 cases hc:(r.2==t)with
 |false=>rw[hc]at h2;cases h2
 |true =>
  rw[hc]at h2
  obtain⟨rfl,rfl⟩:=Prod.mk.inj (Option.some.inj h2)
  exact⟨by rw[hz];exact nI hv,wl.refl _⟩
theorem ov:∀{P:py}{env e:List Int}{xs ys:List ab}{t:Int},Di env→fC xs env=true→aF xs=true→ci xs t=true→ei P env xs t=some (e,ys)→fC ys e=true∧wl env e
 | .name c,env,e,xs,ys,t,hE,hv,hp,ht,h=>uz hp hv h
 | .var i,env,e,xs,ys,t,hE,hv,hp,ht,h=>uz hp hv h
 | .un k p,env,e,xs,ys,t,hE,hv,hp,ht,h=>uz hp hv h
 | .exp p q,env,e,xs,ys,t,hE,hv,hp,ht,h=>uz hp hv h
 | .ask i,env,e,xs,ys,t,hE,hv,hp,ht,h=>by
  have h:(bif decide (env.getD i.toNat 0<0)then some (env.set i.toNat t,xs)else bif env.getD i.toNat 0==t then some (env,xs)else none)=some (e,ys):=h
  by_cases hn:env.getD i.toNat 0<0
  ·rw[decide_eq_true hn]at h
   obtain⟨rfl,rfl⟩:=Prod.mk.inj (Option.some.inj h)
   refine⟨uS ht _ hv,fun j hj=>?_⟩
   have hij:i.toNat≠j:=fun q=>by
    rw[←q]at hj
    exact hj (hE.2 _ hn)
   rw[List.getD_eq_getElem?_getD,List.getD_eq_getElem?_getD,List.getElem?_set_ne hij]
  ·rw[decide_eq_false hn]at h
   cases hc:(env.getD i.toNat 0==t)with
   |false=>rw[hc]at h;cases h
   |true =>
    rw[hc]at h
    obtain⟨rfl,rfl⟩:=Prod.mk.inj (Option.some.inj h)
    exact⟨hv,wl.refl _⟩
 | .bin k p q,env,e,xs,ys,t,hE,hv,hp,ht,h=>by
  have h:(bif k==2 then(bif (nd xs t).1==2 then(ei p env xs (nd xs t).2.1).bind fun r=>ei q r.1 r.2 (nd xs t).2.2 else none)
   else bif k==3 || k==4 then(bif (nd xs t).1==k then(ei q env xs (nd xs t).2.2).bind fun r=>ei p r.1 r.2 (nd xs t).2.1 else none)
   else MJ env (.bin k p q) xs t)=some (e,ys):=h
  cases h2:(k==2)with
  |true =>
   rw[h2,cond_true]at h
   cases h3:((nd xs t).1==2)with
   |false=>rw[h3]at h;cases h
   |true =>
    rw[h3,cond_true]at h
    obtain⟨k1,k2⟩:=JZ hp ht (.inl (by simpa using h3))
    obtain⟨r,h4,h5⟩:=Option.bind_eq_some_iff.1 h
    have h4:ei p env xs (nd xs t).2.1=some (r.1,r.2):=h4
    obtain⟨g1,g2,w,g3⟩:=fU hE hp k1 h4
    obtain⟨m1,m2⟩:=ov hE hv hp k1 h4
    obtain⟨m3,m4⟩:=ov g1 m1 g2 (by rw[g3];exact kr k2) h5
    exact⟨m3,m2.trans m4⟩
  |false =>
   rw[h2,cond_false]at h
   cases h3:(k==3 || k==4)with
   |false=>rw[h3,cond_false]at h;exact uz hp hv h
   |true =>
    rw[h3,cond_true]at h
    cases h6:((nd xs t).1==k)with
    |false=>rw[h6]at h;cases h
    |true =>
     rw[h6,cond_true]at h
     have h7:(nd xs t).1=k:=by simpa using h6
     have h8:k=3∨k=4:=by simpa using h3
     obtain⟨k1,k2⟩:=JZ hp ht (by rw[h7];exact .inr h8)
     obtain⟨r,h4,h5⟩:=Option.bind_eq_some_iff.1 h
     have h4:ei q env xs (nd xs t).2.2=some (r.1,r.2):=h4
     obtain⟨g1,g2,w,g3⟩:=fU hE hp k2 h4
     obtain⟨m1,m2⟩:=ov hE hv hp k2 h4
     obtain⟨m3,m4⟩:=ov g1 m1 g2 (by rw[g3];exact kr k1) h5
     exact⟨m3,m2.trans m4⟩
theorem sW{xs:List ab}{w p a b at_:Int}{env:List Int}{d dd:Bool}{key:Int}(hw:w=1∨w=2∨w=3) (hs:p=0∨p=1) (ha:0≤a∧a≤4) (hb:0≤b∧b≤4) (hab:a≠b) (hp:aF xs=true) (he:env.length=26) (hv:fC xs env=true)
  (h0:0≤at_∧at_≤5) (hd:d=(at_==5)) (h1:d=true→dd=false∧ci xs key=true) (h2:d=false→key=-1):kZ xs (w,p,a,b,at_,env,d,dd,key)=true:=by
 have hx:=aX hp
 have h:=(vw (xs:=xs) (by omega) (x:=(w,p,a,b,at_,env,d,dd,key)) (show env.length≤4294967296 by omega)).1
 dsimp only at h
 unfold gU at h
 obtain⟨r1,r2,r3⟩:=sC hw hs
 have hP:(decide (xs.length≤500)&&cG N0 [] xs)=true:=hp
 have k1:(decide (a≥0)&&decide (a≤4))=true:=by simp;omega
 have k2:(decide (b≥0)&&decide (b≤4))=true:=by simp;omega
 have k3:(a==b)=false:=by simpa using hab
 have k4:(decide (at_≥0)&&decide (at_≤((5:Nat):Int)))=true:=by simp;omega
 have k5:((at_==((5:Nat):Int)) != d)=false:=by
  rw[show(at_==((5:Nat):Int))=(at_==5)from rfl, ←hd]
  cases d<;>rfl
 simp only[sY N0 n0 (show xs.length≤4294967296 by omega) (show env.length≤4294967296 by omega),uX,Option.bind_some,r1,eK,nD N0 (show xs.length≤4294967296 by omega),r3,Bool.not_true,cond_false,k1,k2,k3,hv,decide_eq_true he,hP,Bool.and_true,k4,k5]at h
 cases d with
 |true =>
  obtain⟨q1,q2⟩:=h1 rfl
  subst q1
  simp only[q2,cond_true,cond_false]at h
  exact(Option.some.inj h).symm
 |false =>
  have q:=h2 rfl
  subst q
  simp only[cond_false]at h
  exact(Option.some.inj h).symm
structure uY (xs:List ab) (at_ key:Int) (out:List Int) (ys:List ab) (at':Int) (env':List Int) (d' dd':Bool) (key':Int) (out':List Int):Prop where
 pool:aF ys=true
 len:env'.length=26
 few:out'.length≤5
 env:fC ys env'=true
 grows:∃zs,ys=xs++zs
 on:at_≤at'
 most:at'≤5
 done:d'=(at'==5)
 key1:d'=true→dd'=false∧ci ys key'=true
 key0:d'=false→key'=key
 sent:∀v∈out',v∈out∨ci ys v=true
theorem uY.stay{xs:List ab}{at_ key:Int}{out env:List Int}{dd:Bool}(h0:at_<5) (hp:aF xs=true) (he:env.length=26) (hv:fC xs env=true) (ho:out.length≤5):uY xs at_ key out xs at_ env false dd key out :=
 ⟨hp,he,ho,hv,⟨[],by simp⟩,Int.le_refl _,by omega,by rw[eq_comm,beq_eq_false_iff_ne];omega,fun q=>(by cases q),fun _=>rfl,fun v h => .inl h⟩
theorem uY.go{xs zs ys:List ab}{at_ at' key key2:Int}{out out2 env' out':List Int}{d' dd':Bool}{key':Int}(h:uY zs (at_+1) key2 out2 ys at' env' d' dd' key' out') (g:∃us,zs=xs++us) (hk:key2=key∨at_=4) (ho:∀v∈out2,v∈out∨ci zs v=true):uY xs at_ key out ys at' env' d' dd' key' out':=by
 obtain⟨us,rfl⟩:=g
 obtain⟨vs,hvs⟩:=h.grows
 refine⟨h.pool,h.len,h.few,h.env,⟨us++vs,by rw[hvs,List.append_assoc]⟩,by have:=h.on;omega,h.most,h.done,h.key1,fun q=>?_,fun v hv=>?_⟩
 ·rcases hk with e|e
  ·rw[←e];exact h.key0 q
  ·have q1:=h.done
   rw[q,show at'=5 by have:=h.on;have:=h.most;omega]at q1
   cases q1
 ·rcases h.sent v hv with q|q
  ·rcases ho v q with q|q
   ·exact .inl q
   ·exact .inr (by rw[hvs];exact kr q)
  ·exact .inr q
abbrev bs (T:ByteArray):List UInt8:=T.data.toList
def MS:ByteArray:=⟨#[36,63,120]⟩
theorem PH (a:Int):0≤bits .and .i64 a 255∧bits .and .i64 a 255≤255:=by
 have h:((BitVec.ofInt 64 a) &&& (BitVec.ofInt 64 255)).toNat≤255:=by
  rw[BitVec.toNat_and]
  exact Nat.and_le_right
 have e:bits .and .i64 a 255=IntKind.i64.wrap (((BitVec.ofInt 64 a) &&& (BitVec.ofInt 64 255)).toNat:Int):=rfl
 rw[e,au (by omega) (by omega)]
 omega
def Cu (b:List Int) (i:Int):Prop:=0≤i∧b.length≤4294967296
theorem yA (n:Nat){b:List Int}{i:Int}(h:Int) (hc:Cu b i):∃i' h' v,gI n (b,i,h)=some (b,i',h',v)∧Cu b i'∧0≤v∧v≤255:=by
 obtain⟨h0,h1⟩:=hc
 unfold gI
 dsimp only
 rw[decide_eq_true (show(0:Int)≤33 by decide),decide_eq_true (show(0:Int)≤45 by decide),cond_true,cond_true]
 by_cases hl:i<(b.length:Int)
 ·have e:i=((i.toNat:Nat):Int):=by omega
  have hin:aI i b.length=true:=by rw[e];exact ar (by omega)
  rw[decide_eq_true hl,hin,cond_true,cond_true,au (n:=i+1) (by omega) (by omega)]
  exact⟨_,_,_,rfl,⟨by omega,h1⟩,PH _⟩
 ·rw[decide_eq_false hl,cond_false]
  exact⟨_,_,_,rfl,⟨h0,h1⟩,PH _⟩
theorem KB{x k:Int}(hx:0≤x) (hk:0<k):0≤x.tmod k∧x.tmod k<k:=by
 rw[Int.tmod_eq_emod_of_nonneg hx]
 exact⟨Int.emod_nonneg _ (by omega),Int.emod_lt_of_pos _ hk⟩
def Bel (k v:Int):Prop:=(k≤0∧v=0)∨(0≤v∧v<k)
theorem cR (n:Nat){b:List Int}{i:Int}(h k:Int) (hc:Cu b i):∃i' h' v,ai n (b,i,h,k)=some (b,i',h',v)∧Cu b i'∧Bel k v:=by
 unfold ai
 dsimp only
 by_cases h0:k≤0
 ·rw[decide_eq_true h0,cond_true]
  exact⟨_,_,_,rfl,hc, .inl ⟨h0,rfl⟩⟩
 ·have hk:(k != 0)=true:=by rw[bne_iff_ne];omega
  rw[decide_eq_false h0,cond_false]
  by_cases h1:k≤256
  ·rw[decide_eq_true h1,cond_true]
   obtain⟨i1,h1,v1,e1,c1,q1,q2⟩:=yA n h hc
   rw[e1,Option.bind_some]
   dsimp only
   rw[hk,cond_true]
   exact⟨_,_,_,rfl,c1, .inr (KB q1 (by omega))⟩
  ·rw[decide_eq_false h1,cond_false]
   obtain⟨i1,h1,v1,e1,c1,p1,q1⟩:=yA n h hc
   rw[e1,Option.bind_some]
   dsimp only
   obtain⟨i2,h2,v2,e2,c2,p2,q2⟩:=yA n h1 c1
   rw[e2,Option.bind_some]
   dsimp only
   obtain⟨i3,h3,v3,e3,c3,p3,q3⟩:=yA n h2 c2
   rw[e3,Option.bind_some]
   dsimp only
   obtain⟨i4,h4,v4,e4,c4,p4,q4⟩:=yA n h3 c3
   rw[e4,Option.bind_some]
   dsimp only
   rw[hk,cond_true]
   have w1:IntKind.i64.wrap (v1*16777216)=v1*16777216:=au (by omega) (by omega)
   have w2:IntKind.i64.wrap (v2*65536)=v2*65536:=au (by omega) (by omega)
   have w3:IntKind.i64.wrap (v3*256)=v3*256:=au (by omega) (by omega)
   have w4:IntKind.i64.wrap (v1*16777216+v2*65536)=v1*16777216+v2*65536:=au (by omega) (by omega)
   have w5:IntKind.i64.wrap (v1*16777216+v2*65536+v3*256)=v1*16777216+v2*65536+v3*256:=au (by omega) (by omega)
   have w6:IntKind.i64.wrap (v1*16777216+v2*65536+v3*256+v4)=v1*16777216+v2*65536+v3*256+v4:=au (by omega) (by omega)
   rw[w1,w2,w3,w4,w5,w6]
   exact⟨_,_,_,rfl,c4, .inr (KB (by omega) (by omega))⟩
theorem Fk (n:Nat){b:List Int}{i:Int}(h k:Int) (hc:Cu b i):∃i' h' v,fP n (b,i,h,k)=some (b,i',h',v)∧Cu b i':=by
 unfold fP
 dsimp only
 obtain⟨i1,h1,v1,e1,c1,_⟩:=cR n h k hc
 rw[e1,Option.bind_some]
 exact⟨_,_,_,rfl,c1⟩
theorem JB (n:Nat){b:List Int}{i:Int}(h:Int) (l:List Int) (hl:l≠[]) (hc:Cu b i):∃i' h' v,jy n (b,i,h,l)=some (b,i',h',v)∧Cu b i'∧v∈l:=by
 unfold jy
 dsimp only
 obtain⟨i1,h1,v1,e1,c1,hb⟩:=cR n h (l.length:Int) hc
 have hpos:0<l.length:=List.length_pos_iff.2 hl
 rw[e1,Option.bind_some]
 dsimp only
 have hv:0≤v1∧v1<(l.length:Int):=by
  rcases hb with⟨q,_⟩|q
  ·omega
  ·exact q
 have e:v1=((v1.toNat:Nat):Int):=by omega
 have hin:aI v1 l.length=true:=by rw[e];exact ar (by omega)
 rw[hin,cond_true]
 refine⟨_,_,_,rfl,c1,?_⟩
 rw[List.getD_eq_getElem?_getD,List.getElem?_eq_getElem (by omega),Option.getD_some]
 exact List.getElem_mem _
theorem G0{b:List Int}(hb:b.length≤4294967296):∀(m:Nat) (h:Int) (j:Nat),4001<m+j→j≤4000→∃h',fQ N0 m (b,h,(j:Int))=some (b,h')
 |0,h,j,hm,hj=>by omega
 |m+1,h,j,hm,hj=>by
  unfold fQ
  dsimp only
  by_cases h1:j<b.length
  ·rw[decide_eq_true (show(j:Int)<(b.length:Int)by omega),cond_true]
   by_cases h2:j<4000
   ·rw[decide_eq_true (show(j:Int)<4000 by omega),cond_true,ar h1,cond_true,au (n:=(j:Int)+1) (by omega) (by omega),show(j:Int)+1=((j+1:Nat):Int)by omega]
    exact G0 hb m _ (j+1) (by omega) (by omega)
   ·rw[decide_eq_false (show ¬(j:Int)<4000 by omega),cond_false]
    exact⟨_,rfl⟩
  ·rw[decide_eq_false (show ¬(j:Int)<(b.length:Int)by omega),cond_false]
   exact⟨_,rfl⟩
theorem Uf{b:List Int}(hb:b.length≤4294967296):∃h,pY N0 b=some (false,b,(0:Int),h)∧Cu b 0:=by
 unfold pY
 have:=n0
 obtain⟨h',e⟩:=G0 hb N0 (IntKind.i64.wrap ((12241:Int)+(b.length:Int))) 0 (by omega) (by omega)
 rw[show((0:Nat):Int)=(0:Int)from rfl]at e
 rw[e,Option.bind_some]
 exact⟨_,rfl,by decide,hb⟩
theorem Li{a:Int}{n m:Nat}(h:aI a n=true) (hm:n≤m):aI a m=true:=by
 unfold aI at h ⊢
 simp at h ⊢
 omega
theorem Lh{a:Int}{n:Nat}(h:aI a n=true):0≤a∧a.toNat<n:=by
 unfold aI at h
 simp at h
 omega
theorem Ix {α:Type}{l x:List α}{i:Nat}(h:i<l.length) (d:α):(l++x).getD i d=l.getD i d:=by
 rw[List.getD_eq_getElem?_getD,List.getD_eq_getElem?_getD,List.getElem?_append_left h]
theorem vC{l1 x1:List eF}{l2 x2:List gV}:∀{k k':Nat}{a b:Int}{P:py},pK l1 l2 k a b=some P→k≤k'→pK (l1++x1) (l2++x2) k' a b=some P
 |0,k',a,b,P,h,_=>by cases h
 |k+1,0,a,b,P,h,hk=>by omega
 |k+1,k'+1,a,b,P,h,hk=>by
  obtain⟨h1,h2,hc⟩:=pR h
  have g1:=(Lh h1).2
  have g2:=(Lh h2).2
  unfold pK
  rw[Li h1 (by simp),Li h2 (by simp),Bool.and_true,cond_true,Ix g1,Ix g2]
  rcases hc with⟨hps,hl⟩|⟨p,Q,hps,q1,q2⟩|⟨p,q,Q,R,hps,q1,q2,q3⟩
  ·rw[hps];exact hl
  ·rw[hps]
   dsimp only
   rw[vC q1 (by omega),Option.bind_some]
   exact q2
  ·rw[hps]
   dsimp only
   rw[vC q1 (by omega),Option.bind_some,vC q2 (by omega),Option.bind_some]
   exact q3
theorem Lb {α:Type}(l:List α) (x d:α):(l++[x]).getD (((l++[x]).length:Int)-1).toNat d=x∧aI (((l++[x]).length:Int)-1) (l++[x]).length=true:=by
 have e:(((l++[x]).length:Int)-1).toNat=l.length:=by rw[pE];omega
 have e2:((l++[x]).length:Int)-1=(l.length:Int):=by rw[pE];omega
 refine⟨by rw[e];exact vB l [] x d,?_⟩
 rw[e2]
 exact ar (by simp)
theorem Pp{l1:List eF}{l2:List gV}{k:Nat}{s c p kd A B:Int}{P Q:py}{u:Bool}(h:pK l1 l2 k p A=some Q) (h2:JI (s,(c,[p])) (kd,(A,(B,u))) Q=some P) :
  pK (l1++[(s,(c,[p]))]) (l2++[(kd,(A,(B,u)))]) (k+1) (((l1++[(s,(c,[p]))]).length:Int)-1) (((l2++[(kd,(A,(B,u)))]).length:Int)-1)=some P:=by
 obtain⟨a1,a2⟩:=Lb l1 (s,(c,[p])) zP
 obtain⟨b1,b2⟩:=Lb l2 (kd,(A,(B,u))) zS
 unfold pK
 rw[a2,b2,a1,b1]
 dsimp only
 rw[Bool.and_true,cond_true,vC h (Nat.le_refl _),Option.bind_some]
 exact h2
abbrev RdO:=ByteArray×Int×Int×ByteArray×Bool×Bool×Bool×List eF×Int
abbrev PsO:=List gV×Int×Int×Bool
def py.lets:py→List Int
 | .ask i=>[i]
 | .un _ p=>p.lets
 | .bin _ p q=>p.lets++q.lets
 | .exp p q=>p.lets++q.lets
 |_=>[]
def B9 (l:List eF):List Int:=l.flatMap fun x=>bif x.1==63 then [x.2.1]else []
def B8 (l:List gV):List Int:=l.flatMap fun y=>bif y.1==9&&y.2.2.2 then [y.2.1]else []
theorem MT (a b:List eF):B9 (a++b)=B9 a++B9 b:=List.flatMap_append
theorem MQ (a b:List gV):B8 (a++b)=B8 a++B8 b:=List.flatMap_append
theorem MR (x:eF):B9 [x]=bif x.1==63 then [x.2.1]else []:=by show _++[]=_;rw[List.append_nil]
theorem MP (y:gV):B8 [y]=bif y.1==9&&y.2.2.2 then [y.2.1]else []:=by show _++[]=_;rw[List.append_nil]
theorem Mz{x:eF}{y:gV}{P Q:py}(h:JI x y Q=some P):B9 [x]=[]∧B8 [y]=[]∧P.lets=Q.lets:=by
 rw[MR,MP]
 obtain⟨⟨_,_,c3⟩,_,_,c4,_,rfl⟩:=nA h
 rw[c3,show(y.1==9)=false from by rw[beq_eq_false_iff_ne];omega]
 exact⟨rfl,rfl,rfl⟩
def Zy (T:ByteArray) (i:Nat):List Int:=bif bt T (i:Int)==63 then [bt T ((i:Int)+1)-97]else []
def Jj (T:ByteArray) (a b:Nat):List Int:=(List.range' a (b-a)).flatMap (Zy T)
theorem N6{T:ByteArray}{a b c:Nat}(h1:a≤b) (h2:b≤c):Jj T a c=Jj T a b++Jj T b c:=by
 unfold Jj
 rw[←List.flatMap_append]
 congr 1
 have:=List.range'_append (s:=a) (m:=b-a) (n:=c-b) (step:=1)
 rw[show a+1*(b-a)=b by omega,show b-a+(c-b)=c-a by omega]at this
 exact this.symm
def acW (T:ByteArray) (a:Nat) (l1:List eF) (l2:List gV) (ri:Option RdO) (rs:Option PsO):Prop :=
 (∃(a':Nat) (l1':List eF) (l2':List gV) (k:Nat) (P:py),ri=some (T,(a':Int),(0:Int),MS,false,false,false,l1',(l1'.length:Int)-1)∧rs=some (l2',(l2'.length:Int)-1,(a':Int),true)∧a<a'∧a'≤T.size∧l1'.length=l2'.length∧l1'.length+a≤l1.length+a' ∧
  (∃x,l1'=l1++x∧B9 x=P.lets∧Jj T a a'=P.lets)∧(∃y,l2'=l2++y∧B8 y=P.lets)∧k+a≤a'∧pK l1' l2' k ((l1'.length:Int)-1) ((l2'.length:Int)-1)=some P) ∨
 (∃a2 c l1' v l2',ri=some (T,a2,c,MS,false,false,false,l1',v)∧c≠0∧rs=some (l2',(0:Int),(0:Int),false))
theorem Pd {α:Type}(l:List α) (x:α):(((l++[x]).length:Int)-1)=(l.length:Int):=by rw[pE];omega
theorem acW.one{T:ByteArray}{a b:Nat}{l1 m1:List eF}{l2 m2:List gV}{s kd:Int}{k:Nat}{P Q:py}(h1:a<b) (h2:b≤T.size) (hl:m1.length=m2.length) (hb:m1.length+a<l1.length+b){f:Nat}(hf:a≤f) (hfb:f≤b) (hsc:Jj T a f=[]) (g1:∃x,m1=l1++x∧B9 x=Q.lets∧Jj T f b=Q.lets) (g2:∃y,m2=l2++y∧B8 y=Q.lets) (hk:k+a<b)
  (hd:pK m1 m2 k ((m1.length:Int)-1) ((m2.length:Int)-1)=some Q) (hp:JI (s,(0,[(m1.length:Int)-1])) (kd,((m2.length:Int)-1,(0,Q.asks))) Q=some P) :
  acW T a l1 l2 (some (T,(b:Int),(0:Int),MS,false,false,false,m1++[(s,(0,[(m1.length:Int)-1]))],((m1++[(s,(0,[(m1.length:Int)-1]))]).length:Int)-1)) (some (m2++[(kd,((m2.length:Int)-1,(0,Q.asks)))],(m2.length:Int),(b:Int),true)):=by
 obtain⟨x,rfl,gx,gs⟩:=g1
 obtain⟨y,rfl,gy⟩:=g2
 obtain⟨e1,e2,e3⟩:=Mz hp
 exact .inl ⟨b,_,_,k+1,P,rfl,by rw[Pd],h1,h2,by simp at hl ⊢;omega,by rw[List.length_append,List.length_singleton];omega,⟨_,List.append_assoc ..,by rw[MT,gx,e1,e3,List.append_nil],by rw[N6 hf hfb,hsc,gs,e3,List.nil_append]⟩,⟨_,List.append_assoc ..,by rw[MQ,gy,e2,e3,List.append_nil]⟩,by omega,Pp hd hp⟩
section
variable{T:ByteArray}{a:Nat}{c:UInt8}{r:List UInt8}{l1:List eF}{l2:List gV}{i1 i2 n:Nat}
end
section
variable{T:ByteArray}{a:Nat}{c:UInt8}{r:List UInt8}{l1:List eF}{l2:List gV}{i1 i2 n:Nat}
end
def py.plain:py→py
 | .ask i => .var i
 | .un k p => .un k p.plain
 | .bin k p q => .bin k p.plain q.plain
 | .exp p q => .exp p.plain q.plain
 |p=>p
theorem OX{xs:List ab}{ys:List ab}{t:Int}{a:Int}(hp:aF xs=true) (h0:0≤a) (h1:a≤199):gP N0 (1,a,0,(xs.length:Int))=true:=by
 have hr:∀v lo hi:Int,aD N0 (v,lo,hi)=some (decide (v≥lo)&&decide (v≤hi)):=fun v lo hi=>by
  unfold aD
  cases q:decide (v≥lo)<;>(simp[q])
 show(bH N0 (1,a,0,(xs.length:Int))).getD false=true
 unfold bH
 dsimp only
 rw[hr,show bh N0 1=some 0 from rfl]
 simp only[Option.bind_some,beq_self_eq_true,cond_true,decide_eq_true h0,decide_eq_true h1,Bool.and_self]
 rfl
theorem Jl {α:Type}{xs:List α}(h:xs.length≤1000){k:α}:aO (xs.length+[k].length)=true:=by
 unfold aO;rw[List.length_singleton];exact decide_eq_true (by omega)
theorem AC:∀(m:Nat) (l:List Int),l.length≤26→26<m+l.length→∃e,dR N0 m (l,(l.length:Int))=some e∧e.length=26∧((∀v∈l,v=-1)→∀v∈e,v=-1)
 |0,l,h,hm=>by omega
 |m+1,l,h,hm=>by
  unfold dR
  dsimp only
  by_cases hq:l.length<26
  ·rw[decide_eq_true (show(l.length:Int)<26 by omega),cond_true,Jl (by omega),cond_true,au (n:=(l.length:Int)+1) (by omega) (by omega), ←pE l (-1)]
   obtain⟨e,e1,e2,e3⟩:=AC m (l++[-1]) (by simp;omega) (by simp;omega)
   refine⟨e,e1,e2,fun hl=>e3 fun v hv=>?_⟩
   rcases List.mem_append.1 hv with q|q
   ·exact hl v q
   ·exact List.mem_singleton.1 q
  ·rw[decide_eq_false (show ¬(l.length:Int)<26 by omega),cond_false]
   exact⟨l,rfl,by omega,fun h=>h⟩
theorem Nd:∃e,oq N0 ()=some e∧e.length=26∧∀v∈e,v=-1:=by
 unfold oq
 have:=n0
 obtain⟨e,e1,e2,e3⟩:=AC N0 [] (by simp) (by omega)
 have e1:dR N0 N0 (([]:List Int),(0:Int))=some e:=e1
 rw[e1,Option.bind_some]
 exact⟨e,rfl,e2,e3 (fun v hv=>by cases hv)⟩
theorem iT (a b:ByteArray):(a++b).size=a.size+b.size:=ByteArray.size_append
theorem wu (l:List Int):(pL l).size=l.length:=by
 show(l.map _).toArray.size=_
 rw[List.size_toArray,List.length_map]
theorem DL:∀(k m:Nat) (x:Int) (s:ByteArray),0≤x→x≤1000000→x<10 ^ k→k<m→s.size+k≤1000→∃r,eQ N0 m (x,s)=some r∧r.size≤s.size+k
 |_,0,x,s,_,_,_,h,_=>by omega
 |0,m+1,x,s,h0,hx,h1,hm,hs=>by
  unfold eQ
  dsimp only
  rw[decide_eq_false (show ¬x>0 by have:(10:Int) ^ 0=1:=rfl;omega),cond_false]
  exact⟨s,rfl,by omega⟩
 |k+1,m+1,x,s,h0,hx,h1,hm,hs=>by
  unfold eQ
  dsimp only
  by_cases hq:x>0
  ·rw[decide_eq_true hq,cond_true,show((10:Int) != 0)=true from rfl,cond_true,m8 (by rw[wu,List.length_singleton];omega),cond_true,cond_true]
   have hd:x.tdiv 10=x / 10:=Int.tdiv_eq_ediv_of_nonneg h0
   have h2:x / 10<10 ^ k:=by
    rw[Int.pow_succ]at h1
    omega
   rw[hd,au (n:=x / 10) (by omega) (by omega)]
   obtain⟨r,e1,e2⟩:=DL k m (x / 10) (pL [(IntKind.u8.wrap (IntKind.i64.wrap ((48:Int)+(x.tmod (10:Int)))))]++s) (by omega) (by omega) h2 (by omega) (by rw[iT,wu,List.length_singleton];omega)
   exact⟨r,e1,by rw[iT,wu,List.length_singleton]at e2;omega⟩
  ·rw[decide_eq_false hq,cond_false]
   exact⟨s,rfl,by omega⟩
theorem Mc{xs:List ab}{w p a b at_:Int}{env:List Int}{d dd:Bool}{key t:Int}(hx:xs.length≤4294967296) (he:env.length≤4294967296) (h:kZ xs (w,p,a,b,at_,env,d,dd,key)=true) :
  ∃ys at' e d' dd' ok,dz N0 (xs,w,p,a,b,at_,env,d,dd,key,t)=some (ys,w,p,a,b,at',e,d',dd',key,ok)∧kZ ys (w,p,a,b,at',e,d',dd',key)=true∧e.length=26∧aF ys=true∧∃zs,ys=xs++zs:=by
 have hg:=FF hx (x:=(w,p,a,b,at_,env,d,dd,key)) he h
 have g1:w=1∨w=2∨w=3:=hg.way
 have g2:p=0∨p=1:=hg.side
 have g3:fC xs env=true:=hg.env
 have g4:env.length=26:=hg.len
 have g5:0≤at_∧at_≤5:=hg.at0
 have g6:d=(at_==5):=hg.done
 have hp:=hg.pool
 obtain⟨r1,r2,r3⟩:=sC g1 g2
 have no:dz N0 (xs,w,p,a,b,at_,env,d,dd,key,t)=some (xs,w,p,a,b,at_,env,d,dd,key,false) →
   ∃ys at' e d' dd' ok,dz N0 (xs,w,p,a,b,at_,env,d,dd,key,t)=some (ys,w,p,a,b,at',e,d',dd',key,ok)∧kZ ys (w,p,a,b,at',e,d',dd',key)=true∧e.length=26∧aF ys=true∧∃zs,ys=xs++zs:=fun q=>⟨_,_,_,_,_,_,q,h,g4,hp,[],by simp⟩
 cases d with
 |true =>
  refine no ?_
  unfold dz eg
  simp only[Option.bind_some,Bool.not_true,cond_false,cond_true]
 |false =>
  cases dd with
  |true =>
   refine no ?_
   unfold dz eg
   simp only[Option.bind_some,Bool.not_true,cond_false,cond_true]
  |false =>
   have a5:at_≠5:=fun q=>by rw[q]at g6;exact absurd g6 (by decide)
   have hin:aI at_ 5=true:=by
    have e:at_=((at_.toNat:Nat):Int):=by omega
    rw[e];exact ar (by omega)
   obtain⟨hA,hact⟩:=E8 g1 g2 (i:=at_.toNat) (by omega) _ rfl
   have hh:=zn N0 hx t
   revert hA hact
   generalize hAA:(tA w p).getD at_.toNat ((0:Int),(⟨#[]⟩:ByteArray))=A
   intro hA hact
   cases hk:(A.1 != 3)with
   |true =>
    refine no ?_
    unfold dz eg iQ oP
    simp only[hh,Option.bind_some,Bool.not_true,cond_false,cond_true,r2,r3,hin,hAA,hk]
    cases ci xs t<;>simp only[Bool.not_true,Bool.not_false,cond_false,cond_true,Option.bind_some,r2,r3,hin,hAA,hk]
   |false =>
    have hk3:A.1=3:=by simpa using hk
    have hT:∃P,wh A.2 P:=by
     rcases hact with⟨h,_⟩|⟨_,h⟩|⟨h,_⟩
     ·omega
     ·exact h
     ·omega
    obtain⟨P,hP⟩:=hT
    cases ht:ci xs t with
    |false =>
     refine no ?_
     unfold dz eg
     simp only[hh,ht,Option.bind_some,Bool.not_true,Bool.not_false,cond_false,cond_true]
    |true =>
     rw[ht]at hh
     obtain⟨l2,e,ys,c,q1,q2,q3⟩:=JY hP hp g4 g3 ht
     cases hM:ei P env xs t with
     |none =>
      rw[hM]at q3
      have q3:c=false:=q3
      subst q3
      refine no ?_
      unfold dz iQ oO
      simp only[hh,r2,r3,hin,hAA,hk,q1,q2,Option.bind_some,Bool.not_true,Bool.not_false,cond_false,cond_true]
     |some s =>
      rw[hM]at q3
      obtain⟨q3,q4⟩:=(q3:(e,ys)=s∧c=true)
      subst q3;subst q4
      obtain⟨f1,f2,f3⟩:=fU ⟨g4,uT g3⟩ hp ht hM
      obtain⟨f4,f5⟩:=ov ⟨g4,uT g3⟩ g3 hp ht hM
      have n4:at_.toNat≠4:=fun q=>by have:=hA.2 q;omega
      have wa:IntKind.i64.wrap (at_+(1:Int))=at_+1:=au (by omega) (by omega)
      refine⟨ys,at_+1,e,false,false,true,?_,sW g1 g2 hg.me hg.peer hg.ne f2 f1.1 f4 ⟨by omega,by omega⟩ (by rw[eq_comm,beq_eq_false_iff_ne];omega) (fun q=>by cases q) (fun _=>hg.no rfl),f1.1,f2,f3⟩
      unfold dz iQ ni
      simp only[hh,r2,r3,hin,hAA,hk,q1,q2,wa,Option.bind_some,Bool.not_true,Bool.not_false,cond_false,cond_true]
theorem OY{xs:List ab}(hp:aF xs=true) (hl:xs.length<490){v:Int}(h0:0≤v) (h1:v≤199):∃ys t,cf N0 (xs,v)=some (ys,t)∧jh xs 1 v 0=some (ys,t)∧ys.length≤xs.length+1:=by
 have hn:=OX (ys:=[]) (t:=0) hp h0 h1
 have ha:∃ys t,jh xs 1 v 0=some (ys,t)∧ys.length≤xs.length+1:=by
  show ∃ys t,CI xs (1,v,0)=some (ys,t)∧_
  unfold CI
  dsimp only
  rw[hn,cond_true]
  cases hf:ou xs (1,v,0)with
  |some j=>exact⟨_,_,rfl,by omega⟩
  |none =>
   dsimp only
   rw[if_neg (by omega)]
   exact⟨_,_,rfl,by simp⟩
 obtain⟨ys,t,e,l⟩:=ha
 refine⟨ys,t,?_,e,l⟩
 unfold cf
 dsimp only
 rw[jR hp,e];rfl
theorem Mm{i:Nat}{t:Int}(h0:0≤t) (h1:t<(i:Int)) (hi:i≤4294967296):gP N0 (7,t,0,(i:Int))=true:=by
 have w:IntKind.i64.wrap ((i:Int)-(1:Int))=(i:Int)-1:=au (by omega) (by omega)
 have hr:∀v lo hi:Int,aD N0 (v,lo,hi)=some (decide (v≥lo)&&decide (v≤hi)):=fun v lo hi=>by
  unfold aD
  cases q:decide (v≥lo)<;>(simp[q])
 show(bH N0 (7,t,0,(i:Int))).getD false=true
 unfold bH
 dsimp only
 rw[w,hr,hr,hr,show bh N0 7=some 1 from rfl]
 simp only[Option.bind_some,show((1:Int)==0)=false from rfl,beq_self_eq_true,cond_true,cond_false,decide_eq_true (show t≥0 by omega),decide_eq_true (show t≤(i:Int)-1 by omega),Bool.and_self]
 rfl
theorem Mn{xs:List ab}(hp:aF xs=true) (hl:xs.length<490){t:Int}(ht:ci xs t=true):∃ys u,bk N0 (xs,(7:Int),t,(0:Int))=some (ys,u)∧jh xs 7 t 0=some (ys,u)∧ys.length≤xs.length+1:=by
 rw[dY]at ht
 have hn:=Mm ht.1 ht.2 (by omega)
 have ha:∃ys t',jh xs 7 t 0=some (ys,t')∧ys.length≤xs.length+1:=by
  show ∃ys t',CI xs (7,t,0)=some (ys,t')∧_
  unfold CI
  dsimp only
  rw[hn,cond_true]
  cases hf:ou xs (7,t,0)with
  |some j=>exact⟨_,_,rfl,by omega⟩
  |none =>
   dsimp only
   rw[if_neg (by omega)]
   exact⟨_,_,rfl,by simp⟩
 obtain⟨ys,u,e,l⟩:=ha
 refine⟨ys,u,?_,e,l⟩
 rw[jR hp,e];rfl
def AS:List Int:=[(109:Int),(112:Int),(115:Int),(113:Int),(107:Int),(116:Int),(117:Int)]
theorem Q7:∀j:Nat,j<7→97≤AS.getD j 0∧AS.getD j 0≤122:=by decide
theorem oD{xs ys:List ab}{kd a b t:Int}(hp:aF xs=true) (h:jh xs kd a b=some (ys,t)):aF ys=true∧ci ys t=true∧∃zs,ys=xs++zs:=by
 obtain⟨⟨g1,g2,g3⟩,g4⟩:=fD hp h
 exact⟨g1,dY.2 ⟨g2,g4⟩,g3⟩
theorem rd{xs0:List ab}{w p a b:Int}{ns:List Int}(hns:ns.length=7) (hin:∀j:Nat,j<7→0≤ns.getD j 0∧ns.getD j 0≤199):∀(m j:Nat) (xs:List ab) (env:List Int),j≤7→7<m+j→aF xs=true→xs.length+2*(7-j)≤480→env.length=26→fC xs env=true →
  ∃ys e,cM N0 m (xs0,[],(0:Int),(0:Int),(0:Int),(0:Int),(0:Int),[],false,false,(0:Int),w,p,a,b,(0:Int),env,false,false,(-1:Int),ns,AS,xs,(j:Int))=some (Sum.inr ([],(0:Int),(0:Int),(0:Int),(0:Int),(0:Int),[],false,false,(0:Int),w,p,a,b,(0:Int),e,false,false,(-1:Int),ys))∧aF ys=true∧ys.length≤xs.length+2*(7-j)∧e.length=26∧fC ys e=true∧∃zs,ys=xs++zs
 |0,j,xs,env,hj,hm,_,_,_,_=>by omega
 |m+1,j,xs,env,hj,hm,hp,hl,he,hv=>by
  unfold cM
  dsimp only
  by_cases hq:j<7
  ·obtain⟨n1,n2⟩:=hin j hq
   obtain⟨l1,l2⟩:=Q7 j hq
   have hll:AS.length=7:=rfl
   have hi2:aI (j:Int) AS.length=true:=ar (by omega)
   have wj:IntKind.i64.wrap ((j:Int)+1)=((j+1:Nat):Int):=by rw[au (by omega) (by omega)];omega
   have hw:=(l97 l1 l2).2
   have hie:aI (AS.getD j 0-97) env.length=true:=by
    rw[show AS.getD j 0-97=(((AS.getD j 0-97).toNat:Nat):Int)by omega]
    exact ar (by omega)
   obtain⟨ys,t,e1,e2,e3⟩:=OY hp (by omega) n1 n2
   obtain⟨p1,h1,zs,hz⟩:=oD hp e2
   have hv1:fC ys env=true:=by rw[hz];exact nI hv
   have t0:=(dY.1 h1).1
   rw[decide_eq_true (show(j:Int)<(ns.length:Int)by omega),cond_true]
   unfold nv
   dsimp only
   rw[ar (show j<ns.length by omega),cond_true,Int.toNat_natCast,e1,Option.bind_some,Option.bind_some]
   dsimp only
   rw[decide_eq_true (show t≥0 by omega),cond_true,hi2,cond_true,Int.toNat_natCast,hw,hie,wj]
   cases(AS.getD j 0==117)with
   |true =>
    obtain⟨us,u,f1,f2,f3⟩:=Mn p1 (by omega) h1
    obtain⟨p2,h2,ws,hw2⟩:=oD p1 f2
    have u0:=(dY.1 h2).1
    have hv2:fC us env=true:=by rw[hw2];exact nI hv1
    rw[cond_true,f1,Option.bind_some]
    dsimp only
    rw[decide_eq_false (show ¬u<0 by omega),cond_false,cond_true,cond_true]
    obtain⟨vs,e,k1,k2,k3,k4,k5,ks,k6⟩:=rd hns hin m (j+1) us (env.set (AS.getD j 0-97).toNat u) (by omega) (by omega) p2 (by omega) (by rw[List.length_set];exact he) (uS h2 _ hv2)
    exact⟨vs,e,k1,k2,by omega,k4,k5,zs++(ws++ks),by rw[k6,hw2,hz,List.append_assoc,List.append_assoc]⟩
   |false =>
    rw[cond_false,decide_eq_false (show ¬t<0 by omega),cond_false,cond_true,cond_true]
    obtain⟨vs,e,k1,k2,k3,k4,k5,ks,k6⟩:=rd hns hin m (j+1) ys (env.set (AS.getD j 0-97).toNat t) (by omega) (by omega) p1 (by omega) (by rw[List.length_set];exact he) (uS h1 _ hv1)
    exact⟨vs,e,k1,k2,by omega,k4,k5,zs++ks,by rw[k6,hz,List.append_assoc]⟩
  ·rw[decide_eq_false (show ¬(j:Int)<(ns.length:Int)by omega),cond_false]
   exact⟨xs,env,rfl,hp,by omega,he,hv,[],by simp⟩
theorem IF{xs:List ab}:∀{e:List Int},(∀v∈e,v=-1)→fC xs e=true
 |[],_=>rfl
 |v::e,h=>by
  show((v == -1 || ci xs v)&&fC xs e)=true
  rw[h v (List.mem_cons_self ..),IF (fun u hu=>h u (List.mem_cons_of_mem _ hu))]
  rfl
theorem Gu{w p:Int}(hw:w=1∨w=2∨w=3) (hp:p=0∨p=1):dA N0 (w,p)=some true:=by
 rcases hw with rfl|rfl|rfl<;>rcases hp with rfl|rfl
 all_goals kernel_rfl
theorem nJ{a:Int}(h0:0≤a) (h1:a≤4):bG N0 a=some true:=by
 unfold bG
 rw[rK,decide_eq_true (show a≥0 by omega),decide_eq_true h1];rfl
theorem wF{a:Int}(h0:0≤a) (h1:a≤4):iH N0 a=some (50+a):=by
 unfold iH
 rw[nJ h0 h1,Option.bind_some,Bool.not_true,cond_false,au (by omega) (by omega)]
theorem pA{a:Int}(h0:0≤a) (h1:a≤4):dO N0 a=some (90+a):=by
 unfold dO
 rw[nJ h0 h1,Option.bind_some,Bool.not_true,cond_false,au (by omega) (by omega)]
theorem xv{a b:Int}(h0:0≤a) (h1:a≤4) (g0:0≤b) (g1:b≤4) (hab:a≠b):∃v,il N0 (a,b)=some v∧0≤v∧v≤199:=by
 unfold il jz sx
 dsimp only
 rw[nJ h0 h1,nJ g0 g1,show(a==b)=false from by rw[beq_eq_false_iff_ne];exact hab]
 simp only[Option.bind_some,Bool.not_true,cond_false]
 cases decide (a<b)with
 |true =>
  simp only[cond_true,Option.bind_some]
  cases decide (a>b)with
  |true=>simp only[cond_true,Option.bind_some];rw[au (n:=5*a) (by omega) (by omega),au (n:=60+5*a) (by omega) (by omega),au (by omega) (by omega)];exact⟨_,rfl,by omega,by omega⟩
  |false=>simp only[cond_false,Option.bind_some];rw[au (n:=5*a) (by omega) (by omega),au (n:=60+5*a) (by omega) (by omega),au (by omega) (by omega)];exact⟨_,rfl,by omega,by omega⟩
 |false =>
  simp only[cond_false,Option.bind_some]
  cases decide (a>b)with
  |true=>simp only[cond_true,Option.bind_some];rw[au (n:=5*b) (by omega) (by omega),au (n:=60+5*b) (by omega) (by omega),au (by omega) (by omega)];exact⟨_,rfl,by omega,by omega⟩
  |false=>simp only[cond_false,Option.bind_some];rw[au (n:=5*b) (by omega) (by omega),au (n:=60+5*b) (by omega) (by omega),au (by omega) (by omega)];exact⟨_,rfl,by omega,by omega⟩
theorem QV{xs:List ab}(hp:aF xs=true) (hl:xs.length≤400){w p a b:Int}(hw:w=1∨w=2∨w=3) (hs:p=0∨p=1) (a0:0≤a) (a1:a≤4) (b0:0≤b) (b1:b≤4) (hab:a≠b) :
  ∃ys e,mh N0 (xs,w,p,a,b)=some (ys,w,p,a,b,(0:Int),e,false,false,(-1:Int),true)∧ys.length≤xs.length+14∧e.length=26∧(∃zs,ys=xs++zs)∧kZ ys (w,p,a,b,0,e,false,false, -1)=true:=by
 have hN:=n0
 have pS:=ot N0 n0 (xs:=xs) (by omega)
 have hP:(decide (xs.length≤500)&&cG N0 [] xs)=true:=hp
 rw[hP]at pS
 obtain⟨e0,q1,q2,q3⟩:=Nd
 obtain⟨s,s1,s2,s3⟩:=xv a0 a1 b0 b1 hab
 unfold mh
 dsimp only
 rw[pS]
 simp only[Gu hw hs,nJ a0 a1,nJ b0 b1,show(a==b)=false from by rw[beq_eq_false_iff_ne];exact hab,q1,wF a0 a1,wF b0 b1,s1,pA a0 a1,pA b0 b1,Option.bind_some,Bool.not_true,cond_false]
 obtain⟨ys,e,k1,k2,k3,k4,k5,k6⟩:=rd (xs0:=xs) (w:=w) (p:=p) (a:=a) (b:=b) (ns:=[a,b,50+a,50+b,s,90+a,90+b]) rfl (fun j hj=>by
  match j,hj with
  |0,_=>exact⟨a0,(show a≤199 by omega)⟩
  |1,_=>exact⟨b0,(show b≤199 by omega)⟩
  |2,_=>exact⟨(show 0≤50+a by omega),(show 50+a≤199 by omega)⟩
  |3,_=>exact⟨(show 0≤50+b by omega),(show 50+b≤199 by omega)⟩
  |4,_=>exact⟨s2,s3⟩
  |5,_=>exact⟨(show 0≤90+a by omega),(show 90+a≤199 by omega)⟩
  |6,_=>exact⟨(show 0≤90+b by omega),(show 90+b≤199 by omega)⟩
  |n+7,h=>omega) N0 0 xs e0 (by omega) (by omega) hp (by omega) q2 (IF q3)
 rw[show((0:Nat):Int)=(0:Int)from rfl]at k1
 unfold AS at k1
 rw[k1,Option.bind_some]
 dsimp only
 unfold nu
 dsimp only
 have hyl:=aX k2
 rw[yz (xs:=ys) (by omega),Option.bind_some,Option.bind_some]
 exact⟨ys,e,rfl,by omega,k4,k6,sW hw hs ⟨a0,a1⟩ ⟨b0,b1⟩ hab k2 k4 k5 (by omega) rfl (fun q=>by cases q) (fun _=>rfl)⟩
end AM
end Go.Proofs.YtpgigedclifoeaaGreatDoor
