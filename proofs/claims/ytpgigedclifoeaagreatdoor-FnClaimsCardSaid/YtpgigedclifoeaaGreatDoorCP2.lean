/- Small laws on whole numbers that wrap, on strings as lists of bytes, and on answers that may be none. No condition. And what follows it: see the remarks. -/
import Derived.Test.YtpgigedclifoeaaGreatDoorCW4
import Derived.Lib.ItoaNum
import Derived.Lib.IndexMore
import Derived.Laws.BitsLemmas
import Derived.Test.YtpgigedclifoeaaGreatDoorCALd
import Derived.Test.YtpgigedclifoeaaGreatDoorCP1
import Derived.Lib.AtoiAllCases
import Derived.Lib.AtoiAll
import Derived.Lib.Split
namespace Go.Proofs.YtpgigedclifoeaaGreatDoor
namespace AM
open Go
set_option linter.unusedSimpArgs false
set_option linter.unusedVariables false
theorem Ll{n:Int}(h1:-9223372036854775808≤n) (h2:n≤9223372036854775807):IntKind.i64.wrap n=n:=by
 rw[IntKind.wrap_i64];omega
theorem la{a b:ByteArray}(h:a.size+b.size≤4611686018427387904):aK a b=true:=decide_eq_true h
theorem o7 (a:ByteArray):gU a a=true:=decide_eq_true rfl
end AM
end Go.Proofs.YtpgigedclifoeaaGreatDoor
namespace Go.Proofs.YtpgigedclifoeaaGreatDoor
namespace AM
open Go
set_option linter.unusedVariables false
set_option linter.unusedSimpArgs false
abbrev N0:Nat:=1000000000000000000000000000000
theorem ar{n:Int}(h1:-9223372036854775808≤n) (h2:n≤9223372036854775807):IntKind.i64.wrap n=n:=by
 rw[IntKind.wrap_i64];omega
theorem kC {α:Type}{l:List α}{i:Nat}(h:i<l.length) (d:α):l.getD i d=l[i]:=by
 rw[List.getD_eq_getElem?_getD,List.getElem?_eq_getElem h];rfl
theorem au{i n:Nat}(h:i<n):aY (i:Int) n=true:=by
 unfold aY
 exact decide_eq_true ⟨Int.natCast_nonneg _,by omega⟩
theorem aQ{i n:Nat}(hi:i<n) (hn:n≤4294967296):IntKind.i64.wrap ((i:Int)+(1:Int))=((i+1:Nat):Int):=by
 rw[ar (by omega) (by omega)];omega
theorem oH:∀(t:Ty),t.hasSl=false→∀x:t.den,t.eqv x x=true
 | .int _,_,x=>by simp[Ty.eqv]
 | .bool,_,x=>by simp[Ty.eqv]
 | .str,_,x=>decide_eq_true rfl
 | .sl _,h,_=>by cases h
 | .pr a b,h,x=>by
  have h:(a.hasSl || b.hasSl)=false:=h
  rw[Bool.or_eq_false_iff]at h
  show(a.eqv x.1 x.1&&b.eqv x.2 x.2)=true
  rw[oH a h.1,oH b h.2];rfl
theorem Ah{kt:Ty}{k:kt.den}{m:List (kt.den×Int)}{j:Nat}{v:Int}(h:ch kt k m 0=some (j,v)):j<m.length:=by
 obtain⟨_,h2⟩:=m6 h
 exact(List.getElem?_eq_some_iff.1 h2).1
theorem C8 {α:Type}{y:Int}{k:α}{c:Int}:∀{m:List (α×Int)}{j:Nat},j<m.length→wW y (m.set j (k,c)) j=m.set j (k,y)
 |[],_,h=>by simp at h
 |p::r,0,_=>rfl
 |p::r,j+1,h=>by
  show p::wW y (r.set j (k,c)) j=p::r.set j (k,y)
  rw[C8 (by simpa using h)]
theorem Ad {α:Type}{y:Int}{k:α}{c:Int}:∀{m:List (α×Int)},wW y (m++[(k,c)]) m.length=m++[(k,y)]
 |[]=>rfl
 |p::r=>by
  show p::wW y (r++[(k,c)]) r.length=p::(r++[(k,y)])
  rw[Ad]
theorem Ie{kt:Ty}{k:kt.den}{c y:Int}{m:List (kt.den×Int)}:If (s8 kt k m) y (kX kt k c m)=kX kt k y m:=by
 unfold If s8 kX
 cases h:ch kt k m 0 with
 |some p =>
  obtain⟨j,v⟩:=p
  dsimp only
  rw[Int.toNat_natCast]
  exact C8 (Ah h)
 |none =>
  dsimp only
  rw[Int.toNat_natCast]
  exact Ad
theorem LZ{kt:Ty}{k:kt.den}{c:Int}{m:List (kt.den×Int)}:aY (s8 kt k m) (kX kt k c m).length=true:=by
 unfold s8 kX
 cases h:ch kt k m 0 with
 |some p =>
  obtain⟨j,v⟩:=p
  dsimp only
  rw[List.length_set]
  exact au (Ah h)
 |none =>
  dsimp only
  rw[List.length_append]
  exact au (by simp)
theorem uj{kt:Ty}{k k':kt.den}{x:Int}(hne:kt.eqv k' k=false):∀{m:List (kt.den×Int)}{i j:Nat}{v:Int},ch kt k m i=some (j,v)→ch kt k' (m.set (j-i) (k,x)) i=ch kt k' m i
 |[],_,_,_,h=>by cases h
 |p::r,i,j,v,h=>by
  unfold ch at h
  cases q:kt.eqv k p.1 with
  |true =>
   rw[q]at h
   obtain⟨rfl,rfl⟩:=Prod.mk.inj (Option.some.inj h)
   rw[Nat.sub_self,List.set_cons_zero]
   have:=wb kt q
   unfold ch
   rw[hne, ←this,hne]
   rfl
  |false =>
   rw[q]at h
   have h:ch kt k r (i+1)=some (j,v):=h
   obtain⟨h1,_⟩:=m6 h
   rw[show j-i=(j-(i+1))+1 by omega,List.set_cons_succ]
   unfold ch
   rw[uj hne h]
theorem sH{kt:Ty}{k k':kt.den}{x:Int}(hne:kt.eqv k' k=false):∀{m:List (kt.den×Int)}{i:Nat},ch kt k' (m++[(k,x)]) i=ch kt k' m i
 |[],i=>by
  show ch kt k' [(k,x)] i=_
  unfold ch
  rw[hne];rfl
 |p::r,i=>by
  show ch kt k' (p::(r++[(k,x)])) i=_
  unfold ch
  rw[sH hne]
theorem ui{kt:Ty}{k k':kt.den}{x:Int}{m:List (kt.den×Int)}(hne:kt.eqv k' k=false):eE kt k' (kX kt k x m)=eE kt k' m:=by
 unfold eE kX
 cases h:ch kt k m 0 with
 |some p =>
  obtain⟨j,v⟩:=p
  have:=uj (x:=x) hne h
  rw[Nat.sub_zero]at this
  simp only[this]
 |none=>simp only[sH hne]
abbrev ab:=Int×(Int×Int)
abbrev kN:Ty := .pr (.int .i64) (.pr (.int .i64) (.int .i64))
theorem d6 (n:Nat) (a b c:Int):aD n (a,b,c)=some (decide (a≥b)&&decide (a≤c)):=by
 unfold aD
 cases decide (a≥b)<;>rfl
theorem p5 (n:Nat) (a b c:Int):bI n (a,b,c)=some (decide (a≥b)&&decide (a≤c)):=d6 n a b c
theorem yI (n:Nat) (x:Int):∃v,dK n x=some v:=by
 unfold dK
 simp only[cond_eq_ite]
 repeat' split
 all_goals exact⟨_,rfl⟩
theorem CZ (n:Nat) (x:Int×Int×Int×Int):∃v,cj n x=some v:=by
 unfold cj
 obtain⟨v,hv⟩:=yI n x.1
 rw[hv]
 simp only[Option.bind_some,d6,cond_eq_ite]
 repeat' split
 all_goals exact⟨_,rfl⟩
def ge (n:Nat) (x:Int×Int×Int×Int):Bool:=(cj n x).getD false
theorem Ab (n:Nat) (x):cj n x=some (ge n x):=by
 obtain⟨v,hv⟩:=CZ n x
 unfold ge
 rw[hv];rfl
theorem CB (n:Nat) (x):cQ n x=some (ge n x):=Ab n x
def cm (n:Nat) (pre:List ab):List ab→Bool
 |[]=>true
 |k::r=>(!pre.contains k&&ge n (k.1,k.2.1,k.2.2,(pre.length:Int)))&&cm n (pre++[k]) r
theorem AK (n:Nat){pre r:List ab}{k:ab}(hx:(pre++k::r).length≤4294967296):∀(m j:Nat),j≤pre.length→pre.length<m+j →
  ∃q:Nat,bo n m (pre++k::r,k.1,k.2.1,k.2.2,(j:Int))=some (Sum.inl (q:Int))∧q≤pre.length∧(q=pre.length↔k∉pre.drop j)
 |0,j,h1,h2=>by omega
 |m+1,j,h1,h2=>by
  have hlt:j<(pre++k::r).length:=by simp;omega
  have e0:bo n (m+1) (pre++k::r,k.1,k.2.1,k.2.2,(j:Int))=(cond (decide ((j:Int)<((pre++k::r).length:Int))) (cond (aY (j:Int) (pre++k::r).length) (cond (((pre++k::r).getD ((j:Int)).toNat ((0:Int),((0:Int),(0:Int)))).1==k.1&&(((pre++k::r).getD ((j:Int)).toNat ((0:Int),((0:Int),(0:Int)))).2.1==k.2.1&&(((pre++k::r).getD ((j:Int)).toNat ((0:Int),((0:Int),(0:Int)))).2.2==k.2.2&&true))) (some (Sum.inl (j:Int))) (bo n m (pre++k::r,k.1,k.2.1,k.2.2,IntKind.i64.wrap ((j:Int)+(1:Int))))) none) (some (Sum.inr ()))):=rfl
  rw[e0,decide_eq_true (by omega:(j:Int)<((pre++k::r).length:Int)),cond_true,au hlt,cond_true,Int.toNat_natCast,kC hlt]
  have heq:∀p:ab,(p.1==k.1&&(p.2.1==k.2.1&&(p.2.2==k.2.2&&true)))=decide (p=k):=by
   intro p
   obtain⟨p1,p2,p3⟩:=p
   obtain⟨k1,k2,k3⟩:=k
   rw[Bool.eq_iff_iff]
   simp
  rw[heq]
  rcases Nat.lt_or_ge j pre.length with q|q
  ·have hg:(pre++k::r)[j]=pre[j]:=List.getElem_append_left q
   rw[hg]
   have hd:pre.drop j=pre[j]::pre.drop (j+1):=List.drop_eq_getElem_cons q
   by_cases hk:pre[j]=k
   ·rw[decide_eq_true hk,cond_true]
    exact⟨j,rfl,by omega,by rw[hd,hk];simp;omega⟩
   ·rw[decide_eq_false hk,cond_false,aQ hlt hx]
    obtain⟨z,g1,g2,g3⟩:=AK n hx m (j+1) q (by omega)
    refine⟨z,g1,g2,g3.trans ?_⟩
    rw[hd,List.mem_cons]
    constructor
    ·intro h h2
     rcases h2 with h2|h2
     ·exact hk h2.symm
     ·exact h h2
    ·exact fun h h2=>h (.inr h2)
  ·have hj:j=pre.length:=by omega
   subst hj
   rw[show(pre++k::r)[pre.length]=k by simp,decide_eq_true rfl,cond_true]
   exact⟨pre.length,rfl,Nat.le_refl _,by simp⟩
theorem Mh (n:Nat) (hn:4294967296<n){pre r:List ab}{k:ab}(hx:(pre++k::r).length≤4294967296):∃q:Int,cI n (pre++k::r,k.1,k.2.1,k.2.2)=some q∧(q != (pre.length:Int))=pre.contains k:=by
  have hlen : pre.length < n := by have : pre.length ≤ (pre ++ k :: r).length := by simp
                                   omega
  obtain⟨z,g1,g2,g3⟩:=AK n hx n 0 (Nat.zero_le _) (by omega)
  refine⟨(z:Int),?_,?_⟩
  · show((bo n n (pre++k::r,k.1,k.2.1,k.2.2,((0:Nat):Int))).bind _)=_
    rw[g1];rfl
  · rw[List.drop_zero]at g3
    rw[Bool.eq_iff_iff]
    simp only[bne_iff_ne,ne_eq,List.contains_iff_mem]
    constructor
    · intro h
      exact Classical.byContradiction fun h2=>h (by rw[g3.2 h2])
    · intro h h2
      exact(g3.1 (by omega)) h
theorem sB (n:Nat) (hn:4294967296<n):∀(m:Nat) (pre r:List ab),(pre++r).length≤4294967296→r.length<m→cy n m (pre++r,(pre.length:Int))=some (bif cm n pre r then Sum.inr ()else Sum.inl false)
 |0,pre,r,hx,hm=>by omega
 |m+1,pre,[],hx,hm=>by
  show(cond (decide ((pre.length:Int)<((pre++[]).length:Int))) _ _)=_
  rw[decide_eq_false (by simp),cond_false];rfl
 |m+1,pre,k::r,hx,hm=>by
  have hlt:pre.length<(pre++k::r).length:=by simp
  have e0:cy n (m+1) (pre++k::r,(pre.length:Int))=(cond (decide ((pre.length:Int)<((pre++k::r).length:Int))) (cond (aY (pre.length:Int) (pre++k::r).length) ((cQ n (((pre++k::r).getD ((pre.length:Int)).toNat ((0:Int),((0:Int),(0:Int)))).1,((pre++k::r).getD ((pre.length:Int)).toNat ((0:Int),((0:Int),(0:Int)))).2.1,((pre++k::r).getD ((pre.length:Int)).toNat ((0:Int),((0:Int),(0:Int)))).2.2,(pre.length:Int))).bind fun r1=>(cond (!r1) (some (Sum.inl false)) (cond (aY (pre.length:Int) (pre++k::r).length) ((cI n (pre++k::r,((pre++k::r).getD ((pre.length:Int)).toNat ((0:Int),((0:Int),(0:Int)))).1,((pre++k::r).getD ((pre.length:Int)).toNat ((0:Int),((0:Int),(0:Int)))).2.1,((pre++k::r).getD ((pre.length:Int)).toNat ((0:Int),((0:Int),(0:Int)))).2.2)).bind fun r2=>(cond (r2 != (pre.length:Int)) (some (Sum.inl false)) (cy n m (pre++k::r,IntKind.i64.wrap ((pre.length:Int)+(1:Int)))))) none))) none) (some (Sum.inr ()))):=rfl
  obtain⟨q,g1,g2⟩:=Mh n hn (pre:=pre) (r:=r) (k:=k) hx
  rw[e0,decide_eq_true (by omega:(pre.length:Int)<((pre++k::r).length:Int)),cond_true,au hlt,cond_true,Int.toNat_natCast,kC hlt,show(pre++k::r)[pre.length]=k by simp,CB,g1]
  simp only[Option.bind_some,cond_true]
  rw[g2,aQ hlt hx]
  have ih:=sB n hn m (pre++[k]) r (by simpa using hx) (by simp at hm;omega)
  rw[show pre++[k]++r=pre++k::r by simp,show(pre++[k]).length=pre.length+1 by simp]at ih
  rw[ih]
  rw[show cm n pre (k::r)=((!pre.contains k&&ge n (k.1,k.2.1,k.2.2,(pre.length:Int)))&&cm n (pre++[k]) r)from rfl]
  cases ge n (k.1,k.2.1,k.2.2,(pre.length:Int))<;>cases pre.contains k<;>cases cm n (pre++[k]) r<;>rfl
theorem lR (n:Nat) (hn:4294967296<n){xs:List ab}(hx:xs.length≤4294967296):fq n xs=some (decide (xs.length≤500)&&cm n [] xs):=by
 unfold fq
 by_cases q:xs.length≤500
 ·rw[decide_eq_false (by omega:¬(xs.length:Int)>(500:Int)),cond_false,decide_eq_true q,Bool.true_and]
  have:=sB n hn n [] xs (by simpa using hx) (by omega)
  rw[List.nil_append,show(([]:List ab).length:Int)=(0:Int)from rfl]at this
  rw[this]
  cases cm n [] xs<;>rfl
 ·rw[decide_eq_true (by omega:(xs.length:Int)>(500:Int)),cond_true,decide_eq_false q];rfl
def Cnt (kvs:List (ab×Int)) (pre:List ab):Prop:=∀k:ab,eE kN k kvs=if k∈pre then 1 else 0
theorem R1{a b:ab}:kN.eqv a b=decide (a=b):=by
 rw[Bool.eq_iff_iff,decide_eq_true_iff]
 exact⟨wb kN,fun h=>h▸oH kN rfl a⟩
theorem GR (n:Nat) (kvs:List (ab×Int)) (i a b c:Int) (xs:List ab) (l j:Int):ay n (kvs,i,a,b,c,xs,l,j)=some (kX kN (a,b,c) (IntKind.i64.wrap (eE kN (a,b,c) kvs+(1:Int))) kvs,i,a,b,c,xs,l,j):=by
 unfold ay
 rw[LZ,cond_true,Ie]
theorem sK (n:Nat){xs:List ab}(hx:xs.length≤4294967296):∀(m:Nat) (pre r:List ab) (kvs:List (ab×Int)),xs=pre++r→Cnt kvs pre→r.length<m→cC n m (kvs,xs,(xs.length:Int),(pre.length:Int))=some (bif cm n pre r then Sum.inr ()else Sum.inl false)
 |0,pre,r,kvs,he,hc,hm=>by omega
 |m+1,pre,[],kvs,he,hc,hm=>by
  show(cond (decide ((pre.length:Int)<(xs.length:Int))) _ _)=_
  rw[decide_eq_false (by rw[he];simp),cond_false];rfl
 |m+1,pre,k::r,kvs,he,hc,hm=>by
  have hlt:pre.length<xs.length:=by rw[he];simp
  have hk:xs[pre.length]=k:=by simp[he]
  have e0:cC n (m+1) (kvs,xs,(xs.length:Int),(pre.length:Int))=(cond (decide ((pre.length:Int)<(xs.length:Int))) (cond (aY (pre.length:Int) xs.length) ((ay n (kvs,(pre.length:Int),(xs.getD ((pre.length:Int)).toNat ((0:Int),((0:Int),(0:Int)))).1,(xs.getD ((pre.length:Int)).toNat ((0:Int),((0:Int),(0:Int)))).2.1,(xs.getD ((pre.length:Int)).toNat ((0:Int),((0:Int),(0:Int)))).2.2,xs,(xs.length:Int),(pre.length:Int))).bind fun g1=>(cond (decide ((eE kN (g1.2.2.1,(g1.2.2.2.1,g1.2.2.2.2.1)) g1.1)>(1:Int))) (some (Sum.inl false)) ((cj n (g1.2.2.1,g1.2.2.2.1,g1.2.2.2.2.1,g1.2.1)).bind fun r2=>(cond (!r2) (some (Sum.inl false)) (cC n m (g1.1,g1.2.2.2.2.2.1,g1.2.2.2.2.2.2.1,(IntKind.i64.wrap (g1.2.2.2.2.2.2.2+(1:Int))))))))) none) (some (Sum.inr ()))):=rfl
  rw[e0,decide_eq_true (by omega:(pre.length:Int)<(xs.length:Int)),cond_true,au hlt,cond_true,Int.toNat_natCast,kC hlt,hk,GR]
  simp only[Option.bind_some]
  have hself:kN.eqv (k.1,k.2.1,k.2.2) (k.1,k.2.1,k.2.2)=true:=oH kN rfl _
  have hke:((k.1,k.2.1,k.2.2):ab)=k:=rfl
  rw[rW hself,Ab,aQ hlt hx]
  rw[show cm n pre (k::r)=((!pre.contains k&&ge n (k.1,k.2.1,k.2.2,(pre.length:Int)))&&cm n (pre++[k]) r)from rfl]
  have hck:=hc k
  by_cases hin:k∈pre
  ·rw[if_pos hin]at hck
   have:pre.contains k=true:=by simpa using hin
   rw[this,show eE kN (k.1,k.2.1,k.2.2) kvs=1 from hck]
   rfl
  ·rw[if_neg hin]at hck
   have hcf:pre.contains k=false:=by simpa using hin
   rw[hcf,show eE kN (k.1,k.2.1,k.2.2) kvs=0 from hck]
   rw[show decide (IntKind.i64.wrap ((0:Int)+(1:Int))>(1:Int))=false from rfl,cond_false]
   have ih:=sK n hx m (pre++[k]) r (kX kN k (IntKind.i64.wrap ((0:Int)+(1:Int))) kvs) (by simpa using he) (by
    intro k'
    by_cases q:k'=k
    ·subst q
     rw[rW (oH kN rfl k')]
     simp;rfl
    ·rw[ui (by rw[R1];exact decide_eq_false q),hc k']
     simp[q]) (by simp at hm;omega)
   rw[show(pre++[k]).length=pre.length+1 by simp]at ih
   simp only[Option.bind_some]
   rw[show kX kN (k.1,k.2.1,k.2.2) (IntKind.i64.wrap ((0:Int)+(1:Int))) kvs=kX kN k (IntKind.i64.wrap ((0:Int)+(1:Int))) kvs from rfl,ih]
   cases ge n (k.1,k.2.1,k.2.2,(pre.length:Int))<;>cases cm n (pre++[k]) r<;>rfl
theorem wY (n:Nat) (hn:4294967296<n){xs:List ab}(hx:xs.length≤4294967296):gg n xs=some (decide (xs.length≤500)&&cm n [] xs):=by
 unfold gg
 by_cases q:xs.length≤500
 ·rw[decide_eq_false (by omega:¬(xs.length:Int)>(500:Int)),cond_false,decide_eq_true q,Bool.true_and]
  have:=sK n hx n [] xs [] rfl (fun k=>by simp[eE,ch]) (by omega)
  rw[show(([]:List ab).length:Int)=(0:Int)from rfl]at this
  rw[this]
  cases cm n [] xs<;>rfl
 ·rw[decide_eq_true (by omega:(xs.length:Int)>(500:Int)),cond_true,decide_eq_false q];rfl
def cD (xs:List ab) (v:Int):Bool:=decide (v≥0)&&decide (v≤(xs.length:Int)-1)
theorem vO (n:Nat){xs:List ab}(hx:xs.length≤4294967296) (v:Int):eJ n (xs,v)=some (cD xs v):=by
 show((bI n (v,(0:Int),IntKind.i64.wrap ((xs.length:Int)-(1:Int)))).bind fun r1=>some r1)=_
 rw[ar (by omega) (by omega),p5];rfl
theorem oF (n:Nat){xs:List ab}(hx:xs.length≤4294967296) (v:Int):dc n (xs,v)=some (xs,cD xs v):=by
 show((aD n (v,(0:Int),IntKind.i64.wrap ((xs.length:Int)-(1:Int)))).bind fun r1=>some (xs,r1))=_
 rw[ar (by omega) (by omega),d6];rfl
def d9 (xs:List ab):List Int→Bool
 |[]=>true
 |v::r=>(v == -1 || cD xs v)&&d9 xs r
theorem uC (n:Nat){xs:List ab}(hx:xs.length≤4294967296){env:List Int}(he:env.length≤4294967296):∀(m:Nat) (pre r:List Int),env=pre++r→r.length<m →
  bW n m (env,xs,env,(env.length:Int),(pre.length:Int))=some (bif d9 xs r then Sum.inr (env,xs)else Sum.inl false)
 |0,pre,r,h,hm=>by omega
 |m+1,pre,[],h,hm=>by
  show(cond (decide ((pre.length:Int)<(env.length:Int))) _ _)=_
  rw[decide_eq_false (by rw[h];simp),cond_false];rfl
 |m+1,pre,v::r,h,hm=>by
  have hlt:pre.length<env.length:=by rw[h];simp
  have hk:env[pre.length]=v:=by simp[h]
  have e0:bW n (m+1) (env,xs,env,(env.length:Int),(pre.length:Int))=(cond (decide ((pre.length:Int)<(env.length:Int))) (cond (aY (pre.length:Int) env.length) (cond ((env.getD ((pre.length:Int)).toNat (0:Int)) != (-1:Int)) ((dc n (xs,(env.getD ((pre.length:Int)).toNat (0:Int)))).bind fun r1=>(cond (!r1.2) (some (Sum.inl false)) (bW n m (env,r1.1,env,(env.length:Int),(IntKind.i64.wrap ((pre.length:Int)+(1:Int))))))) (bW n m (env,xs,env,(env.length:Int),(IntKind.i64.wrap ((pre.length:Int)+(1:Int)))))) none) (some (Sum.inr (env,xs)))):=rfl
  rw[e0,decide_eq_true (by omega:(pre.length:Int)<(env.length:Int)),cond_true,au hlt,cond_true,Int.toNat_natCast,kC hlt,hk,aQ hlt he,oF n hx]
  have ih:=uC n hx he m (pre++[v]) r (by simpa using h) (by simp at hm;omega)
  rw[show(pre++[v]).length=pre.length+1 by simp]at ih
  simp only[Option.bind_some,ih]
  rw[show d9 xs (v::r)=((v == -1 || cD xs v)&&d9 xs r)from rfl,show(v != -1) = !(v == -1)from rfl]
  cases v == -1<;>cases cD xs v<;>cases d9 xs r<;>rfl
theorem th (n:Nat) (hn:4294967296<n){xs:List ab}(hx:xs.length≤4294967296){env:List Int}(he:env.length≤4294967296) :
  pI n (xs,env)=some (d9 xs env&&(decide (env.length=26)&&(decide (xs.length≤500)&&cm n [] xs))):=by
 have:=uC n hx he n [] env rfl (by omega)
 rw[show(([]:List Int).length:Int)=(0:Int)from rfl]at this
 show((bW n n (env,xs,env,(env.length:Int),(0:Int))).bind _)=_
 rw[this]
 cases d9 xs env with
 |false=>rfl
 |true =>
  show(cond ((env.length:Int)==(26:Int)) ((gg n xs).bind fun r5=>some r5) (some false))=_
  rw[wY n hn hx]
  by_cases q:env.length=26
  ·rw[show((env.length:Int)==(26:Int))=true by rw[q];rfl,decide_eq_true q];rfl
  ·rw[show((env.length:Int)==(26:Int))=false by simp;omega,decide_eq_false q];rfl
theorem t5 (n:Nat){xs:List ab}(hx:xs.length≤4294967296){env:List Int}(he:env.length=26):∀(m:Nat) (pre r:List Int),env=pre++r→r.length<m →
  bC n m (env,xs,(pre.length:Int))=some (bif d9 xs r then Sum.inr ()else Sum.inl false)
 |0,pre,r,h,hm=>by omega
 |m+1,pre,[],h,hm=>by
  show(cond (decide ((pre.length:Int)<(26:Int))) _ _)=_
  have:pre.length=26:=by rw[h]at he;simpa using he
  rw[decide_eq_false (by omega),cond_false];rfl
 |m+1,pre,v::r,h,hm=>by
  have hlt:pre.length<env.length:=by rw[h];simp
  have hk:env[pre.length]=v:=by simp[h]
  have e0:bC n (m+1) (env,xs,(pre.length:Int))=(cond (decide ((pre.length:Int)<(26:Int))) (cond (aY (pre.length:Int) env.length) (cond ((env.getD ((pre.length:Int)).toNat (0:Int)) != (-1:Int)) (cond (aY (pre.length:Int) env.length) ((eJ n (xs,(env.getD ((pre.length:Int)).toNat (0:Int)))).bind fun r1=>(cond (!r1) (some (Sum.inl false)) (bC n m (env,xs,(IntKind.i64.wrap ((pre.length:Int)+(1:Int))))))) none) (bC n m (env,xs,(IntKind.i64.wrap ((pre.length:Int)+(1:Int)))))) none) (some (Sum.inr ()))):=rfl
  rw[e0,decide_eq_true (by omega:(pre.length:Int)<(26:Int)),cond_true,au hlt,cond_true,cond_true,Int.toNat_natCast,kC hlt,hk,aQ hlt (by omega),vO n hx]
  have ih:=t5 n hx he m (pre++[v]) r (by simpa using h) (by simp at hm;omega)
  rw[show(pre++[v]).length=pre.length+1 by simp]at ih
  simp only[Option.bind_some,ih]
  rw[show d9 xs (v::r)=((v == -1 || cD xs v)&&d9 xs r)from rfl,show(v != -1) = !(v == -1)from rfl]
  cases v == -1<;>cases cD xs v<;>cases d9 xs r<;>rfl
theorem D0 (n:Nat) (hn:4294967296<n){xs:List ab}(hx:xs.length≤4294967296){env:List Int}:nN n (xs,env)=some (decide (env.length=26)&&d9 xs env):=by
 show(cond ((env.length:Int) != (26:Int)) (some false) ((bC n n (env,xs,(0:Int))).bind _))=_
 by_cases q:env.length=26
 ·have:=t5 n hx q n [] env rfl (by omega)
  rw[show(([]:List Int).length:Int)=(0:Int)from rfl]at this
  rw[show((env.length:Int) != (26:Int))=false by rw[q];rfl,cond_false,this,decide_eq_true q]
  cases d9 xs env<;>rfl
 ·rw[show((env.length:Int) != (26:Int))=true by simp;omega,decide_eq_false q];rfl
theorem LA{w p:Int}{L:Nat}(h1:(fu N0 (w,p)).map (fun r=>(r.1.length,r.2))=some (L,true)) (h2:(cU N0 (w,p)).map List.length=some L) (h3:cT N0 (w,p)=some true) (h4:L≤20) :
  ∃a b,fu N0 (w,p)=some (a,true)∧cU N0 (w,p)=some b∧a.length=b.length∧a.length≤20∧cT N0 (w,p)=some true:=by
 cases e1:fu N0 (w,p)with
 |none=>rw[e1]at h1;cases h1
 |some r =>
  cases e2:cU N0 (w,p)with
  |none=>rw[e2]at h2;cases h2
  |some b =>
   rw[e1]at h1
   rw[e2]at h2
   obtain⟨g1,g2⟩:=Prod.mk.inj (Option.some.inj h1)
   have g3:b.length=L:=Option.some.inj h2
   obtain⟨a,t⟩:=r
   have g2:t=true:=g2
   subst g2
   exact⟨a,b,rfl,rfl,by rw[g3];exact g1,by have:a.length=L:=g1;omega,h3⟩
theorem LB (w p:Int) (hw:w=1∨w=2∨w=3) (hp:p=0∨p=1):∃a b,fu N0 (w,p)=some (a,true)∧cU N0 (w,p)=some b∧a.length=b.length∧a.length≤20∧cT N0 (w,p)=some true:=by
 rcases hw with rfl|rfl|rfl<;>rcases hp with rfl|rfl
 all_goals exact LA (L:=5) (by kernel_rfl) (by kernel_rfl) (by kernel_rfl) (by omega)
theorem Cz (w p:Int) (h:¬((w=1∨w=2∨w=3)∧(p=0∨p=1))):fu N0 (w,p)=some ([],false)∧cT N0 (w,p)=some false:=by
 constructor
 ·have e1:gO N0 (w,p)=some (⟨#[]⟩:ByteArray):=by
   unfold gO
   simp only[d6,Option.bind_some]
   by_cases h1:decide (w≥1)&&decide (w≤3)
   ·rw[h1]
    have h2:(decide (p≥0)&&decide (p≤1))=false:=by
     rw[Bool.eq_false_iff]
     intro h2
     simp at h1 h2
     omega
    rw[h2];rfl
   ·rw[Bool.not_eq_true]at h1
    rw[h1];rfl
  show((gO N0 (w,p)).bind _)=_
  rw[e1]
  show((ix N0 (⟨#[]⟩:ByteArray)).bind fun r2=>some (r2.1,r2.2))=_
  rw[show ix N0 (⟨#[]⟩:ByteArray)=some ([],false)by kernel_rfl];rfl
 ·have e1:eA N0 (w,p)=some (⟨#[]⟩:ByteArray):=by
   unfold eA
   have q:∀a b:Int,(w==a)=decide (w=a):=fun a b=>rfl
   by_cases w1:w=1
   ·subst w1
    have p0:(p==0)=false:=by simp;omega
    have p1:(p==1)=false:=by simp;omega
    simp only[p0,p1];rfl
   ·by_cases w2:w=2
    ·subst w2
     have p0:(p==0)=false:=by simp;omega
     have p1:(p==1)=false:=by simp;omega
     simp only[p0,p1];rfl
    ·by_cases w3:w=3
     ·subst w3
      have p0:(p==0)=false:=by simp;omega
      have p1:(p==1)=false:=by simp;omega
      simp only[p0,p1];rfl
     ·have e1:(w==1)=false:=by simpa using w1
      have e2:(w==2)=false:=by simpa using w2
      have e3:(w==3)=false:=by simpa using w3
      simp only[e1,e2,e3];rfl
  show((eA N0 (w,p)).bind fun r1=>some (!gU r1 (⟨#[]⟩:ByteArray)))=_
  rw[e1]
  show some (!gU (⟨#[]⟩:ByteArray) (⟨#[]⟩:ByteArray))=_
  rw[show gU (⟨#[]⟩:ByteArray) (⟨#[]⟩:ByteArray)=true from decide_eq_true rfl];rfl
theorem rE (n:Nat) (x:Int):iP n x=some (decide (x≥0)&&decide (x≤4)):=by
 show((aD n (x,(0:Int),(4:Int))).bind fun r=>some r)=_
 rw[d6];rfl
theorem I6 (n:Nat) (x:Int):bj n x=some (decide (x≥0)&&decide (x≤4)):=rE n x
theorem n0:4294967296<N0:=by decide
def FT (n:Nat) (x:List ab×Int×Int×Int×Int×Int×List Int×Bool×Bool×Int):Option Bool:=(fq n x.1).bind fun r1=>(cond r1 ((gi n (x.1,x.2.1,x.2.2.1,x.2.2.2.1,x.2.2.2.2.1,x.2.2.2.2.2.1,x.2.2.2.2.2.2.1,x.2.2.2.2.2.2.2.1,x.2.2.2.2.2.2.2.2.1,x.2.2.2.2.2.2.2.2.2)).bind fun r2=>(some r2)) (some false))
theorem EK{xs:List ab}(hx:xs.length≤4294967296){w p a b at_:Int}{env:List Int}(he:env.length≤4294967296){dn dd:Bool}{key:Int} :
  ∃v,fA N0 (xs,w,p,a,b,at_,env,dn,dd,key)=some v∧FT N0 (xs,w,p,a,b,at_,env,dn,dd,key)=some v:=by
 unfold fA FT gi
 simp only[lR N0 n0 hx,th N0 n0 hx he,D0 N0 n0 hx,rE,I6,Option.bind_some]
 by_cases hr:(w=1∨w=2∨w=3)∧(p=0∨p=1)
 ·obtain⟨ra,rb,r1,r2,r3,r4,r5⟩:=LB w p hr.1 hr.2
  rw[r1,r2,r5]
  simp only[Option.bind_some,d6,p5,oF N0 hx,vO N0 hx, ←r3,ar (show -9223372036854775808≤(ra.length:Int)-1 by omega) (show(ra.length:Int)-1≤9223372036854775807 by omega)]
  generalize (decide (a≥0)&&decide (a≤4))=A
  generalize (decide (b≥0)&&decide (b≤4))=B
  generalize (a==b)=C
  generalize d9 xs env=D
  generalize decide (env.length=26)=F
  generalize (decide (xs.length≤500)&&cm N0 [] xs)=G
  generalize cD xs key=H
  generalize (key == -1)=K
  have hq:(at_==(ra.length:Int))=true→(decide (at_≥0)&&decide (at_≤(ra.length:Int)))=true:=by
   intro h
   have:at_=(ra.length:Int):=by simpa using h
   simp;omega
  have hq2:(at_==(ra.length:Int))=false→(decide (at_≥0)&&decide (at_≤(ra.length:Int)-1))=(decide (at_≥0)&&decide (at_≤(ra.length:Int))):=by
   intro h
   have:at_≠(ra.length:Int):=by simpa using h
   congr 1
   rw[Bool.eq_iff_iff];simp;omega
  have hq3:(at_==(ra.length:Int))=true→(decide (at_≥0)&&decide (at_≤(ra.length:Int)-1))=false:=by
   intro h
   have:at_=(ra.length:Int):=by simpa using h
   rw[Bool.and_eq_false_iff];right;simp;omega
  revert hq hq2 hq3
  generalize (at_==(ra.length:Int))=M
  generalize (decide (at_≥0)&&decide (at_≤(ra.length:Int)))=R
  generalize (decide (at_≥0)&&decide (at_≤(ra.length:Int)-1))=R2
  intro hq hq2 hq3
  cases M
  ·have:=hq2 rfl
   subst this
   refine⟨A&&(B&&(!C&&(D&&(F&&(G&&(R2&&(!dn&&K))))))),?_,?_⟩<;>clear hq hq2 hq3<;>revert A B C D F G H K R2 dn dd<;>decide
  ·have h1:=hq rfl
   have h2:=hq3 rfl
   subst h1;subst h2
   refine⟨A&&(B&&(!C&&(D&&(F&&(G&&(dn&&(!dd&&H))))))),?_,?_⟩<;>clear hq hq2 hq3<;>revert A B C D F G H K dn dd<;>decide
 ·obtain⟨r1,r2⟩:=Cz w p hr
  rw[r1,r2]
  refine⟨false,rfl,?_⟩
  cases(decide (xs.length≤500)&&cm N0 [] xs)<;>rfl
def bK (g:Nat→Bool):Nat→Nat→Bool
 |_,0=>true
 |i,k+1=>g i&&bK g (i+1) k
theorem cP{g:Nat→Bool}:∀{k i:Nat},bK g i k=true↔∀j,i≤j→j<i+k→g j=true
 |0,i=>⟨fun _ j h1 h2=>by omega,fun _=>rfl⟩
 |k+1,i=>by
  show(g i&&bK g (i+1) k)=true↔_
  rw[Bool.and_eq_true,cP]
  constructor
  ·rintro ⟨h1,h2⟩ j g1 g2
   rcases Nat.eq_or_lt_of_le g1 with q|q
   ·subst q;exact h1
   ·exact h2 j q (by omega)
  ·exact fun h=>⟨h i (Nat.le_refl _) (by omega),fun j g1 g2=>h j (by omega) (by omega)⟩
theorem rU {α:Type} [DecidableEq α]:∀{l m:List α},l.Nodup→(∀x∈l,x∈m)→l.length≤m.length
 |[],m,_,_=>Nat.zero_le _
 |a::l,m,hn,hs=>by
  have ha:=hs a (List.mem_cons_self ..)
  have hn':=List.nodup_cons.1 hn
  have:=rU (l:=l) (m:=m.erase a) hn'.2 (fun x hx=>(List.mem_erase_of_ne (fun(e:x=a)=>hn'.1 (e▸hx))).2 (hs x (List.mem_cons_of_mem _ hx)))
  rw[List.length_erase_of_mem ha]at this
  have:0<m.length:=List.length_pos_of_mem ha
  simp;omega
theorem EC {α:Type} [DecidableEq α]{l m:List α}(hl:l.Nodup) (hm:m.Nodup) (hs:∀x∈l,x∈m):(∀x∈m,x∈l)↔l.length=m.length:=by
 constructor
 ·exact fun h=>Nat.le_antisymm (rU hl hs) (rU hm h)
 ·intro h x hx
  exact Classical.byContradiction fun hn=>by
   have:=rU (l:=x::l) (m:=m) (List.nodup_cons.2 ⟨hn,hl⟩) (fun y hy=>by
    rcases List.mem_cons.1 hy with q|q
    ·exact q▸hx
    ·exact hs y q)
   simp at this;omega
def places (d:Nat→Bool) (n:Nat):List Nat:=(List.range n).filter d
theorem Bp (d:Nat→Bool) (n:Nat):(places d n).Nodup:=List.nodup_range.filter _
theorem s9{d:Nat→Bool}{n i:Nat}:i∈places d n↔i<n∧d i=true:=by
 unfold places
 rw[List.mem_filter,List.mem_range]
theorem CJ (d:Nat→Bool) (n:Nat):(places d (n+1)).length=(places d n).length+(bif d n then 1 else 0):=by
 unfold places
 rw[List.range_succ,List.filter_append,List.length_append]
 cases h:d n<;>simp[h]
theorem Kr (done:Nat→Bool) (n:Nat) (L:List Int) (hnd:L.Nodup) (hin:∀k∈L, ∃i:Nat,k=(i:Int)∧i<n∧done i=true):(∀i:Nat,i<n→done i=true→(i:Int)∈L)↔L.length=(places done n).length:=by
 have hm:((places done n).map Int.ofNat).Nodup:=List.pairwise_map.2 ((Bp done n).imp fun hne e=>hne (Int.ofNat.inj e))
 have:=EC hnd hm (fun k hk=>by
  obtain⟨i,rfl,h1,h2⟩:=hin k hk
  exact List.mem_map.2 ⟨i,s9.2 ⟨h1,h2⟩,rfl⟩)
 rw[List.length_map]at this
 rw[←this]
 constructor
 ·intro h x hx
  obtain⟨i,hi,rfl⟩:=List.mem_map.1 hx
  have:=s9.1 hi
  exact h i this.1 this.2
 ·intro h i h1 h2
  exact h _ (List.mem_map.2 ⟨i,s9.2 ⟨h1,h2⟩,rfl⟩)
theorem EB{L:List Int}:L.Nodup↔∀i,i<L.length→∀j,j<i→L.getD j 0≠L.getD i 0:=by
 rw[List.Nodup,List.pairwise_iff_getElem]
 constructor
 ·intro h i hi j hj
  rw[kC hi,kC (by omega)]
  exact h j i (by omega) hi hj
 ·intro h i j hi hj hij
  have:=h j hj i hij
  rw[kC hi,kC hj]at this
  exact this
abbrev bp:=Int×(Int×(Int×(Int×(Int×((List Int)×(Bool×(Bool×Int)))))))
abbrev aJ:=Int×(Bool×Bool)
abbrev zI:bp:=((0:Int),((0:Int),((0:Int),((0:Int),((0:Int),([],(false,(false,(0:Int)))))))))
abbrev zC:aJ:=((0:Int),(false,false))
theorem dG{X A B:Type}(L:Nat→X→Option (A⊕B)) (st:Nat→X) (g:Nat→Bool) (bad:A) (fin:B) (len:Nat)
  (step:∀m i,i<len→L (m+1) (st i)=bif g i then L m (st (i+1))else some (.inl bad)) (stop:∀m,L (m+1) (st len)=some (.inr fin)) :
  ∀m i,i≤len→len<m+i→L m (st i)=some (bif bK g i (len-i)then .inr fin else .inl bad)
 |0,i,h1,h2=>by omega
 |m+1,i,h1,h2=>by
  rcases Nat.eq_or_lt_of_le h1 with q|q
  ·subst q
   rw[stop,Nat.sub_self];rfl
  ·rw[step m i q,show len-i=(len-(i+1))+1 by omega]
   show(bif g i then _ else _)=some (bif g i&&bK g (i+1) (len-(i+1))then _ else _)
   cases g i with
   |false=>rfl
   |true=>exact dG L st g bad fin len step stop m (i+1) q (by omega)
theorem rO{i:Nat}(h:0<i) (hi:i≤4294967296):IntKind.i64.wrap ((i:Int)-(1:Int))=((i-1:Nat):Int):=by
 rw[ar (by omega) (by omega)];omega
theorem OI (i n:Nat):decide ((i:Int)<(n:Int))=decide (i<n):=by
 rw[Bool.eq_iff_iff];simp
theorem m7{i n:Nat}(h:i<n):decide ((i:Int)<(n:Int))=true:=decide_eq_true (by omega)
theorem qj (n:Nat):decide ((n:Int)<(n:Int))=false:=decide_eq_false (by omega)
def eO (l:List Int) (j:Nat):Bool:=decide (j=0) || decide (l.getD (j-1) 0<l.getD j 0)
def iw (xs:List ab) (k:List Int) (j:Nat):Bool:=cD xs (k.getD j 0)&&eO k j
theorem KB{i:Nat}(h:0<i):decide ((i:Int)>(0:Int))=true:=decide_eq_true (by omega)
theorem Ao (a b:Int):decide (a≤b) = !decide (b<a):=by
 rw[Bool.eq_iff_iff];simp
theorem AE (a b:Int):decide (a≥b) = !decide (a<b):=by
 rw[Bool.eq_iff_iff];simp
theorem zq{xs:List ab}(hx:xs.length≤4294967296){k:List Int}(hk:k.length≤4294967296) (m i:Nat) (hi:i<k.length) :
  bf N0 (m+1) (k,xs,k,(k.length:Int),(i:Int))=bif iw xs k i then bf N0 m (k,xs,k,(k.length:Int),((i+1:Nat):Int))else some (.inl false):=by
 rw[bf]
 dsimp only
 rw[m7 hi,cond_true,au hi,cond_true,oF N0 hx]
 simp only[Option.bind_some,Int.toNat_natCast,aQ hi hk]
 unfold iw eO
 cases cD xs (k.getD i 0)with
 |false=>rfl
 |true =>
  rcases Nat.eq_zero_or_pos i with q|q
  ·subst q;rfl
  ·rw[KB q,cond_true,rO q (by omega),au (by omega),cond_true,Int.toNat_natCast,Ao,decide_eq_false (by omega:¬i=0)]
   cases decide (k.getD (i-1) 0<k.getD i 0)<;>rfl
theorem Do{xs:List ab}(hx:xs.length≤4294967296){k:List Int}(hk:k.length≤4294967296) :
  nT N0 (xs,k)=some (bK (iw xs k) 0 k.length&&(decide (k.length≤200)&&(decide (xs.length≤500)&&cm N0 [] xs))):=by
 have:=dG (bf N0) (fun i=>(k,xs,k,(k.length:Int),(i:Int))) (iw xs k) false (k,xs) k.length (zq hx hk) (fun m=>by
  rw[bf];dsimp only;rw[qj];rfl) N0 0 (Nat.zero_le _) (by have:=n0;omega)
 rw[Nat.sub_zero]at this
 show((bf N0 N0 (k,xs,k,(k.length:Int),(0:Int))).bind _)=_
 rw[show bf N0 N0 (k,xs,k,(k.length:Int),(0:Int))=_ from this]
 cases bK (iw xs k) 0 k.length with
 |false=>rfl
 |true =>
  show(cond (decide ((k.length:Int)≤(200:Int))) ((gg N0 xs).bind fun r5=>some r5) (some false))=_
  rw[wY N0 n0 hx]
  by_cases q:k.length≤200
  ·rw[decide_eq_true (by omega:(k.length:Int)≤(200:Int)),decide_eq_true q];rfl
  ·rw[decide_eq_false (by omega:¬(k.length:Int)≤(200:Int)),decide_eq_false q];rfl
theorem zd{xs:List ab}(hx:xs.length≤4294967296){k:List Int}(hk:k.length≤4294967296) (m i:Nat) (hi:i<k.length) :
  bd N0 (m+1) (k,xs,(i:Int))=bif iw xs k i then bd N0 m (k,xs,((i+1:Nat):Int))else some (.inl false):=by
 rw[bd]
 dsimp only
 rw[m7 hi,cond_true,au hi,cond_true,vO N0 hx]
 simp only[Option.bind_some,Int.toNat_natCast,aQ hi hk]
 unfold iw eO
 cases cD xs (k.getD i 0)with
 |false=>rfl
 |true =>
  rcases Nat.eq_zero_or_pos i with q|q
  ·subst q;rfl
  ·rw[KB q,cond_true,rO q (by omega),au (by omega),cond_true,Int.toNat_natCast,AE,decide_eq_false (by omega:¬i=0)]
   cases decide (k.getD (i-1) 0<k.getD i 0)<;>rfl
theorem wO{xs:List ab}(hx:xs.length≤4294967296){k:List Int}(hk:k.length≤4294967296) :
  jV N0 (xs,k)=some (bK (iw xs k) 0 k.length&&(decide (k.length≤200)&&(decide (xs.length≤500)&&cm N0 [] xs))):=by
 have:=dG (bd N0) (fun i=>(k,xs,(i:Int))) (iw xs k) false () k.length (zd hx hk) (fun m=>by
  rw[bd];dsimp only;rw[qj];rfl) N0 0 (Nat.zero_le _) (by have:=n0;omega)
 rw[Nat.sub_zero]at this
 have e:lM N0 (xs,k)=some (decide (k.length≤200)&&bK (iw xs k) 0 k.length):=by
  show(cond (decide ((k.length:Int)>(200:Int))) (some false) ((bd N0 N0 (k,xs,(0:Int))).bind _))=_
  rw[show bd N0 N0 (k,xs,(0:Int))=_ from this]
  by_cases q:k.length≤200
  ·rw[decide_eq_false (by omega:¬(k.length:Int)>(200:Int)),decide_eq_true q]
   cases bK (iw xs k) 0 k.length<;>rfl
  ·rw[decide_eq_true (by omega:(k.length:Int)>(200:Int)),decide_eq_false q];rfl
 show((fq N0 xs).bind fun r1=>(cond r1 ((lM N0 (xs,k)).bind fun r2=>(some r2)) (some false)))=_
 rw[lR N0 n0 hx,e]
 generalize (decide (xs.length≤500)&&cm N0 [] xs)=P
 generalize bK (iw xs k) 0 k.length=Q
 generalize decide (k.length≤200)=R
 cases P<;>cases Q<;>cases R<;>rfl
theorem KP{k:List Int}(hk:k.length≤4294967296) (m i:Nat) (h0:0<i) (hi:i<k.length) :
  aw N0 (m+1) (k,(i:Int))=bif eO k i then aw N0 m (k,((i+1:Nat):Int))else some (.inl false):=by
 rw[aw]
 dsimp only
 rw[m7 hi,cond_true,au hi,cond_true,rO h0 (by omega),au (by omega),cond_true,Int.toNat_natCast,Int.toNat_natCast,aQ hi hk,Ao]
 unfold eO
 rw[decide_eq_false (by omega:¬i=0)]
 cases decide (k.getD (i-1) 0<k.getD i 0)<;>rfl
theorem yx{k:List Int}(hk:k.length≤4294967296):fX N0 k=some (bK (eO k) 0 k.length):=by
 have h0:∀m,aw N0 (m+1) (k,(k.length:Int))=some (.inr ()):=fun m=>by
  rw[aw];dsimp only;rw[qj];rfl
 show((aw N0 N0 (k,(1:Int))).bind _)=_
 rcases Nat.eq_zero_or_pos k.length with q|q
 ·have:k=[]:=List.eq_nil_of_length_eq_zero q
  subst this
  rfl
 ·have:=dG (aw N0) (fun i=>(k,((i+1:Nat):Int))) (fun i=>eO k (i+1)) false () (k.length-1) (fun m i hi=>KP hk m (i+1) (Nat.succ_pos i) (by omega)) (fun m=>by
   rw[show k.length-1+1=k.length by omega];exact h0 m) N0 0 (Nat.zero_le _) (by have:=n0;omega)
  rw[show aw N0 N0 (k,(1:Int))=_ from this]
  have e:bK (fun i=>eO k (i+1)) 0 (k.length-1-0)=bK (eO k) 0 k.length:=by
   rw[Bool.eq_iff_iff,cP,cP]
   constructor
   ·intro h j h1 h2
    rcases Nat.eq_zero_or_pos j with z|z
    ·subst z;rfl
    ·have:=h (j-1) (Nat.zero_le _) (by omega)
     rw[show j-1+1=j by omega]at this
     exact this
   ·intro h j h1 h2
    exact h (j+1) (Nat.zero_le _) (by omega)
  rw[e]
  cases bK (eO k) 0 k.length<;>rfl
def uA (lo hi v:Int):Bool:=decide (v≥lo)&&decide (v≤hi)
theorem I4{k:List Int}(hk:k.length≤4294967296) (lo hi:Int) (m i:Nat) (hl:i<k.length) :
  be N0 (m+1) (k,lo,hi,(i:Int))=bif uA lo hi (k.getD i 0)&&eO k i then be N0 m (k,lo,hi,((i+1:Nat):Int))else some (.inl false):=by
 rw[be]
 dsimp only
 rw[m7 hl,cond_true,au hl,cond_true,p5]
 simp only[Option.bind_some,Int.toNat_natCast,aQ hl hk]
 rw[show(decide (k.getD i 0≥lo)&&decide (k.getD i 0≤hi))=uA lo hi (k.getD i 0)from rfl]
 unfold eO
 cases uA lo hi (k.getD i 0)with
 |false=>rfl
 |true =>
  rcases Nat.eq_zero_or_pos i with q|q
  ·subst q;rfl
  ·rw[KB q,cond_true,rO q (by omega),au (by omega),cond_true,Int.toNat_natCast,AE,decide_eq_false (by omega:¬i=0)]
   cases decide (k.getD (i-1) 0<k.getD i 0)<;>rfl
theorem xP{k:List Int}(hk:k.length≤4294967296) (lo hi:Int):lO N0 (k,lo,hi)=some (bK (fun j=>uA lo hi (k.getD j 0)&&eO k j) 0 k.length):=by
 have:=dG (be N0) (fun i=>(k,lo,hi,(i:Int))) (fun j=>uA lo hi (k.getD j 0)&&eO k j) false () k.length (I4 hk lo hi) (fun m=>by
  rw[be];dsimp only;rw[qj];rfl) N0 0 (Nat.zero_le _) (by have:=n0;omega)
 rw[Nat.sub_zero]at this
 show((be N0 N0 (k,lo,hi,(0:Int))).bind _)=_
 rw[show be N0 N0 (k,lo,hi,(0:Int))=_ from this]
 cases bK (fun j=>uA lo hi (k.getD j 0)&&eO k j) 0 k.length<;>rfl
def j6 (l:List Int) (v:Int):Bool := !bK (fun j => !(l.getD j 0==v)) 0 l.length
theorem jH{k:List Int}(hk:k.length≤4294967296) (v:Int):cV N0 (k,v)=some (j6 k v):=by
 have:=dG (bz N0) (fun i=>(k,v,(i:Int))) (fun j => !(k.getD j 0==v)) true () k.length (fun m i hi=>by
  rw[bz];dsimp only
  rw[m7 hi,cond_true,au hi,cond_true,Int.toNat_natCast,aQ hi hk]
  cases(k.getD i 0==v)<;>rfl) (fun m=>by
  rw[bz];dsimp only;rw[qj];rfl) N0 0 (Nat.zero_le _) (by have:=n0;omega)
 rw[Nat.sub_zero]at this
 show((bz N0 N0 (k,v,(0:Int))).bind _)=_
 rw[show bz N0 N0 (k,v,(0:Int))=_ from this]
 unfold j6
 cases bK (fun j => !(k.getD j 0==v)) 0 k.length<;>rfl
theorem vQ{l:List Int}{v:Int}:j6 l v=true↔∃j,j<l.length∧l.getD j 0=v:=by
 unfold j6
 rw[Bool.not_eq_true',Bool.eq_false_iff,ne_eq,cP]
 constructor
 ·intro h
  refine Classical.byContradiction fun h2=>h fun j _ hj=>?_
  have:¬l.getD j 0=v:=fun e=>h2 ⟨j,by omega,e⟩
  simpa using this
 ·rintro ⟨j,h1,h2⟩ h
  have:=h j (Nat.zero_le _) (by omega)
  rw[h2]at this
  simp at this
abbrev kI:Ty := .int .i64
abbrev tO (x:bp):List Int:=x.2.2.2.2.2.1
def dn (x:bp):Bool:=x.2.2.2.2.2.2.1
structure Small (xs:List ab) (kn:List Int) (li:List bp) (gv sh:List Int) (lg:List aJ):Prop where
 fx:xs.length≤4294967296
 fk:kn.length≤4294967296
 fl:li.length≤4294967296
 fg:gv.length≤4294967296
 fs:sh.length≤4294967296
 fo:lg.length≤4294967296
 fe:∀i,i<li.length→(tO (li.getD i zI)).length≤4294967296
def ji (xs:List ab) (x:bp):Bool:=(fA N0 (xs,x.1,x.2.1,x.2.2.1,x.2.2.2.1,x.2.2.2.2.1,x.2.2.2.2.2.1,x.2.2.2.2.2.2.1,x.2.2.2.2.2.2.2.1,x.2.2.2.2.2.2.2.2)).getD false
theorem se{xs:List ab}(hx:xs.length≤4294967296){x:bp}(he:(tO x).length≤4294967296) :
  fA N0 (xs,x.1,x.2.1,x.2.2.1,x.2.2.2.1,x.2.2.2.2.1,x.2.2.2.2.2.1,x.2.2.2.2.2.2.1,x.2.2.2.2.2.2.2.1,x.2.2.2.2.2.2.2.2)=some (ji xs x) ∧
  FT N0 (xs,x.1,x.2.1,x.2.2.1,x.2.2.2.1,x.2.2.2.2.1,x.2.2.2.2.2.1,x.2.2.2.2.2.2.1,x.2.2.2.2.2.2.2.1,x.2.2.2.2.2.2.2.2)=some (ji xs x):=by
 obtain⟨v,h1,h2⟩:=EK hx (w:=x.1) (p:=x.2.1) (a:=x.2.2.1) (b:=x.2.2.2.1) (at_:=x.2.2.2.2.1) (env:=x.2.2.2.2.2.1) he (dn:=x.2.2.2.2.2.2.1) (dd:=x.2.2.2.2.2.2.2.1) (key:=x.2.2.2.2.2.2.2.2)
 unfold ji
 rw[h1]
 exact⟨rfl,h2⟩
def aS (xs:List ab):Bool:=decide (xs.length≤500)&&cm N0 [] xs
theorem OL{xs:List ab}(hx:xs.length≤4294967296){x:bp}(he:(tO x).length≤4294967296) (hP:aS xs=true) :
  gi N0 (xs,x.1,x.2.1,x.2.2.1,x.2.2.2.1,x.2.2.2.2.1,x.2.2.2.2.2.1,x.2.2.2.2.2.2.1,x.2.2.2.2.2.2.2.1,x.2.2.2.2.2.2.2.2)=some (ji xs x):=by
 have h2:=(se hx he).2
 have hP:(decide (xs.length≤500)&&cm N0 [] xs)=true:=hP
 rw[FT]at h2
 dsimp only at h2
 rw[lR N0 n0 hx,hP]at h2
 simp only[Option.bind_some,cond_true]at h2
 cases hq:gi N0 (xs,x.1,x.2.1,x.2.2.1,x.2.2.2.1,x.2.2.2.2.1,x.2.2.2.2.2.1,x.2.2.2.2.2.2.1,x.2.2.2.2.2.2.2.1,x.2.2.2.2.2.2.2.2)with
 |none=>rw[hq]at h2;cases h2
 |some v=>rw[hq]at h2;exact h2
def iU (n:Int) (k:Int):Bool:=decide (k≥0)&&decide (k≤n-1)
def eS (li:List bp) (k:Int):Bool:=iU (li.length:Int) k&&dn (li.getD k.toNat zI)
theorem fU{li:List bp}{k:Int}(h:iU (li.length:Int) k=true):aY k li.length=true:=by
 unfold iU at h
 simp at h
 exact decide_eq_true ⟨by omega,by omega⟩
section
variable{xs:List ab}{kn:List Int}{li:List bp}{fr:Int}{gv sh:List Int}{lg:List aJ}
theorem IB (hl:li.length≤4294967296) (k:Int):fw N0 (xs,kn,li,fr,gv,sh,lg,k)=some (xs,kn,li,fr,gv,sh,lg,iU (li.length:Int) k):=by
 rw[fw]
 dsimp only
 rw[ar (by omega) (by omega),d6];rfl
theorem vL (hl:li.length≤4294967296) (k:Int):dp N0 (xs,kn,li,fr,gv,sh,lg,k)=some (xs,kn,li,fr,gv,sh,lg,eS li k):=by
 rw[dp]
 dsimp only
 rw[IB hl]
 simp only[Option.bind_some]
 unfold eS
 cases h:iU (li.length:Int) k with
 |false=>rfl
 |true =>
  rw[fU h];rfl
def lk (lg:List aJ) (j:Nat):Int:=(lg.getD j zC).1
def sr (li:List bp) (lg:List aJ) (i:Nat):Bool:=eS li (lk lg i)&&bK (fun j => !(lk lg j==lk lg i)) 0 i
def vG (lg:List aJ):Nat→List (Int×Int)
 |0=>[]
 |i+1=>kX kI (lk lg i) (IntKind.i64.wrap (eE kI (lk lg i) (vG lg i)+(1:Int))) (vG lg i)
def tR (lg:List aJ) (k:Int):Nat→Nat
 |0=>0
 |i+1=>tR lg k i+(if lk lg i=k then 1 else 0)
theorem BT (lg:List aJ) (k:Int):∀i,tR lg k i≤i
 |0=>Nat.le_refl _
 |i+1=>by
  have:=BT lg k i
  show tR lg k i+(if lk lg i=k then 1 else 0)≤i+1
  split<;>omega
theorem yt (lg:List aJ) (k:Int):∀i,i≤4294967296→eE kI k (vG lg i)=(tR lg k i:Int)
 |0,_=>rfl
 |i+1,h=>by
  have ih:=fun k=>yt lg k i (by omega)
  show eE kI k (kX kI (lk lg i) (IntKind.i64.wrap (eE kI (lk lg i) (vG lg i)+(1:Int))) (vG lg i))=((tR lg k i+(if lk lg i=k then 1 else 0):Nat):Int)
  by_cases q:lk lg i=k
  ·subst q
   rw[rW (oH kI rfl _),yt lg _ i (by omega),if_pos rfl]
   have:=BT lg (lk lg i) i
   rw[ar (by omega) (by omega)];omega
  ·have hne:kI.eqv k (lk lg i)=false:=by
    rw[Bool.eq_false_iff]
    exact fun h=>q (wb kI h).symm
   rw[ui hne,yt lg k i (by omega),if_neg q,Nat.add_zero]
theorem sj (lg:List aJ) (k:Int):∀i,tR lg k i=0↔∀j,j<i→lk lg j≠k
 |0=>⟨fun _ j h=>by omega,fun _=>rfl⟩
 |i+1=>by
  show tR lg k i+(if lk lg i=k then 1 else 0)=0↔_
  have ih:=sj lg k i
  by_cases q:lk lg i=k
  ·rw[if_pos q]
   exact⟨fun h=>by omega,fun h=>absurd q (h i (by omega))⟩
  ·rw[if_neg q,Nat.add_zero,ih]
   constructor
   ·intro h j hj
    rcases Nat.lt_or_ge j i with z|z
    ·exact h j z
    ·have:j=i:=by omega
     subst this;exact q
   ·exact fun h j hj=>h j (by omega)
theorem Kp (hg:lg.length≤4294967296){i:Nat}(hi:i<lg.length):decide (eE kI (lk lg i) (vG lg (i+1))>(1:Int)) = !bK (fun j => !(lk lg j==lk lg i)) 0 i:=by
 rw[yt lg _ (i+1) (by omega),show tR lg (lk lg i) (i+1)=tR lg (lk lg i) i+1 from by show _+(if _ then 1 else 0)=_;rw[if_pos rfl]]
 have hc:=BT lg (lk lg i) i
 rw[Bool.eq_iff_iff,decide_eq_true_iff,Bool.not_eq_true',Bool.eq_false_iff,ne_eq,cP]
 have hz:=sj lg (lk lg i) i
 constructor
 ·intro h h2
  have:tR lg (lk lg i) i=0:=hz.2 fun j hj e=>by
   have:=h2 j (Nat.zero_le _) (by omega)
   rw[e]at this
   simp at this
  omega
 ·intro h
  have:tR lg (lk lg i) i≠0:=fun e=>h fun j _ hj=>by
   have:=hz.1 e j (by omega)
   simpa using this
  omega
def oo (li:List bp) (lg:List aJ) (i:Nat):Bool := !dn (li.getD i zI) || !(((tR lg (i:Int) lg.length:Nat):Int)==(0:Int))
theorem Ks (hl:li.length≤4294967296) (hg:lg.length≤4294967296):eG N0 (xs,kn,li,fr,gv,sh,lg)=some (xs,kn,li,fr,gv,sh,lg,bK (sr li lg) 0 lg.length&&bK (oo li lg) 0 li.length):=by
 have h1:=dG (aM N0) (fun i=>(xs,kn,li,fr,gv,sh,lg,vG lg i,lg,(lg.length:Int),(i:Int))) (sr li lg) (xs,kn,li,fr,gv,sh,lg,false) (xs,kn,li,fr,gv,sh,lg,vG lg lg.length) lg.length (fun m i hi=>by
  rw[aM];dsimp only
  rw[m7 hi,cond_true,au hi,cond_true,vL hl]
  simp only[Option.bind_some,Int.toNat_natCast,aQ hi hg]
  show(cond (!eS li (lk lg i)) (some (Sum.inl (xs,kn,li,fr,gv,sh,lg,false))) (cond (decide (eE kI (lk lg i) (vG lg (i+1))>(1:Int))) (some (Sum.inl (xs,kn,li,fr,gv,sh,lg,false))) (aM N0 m (xs,kn,li,fr,gv,sh,lg,vG lg (i+1),lg,(lg.length:Int),((i+1:Nat):Int)))))=_
  rw[Kp hg hi]
  unfold sr
  cases eS li (lk lg i)with
  |false=>rfl
  |true =>
   cases bK (fun j => !(lk lg j==lk lg i)) 0 i<;>rfl) (fun m=>by
  rw[aM];dsimp only;rw[qj];rfl) N0 0 (Nat.zero_le _) (by have:=n0;omega)
 have h2:=dG (aE N0) (fun i=>(xs,kn,li,fr,gv,sh,lg,vG lg lg.length,li,(li.length:Int),(i:Int))) (oo li lg) (xs,kn,li,fr,gv,sh,lg,false) (xs,kn,li,fr,gv,sh,lg) li.length (fun m i hi=>by
  rw[aE];dsimp only
  rw[m7 hi,cond_true,au hi,cond_true]
  simp only[Int.toNat_natCast,aQ hi hl]
  rw[yt lg (i:Int) lg.length hg]
  unfold oo dn
  cases(li.getD i zI).2.2.2.2.2.2.1 with
  |false=>rfl
  |true=>cases(((tR lg (i:Int) lg.length:Nat):Int)==(0:Int))<;>rfl) (fun m=>by
  rw[aE];dsimp only;rw[qj];rfl) N0 0 (Nat.zero_le _) (by have:=n0;omega)
 rw[Nat.sub_zero]at h1 h2
 rw[eG]
 dsimp only
 rw[show aM N0 N0 (xs,kn,li,fr,gv,sh,lg,[],lg,(lg.length:Int),(0:Int))=_ from h1]
 cases bK (sr li lg) 0 lg.length with
 |false=>rfl
 |true =>
  show((aE N0 N0 (xs,kn,li,fr,gv,sh,lg,vG lg lg.length,li,(li.length:Int),(0:Int))).bind _)=_
  rw[show aE N0 N0 (xs,kn,li,fr,gv,sh,lg,vG lg lg.length,li,(li.length:Int),(0:Int))=_ from h2]
  cases bK (oo li lg) 0 li.length<;>rfl
def q9 (xs:List ab) (li:List bp):Bool:=bK (fun i=>ji xs (li.getD i zI)) 0 li.length
def sm (gv:List Int):Bool:=bK (fun i=>uA 0 4 (gv.getD i 0)) 0 gv.length
def qG (li:List bp) (sh:List Int):Bool:=bK (fun i=>eS li (sh.getD i 0)) 0 sh.length
def sI (xs:List ab) (kn:List Int):Bool:=bK (iw xs kn) 0 kn.length&&(decide (kn.length≤200)&&aS xs)
theorem BH (hs:Small xs kn li gv sh lg):dQ N0 (xs,kn,li,fr,gv,sh,lg)=some (sI xs kn&&(decide (li.length≤8)&&(uA 0 8 fr&&(bK (eO gv) 0 gv.length&&(bK (eO sh) 0 sh.length&&(q9 xs li&&(sm gv&&(qG li sh&&(bK (sr li lg) 0 lg.length&&bK (oo li lg) 0 li.length))))))))):=by
 have h1:=dG (bR N0) (fun i=>(xs,kn,li,fr,gv,sh,lg,li,(li.length:Int),(i:Int))) (fun i=>ji xs (li.getD i zI)) false (xs,kn,li,fr,gv,sh,lg) li.length (fun m i hi=>by
  rw[bR];dsimp only
  rw[m7 hi,cond_true,au hi,cond_true]
  simp only[Int.toNat_natCast,aQ hi hs.fl]
  rw[(se hs.fx (hs.fe i hi)).1]
  simp only[Option.bind_some]
  cases ji xs (li.getD i zI)<;>rfl) (fun m=>by
  rw[bR];dsimp only;rw[qj];rfl) N0 0 (Nat.zero_le _) (by have:=n0;have:=hs.fl;omega)
 have h2:=dG (bn N0) (fun i=>(xs,kn,li,fr,gv,sh,lg,gv,(gv.length:Int),(i:Int))) (fun i=>uA 0 4 (gv.getD i 0)) false (xs,kn,li,fr,gv,sh,lg) gv.length (fun m i hi=>by
  rw[bn];dsimp only
  rw[m7 hi,cond_true,au hi,cond_true,rE]
  simp only[Option.bind_some,Int.toNat_natCast,aQ hi hs.fg]
  rw[show(decide (gv.getD i 0≥0)&&decide (gv.getD i 0≤4))=uA 0 4 (gv.getD i 0)from rfl]
  cases uA 0 4 (gv.getD i 0)<;>rfl) (fun m=>by
  rw[bn];dsimp only;rw[qj];rfl) N0 0 (Nat.zero_le _) (by have:=n0;have:=hs.fg;omega)
 have h3:=dG (bm N0) (fun i=>(xs,kn,li,fr,gv,sh,lg,sh,(sh.length:Int),(i:Int))) (fun i=>eS li (sh.getD i 0)) false (xs,kn,li,fr,gv,sh,lg) sh.length (fun m i hi=>by
  rw[bm];dsimp only
  rw[m7 hi,cond_true,au hi,cond_true,vL hs.fl]
  simp only[Option.bind_some,Int.toNat_natCast,aQ hi hs.fs]
  cases eS li (sh.getD i 0)<;>rfl) (fun m=>by
  rw[bm];dsimp only;rw[qj];rfl) N0 0 (Nat.zero_le _) (by have:=n0;have:=hs.fs;omega)
 rw[Nat.sub_zero]at h1 h2 h3
 rw[dQ]
 dsimp only
 rw[Do hs.fx hs.fk,d6,yx hs.fg,yx hs.fs,
  show bR N0 N0 (xs,kn,li,fr,gv,sh,lg,li,(li.length:Int),(0:Int))=_ from h1]
 simp only[Option.bind_some]
 rw[show(bK (iw xs kn) 0 kn.length&&(decide (kn.length≤200)&&(decide (xs.length≤500)&&cm N0 [] xs)))=sI xs kn from rfl,
  show(decide (fr≥0)&&decide (fr≤8))=uA 0 8 fr from rfl,show bK (fun i=>ji xs (li.getD i zI)) 0 li.length=q9 xs li from rfl]
 cases sI xs kn with
 |false=>rfl
 |true =>
  by_cases q:li.length≤8
  ·rw[decide_eq_false (by omega:¬(li.length:Int)>(8:Int)),decide_eq_true q]
   cases uA 0 8 fr with
   |false=>rfl
   |true =>
    cases bK (eO gv) 0 gv.length with
    |false=>rfl
    |true =>
     cases bK (eO sh) 0 sh.length with
     |false=>rfl
     |true =>
      cases q9 xs li with
      |false=>rfl
      |true =>
       show((bn N0 N0 (xs,kn,li,fr,gv,sh,lg,gv,(gv.length:Int),(0:Int))).bind _)=_
       rw[show bn N0 N0 (xs,kn,li,fr,gv,sh,lg,gv,(gv.length:Int),(0:Int))=_ from h2,show bK (fun i=>uA 0 4 (gv.getD i 0)) 0 gv.length=sm gv from rfl]
       cases sm gv with
       |false=>rfl
       |true =>
        show((bm N0 N0 (xs,kn,li,fr,gv,sh,lg,sh,(sh.length:Int),(0:Int))).bind _)=_
        rw[show bm N0 N0 (xs,kn,li,fr,gv,sh,lg,sh,(sh.length:Int),(0:Int))=_ from h3,show bK (fun i=>eS li (sh.getD i 0)) 0 sh.length=qG li sh from rfl]
        cases qG li sh with
        |false=>rfl
        |true =>
         show((eG N0 (xs,kn,li,fr,gv,sh,lg)).bind _)=_
         rw[Ks hs.fl hs.fo];rfl
  ·rw[decide_eq_true (by omega:(li.length:Int)>(8:Int)),decide_eq_false q];rfl
def Ce (li:List bp) (i:Nat):Bool:=dn (li.getD i zI)
def Lk (xs:List ab) (li:List bp) (sh:List Int) (i:Nat):Bool:=ji xs (li.getD i zI)&&(!j6 sh (i:Int) || Ce li i)
theorem G1 (d:Nat→Bool) (n:Nat):(places d n).length≤n:=by
 unfold places
 exact Nat.le_trans (List.length_filter_le _ _) (by simp)
theorem Qx (hs:Small xs kn li gv sh lg) (hP:aS xs=true):bc N0 N0 (xs,kn,li,fr,gv,sh,lg,(li.length:Int),(0:Int),(0:Int)) =
  some (bif bK (Lk xs li sh) 0 li.length then .inr (xs,kn,li,fr,gv,sh,lg,(li.length:Int),((places (Ce li) li.length).length:Int))else .inl false):=by
 have h:=dG (bc N0) (fun i=>(xs,kn,li,fr,gv,sh,lg,(li.length:Int),((places (Ce li) i).length:Int),(i:Int))) (Lk xs li sh) false (xs,kn,li,fr,gv,sh,lg,(li.length:Int),((places (Ce li) li.length).length:Int)) li.length (fun m i hi=>by
  rw[bc];dsimp only
  rw[m7 hi,cond_true,au hi,cond_true]
  simp only[Int.toNat_natCast,aQ hi hs.fl]
  rw[OL hs.fx (hs.fe i hi) hP,jH hs.fs]
  simp only[Option.bind_some,cond_true]
  have hpl:=G1 (Ce li) i
  have hli:=hs.fl
  rw[CJ,show(li.getD i zI).2.2.2.2.2.2.1=Ce li i from rfl,aQ (i:=(places (Ce li) i).length) (n:=i+1) (by omega) (by omega)]
  unfold Lk
  cases ji xs (li.getD i zI)with
  |false=>rfl
  |true =>
   cases j6 sh (i:Int)<;>cases Ce li i<;>rfl) (fun m=>by
  rw[bc];dsimp only;rw[qj];rfl) N0 0 (Nat.zero_le _) (by have:=n0;have:=hs.fl;omega)
 rw[Nat.sub_zero]at h
 exact h
theorem Oc (hg:lg.length≤4294967296){N D k:Int}{i:Nat}(hi:i<lg.length):bu N0 N0 (xs,kn,li,fr,gv,sh,lg,N,D,(i:Int),k,(0:Int)) =
  some (bif bK (fun j => !(lk lg j==k)) 0 i then .inr (xs,kn,li,fr,gv,sh,lg,N,D,(i:Int))else .inl false):=by
 have h:=dG (bu N0) (fun j=>(xs,kn,li,fr,gv,sh,lg,N,D,(i:Int),k,(j:Int))) (fun j => !(lk lg j==k)) false (xs,kn,li,fr,gv,sh,lg,N,D,(i:Int)) i (fun m j hj=>by
  rw[bu];dsimp only
  rw[m7 hj,cond_true,au (by omega:j<lg.length),cond_true]
  simp only[Int.toNat_natCast,aQ (by omega:j<lg.length) hg]
  rw[show(lg.getD j zC).1=lk lg j from rfl]
  cases(lk lg j==k)<;>rfl) (fun m=>by
  rw[bu];dsimp only;rw[qj];rfl) N0 0 (Nat.zero_le _) (by have:=n0;omega)
 rw[Nat.sub_zero]at h
 exact h
theorem Od (hl:li.length≤4294967296) (hg:lg.length≤4294967296){D:Int}:aZ N0 N0 (xs,kn,li,fr,gv,sh,lg,(li.length:Int),D,(0:Int)) =
  some (bif bK (sr li lg) 0 lg.length then .inr (xs,kn,li,fr,gv,sh,lg,D)else .inl false):=by
 have h:=dG (aZ N0) (fun i=>(xs,kn,li,fr,gv,sh,lg,(li.length:Int),D,(i:Int))) (sr li lg) false (xs,kn,li,fr,gv,sh,lg,D) lg.length (fun m i hi=>by
  rw[aZ];dsimp only
  rw[m7 hi,cond_true,au hi,cond_true,ar (show -9223372036854775808≤(li.length:Int)-1 by omega) (show(li.length:Int)-1≤9223372036854775807 by omega),p5]
  simp only[Option.bind_some,Int.toNat_natCast]
  rw[show(decide ((lg.getD i zC).1≥0)&&decide ((lg.getD i zC).1≤(li.length:Int)-1))=iU (li.length:Int) (lk lg i)from rfl,show(lg.getD i zC).1=lk lg i from rfl]
  unfold sr eS
  cases hq:iU (li.length:Int) (lk lg i)with
  |false=>rfl
  |true =>
   rw[fU hq,Oc hg hi]
   unfold dn
   cases(li.getD (lk lg i).toNat zI).2.2.2.2.2.2.1 with
   |false=>rfl
   |true =>
    cases bK (fun j => !(lk lg j==lk lg i)) 0 i with
    |false=>rfl
    |true =>
     show aZ N0 m (xs,kn,li,fr,gv,sh,lg,(li.length:Int),D,IntKind.i64.wrap ((i:Int)+(1:Int)))=_
     rw[aQ hi hg];rfl) (fun m=>by
  rw[aZ];dsimp only;rw[qj];rfl) N0 0 (Nat.zero_le _) (by have:=n0;omega)
 rw[Nat.sub_zero]at h
 exact h
theorem Bh (hs:Small xs kn li gv sh lg):co N0 (xs,kn,li,fr,gv,sh,lg)=some (sI xs kn&&(decide (li.length≤8)&&(uA 0 8 fr&&(bK (fun j=>uA 0 4 (gv.getD j 0)&&eO gv j) 0 gv.length&&(bK (fun j=>uA 0 ((li.length:Int)-1) (sh.getD j 0)&&eO sh j) 0 sh.length&&(bK (Lk xs li sh) 0 li.length&&(bK (sr li lg) 0 lg.length&&((lg.length:Int)==((places (Ce li) li.length).length:Int))))))))):=by
 have hli:=hs.fl
 rw[co]
 dsimp only
 rw[wO hs.fx hs.fk,p5,xP hs.fg,ar (show -9223372036854775808≤(li.length:Int)-1 by omega) (show(li.length:Int)-1≤9223372036854775807 by omega),xP hs.fs]
 simp only[Option.bind_some]
 rw[show(bK (iw xs kn) 0 kn.length&&(decide (kn.length≤200)&&(decide (xs.length≤500)&&cm N0 [] xs)))=sI xs kn from rfl,
  show(decide (fr≥0)&&decide (fr≤8))=uA 0 8 fr from rfl]
 cases hk:sI xs kn with
 |false=>rfl
 |true =>
  have hP:aS xs=true:=by
   unfold sI at hk
   rw[Bool.and_eq_true,Bool.and_eq_true]at hk
   exact hk.2.2
  rw[Qx hs hP]
  by_cases q:li.length≤8
  ·rw[decide_eq_false (by omega:¬(li.length:Int)>(8:Int)),decide_eq_true q]
   cases uA 0 8 fr with
   |false=>rfl
   |true =>
    cases bK (fun j=>uA 0 4 (gv.getD j 0)&&eO gv j) 0 gv.length with
    |false=>rfl
    |true =>
     cases bK (fun j=>uA 0 ((li.length:Int)-1) (sh.getD j 0)&&eO sh j) 0 sh.length with
     |false=>rfl
     |true =>
      cases bK (Lk xs li sh) 0 li.length with
      |false=>rfl
      |true =>
       show((aZ N0 N0 (xs,kn,li,fr,gv,sh,lg,(li.length:Int),((places (Ce li) li.length).length:Int),(0:Int))).bind _)=_
       rw[Od hs.fl hs.fo]
       cases bK (sr li lg) 0 lg.length<;>rfl
  ·rw[decide_eq_true (by omega:(li.length:Int)>(8:Int)),decide_eq_false q];rfl
end
theorem DL (a b:Nat→Bool) (i k:Nat):bK (fun j=>a j&&b j) i k=(bK a i k&&bK b i k):=by
 rw[Bool.eq_iff_iff,Bool.and_eq_true,cP,cP,cP]
 constructor
 ·intro h
  refine⟨fun j h1 h2=>?_,fun j h1 h2=>?_⟩
  ·have:=h j h1 h2
   rw[Bool.and_eq_true]at this;exact this.1
  ·have:=h j h1 h2
   rw[Bool.and_eq_true]at this;exact this.2
 ·rintro ⟨h1,h2⟩ j h3 h4
  rw[Bool.and_eq_true]
  exact⟨h1 j h3 h4,h2 j h3 h4⟩
section
variable{xs:List ab}{kn:List Int}{li:List bp}{fr:Int}{gv sh:List Int}{lg:List aJ}
theorem D3:(q9 xs li&&qG li sh)=(bK (fun j=>uA 0 ((li.length:Int)-1) (sh.getD j 0)) 0 sh.length&&bK (Lk xs li sh) 0 li.length):=by
 unfold q9 qG
 rw[Bool.eq_iff_iff,Bool.and_eq_true,Bool.and_eq_true,cP,cP,cP,cP]
 constructor
 ·rintro ⟨h1,h2⟩
  refine⟨fun j h3 h4=>?_,fun i h3 h4=>?_⟩
  ·have:=h2 j h3 h4
   unfold eS at this
   rw[Bool.and_eq_true]at this
   exact this.1
  ·unfold Lk
   rw[Bool.and_eq_true]
   refine⟨h1 i h3 h4,?_⟩
   cases hh:j6 sh (i:Int)with
   |false=>rfl
   |true =>
    obtain⟨j,h5,h6⟩:=vQ.1 hh
    have:=h2 j (Nat.zero_le _) (by omega)
    unfold eS at this
    rw[Bool.and_eq_true,h6,Int.toNat_natCast]at this
    show(false || Ce li i)=true
    rw[Bool.false_or];exact this.2
 ·rintro ⟨h1,h2⟩
  refine⟨fun i h3 h4=>?_,fun j h3 h4=>?_⟩
  ·have:=h2 i h3 h4
   unfold Lk at this
   rw[Bool.and_eq_true]at this
   exact this.1
  ·have hr:=h1 j h3 h4
   unfold eS
   rw[Bool.and_eq_true]
   refine⟨hr,?_⟩
   have hr':=hr
   unfold uA at hr'
   rw[Bool.and_eq_true,decide_eq_true_iff,decide_eq_true_iff]at hr'
   obtain⟨i,hi⟩:=Int.eq_ofNat_of_zero_le hr'.1
   rw[hi]at hr' ⊢
   rw[Int.toNat_natCast]
   have:=h2 i (Nat.zero_le _) (by omega)
   unfold Lk at this
   rw[Bool.and_eq_true]at this
   have hh:j6 sh (i:Int)=true:=vQ.2 ⟨j,by omega,hi⟩
   have h3:=this.2
   rw[hh]at h3
   exact h3
theorem Kq (h:bK (sr li lg) 0 lg.length=true):bK (oo li lg) 0 li.length=((lg.length:Int)==((places (Ce li) li.length).length:Int)):=by
 rw[cP]at h
 have hg:∀i,i<lg.length→eS li (lk lg i)=true∧∀j,j<i→lk lg j≠lk lg i:=fun i hi=>by
  have:=h i (Nat.zero_le _) (by omega)
  unfold sr at this
  rw[Bool.and_eq_true,cP]at this
  refine⟨this.1,fun j hj e=>?_⟩
  have:=this.2 j (Nat.zero_le _) (by omega)
  rw[e]at this
  simp at this
 have hL:((List.range lg.length).map (lk lg)).length=lg.length:=by simp
 have hnd:((List.range lg.length).map (lk lg)).Nodup:=by
  rw[EB,hL]
  intro i hi j hj
  have e:∀k,k<lg.length→((List.range lg.length).map (lk lg)).getD k 0=lk lg k:=fun k hk=>by
   rw[kC (by rw[hL];exact hk)];simp
  rw[e i hi,e j (by omega)]
  exact(hg i hi).2 j hj
 have hin:∀k∈(List.range lg.length).map (lk lg), ∃i:Nat,k=(i:Int)∧i<li.length∧Ce li i=true:=by
  intro k hk
  obtain⟨j,hj,rfl⟩:=List.mem_map.1 hk
  have:=(hg j (List.mem_range.1 hj)).1
  unfold eS iU at this
  rw[Bool.and_eq_true,Bool.and_eq_true,decide_eq_true_iff,decide_eq_true_iff]at this
  obtain⟨⟨h1,h2⟩,h3⟩:=this
  obtain⟨i,hi⟩:=Int.eq_ofNat_of_zero_le h1
  rw[hi]at h2 h3
  rw[Int.toNat_natCast]at h3
  exact⟨i,hi,by omega,h3⟩
 have key:=Kr (Ce li) li.length _ hnd hin
 rw[hL]at key
 rw[Bool.eq_iff_iff,cP,beq_iff_eq]
 have hmem:∀i:Nat,(i:Int)∈(List.range lg.length).map (lk lg)↔tR lg (i:Int) lg.length≠0:=by
  intro i
  rw[Ne,sj,List.mem_map]
  constructor
  ·rintro ⟨j,h1,h2⟩ h3
   exact h3 j (List.mem_range.1 h1) h2
  ·intro h1
   refine Classical.byContradiction fun h2=>h1 fun j hj e=>h2 ⟨j,List.mem_range.2 hj,e⟩
 have e1:((lg.length:Int)=((places (Ce li) li.length).length:Int))↔lg.length=(places (Ce li) li.length).length:=by omega
 rw[e1, ←key]
 constructor
 ·intro h1 i h2 h3
  have:=h1 i (Nat.zero_le _) (by omega)
  rw[hmem]
  unfold oo at this
  rw[show dn (li.getD i zI)=Ce li i from rfl,h3]at this
  intro h4
  rw[h4]at this
  exact absurd this (by decide)
 ·intro h1 i _ h2
  unfold oo
  cases h3:dn (li.getD i zI)with
  |false=>rfl
  |true =>
   have:=(hmem i).1 (h1 i (by omega) h3)
   show(false || !(((tR lg (i:Int) lg.length:Nat):Int)==(0:Int)))=true
   rw[Bool.false_or,Bool.not_eq_true',beq_eq_false_iff_ne]
   omega
def bJ (xs:List ab) (kn:List Int) (li:List bp) (fr:Int) (gv sh:List Int) (lg:List aJ):Bool :=
 sI xs kn&&(decide (li.length≤8)&&(uA 0 8 fr&&(bK (eO gv) 0 gv.length&&(bK (eO sh) 0 sh.length&&(q9 xs li&&(sm gv&&(qG li sh&&(bK (sr li lg) 0 lg.length&&bK (oo li lg) 0 li.length))))))))
theorem xH (hs:Small xs kn li gv sh lg):co N0 (xs,kn,li,fr,gv,sh,lg)=some (bJ xs kn li fr gv sh lg):=by
 refine(Bh hs).trans (congrArg some ?_)
 unfold bJ
 have e1:bK (fun j=>uA 0 4 (gv.getD j 0)&&eO gv j) 0 gv.length=(sm gv&&bK (eO gv) 0 gv.length):=DL _ _ _ _
 have e2:bK (fun j=>uA 0 ((li.length:Int)-1) (sh.getD j 0)&&eO sh j) 0 sh.length=(bK (fun j=>uA 0 ((li.length:Int)-1) (sh.getD j 0)) 0 sh.length&&bK (eO sh) 0 sh.length):=DL _ _ _ _
 have e3:=D3 (xs:=xs) (li:=li) (sh:=sh)
 rw[e1,e2]
 cases hl:bK (sr li lg) 0 lg.length with
 |true =>
  rw[Kq hl]
  revert e3
  generalize bK (fun j=>uA 0 ((li.length:Int)-1) (sh.getD j 0)) 0 sh.length=A
  generalize bK (Lk xs li sh) 0 li.length=B
  generalize q9 xs li=C
  generalize qG li sh=D
  generalize sm gv=E
  generalize bK (eO gv) 0 gv.length=F
  generalize bK (eO sh) 0 sh.length=G
  generalize ((lg.length:Int)==((places (Ce li) li.length).length:Int))=H
  generalize sI xs kn=K
  generalize decide (li.length≤8)=M
  generalize uA 0 8 fr=R
  intro e3
  have:(A&&B)=(C&&D):=e3.symm
  cases A<;>cases B<;>cases C<;>cases D<;>simp_all<;>(cases E<;>cases F<;>cases G<;>rfl)
 |false =>
  simp only[Bool.false_and,Bool.and_false]
theorem eI (hs:Small xs kn li gv sh lg):dQ N0 (xs,kn,li,fr,gv,sh,lg)=some (bJ xs kn li fr gv sh lg)∧co N0 (xs,kn,li,fr,gv,sh,lg)=some (bJ xs kn li fr gv sh lg):=⟨BH hs,xH hs⟩
end
section
variable{xs:List ab}{kn:List Int}{li:List bp}{fr:Int}{gv sh:List Int}{lg:List aJ}
end
section
variable{xs:List ab}{kn:List Int}{li:List bp}{fr:Int}{gv sh:List Int}{lg:List aJ}{k:Int}
theorem DD{l:List Int}(hl:l.length≤4294967296) (v:Int):bS N0 (l,v)=some (j6 l v):=by
 have h:∀(m i:Nat),i≤l.length→l.length<m+i →
   (∃j:Nat,ak N0 m (l,v,(l.length:Int),(i:Int))=some (.inl (j:Int))∧bK (fun j => !(l.getD j 0==v)) i (l.length-i)=false) ∨
   (ak N0 m (l,v,(l.length:Int),(i:Int))=some (.inr ())∧bK (fun j => !(l.getD j 0==v)) i (l.length-i)=true):=by
  intro m
  induction m with
  |zero=>intro i h1 h2;omega
  |succ m ih =>
   intro i h1 h2
   rcases Nat.eq_or_lt_of_le h1 with q|q
   ·subst q
    refine .inr ⟨?_,?_⟩
    ·rw[ak];dsimp only;rw[qj];rfl
    ·rw[Nat.sub_self];rfl
   ·rw[ak]
    dsimp only
    rw[m7 q,cond_true,au q,cond_true,Int.toNat_natCast,aQ q hl,show l.length-i=(l.length-(i+1))+1 by omega]
    show(∃j:Nat,_∧(!(l.getD i 0==v)&&bK (fun j => !(l.getD j 0==v)) (i+1) (l.length-(i+1)))=false)∨(_∧(!(l.getD i 0==v)&&bK (fun j => !(l.getD j 0==v)) (i+1) (l.length-(i+1)))=true)
    have hc:(v==l.getD i 0)=(l.getD i 0==v):=by
     rw[Bool.eq_iff_iff,beq_iff_eq,beq_iff_eq]
     exact⟨fun h=>h.symm,fun h=>h.symm⟩
    rw[hc]
    cases hq:(l.getD i 0==v)with
    |true=>exact .inl ⟨i,rfl,rfl⟩
    |false=>exact ih (i+1) q (by omega)
 rcases h N0 0 (Nat.zero_le _) (by have:=n0;omega)with⟨j,h1,h2⟩|⟨h1,h2⟩
 ·rw[bS];dsimp only
  rw[c8];dsimp only
  rw[show ak N0 N0 (l,v,(l.length:Int),(0:Int))=_ from h1]
  unfold j6
  rw[Nat.sub_zero]at h2
  rw[h2]
  show some (decide ((j:Int)≥0))=some true
  rw[decide_eq_true (by omega:(j:Int)≥0)]
 ·rw[bS];dsimp only
  rw[c8];dsimp only
  rw[show ak N0 N0 (l,v,(l.length:Int),(0:Int))=_ from h1]
  unfold j6
  rw[Nat.sub_zero]at h2
  rw[h2];rfl
theorem KC (hg:gv.length≤4294967296) (v:Int):eH N0 (xs,kn,li,fr,gv,sh,lg,v)=some (xs,kn,li,fr,gv,sh,lg,j6 gv v):=by
 rw[eH];dsimp only
 rw[DD hg];rfl
def fc (lg:List aJ) (k:Int):Nat→Nat→Option aJ
 |_,0=>none
 |i,m+1=>bif lk lg i==k then some (lg.getD i zC)else fc lg k (i+1) m
def eQ (lg:List aJ) (k:Int):Option aJ:=fc lg k 0 lg.length
theorem rg (hg:lg.length≤4294967296):∀(m i:Nat),i≤lg.length→lg.length<m+i→aI N0 m (xs,kn,li,fr,gv,sh,lg,k,(0:Int),false,false,lg,(lg.length:Int),(i:Int)) =
  some (match fc lg k i (lg.length-i)with|some c => .inl (xs,kn,li,fr,gv,sh,lg,c.1,c.2.1,c.2.2,true)|none => .inr (xs,kn,li,fr,gv,sh,lg,(0:Int),false,false))
 |0,i,h1,h2=>by omega
 |m+1,i,h1,h2=>by
  rcases Nat.eq_or_lt_of_le h1 with q|q
  ·subst q
   rw[aI];dsimp only;rw[qj,Nat.sub_self];rfl
  ·have ih:=rg hg m (i+1) q (by omega)
   rw[aI];dsimp only
   rw[m7 q,cond_true,au q,cond_true,Int.toNat_natCast,aQ q hg,show lg.length-i=(lg.length-(i+1))+1 by omega,ih]
   show(cond (lk lg i==k) _ _)=some (match(bif lk lg i==k then some (lg.getD i zC)else fc lg k (i+1) (lg.length-(i+1)))with|some c=>_|none=>_)
   cases(lk lg i==k)<;>rfl
theorem pJ (hg:lg.length≤4294967296):dM N0 (xs,kn,li,fr,gv,sh,lg,k) =
  some (match eQ lg k with|some c=>(xs,kn,li,fr,gv,sh,lg,c.1,c.2.1,c.2.2,true)|none=>(xs,kn,li,fr,gv,sh,lg,(0:Int),false,false,false)):=by
 have h:=rg (xs:=xs) (kn:=kn) (li:=li) (fr:=fr) (gv:=gv) (sh:=sh) (k:=k) hg N0 0 (Nat.zero_le _) (by have:=n0;omega)
 rw[Nat.sub_zero]at h
 rw[dM];dsimp only
 rw[show aI N0 N0 (xs,kn,li,fr,gv,sh,lg,k,(0:Int),false,false,lg,(lg.length:Int),(0:Int))=_ from h]
 unfold eQ
 cases fc lg k 0 lg.length<;>rfl
theorem qF (hg:lg.length≤4294967296):∀(m i:Nat),i≤lg.length→lg.length<m+i→br N0 m (k,xs,kn,li,fr,gv,sh,lg,(0:Int),false,false,(i:Int)) =
  some (match fc lg k i (lg.length-i)with|some c => .inl (c.1,c.2.1,c.2.2,true)|none => .inr ((0:Int),false,false))
 |0,i,h1,h2=>by omega
 |m+1,i,h1,h2=>by
  rcases Nat.eq_or_lt_of_le h1 with q|q
  ·subst q
   rw[br];dsimp only;rw[qj,Nat.sub_self];rfl
  ·have ih:=qF hg m (i+1) q (by omega)
   rw[br];dsimp only
   rw[m7 q,cond_true,au q,cond_true,cond_true,Int.toNat_natCast,aQ q hg,show lg.length-i=(lg.length-(i+1))+1 by omega,ih]
   show(cond (lk lg i==k) _ _)=some (match(bif lk lg i==k then some (lg.getD i zC)else fc lg k (i+1) (lg.length-(i+1)))with|some c=>_|none=>_)
   cases(lk lg i==k)<;>rfl
theorem pg (hg:lg.length≤4294967296):gJ N0 (xs,kn,li,fr,gv,sh,lg,k) =
  some (match eQ lg k with|some c=>(c.1,c.2.1,c.2.2,true)|none=>((0:Int),false,false,false)):=by
 have h:=qF (xs:=xs) (kn:=kn) (li:=li) (fr:=fr) (gv:=gv) (sh:=sh) (k:=k) hg N0 0 (Nat.zero_le _) (by have:=n0;omega)
 rw[Nat.sub_zero]at h
 rw[gJ];dsimp only
 rw[show br N0 N0 (k,xs,kn,li,fr,gv,sh,lg,(0:Int),false,false,(0:Int))=_ from h]
 unfold eQ
 cases fc lg k 0 lg.length<;>rfl
theorem pT (lg:List aJ) (k:Int):∀(m i:Nat){c:aJ},fc lg k i m=some c→∃j,i≤j∧j<i+m∧lk lg j=k
 |0,i,c,h=>by cases h
 |m+1,i,c,h=>by
  unfold fc at h
  cases q:(lk lg i==k)with
  |true=>exact⟨i,Nat.le_refl _,by omega,beq_iff_eq.1 q⟩
  |false =>
   rw[q]at h
   obtain⟨j,h1,h2,h3⟩:=pT lg k m (i+1) h
   exact⟨j,by omega,by omega,h3⟩
theorem nK (hw:bJ xs kn li fr gv sh lg=true){c:aJ}(hc:eQ lg k=some c):iU (li.length:Int) k=true:=by
 obtain⟨j,_,h2,h3⟩:=pT lg k _ 0 hc
 unfold bJ at hw
 simp only[Bool.and_eq_true]at hw
 have hl:=hw.2.2.2.2.2.2.2.2.1
 rw[cP]at hl
 have:=hl j (Nat.zero_le _) h2
 unfold sr at this
 rw[Bool.and_eq_true]at this
 have:=this.1
 unfold eS at this
 rw[Bool.and_eq_true,h3]at this
 exact this.1
theorem wK (hw:bJ xs kn li fr gv sh lg=true){j:Nat}(hj:j<sh.length):iU (li.length:Int) (sh.getD j 0)=true:=by
 unfold bJ at hw
 simp only[Bool.and_eq_true]at hw
 have hl:=hw.2.2.2.2.2.2.2.1
 unfold qG at hl
 rw[cP]at hl
 have:=hl j (Nat.zero_le _) (by omega)
 unfold eS at this
 rw[Bool.and_eq_true]at this
 exact this.1
def iW (li:List bp) (lg:List aJ) (k:Int):Bool:=match eQ lg k with
 |some c => !c.2.1&&(((li.getD k.toNat zI).1 != (2:Int)) || !c.2.2)
 |none=>false
theorem rf (hs:Small xs kn li gv sh lg) (hw:bJ xs kn li fr gv sh lg=true):dL N0 (xs,kn,li,fr,gv,sh,lg,k)=some (xs,kn,li,fr,gv,sh,lg,iW li lg k):=by
 rw[dL];dsimp only
 rw[pJ hs.fo]
 simp only[Option.bind_some]
 unfold iW
 cases hc:eQ lg k with
 |none=>rfl
 |some c =>
  have:=fU (nK hw hc)
  dsimp only
  rw[this]
  cases c.2.1<;>cases((li.getD k.toNat zI).1 != (2:Int))<;>cases c.2.2<;>rfl
theorem qC (hs:Small xs kn li gv sh lg) (hw:bJ xs kn li fr gv sh lg=true):eY N0 (xs,kn,li,fr,gv,sh,lg,k)=some (iW li lg k):=by
 rw[eY];dsimp only
 rw[pg hs.fo]
 simp only[Option.bind_some]
 unfold iW
 cases hc:eQ lg k with
 |none=>rfl
 |some c =>
  have:=fU (nK hw hc)
  dsimp only
  rw[this]
  cases c.2.1<;>cases((li.getD k.toNat zI).1 != (2:Int))<;>cases c.2.2<;>rfl
def yv (li:List bp) (k:Int):Int:=(li.getD k.toNat zI).2.2.2.2.2.2.2.2
def qS (li:List bp) (sh:List Int) (k:Int) (j:Nat):Bool := !(yv li (sh.getD j 0)==yv li k)
def fT (li:List bp) (sh:List Int) (k:Int):Bool:=eS li k && !bK (qS li sh k) 0 sh.length
theorem Oo{j:Int}(h1:iU (li.length:Int) j=true) (h2:iU (li.length:Int) k=true):dF N0 (j,false,k,xs,kn,li,fr,gv,sh,lg)=some (false,k,xs,kn,li,fr,gv,sh,lg,yv li j==yv li k):=by
 rw[dF];dsimp only
 rw[fU h1,fU h2];rfl
theorem re (hs:Small xs kn li gv sh lg) (hw:bJ xs kn li fr gv sh lg=true) (hk:iU (li.length:Int) k=true):∀(m i:Nat),i≤sh.length→sh.length<m+i →
  (∃j:Nat,ai N0 m (sh,false,(sh.length:Int),(i:Int),false,k,xs,kn,li,fr,gv,sh,lg)=some (.inl ((j:Int),false,k,xs,kn,li,fr,gv,sh,lg))∧bK (qS li sh k) i (sh.length-i)=false) ∨
  (ai N0 m (sh,false,(sh.length:Int),(i:Int),false,k,xs,kn,li,fr,gv,sh,lg)=some (.inr (false,k,xs,kn,li,fr,gv,sh,lg))∧bK (qS li sh k) i (sh.length-i)=true)
 |0,i,h1,h2=>by omega
 |m+1,i,h1,h2=>by
  rcases Nat.eq_or_lt_of_le h1 with q|q
  ·subst q
   refine .inr ⟨?_,?_⟩
   ·rw[ai];dsimp only;rw[qj];rfl
   ·rw[Nat.sub_self];rfl
  ·have ih:=re hs hw hk m (i+1) q (by omega)
   rw[ai]
   dsimp only
   rw[m7 q,cond_true,au q,cond_true,Int.toNat_natCast,aQ q hs.fs,show sh.length-i=(sh.length-(i+1))+1 by omega,Oo (wK hw q) hk]
   simp only[Option.bind_some]
   show(∃j:Nat,_∧(qS li sh k i&&bK (qS li sh k) (i+1) (sh.length-(i+1)))=false)∨(_∧(qS li sh k i&&bK (qS li sh k) (i+1) (sh.length-(i+1)))=true)
   unfold qS at ih ⊢
   cases hq:(yv li (sh.getD i 0)==yv li k)with
   |true=>exact .inl ⟨i,rfl,rfl⟩
   |false=>exact ih
theorem uB (hs:Small xs kn li gv sh lg) (hw:bJ xs kn li fr gv sh lg=true):dr N0 (xs,kn,li,fr,gv,sh,lg,k)=some (xs,kn,li,fr,gv,sh,lg,fT li sh k):=by
 rw[dr];dsimp only
 rw[vL hs.fl]
 simp only[Option.bind_some]
 unfold fT
 cases hd:eS li k with
 |false=>rfl
 |true =>
  have hk:iU (li.length:Int) k=true:=by
   unfold eS at hd
   rw[Bool.and_eq_true]at hd
   exact hd.1
  rw[cond_true,cG];dsimp only
  rw[de];dsimp only
  rcases re hs hw hk N0 0 (Nat.zero_le _) (by have:=n0;have:=hs.fs;omega)with⟨j,h1,h2⟩|⟨h1,h2⟩
  ·rw[show ai N0 N0 (sh,false,(sh.length:Int),(0:Int),false,k,xs,kn,li,fr,gv,sh,lg)=_ from h1]
   rw[Nat.sub_zero]at h2
   rw[h2]
   simp only[Option.bind_some]
   rw[decide_eq_true (by omega:(j:Int)≥0)];rfl
  ·rw[show ai N0 N0 (sh,false,(sh.length:Int),(0:Int),false,k,xs,kn,li,fr,gv,sh,lg)=_ from h1]
   rw[Nat.sub_zero]at h2
   rw[h2];rfl
theorem t3 (hs:Small xs kn li gv sh lg) (hw:bJ xs kn li fr gv sh lg=true):gI N0 (xs,kn,li,fr,gv,sh,lg,k)=some (fT li sh k):=by
 have hli:=hs.fl
 rw[gI];dsimp only
 rw[ar (show -9223372036854775808≤(li.length:Int)-1 by omega) (show(li.length:Int)-1≤9223372036854775807 by omega),p5]
 simp only[Option.bind_some]
 rw[show(decide (k≥0)&&decide (k≤(li.length:Int)-1))=iU (li.length:Int) k from rfl]
 unfold fT eS
 cases hk:iU (li.length:Int) k with
 |false=>rfl
 |true =>
  rw[fU hk]
  unfold dn
  cases(li.getD k.toNat zI).2.2.2.2.2.2.1 with
  |false=>rfl
  |true =>
   have h:=dG (bl N0) (fun i=>(k,xs,kn,li,fr,gv,sh,lg,(i:Int))) (qS li sh k) true () sh.length (fun m i hi=>by
    rw[bl];dsimp only
    rw[m7 hi,cond_true,au hi,cond_true,Int.toNat_natCast,aQ hi hs.fs,fU (wK hw hi),cond_true,fU hk,cond_true]
    unfold qS yv
    cases((li.getD (sh.getD i 0).toNat zI).2.2.2.2.2.2.2.2==(li.getD k.toNat zI).2.2.2.2.2.2.2.2)<;>rfl) (fun m=>by
    rw[bl];dsimp only;rw[qj];rfl) N0 0 (Nat.zero_le _) (by have:=n0;have:=hs.fs;omega)
   rw[Nat.sub_zero]at h
   show((bl N0 N0 (k,xs,kn,li,fr,gv,sh,lg,(0:Int))).bind _)=_
   rw[show bl N0 N0 (k,xs,kn,li,fr,gv,sh,lg,(0:Int))=_ from h]
   cases bK (qS li sh k) 0 sh.length<;>rfl
end
abbrev oZ:ab:=((0:Int),((0:Int),(0:Int)))
def pf (xs:List ab) (k:ab):Nat→Nat→Option Nat
 |_,0=>none
 |i,m+1=>if xs.getD i oZ=k then some i else pf xs k (i+1) m
abbrev wS (xs:List ab) (k:ab):Option Nat:=pf xs k 0 xs.length
theorem Br{xs:List ab}{k:ab}:∀{m i j:Nat},pf xs k i m=some j→i≤j∧j<i+m∧xs.getD j oZ=k
 |0,_,_,h=>by cases h
 |m+1,i,j,h=>by
  unfold pf at h
  by_cases hk:xs.getD i oZ=k
  ·rw[if_pos hk]at h
   obtain rfl:=Option.some.inj h
   exact⟨Nat.le_refl _,by omega,hk⟩
  ·rw[if_neg hk]at h
   obtain⟨h1,h2,h3⟩:=Br h
   exact⟨by omega,by omega,h3⟩
theorem Fy{xs:List ab}{k:ab}:∀{m i:Nat},pf xs k i m=none→∀q,i≤q→q<i+m→xs.getD q oZ≠k
 |0,i,_,q,h1,h2=>by omega
 |m+1,i,h,q,h1,h2=>by
  unfold pf at h
  by_cases hk:xs.getD i oZ=k
  ·rw[if_pos hk]at h;cases h
  ·rw[if_neg hk]at h
   rcases Nat.eq_or_lt_of_le h1 with e|e
   ·subst e;exact hk
   ·exact Fy h q e (by omega)
theorem Kg (p k:ab):(p.1==k.1&&(p.2.1==k.2.1&&(p.2.2==k.2.2&&true)))=decide (p=k):=by
 obtain⟨p1,p2,p3⟩:=p
 obtain⟨k1,k2,k3⟩:=k
 rw[Bool.eq_iff_iff]
 simp
theorem LL{xs:List ab}{k:ab}{i:Nat}(h:i<xs.length):pf xs k i (xs.length-i)=if xs.getD i oZ=k then some i else pf xs k (i+1) (xs.length-(i+1)):=by
 have e:xs.length-i=(xs.length-(i+1))+1:=by omega
 rw[e];rfl
theorem On{xs:List ab}{k:ab}{i:Nat}(h:xs.length≤i):pf xs k i (xs.length-i)=none:=by
 have e:xs.length-i=0:=by omega
 rw[e];rfl
theorem yC (n:Nat){xs:List ab}(hx:xs.length≤4294967296) (k:ab):∀(m i:Nat),i≤xs.length→xs.length<m+i→bo n m (xs,k.1,k.2.1,k.2.2,(i:Int)) =
  some (match pf xs k i (xs.length-i)with|some j=>Sum.inl (j:Int)|none=>Sum.inr ())
 |0,i,h1,h2=>by omega
 |m+1,i,h1,h2=>by
  have e0:bo n (m+1) (xs,k.1,k.2.1,k.2.2,(i:Int))=(cond (decide ((i:Int)<(xs.length:Int))) (cond (aY (i:Int) xs.length) (cond ((xs.getD ((i:Int)).toNat oZ).1==k.1&&((xs.getD ((i:Int)).toNat oZ).2.1==k.2.1&&((xs.getD ((i:Int)).toNat oZ).2.2==k.2.2&&true))) (some (Sum.inl (i:Int))) (bo n m (xs,k.1,k.2.1,k.2.2,IntKind.i64.wrap ((i:Int)+(1:Int))))) none) (some (Sum.inr ()))):=rfl
  rw[e0,OI]
  by_cases hlt:i<xs.length
  ·rw[decide_eq_true hlt,cond_true,au hlt,cond_true,Int.toNat_natCast,aQ hlt hx,Kg,LL hlt]
   by_cases hk:xs.getD i oZ=k
   ·rw[decide_eq_true hk,cond_true,if_pos hk]
   ·rw[decide_eq_false hk,cond_false,if_neg hk,yC n hx k m (i+1) hlt (by omega)]
  ·rw[decide_eq_false hlt,cond_false,On (by omega)]
def WY (xs:List ab) (k:ab):Int:=match wS xs k with
 |some j=>(j:Int)
 |none=>-1
theorem Iw{xs:List ab}(hx:xs.length≤4294967296) (k:ab):cI N0 (xs,k.1,k.2.1,k.2.2)=some (WY xs k):=by
 unfold cI
 dsimp only
 have h:=yC N0 hx k N0 0 (Nat.zero_le _) (by have:=n0;omega)
 rw[Nat.sub_zero]at h
 rw[show(0:Int)=((0:Nat):Int)from rfl,h]
 unfold WY wS
 cases pf xs k 0 xs.length<;>rfl
theorem JI {α:Type}{xs:List ab}(h:xs.length≤500){k:α}:aR (xs.length+[k].length)=true:=by
 unfold aR
 rw[List.length_singleton]
 simp
 omega
theorem Kh{c a b:Int}{i j:Nat}(hj:j≤4294967296) (hij:i≤j) (h:ge N0 (c,a,b,(i:Int))=true):ge N0 (c,a,b,(j:Int))=true:=by
 have wi:IntKind.i64.wrap ((i:Int)-(1:Int))=(i:Int)-1:=ar (by omega) (by omega)
 have wj:IntKind.i64.wrap ((j:Int)-(1:Int))=(j:Int)-1:=ar (by omega) (by omega)
 have up:∀v:Int,(decide (v≥0)&&decide (v≤(i:Int)-1))=true→(decide (v≥0)&&decide (v≤(j:Int)-1))=true:=fun v hv=>by
  rw[Bool.and_eq_true,decide_eq_true_iff,decide_eq_true_iff]at hv ⊢
  omega
 have ha:=up a
 have hb:=up b
 revert h
 unfold ge cj
 dsimp only
 obtain⟨v,hv⟩:=yI N0 c
 rw[hv]
 simp only[Option.bind_some,d6,wi,wj]
 generalize (decide (a≥0)&&decide (a≤(i:Int)-1))=A1 at ha ⊢
 generalize (decide (a≥0)&&decide (a≤(j:Int)-1))=A2 at ha ⊢
 generalize (decide (b≥0)&&decide (b≤(i:Int)-1))=B1 at hb ⊢
 generalize (decide (b≥0)&&decide (b≤(j:Int)-1))=B2 at hb ⊢
 cases(v==(0:Int))
 ·cases(v==(1:Int))
  ·cases(v==(2:Int))
   ·exact id
   ·cases A1
    ·exact fun h=>Bool.noConfusion h
    ·cases B1
     ·exact fun h=>(by cases A2<;>exact Bool.noConfusion h)
     ·rw[ha rfl,hb rfl];exact id
  ·cases A1
   ·exact fun h=>Bool.noConfusion h
   ·rw[ha rfl];exact id
 ·exact id
theorem zZ{n:Nat}:∀{r pre:List ab},cm n pre r=true→∀j,j<r.length→ge n ((r.getD j oZ).1,(r.getD j oZ).2.1,(r.getD j oZ).2.2,((pre.length+j:Nat):Int))=true
 |[],pre,_,j,hj=>absurd hj (Nat.not_lt_zero _)
 |k::r,pre,h,j,hj=>by
  have h:((!pre.contains k&&ge n (k.1,k.2.1,k.2.2,(pre.length:Int)))&&cm n (pre++[k]) r)=true:=h
  rw[Bool.and_eq_true,Bool.and_eq_true]at h
  match j with
  |0=>exact h.1.2
  |j+1 =>
   have:=zZ h.2 j (by simpa using hj)
   rw[List.length_append]at this
   have e:pre.length+(j+1)=pre.length+[k].length+j:=by simp;omega
   rw[e]
   exact this
theorem yc{n:Nat}:∀{r pre s:List ab},cm n pre (r++s)=(cm n pre r&&cm n (pre++r) s)
 |[],pre,s=>by simp[cm]
 |k::r,pre,s=>by
  show((!pre.contains k&&ge n (k.1,k.2.1,k.2.2,(pre.length:Int)))&&cm n (pre++[k]) (r++s))=(((!pre.contains k&&ge n (k.1,k.2.1,k.2.2,(pre.length:Int)))&&cm n (pre++[k]) r)&&cm n (pre++(k::r)) s)
  rw[yc]
  simp only[Bool.and_assoc,List.append_assoc,List.singleton_append]
theorem c9{xs:List ab}(h:aS xs=true):xs.length≤500:=by
 unfold aS at h
 rw[Bool.and_eq_true,decide_eq_true_iff]at h
 exact h.1
theorem xZ{xs:List ab}(h:aS xs=true){j:Nat}(hj:j<xs.length):ge N0 ((xs.getD j oZ).1,(xs.getD j oZ).2.1,(xs.getD j oZ).2.2,(j:Int))=true:=by
 unfold aS at h
 rw[Bool.and_eq_true]at h
 have:=zZ h.2 j hj
 simpa using this
theorem Ej{xs:List ab}(h:aS xs=true) (hl:xs.length<500){k:ab}(hk:ge N0 (k.1,k.2.1,k.2.2,(xs.length:Int))=true) (hn:wS xs k=none):aS (xs++[k])=true:=by
 unfold aS at h ⊢
 rw[Bool.and_eq_true]at h ⊢
 refine⟨decide_eq_true (by simp;omega),?_⟩
 rw[yc,h.2,Bool.true_and,List.nil_append]
 show((!xs.contains k&&ge N0 (k.1,k.2.1,k.2.2,(xs.length:Int)))&&true)=true
 rw[hk,Bool.and_true,Bool.and_true,Bool.not_eq_true']
 rw[←Bool.not_eq_true]
 intro hc
 have hm:k∈xs:=by simpa using hc
 obtain⟨j,hj,e⟩:=List.mem_iff_getElem.1 hm
 refine Fy hn j (Nat.zero_le _) (by omega) ?_
 rw[kC hj]
 exact e
def B8 (xs:List ab) (k:ab):Option (List ab×Int) :=
 bif ge N0 (k.1,k.2.1,k.2.2,(xs.length:Int))then(match wS xs k with
  |some j=>some (xs,(j:Int))
  |none=>if 500≤xs.length then none else some (xs++[k],(xs.length:Int)))else none
def RU (kd a b:Int):ab:=bif kd==8 then(kd,mn a b,mx a b)else(kd,a,b)
def jm (xs:List ab) (kd a b:Int):Option (List ab×Int):=B8 xs (RU kd a b)
def oc (xs:List ab):Option (List ab×Int)→List ab×Int
 |some r=>r
 |none=>(xs, -1)
theorem I8{xs ys:List ab}{k:ab}{t:Int}(hp:aS xs=true) (h:B8 xs k=some (ys,t)):aS ys=true∧0≤t∧t<(ys.length:Int)∧(∃zs,ys=xs++zs)∧ys.getD t.toNat oZ=k:=by
 unfold B8 at h
 cases hk:ge N0 (k.1,k.2.1,k.2.2,(xs.length:Int))with
 |false=>rw[hk]at h;cases h
 |true =>
  rw[hk,cond_true]at h
  cases hf:wS xs k with
  |some j =>
   rw[hf]at h
   obtain⟨rfl,rfl⟩:=Prod.mk.inj (Option.some.inj h)
   obtain⟨h1,h2,h3⟩:=Br hf
   exact⟨hp,by omega,by omega,⟨[],by simp⟩,by rw[Int.toNat_natCast];exact h3⟩
  |none =>
   rw[hf]at h
   dsimp only at h
   by_cases hl:500≤xs.length
   ·rw[if_pos hl]at h;cases h
   ·rw[if_neg hl]at h
    obtain⟨rfl,rfl⟩:=Prod.mk.inj (Option.some.inj h)
    exact⟨Ej hp (by omega) hk hf,by omega,by simp;omega,⟨[k],rfl⟩,by rw[Int.toNat_natCast];simp[List.getD_eq_getElem?_getD]⟩
theorem xQ{xs:List ab}(hp:aS xs=true) (k:ab):((cI N0 (xs,k.1,k.2.1,k.2.2)).bind fun r9=>(cond (decide (r9≥(0:Int))) (some (xs,r9)) ((cQ N0 (k.1,k.2.1,k.2.2,((xs).length:Int))).bind fun r10=>(cond (!r10) (some (xs,(-1:Int))) (cond (((xs).length:Int)==(500:Int)) (some (xs,(-1:Int))) ((aO N0 xs).bind fun r11=>(cond (aR ((r11).length+([(k.1,(k.2.1,k.2.2))]).length)) ((fM N0 (xs,[],(r11++[(k.1,(k.2.1,k.2.2))]))).bind fun g12=>(some (g12.1,g12.2))) none)))))))
  = some (oc xs (B8 xs k)):=by
 have hx:=c9 hp
 rw[Iw (by omega),Option.bind_some]
 unfold WY B8
 cases hf:wS xs k with
 |some j =>
  obtain⟨h1,h2,h3⟩:=Br hf
  have hj:j<xs.length:=by omega
  have hnd:=xZ hp hj
  rw[h3]at hnd
  rw[Kh (by omega) (Nat.le_of_lt hj) hnd]
  dsimp only
  rw[decide_eq_true (by omega:(j:Int)≥(0:Int)),cond_true];rfl
 |none =>
  dsimp only
  rw[decide_eq_false (by omega:¬((-1:Int)≥(0:Int))),cond_false,CB,Option.bind_some]
  cases ge N0 (k.1,k.2.1,k.2.2,(xs.length:Int))with
  |false=>rfl
  |true =>
   rw[cond_true,Bool.not_true,cond_false]
   by_cases hl:500≤xs.length
   ·have:((xs.length:Int)==(500:Int))=true:=by simp;omega
    rw[this,cond_true,if_pos hl];rfl
   ·have:((xs.length:Int)==(500:Int))=false:=by simp;omega
    rw[this,cond_false,if_neg hl]
    have e1:aO N0 xs=some xs:=by
     unfold aO
     have:aR (([]:List ab).length+xs.length)=true:=by
      unfold aR
      simp
      omega
     rw[this];rfl
    rw[e1,Option.bind_some]
    have:aR (xs.length+[(k.1,(k.2.1,k.2.2))].length)=true:=JI hx
    rw[this,cond_true];rfl
theorem ir{xs:List ab}(hp:aS xs=true) (kd a b:Int):aV N0 (xs,kd,a,b)=some (oc xs (jm xs kd a b)):=by
 unfold aV jm RU mn mx
 dsimp only
 cases hk:(kd==(8:Int))with
 |true =>
  rw[cond_true,cond_true]
  by_cases hab:a>b
  ·rw[decide_eq_true hab,cond_true,if_pos (by omega:b<a),if_neg (by omega:¬b>a)]
   exact xQ hp (kd,b,a)
  ·rw[decide_eq_false hab,cond_false,if_neg (by omega:¬b<a)]
   have:(if b>a then b else a)=b:=by split<;>omega
   rw[this]
   exact xQ hp (kd,a,b)
 |false=>rw[cond_false,cond_false];exact xQ hp (kd,a,b)
theorem jX{xs:List ab}(hp:aS xs=true) (c:Int):bM N0 (xs,c)=some (oc xs (jm xs 1 c 0)):=by
 unfold bM
 dsimp only
 rw[ir hp];rfl
def qN (xs:List ab) (a e:Int):Option (List ab×Int) :=
 bif cD xs a then(bif cD xs e then(bif (xs.getD a.toNat oZ).1==7 then jm xs 8 e (xs.getD a.toNat oZ).2.1 else none)else none)else none
theorem rh{xs:List ab}{a:Int}(h:cD xs a=true):aY a xs.length=true:=by
 unfold cD at h
 rw[Bool.and_eq_true,decide_eq_true_iff,decide_eq_true_iff]at h
 have e:a=((a.toNat:Nat):Int):=by omega
 rw[e]
 exact au (by omega)
theorem t4{xs:List ab}(hp:aS xs=true) (a e:Int):dO N0 (xs,a,e)=some (oc xs (qN xs a e)):=by
 have hx:=c9 hp
 unfold dO qN
 dsimp only
 rw[vO N0 (by omega),Option.bind_some]
 cases ha:cD xs a with
 |false=>rfl
 |true =>
  rw[Bool.not_true,cond_false,cond_true,vO N0 (by omega),Option.bind_some]
  cases cD xs e with
  |false=>rfl
  |true =>
   rw[Bool.not_true,cond_false,cond_true,rh ha,cond_true,cond_true]
   show(cond (!((xs.getD a.toNat oZ).1==(7:Int))) _ _)=_
   cases((xs.getD a.toNat oZ).1==(7:Int))with
   |false=>rfl
   |true =>
    rw[Bool.not_true,cond_false,cond_true,ir hp];rfl
inductive nD where
 |name (c:Int)
 |var (i:Int)
 |ask (i:Int)
 |un (k:Int) (p:nD)
 |bin (k:Int) (p q:nD)
 |exp (p q:nD)
def nD.asks:nD→Bool
 | .ask _=>true
 | .un _ p=>p.asks
 | .bin _ p q=>p.asks || q.asks
 | .exp p q=>p.asks || q.asks
 |_=>false
def mk (env:List Int):nD→List ab→Option (List ab×Int)
 | .name c,xs=>jm xs 1 c 0
 | .var i,xs=>bif decide (env.getD i.toNat 0<0)then none else some (xs,env.getD i.toNat 0)
 | .ask _,xs=>none
 | .un k p,xs=>(mk env p xs).bind fun r=>jm r.1 k r.2 0
 | .bin k p q,xs=>(mk env p xs).bind fun r=>(mk env q r.1).bind fun s=>jm s.1 k r.2 s.2
 | .exp p q,xs=>(mk env p xs).bind fun r=>(mk env q r.1).bind fun s=>qN s.1 s.2 r.2
theorem rV{env:List Int}:∀{p:nD}(xs:List ab),p.asks=true→mk env p xs=none
 | .name c,xs,h=>by cases h
 | .var i,xs,h=>by cases h
 | .ask _,xs,_=>rfl
 | .un k p,xs,h=>by
  show(mk env p xs).bind _=none
  rw[rV xs (show p.asks=true from h)];rfl
 | .bin k p q,xs,h=>by
  have h:(p.asks || q.asks)=true:=h
  show(mk env p xs).bind _=none
  cases hp:p.asks with
  |true=>rw[rV xs hp];rfl
  |false =>
   rw[hp,Bool.false_or]at h
   cases mk env p xs with
   |none=>rfl
   |some r=>show(mk env q r.1).bind _=none;rw[rV r.1 h];rfl
 | .exp p q,xs,h=>by
  have h:(p.asks || q.asks)=true:=h
  show(mk env p xs).bind _=none
  cases hp:p.asks with
  |true=>rw[rV xs hp];rfl
  |false =>
   rw[hp,Bool.false_or]at h
   cases mk env p xs with
   |none=>rfl
   |some r=>show(mk env q r.1).bind _=none;rw[rV r.1 h];rfl
def AY (xs ys:List ab) (t:Int):Prop:=aS ys=true∧0≤t∧(∃zs,ys=xs++zs)
theorem d7{xs ys:List ab}{kd a b t:Int}(hp:aS xs=true) (h:jm xs kd a b=some (ys,t)):AY xs ys t∧t<(ys.length:Int):=by
 obtain⟨h1,h2,h3,h4,_⟩:=I8 hp h
 exact⟨⟨h1,h2,h4⟩,h3⟩
theorem AY.trans{xs ys zs:List ab}{t u:Int}(h1:AY xs ys t) (h2:AY ys zs u):AY xs zs u:=by
 obtain⟨a1,a2,v,rfl⟩:=h1
 obtain⟨b1,b2,w,rfl⟩:=h2
 exact⟨b1,b2,v++w,by rw[List.append_assoc]⟩
theorem pq{xs ys:List ab}{a e t:Int}(h:qN xs a e=some (ys,t)):jm xs 8 e (xs.getD a.toNat oZ).2.1=some (ys,t):=by
 unfold qN at h
 cases h1:cD xs a with
 |false=>rw[h1]at h;cases h
 |true =>
  cases h2:cD xs e with
  |false=>rw[h1,h2]at h;cases h
  |true =>
   cases h3:((xs.getD a.toNat oZ).1==7)with
   |false=>rw[h1,h2,h3]at h;cases h
   |true=>rw[h1,h2,h3]at h;exact h
theorem dV{env:List Int}:∀{p:nD}{xs ys:List ab}{t:Int},aS xs=true→mk env p xs=some (ys,t)→AY xs ys t
 | .name c,xs,ys,t,hp,h=>(d7 hp h).1
 | .var i,xs,ys,t,hp,h=>by
  have h:(bif decide (env.getD i.toNat 0<0)then none else some (xs,env.getD i.toNat 0))=some (ys,t):=h
  by_cases hn:env.getD i.toNat 0<0
  ·rw[decide_eq_true hn]at h;cases h
  ·rw[decide_eq_false hn]at h
   obtain⟨rfl,rfl⟩:=Prod.mk.inj (Option.some.inj h)
   exact⟨hp,by omega,[],by simp⟩
 | .ask _,xs,ys,t,hp,h=>by cases h
 | .un k p,xs,ys,t,hp,h=>by
  obtain⟨r,h1,h2⟩:=Option.bind_eq_some_iff.1 (show(mk env p xs).bind _=some (ys,t)from h)
  have g1:=dV hp (show mk env p xs=some (r.1,r.2)from h1)
  exact g1.trans (d7 g1.1 h2).1
 | .bin k p q,xs,ys,t,hp,h=>by
  obtain⟨r,h1,h2⟩:=Option.bind_eq_some_iff.1 (show(mk env p xs).bind _=some (ys,t)from h)
  have g1:=dV hp (show mk env p xs=some (r.1,r.2)from h1)
  obtain⟨s,h3,h4⟩:=Option.bind_eq_some_iff.1 h2
  have g2:=dV g1.1 (show mk env q r.1=some (s.1,s.2)from h3)
  exact(g1.trans g2).trans (d7 g2.1 h4).1
 | .exp p q,xs,ys,t,hp,h=>by
  obtain⟨r,h1,h2⟩:=Option.bind_eq_some_iff.1 (show(mk env p xs).bind _=some (ys,t)from h)
  have g1:=dV hp (show mk env p xs=some (r.1,r.2)from h1)
  obtain⟨s,h3,h4⟩:=Option.bind_eq_some_iff.1 h2
  have g2:=dV g1.1 (show mk env q r.1=some (s.1,s.2)from h3)
  exact(g1.trans g2).trans (d7 g2.1 (pq h4)).1
abbrev gG:=Int×(Int×List Int)
abbrev fZ:=Int×(Int×(Int×Bool))
abbrev zP:gG:=((0:Int),((0:Int),[]))
abbrev zS:fZ:=((0:Int),((0:Int),((0:Int),false)))
def As (s:Int):Int:=if s=40 then 2 else if s=123 then 3 else if s=91 then 4 else if s=35 then 5 else if s=107 then 6 else if s=94 then 7 else if s=42 then 8 else 0
def FP (x:gG) (y:fZ):Option nD :=
 bif x.1==110 then(bif y.1==1&&(x.2.1==y.2.1 && !y.2.2.2)then some (.name x.2.1)else none)
 else bif x.1==36 then(bif (y.1==9&&(x.2.1==y.2.1 && !y.2.2.2))&&(decide (0≤x.2.1)&&decide (x.2.1<26))then some (.var x.2.1)else none)
 else bif x.1==63 then(bif (y.1==9&&(x.2.1==y.2.1&&y.2.2.2))&&(decide (0≤x.2.1)&&decide (x.2.1<26))then some (.ask x.2.1)else none)
 else none
def vK (s:Int):Bool:=s==110 || (s==36 || s==63)
def Eu (x:gG) (y:fZ) (P:nD):Option nD :=
 bif !vK x.1&&(!(x.1==120)&&((As x.1==y.1)&&((y.1==5 || y.1==7)&&(y.2.2.2==P.asks))))then some (.un y.1 P)else none
def Lr (x:gG) (y:fZ) (P Q:nD):Option nD :=
 bif !vK x.1&&(y.2.2.2==(P.asks || Q.asks))then(bif x.1==120 then(bif y.1==10 then some (.exp P Q)else none)else(bif (As x.1==y.1)&&(y.1==2 || (y.1==3 || (y.1==4 || (y.1==6 || y.1==8))))then some (.bin y.1 P Q)else none))else none
def nH (l1:List gG) (l2:List fZ):Nat→Int→Int→Option nD
 |0,_,_=>none
 |k+1,a,b=>bif aY a l1.length&&aY b l2.length then(match(l1.getD a.toNat zP).2.2 with
   |[]=>FP (l1.getD a.toNat zP) (l2.getD b.toNat zS)
   |[p]=>(nH l1 l2 k p (l2.getD b.toNat zS).2.1).bind fun P=>Eu (l1.getD a.toNat zP) (l2.getD b.toNat zS) P
   |[p,q]=>(nH l1 l2 k p (l2.getD b.toNat zS).2.1).bind fun P=>(nH l1 l2 k q (l2.getD b.toNat zS).2.2.1).bind fun Q=>Lr (l1.getD a.toNat zP) (l2.getD b.toNat zS) P Q
   |_=>none)else none
theorem qZ{x:gG}{y:fZ}{P:nD}(h:FP x y=some P) :
  ((x.1==110)=true∧y.1=1∧y.2.1=x.2.1∧y.2.2.2=false∧P = .name x.2.1) ∨
  ((x.1==110)=false∧(x.1==36)=true∧y.1=9∧y.2.1=x.2.1∧y.2.2.2=false∧0≤x.2.1∧x.2.1<26∧P = .var x.2.1) ∨
  ((x.1==110)=false∧(x.1==36)=false∧(x.1==63)=true∧y.1=9∧y.2.1=x.2.1∧y.2.2.2=true∧0≤x.2.1∧x.2.1<26∧P = .ask x.2.1):=by
 unfold FP at h
 cases h1:(x.1==110)with
 |true =>
  rw[h1,cond_true]at h
  cases hc:(y.1==1&&(x.2.1==y.2.1 && !y.2.2.2))with
  |false=>rw[hc]at h;cases h
  |true =>
   rw[hc]at h
   simp only[Bool.and_eq_true,beq_iff_eq,Bool.not_eq_true']at hc
   exact .inl ⟨rfl,hc.1,hc.2.1.symm,hc.2.2,(Option.some.inj h).symm⟩
 |false =>
  rw[h1,cond_false]at h
  cases h2:(x.1==36)with
  |true =>
   rw[h2,cond_true]at h
   cases hc:((y.1==9&&(x.2.1==y.2.1 && !y.2.2.2))&&(decide (0≤x.2.1)&&decide (x.2.1<26)))with
   |false=>rw[hc]at h;cases h
   |true =>
    rw[hc]at h
    simp only[Bool.and_eq_true,beq_iff_eq,Bool.not_eq_true',decide_eq_true_iff]at hc
    exact .inr (.inl ⟨rfl,rfl,hc.1.1,hc.1.2.1.symm,hc.1.2.2,hc.2.1,hc.2.2,(Option.some.inj h).symm⟩)
  |false =>
   rw[h2,cond_false]at h
   cases h3:(x.1==63)with
   |false=>rw[h3]at h;cases h
   |true =>
    rw[h3,cond_true]at h
    cases hc:((y.1==9&&(x.2.1==y.2.1&&y.2.2.2))&&(decide (0≤x.2.1)&&decide (x.2.1<26)))with
    |false=>rw[hc]at h;cases h
    |true =>
     rw[hc]at h
     simp only[Bool.and_eq_true,beq_iff_eq,decide_eq_true_iff]at hc
     exact .inr (.inr ⟨rfl,rfl,rfl,hc.1.1,hc.1.2.1.symm,hc.1.2.2,hc.2.1,hc.2.2,(Option.some.inj h).symm⟩)
theorem Av{s:Int}(h:(!vK s)=true):(s==110)=false∧(s==36)=false∧(s==63)=false:=by
 unfold vK at h
 simpa using h
theorem pz{x:gG}{y:fZ}{P R:nD}(h:Eu x y P=some R) :
  ((x.1==110)=false∧(x.1==36)=false∧(x.1==63)=false)∧(x.1==120)=false∧As x.1=y.1∧(y.1=5∨y.1=7)∧y.2.2.2=P.asks∧R = .un y.1 P:=by
 unfold Eu at h
 cases hc:(!vK x.1&&(!(x.1==120)&&((As x.1==y.1)&&((y.1==5 || y.1==7)&&(y.2.2.2==P.asks)))))with
 |false=>rw[hc]at h;cases h
 |true =>
  rw[hc]at h
  rw[Bool.and_eq_true]at hc
  have h2:=hc.2
  simp only[Bool.and_eq_true,Bool.not_eq_true',beq_iff_eq,Bool.or_eq_true]at h2
  exact⟨Av hc.1,h2.1,h2.2.1,h2.2.2.1,h2.2.2.2,(Option.some.inj h).symm⟩
theorem sQ{x:gG}{y:fZ}{P Q R:nD}(h:Lr x y P Q=some R) :
  ((x.1==110)=false∧(x.1==36)=false∧(x.1==63)=false)∧y.2.2.2=(P.asks || Q.asks) ∧
  (((x.1==120)=true∧y.1=10∧R = .exp P Q)∨((x.1==120)=false∧As x.1=y.1∧(y.1=2∨y.1=3∨y.1=4∨y.1=6∨y.1=8)∧R = .bin y.1 P Q)):=by
 unfold Lr at h
 cases hc:(!vK x.1&&(y.2.2.2==(P.asks || Q.asks)))with
 |false=>rw[hc]at h;cases h
 |true =>
  rw[hc,cond_true]at h
  rw[Bool.and_eq_true]at hc
  refine⟨Av hc.1,by simpa using hc.2,?_⟩
  cases h1:(x.1==120)with
  |true =>
   rw[h1,cond_true]at h
   cases h2:(y.1==10)with
   |false=>rw[h2]at h;cases h
   |true=>rw[h2]at h;exact .inl ⟨rfl,by simpa using h2,(Option.some.inj h).symm⟩
  |false =>
   rw[h1,cond_false]at h
   cases h2:((As x.1==y.1)&&(y.1==2 || (y.1==3 || (y.1==4 || (y.1==6 || y.1==8)))))with
   |false=>rw[h2]at h;cases h
   |true =>
    rw[h2]at h
    simp only[Bool.and_eq_true,beq_iff_eq,Bool.or_eq_true]at h2
    exact .inr ⟨rfl,h2.1,h2.2,(Option.some.inj h).symm⟩
theorem B6{xs:List ab}{kd a b:Int}(hp:aS xs=true):∀r,jm xs kd a b=some r→0≤r.2:=fun r h=>(d7 hp (show _=some (r.1,r.2)from h)).1.2.1
theorem GT{xs:List ab}{a e:Int}(hp:aS xs=true):∀r,qN xs a e=some r→0≤r.2:=fun r h=>(d7 hp (pq (show _=some (r.1,r.2)from h))).1.2.1
theorem sg{l1:List gG}{l2:List fZ}{k:Nat}{a b:Int}{P:nD}(h:nH l1 l2 (k+1) a b=some P) :
    aY a l1.length=true∧aY b l2.length=true ∧
    (((l1.getD a.toNat zP).2.2=[]∧FP (l1.getD a.toNat zP) (l2.getD b.toNat zS)=some P) ∨
     (∃p Q,(l1.getD a.toNat zP).2.2=[p]∧nH l1 l2 k p (l2.getD b.toNat zS).2.1=some Q∧Eu (l1.getD a.toNat zP) (l2.getD b.toNat zS) Q=some P) ∨
     (∃p q Q R,(l1.getD a.toNat zP).2.2=[p,q]∧nH l1 l2 k p (l2.getD b.toNat zS).2.1=some Q∧nH l1 l2 k q (l2.getD b.toNat zS).2.2.1=some R∧Lr (l1.getD a.toNat zP) (l2.getD b.toNat zS) Q R=some P)):=by
  unfold nH at h
  cases hb:(aY a l1.length&&aY b l2.length)with
  |false=>rw[hb]at h;cases h
  |true =>
    rw[hb,cond_true]at h
    rw[Bool.and_eq_true]at hb
    refine⟨hb.1,hb.2,?_⟩
    split at h
    · rename_i e;exact .inl ⟨e,h⟩
    · rename_i p e
      obtain⟨Q,h1,h2⟩:=Option.bind_eq_some_iff.1 h
      exact .inr (.inl ⟨p,Q,e,h1,h2⟩)
    · rename_i p q e
      obtain⟨Q,h1,h2⟩:=Option.bind_eq_some_iff.1 h
      obtain⟨R,h3,h4⟩:=Option.bind_eq_some_iff.1 h2
      exact .inr (.inr ⟨p,q,Q,R,e,h1,h3,h4⟩)
    · cases h
theorem yF{env:List Int}(he:env.length=26){i:Int}(h0:0≤i) (h1:i<26):aY i env.length=true:=by
 have e:i=((i.toNat:Nat):Int):=by omega
 rw[e]
 exact au (by omega)
theorem Km{env:List Int}(xs:List ab) (i:Int):(match mk env (.var i) xs with
  |some s=>(xs,env.getD i.toNat 0)=s
  |none=>env.getD i.toNat 0<0):=by
 by_cases hn:env.getD i.toNat 0<0
 ·have:mk env (.var i) xs=none:=by
   show(bif decide (env.getD i.toNat 0<0)then none else some (xs,env.getD i.toNat 0))=none
   rw[decide_eq_true hn];rfl
  rw[this];exact hn
 ·have:mk env (.var i) xs=some (xs,env.getD i.toNat 0):=by
   show(bif decide (env.getD i.toNat 0<0)then none else some (xs,env.getD i.toNat 0))=_
   rw[decide_eq_false hn];rfl
  rw[this]
abbrev KV:=List ab×Int
def sN (res:Option KV) (m:Option (List ab×Int)):Prop:=∃ys t,res=some (ys,t)∧(match m with
 |some s=>(ys,t)=s
 |none=>t=-1)
theorem rY{xs:List ab}{m:Option (List ab×Int)}(h:∀r,m=some r→0≤r.2):sN (some ((oc xs m).1,(oc xs m).2)) m:=by
 refine⟨_,_,rfl,?_⟩
 cases m with
 |none=>rfl
 |some s=>rfl
theorem L4{env:List Int}(hv:∀i:Nat,env.getD i 0<0→env.getD i 0=-1) (xs:List ab) (i:Int):(match mk env (.var i) xs with
  |some s=>(xs,env.getD i.toNat 0)=s
  |none=>env.getD i.toNat 0=-1):=by
 have h:=Km (env:=env) xs i
 cases q:mk env (.var i) xs with
 |none=>rw[q]at h;exact hv _ h
 |some s=>rw[q]at h;exact h
theorem CO (n:Nat) (y:fZ):bV n (y.1,y.2.1,y.2.2.1,y.2.2.2)=cond (y.1==(9:Int)) (some (0:Int)) (cond (y.1==(10:Int)) (some (2:Int)) ((kc n y.1).bind fun r1=>(some r1))):=rfl
theorem qD{l1:List gG}{l2:List fZ}{env:List Int}(he:env.length=26) (hv:∀i:Nat,env.getD i 0<0→env.getD i 0=-1):∀(k:Nat) (a b:Int) (P:nD) (xs:List ab) (j:Nat),nH l1 l2 k a b=some P→k≤j→aS xs=true→sN (bZ N0 j (xs,env,l2,b)) (mk env P xs)
 |0,a,b,P,xs,j,h,_,_=>by cases h
 |k+1,a,b,P,xs,0,h,hj,_=>by omega
 |k+1,a,b,P,xs,j+1,h,hj,hp=>by
  have hx:=c9 hp
  obtain⟨_,hb,hc⟩:=sg h
  have e0:bZ N0 (j+1) (xs,env,l2,b)=cond (aY b l2.length) (cond (l2.getD b.toNat zS).2.2.2 (some (xs,(-1:Int))) (cond ((l2.getD b.toNat zS).1==(9:Int)) ((d5 N0 (bZ N0 j) (env,xs,[],(l2.getD b.toNat zS).1,(l2.getD b.toNat zS).2.1,(l2.getD b.toNat zS).2.2.1,(l2.getD b.toNat zS).2.2.2)).bind fun g1=>(some (g1.1,g1.2))) (cond ((l2.getD b.toNat zS).1==(1:Int)) ((bM N0 (xs,(l2.getD b.toNat zS).2.1)).bind fun r2=>(some (r2.1,r2.2))) ((bZ N0 j (xs,env,l2,(l2.getD b.toNat zS).2.1)).bind fun r3=>(cond (decide (r3.2<(0:Int))) (some (xs,(-1:Int))) ((bV N0 ((l2.getD b.toNat zS).1,(l2.getD b.toNat zS).2.1,(l2.getD b.toNat zS).2.2.1,(l2.getD b.toNat zS).2.2.2)).bind fun r4=>(cond (r4==(1:Int)) ((aV N0 (r3.1,(l2.getD b.toNat zS).1,r3.2,(0:Int))).bind fun r5=>(some (r5.1,r5.2))) ((bZ N0 j (r3.1,env,l2,(l2.getD b.toNat zS).2.2.1)).bind fun r6=>(cond (decide (r6.2<(0:Int))) (some (xs,(-1:Int))) (cond ((l2.getD b.toNat zS).1==(10:Int)) ((dO N0 (r6.1,r6.2,r3.2)).bind fun r7=>(some (r7.1,r7.2))) ((aV N0 (r6.1,(l2.getD b.toNat zS).1,r3.2,r6.2)).bind fun r8=>(some (r8.1,r8.2))))))))))))) none:=rfl
  rw[e0,hb,cond_true]
  have fin2:∀(z:Option KV),(l2.getD b.toNat zS).2.2.2=P.asks→(P.asks=false→sN z (mk env P xs))→sN (cond (l2.getD b.toNat zS).2.2.2 (some (xs,(-1:Int))) z) (mk env P xs):=fun z q1 q2=>by
   rw[q1]
   cases hA:P.asks with
   |true =>
    rw[cond_true,rV xs hA]
    exact⟨xs, -1,rfl,rfl⟩
   |false=>rw[cond_false];exact q2 hA
  rcases hc with⟨hps,hl⟩|⟨p,Q,hps,h1,h2⟩|⟨p,q,Q,R,hps,h1,h2,h3⟩
  ·rcases qZ hl with⟨c1,c2,c3,c4,rfl⟩|⟨_,c1,c2,c3,c4,c6,c7,rfl⟩|⟨_,_,c1,c2,c3,c4,c6,c7,rfl⟩
   ·rw[c4,c2,c3,cond_false]
    show sN ((bM N0 (xs,(l1.getD a.toNat zP).2.1)).bind fun r2=>(some (r2.1,r2.2))) _
    rw[jX hp,Option.bind_some]
    exact rY (B6 hp)
   ·rw[c4,c2,c3,cond_false]
    show sN ((d5 N0 (bZ N0 j) (env,xs,[],_,(l1.getD a.toNat zP).2.1,_,_)).bind fun g1=>(some (g1.1,g1.2))) _
    unfold d5
    dsimp only
    rw[yF he c6 c7,cond_true,Option.bind_some]
    exact⟨_,_,rfl,L4 hv xs _⟩
   ·rw[c4,cond_true]
    exact⟨xs, -1,rfl,rfl⟩
  ·obtain⟨_,c4,c5,c6,c7,rfl⟩:=pz h2
   refine fin2 _ c7 fun hA=>?_
   have n9:((l2.getD b.toNat zS).1==(9:Int))=false:=by rw[beq_eq_false_iff_ne];omega
   have n1:((l2.getD b.toNat zS).1==(1:Int))=false:=by rw[beq_eq_false_iff_ne];omega
   have hpt:bV N0 ((l2.getD b.toNat zS).1,(l2.getD b.toNat zS).2.1,(l2.getD b.toNat zS).2.2.1,(l2.getD b.toNat zS).2.2.2)=some 1:=by
    rw[CO]
    rcases c6 with e|e<;>rw[e]<;>rfl
   rw[n9,n1,cond_false,cond_false]
   obtain⟨ys,t,g1,g2⟩:=qD he hv k p _ Q xs j h1 (by omega) hp
   rw[g1,Option.bind_some]
   dsimp only
   show sN _ ((mk env Q xs).bind fun r=>jm r.1 (l2.getD b.toNat zS).1 r.2 0)
   cases hm:mk env Q xs with
   |none =>
    rw[hm]at g2
    have g2:t=-1:=g2
    rw[decide_eq_true (by omega:t<0),cond_true]
    exact⟨xs, -1,rfl,rfl⟩
   |some s =>
    rw[hm]at g2
    have g2:(ys,t)=s:=g2
    subst g2
    have gr:=dV hp hm
    rw[decide_eq_false (by have:=gr.2.1;omega),cond_false,hpt,Option.bind_some,Option.bind_some]
    show sN ((aV N0 (ys,(l2.getD b.toNat zS).1,t,(0:Int))).bind fun r5=>(some (r5.1,r5.2))) _
    rw[ir gr.1,Option.bind_some]
    exact rY (B6 gr.1)
  ·obtain⟨_,c4,c5⟩:=sQ h3
   have hasks:P.asks=(Q.asks || R.asks):=by
    rcases c5 with⟨_,_,rfl⟩|⟨_,_,_,rfl⟩<;>rfl
   refine fin2 _ (c4.trans hasks.symm) fun hA=>?_
   have n9:((l2.getD b.toNat zS).1==(9:Int))=false:=by
    rw[beq_eq_false_iff_ne]
    rcases c5 with⟨_,e,_⟩|⟨_,_,e,_⟩<;>omega
   have n1:((l2.getD b.toNat zS).1==(1:Int))=false:=by
    rw[beq_eq_false_iff_ne]
    rcases c5 with⟨_,e,_⟩|⟨_,_,e,_⟩<;>omega
   have hpt:bV N0 ((l2.getD b.toNat zS).1,(l2.getD b.toNat zS).2.1,(l2.getD b.toNat zS).2.2.1,(l2.getD b.toNat zS).2.2.2)=some 2:=by
    rw[CO]
    rcases c5 with⟨_,e,_⟩|⟨_,_,e,_⟩
    ·rw[e];rfl
    ·rcases e with e|e|e|e|e<;>rw[e]<;>rfl
   rw[n9,n1,cond_false,cond_false]
   have hmk:(mk env Q xs=none→mk env P xs=none)∧(∀s,mk env Q xs=some s→mk env R s.1=none→mk env P xs=none):=by
    rcases c5 with⟨_,_,rfl⟩|⟨_,_,_,rfl⟩
    ·exact⟨fun e=>by show(mk env Q xs).bind _=none;rw[e];rfl,fun s e1 e2=>by show(mk env Q xs).bind _=none;rw[e1];show(mk env R s.1).bind _=none;rw[e2];rfl⟩
    ·exact⟨fun e=>by show(mk env Q xs).bind _=none;rw[e];rfl,fun s e1 e2=>by show(mk env Q xs).bind _=none;rw[e1];show(mk env R s.1).bind _=none;rw[e2];rfl⟩
   obtain⟨ys,t,g1,g2⟩:=qD he hv k p _ Q xs j h1 (by omega) hp
   rw[g1,Option.bind_some]
   dsimp only
   cases hm:mk env Q xs with
   |none =>
    rw[hm]at g2
    have g2:t=-1:=g2
    rw[decide_eq_true (by omega:t<0),cond_true,hmk.1 hm]
    exact⟨xs, -1,rfl,rfl⟩
   |some s =>
    rw[hm]at g2
    have g2:(ys,t)=s:=g2
    subst g2
    have gr:=dV hp hm
    rw[decide_eq_false (by have:=gr.2.1;omega),cond_false,hpt,Option.bind_some]
    show sN ((bZ N0 j (ys,env,l2,(l2.getD b.toNat zS).2.2.1)).bind fun r6=>(cond (decide (r6.2<(0:Int))) (some (xs,(-1:Int))) (cond ((l2.getD b.toNat zS).1==(10:Int)) ((dO N0 (r6.1,r6.2,t)).bind fun r7=>(some (r7.1,r7.2))) ((aV N0 (r6.1,(l2.getD b.toNat zS).1,t,r6.2)).bind fun r8=>(some (r8.1,r8.2)))))) _
    obtain⟨zs,u,g3,g4⟩:=qD he hv k q _ R ys j h2 (by omega) gr.1
    rw[g3,Option.bind_some]
    dsimp only
    cases hm2:mk env R ys with
    |none =>
     rw[hm2]at g4
     have g4:u=-1:=g4
     rw[decide_eq_true (by omega:u<0),cond_true,hmk.2 _ hm hm2]
     exact⟨xs, -1,rfl,rfl⟩
    |some s2 =>
     rw[hm2]at g4
     have g4:(zs,u)=s2:=g4
     subst g4
     have gr2:=dV gr.1 hm2
     rw[decide_eq_false (by have:=gr2.2.1;omega),cond_false]
     rcases c5 with⟨d1,d2,rfl⟩|⟨d1,d2,d3,rfl⟩
     ·rw[d2]
      show sN ((dO N0 (zs,u,t)).bind fun r7=>(some (r7.1,r7.2))) _
      rw[t4 gr2.1,Option.bind_some]
      have e:mk env (.exp Q R) xs=qN zs u t:=by
       show(mk env Q xs).bind _=_
       rw[hm]
       show(mk env R ys).bind _=_
       rw[hm2];rfl
      rw[e]
      exact rY (GT gr2.1)
     ·have n10:((l2.getD b.toNat zS).1==(10:Int))=false:=by rw[beq_eq_false_iff_ne];omega
      rw[n10,cond_false,ir gr2.1,Option.bind_some]
      have e:mk env (.bin (l2.getD b.toNat zS).1 Q R) xs=jm zs (l2.getD b.toNat zS).1 t u:=by
       show(mk env Q xs).bind _=_
       rw[hm]
       show(mk env R ys).bind _=_
       rw[hm2];rfl
      rw[e]
      exact rY (B6 gr2.1)
theorem Im {α β:Type}(f:α→β) (c:Bool) (a b:Option α):Option.map f (cond c a b)=cond c (Option.map f a) (Option.map f b):=by cases c<;>rfl
theorem In {α β γ:Type}(f:β→γ) (x:Option α) (g:α→Option β):Option.map f (x.bind g)=x.bind fun a=>Option.map f (g a):=by cases x<;>rfl
theorem IY {α β γ:Type}(f:α→β) (x:Option α) (g:β→Option γ):(Option.map f x).bind g=x.bind fun a=>g (f a):=by cases x<;>rfl
theorem E2 {α β:Type}(f:α→Option β) (c:Bool) (a b:Option α):(cond c a b).bind f=cond c (a.bind f) (b.bind f):=by cases c<;>rfl
theorem zK {α β:Type}(f:α→β) (a:α):Option.map f (some a)=some (f a):=rfl
theorem Ic {α β:Type}(f:α→β):Option.map f (none:Option α)=none:=rfl
theorem og (n:Nat):∀(k:Nat) (xs:List ab) (env:List Int) (l:List fZ) (b:Int),cx n k (xs,env,l,b)=(bZ n k (xs,env,l,b)).map (fun r=>(env,r.1,r.2))
 |0,xs,env,l,b=>rfl
 |k+1,xs,env,l,b=>by
  have ih:=og n k
  show iX n (cx n k) (xs,env,l,b)=(kq n (bZ n k) (xs,env,l,b)).map _
  simp only[iX,kq,gV,d5,ih,Im,In,IY,zK,Ic,E2,Option.bind_some,Option.bind_none]
def qK (w p:Int):List (Int×ByteArray):=(cU N0 (w,p)).getD []
theorem rL{w p:Int}(hw:w=1∨w=2∨w=3) (hp:p=0∨p=1):fu N0 (w,p)=some (qK w p,true)∧cU N0 (w,p)=some (qK w p)∧(qK w p).length=5:=by
 rcases hw with rfl|rfl|rfl<;>rcases hp with rfl|rfl
 all_goals exact⟨by kernel_rfl,by kernel_rfl,by kernel_rfl⟩
def xg (T:ByteArray) (P:nD):Prop:=∃b l1 l2 k,eM N0 T=some (b,true,l1)∧ef N0 T=some (l2,true)∧k≤N0∧nH l1 l2 k ((l1.length:Int)-1) ((l2.length:Int)-1)=some P∧l1.length≤4294967296∧l2.length≤4294967296
def LM (T:ByteArray) (f:nD→Bool):Bool:=match eM N0 T,ef N0 T with
 |some r,some q=>r.2.1&&(q.2&&((match nH r.2.2 q.1 40 ((r.2.2.length:Int)-1) ((q.1.length:Int)-1)with|some P=>f P|none=>false)&&(Nat.ble r.2.2.length 300&&Nat.ble q.1.length 300)))
 |_,_=>false
theorem Fz{T:ByteArray}{f:nD→Bool}(h:LM T f=true):∃P,xg T P∧f P=true:=by
 unfold LM at h
 split at h
 ·rename_i r q e1 e2
  rw[Bool.and_eq_true,Bool.and_eq_true,Bool.and_eq_true,Bool.and_eq_true]at h
  obtain⟨h1,h2,h3,h4,h5⟩:=h
  obtain⟨b,o,l1⟩:=r
  obtain⟨l2,o2⟩:=q
  have h1:o=true:=h1
  have h2:o2=true:=h2
  subst h1;subst h2
  split at h3
  ·rename_i P e3
   exact⟨P,⟨b,l1,l2,40,e1,e2,by decide,e3,Nat.le_trans (show l1.length≤300 from Nat.le_of_ble_eq_true h4) (by decide),Nat.le_trans (show l2.length≤300 from Nat.le_of_ble_eq_true h5) (by decide)⟩,h3⟩
  ·cases h3
 ·cases h
def TA (a:Int×ByteArray):Bool:=a.1==1&&(a.2.size==1&&(decide (97≤bt a.2 0)&&decide (bt a.2 0≤122))) || (a.1==3&&LM a.2 (fun _=>true) || ((a.1==2 || a.1==4)&&LM a.2 (fun P => !P.asks)))
def M0 (w p:Int):Bool:=(qK w p).all TA&&(List.range 5).all (fun i=>(((qK w p).getD i ((0:Int),(⟨#[]⟩:ByteArray))).1==4)==Nat.beq i 4)
theorem GP{w p:Int}(hw:w=1∨w=2∨w=3) (hp:p=0∨p=1):M0 w p=true:=by
 rcases hw with rfl|rfl|rfl<;>rcases hp with rfl|rfl
 all_goals kernel_rfl
theorem ug (h:some false=some true):False:=by cases h
structure Lf (xs:List ab) (x:bp):Prop where
 way:x.1=1∨x.1=2∨x.1=3
 side:x.2.1=0∨x.2.1=1
 me:0≤x.2.2.1∧x.2.2.1≤4
 peer:0≤x.2.2.2.1∧x.2.2.2.1≤4
 ne:x.2.2.1≠x.2.2.2.1
 env:d9 xs (tO x)=true
 len:(tO x).length=26
 pool:aS xs=true
 at0:0≤x.2.2.2.2.1∧x.2.2.2.2.1≤5
 done:dn x=(x.2.2.2.2.1==5)
 live:dn x=true→x.2.2.2.2.2.2.2.1=false
 key:dn x=true→cD xs x.2.2.2.2.2.2.2.2=true
 no:dn x=false→x.2.2.2.2.2.2.2.2=-1
theorem BJ{xs:List ab}(hx:xs.length≤4294967296){x:bp}(he:(tO x).length≤4294967296) (h:ji xs x=true):Lf xs x:=by
 have h1:=(se hx he).1
 rw[h]at h1
 obtain⟨w,p,a,b,at_,env,d,dd,key⟩:=x
 dsimp only at h1
 unfold fA at h1
 simp only[th N0 n0 hx (show env.length≤4294967296 from he),rE,Option.bind_some]at h1
 by_cases hr:(w=1∨w=2∨w=3)∧(p=0∨p=1)
 ·obtain⟨r1,r2,r3⟩:=rL hr.1 hr.2
  rw[r1]at h1
  simp only[Option.bind_some,d6,oF N0 hx,r3,Bool.not_true,cond_false]at h1
  cases ha:(decide (a≥0)&&decide (a≤4))with
  |false=>rw[ha]at h1;exact(ug h1).elim
  |true =>
   cases hb:(decide (b≥0)&&decide (b≤4))with
   |false=>rw[ha,hb]at h1;exact(ug h1).elim
   |true =>
    cases hab:(a==b)with
    |true=>rw[ha,hb,hab]at h1;exact(ug h1).elim
    |false =>
     cases h2:(d9 xs env&&(decide (env.length=26)&&(decide (xs.length≤500)&&cm N0 [] xs)))with
     |false=>rw[ha,hb,hab,h2]at h1;exact(ug h1).elim
     |true =>
      cases h3:(decide (at_≥0)&&decide (at_≤((5:Nat):Int)))with
      |false=>rw[ha,hb,hab,h2,h3]at h1;exact(ug h1).elim
      |true =>
       rw[ha,hb,hab,h2,h3]at h1
       simp only[Bool.not_true,cond_false]at h1
       rw[Bool.and_eq_true,decide_eq_true_iff,decide_eq_true_iff]at ha hb h3
       rw[Bool.and_eq_true,Bool.and_eq_true]at h2
       have h5:(at_==((5:Nat):Int))=(at_==5):=rfl
       rw[h5]at h1
       cases h4:((at_==5) != d)with
       |true=>rw[h4]at h1;exact(ug h1).elim
       |false =>
        rw[h4,cond_false]at h1
        have h6:d=(at_==5):=by
         rw[bne_eq_false_iff_eq]at h4
         exact h4.symm
        refine⟨hr.1,hr.2,⟨ha.1,ha.2⟩,⟨hb.1,hb.2⟩,by simpa using hab,h2.1,of_decide_eq_true h2.2.1,h2.2.2,⟨h3.1,h3.2⟩,h6,fun hd=>?_,fun hd=>?_,fun hd=>?_⟩
        ·have hd:d=true:=hd
         subst hd
         show dd=false
         cases dd with
         |false=>rfl
         |true=>exact(ug h1).elim
        ·have hd:d=true:=hd
         subst hd
         cases dd with
         |false=>exact Option.some.inj h1
         |true=>exact(ug h1).elim
        ·have hd:d=false:=hd
         subst hd
         have:(key == -1)=true:=Option.some.inj h1
         exact by simpa using this
 ·rw[(Cz w p hr).1]at h1
  exact(ug h1).elim
theorem rz{xs:List ab}:∀{env:List Int},d9 xs env=true→∀i:Nat,env.getD i 0<0→env.getD i 0=-1
 |[],_,i,h=>by simp at h
 |v::r,hb,i,h=>by
  have hb:((v == -1 || cD xs v)&&d9 xs r)=true:=hb
  rw[Bool.and_eq_true,Bool.or_eq_true]at hb
  match i with
  |0 =>
   have h:v<0:=h
   rcases hb.1 with q|q
   ·exact by simpa using q
   ·unfold cD at q
    simp at q
    omega
  |i+1=>exact rz hb.2 i h
theorem u9{xs:List ab}(hx:xs.length≤4294967296):aO N0 xs=some xs:=by
 unfold aO
 have:aR (([]:List ab).length+xs.length)=true:=by
  unfold aR
  simp
  omega
 rw[this];rfl
theorem EH{T:ByteArray}{P:nD}(hT:xg T P){xs:List ab}(hp:aS xs=true){env:List Int}(he:env.length=26) (hv:d9 xs env=true):∃l2 ys t,ef N0 T=some (l2,true)∧l2.length≤4294967296∧bZ N0 N0 (xs,env,l2,(l2.length:Int)-1)=some (ys,t)∧(match mk env P xs with
  |some s=>(ys,t)=s
  |none=>t=-1):=by
 obtain⟨b,l1,l2,k,e1,e2,hk,hd,hl1,hl2⟩:=hT
 obtain⟨ys,t,g1,g2⟩:=qD he (rz hv) k _ _ P xs N0 hd hk hp
 exact⟨l2,ys,t,e2,hl2,g1,g2⟩
theorem Fr{w p:Int}(hw:w=1∨w=2∨w=3) (hp:p=0∨p=1){i:Nat}(hi:i<5) (a:Int×ByteArray) (ha:a=(qK w p).getD i ((0:Int),(⟨#[]⟩:ByteArray))) :
  (a.1=4↔i=4)∧((a.1=1∧a.2.size=1∧97≤bt a.2 0∧bt a.2 0≤122)∨(a.1=3∧∃P,xg a.2 P)∨((a.1=2∨a.1=4)∧∃P,xg a.2 P∧P.asks=false)):=by
 have hb:=GP hw hp
 obtain⟨_,_,hl⟩:=rL hw hp
 unfold M0 at hb
 rw[Bool.and_eq_true]at hb
 have h2:=List.all_eq_true.1 hb.2 i (List.mem_range.2 hi)
 rw[←ha]at h2
 have hm:a∈qK w p:=by
  rw[ha,List.getD_eq_getElem?_getD,List.getElem?_eq_getElem (by omega)]
  exact List.getElem_mem _
 have h1:=List.all_eq_true.1 hb.1 a hm
 refine⟨?_,?_⟩
 ·have h2:(a.1==4)=Nat.beq i 4:=by simpa using h2
  constructor
  ·intro h
   rw[h]at h2
   exact Nat.eq_of_beq_eq_true h2.symm
  ·intro h
   rw[h]at h2
   have:(a.1==4)=true:=h2
   exact by simpa using this
 ·unfold TA at h1
  rw[Bool.or_eq_true,Bool.or_eq_true,Bool.and_eq_true,Bool.and_eq_true,Bool.and_eq_true,Bool.and_eq_true,Bool.and_eq_true,Bool.or_eq_true]at h1
  rcases h1 with⟨h1,h3,h4,h5⟩|⟨h1,h3⟩|⟨h1,h3⟩
  ·exact .inl ⟨by simpa using h1,by simpa using h3,of_decide_eq_true h4,of_decide_eq_true h5⟩
  ·obtain⟨P,hP,_⟩:=Fz h3
   exact .inr (.inl ⟨by simpa using h1,P,hP⟩)
  ·obtain⟨P,hP,hA⟩:=Fz h3
   exact .inr (.inr ⟨by simpa using h1,P,hP,by simpa using hA⟩)
section
variable{xs:List ab}{kn:List Int}{li:List bp}{fr:Int}{gv sh:List Int}{lg:List aJ}{k:Int}
theorem DS (hw:bJ xs kn li fr gv sh lg=true){i:Nat}(hi:i<li.length):ji xs (li.getD i zI)=true:=by
 unfold bJ at hw
 rw[Bool.and_eq_true,Bool.and_eq_true,Bool.and_eq_true,Bool.and_eq_true,Bool.and_eq_true,Bool.and_eq_true]at hw
 have h:=hw.2.2.2.2.2.1
 unfold q9 at h
 exact cP.1 h i (Nat.zero_le _) (by omega)
theorem DT (hs:Small xs kn li gv sh lg) (hw:bJ xs kn li fr gv sh lg=true){i:Nat}(hi:i<li.length):Lf xs (li.getD i zI):=BJ hs.fx (hs.fe i hi) (DS hw hi)
theorem Ax{n k:Int}(h:iU n k=true):0≤k∧k<n:=by
 unfold iU at h
 rw[Bool.and_eq_true,decide_eq_true_iff,decide_eq_true_iff]at h
 omega
theorem eN{xs:List ab}{t:Int}:cD xs t=true↔0≤t∧t<(xs.length:Int):=by
 unfold cD
 rw[Bool.and_eq_true,decide_eq_true_iff,decide_eq_true_iff]
 omega
end
def zA (env:List Int):Prop:=env.length=26∧∀i:Nat,env.getD i 0<0→env.getD i 0=-1
theorem Fp{env:List Int}{i:Nat}(h:i<env.length) (t:Int):(env.set i t).getD i 0=t:=by
 rw[List.getD_eq_getElem?_getD,List.getElem?_set_self h];rfl
theorem zA.set{env:List Int}(h:zA env){i:Nat}(hi:i<env.length){t:Int}(ht:0≤t):zA (env.set i t):=by
 refine⟨by rw[List.length_set];exact h.1,fun j hj=>?_⟩
 by_cases e:i=j
 ·subst e
  rw[Fp hi]at hj
  omega
 ·have e2:(env.set i t).getD j 0=env.getD j 0:=by rw[List.getD_eq_getElem?_getD,List.getD_eq_getElem?_getD,List.getElem?_set_ne e]
  rw[e2]at hj ⊢
  exact h.2 _ hj
theorem iQ{xs zs:List ab}{t:Int}(h:cD xs t=true):cD (xs++zs) t=true:=by
 rw[eN]at h ⊢
 rw[List.length_append]
 omega
def Ij (env:List Int) (P:nD) (xs:List ab) (t:Int):Option (List Int×List ab):=(mk env P xs).bind fun r=>bif r.2==t then some (env,r.1)else none
abbrev nd (xs:List ab) (t:Int):ab:=xs.getD t.toNat oZ
def dy:nD→List Int→List ab→Int→Option (List Int×List ab)
 | .ask i,env,xs,t=>bif decide (env.getD i.toNat 0<0)then some (env.set i.toNat t,xs)else bif env.getD i.toNat 0==t then some (env,xs)else none
 | .bin k p q,env,xs,t=>bif k==2 then(bif (nd xs t).1==2 then(dy p env xs (nd xs t).2.1).bind fun r=>dy q r.1 r.2 (nd xs t).2.2 else none)
   else bif k==3 || k==4 then(bif (nd xs t).1==k then(dy q env xs (nd xs t).2.2).bind fun r=>dy p r.1 r.2 (nd xs t).2.1 else none)
   else Ij env (.bin k p q) xs t
 | .name c,env,xs,t=>Ij env (.name c) xs t
 | .var i,env,xs,t=>Ij env (.var i) xs t
 | .un k p,env,xs,t=>Ij env (.un k p) xs t
 | .exp p q,env,xs,t=>Ij env (.exp p q) xs t
theorem qU{env e:List Int}{P:nD}{xs ys:List ab}{t:Int}(hE:zA env) (hp:aS xs=true) (h:Ij env P xs t=some (e,ys)):zA e∧aS ys=true∧∃zs,ys=xs++zs:=by
 obtain⟨r,h1,h2⟩:=Option.bind_eq_some_iff.1 (show(mk env P xs).bind _=some (e,ys)from h)
 have g:=dV hp (show mk env P xs=some (r.1,r.2)from h1)
 cases hc:(r.2==t)with
 |false=>rw[hc]at h2;cases h2
 |true =>
  rw[hc]at h2
  obtain⟨rfl,rfl⟩:=Prod.mk.inj (Option.some.inj h2)
  exact⟨hE,g.1,g.2.2⟩
theorem EJ{xs:List ab}{t:Int}(hp:aS xs=true) (ht:cD xs t=true) (hk:(nd xs t).1=2∨(nd xs t).1=3∨(nd xs t).1=4):cD xs (nd xs t).2.1=true∧cD xs (nd xs t).2.2=true:=by
 have hl:=c9 hp
 rw[eN]at ht
 have h:=xZ hp (j:=t.toNat) (by omega)
 have hd:(xs.getD t.toNat oZ)=nd xs t:=rfl
 rw[hd]at h
 generalize nd xs t=X at h hk
 have hc:dK N0 X.1=some 2:=by rcases hk with e|e|e<;>rw[e]<;>rfl
 rw[show((t.toNat:Nat):Int)=t from by omega]at h
 unfold ge cj at h
 dsimp only at h
 rw[hc,ar (by omega) (by omega)]at h
 simp only[Option.bind_some,d6]at h
 have c0:((2:Int)==(0:Int))=false:=by decide
 have c1:((2:Int)==(1:Int))=false:=by decide
 have c2:((2:Int)==(2:Int))=true:=by decide
 rw[c0,c1,c2,cond_false,cond_false,cond_true]at h
 cases h1:(decide (X.2.1≥0)&&decide (X.2.1≤t-1))with
 |false=>rw[h1]at h;cases h
 |true =>
  cases h2:(decide (X.2.2≥0)&&decide (X.2.2≤t-1))with
  |false=>rw[h1,h2]at h;cases h
  |true =>
   rw[Bool.and_eq_true,decide_eq_true_iff,decide_eq_true_iff]at h1 h2
   rw[eN,eN]
   omega
theorem eB:∀{P:nD}{env e:List Int}{xs ys:List ab}{t:Int},zA env→aS xs=true→cD xs t=true→dy P env xs t=some (e,ys)→zA e∧aS ys=true∧∃zs,ys=xs++zs
 | .name c,env,e,xs,ys,t,hE,hp,ht,h=>qU hE hp h
 | .var i,env,e,xs,ys,t,hE,hp,ht,h=>qU hE hp h
 | .un k p,env,e,xs,ys,t,hE,hp,ht,h=>qU hE hp h
 | .exp p q,env,e,xs,ys,t,hE,hp,ht,h=>qU hE hp h
 | .ask i,env,e,xs,ys,t,hE,hp,ht,h=>by
  have h:(bif decide (env.getD i.toNat 0<0)then some (env.set i.toNat t,xs)else bif env.getD i.toNat 0==t then some (env,xs)else none)=some (e,ys):=h
  by_cases hn:env.getD i.toNat 0<0
  ·rw[decide_eq_true hn]at h
   obtain⟨rfl,rfl⟩:=Prod.mk.inj (Option.some.inj h)
   have hi:i.toNat<env.length:=by
    refine Nat.lt_of_not_le fun q=>?_
    rw[List.getD_eq_getElem?_getD,List.getElem?_eq_none q]at hn
    exact absurd hn (by decide)
   exact⟨hE.set hi (eN.1 ht).1,hp,[],by simp⟩
  ·rw[decide_eq_false hn]at h
   cases hc:(env.getD i.toNat 0==t)with
   |false=>rw[hc]at h;cases h
   |true =>
    rw[hc]at h
    obtain⟨rfl,rfl⟩:=Prod.mk.inj (Option.some.inj h)
    exact⟨hE,hp,[],by simp⟩
 | .bin k p q,env,e,xs,ys,t,hE,hp,ht,h=>by
  have h:(bif k==2 then(bif (nd xs t).1==2 then(dy p env xs (nd xs t).2.1).bind fun r=>dy q r.1 r.2 (nd xs t).2.2 else none)
   else bif k==3 || k==4 then(bif (nd xs t).1==k then(dy q env xs (nd xs t).2.2).bind fun r=>dy p r.1 r.2 (nd xs t).2.1 else none)
   else Ij env (.bin k p q) xs t)=some (e,ys):=h
  cases h2:(k==2)with
  |true =>
   rw[h2,cond_true]at h
   cases h3:((nd xs t).1==2)with
   |false=>rw[h3]at h;cases h
   |true =>
    rw[h3,cond_true]at h
    obtain⟨k1,k2⟩:=EJ hp ht (.inl (by simpa using h3))
    obtain⟨r,h4,h5⟩:=Option.bind_eq_some_iff.1 h
    obtain⟨g1,g2,w,g3⟩:=eB hE hp k1 (show _=some (r.1,r.2)from h4)
    obtain⟨g4,g5,v,g6⟩:=eB g1 g2 (by rw[g3];exact iQ k2) h5
    exact⟨g4,g5,w++v,by rw[g6,g3,List.append_assoc]⟩
  |false =>
   rw[h2,cond_false]at h
   cases h3:(k==3 || k==4)with
   |false=>rw[h3,cond_false]at h;exact qU hE hp h
   |true =>
    rw[h3,cond_true]at h
    cases h6:((nd xs t).1==k)with
    |false=>rw[h6]at h;cases h
    |true =>
     rw[h6,cond_true]at h
     have h7:(nd xs t).1=k:=by simpa using h6
     have h8:k=3∨k=4:=by simpa using h3
     obtain⟨k1,k2⟩:=EJ hp ht (by rw[h7];exact .inr h8)
     obtain⟨r,h4,h5⟩:=Option.bind_eq_some_iff.1 h
     obtain⟨g1,g2,w,g3⟩:=eB hE hp k2 (show _=some (r.1,r.2)from h4)
     obtain⟨g4,g5,v,g6⟩:=eB g1 g2 (by rw[g3];exact iQ k1) h5
     exact⟨g4,g5,w++v,by rw[g6,g3,List.append_assoc]⟩
def wH (res:Option (List Int×List ab×Bool)) (m:Option (List Int×List ab)):Prop:=∃e ys c,res=some (e,ys,c)∧(match m with
 |some s=>(e,ys)=s∧c=true
 |none=>c=false)
theorem L8{l1:List gG}{l2:List fZ}{env:List Int}{xs:List ab}{k:Nat}{a b t:Int}{P:nD}(he:zA env) (hd:nH l1 l2 k a b=some P) (hk:k≤N0) (hp:aS xs=true) (ht:0≤t) :
  wH ((cx N0 N0 (xs,env,l2,b)).bind fun r16=>(cond (r16.2.2==t) (some (r16.1,r16.2.1,(decide (r16.2.2≥(0:Int))))) (some (r16.1,r16.2.1,false)))) (Ij env P xs t):=by
 obtain⟨ys,u,g1,g2⟩:=qD he.1 he.2 k a b P xs N0 hd hk hp
 rw[og,g1,zK,Option.bind_some]
 dsimp only
 unfold Ij
 cases hm:mk env P xs with
 |none =>
  rw[hm]at g2
  have g2:u=-1:=g2
  have:(u==t)=false:=by rw[beq_eq_false_iff_ne];omega
  rw[this,cond_false]
  exact⟨_,_,_,rfl,rfl⟩
 |some s =>
  rw[hm]at g2
  have g2:(ys,u)=s:=g2
  subst g2
  have gr:=dV hp hm
  rw[Option.bind_some]
  dsimp only
  cases(u==t)with
  |true=>exact⟨_,_,_,rfl,rfl,decide_eq_true gr.2.1⟩
  |false=>exact⟨_,_,_,rfl,rfl⟩
theorem lh{l1:List gG}{l2:List fZ}:∀(k:Nat) (a b:Int) (P:nD) (env:List Int) (xs:List ab) (t:Int) (j:Nat),nH l1 l2 k a b=some P→k≤j→k≤N0→zA env→aS xs=true→cD xs t=true→wH (bF N0 j (xs,env,l2,b,t)) (dy P env xs t)
 |0,a,b,P,env,xs,t,j,h,_,_,_,_,_=>by cases h
 |k+1,a,b,P,env,xs,t,0,h,hj,_,_,_,_=>by omega
 |k+1,a,b,P,env,xs,t,j+1,h,hj,hn,hE,hp,ht=>by
  have hx:=c9 hp
  obtain⟨t0,t1⟩:=eN.1 ht
  obtain⟨_,hb,hc⟩:=sg h
  have mb:=L8 (t:=t) hE h hn hp t0
  have e0:bF N0 (j+1) (xs,env,l2,b,t)=jF N0 (bF N0 j) (xs,env,l2,b,t):=rfl
  rw[e0]
  unfold jF eD
  dsimp only
  rw[hb,rh ht]
  simp only[cond_true]
  rcases hc with⟨hps,hl⟩|⟨p,Q,hps,h1,h2⟩|⟨p,q,Q,R,hps,h1,h2,h3⟩
  ·rcases qZ hl with⟨c1,c2,c3,c4,rfl⟩|⟨_,c1,c2,c3,c4,c6,c7,rfl⟩|⟨_,_,c1,c2,c3,c4,c6,c7,rfl⟩
   ·rw[c2]
    exact mb
   ·rw[c2,c4,c3,yF hE.1 c6 c7]
    refine⟨env,xs,(env.getD (l1.getD a.toNat zP).2.1.toNat 0==t),rfl,?_⟩
    show match Ij env (.var (l1.getD a.toNat zP).2.1) xs t with
     |some s=>(env,xs)=s∧(env.getD (l1.getD a.toNat zP).2.1.toNat 0==t)=true
     |none=>(env.getD (l1.getD a.toNat zP).2.1.toNat 0==t)=false
    have hv:=Km (env:=env) xs (l1.getD a.toNat zP).2.1
    unfold Ij
    cases hm:mk env (.var (l1.getD a.toNat zP).2.1) xs with
    |none =>
     rw[hm]at hv
     have hv:env.getD (l1.getD a.toNat zP).2.1.toNat 0<0:=hv
     show(_==t)=false
     rw[beq_eq_false_iff_ne];omega
    |some s =>
     rw[hm]at hv
     have hv:(xs,env.getD (l1.getD a.toNat zP).2.1.toNat 0)=s:=hv
     subst hv
     rw[Option.bind_some]
     dsimp only
     cases(env.getD (l1.getD a.toNat zP).2.1.toNat 0==t)with
     |true=>exact⟨rfl,rfl⟩
     |false=>rfl
   ·rw[c2,c4,c3]
    have hi:aY (l1.getD a.toNat zP).2.1 (env.set (l1.getD a.toNat zP).2.1.toNat t).length=true:=by rw[List.length_set];exact yF hE.1 c6 c7
    rw[yF hE.1 c6 c7,hi,Fp (i:=(l1.getD a.toNat zP).2.1.toNat) (by have:=hE.1;omega)]
    show wH _ (bif decide (env.getD (l1.getD a.toNat zP).2.1.toNat 0<0)then some (env.set (l1.getD a.toNat zP).2.1.toNat t,xs)else bif env.getD (l1.getD a.toNat zP).2.1.toNat 0==t then some (env,xs)else none)
    by_cases hneg:env.getD (l1.getD a.toNat zP).2.1.toNat 0<0
    ·rw[decide_eq_true hneg]
     exact⟨_,_,_,rfl,rfl,by simp⟩
    ·rw[decide_eq_false hneg]
     cases hq:(env.getD (l1.getD a.toNat zP).2.1.toNat 0==t)with
     |true=>exact⟨_,_,_,rfl,rfl,rfl⟩
     |false=>exact⟨_,_,_,rfl,rfl⟩
  ·obtain⟨_,c4,c5,c6,c7,rfl⟩:=pz h2
   rcases c6 with e|e
   ·rw[e]at mb ⊢
    exact mb
   ·rw[e]at mb ⊢
    exact mb
  ·obtain⟨_,c4,c5⟩:=sQ h3
   rcases c5 with⟨d1,d2,rfl⟩|⟨d1,d2,d3,rfl⟩
   ·rw[d2]
    exact mb
   ·rcases d3 with d3|d3|d3|d3|d3
    ·rw[d3]
     show wH (cond ((nd xs t).1 != 2) (some (env,xs,false)) ((bF N0 j (xs,env,l2,(l2.getD b.toNat zS).2.1,(nd xs t).2.1)).bind fun r4=>(cond (!r4.2.2) (some (r4.1,xs,false)) ((bF N0 j (r4.2.1,r4.1,l2,(l2.getD b.toNat zS).2.2.1,(nd xs t).2.2)).bind fun r5=>(some (r5.1,r5.2.1,r5.2.2)))))) (bif (nd xs t).1==2 then(dy Q env xs (nd xs t).2.1).bind fun r=>dy R r.1 r.2 (nd xs t).2.2 else none)
     rw[show((nd xs t).1 != 2) = !((nd xs t).1==2)from rfl]
     cases hkd:((nd xs t).1==2)with
     |false=>exact⟨_,_,_,rfl,rfl⟩
     |true =>
      obtain⟨k1,k2⟩:=EJ hp ht (.inl (by simpa using hkd))
      obtain⟨e,ys,c,g1,g2⟩:=lh k p _ Q env xs (nd xs t).2.1 j h1 (by omega) (by omega) hE hp k1
      rw[Bool.not_true,cond_false,cond_true,g1,Option.bind_some]
      dsimp only
      cases hm:dy Q env xs (nd xs t).2.1 with
      |none =>
       rw[hm]at g2
       have g2:c=false:=g2
       subst g2
       exact⟨_,_,_,rfl,rfl⟩
      |some s =>
       rw[hm]at g2
       obtain⟨g2,g3⟩:=(g2:(e,ys)=s∧c=true)
       subst g2;subst g3
       obtain⟨f1,f2,w,f3⟩:=eB hE hp k1 hm
       obtain⟨e2,zs,c2,g4,g5⟩:=lh k q _ R e ys (nd xs t).2.2 j h2 (by omega) (by omega) f1 f2 (by rw[f3];exact iQ k2)
       rw[Bool.not_true,cond_false,g4]
       exact⟨_,_,_,rfl,g5⟩
    ·rw[d3]
     show wH (cond ((nd xs t).1 != 3) (some (env,xs,false)) ((bF N0 j (xs,env,l2,(l2.getD b.toNat zS).2.2.1,(nd xs t).2.2)).bind fun r4=>(cond (!r4.2.2) (some (r4.1,xs,false)) ((bF N0 j (r4.2.1,r4.1,l2,(l2.getD b.toNat zS).2.1,(nd xs t).2.1)).bind fun r5=>(some (r5.1,r5.2.1,r5.2.2)))))) (bif (nd xs t).1==3 then(dy R env xs (nd xs t).2.2).bind fun r=>dy Q r.1 r.2 (nd xs t).2.1 else none)
     rw[show((nd xs t).1 != 3) = !((nd xs t).1==3)from rfl]
     cases hkd:((nd xs t).1==3)with
     |false=>exact⟨_,_,_,rfl,rfl⟩
     |true =>
      obtain⟨k1,k2⟩:=EJ hp ht (by
       have:(nd xs t).1=3:=by simpa using hkd
       rw[this];decide)
      obtain⟨e,ys,c,g1,g2⟩:=lh k q _ R env xs (nd xs t).2.2 j h2 (by omega) (by omega) hE hp k2
      rw[Bool.not_true,cond_false,cond_true,g1,Option.bind_some]
      dsimp only
      cases hm:dy R env xs (nd xs t).2.2 with
      |none =>
       rw[hm]at g2
       have g2:c=false:=g2
       subst g2
       exact⟨_,_,_,rfl,rfl⟩
      |some s =>
       rw[hm]at g2
       obtain⟨g2,g3⟩:=(g2:(e,ys)=s∧c=true)
       subst g2;subst g3
       obtain⟨f1,f2,w,f3⟩:=eB hE hp k2 hm
       obtain⟨e2,zs,c2,g4,g5⟩:=lh k p _ Q e ys (nd xs t).2.1 j h1 (by omega) (by omega) f1 f2 (by rw[f3];exact iQ k1)
       rw[Bool.not_true,cond_false,g4]
       exact⟨_,_,_,rfl,g5⟩
    ·rw[d3]
     show wH (cond ((nd xs t).1 != 4) (some (env,xs,false)) ((bF N0 j (xs,env,l2,(l2.getD b.toNat zS).2.2.1,(nd xs t).2.2)).bind fun r4=>(cond (!r4.2.2) (some (r4.1,xs,false)) ((bF N0 j (r4.2.1,r4.1,l2,(l2.getD b.toNat zS).2.1,(nd xs t).2.1)).bind fun r5=>(some (r5.1,r5.2.1,r5.2.2)))))) (bif (nd xs t).1==4 then(dy R env xs (nd xs t).2.2).bind fun r=>dy Q r.1 r.2 (nd xs t).2.1 else none)
     rw[show((nd xs t).1 != 4) = !((nd xs t).1==4)from rfl]
     cases hkd:((nd xs t).1==4)with
     |false=>exact⟨_,_,_,rfl,rfl⟩
     |true =>
      obtain⟨k1,k2⟩:=EJ hp ht (by
       have:(nd xs t).1=4:=by simpa using hkd
       rw[this];decide)
      obtain⟨e,ys,c,g1,g2⟩:=lh k q _ R env xs (nd xs t).2.2 j h2 (by omega) (by omega) hE hp k2
      rw[Bool.not_true,cond_false,cond_true,g1,Option.bind_some]
      dsimp only
      cases hm:dy R env xs (nd xs t).2.2 with
      |none =>
       rw[hm]at g2
       have g2:c=false:=g2
       subst g2
       exact⟨_,_,_,rfl,rfl⟩
      |some s =>
       rw[hm]at g2
       obtain⟨g2,g3⟩:=(g2:(e,ys)=s∧c=true)
       subst g2;subst g3
       obtain⟨f1,f2,w,f3⟩:=eB hE hp k2 hm
       obtain⟨e2,zs,c2,g4,g5⟩:=lh k p _ Q e ys (nd xs t).2.1 j h1 (by omega) (by omega) f1 f2 (by rw[f3];exact iQ k1)
       rw[Bool.not_true,cond_false,g4]
       exact⟨_,_,_,rfl,g5⟩
    ·rw[d3]at mb ⊢
     exact mb
    ·rw[d3]at mb ⊢
     exact mb
theorem FZ {α:Type}(pre r:List α) (a d:α):(pre++a::r).getD pre.length d=a:=by
 rw[List.getD_eq_getElem?_getD,List.getElem?_append_right (Nat.le_refl _),Nat.sub_self];rfl
theorem OO {α:Type}(pre r:List α) (a:α):aY (pre.length:Int) (pre++a::r).length=true:=au (by simp)
theorem OH {α:Type}(pre r:List α) (a:α):decide ((pre.length:Int)<((pre++a::r).length:Int))=true:=decide_eq_true (by simp;omega)
theorem OJ {α:Type}(pre:List α):decide ((pre.length:Int)<((pre++([]:List α)).length:Int))=false:=decide_eq_false (by simp)
theorem Mo {α:Type}(pre r:List α) (a:α):pre++a::r=(pre++[a])++r:=by rw[List.append_assoc];rfl
theorem uu {α:Type}(pre:List α) (a:α):((pre++[a]).length:Int)=(pre.length:Int)+1:=by rw[List.length_append,List.length_singleton];omega
theorem EF{w p a b at_:Int}{env:List Int}{d dd:Bool}{key:Int}(he:env.length≤4294967296):ko N0 (w,p,a,b,at_,env,d,dd,key)=some (w,p,a,b,at_,env,d,dd,key):=by
 unfold ko
 dsimp only
 have:aR (([]:List Int).length+env.length)=true:=by
  unfold aR
  simp
  omega
 rw[this];rfl
theorem EG{T:ByteArray}{P:nD}(hT:xg T P){xs:List ab}(hp:aS xs=true){env:List Int}(he:env.length=26) (hv:d9 xs env=true){t:Int}(ht:cD xs t=true) :
  ∃l2 e ys c,ef N0 T=some (l2,true)∧kp N0 (xs,env,l2,t)=some (ys,e,c)∧(match dy P env xs t with
   |some s=>(e,ys)=s∧c=true
   |none=>c=false):=by
 obtain⟨b,l1,l2,k,e1,e2,hk,hd,hl1,hl2⟩:=hT
 obtain⟨e,ys,c,g1,g2⟩:=lh k _ _ P env xs t N0 hd hk hk ⟨he,rz hv⟩ hp ht
 refine⟨l2,e,ys,c,e2,?_,g2⟩
 unfold kp
 dsimp only
 have:aR (([]:List Int).length+env.length)=true:=by
  unfold aR
  simp
  omega
 rw[this,cond_true,List.nil_append,ar (by omega) (by omega),g1];rfl
theorem lp{xs zs:List ab}:∀{env:List Int},d9 xs env=true→d9 (xs++zs) env=true
 |[],_=>rfl
 |v::r,h=>by
  have h:((v == -1 || cD xs v)&&d9 xs r)=true:=h
  show((v == -1 || cD (xs++zs) v)&&d9 (xs++zs) r)=true
  rw[Bool.and_eq_true,Bool.or_eq_true]at h ⊢
  exact⟨h.1.imp id iQ,lp h.2⟩
theorem ru{xs:List ab}{t:Int}(ht:cD xs t=true):∀{env:List Int}(i:Nat),d9 xs env=true→d9 xs (env.set i t)=true
 |[],i,_=>rfl
 |v::r,0,h=>by
  have h:((v == -1 || cD xs v)&&d9 xs r)=true:=h
  show((t == -1 || cD xs t)&&d9 xs r)=true
  rw[Bool.and_eq_true]at h
  rw[ht,h.2,Bool.or_true];rfl
 |v::r,i+1,h=>by
  have h:((v == -1 || cD xs v)&&d9 xs r)=true:=h
  show((v == -1 || cD xs v)&&d9 xs (r.set i t))=true
  rw[Bool.and_eq_true]at h
  rw[h.1,ru ht i h.2];rfl
abbrev Zf:=List ab×Int×Int×Int×Int×Int×List Int×Bool×Bool×Int×List Int×Int
def XB:(Zf⊕(Int×List ab×Int×Int×Int×Int×Int×List Int×Bool×Bool×Int×List ab×Int×Int×Int×Int×Int×List Int×Bool×Bool×Int×List Int))→Zf
 | .inl a=>a
 | .inr b=>(b.2.1,b.2.2.1,b.2.2.2.1,b.2.2.2.2.1,b.2.2.2.2.2.1,b.2.2.2.2.2.2.1,b.2.2.2.2.2.2.2.1,b.2.2.2.2.2.2.2.2.1,b.2.2.2.2.2.2.2.2.2.1,b.2.2.2.2.2.2.2.2.2.2.1,b.2.2.2.2.2.2.2.2.2.2.2.2.2.2.2.2.2.2.2.2.2,b.1)
theorem ZA{x:Int}(h0:97≤x) (h1:x≤122):IntKind.u8.wrap (x-97)=x-97∧IntKind.i64.wrap (IntKind.i64.wrap x-97)=x-97:=by
 have h:x=97∨x=98∨x=99∨x=100∨x=101∨x=102∨x=103∨x=104∨x=105∨x=106∨x=107∨x=108∨x=109∨x=110∨x=111∨x=112∨x=113∨x=114∨x=115∨x=116∨x=117∨x=118∨x=119∨x=120∨x=121∨x=122:=by omega
 rcases h with h|h|h|h|h|h|h|h|h|h|h|h|h|h|h|h|h|h|h|h|h|h|h|h|h|h<;>subst h<;>exact⟨by decide,by decide⟩
theorem n0s:∃m,N0=m+1:=⟨N0-1,by have:=n0;omega⟩
theorem F3{xs:List ab}:∀{env:List Int},d9 xs env=true→∀i:Nat,0≤env.getD i 0→i<env.length→cD xs (env.getD i 0)=true
 |[],_,i,_,h=>absurd h (Nat.not_lt_zero _)
 |v::r,hb,i,h0,hl=>by
  have hb:((v == -1 || cD xs v)&&d9 xs r)=true:=hb
  rw[Bool.and_eq_true,Bool.or_eq_true]at hb
  match i with
  |0 =>
   rcases hb.1 with q|q
   ·have q:v=-1:=by simpa using q
    have h0:0≤v:=h0
    omega
   ·exact q
  |i+1=>exact F3 hb.2 i h0 (by simpa using hl)
def nD.Fine:nD→Prop
 | .name _=>True
 | .var i=>0≤i∧i<26
 | .ask i=>0≤i∧i<26
 | .un _ p=>p.Fine
 | .bin _ p q=>p.Fine∧q.Fine
 | .exp p q=>p.Fine∧q.Fine
theorem mV{l1:List gG}{l2:List fZ}:∀{k:Nat}{a b:Int}{P:nD},nH l1 l2 k a b=some P→P.Fine
 |0,a,b,P,h=>by cases h
 |k+1,a,b,P,h=>by
  obtain⟨_,_,hc⟩:=sg h
  rcases hc with⟨_,hl⟩|⟨p,Q,_,h1,h2⟩|⟨p,q,Q,R,_,h1,h2,h3⟩
  ·rcases qZ hl with⟨_,_,_,_,rfl⟩|⟨_,_,_,_,_,c6,c7,rfl⟩|⟨_,_,_,_,_,_,c6,c7,rfl⟩
   ·exact trivial
   ·exact⟨c6,c7⟩
   ·exact⟨c6,c7⟩
  ·obtain⟨_,_,_,_,_,rfl⟩:=pz h2
   exact(show Q.Fine from mV h1)
  ·obtain⟨_,_,c5⟩:=sQ h3
   rcases c5 with⟨_,_,rfl⟩|⟨_,_,_,rfl⟩
   ·exact⟨mV h1,mV h2⟩
   ·exact⟨mV h1,mV h2⟩
theorem xg.fine{T:ByteArray}{P:nD}(h:xg T P):P.Fine:=by
 obtain⟨_,_,_,_,_,_,_,hd,_⟩:=h
 exact mV hd
theorem Nr{env:List Int}:∀{P:nD}{xs ys:List ab}{t:Int},P.Fine→aS xs=true→env.length=26→d9 xs env=true→mk env P xs=some (ys,t)→cD ys t=true
 | .name c,xs,ys,t,_,hp,_,_,h=>by
  obtain⟨g,g2⟩:=d7 hp h
  exact eN.2 ⟨g.2.1,g2⟩
 | .var i,xs,ys,t,hf,hp,he,hv,h=>by
  have h:(bif decide (env.getD i.toNat 0<0)then none else some (xs,env.getD i.toNat 0))=some (ys,t):=h
  by_cases hn:env.getD i.toNat 0<0
  ·rw[decide_eq_true hn]at h;cases h
  ·rw[decide_eq_false hn]at h
   obtain⟨rfl,rfl⟩:=Prod.mk.inj (Option.some.inj h)
   obtain⟨f1,f2⟩:=hf
   exact F3 hv _ (by omega) (by omega)
 | .ask i,xs,ys,t,_,_,_,_,h=>by cases h
 | .un k p,xs,ys,t,hf,hp,he,hv,h=>by
  obtain⟨r,h1,h2⟩:=Option.bind_eq_some_iff.1 (show(mk env p xs).bind _=some (ys,t)from h)
  have g1:=dV hp (show mk env p xs=some (r.1,r.2)from h1)
  obtain⟨g,g2⟩:=d7 g1.1 h2
  exact eN.2 ⟨g.2.1,g2⟩
 | .bin k p q,xs,ys,t,hf,hp,he,hv,h=>by
  obtain⟨r,h1,h2⟩:=Option.bind_eq_some_iff.1 (show(mk env p xs).bind _=some (ys,t)from h)
  have g1:=dV hp (show mk env p xs=some (r.1,r.2)from h1)
  obtain⟨s,h3,h4⟩:=Option.bind_eq_some_iff.1 h2
  have g2:=dV g1.1 (show mk env q r.1=some (s.1,s.2)from h3)
  obtain⟨g,g3⟩:=d7 g2.1 h4
  exact eN.2 ⟨g.2.1,g3⟩
 | .exp p q,xs,ys,t,hf,hp,he,hv,h=>by
  obtain⟨r,h1,h2⟩:=Option.bind_eq_some_iff.1 (show(mk env p xs).bind _=some (ys,t)from h)
  have g1:=dV hp (show mk env p xs=some (r.1,r.2)from h1)
  obtain⟨s,h3,h4⟩:=Option.bind_eq_some_iff.1 h2
  have g2:=dV g1.1 (show mk env q r.1=some (s.1,s.2)from h3)
  obtain⟨g,g3⟩:=d7 g2.1 (pq h4)
  exact eN.2 ⟨g.2.1,g3⟩
def sO (env e:List Int):Prop:=∀i:Nat,env.getD i 0≠-1→e.getD i 0=env.getD i 0
theorem sO.refl (env:List Int):sO env env:=fun _ _=>rfl
theorem sO.trans{a b c:List Int}(h1:sO a b) (h2:sO b c):sO a c:=fun i h=>(h2 i (by rw[h1 i h];exact h)).trans (h1 i h)
theorem qT{env e:List Int}{P:nD}{xs ys:List ab}{t:Int}(hp:aS xs=true) (hv:d9 xs env=true) (h:Ij env P xs t=some (e,ys)):d9 ys e=true∧sO env e:=by
 obtain⟨r,h1,h2⟩:=Option.bind_eq_some_iff.1 (show(mk env P xs).bind _=some (e,ys)from h)
 obtain⟨_,_,zs,hz⟩:=dV hp (show mk env P xs=some (r.1,r.2)from h1)
 cases hc:(r.2==t)with
 |false=>rw[hc]at h2;cases h2
 |true =>
  rw[hc]at h2
  obtain⟨rfl,rfl⟩:=Prod.mk.inj (Option.some.inj h2)
  exact⟨by rw[hz];exact lp hv,sO.refl _⟩
theorem lS:∀{P:nD}{env e:List Int}{xs ys:List ab}{t:Int},zA env→d9 xs env=true→aS xs=true→cD xs t=true→dy P env xs t=some (e,ys)→d9 ys e=true∧sO env e
 | .name c,env,e,xs,ys,t,hE,hv,hp,ht,h=>qT hp hv h
 | .var i,env,e,xs,ys,t,hE,hv,hp,ht,h=>qT hp hv h
 | .un k p,env,e,xs,ys,t,hE,hv,hp,ht,h=>qT hp hv h
 | .exp p q,env,e,xs,ys,t,hE,hv,hp,ht,h=>qT hp hv h
 | .ask i,env,e,xs,ys,t,hE,hv,hp,ht,h=>by
  have h:(bif decide (env.getD i.toNat 0<0)then some (env.set i.toNat t,xs)else bif env.getD i.toNat 0==t then some (env,xs)else none)=some (e,ys):=h
  by_cases hn:env.getD i.toNat 0<0
  ·rw[decide_eq_true hn]at h
   obtain⟨rfl,rfl⟩:=Prod.mk.inj (Option.some.inj h)
   refine⟨ru ht _ hv,fun j hj=>?_⟩
   have hij:i.toNat≠j:=fun q=>by
    rw[←q]at hj
    exact hj (hE.2 _ hn)
   rw[List.getD_eq_getElem?_getD,List.getD_eq_getElem?_getD,List.getElem?_set_ne hij]
  ·rw[decide_eq_false hn]at h
   cases hc:(env.getD i.toNat 0==t)with
   |false=>rw[hc]at h;cases h
   |true =>
    rw[hc]at h
    obtain⟨rfl,rfl⟩:=Prod.mk.inj (Option.some.inj h)
    exact⟨hv,sO.refl _⟩
 | .bin k p q,env,e,xs,ys,t,hE,hv,hp,ht,h=>by
  have h:(bif k==2 then(bif (nd xs t).1==2 then(dy p env xs (nd xs t).2.1).bind fun r=>dy q r.1 r.2 (nd xs t).2.2 else none)
   else bif k==3 || k==4 then(bif (nd xs t).1==k then(dy q env xs (nd xs t).2.2).bind fun r=>dy p r.1 r.2 (nd xs t).2.1 else none)
   else Ij env (.bin k p q) xs t)=some (e,ys):=h
  cases h2:(k==2)with
  |true =>
   rw[h2,cond_true]at h
   cases h3:((nd xs t).1==2)with
   |false=>rw[h3]at h;cases h
   |true =>
    rw[h3,cond_true]at h
    obtain⟨k1,k2⟩:=EJ hp ht (.inl (by simpa using h3))
    obtain⟨r,h4,h5⟩:=Option.bind_eq_some_iff.1 h
    have h4:dy p env xs (nd xs t).2.1=some (r.1,r.2):=h4
    obtain⟨g1,g2,w,g3⟩:=eB hE hp k1 h4
    obtain⟨m1,m2⟩:=lS hE hv hp k1 h4
    obtain⟨m3,m4⟩:=lS g1 m1 g2 (by rw[g3];exact iQ k2) h5
    exact⟨m3,m2.trans m4⟩
  |false =>
   rw[h2,cond_false]at h
   cases h3:(k==3 || k==4)with
   |false=>rw[h3,cond_false]at h;exact qT hp hv h
   |true =>
    rw[h3,cond_true]at h
    cases h6:((nd xs t).1==k)with
    |false=>rw[h6]at h;cases h
    |true =>
     rw[h6,cond_true]at h
     have h7:(nd xs t).1=k:=by simpa using h6
     have h8:k=3∨k=4:=by simpa using h3
     obtain⟨k1,k2⟩:=EJ hp ht (by rw[h7];exact .inr h8)
     obtain⟨r,h4,h5⟩:=Option.bind_eq_some_iff.1 h
     have h4:dy q env xs (nd xs t).2.2=some (r.1,r.2):=h4
     obtain⟨g1,g2,w,g3⟩:=eB hE hp k2 h4
     obtain⟨m1,m2⟩:=lS hE hv hp k2 h4
     obtain⟨m3,m4⟩:=lS g1 m1 g2 (by rw[g3];exact iQ k1) h5
     exact⟨m3,m2.trans m4⟩
theorem pH{xs:List ab}{w p a b at_:Int}{env:List Int}{d dd:Bool}{key:Int}(hw:w=1∨w=2∨w=3) (hs:p=0∨p=1) (ha:0≤a∧a≤4) (hb:0≤b∧b≤4) (hab:a≠b) (hp:aS xs=true) (he:env.length=26) (hv:d9 xs env=true)
  (h0:0≤at_∧at_≤5) (hd:d=(at_==5)) (h1:d=true→dd=false∧cD xs key=true) (h2:d=false→key=-1):ji xs (w,p,a,b,at_,env,d,dd,key)=true:=by
 have hx:=c9 hp
 have h:=(se (xs:=xs) (by omega) (x:=(w,p,a,b,at_,env,d,dd,key)) (show env.length≤4294967296 by omega)).1
 dsimp only at h
 unfold fA at h
 obtain⟨r1,r2,r3⟩:=rL hw hs
 have hP:(decide (xs.length≤500)&&cm N0 [] xs)=true:=hp
 have k1:(decide (a≥0)&&decide (a≤4))=true:=by simp;omega
 have k2:(decide (b≥0)&&decide (b≤4))=true:=by simp;omega
 have k3:(a==b)=false:=by simpa using hab
 have k4:(decide (at_≥0)&&decide (at_≤((5:Nat):Int)))=true:=by simp;omega
 have k5:((at_==((5:Nat):Int)) != d)=false:=by
  rw[show(at_==((5:Nat):Int))=(at_==5)from rfl, ←hd]
  cases d<;>rfl
 simp only[th N0 n0 (show xs.length≤4294967296 by omega) (show env.length≤4294967296 by omega),rE,Option.bind_some,r1,d6,oF N0 (show xs.length≤4294967296 by omega),r3,Bool.not_true,cond_false,k1,k2,k3,hv,decide_eq_true he,hP,Bool.and_true,k4,k5]at h
 cases d with
 |true =>
  obtain⟨q1,q2⟩:=h1 rfl
  subst q1
  simp only[q2,cond_true,cond_false]at h
  exact(Option.some.inj h).symm
 |false =>
  have q:=h2 rfl
  subst q
  simp only[cond_false]at h
  exact(Option.some.inj h).symm
structure rF (xs:List ab) (at_ key:Int) (out:List Int) (ys:List ab) (at':Int) (env':List Int) (d' dd':Bool) (key':Int) (out':List Int):Prop where
 pool:aS ys=true
 len:env'.length=26
 few:out'.length≤5
 env:d9 ys env'=true
 grows:∃zs,ys=xs++zs
 on:at_≤at'
 most:at'≤5
 done:d'=(at'==5)
 key1:d'=true→dd'=false∧cD ys key'=true
 key0:d'=false→key'=key
 sent:∀v∈out',v∈out∨cD ys v=true
theorem rF.stay{xs:List ab}{at_ key:Int}{out env:List Int}{dd:Bool}(h0:at_<5) (hp:aS xs=true) (he:env.length=26) (hv:d9 xs env=true) (ho:out.length≤5):rF xs at_ key out xs at_ env false dd key out :=
 ⟨hp,he,ho,hv,⟨[],by simp⟩,Int.le_refl _,by omega,by rw[eq_comm,beq_eq_false_iff_ne];omega,fun q=>(by cases q),fun _=>rfl,fun v h => .inl h⟩
theorem rF.go{xs zs ys:List ab}{at_ at' key key2:Int}{out out2 env' out':List Int}{d' dd':Bool}{key':Int}(h:rF zs (at_+1) key2 out2 ys at' env' d' dd' key' out') (g:∃us,zs=xs++us) (hk:key2=key∨at_=4) (ho:∀v∈out2,v∈out∨cD zs v=true):rF xs at_ key out ys at' env' d' dd' key' out':=by
 obtain⟨us,rfl⟩:=g
 obtain⟨vs,hvs⟩:=h.grows
 refine⟨h.pool,h.len,h.few,h.env,⟨us++vs,by rw[hvs,List.append_assoc]⟩,by have:=h.on;omega,h.most,h.done,h.key1,fun q=>?_,fun v hv=>?_⟩
 ·rcases hk with e|e
  ·rw[←e];exact h.key0 q
  ·have q1:=h.done
   rw[q,show at'=5 by have:=h.on;have:=h.most;omega]at q1
   cases q1
 ·rcases h.sent v hv with q|q
  ·rcases ho v q with q|q
   ·exact .inl q
   ·exact .inr (by rw[hvs];exact iQ q)
  ·exact .inr q
abbrev bs (T:ByteArray):List UInt8:=T.data.toList
def MS:ByteArray:=⟨#[36,63,120]⟩
theorem KU (a:Int):0≤bits .and .i64 a 255∧bits .and .i64 a 255≤255:=by
 have h:((BitVec.ofInt 64 a) &&& (BitVec.ofInt 64 255)).toNat≤255:=by
  rw[BitVec.toNat_and]
  exact Nat.and_le_right
 have e:bits .and .i64 a 255=IntKind.i64.wrap (((BitVec.ofInt 64 a) &&& (BitVec.ofInt 64 255)).toNat:Int):=rfl
 rw[e,ar (by omega) (by omega)]
 omega
def Cu (b:List Int) (i:Int):Prop:=0≤i∧b.length≤4294967296
theorem ve (n:Nat){b:List Int}{i:Int}(h:Int) (hc:Cu b i):∃i' h' v,ff n (b,i,h)=some (b,i',h',v)∧Cu b i'∧0≤v∧v≤255:=by
 obtain⟨h0,h1⟩:=hc
 unfold ff
 dsimp only
 rw[decide_eq_true (show(0:Int)≤33 by decide),decide_eq_true (show(0:Int)≤45 by decide),cond_true,cond_true]
 by_cases hl:i<(b.length:Int)
 ·have e:i=((i.toNat:Nat):Int):=by omega
  have hin:aY i b.length=true:=by rw[e];exact au (by omega)
  rw[decide_eq_true hl,hin,cond_true,cond_true,ar (n:=i+1) (by omega) (by omega)]
  exact⟨_,_,_,rfl,⟨by omega,h1⟩,KU _⟩
 ·rw[decide_eq_false hl,cond_false]
  exact⟨_,_,_,rfl,⟨h0,h1⟩,KU _⟩
theorem Fm{x k:Int}(hx:0≤x) (hk:0<k):0≤x.tmod k∧x.tmod k<k:=by
 rw[Int.tmod_eq_emod_of_nonneg hx]
 exact⟨Int.emod_nonneg _ (by omega),Int.emod_lt_of_pos _ hk⟩
def Bel (k v:Int):Prop:=(k≤0∧v=0)∨(0≤v∧v<k)
theorem cr (n:Nat){b:List Int}{i:Int}(h k:Int) (hc:Cu b i):∃i' h' v,ah n (b,i,h,k)=some (b,i',h',v)∧Cu b i'∧Bel k v:=by
 unfold ah
 dsimp only
 by_cases h0:k≤0
 ·rw[decide_eq_true h0,cond_true]
  exact⟨_,_,_,rfl,hc, .inl ⟨h0,rfl⟩⟩
 ·have hk:(k != 0)=true:=by rw[bne_iff_ne];omega
  rw[decide_eq_false h0,cond_false]
  by_cases h1:k≤256
  ·rw[decide_eq_true h1,cond_true]
   obtain⟨i1,h1,v1,e1,c1,q1,q2⟩:=ve n h hc
   rw[e1,Option.bind_some]
   dsimp only
   rw[hk,cond_true]
   exact⟨_,_,_,rfl,c1, .inr (Fm q1 (by omega))⟩
  ·rw[decide_eq_false h1,cond_false]
   obtain⟨i1,h1,v1,e1,c1,p1,q1⟩:=ve n h hc
   rw[e1,Option.bind_some]
   dsimp only
   obtain⟨i2,h2,v2,e2,c2,p2,q2⟩:=ve n h1 c1
   rw[e2,Option.bind_some]
   dsimp only
   obtain⟨i3,h3,v3,e3,c3,p3,q3⟩:=ve n h2 c2
   rw[e3,Option.bind_some]
   dsimp only
   obtain⟨i4,h4,v4,e4,c4,p4,q4⟩:=ve n h3 c3
   rw[e4,Option.bind_some]
   dsimp only
   rw[hk,cond_true]
   have w1:IntKind.i64.wrap (v1*16777216)=v1*16777216:=ar (by omega) (by omega)
   have w2:IntKind.i64.wrap (v2*65536)=v2*65536:=ar (by omega) (by omega)
   have w3:IntKind.i64.wrap (v3*256)=v3*256:=ar (by omega) (by omega)
   have w4:IntKind.i64.wrap (v1*16777216+v2*65536)=v1*16777216+v2*65536:=ar (by omega) (by omega)
   have w5:IntKind.i64.wrap (v1*16777216+v2*65536+v3*256)=v1*16777216+v2*65536+v3*256:=ar (by omega) (by omega)
   have w6:IntKind.i64.wrap (v1*16777216+v2*65536+v3*256+v4)=v1*16777216+v2*65536+v3*256+v4:=ar (by omega) (by omega)
   rw[w1,w2,w3,w4,w5,w6]
   exact⟨_,_,_,rfl,c4, .inr (Fm (by omega) (by omega))⟩
theorem xz (n:Nat){b:List Int}{i:Int}(h k:Int) (hc:Cu b i):∃i' h' v,dR n (b,i,h,k)=some (b,i',h',v)∧Cu b i':=by
 unfold dR
 dsimp only
 obtain⟨i1,h1,v1,e1,c1,_⟩:=cr n h k hc
 rw[e1,Option.bind_some]
 exact⟨_,_,_,rfl,c1⟩
theorem Ep (n:Nat){b:List Int}{i:Int}(h:Int) (l:List Int) (hl:l≠[]) (hc:Cu b i):∃i' h' v,ie n (b,i,h,l)=some (b,i',h',v)∧Cu b i'∧v∈l:=by
 unfold ie
 dsimp only
 obtain⟨i1,h1,v1,e1,c1,hb⟩:=cr n h (l.length:Int) hc
 have hpos:0<l.length:=List.length_pos_iff.2 hl
 rw[e1,Option.bind_some]
 dsimp only
 have hv:0≤v1∧v1<(l.length:Int):=by
  rcases hb with⟨q,_⟩|q
  ·omega
  ·exact q
 have e:v1=((v1.toNat:Nat):Int):=by omega
 have hin:aY v1 l.length=true:=by rw[e];exact au (by omega)
 rw[hin,cond_true]
 refine⟨_,_,_,rfl,c1,?_⟩
 rw[List.getD_eq_getElem?_getD,List.getElem?_eq_getElem (by omega),Option.getD_some]
 exact List.getElem_mem _
theorem C3{b:List Int}(hb:b.length≤4294967296):∀(m:Nat) (h:Int) (j:Nat),4001<m+j→j≤4000→∃h',di N0 m (b,h,(j:Int))=some (b,h')
 |0,h,j,hm,hj=>by omega
 |m+1,h,j,hm,hj=>by
  unfold di
  dsimp only
  by_cases h1:j<b.length
  ·rw[decide_eq_true (show(j:Int)<(b.length:Int)by omega),cond_true]
   by_cases h2:j<4000
   ·rw[decide_eq_true (show(j:Int)<4000 by omega),cond_true,au h1,cond_true,ar (n:=(j:Int)+1) (by omega) (by omega),show(j:Int)+1=((j+1:Nat):Int)by omega]
    exact C3 hb m _ (j+1) (by omega) (by omega)
   ·rw[decide_eq_false (show ¬(j:Int)<4000 by omega),cond_false]
    exact⟨_,rfl⟩
  ·rw[decide_eq_false (show ¬(j:Int)<(b.length:Int)by omega),cond_false]
   exact⟨_,rfl⟩
theorem OD{b:List Int}(hb:b.length≤4294967296):∃h,mX N0 b=some (false,b,(0:Int),h)∧Cu b 0:=by
 unfold mX
 have:=n0
 obtain⟨h',e⟩:=C3 hb N0 (IntKind.i64.wrap ((12241:Int)+(b.length:Int))) 0 (by omega) (by omega)
 rw[show((0:Nat):Int)=(0:Int)from rfl]at e
 rw[e,Option.bind_some]
 exact⟨_,rfl,by decide,hb⟩
theorem FV{a:Int}{n m:Nat}(h:aY a n=true) (hm:n≤m):aY a m=true:=by
 unfold aY at h ⊢
 simp at h ⊢
 omega
theorem FU{a:Int}{n:Nat}(h:aY a n=true):0≤a∧a.toNat<n:=by
 unfold aY at h
 simp at h
 omega
theorem Du {α:Type}{l x:List α}{i:Nat}(h:i<l.length) (d:α):(l++x).getD i d=l.getD i d:=by
 rw[List.getD_eq_getElem?_getD,List.getD_eq_getElem?_getD,List.getElem?_append_left h]
theorem si{l1 x1:List gG}{l2 x2:List fZ}:∀{k k':Nat}{a b:Int}{P:nD},nH l1 l2 k a b=some P→k≤k'→nH (l1++x1) (l2++x2) k' a b=some P
 |0,k',a,b,P,h,_=>by cases h
 |k+1,0,a,b,P,h,hk=>by omega
 |k+1,k'+1,a,b,P,h,hk=>by
  obtain⟨h1,h2,hc⟩:=sg h
  have g1:=(FU h1).2
  have g2:=(FU h2).2
  unfold nH
  rw[FV h1 (by simp),FV h2 (by simp),Bool.and_true,cond_true,Du g1,Du g2]
  rcases hc with⟨hps,hl⟩|⟨p,Q,hps,q1,q2⟩|⟨p,q,Q,R,hps,q1,q2,q3⟩
  ·rw[hps];exact hl
  ·rw[hps]
   dsimp only
   rw[si q1 (by omega),Option.bind_some]
   exact q2
  ·rw[hps]
   dsimp only
   rw[si q1 (by omega),Option.bind_some,si q2 (by omega),Option.bind_some]
   exact q3
theorem FQ {α:Type}(l:List α) (x d:α):(l++[x]).getD (((l++[x]).length:Int)-1).toNat d=x∧aY (((l++[x]).length:Int)-1) (l++[x]).length=true:=by
 have e:(((l++[x]).length:Int)-1).toNat=l.length:=by rw[uu];omega
 have e2:((l++[x]).length:Int)-1=(l.length:Int):=by rw[uu];omega
 refine⟨by rw[e];exact FZ l [] x d,?_⟩
 rw[e2]
 exact au (by simp)
theorem KH{l1:List gG}{l2:List fZ}{k:Nat}{s c p kd A B:Int}{P Q:nD}{u:Bool}(h:nH l1 l2 k p A=some Q) (h2:Eu (s,(c,[p])) (kd,(A,(B,u))) Q=some P) :
  nH (l1++[(s,(c,[p]))]) (l2++[(kd,(A,(B,u)))]) (k+1) (((l1++[(s,(c,[p]))]).length:Int)-1) (((l2++[(kd,(A,(B,u)))]).length:Int)-1)=some P:=by
 obtain⟨a1,a2⟩:=FQ l1 (s,(c,[p])) zP
 obtain⟨b1,b2⟩:=FQ l2 (kd,(A,(B,u))) zS
 unfold nH
 rw[a2,b2,a1,b1]
 dsimp only
 rw[Bool.and_true,cond_true,si h (Nat.le_refl _),Option.bind_some]
 exact h2
abbrev RdO:=ByteArray×Int×Int×ByteArray×Bool×Bool×Bool×List gG×Int
abbrev PsO:=List fZ×Int×Int×Bool
def nD.lets:nD→List Int
 | .ask i=>[i]
 | .un _ p=>p.lets
 | .bin _ p q=>p.lets++q.lets
 | .exp p q=>p.lets++q.lets
 |_=>[]
def yq (l:List gG):List Int:=l.flatMap fun x=>bif x.1==63 then [x.2.1]else []
def yp (l:List fZ):List Int:=l.flatMap fun y=>bif y.1==9&&y.2.2.2 then [y.2.1]else []
theorem Is (a b:List gG):yq (a++b)=yq a++yq b:=List.flatMap_append
theorem Iq (a b:List fZ):yp (a++b)=yp a++yp b:=List.flatMap_append
theorem Ir (x:gG):yq [x]=bif x.1==63 then [x.2.1]else []:=by show _++[]=_;rw[List.append_nil]
theorem Ip (y:fZ):yp [y]=bif y.1==9&&y.2.2.2 then [y.2.1]else []:=by show _++[]=_;rw[List.append_nil]
theorem Ib{x:gG}{y:fZ}{P Q:nD}(h:Eu x y Q=some P):yq [x]=[]∧yp [y]=[]∧P.lets=Q.lets:=by
 rw[Ir,Ip]
 obtain⟨⟨_,_,c3⟩,_,_,c4,_,rfl⟩:=pz h
 rw[c3,show(y.1==9)=false from by rw[beq_eq_false_iff_ne];omega]
 exact⟨rfl,rfl,rfl⟩
def Tz (T:ByteArray) (i:Nat):List Int:=bif bt T (i:Int)==63 then [bt T ((i:Int)+1)-97]else []
def D7 (T:ByteArray) (a b:Nat):List Int:=(List.range' a (b-a)).flatMap (Tz T)
theorem JD{T:ByteArray}{a b c:Nat}(h1:a≤b) (h2:b≤c):D7 T a c=D7 T a b++D7 T b c:=by
 unfold D7
 rw[←List.flatMap_append]
 congr 1
 have:=List.range'_append (s:=a) (m:=b-a) (n:=c-b) (step:=1)
 rw[show a+1*(b-a)=b by omega,show b-a+(c-b)=c-a by omega]at this
 exact this.symm
def Wp (T:ByteArray) (a:Nat) (l1:List gG) (l2:List fZ) (ri:Option RdO) (rs:Option PsO):Prop :=
 (∃(a':Nat) (l1':List gG) (l2':List fZ) (k:Nat) (P:nD),ri=some (T,(a':Int),(0:Int),MS,false,false,false,l1',(l1'.length:Int)-1)∧rs=some (l2',(l2'.length:Int)-1,(a':Int),true)∧a<a'∧a'≤T.size∧l1'.length=l2'.length∧l1'.length+a≤l1.length+a' ∧
  (∃x,l1'=l1++x∧yq x=P.lets∧D7 T a a'=P.lets)∧(∃y,l2'=l2++y∧yp y=P.lets)∧k+a≤a'∧nH l1' l2' k ((l1'.length:Int)-1) ((l2'.length:Int)-1)=some P) ∨
 (∃a2 c l1' v l2',ri=some (T,a2,c,MS,false,false,false,l1',v)∧c≠0∧rs=some (l2',(0:Int),(0:Int),false))
theorem Kx {α:Type}(l:List α) (x:α):(((l++[x]).length:Int)-1)=(l.length:Int):=by rw[uu];omega
theorem Wp.one{T:ByteArray}{a b:Nat}{l1 m1:List gG}{l2 m2:List fZ}{s kd:Int}{k:Nat}{P Q:nD}(h1:a<b) (h2:b≤T.size) (hl:m1.length=m2.length) (hb:m1.length+a<l1.length+b){f:Nat}(hf:a≤f) (hfb:f≤b) (hsc:D7 T a f=[]) (g1:∃x,m1=l1++x∧yq x=Q.lets∧D7 T f b=Q.lets) (g2:∃y,m2=l2++y∧yp y=Q.lets) (hk:k+a<b)
  (hd:nH m1 m2 k ((m1.length:Int)-1) ((m2.length:Int)-1)=some Q) (hp:Eu (s,(0,[(m1.length:Int)-1])) (kd,((m2.length:Int)-1,(0,Q.asks))) Q=some P) :
  Wp T a l1 l2 (some (T,(b:Int),(0:Int),MS,false,false,false,m1++[(s,(0,[(m1.length:Int)-1]))],((m1++[(s,(0,[(m1.length:Int)-1]))]).length:Int)-1)) (some (m2++[(kd,((m2.length:Int)-1,(0,Q.asks)))],(m2.length:Int),(b:Int),true)):=by
 obtain⟨x,rfl,gx,gs⟩:=g1
 obtain⟨y,rfl,gy⟩:=g2
 obtain⟨e1,e2,e3⟩:=Ib hp
 exact .inl ⟨b,_,_,k+1,P,rfl,by rw[Kx],h1,h2,by simp at hl ⊢;omega,by rw[List.length_append,List.length_singleton];omega,⟨_,List.append_assoc ..,by rw[Is,gx,e1,e3,List.append_nil],by rw[JD hf hfb,hsc,gs,e3,List.nil_append]⟩,⟨_,List.append_assoc ..,by rw[Iq,gy,e2,e3,List.append_nil]⟩,by omega,KH hd hp⟩
section
variable{T:ByteArray}{a:Nat}{c:UInt8}{r:List UInt8}{l1:List gG}{l2:List fZ}{i1 i2 n:Nat}
end
section
variable{T:ByteArray}{a:Nat}{c:UInt8}{r:List UInt8}{l1:List gG}{l2:List fZ}{i1 i2 n:Nat}
end
def nD.plain:nD→nD
 | .ask i => .var i
 | .un k p => .un k p.plain
 | .bin k p q => .bin k p.plain q.plain
 | .exp p q => .exp p.plain q.plain
 |p=>p
theorem Kj{xs:List ab}{ys:List ab}{t:Int}{a:Int}(hp:aS xs=true) (h0:0≤a) (h1:a≤199):ge N0 (1,a,0,(xs.length:Int))=true:=by
 have hr:∀v lo hi:Int,aD N0 (v,lo,hi)=some (decide (v≥lo)&&decide (v≤hi)):=fun v lo hi=>by
  unfold aD
  cases q:decide (v≥lo)<;>(simp[q])
 show(cj N0 (1,a,0,(xs.length:Int))).getD false=true
 unfold cj
 dsimp only
 rw[hr,show dK N0 1=some 0 from rfl]
 simp only[Option.bind_some,beq_self_eq_true,cond_true,decide_eq_true h0,decide_eq_true h1,Bool.and_self]
 rfl
theorem D9 {α:Type}{xs:List α}(h:xs.length≤1000){k:α}:aR (xs.length+[k].length)=true:=by
 unfold aR;rw[List.length_singleton];exact decide_eq_true (by omega)
theorem w8:∀(m:Nat) (l:List Int),l.length≤26→26<m+l.length→∃e,cA N0 m (l,(l.length:Int))=some e∧e.length=26∧((∀v∈l,v=-1)→∀v∈e,v=-1)
 |0,l,h,hm=>by omega
 |m+1,l,h,hm=>by
  unfold cA
  dsimp only
  by_cases hq:l.length<26
  ·rw[decide_eq_true (show(l.length:Int)<26 by omega),cond_true,D9 (by omega),cond_true,ar (n:=(l.length:Int)+1) (by omega) (by omega), ←uu l (-1)]
   obtain⟨e,e1,e2,e3⟩:=w8 m (l++[-1]) (by simp;omega) (by simp;omega)
   refine⟨e,e1,e2,fun hl=>e3 fun v hv=>?_⟩
   rcases List.mem_append.1 hv with q|q
   ·exact hl v q
   ·exact List.mem_singleton.1 q
  ·rw[decide_eq_false (show ¬(l.length:Int)<26 by omega),cond_false]
   exact⟨l,rfl,by omega,fun h=>h⟩
theorem IM:∃e,lQ N0 ()=some e∧e.length=26∧∀v∈e,v=-1:=by
 unfold lQ
 have:=n0
 obtain⟨e,e1,e2,e3⟩:=w8 N0 [] (by simp) (by omega)
 have e1:cA N0 N0 (([]:List Int),(0:Int))=some e:=e1
 rw[e1,Option.bind_some]
 exact⟨e,rfl,e2,e3 (fun v hv=>by cases hv)⟩
theorem gD (a b:ByteArray):(a++b).size=a.size+b.size:=ByteArray.size_append
theorem sT (l:List Int):(mS l).size=l.length:=by
 show(l.map _).toArray.size=_
 rw[List.size_toArray,List.length_map]
theorem Aa:∀(k m:Nat) (x:Int) (s:ByteArray),0≤x→x≤1000000→x<10 ^ k→k<m→s.size+k≤1000→∃r,cM N0 m (x,s)=some r∧r.size≤s.size+k
 |_,0,x,s,_,_,_,h,_=>by omega
 |0,m+1,x,s,h0,hx,h1,hm,hs=>by
  unfold cM
  dsimp only
  rw[decide_eq_false (show ¬x>0 by have:(10:Int) ^ 0=1:=rfl;omega),cond_false]
  exact⟨s,rfl,by omega⟩
 |k+1,m+1,x,s,h0,hx,h1,hm,hs=>by
  unfold cM
  dsimp only
  by_cases hq:x>0
  ·rw[decide_eq_true hq,cond_true,show((10:Int) != 0)=true from rfl,cond_true,la (by rw[sT,List.length_singleton];omega),cond_true,cond_true]
   have hd:x.tdiv 10=x / 10:=Int.tdiv_eq_ediv_of_nonneg h0
   have h2:x / 10<10 ^ k:=by
    rw[Int.pow_succ]at h1
    omega
   rw[hd,ar (n:=x / 10) (by omega) (by omega)]
   obtain⟨r,e1,e2⟩:=Aa k m (x / 10) (mS [(IntKind.u8.wrap (IntKind.i64.wrap ((48:Int)+(x.tmod (10:Int)))))]++s) (by omega) (by omega) h2 (by omega) (by rw[gD,sT,List.length_singleton];omega)
   exact⟨r,e1,by rw[gD,sT,List.length_singleton]at e2;omega⟩
  ·rw[decide_eq_false hq,cond_false]
   exact⟨s,rfl,by omega⟩
theorem GH{xs:List ab}{w p a b at_:Int}{env:List Int}{d dd:Bool}{key t:Int}(hx:xs.length≤4294967296) (he:env.length≤4294967296) (h:ji xs (w,p,a,b,at_,env,d,dd,key)=true) :
  ∃ys at' e d' dd' ok,cS N0 (xs,w,p,a,b,at_,env,d,dd,key,t)=some (ys,w,p,a,b,at',e,d',dd',key,ok)∧ji ys (w,p,a,b,at',e,d',dd',key)=true∧e.length=26∧aS ys=true∧∃zs,ys=xs++zs:=by
 have hg:=BJ hx (x:=(w,p,a,b,at_,env,d,dd,key)) he h
 have g1:w=1∨w=2∨w=3:=hg.way
 have g2:p=0∨p=1:=hg.side
 have g3:d9 xs env=true:=hg.env
 have g4:env.length=26:=hg.len
 have g5:0≤at_∧at_≤5:=hg.at0
 have g6:d=(at_==5):=hg.done
 have hp:=hg.pool
 obtain⟨r1,r2,r3⟩:=rL g1 g2
 have no:cS N0 (xs,w,p,a,b,at_,env,d,dd,key,t)=some (xs,w,p,a,b,at_,env,d,dd,key,false) →
   ∃ys at' e d' dd' ok,cS N0 (xs,w,p,a,b,at_,env,d,dd,key,t)=some (ys,w,p,a,b,at',e,d',dd',key,ok)∧ji ys (w,p,a,b,at',e,d',dd',key)=true∧e.length=26∧aS ys=true∧∃zs,ys=xs++zs:=fun q=>⟨_,_,_,_,_,_,q,h,g4,hp,[],by simp⟩
 cases d with
 |true =>
  refine no ?_
  unfold cS cR
  simp only[Option.bind_some,Bool.not_true,cond_false,cond_true]
 |false =>
  cases dd with
  |true =>
   refine no ?_
   unfold cS cR
   simp only[Option.bind_some,Bool.not_true,cond_false,cond_true]
  |false =>
   have a5:at_≠5:=fun q=>by rw[q]at g6;exact absurd g6 (by decide)
   have hin:aY at_ 5=true:=by
    have e:at_=((at_.toNat:Nat):Int):=by omega
    rw[e];exact au (by omega)
   obtain⟨hA,hact⟩:=Fr g1 g2 (i:=at_.toNat) (by omega) _ rfl
   have hh:=vO N0 hx t
   revert hA hact
   generalize hAA:(qK w p).getD at_.toNat ((0:Int),(⟨#[]⟩:ByteArray))=A
   intro hA hact
   cases hk:(A.1 != 3)with
   |true =>
    refine no ?_
    unfold cS cR eZ ju
    simp only[hh,Option.bind_some,Bool.not_true,cond_false,cond_true,r2,r3,hin,hAA,hk]
    cases cD xs t<;>simp only[Bool.not_true,Bool.not_false,cond_false,cond_true,Option.bind_some,r2,r3,hin,hAA,hk]
   |false =>
    have hk3:A.1=3:=by simpa using hk
    have hT:∃P,xg A.2 P:=by
     rcases hact with⟨h,_⟩|⟨_,h⟩|⟨h,_⟩
     ·omega
     ·exact h
     ·omega
    obtain⟨P,hP⟩:=hT
    cases ht:cD xs t with
    |false =>
     refine no ?_
     unfold cS cR
     simp only[hh,ht,Option.bind_some,Bool.not_true,Bool.not_false,cond_false,cond_true]
    |true =>
     rw[ht]at hh
     obtain⟨l2,e,ys,c,q1,q2,q3⟩:=EG hP hp g4 g3 ht
     cases hM:dy P env xs t with
     |none =>
      rw[hM]at q3
      have q3:c=false:=q3
      subst q3
      refine no ?_
      unfold cS eZ jt
      simp only[hh,r2,r3,hin,hAA,hk,q1,q2,Option.bind_some,Bool.not_true,Bool.not_false,cond_false,cond_true]
     |some s =>
      rw[hM]at q3
      obtain⟨q3,q4⟩:=(q3:(e,ys)=s∧c=true)
      subst q3;subst q4
      obtain⟨f1,f2,f3⟩:=eB ⟨g4,rz g3⟩ hp ht hM
      obtain⟨f4,f5⟩:=lS ⟨g4,rz g3⟩ g3 hp ht hM
      have n4:at_.toNat≠4:=fun q=>by have:=hA.2 q;omega
      have wa:IntKind.i64.wrap (at_+(1:Int))=at_+1:=ar (by omega) (by omega)
      refine⟨ys,at_+1,e,false,false,true,?_,pH g1 g2 hg.me hg.peer hg.ne f2 f1.1 f4 ⟨by omega,by omega⟩ (by rw[eq_comm,beq_eq_false_iff_ne];omega) (fun q=>by cases q) (fun _=>hg.no rfl),f1.1,f2,f3⟩
      unfold cS eZ iH
      simp only[hh,r2,r3,hin,hAA,hk,q1,q2,wa,Option.bind_some,Bool.not_true,Bool.not_false,cond_false,cond_true]
theorem Kk{xs:List ab}(hp:aS xs=true) (hl:xs.length<490){v:Int}(h0:0≤v) (h1:v≤199):∃ys t,bM N0 (xs,v)=some (ys,t)∧jm xs 1 v 0=some (ys,t)∧ys.length≤xs.length+1:=by
 have hn:=Kj (ys:=[]) (t:=0) hp h0 h1
 have ha:∃ys t,jm xs 1 v 0=some (ys,t)∧ys.length≤xs.length+1:=by
  show ∃ys t,B8 xs (1,v,0)=some (ys,t)∧_
  unfold B8
  dsimp only
  rw[hn,cond_true]
  cases hf:wS xs (1,v,0)with
  |some j=>exact⟨_,_,rfl,by omega⟩
  |none =>
   dsimp only
   rw[if_neg (by omega)]
   exact⟨_,_,rfl,by simp⟩
 obtain⟨ys,t,e,l⟩:=ha
 refine⟨ys,t,?_,e,l⟩
 unfold bM
 dsimp only
 rw[ir hp,e];rfl
theorem GV{i:Nat}{t:Int}(h0:0≤t) (h1:t<(i:Int)) (hi:i≤4294967296):ge N0 (7,t,0,(i:Int))=true:=by
 have w:IntKind.i64.wrap ((i:Int)-(1:Int))=(i:Int)-1:=ar (by omega) (by omega)
 have hr:∀v lo hi:Int,aD N0 (v,lo,hi)=some (decide (v≥lo)&&decide (v≤hi)):=fun v lo hi=>by
  unfold aD
  cases q:decide (v≥lo)<;>(simp[q])
 show(cj N0 (7,t,0,(i:Int))).getD false=true
 unfold cj
 dsimp only
 rw[w,hr,hr,hr,show dK N0 7=some 1 from rfl]
 simp only[Option.bind_some,show((1:Int)==0)=false from rfl,beq_self_eq_true,cond_true,cond_false,decide_eq_true (show t≥0 by omega),decide_eq_true (show t≤(i:Int)-1 by omega),Bool.and_self]
 rfl
theorem GX{xs:List ab}(hp:aS xs=true) (hl:xs.length<490){t:Int}(ht:cD xs t=true):∃ys u,aV N0 (xs,(7:Int),t,(0:Int))=some (ys,u)∧jm xs 7 t 0=some (ys,u)∧ys.length≤xs.length+1:=by
 rw[eN]at ht
 have hn:=GV ht.1 ht.2 (by omega)
 have ha:∃ys t',jm xs 7 t 0=some (ys,t')∧ys.length≤xs.length+1:=by
  show ∃ys t',B8 xs (7,t,0)=some (ys,t')∧_
  unfold B8
  dsimp only
  rw[hn,cond_true]
  cases hf:wS xs (7,t,0)with
  |some j=>exact⟨_,_,rfl,by omega⟩
  |none =>
   dsimp only
   rw[if_neg (by omega)]
   exact⟨_,_,rfl,by simp⟩
 obtain⟨ys,u,e,l⟩:=ha
 refine⟨ys,u,?_,e,l⟩
 rw[ir hp,e];rfl
def xl:List Int:=[(109:Int),(112:Int),(115:Int),(113:Int),(107:Int),(116:Int),(117:Int)]
theorem Mb:∀j:Nat,j<7→97≤xl.getD j 0∧xl.getD j 0≤122:=by decide
theorem lZ{xs ys:List ab}{kd a b t:Int}(hp:aS xs=true) (h:jm xs kd a b=some (ys,t)):aS ys=true∧cD ys t=true∧∃zs,ys=xs++zs:=by
 obtain⟨⟨g1,g2,g3⟩,g4⟩:=d7 hp h
 exact⟨g1,eN.2 ⟨g2,g4⟩,g3⟩
theorem od{xs0:List ab}{w p a b:Int}{ns:List Int}(hns:ns.length=7) (hin:∀j:Nat,j<7→0≤ns.getD j 0∧ns.getD j 0≤199):∀(m j:Nat) (xs:List ab) (env:List Int),j≤7→7<m+j→aS xs=true→xs.length+2*(7-j)≤480→env.length=26→d9 xs env=true →
  ∃ys e,bA N0 m (xs0,[],(0:Int),(0:Int),(0:Int),(0:Int),(0:Int),[],false,false,(0:Int),w,p,a,b,(0:Int),env,false,false,(-1:Int),ns,xl,xs,(j:Int))=some (Sum.inr ([],(0:Int),(0:Int),(0:Int),(0:Int),(0:Int),[],false,false,(0:Int),w,p,a,b,(0:Int),e,false,false,(-1:Int),ys))∧aS ys=true∧ys.length≤xs.length+2*(7-j)∧e.length=26∧d9 ys e=true∧∃zs,ys=xs++zs
 |0,j,xs,env,hj,hm,_,_,_,_=>by omega
 |m+1,j,xs,env,hj,hm,hp,hl,he,hv=>by
  unfold bA
  dsimp only
  by_cases hq:j<7
  ·obtain⟨n1,n2⟩:=hin j hq
   obtain⟨l1,l2⟩:=Mb j hq
   have hll:xl.length=7:=rfl
   have hi2:aY (j:Int) xl.length=true:=au (by omega)
   have wj:IntKind.i64.wrap ((j:Int)+1)=((j+1:Nat):Int):=by rw[ar (by omega) (by omega)];omega
   have hw:=(ZA l1 l2).2
   have hie:aY (xl.getD j 0-97) env.length=true:=by
    rw[show xl.getD j 0-97=(((xl.getD j 0-97).toNat:Nat):Int)by omega]
    exact au (by omega)
   obtain⟨ys,t,e1,e2,e3⟩:=Kk hp (by omega) n1 n2
   obtain⟨p1,h1,zs,hz⟩:=lZ hp e2
   have hv1:d9 ys env=true:=by rw[hz];exact lp hv
   have t0:=(eN.1 h1).1
   rw[decide_eq_true (show(j:Int)<(ns.length:Int)by omega),cond_true]
   unfold iK
   dsimp only
   rw[au (show j<ns.length by omega),cond_true,Int.toNat_natCast,e1,Option.bind_some,Option.bind_some]
   dsimp only
   rw[decide_eq_true (show t≥0 by omega),cond_true,hi2,cond_true,Int.toNat_natCast,hw,hie,wj]
   cases(xl.getD j 0==117)with
   |true =>
    obtain⟨us,u,f1,f2,f3⟩:=GX p1 (by omega) h1
    obtain⟨p2,h2,ws,hw2⟩:=lZ p1 f2
    have u0:=(eN.1 h2).1
    have hv2:d9 us env=true:=by rw[hw2];exact lp hv1
    rw[cond_true,f1,Option.bind_some]
    dsimp only
    rw[decide_eq_false (show ¬u<0 by omega),cond_false,cond_true,cond_true]
    obtain⟨vs,e,k1,k2,k3,k4,k5,ks,k6⟩:=od hns hin m (j+1) us (env.set (xl.getD j 0-97).toNat u) (by omega) (by omega) p2 (by omega) (by rw[List.length_set];exact he) (ru h2 _ hv2)
    exact⟨vs,e,k1,k2,by omega,k4,k5,zs++(ws++ks),by rw[k6,hw2,hz,List.append_assoc,List.append_assoc]⟩
   |false =>
    rw[cond_false,decide_eq_false (show ¬t<0 by omega),cond_false,cond_true,cond_true]
    obtain⟨vs,e,k1,k2,k3,k4,k5,ks,k6⟩:=od hns hin m (j+1) ys (env.set (xl.getD j 0-97).toNat t) (by omega) (by omega) p1 (by omega) (by rw[List.length_set];exact he) (ru h1 _ hv1)
    exact⟨vs,e,k1,k2,by omega,k4,k5,zs++ks,by rw[k6,hz,List.append_assoc]⟩
  ·rw[decide_eq_false (show ¬(j:Int)<(ns.length:Int)by omega),cond_false]
   exact⟨xs,env,rfl,hp,by omega,he,hv,[],by simp⟩
theorem DA{xs:List ab}:∀{e:List Int},(∀v∈e,v=-1)→d9 xs e=true
 |[],_=>rfl
 |v::e,h=>by
  show((v == -1 || cD xs v)&&d9 xs e)=true
  rw[h v (List.mem_cons_self ..),DA (fun u hu=>h u (List.mem_cons_of_mem _ hu))]
  rfl
theorem CA{w p:Int}(hw:w=1∨w=2∨w=3) (hp:p=0∨p=1):cT N0 (w,p)=some true:=by
 rcases hw with rfl|rfl|rfl<;>rcases hp with rfl|rfl
 all_goals kernel_rfl
theorem lq{a:Int}(h0:0≤a) (h1:a≤4):bj N0 a=some true:=by
 unfold bj
 rw[p5,decide_eq_true (show a≥0 by omega),decide_eq_true h1];rfl
theorem ta{a:Int}(h0:0≤a) (h1:a≤4):gj N0 a=some (50+a):=by
 unfold gj
 rw[lq h0 h1,Option.bind_some,Bool.not_true,cond_false,ar (by omega) (by omega)]
theorem mM{a:Int}(h0:0≤a) (h1:a≤4):dk N0 a=some (90+a):=by
 unfold dk
 rw[lq h0 h1,Option.bind_some,Bool.not_true,cond_false,ar (by omega) (by omega)]
theorem t7{a b:Int}(h0:0≤a) (h1:a≤4) (g0:0≤b) (g1:b≤4) (hab:a≠b):∃v,fP N0 (a,b)=some v∧0≤v∧v≤199:=by
 unfold fP ig pc
 dsimp only
 rw[lq h0 h1,lq g0 g1,show(a==b)=false from by rw[beq_eq_false_iff_ne];exact hab]
 simp only[Option.bind_some,Bool.not_true,cond_false]
 cases decide (a<b)with
 |true =>
  simp only[cond_true,Option.bind_some]
  cases decide (a>b)with
  |true=>simp only[cond_true,Option.bind_some];rw[ar (n:=5*a) (by omega) (by omega),ar (n:=60+5*a) (by omega) (by omega),ar (by omega) (by omega)];exact⟨_,rfl,by omega,by omega⟩
  |false=>simp only[cond_false,Option.bind_some];rw[ar (n:=5*a) (by omega) (by omega),ar (n:=60+5*a) (by omega) (by omega),ar (by omega) (by omega)];exact⟨_,rfl,by omega,by omega⟩
 |false =>
  simp only[cond_false,Option.bind_some]
  cases decide (a>b)with
  |true=>simp only[cond_true,Option.bind_some];rw[ar (n:=5*b) (by omega) (by omega),ar (n:=60+5*b) (by omega) (by omega),ar (by omega) (by omega)];exact⟨_,rfl,by omega,by omega⟩
  |false=>simp only[cond_false,Option.bind_some];rw[ar (n:=5*b) (by omega) (by omega),ar (n:=60+5*b) (by omega) (by omega),ar (by omega) (by omega)];exact⟨_,rfl,by omega,by omega⟩
theorem LX{xs:List ab}(hp:aS xs=true) (hl:xs.length≤400){w p a b:Int}(hw:w=1∨w=2∨w=3) (hs:p=0∨p=1) (a0:0≤a) (a1:a≤4) (b0:0≤b) (b1:b≤4) (hab:a≠b) :
  ∃ys e,ku N0 (xs,w,p,a,b)=some (ys,w,p,a,b,(0:Int),e,false,false,(-1:Int),true)∧ys.length≤xs.length+14∧e.length=26∧(∃zs,ys=xs++zs)∧ji ys (w,p,a,b,0,e,false,false, -1)=true:=by
 have hN:=n0
 have pS:=lR N0 n0 (xs:=xs) (by omega)
 have hP:(decide (xs.length≤500)&&cm N0 [] xs)=true:=hp
 rw[hP]at pS
 obtain⟨e0,q1,q2,q3⟩:=IM
 obtain⟨s,s1,s2,s3⟩:=t7 a0 a1 b0 b1 hab
 unfold ku
 dsimp only
 rw[pS]
 simp only[CA hw hs,lq a0 a1,lq b0 b1,show(a==b)=false from by rw[beq_eq_false_iff_ne];exact hab,q1,ta a0 a1,ta b0 b1,s1,mM a0 a1,mM b0 b1,Option.bind_some,Bool.not_true,cond_false]
 obtain⟨ys,e,k1,k2,k3,k4,k5,k6⟩:=od (xs0:=xs) (w:=w) (p:=p) (a:=a) (b:=b) (ns:=[a,b,50+a,50+b,s,90+a,90+b]) rfl (fun j hj=>by
  match j,hj with
  |0,_=>exact⟨a0,(show a≤199 by omega)⟩
  |1,_=>exact⟨b0,(show b≤199 by omega)⟩
  |2,_=>exact⟨(show 0≤50+a by omega),(show 50+a≤199 by omega)⟩
  |3,_=>exact⟨(show 0≤50+b by omega),(show 50+b≤199 by omega)⟩
  |4,_=>exact⟨s2,s3⟩
  |5,_=>exact⟨(show 0≤90+a by omega),(show 90+a≤199 by omega)⟩
  |6,_=>exact⟨(show 0≤90+b by omega),(show 90+b≤199 by omega)⟩
  |n+7,h=>omega) N0 0 xs e0 (by omega) (by omega) hp (by omega) q2 (DA q3)
 rw[show((0:Nat):Int)=(0:Int)from rfl]at k1
 unfold xl at k1
 rw[k1,Option.bind_some]
 dsimp only
 unfold iJ
 dsimp only
 have hyl:=c9 k2
 rw[u9 (xs:=ys) (by omega),Option.bind_some,Option.bind_some]
 exact⟨ys,e,rfl,by omega,k4,k6,pH hw hs ⟨a0,a1⟩ ⟨b0,b1⟩ hab k2 k4 k5 (by omega) rfl (fun q=>by cases q) (fun _=>rfl)⟩
def BM (n:Int):Int:=(fQ N0 n).getD 0
theorem IG (n:Int):fQ N0 n=some (BM n):=by
 unfold BM fQ
 rw[p5]
 simp only[Option.bind_some]
 cases(decide (n≥0)&&decide (n≤99))<;>rfl
structure NV (xs:List ab) (at_ key:Int) (out:List Int) (rs:Option (Zf⊕(Int×List ab×Int×Int×Int×Int×Int×List Int×Bool×Bool×Int×List ab×Int×Int×Int×Int×Int×List Int×Bool×Bool×Int×List Int))) (w p a b:Int):Prop where
 ex:∃es ys at' env' d' dd' key' out' nx,rs=some es∧XB es=(ys,w,p,a,b,at',env',d',dd',key',out',nx)∧rF xs at_ key out ys at' env' d' dd' key' out'
theorem uE{w p a b:Int}(hw:w=1∨w=2∨w=3) (hs:p=0∨p=1):∀(k:Nat) (at_:Int) (env:List Int) (key nx:Int) (xs:List ab) (out:List Int) (m2:Nat),at_+(k:Int)=5→0≤at_→aS xs=true→env.length=26→d9 xs env=true→(at_=5→cD xs key=true)→out.length+k≤5→k<m2 →
  NV xs at_ key out (ap N0 m2 (nx,xs,w,p,a,b,at_,env,(at_==5),false,key,[],(0:Int),(0:Int),(0:Int),(0:Int),(0:Int),[],false,false,(0:Int),out,qK w p)) w p a b
 |k,at_,env,key,nx,xs,out,0,h0,h1,hp,he,hv,hky,ho,hm2=>by omega
 |0,at_,env,key,nx,xs,out,m2+1,h0,h1,hp,he,hv,hky,ho,hm2=>by
  have e5:at_=5:=by omega
  subst e5
  have hl:=c9 hp
  refine⟨_,xs,5,env,true,false,key,out,nx,rfl,rfl,hp,he,by omega,hv,⟨[],by simp⟩,Int.le_refl _,Int.le_refl _,rfl,fun _=>⟨rfl,hky rfl⟩,fun q=>(by cases q),fun v h => .inl h⟩
 |k+1,at_,env,key,nx,xs,out,m2+1,h0,h1,hp,he,hv,hky,ho,hm2=>by
  have hl:=c9 hp
  have c5:(at_==5)=false:=by rw[beq_eq_false_iff_ne];omega
  have hin:aY at_ 5=true:=by
   have e:at_=((at_.toNat:Nat):Int):=by omega
   rw[e];exact au (by omega)
  obtain⟨_,_,r3⟩:=rL hw hs
  obtain⟨hA,hact⟩:=Fr hw hs (i:=at_.toNat) (by omega) _ rfl
  have w1:IntKind.i64.wrap (at_+1)=at_+1:=ar (by omega) (by omega)
  have rm:∀t:Int,aR (out.length+[t].length)=true:=fun t=>by
   unfold aR
   rw[List.length_singleton]
   simp
   omega
  revert hA hact
  generalize hAA:(qK w p).getD at_.toNat ((0:Int),(⟨#[]⟩:ByteArray))=A
  intro hA hact
  rw[c5]
  rcases hact with⟨k1,s1,s2,s3⟩|⟨k1,_⟩|⟨k1,P,hP,hAs⟩
  ·have k1':(A.1==1)=true:=by rw[k1];rfl
   have k3':(A.1==3)=false:=by rw[k1];rfl
   have k4':(A.1==4)=false:=by rw[k1];rfl
   have k2':(A.1==2)=false:=by rw[k1];rfl
   have n4:at_.toNat≠4:=fun q=>by have:=hA.2 q;omega
   have c6:(at_+1==5)=false:=by rw[beq_eq_false_iff_ne];omega
   have f2:=IG nx
   have nS:=jX hp (BM nx)
   cases hq:jm xs 1 (BM nx) 0 with
   |none =>
    rw[hq]at nS
    refine⟨.inl (xs,w,p,a,b,at_,env,false,true,key,out,nx),xs,at_,env,false,true,key,out,nx,?_,rfl,rF.stay (by omega) hp he hv (by omega)⟩
    rw[ap];dsimp only
    simp only[ij,dS,fN,r3,hin,hAA,k1',k2',k3',k4',f2,nS,oc,Bool.not_false,Bool.not_true,cond_true,cond_false,Option.bind_some,show decide ((-1:Int)<0)=true from rfl,show decide ((-1:Int)≥0)=false from rfl]
   |some s =>
    obtain⟨ys,t⟩:=s
    rw[hq]at nS
    obtain⟨⟨g1,g2,zs,g3⟩,g4⟩:=d7 hp hq
    have tb:cD ys t=true:=eN.2 ⟨g2,g4⟩
    obtain⟨u1,u2⟩:=ZA s2 s3
    have ib:aY (bt A.2 0-97) env.length=true:=yF he (by omega) (by omega)
    have sz:aY (0:Int) A.2.size=true:=by rw[s1];rfl
    have tn:decide (t<0)=false:=decide_eq_false (by omega)
    have tp:decide (t≥0)=true:=decide_eq_true (by omega)
    have ih:=uE (a:=a) (b:=b) hw hs k (at_+1) (env.set (bt A.2 0-97).toNat t) key (IntKind.i64.wrap (nx+1)) ys out m2 (by omega) (by omega) g1 (by rw[List.length_set];exact he) (ru tb _ (by rw[g3];exact lp hv)) (fun q=>by omega) (by omega) (by omega)
    rw[c6]at ih
    obtain⟨es,zs2,at',env',d',dd',key',out',nx',q2,q4,q5⟩:=ih
    refine⟨es,zs2,at',env',d',dd',key',out',nx',?_,q4,q5.go ⟨zs,g3⟩ (.inl rfl) (fun v h => .inl h)⟩
    rw[ap];dsimp only
    simp only[ij,dS,fN,r3,hin,hAA,k1',k2',k3',k4',f2,nS,oc,Bool.not_false,Bool.not_true,cond_true,cond_false,Option.bind_some,tn,tp,sz,u2,ib,w1,q2]
  ·have k1':(A.1==1)=false:=by rw[k1];rfl
   have k3':(A.1==3)=true:=by rw[k1];rfl
   refine⟨.inl (xs,w,p,a,b,at_,env,false,false,key,out,nx),xs,at_,env,false,false,key,out,nx,?_,rfl,rF.stay (by omega) hp he hv (by omega)⟩
   rw[ap];dsimp only
   simp only[fN,r3,hin,hAA,k1',k3',Bool.not_false,Bool.not_true,cond_true,cond_false,Option.bind_some]
  ·have k1':(A.1==1)=false:=by rcases k1 with e|e<;>rw[e]<;>rfl
   have k3':(A.1==3)=false:=by rcases k1 with e|e<;>rw[e]<;>rfl
   obtain⟨l2,ys,t,e1,e2,e3,e4⟩:=EH hP hp he hv
   have w2:IntKind.i64.wrap ((l2.length:Int)-1)=(l2.length:Int)-1:=ar (by omega) (by omega)
   have mo:cx N0 N0 (xs,env,l2,(l2.length:Int)-1)=some (env,ys,t):=by
    rw[og,e3];rfl
   cases hq:mk env P xs with
   |none =>
    rw[hq]at e4
    have e4:t=-1:=e4
    subst e4
    refine⟨.inl (xs,w,p,a,b,at_,env,false,true,key,out,nx),xs,at_,env,false,true,key,out,nx,?_,rfl,rF.stay (by omega) hp he hv (by omega)⟩
    rw[ap];dsimp only
    simp only[dS,r3,hin,hAA,k1',k3',e1,w2,mo,Bool.not_false,Bool.not_true,cond_true,cond_false,Option.bind_some,show decide ((-1:Int)<0)=true from rfl]
   |some s =>
    rw[hq]at e4
    have e4:(ys,t)=s:=e4
    subst e4
    obtain⟨g1,g2,zs,g3⟩:=dV hp hq
    have tn:decide (t<0)=false:=decide_eq_false (by omega)
    have tp:decide (t≥0)=true:=decide_eq_true (by omega)
    have hv':d9 ys env=true:=by rw[g3];exact lp hv
    rcases k1 with k1|k1
    ·have k4':(A.1==4)=false:=by rw[k1];rfl
     have k2':(A.1==2)=true:=by rw[k1];rfl
     have n4:at_.toNat≠4:=fun q=>by have:=hA.2 q;omega
     have c6:(at_+1==5)=false:=by rw[beq_eq_false_iff_ne];omega
     have ih:=uE (a:=a) (b:=b) hw hs k (at_+1) env key nx ys (out++[t]) m2 (by omega) (by omega) g1 he hv' (fun q=>by omega) (by rw[List.length_append,List.length_singleton];omega) (by omega)
     rw[c6]at ih
     obtain⟨es,zs2,at',env',d',dd',key',out',nx',q2,q4,q5⟩:=ih
     refine⟨es,zs2,at',env',d',dd',key',out',nx',?_,q4,q5.go ⟨zs,g3⟩ (.inl rfl) (fun v h=>(List.mem_append.1 h).imp id (fun h=>by rw[List.mem_singleton.1 h];exact Nr hP.fine hp he hv hq))⟩
     rw[ap];dsimp only
     simp only[r3,hin,hAA,k1',k2',k3',k4',e1,w2,mo,Bool.not_false,Bool.not_true,cond_true,cond_false,Option.bind_some,tn,tp,w1,rm t,q2]
    ·have k4':(A.1==4)=true:=by rw[k1];rfl
     have k2':(A.1==2)=false:=by rw[k1];rfl
     have n4:at_.toNat=4:=hA.1 k1
     have c6:(at_+1==5)=true:=by rw[beq_iff_eq];omega
     have ih:=uE (a:=a) (b:=b) hw hs k (at_+1) env t nx ys out m2 (by omega) (by omega) g1 he hv' (fun _=>Nr hP.fine hp he hv hq) (by omega) (by omega)
     rw[c6]at ih
     obtain⟨es,zs2,at',env',d',dd',key',out',nx',q2,q4,q5⟩:=ih
     refine⟨es,zs2,at',env',d',dd',key',out',nx',?_,q4,q5.go ⟨zs,g3⟩ (.inr (by omega)) (fun v h => .inl h)⟩
     rw[ap];dsimp only
     simp only[r3,hin,hAA,k1',k2',k3',k4',e1,w2,mo,Bool.not_false,Bool.not_true,cond_true,cond_false,Option.bind_some,tn,w1,q2]
theorem Kw{xs:List ab}{w p a b at_:Int}{env:List Int}{d dd:Bool}{key nx:Int}(hx:xs.length≤4294967296) (he:env.length≤4294967296) (hv:ji xs (w,p,a,b,at_,env,d,dd,key)=true) :
  ∃ys at' env' d' dd' key' out' nx',ld N0 (xs,w,p,a,b,at_,env,d,dd,key,nx)=some (ys,w,p,a,b,at',env',d',dd',key',out',nx')∧ji ys (w,p,a,b,at',env',d',dd',key')=true∧rF xs at_ key [] ys at' env' d' dd' key' out':=by
 have hg:=BJ hx (x:=(w,p,a,b,at_,env,d,dd,key)) he hv
 have g1:w=1∨w=2∨w=3:=hg.way
 have g2:p=0∨p=1:=hg.side
 have g3:d9 xs env=true:=hg.env
 have g4:env.length=26:=hg.len
 have g5:0≤at_∧at_≤5:=hg.at0
 have g6:d=(at_==5):=hg.done
 have hp:=hg.pool
 obtain⟨r1,r2,r3⟩:=rL g1 g2
 have cl:=EF (w:=w) (p:=p) (a:=a) (b:=b) (at_:=at_) (d:=d) (dd:=dd) (key:=key) he
 have hsz:=c9 hp
 have ends:NV xs at_ key [] (ap N0 N0 (nx,xs,w,p,a,b,at_,env,d,dd,key,[],(0:Int),(0:Int),(0:Int),(0:Int),(0:Int),[],false,false,(0:Int),[],qK w p)) w p a b:=by
  cases dd with
  |true =>
   have hd:d=false:=by
    cases d with
    |false=>rfl
    |true=>exact absurd (show true=false from hg.live rfl) (by decide)
   subst hd
   obtain⟨m,hm⟩:=n0s
   refine⟨.inr (nx,xs,w,p,a,b,at_,env,false,true,key,[],(0:Int),(0:Int),(0:Int),(0:Int),(0:Int),[],false,false,(0:Int),[]),xs,at_,env,false,true,key,[],nx,?_,rfl,rF.stay (by have:at_≠5:=fun q=>(by rw[q]at g6;cases g6);omega) hp g4 g3 (by simp)⟩
   rw[show ap N0 N0=ap N0 (m+1)from congrArg _ hm,ap];rfl
  |false =>
   have h:=uE (a:=a) (b:=b) g1 g2 (5-at_).toNat at_ env key nx xs [] N0 (by omega) g5.1 hp g4 g3 (fun q=>hg.key (by show d=true;rw[g6,q];rfl)) (by simp;omega) (by have:=n0;omega)
   rw[←g6]at h
   exact h
 obtain⟨es,ys,at',env',d',dd',key',out',nx',q2,q4,st⟩:=ends
 have go2:ld N0 (xs,w,p,a,b,at_,env,d,dd,key,nx)=some (ys,w,p,a,b,at',env',d',dd',key',out',nx'):=by
  unfold ld km
  simp only[cl,r2,Option.bind_some,q2]
  cases es with
  |inl x =>
   simp only[XB]at q4
   subst q4;rfl
  |inr x =>
   simp only[XB,Prod.mk.injEq]at q4
   obtain⟨z1,z2,z3,z4,z5,z6,z7,z8,z9,z10,z11,z12⟩:=q4
   simp only[z1,z2,z3,z4,z5,z6,z7,z8,z9,z10,z11,z12,Option.bind_some]
 have hno:d=false→key=-1:=fun q=>hg.no q
 exact⟨ys,at',env',d',dd',key',out',nx',go2,pH g1 g2 hg.me hg.peer hg.ne st.pool st.len st.env ⟨by have:=st.on;omega,st.most⟩ st.done st.key1 (fun q=>(st.key0 q).trans (hno (by
   rw[g6,beq_eq_false_iff_ne]
   have:=st.done
   rw[q,eq_comm,beq_eq_false_iff_ne]at this
   have:=st.on
   have:=st.most
   omega))),st⟩
end AM
end Go.Proofs.YtpgigedclifoeaaGreatDoor
namespace Go.Proofs.YtpgigedclifoeaaGreatDoor
namespace AM
open Go
set_option linter.unusedSimpArgs false
set_option linter.unusedVariables false
def body (k a b c d:Int) (t:ByteArray):List UInt8 :=
 if k=1 then [115,116,97,114,116]++[32]++Lib.itoa a++[32]++Lib.itoa b++[32]++Lib.itoa c++[32]++Lib.itoa d
 else if k=2 then [116,97,107,101]++[32]++Lib.itoa a++[32]++t.data.toList
 else if k=3 then [103,105,118,101]++[32]++Lib.itoa a
 else [115,104,111,119]++[32]++Lib.itoa a
def XA (x:Int):Bool:=decide (0≤x∧x≤999)
end AM
end Go.Proofs.YtpgigedclifoeaaGreatDoor
namespace Go.Proofs.YtpgigedclifoeaaGreatDoor
namespace AM
open Go
set_option linter.unusedVariables false
set_option linter.unusedSimpArgs false
theorem RZ{i n:Nat}(h:i<n):aY (i:Int) n=true:=decide_eq_true (by omega)
theorem zB{x:Int}(h1:-9223372036854775808≤x) (h2:x≤9223372036854775807):IntKind.i64.wrap x=x:=Ll h1 h2
theorem N5:∀d:Fin 6,(10:Int) ^ d.val≤100000:=by decide
theorem Dm (n:Nat){T:ByteArray}(hT:T.size≤1048576){p:Nat}:∀(m i:Nat) (acc:Int),p≤i→i≤p+5→p+5<m+i→0≤acc→acc<10 ^ (i-p)→∃(i':Nat) (acc':Int),cO n m (T,(i:Int),(p:Int),acc)=some (T,(i':Int),(p:Int),acc')∧i≤i'∧(i<i'→i<T.size∧i'≤T.size)∧0≤acc'
 |0,i,acc,h1,h2,hm,_,_=>by omega
 |m+1,i,acc,h1,h2,hm,h0,hb=>by
  have no:∃(i':Nat) (acc':Int),some (T,(i:Int),(p:Int),acc)=some (T,(i':Int),(p:Int),acc')∧i≤i'∧(i<i'→i<T.size∧i'≤T.size)∧0≤acc':=⟨i,acc,rfl,Nat.le_refl _,fun q=>by omega,h0⟩
  rw[cO]
  dsimp only
  by_cases hq:i<T.size
  ·rw[decide_eq_true (show(i:Int)<(T.size:Int)by omega),cond_true,RZ hq,cond_true]
   cases h8:decide (bt T (i:Int)≥48)with
   |false=>exact no
   |true =>
    rw[cond_true,cond_true]
    cases h9:decide (bt T (i:Int)≤57)with
    |false=>exact no
    |true =>
     rw[cond_true,zB (x:=(i:Int)-(p:Int)) (by omega) (by omega)]
     by_cases h5:(i:Int)-(p:Int)<5
     ·rw[decide_eq_true_iff]at h8 h9
      have h10:(10:Int) ^ (i-p)≤100000:=N5 ⟨i-p,by omega⟩
      have hs:(10:Int) ^ (i+1-p)=10 ^ (i-p)*10:=by rw[show i+1-p=i-p+1 by omega,Int.pow_succ]
      rw[decide_eq_true h5,cond_true,cond_true,zB (x:=(i:Int)+1) (by omega) (by omega),show(i:Int)+1=((i+1:Nat):Int)by omega,zB (x:=10*acc) (by omega) (by omega),zB (x:=bt T (i:Int)) (by omega) (by omega),zB (x:=10*acc+bt T (i:Int)) (by omega) (by omega),zB (x:=10*acc+bt T (i:Int)-48) (by omega) (by omega)]
      obtain⟨i',a',e1,e2,e3,e4⟩:=Dm n hT m (i+1) (10*acc+bt T (i:Int)-48) (by omega) (by omega) (by omega) (by omega) (by omega) (p:=p)
      exact⟨i',a',e1,by omega,fun _=>by omega,e4⟩
     ·rw[decide_eq_false h5,cond_false]
      exact no
  ·rw[decide_eq_false (show ¬(i:Int)<(T.size:Int)by omega),cond_false]
   exact no
theorem EA (n:Nat) (hn:100≤n){T:ByteArray}(hT:T.size≤1048576) (p:Nat):∃(x:Int) (nx:Nat) (b:Bool),jU n (T,(p:Int))=some (x,(nx:Int),b)∧(b=true→0≤x∧p<nx∧nx≤T.size):=by
 obtain⟨i',a',e1,e2,e3,e4⟩:=Dm n hT (p:=p) n p 0 (Nat.le_refl _) (by omega) (by omega) (Int.le_refl _) (by rw[Nat.sub_self];decide)
 have no:∃(x:Int) (nx:Nat) (b:Bool),some ((0:Int),(0:Int),false)=some (x,(nx:Int),b)∧(b=true→0≤x∧p<nx∧nx≤T.size):=⟨0,0,false,rfl,fun q=>by cases q⟩
 unfold jU
 dsimp only
 rw[e1,Option.bind_some]
 dsimp only
 cases hq:((i':Int)==(p:Int))with
 |true=>exact no
 |false =>
  have hlt:p<i':=by
   rw[beq_eq_false_iff_ne]at hq
   omega
  have yes:∃(x:Int) (nx:Nat) (b:Bool),some (a',(i':Int),true)=some (x,(nx:Int),b)∧(b=true→0≤x∧p<nx∧nx≤T.size):=⟨a',i',true,rfl,fun _=>⟨e4,hlt,(e3 hlt).2⟩⟩
  rw[cond_false,RZ (e3 hlt).1]
  cases decide (IntKind.i64.wrap ((i':Int)-(p:Int))>4)with
  |true=>exact no
  |false =>
   rw[cond_false,cond_true]
   cases(bt T (p:Int)==48)with
   |false=>exact yes
   |true =>
    rw[cond_true]
    cases decide (IntKind.i64.wrap ((i':Int)-(p:Int))>1)with
    |true=>exact no
    |false=>exact yes
def tW (T:ByteArray) (a:Nat) (xs:List ab) (s:Option (List ab×Int×Int×Int)):Prop :=
 ∃ys t k c,s=some (ys,t,k,c)∧(c=0→aS ys=true∧(∃zs,ys=xs++zs)∧cD ys t=true∧∃b:Nat,k=b∧a<b∧b≤T.size)
def DM (T:ByteArray) (a:Nat) (xs:List ab) (s:Option (List ab×Int×Int×Int×Int)):Prop :=
 ∃ys x y k c,s=some (ys,x,y,k,c)∧(c=0→aS ys=true∧(∃zs,ys=xs++zs)∧cD ys x=true∧cD ys y=true∧∃b:Nat,k=b∧a<b∧b≤T.size)
def yu (kn:List Int) (xs:List ab):Prop:=∀u,u<kn.length→cD xs (kn.getD u 0)=true
theorem j5{xs:List ab}{v:Int}:cD xs v=true↔0≤v∧v<(xs.length:Int):=by
 unfold cD
 rw[Bool.and_eq_true,decide_eq_true_iff,decide_eq_true_iff]
 omega
theorem vP{xs zs:List ab}{v:Int}(h:cD xs v=true):cD (xs++zs) v=true:=by
 rw[j5]at h ⊢
 rw[List.length_append]
 omega
theorem Iz{kn:List Int}{xs zs:List ab}(h:yu kn xs):yu kn (xs++zs):=fun u hu=>vP (h u hu)
theorem CY{k a b:Int}{i:Nat}(hi:i≤4294967296) (h:ge N0 (k,a,b,(i:Int))=true):(k=1∧0≤a∧a≤199)∨((k=5∨k=7)∧0≤a∧a<(i:Int))∨((k=2∨k=3∨k=4∨k=6∨k=8)∧0≤a∧a<(i:Int)∧0≤b∧b<(i:Int)):=by
 have w:IntKind.i64.wrap ((i:Int)-(1:Int))=(i:Int)-1:=ar (by omega) (by omega)
 have hr:∀v lo hi:Int,aD N0 (v,lo,hi)=some (decide (v≥lo)&&decide (v≤hi)):=fun v lo hi=>by
  unfold aD
  cases q:decide (v≥lo)<;>(simp[q])
 have hk:ge N0 (k,a,b,(i:Int))=(cj N0 (k,a,b,(i:Int))).getD false:=rfl
 rw[hk]at h
 unfold cj at h
 dsimp only at h
 rw[w,hr,hr,hr]at h
 by_cases h1:k=1
 ·subst h1
  rw[show dK N0 1=some 0 from rfl]at h
  left
  cases q:(decide (a≥0)&&decide (a≤199))with
  |false=>simp only[Option.bind_some,beq_self_eq_true,cond_true,q]at h;cases h
  |true =>
   rw[Bool.and_eq_true,decide_eq_true_iff,decide_eq_true_iff]at q
   exact⟨rfl,q.1,q.2⟩
 by_cases h5:k=5∨k=7
 ·right;left
  have hc:dK N0 k=some 1:=by rcases h5 with rfl|rfl<;>rfl
  rw[hc]at h
  cases q:(decide (a≥0)&&decide (a≤(i:Int)-1))with
  |false=>simp only[Option.bind_some,show((1:Int)==0)=false from rfl,beq_self_eq_true,cond_true,cond_false,q]at h;cases h
  |true =>
   rw[Bool.and_eq_true,decide_eq_true_iff,decide_eq_true_iff]at q
   exact⟨h5,q.1,by omega⟩
 by_cases h2:k=2∨k=3∨k=4∨k=6∨k=8
 ·right;right
  have hc:dK N0 k=some 2:=by rcases h2 with rfl|rfl|rfl|rfl|rfl<;>rfl
  rw[hc]at h
  cases q:(decide (a≥0)&&decide (a≤(i:Int)-1))with
  |false=>simp only[Option.bind_some,show((2:Int)==0)=false from rfl,show((2:Int)==1)=false from rfl,beq_self_eq_true,cond_true,cond_false,q]at h;cases h
  |true =>
   cases q2:(decide (b≥0)&&decide (b≤(i:Int)-1))with
   |false=>simp only[Option.bind_some,show((2:Int)==0)=false from rfl,show((2:Int)==1)=false from rfl,beq_self_eq_true,cond_true,cond_false,q,q2]at h;cases h
   |true =>
    rw[Bool.and_eq_true,decide_eq_true_iff,decide_eq_true_iff]at q q2
    exact⟨h2,q.1,by omega,q2.1,by omega⟩
 exfalso
 have hc:∃c,dK N0 k=some c∧c≠0∧c≠1∧c≠2:=by
  unfold dK
  simp only[show(k==1)=false from by rw[beq_eq_false_iff_ne];exact h1,show(k==2)=false from by rw[beq_eq_false_iff_ne];omega,show(k==3)=false from by rw[beq_eq_false_iff_ne];omega,show(k==4)=false from by rw[beq_eq_false_iff_ne];omega,show(k==5)=false from by rw[beq_eq_false_iff_ne];omega,show(k==6)=false from by rw[beq_eq_false_iff_ne];omega,show(k==7)=false from by rw[beq_eq_false_iff_ne];omega,show(k==8)=false from by rw[beq_eq_false_iff_ne];omega,cond_false]
  exact⟨_,rfl,by decide,by decide,by decide⟩
 obtain⟨c,hc,c0,c1,c2⟩:=hc
 rw[hc]at h
 simp only[Option.bind_some,show(c==0)=false from by rw[beq_eq_false_iff_ne];exact c0,show(c==1)=false from by rw[beq_eq_false_iff_ne];exact c1,show(c==2)=false from by rw[beq_eq_false_iff_ne];exact c2,cond_false]at h
 cases h
theorem BC{m:List ab}{p:Int}(hp:aS m=true) (h:cD m p=true) (hk:(m.getD p.toNat oZ).1=2∨(m.getD p.toNat oZ).1=3∨(m.getD p.toNat oZ).1=4):cD m (m.getD p.toNat oZ).2.1=true∧cD m (m.getD p.toNat oZ).2.2=true:=by
 have h2:=j5.1 h
 have hl:=c9 hp
 have:=CY (by omega) (xZ hp (j:=p.toNat) (by omega))
 rw[j5,j5]
 rcases this with⟨q,_⟩|⟨q,_⟩|⟨_,q1,q2,q3,q4⟩
 ·rw[q]at hk;omega
 ·rcases q with q|q<;>(rw[q]at hk;omega)
 ·omega
section
variable{T:ByteArray}{a:Nat}{xs:List ab}{kn:List Int}
theorem it{ys:List ab}{t k c:Int}(hc:c≠0):tW T a xs (some (ys,t,k,c)):=⟨ys,t,k,c,rfl,fun h=>absurd h hc⟩
theorem t9{ys:List ab}{t u k c:Int}(hc:c≠0):DM T a xs (some (ys,t,u,k,c)):=⟨ys,t,u,k,c,rfl,fun h=>absurd h hc⟩
theorem xK (hT:T.size≤100000) (ha:a≤T.size) (e:Int):(aq N0 (T,(a:Int),e)=some (((a+1:Nat):Int),(0:Int))∧a+1≤T.size)∨(∃k c:Int,c≠0∧aq N0 (T,(a:Int),e)=some (k,c)):=by
 unfold aq
 dsimp only
 by_cases h:a<T.size
 ·rw[show decide ((a:Int)≥(T.size:Int))=false from decide_eq_false (by omega),au h,cond_false,cond_true]
  cases(bt T (a:Int) != e)with
  |false =>
   rw[cond_false,ar (by omega) (by omega)]
   exact .inl ⟨rfl,h⟩
  |true=>exact .inr ⟨_,3,by decide,rfl⟩
 ·rw[show decide ((a:Int)≥(T.size:Int))=true from decide_eq_true (by omega),cond_true]
  exact .inr ⟨_,2,by decide,rfl⟩
theorem Oe{rec_:List ab×List Int×ByteArray×Int→Option (List ab×Int×Int×Int)}(hT:T.size≤100000) (ha:a+1≤T.size) (hp:aS xs=true) (hk:yu kn xs):tW T a xs ((jU N0 (T,((a+1:Nat):Int))).bind fun r1=>(cond (!r1.2.2) (some (xs,(-1:Int),(a:Int),(4:Int))) (cond (decide (r1.1≥((kn).length:Int))) (some (xs,(-1:Int),(a:Int),(4:Int))) ((ip N0 rec_ (kn,xs,[],r1.1,r1.2.1)).bind fun g2=>(some (g2.1,g2.2.1,g2.2.2.1,g2.2.2.2)))))):=by
 obtain⟨x,nx,b,e,h⟩:=EA N0 (by have:=n0;omega) (T:=T) (by omega) (a+1)
 rw[e,Option.bind_some]
 dsimp only
 cases b with
 |false=>exact it (by decide)
 |true =>
  obtain⟨x0,n1,n2⟩:=h rfl
  rw[Bool.not_true,cond_false]
  cases hku:decide (x≥(kn.length:Int))with
  |true=>exact it (by decide)
  |false =>
   rw[decide_eq_false_iff_not]at hku
   have hu:x.toNat<kn.length:=by omega
   have ex:((x.toNat:Nat):Int)=x:=by omega
   have hin:=au hu
   rw[ex]at hin
   rw[cond_false,ip]
   dsimp only
   rw[hin,cond_true,Option.bind_some]
   exact⟨_,_,_,_,rfl,fun _=>⟨hp,⟨[],by simp⟩,hk _ hu,_,rfl,by omega,n2⟩⟩
theorem yi{p:Nat}(hT:T.size≤100000):∀(m i:Nat) (acc:Int),p≤i→i≤p+4→p+4<m+i→∃(i':Nat) (acc':Int),cN N0 m (T,(i:Int),(p:Int),acc)=some (T,(i':Int),(p:Int),acc')∧i≤i'∧(i<i'→i<T.size∧i'≤T.size)
 |0,i,acc,h1,h2,hm=>by omega
 |m+1,i,acc,h1,h2,hm=>by
  have no:∃(i':Nat) (acc':Int),some (T,(i:Int),(p:Int),acc)=some (T,(i':Int),(p:Int),acc')∧i≤i'∧(i<i'→i<T.size∧i'≤T.size):=⟨i,acc,rfl,Nat.le_refl _,fun q=>by omega⟩
  rw[cN]
  dsimp only
  by_cases hq:i<T.size
  ·rw[m7 hq,cond_true,au hq,cond_true]
   cases decide (bt T (i:Int)≥48)with
   |false=>exact no
   |true =>
    rw[cond_true,cond_true]
    cases decide (bt T (i:Int)≤57)with
    |false=>exact no
    |true =>
     rw[cond_true,ar (n:=(i:Int)-(p:Int)) (by omega) (by omega)]
     by_cases h5:(i:Int)-(p:Int)<4
     ·rw[decide_eq_true h5,cond_true,cond_true,aQ hq (by omega)]
      obtain⟨i',a',e1,e2,e3⟩:=yi hT m (i+1) (IntKind.i64.wrap ((IntKind.i64.wrap ((IntKind.i64.wrap ((10:Int)*acc))+(IntKind.i64.wrap (bt T (i:Int)))))-(48:Int))) (by omega) (by omega) (by omega) (p:=p)
      exact⟨i',a',e1,by omega,fun _=>by omega⟩
     ·rw[decide_eq_false h5,cond_false]
      exact no
  ·rw[show decide ((i:Int)<(T.size:Int))=false from decide_eq_false (by omega),cond_false]
   exact no
theorem Id (hT:T.size≤100000) (p:Nat):∃(x:Int) (nx:Nat) (b:Bool),ic N0 (T,(p:Int))=some (x,(nx:Int),b)∧(b=true→p<nx∧nx≤T.size):=by
 obtain⟨i',a',e1,e2,e3⟩:=yi (p:=p) hT N0 p 0 (Nat.le_refl _) (by omega) (by have:=n0;omega)
 have no:∃(x:Int) (nx:Nat) (b:Bool),some ((0:Int),(0:Int),false)=some (x,(nx:Int),b)∧(b=true→p<nx∧nx≤T.size):=⟨0,0,false,rfl,fun q=>by cases q⟩
 unfold ic
 dsimp only
 rw[e1,Option.bind_some]
 dsimp only
 cases hq:((i':Int)==(p:Int))with
 |true=>exact no
 |false =>
  have hlt:p<i':=by
   rw[beq_eq_false_iff_ne]at hq
   omega
  have yes:∃(x:Int) (nx:Nat) (b:Bool),some (a',(i':Int),true)=some (x,(nx:Int),b)∧(b=true→p<nx∧nx≤T.size):=⟨a',i',true,rfl,fun _=>⟨hlt,(e3 hlt).2⟩⟩
  rw[cond_false,au (e3 hlt).1]
  cases decide (IntKind.i64.wrap ((i':Int)-(p:Int))>3)with
  |true=>exact no
  |false =>
   rw[cond_false,cond_true]
   cases(bt T (p:Int)==48)<;>cases decide (IntKind.i64.wrap ((i':Int)-(p:Int))>1)<;>cases decide (a'≥200)<;>first
    |exact no
    |exact yes
theorem LC (hT:T.size≤100000) (ha:a+1≤T.size) (hp:aS xs=true):tW T a xs ((ic N0 (T,((a+1:Nat):Int))).bind fun r3=>(cond (!r3.2.2) (some (xs,(-1:Int),(a:Int),(4:Int))) ((gM N0 r3.1).bind fun r4=>(cond (!r4) (some (xs,(-1:Int),(a:Int),(4:Int))) ((bM N0 (xs,r3.1)).bind fun r5=>(cond (decide (r5.2<(0:Int))) (some (xs,(-1:Int),r3.2.1,(5:Int))) (some (r5.1,r5.2,r3.2.1,(0:Int))))))))):=by
 obtain⟨x,nx,b,e,h⟩:=Id hT (a+1)
 rw[e,Option.bind_some]
 dsimp only
 cases b with
 |false=>exact it (by decide)
 |true =>
  obtain⟨n1,n2⟩:=h rfl
  have hq:∃q,gM N0 x=some q:=by
   unfold gM bI
   cases decide (x≥0)<;>exact⟨_,rfl⟩
  obtain⟨q,hq⟩:=hq
  rw[Bool.not_true,cond_false,hq,Option.bind_some,jX hp]
  cases q with
  |false=>exact it (by decide)
  |true =>
   rw[Bool.not_true,cond_false,Option.bind_some]
   cases hA:jm xs 1 x 0 with
   |none=>exact it (by decide)
   |some p =>
    obtain⟨ys,t⟩:=p
    obtain⟨g1,g2,g3⟩:=lZ hp hA
    rw[show oc xs (some (ys,t))=(ys,t)from rfl]
    dsimp only
    rw[show decide (t<(0:Int))=false from decide_eq_false (by have:=(j5.1 g2).1;omega),cond_false]
    exact⟨_,_,_,_,rfl,fun _=>⟨g1,g3,g2,_,rfl,by omega,n2⟩⟩
theorem O6{ys:List ab}(hp:aS ys=true){t:Int}(h:cD ys t=true) (v:Int):∃o,ep N0 (ys,v,t)=some o∧(o<0∨cD ys o=true):=by
 unfold ep
 dsimp only
 rw[rh h,cond_true]
 have e1:((ys.getD t.toNat oZ).1==(2:Int))=true→cD ys (ys.getD t.toNat oZ).2.1=true∧cD ys (ys.getD t.toNat oZ).2.2=true:=fun q=>BC hp h (.inl (by simpa using q))
 have e2:((ys.getD t.toNat oZ).1==(4:Int))=true→cD ys (ys.getD t.toNat oZ).2.1=true:=fun q=>(BC hp h (.inr (.inr (by simpa using q)))).1
 have ez:ys.getD t.toNat ((0:Int),((0:Int),(0:Int)))=ys.getD t.toNat oZ:=rfl
 rw[ez]
 revert e1 e2
 cases((ys.getD t.toNat oZ).1==(2:Int))<;>cases((ys.getD t.toNat oZ).1==(4:Int))<;>cases(v==(60:Int))<;>cases(v==(33:Int))<;>cases(v==(62:Int))<;>intro e1 e2<;>first
  |exact⟨_,rfl, .inl (by decide)⟩
  |exact⟨_,rfl, .inr (e1 rfl).1⟩
  |exact⟨_,rfl, .inr (e1 rfl).2⟩
  |exact⟨_,rfl, .inr (e2 rfl)⟩
theorem Eb{s:Option (List ab×Int×Int×Int)}(hs:tW T (a+1) xs s) (v:Int):tW T a xs (s.bind fun r6=>(cond (r6.2.2.2 != (0:Int)) (some (r6.1,(-1:Int),r6.2.2.1,r6.2.2.2)) ((ep N0 (r6.1,v,r6.2.1)).bind fun r7=>(cond (decide (r7<(0:Int))) (some (r6.1,(-1:Int),r6.2.2.1,(7:Int))) (some (r6.1,r7,r6.2.2.1,(0:Int))))))):=by
 obtain⟨ys,t,k,c,rfl,h⟩:=hs
 rw[Option.bind_some]
 dsimp only
 by_cases hc:c=0
 ·obtain⟨h1,h2,h3,b,h4,h5,h6⟩:=h hc
  obtain⟨o,e1,e2⟩:=O6 h1 h3 v
  rw[hc,e1,Option.bind_some,show((0:Int) != 0)=false from rfl,cond_false]
  cases ho:decide (o<0)with
  |true=>exact it (by decide)
  |false =>
   rw[decide_eq_false_iff_not]at ho
   exact⟨_,_,_,_,rfl,fun _=>⟨h1,h2,e2.resolve_left ho,b,h4,by omega,h6⟩⟩
 ·rw[show(c != 0)=true from by rw[bne_iff_ne];exact hc,cond_true]
  exact it hc
theorem JJ{ys:List ab}(h1:aS ys=true) (h2:∃zs,ys=xs++zs){b:Nat}(h5:a<b) (h6:b≤T.size) (kd p q:Int):tW T a xs ((aV N0 (ys,kd,p,q)).bind fun r18=>(cond (decide (r18.2<(0:Int))) (some (ys,(-1:Int),(b:Int),(5:Int))) (some (r18.1,r18.2,(b:Int),(0:Int))))):=by
 rw[ir h1,Option.bind_some]
 cases hA:jm ys kd p q with
 |none=>exact it (by decide)
 |some m =>
  obtain⟨zs,t⟩:=m
  obtain⟨g1,g2,z,g3⟩:=lZ h1 hA
  rw[show oc ys (some (zs,t))=(zs,t)from rfl]
  dsimp only
  rw[show decide (t<(0:Int))=false from decide_eq_false (by have:=(j5.1 g2).1;omega),cond_false]
  obtain⟨z',h2⟩:=h2
  exact⟨_,_,_,_,rfl,fun _=>⟨g1,⟨z'++z,by rw[g3,h2,List.append_assoc]⟩,g2,b,rfl,h5,h6⟩⟩
theorem LF{s:Option (List ab×Int×Int×Int)}(hs:tW T (a+1) xs s) (kd:Int):tW T a xs (s.bind fun r19=>(cond (r19.2.2.2 != (0:Int)) (some (r19.1,(-1:Int),r19.2.2.1,r19.2.2.2)) ((aV N0 (r19.1,kd,r19.2.1,(0:Int))).bind fun r20=>(cond (decide (r20.2<(0:Int))) (some (r19.1,(-1:Int),r19.2.2.1,(5:Int))) (some (r20.1,r20.2,r19.2.2.1,(0:Int))))))):=by
 obtain⟨ys,t,k,c,rfl,h⟩:=hs
 rw[Option.bind_some]
 dsimp only
 by_cases hc:c=0
 ·obtain⟨h1,h2,h3,b,h4,h5,h6⟩:=h hc
  rw[hc,h4,show((0:Int) != 0)=false from rfl,cond_false]
  exact JJ h1 h2 (by omega) h6 kd _ _
 ·rw[show(c != 0)=true from by rw[bne_iff_ne];exact hc,cond_true]
  exact it hc
theorem LD{s:Option (List ab×Int×Int×Int×Int)}(hs:DM T (a+1) xs s) (kd:Int):tW T a xs (s.bind fun r17=>(cond (r17.2.2.2.2 != (0:Int)) (some (r17.1,(-1:Int),r17.2.2.2.1,r17.2.2.2.2)) ((aV N0 (r17.1,kd,r17.2.1,r17.2.2.1)).bind fun r18=>(cond (decide (r18.2<(0:Int))) (some (r17.1,(-1:Int),r17.2.2.2.1,(5:Int))) (some (r18.1,r18.2,r17.2.2.2.1,(0:Int))))))):=by
 obtain⟨ys,t,u,k,c,rfl,h⟩:=hs
 rw[Option.bind_some]
 dsimp only
 by_cases hc:c=0
 ·obtain⟨h1,h2,h3,h3',b,h4,h5,h6⟩:=h hc
  rw[hc,h4,show((0:Int) != 0)=false from rfl,cond_false]
  exact JJ h1 h2 (by omega) h6 kd _ _
 ·rw[show(c != 0)=true from by rw[bne_iff_ne];exact hc,cond_true]
  exact it hc
theorem Fs{s:Option (List ab×Int×Int×Int×Int)}(hs:DM T (a+1) xs s) (v:Int):tW T a xs (s.bind fun r12=>(cond (r12.2.2.2.2 != (0:Int)) (some (r12.1,(-1:Int),r12.2.2.2.1,r12.2.2.2.2)) ((iI N0 (r12.1,v,r12.2.1,r12.2.2.1)).bind fun r13=>(some (r13.1,r13.2.1,r12.2.2.2.1,r13.2.2))))):=by
 obtain⟨ys,x,y,k,c,rfl,h⟩:=hs
 rw[Option.bind_some]
 dsimp only
 by_cases hc:c=0
 ·obtain⟨h1,⟨z',h2⟩,h3,h3',b,h4,h5,h6⟩:=h hc
  rw[hc,h4,show((0:Int) != 0)=false from rfl,cond_false,iI]
  dsimp only
  rw[rh h3,rh h3',cond_true,cond_true]
  cases(v==(111:Int))with
  |true =>
   rw[cond_true]
   cases hk:((ys.getD x.toNat ((0:Int),((0:Int),(0:Int)))).1 != (3:Int))with
   |true=>exact it (c:=7) (by decide)
   |false =>
    have hk3:(ys.getD x.toNat oZ).1=3:=by
     rw[bne_eq_false_iff_eq]at hk
     exact hk
    rw[cond_false]
    cases((ys.getD x.toNat ((0:Int),((0:Int),(0:Int)))).2.2 != y)with
    |true=>exact it (c:=7) (by decide)
    |false=>exact⟨_,_,_,_,rfl,fun _=>⟨h1,⟨z',h2⟩,(BC h1 h3 (.inr (.inl hk3))).1,b,rfl,by omega,h6⟩⟩
  |false =>
   rw[cond_false]
   cases((ys.getD y.toNat ((0:Int),((0:Int),(0:Int)))).1 != (7:Int))with
   |true=>exact it (c:=7) (by decide)
   |false =>
    rw[cond_false,t4 h1,Option.bind_some]
    cases hA:qN ys y x with
    |none=>exact it (c:=5) (by decide)
    |some m =>
     obtain⟨zs,t⟩:=m
     obtain⟨g1,g2,z,g3⟩:=lZ h1 (pq hA)
     rw[show oc ys (some (zs,t))=(zs,t)from rfl]
     dsimp only
     rw[show decide (t<(0:Int))=false from decide_eq_false (by have:=(j5.1 g2).1;omega),cond_false]
     exact⟨_,_,_,_,rfl,fun _=>⟨g1,⟨z'++z,by rw[g3,h2,List.append_assoc]⟩,g2,b,rfl,by omega,h6⟩⟩
 ·rw[show(c != 0)=true from by rw[bne_iff_ne];exact hc,cond_true]
  exact it hc
theorem YB{c:Int}(h:c≠0):(c==0)=false:=by rw[beq_eq_false_iff_ne];exact h
theorem Cr{rec_:List ab×List Int×ByteArray×Int→Option (List ab×Int×Int×Int)}(hT:T.size≤100000) (ih:∀(b:Nat) (ys:List ab),a≤b→b≤T.size→aS ys=true→yu kn ys→tW T b ys (rec_ (ys,kn,T,(b:Int)))) (ha:a≤T.size) (hp:aS xs=true) (hk:yu kn xs){b:Nat}(hb:a≤b) (hb2:b≤T.size) (e:Int):DM T a xs (cZ N0 rec_ (xs,kn,T,(b:Int),false,e)):=by
 unfold cZ
 dsimp only
 rw[cond_false,show((0:Int)==0)=true from rfl,cond_true]
 obtain⟨ys,t,k,c,e1,h⟩:=ih b xs hb hb2 hp hk
 rw[e1,Option.bind_some]
 dsimp only
 by_cases hc:c=0
 ·obtain⟨h1,⟨z,rfl⟩,h3,b',rfl,h5,h6⟩:=h hc
  rw[hc,show((0:Int)==0)=true from rfl,cond_true]
  rcases xK hT h6 44 with⟨w1,w2⟩|⟨k2,c2,w0,w1⟩
  ·rw[w1,Option.bind_some]
   dsimp only
   rw[show((0:Int)==0)=true from rfl,cond_true]
   obtain⟨ys2,t2,k2,c2,e2,h'⟩:=ih (b'+1) _ (by omega) w2 h1 (Iz hk)
   rw[e2,Option.bind_some]
   dsimp only
   by_cases hc2:c2=0
   ·obtain⟨i1,⟨z2,rfl⟩,i3,b2,rfl,i5,i6⟩:=h' hc2
    rw[hc2,show((0:Int)==0)=true from rfl,cond_true]
    rcases xK hT i6 e with⟨u1,u2⟩|⟨k3,c3,u0,u1⟩
    ·rw[u1,Option.bind_some]
     exact⟨_,_,_,_,_,rfl,fun _=>⟨i1,⟨z++z2,by rw[List.append_assoc]⟩,vP h3,i3,_,rfl,by omega,u2⟩⟩
    ·rw[u1,Option.bind_some]
     exact t9 u0
   ·rw[YB hc2,cond_false]
    exact t9 hc2
  ·rw[w1,Option.bind_some]
   dsimp only
   rw[YB w0,cond_false]
   exact t9 w0
 ·rw[YB hc,cond_false]
  exact t9 hc
theorem GD{T:ByteArray}{a b e:Int}{kn:List Int}{xs:List ab}{rec_:List ab×List Int×ByteArray×Int→Option (List ab×Int×Int×Int)}(h:aq N0 (T,a,40)=some (b,0)):cZ N0 rec_ (xs,kn,T,a,true,e)=cZ N0 rec_ (xs,kn,T,b,false,e):=by
 unfold cZ
 dsimp only
 rw[h]
 rfl
theorem GC{T:ByteArray}{a b e c:Int}{kn:List Int}{xs:List ab}{rec_:List ab×List Int×ByteArray×Int→Option (List ab×Int×Int×Int)}(h:aq N0 (T,a,40)=some (b,c)) (hc:c≠0):cZ N0 rec_ (xs,kn,T,a,true,e)=some (xs, -1, -1,b,c):=by
 unfold cZ
 dsimp only
 rw[h,cond_true,Option.bind_some]
 dsimp only
 rw[show(c==0)=false from by rw[beq_eq_false_iff_ne];exact hc]
 rfl
theorem DZ{rec_:List ab×List Int×ByteArray×Int→Option (List ab×Int×Int×Int)}(hT:T.size≤100000) (ih:∀(b:Nat) (ys:List ab),a≤b→b≤T.size→aS ys=true→yu kn ys→tW T b ys (rec_ (ys,kn,T,(b:Int)))) (ha:a≤T.size) (hp:aS xs=true) (hk:yu kn xs) (o:Bool) (e:Int):DM T a xs (cZ N0 rec_ (xs,kn,T,(a:Int),o,e)):=by
 cases o with
 |false=>exact Cr hT ih ha hp hk (Nat.le_refl _) ha e
 |true =>
  rcases xK hT ha 40 with⟨w1,w2⟩|⟨k,c,w0,w1⟩
  ·have h:=Cr hT ih ha hp hk (Nat.le_succ a) w2 e
   rw[GD w1]
   exact h
  ·rw[GC w1 w0]
   exact t9 w0
end
theorem Iy{T:ByteArray}{a:Int}(h:aY a T.size=true):∃k l e,jR N0 (T,a)=some (k,l,e):=by
 unfold jR
 dsimp only
 rw[h,cond_true]
 cases(bt T a==40)
 ·cases(bt T a==123)
  ·cases(bt T a==91)
   ·cases(bt T a==35)
    ·cases(bt T a==94)
     ·cases(bt T a==107)
      ·cases(bt T a==42)<;>exact⟨_,_,_,rfl⟩
      ·exact⟨_,_,_,rfl⟩
     ·exact⟨_,_,_,rfl⟩
    ·exact⟨_,_,_,rfl⟩
   ·exact⟨_,_,_,rfl⟩
  ·exact⟨_,_,_,rfl⟩
 ·exact⟨_,_,_,rfl⟩
theorem JG{T:ByteArray}(hT:T.size≤100000){kn:List Int}:∀(n a:Nat) (xs:List ab) (j:Nat),T.size-a≤n→n<j→a≤T.size→aS xs=true→yu kn xs→tW T a xs (du N0 j (xs,kn,T,(a:Int)))
 |n,a,xs,0,_,hj,_,_,_=>absurd hj (by omega)
 |n,a,xs,j+1,hn,hj,ha,hp,hk=>by
  show tW T a xs (lf N0 (du N0 j) (xs,kn,T,(a:Int)))
  unfold lf
  dsimp only
  by_cases hs:a<T.size
  ·obtain⟨n,rfl⟩:∃m,n=m+1:=⟨n-1,by omega⟩
   have ih:∀(b:Nat) (ys:List ab),a+1≤b→b≤T.size→aS ys=true→yu kn ys→tW T b ys (du N0 j (ys,kn,T,(b:Int))):=fun b ys q1 q2 q3 q4=>JG hT n b ys j (by omega) (by omega) q2 q3 q4
   obtain⟨kd,l,e,hkd⟩:=Iy (T:=T) (au hs)
   rw[show decide ((a:Int)≥(T.size:Int))=false from decide_eq_false (by omega),au hs,cond_false,cond_true,hkd,ar (by omega) (by omega),show((a:Int)+1)=((a+1:Nat):Int)from by omega,Option.bind_some]
   dsimp only
   have hi:=ih (a+1) xs (Nat.le_refl _) hs hp hk
   cases(bt T (a:Int)==(64:Int))with
   |true=>exact Oe hT hs hp hk
   |false =>
   rw[cond_false]
   cases(bt T (a:Int)==(110:Int))with
   |true=>exact LC hT hs hp
   |false =>
   rw[cond_false]
   cases(bt T (a:Int)==(60:Int))with
   |true=>exact Eb hi _
   |false =>
   rw[cond_false]
   cases(bt T (a:Int)==(62:Int))with
   |true=>exact Eb hi _
   |false =>
   rw[cond_false]
   cases(bt T (a:Int)==(33:Int))with
   |true=>exact Eb hi _
   |false =>
   rw[cond_false]
   cases(bt T (a:Int)==(111:Int))with
   |true=>exact Fs (DZ hT ih hs hp hk true 41) _
   |false =>
   rw[cond_false]
   cases(bt T (a:Int)==(120:Int))with
   |true=>exact Fs (DZ hT ih hs hp hk true 41) _
   |false =>
   rw[cond_false]
   cases decide (kd>0)with
   |true =>
    rw[cond_true,cond_true]
    cases decide (e>0)with
    |true=>exact LD (DZ hT ih hs hp hk _ _) _
    |false=>exact LF hi _
   |false=>exact it (c:=3) (by decide)
  ·rw[show decide ((a:Int)≥(T.size:Int))=true from decide_eq_true (by omega),cond_true]
   exact it (by decide)
end AM
end Go.Proofs.YtpgigedclifoeaaGreatDoor
