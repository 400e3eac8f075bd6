/- Small laws on whole numbers that wrap, on strings as lists of bytes, and on answers that may be none. No condition. And what follows it: see the remarks. -/
import Derived.Test.YtpgigedclifoeaaGreatDoorNW4
import Derived.Lib.ItoaNum
import Derived.Lib.IndexMore
import Derived.Laws.BitsLemmas
import Derived.Test.YtpgigedclifoeaaGreatDoorNALd
import Derived.Test.YtpgigedclifoeaaGreatDoorNP1
import Derived.Lib.AtoiAllCases
import Derived.Lib.AtoiAll
import Derived.Lib.Split
namespace Go.Proofs.YtpgigedclifoeaaGreatDoor
namespace AM
open Go
set_option linter.unusedSimpArgs false
set_option linter.unusedVariables false
theorem K4{n:Int}(h1:-9223372036854775808≤n) (h2:n≤9223372036854775807):IntKind.i64.wrap n=n:=by
 rw[IntKind.wrap_i64];omega
theorem eD{a b:ByteArray}(h:a.size+b.size≤4611686018427387904):aH a b=true:=decide_eq_true h
theorem oN (a:ByteArray):gC a a=true:=decide_eq_true rfl
end AM
end Go.Proofs.YtpgigedclifoeaaGreatDoor
namespace Go.Proofs.YtpgigedclifoeaaGreatDoor
namespace AM
open Go
set_option linter.unusedVariables false
set_option linter.unusedSimpArgs false
abbrev N0:Nat:=1000000000000000000000000000000
theorem ak{n:Int}(h1:-9223372036854775808≤n) (h2:n≤9223372036854775807):IntKind.i64.wrap n=n:=by
 rw[IntKind.wrap_i64];omega
theorem j0 {α:Type}{l:List α}{i:Nat}(h:i<l.length) (d:α):l.getD i d=l[i]:=by
 rw[List.getD_eq_getElem?_getD,List.getElem?_eq_getElem h];rfl
theorem aq{i n:Nat}(h:i<n):ba (i:Int) n=true:=by
 unfold ba
 exact decide_eq_true ⟨Int.natCast_nonneg _,by omega⟩
theorem aP{i n:Nat}(hi:i<n) (hn:n≤4294967296):IntKind.i64.wrap ((i:Int)+(1:Int))=((i+1:Nat):Int):=by
 rw[ak (by omega) (by omega)];omega
theorem ot:∀(t:Ty),t.hasSl=false→∀x:t.den,t.eqv x x=true
 | .int _,_,x=>by simp[Ty.eqv]
 | .bool,_,x=>by simp[Ty.eqv]
 | .str,_,x=>decide_eq_true rfl
 | .sl _,h,_=>by cases h
 | .pr a b,h,x=>by
  have h:(a.hasSl || b.hasSl)=false:=h
  rw[Bool.or_eq_false_iff]at h
  show(a.eqv x.1 x.1&&b.eqv x.2 x.2)=true
  rw[ot a h.1,ot b h.2];rfl
theorem zV{kt:Ty}{k:kt.den}{m:List (kt.den×Int)}{j:Nat}{v:Int}(h:cg kt k m 0=some (j,v)):j<m.length:=by
 obtain⟨_,h2⟩:=mM h
 exact(List.getElem?_eq_some_iff.1 h2).1
theorem CX {α:Type}{y:Int}{k:α}{c:Int}:∀{m:List (α×Int)}{j:Nat},j<m.length→wH y (m.set j (k,c)) j=m.set j (k,y)
 |[],_,h=>by simp at h
 |p::r,0,_=>rfl
 |p::r,j+1,h=>by
  show p::wH y (r.set j (k,c)) j=p::r.set j (k,y)
  rw[CX (by simpa using h)]
theorem zQ {α:Type}{y:Int}{k:α}{c:Int}:∀{m:List (α×Int)},wH y (m++[(k,c)]) m.length=m++[(k,y)]
 |[]=>rfl
 |p::r=>by
  show p::wH y (r++[(k,c)]) r.length=p::(r++[(k,y)])
  rw[zQ]
theorem GU{kt:Ty}{k:kt.den}{c y:Int}{m:List (kt.den×Int)}:GV (sL kt k m) y (kq kt k c m)=kq kt k y m:=by
 unfold GV sL kq
 cases h:cg kt k m 0 with
 |some p =>
  obtain⟨j,v⟩:=p
  dsimp only
  rw[Int.toNat_natCast]
  exact CX (zV h)
 |none =>
  dsimp only
  rw[Int.toNat_natCast]
  exact zQ
theorem LH{kt:Ty}{k:kt.den}{c:Int}{m:List (kt.den×Int)}:ba (sL kt k m) (kq kt k c m).length=true:=by
 unfold sL kq
 cases h:cg kt k m 0 with
 |some p =>
  obtain⟨j,v⟩:=p
  dsimp only
  rw[List.length_set]
  exact aq (zV h)
 |none =>
  dsimp only
  rw[List.length_append]
  exact aq (by simp)
theorem tV{kt:Ty}{k k':kt.den}{x:Int}(hne:kt.eqv k' k=false):∀{m:List (kt.den×Int)}{i j:Nat}{v:Int},cg kt k m i=some (j,v)→cg kt k' (m.set (j-i) (k,x)) i=cg kt k' m i
 |[],_,_,_,h=>by cases h
 |p::r,i,j,v,h=>by
  unfold cg at h
  cases q:kt.eqv k p.1 with
  |true =>
   rw[q]at h
   obtain⟨rfl,rfl⟩:=Prod.mk.inj (Option.some.inj h)
   rw[Nat.sub_self,List.set_cons_zero]
   have:=vJ kt q
   unfold cg
   rw[hne, ←this,hne]
   rfl
  |false =>
   rw[q]at h
   have h:cg kt k r (i+1)=some (j,v):=h
   obtain⟨h1,_⟩:=mM h
   rw[show j-i=(j-(i+1))+1 by omega,List.set_cons_succ]
   unfold cg
   rw[tV hne h]
theorem sg{kt:Ty}{k k':kt.den}{x:Int}(hne:kt.eqv k' k=false):∀{m:List (kt.den×Int)}{i:Nat},cg kt k' (m++[(k,x)]) i=cg kt k' m i
 |[],i=>by
  show cg kt k' [(k,x)] i=_
  unfold cg
  rw[hne];rfl
 |p::r,i=>by
  show cg kt k' (p::(r++[(k,x)])) i=_
  unfold cg
  rw[sg hne]
theorem tU{kt:Ty}{k k':kt.den}{x:Int}{m:List (kt.den×Int)}(hne:kt.eqv k' k=false):eA kt k' (kq kt k x m)=eA kt k' m:=by
 unfold eA kq
 cases h:cg kt k m 0 with
 |some p =>
  obtain⟨j,v⟩:=p
  have:=tV (x:=x) hne h
  rw[Nat.sub_zero]at this
  simp only[this]
 |none=>simp only[sg hne]
abbrev ab:=Int×(Int×Int)
abbrev kN:Ty := .pr (.int .i64) (.pr (.int .i64) (.int .i64))
theorem dY (n:Nat) (a b c:Int):aB n (a,b,c)=some (decide (a≥b)&&decide (a≤c)):=by
 unfold aB
 cases decide (a≥b)<;>rfl
theorem qF (n:Nat) (a b c:Int):bO n (a,b,c)=some (decide (a≥b)&&decide (a≤c)):=dY n a b c
theorem yy (n:Nat) (x:Int):∃v,dI n x=some v:=by
 unfold dI
 simp only[cond_eq_ite]
 repeat' split
 all_goals exact⟨_,rfl⟩
theorem CN (n:Nat) (x:Int×Int×Int×Int):∃v,ci n x=some v:=by
 unfold ci
 obtain⟨v,hv⟩:=yy n x.1
 rw[hv]
 simp only[Option.bind_some,dY,cond_eq_ite]
 repeat' split
 all_goals exact⟨_,rfl⟩
def fP (n:Nat) (x:Int×Int×Int×Int):Bool:=(ci n x).getD false
theorem zN (n:Nat) (x):ci n x=some (fP n x):=by
 obtain⟨v,hv⟩:=CN n x
 unfold fP
 rw[hv];rfl
theorem Cn (n:Nat) (x):cQ n x=some (fP n x):=zN n x
def cj (n:Nat) (pre:List ab):List ab→Bool
 |[]=>true
 |k::r=>(!pre.contains k&&fP n (k.1,k.2.1,k.2.2,(pre.length:Int)))&&cj n (pre++[k]) r
theorem AA (n:Nat){pre r:List ab}{k:ab}(hx:(pre++k::r).length≤4294967296):∀(m j:Nat),j≤pre.length→pre.length<m+j →
  ∃q:Nat,bm n m (pre++k::r,k.1,k.2.1,k.2.2,(j:Int))=some (Sum.inl (q:Int))∧q≤pre.length∧(q=pre.length↔k∉pre.drop j)
 |0,j,h1,h2=>by omega
 |m+1,j,h1,h2=>by
  have hlt:j<(pre++k::r).length:=by simp;omega
  have e0:bm n (m+1) (pre++k::r,k.1,k.2.1,k.2.2,(j:Int))=(cond (decide ((j:Int)<((pre++k::r).length:Int))) (cond (ba (j:Int) (pre++k::r).length) (cond (((pre++k::r).getD ((j:Int)).toNat ((0:Int),((0:Int),(0:Int)))).1==k.1&&(((pre++k::r).getD ((j:Int)).toNat ((0:Int),((0:Int),(0:Int)))).2.1==k.2.1&&(((pre++k::r).getD ((j:Int)).toNat ((0:Int),((0:Int),(0:Int)))).2.2==k.2.2&&true))) (some (Sum.inl (j:Int))) (bm n m (pre++k::r,k.1,k.2.1,k.2.2,IntKind.i64.wrap ((j:Int)+(1:Int))))) none) (some (Sum.inr ()))):=rfl
  rw[e0,decide_eq_true (by omega:(j:Int)<((pre++k::r).length:Int)),cond_true,aq hlt,cond_true,Int.toNat_natCast,j0 hlt]
  have heq:∀p:ab,(p.1==k.1&&(p.2.1==k.2.1&&(p.2.2==k.2.2&&true)))=decide (p=k):=by
   intro p
   obtain⟨p1,p2,p3⟩:=p
   obtain⟨k1,k2,k3⟩:=k
   rw[Bool.eq_iff_iff]
   simp
  rw[heq]
  rcases Nat.lt_or_ge j pre.length with q|q
  ·have hg:(pre++k::r)[j]=pre[j]:=List.getElem_append_left q
   rw[hg]
   have hd:pre.drop j=pre[j]::pre.drop (j+1):=List.drop_eq_getElem_cons q
   by_cases hk:pre[j]=k
   ·rw[decide_eq_true hk,cond_true]
    exact⟨j,rfl,by omega,by rw[hd,hk];simp;omega⟩
   ·rw[decide_eq_false hk,cond_false,aP hlt hx]
    obtain⟨z,g1,g2,g3⟩:=AA n hx m (j+1) q (by omega)
    refine⟨z,g1,g2,g3.trans ?_⟩
    rw[hd,List.mem_cons]
    constructor
    ·intro h h2
     rcases h2 with h2|h2
     ·exact hk h2.symm
     ·exact h h2
    ·exact fun h h2=>h (.inr h2)
  ·have hj:j=pre.length:=by omega
   subst hj
   rw[show(pre++k::r)[pre.length]=k by simp,decide_eq_true rfl,cond_true]
   exact⟨pre.length,rfl,Nat.le_refl _,by simp⟩
theorem LX (n:Nat) (hn:4294967296<n){pre r:List ab}{k:ab}(hx:(pre++k::r).length≤4294967296):∃q:Int,cI n (pre++k::r,k.1,k.2.1,k.2.2)=some q∧(q != (pre.length:Int))=pre.contains k:=by
  have hlen : pre.length < n := by have : pre.length ≤ (pre ++ k :: r).length := by simp
                                   omega
  obtain⟨z,g1,g2,g3⟩:=AA n hx n 0 (Nat.zero_le _) (by omega)
  refine⟨(z:Int),?_,?_⟩
  · show((bm n n (pre++k::r,k.1,k.2.1,k.2.2,((0:Nat):Int))).bind _)=_
    rw[g1];rfl
  · rw[List.drop_zero]at g3
    rw[Bool.eq_iff_iff]
    simp only[bne_iff_ne,ne_eq,List.contains_iff_mem]
    constructor
    · intro h
      exact Classical.byContradiction fun h2=>h (by rw[g3.2 h2])
    · intro h h2
      exact(g3.1 (by omega)) h
theorem rW (n:Nat) (hn:4294967296<n):∀(m:Nat) (pre r:List ab),(pre++r).length≤4294967296→r.length<m→cw n m (pre++r,(pre.length:Int))=some (bif cj n pre r then Sum.inr ()else Sum.inl false)
 |0,pre,r,hx,hm=>by omega
 |m+1,pre,[],hx,hm=>by
  show(cond (decide ((pre.length:Int)<((pre++[]).length:Int))) _ _)=_
  rw[decide_eq_false (by simp),cond_false];rfl
 |m+1,pre,k::r,hx,hm=>by
  have hlt:pre.length<(pre++k::r).length:=by simp
  have e0:cw n (m+1) (pre++k::r,(pre.length:Int))=(cond (decide ((pre.length:Int)<((pre++k::r).length:Int))) (cond (ba (pre.length:Int) (pre++k::r).length) ((cQ n (((pre++k::r).getD ((pre.length:Int)).toNat ((0:Int),((0:Int),(0:Int)))).1,((pre++k::r).getD ((pre.length:Int)).toNat ((0:Int),((0:Int),(0:Int)))).2.1,((pre++k::r).getD ((pre.length:Int)).toNat ((0:Int),((0:Int),(0:Int)))).2.2,(pre.length:Int))).bind fun r1=>(cond (!r1) (some (Sum.inl false)) (cond (ba (pre.length:Int) (pre++k::r).length) ((cI n (pre++k::r,((pre++k::r).getD ((pre.length:Int)).toNat ((0:Int),((0:Int),(0:Int)))).1,((pre++k::r).getD ((pre.length:Int)).toNat ((0:Int),((0:Int),(0:Int)))).2.1,((pre++k::r).getD ((pre.length:Int)).toNat ((0:Int),((0:Int),(0:Int)))).2.2)).bind fun r2=>(cond (r2 != (pre.length:Int)) (some (Sum.inl false)) (cw n m (pre++k::r,IntKind.i64.wrap ((pre.length:Int)+(1:Int)))))) none))) none) (some (Sum.inr ()))):=rfl
  obtain⟨q,g1,g2⟩:=LX n hn (pre:=pre) (r:=r) (k:=k) hx
  rw[e0,decide_eq_true (by omega:(pre.length:Int)<((pre++k::r).length:Int)),cond_true,aq hlt,cond_true,Int.toNat_natCast,j0 hlt,show(pre++k::r)[pre.length]=k by simp,Cn,g1]
  simp only[Option.bind_some,cond_true]
  rw[g2,aP hlt hx]
  have ih:=rW n hn m (pre++[k]) r (by simpa using hx) (by simp at hm;omega)
  rw[show pre++[k]++r=pre++k::r by simp,show(pre++[k]).length=pre.length+1 by simp]at ih
  rw[ih]
  rw[show cj n pre (k::r)=((!pre.contains k&&fP n (k.1,k.2.1,k.2.2,(pre.length:Int)))&&cj n (pre++[k]) r)from rfl]
  cases fP n (k.1,k.2.1,k.2.2,(pre.length:Int))<;>cases pre.contains k<;>cases cj n (pre++[k]) r<;>rfl
theorem lq (n:Nat) (hn:4294967296<n){xs:List ab}(hx:xs.length≤4294967296):eX n xs=some (decide (xs.length≤500)&&cj n [] xs):=by
 unfold eX
 by_cases q:xs.length≤500
 ·rw[decide_eq_false (by omega:¬(xs.length:Int)>(500:Int)),cond_false,decide_eq_true q,Bool.true_and]
  have:=rW n hn n [] xs (by simpa using hx) (by omega)
  rw[List.nil_append,show(([]:List ab).length:Int)=(0:Int)from rfl]at this
  rw[this]
  cases cj n [] xs<;>rfl
 ·rw[decide_eq_true (by omega:(xs.length:Int)>(500:Int)),cond_true,decide_eq_false q];rfl
def Z5 (kvs:List (ab×Int)) (pre:List ab):Prop:=∀k:ab,eA kN k kvs=if k∈pre then 1 else 0
theorem Rv{a b:ab}:kN.eqv a b=decide (a=b):=by
 rw[Bool.eq_iff_iff,decide_eq_true_iff]
 exact⟨vJ kN,fun h=>h▸ot kN rfl a⟩
theorem GB (n:Nat) (kvs:List (ab×Int)) (i a b c:Int) (xs:List ab) (l j:Int):ax n (kvs,i,a,b,c,xs,l,j)=some (kq kN (a,b,c) (IntKind.i64.wrap (eA kN (a,b,c) kvs+(1:Int))) kvs,i,a,b,c,xs,l,j):=by
 unfold ax
 rw[LH,cond_true,GU]
theorem sj (n:Nat){xs:List ab}(hx:xs.length≤4294967296):∀(m:Nat) (pre r:List ab) (kvs:List (ab×Int)),xs=pre++r→Z5 kvs pre→r.length<m→cB n m (kvs,xs,(xs.length:Int),(pre.length:Int))=some (bif cj n pre r then Sum.inr ()else Sum.inl false)
 |0,pre,r,kvs,he,hc,hm=>by omega
 |m+1,pre,[],kvs,he,hc,hm=>by
  show(cond (decide ((pre.length:Int)<(xs.length:Int))) _ _)=_
  rw[decide_eq_false (by rw[he];simp),cond_false];rfl
 |m+1,pre,k::r,kvs,he,hc,hm=>by
  have hlt:pre.length<xs.length:=by rw[he];simp
  have hk:xs[pre.length]=k:=by simp[he]
  have e0:cB n (m+1) (kvs,xs,(xs.length:Int),(pre.length:Int))=(cond (decide ((pre.length:Int)<(xs.length:Int))) (cond (ba (pre.length:Int) xs.length) ((ax n (kvs,(pre.length:Int),(xs.getD ((pre.length:Int)).toNat ((0:Int),((0:Int),(0:Int)))).1,(xs.getD ((pre.length:Int)).toNat ((0:Int),((0:Int),(0:Int)))).2.1,(xs.getD ((pre.length:Int)).toNat ((0:Int),((0:Int),(0:Int)))).2.2,xs,(xs.length:Int),(pre.length:Int))).bind fun g1=>(cond (decide ((eA kN (g1.2.2.1,(g1.2.2.2.1,g1.2.2.2.2.1)) g1.1)>(1:Int))) (some (Sum.inl false)) ((ci n (g1.2.2.1,g1.2.2.2.1,g1.2.2.2.2.1,g1.2.1)).bind fun r2=>(cond (!r2) (some (Sum.inl false)) (cB n m (g1.1,g1.2.2.2.2.2.1,g1.2.2.2.2.2.2.1,(IntKind.i64.wrap (g1.2.2.2.2.2.2.2+(1:Int))))))))) none) (some (Sum.inr ()))):=rfl
  rw[e0,decide_eq_true (by omega:(pre.length:Int)<(xs.length:Int)),cond_true,aq hlt,cond_true,Int.toNat_natCast,j0 hlt,hk,GB]
  simp only[Option.bind_some]
  have hself:kN.eqv (k.1,k.2.1,k.2.2) (k.1,k.2.1,k.2.2)=true:=ot kN rfl _
  have hke:((k.1,k.2.1,k.2.2):ab)=k:=rfl
  rw[rA hself,zN,aP hlt hx]
  rw[show cj n pre (k::r)=((!pre.contains k&&fP n (k.1,k.2.1,k.2.2,(pre.length:Int)))&&cj n (pre++[k]) r)from rfl]
  have hck:=hc k
  by_cases hin:k∈pre
  ·rw[if_pos hin]at hck
   have:pre.contains k=true:=by simpa using hin
   rw[this,show eA kN (k.1,k.2.1,k.2.2) kvs=1 from hck]
   rfl
  ·rw[if_neg hin]at hck
   have hcf:pre.contains k=false:=by simpa using hin
   rw[hcf,show eA kN (k.1,k.2.1,k.2.2) kvs=0 from hck]
   rw[show decide (IntKind.i64.wrap ((0:Int)+(1:Int))>(1:Int))=false from rfl,cond_false]
   have ih:=sj n hx m (pre++[k]) r (kq kN k (IntKind.i64.wrap ((0:Int)+(1:Int))) kvs) (by simpa using he) (by
    intro k'
    by_cases q:k'=k
    ·subst q
     rw[rA (ot kN rfl k')]
     simp;rfl
    ·rw[tU (by rw[Rv];exact decide_eq_false q),hc k']
     simp[q]) (by simp at hm;omega)
   rw[show(pre++[k]).length=pre.length+1 by simp]at ih
   simp only[Option.bind_some]
   rw[show kq kN (k.1,k.2.1,k.2.2) (IntKind.i64.wrap ((0:Int)+(1:Int))) kvs=kq kN k (IntKind.i64.wrap ((0:Int)+(1:Int))) kvs from rfl,ih]
   cases fP n (k.1,k.2.1,k.2.2,(pre.length:Int))<;>cases cj n (pre++[k]) r<;>rfl
theorem wK (n:Nat) (hn:4294967296<n){xs:List ab}(hx:xs.length≤4294967296):fS n xs=some (decide (xs.length≤500)&&cj n [] xs):=by
 unfold fS
 by_cases q:xs.length≤500
 ·rw[decide_eq_false (by omega:¬(xs.length:Int)>(500:Int)),cond_false,decide_eq_true q,Bool.true_and]
  have:=sj n hx n [] xs [] rfl (fun k=>by simp[eA,cg]) (by omega)
  rw[show(([]:List ab).length:Int)=(0:Int)from rfl]at this
  rw[this]
  cases cj n [] xs<;>rfl
 ·rw[decide_eq_true (by omega:(xs.length:Int)>(500:Int)),cond_true,decide_eq_false q];rfl
def cC (xs:List ab) (v:Int):Bool:=decide (v≥0)&&decide (v≤(xs.length:Int)-1)
theorem vu (n:Nat){xs:List ab}(hx:xs.length≤4294967296) (v:Int):eE n (xs,v)=some (cC xs v):=by
 show((bO n (v,(0:Int),IntKind.i64.wrap ((xs.length:Int)-(1:Int)))).bind fun r1=>some r1)=_
 rw[ak (by omega) (by omega),qF];rfl
theorem oo (n:Nat){xs:List ab}(hx:xs.length≤4294967296) (v:Int):dc n (xs,v)=some (xs,cC xs v):=by
 show((aB n (v,(0:Int),IntKind.i64.wrap ((xs.length:Int)-(1:Int)))).bind fun r1=>some (xs,r1))=_
 rw[ak (by omega) (by omega),dY];rfl
def d6 (xs:List ab):List Int→Bool
 |[]=>true
 |v::r=>(v == -1 || cC xs v)&&d6 xs r
theorem ue (n:Nat){xs:List ab}(hx:xs.length≤4294967296){env:List Int}(he:env.length≤4294967296):∀(m:Nat) (pre r:List Int),env=pre++r→r.length<m →
  bS n m (env,xs,env,(env.length:Int),(pre.length:Int))=some (bif d6 xs r then Sum.inr (env,xs)else Sum.inl false)
 |0,pre,r,h,hm=>by omega
 |m+1,pre,[],h,hm=>by
  show(cond (decide ((pre.length:Int)<(env.length:Int))) _ _)=_
  rw[decide_eq_false (by rw[h];simp),cond_false];rfl
 |m+1,pre,v::r,h,hm=>by
  have hlt:pre.length<env.length:=by rw[h];simp
  have hk:env[pre.length]=v:=by simp[h]
  have e0:bS n (m+1) (env,xs,env,(env.length:Int),(pre.length:Int))=(cond (decide ((pre.length:Int)<(env.length:Int))) (cond (ba (pre.length:Int) env.length) (cond ((env.getD ((pre.length:Int)).toNat (0:Int)) != (-1:Int)) ((dc n (xs,(env.getD ((pre.length:Int)).toNat (0:Int)))).bind fun r1=>(cond (!r1.2) (some (Sum.inl false)) (bS n m (env,r1.1,env,(env.length:Int),(IntKind.i64.wrap ((pre.length:Int)+(1:Int))))))) (bS n m (env,xs,env,(env.length:Int),(IntKind.i64.wrap ((pre.length:Int)+(1:Int)))))) none) (some (Sum.inr (env,xs)))):=rfl
  rw[e0,decide_eq_true (by omega:(pre.length:Int)<(env.length:Int)),cond_true,aq hlt,cond_true,Int.toNat_natCast,j0 hlt,hk,aP hlt he,oo n hx]
  have ih:=ue n hx he m (pre++[v]) r (by simpa using h) (by simp at hm;omega)
  rw[show(pre++[v]).length=pre.length+1 by simp]at ih
  simp only[Option.bind_some,ih]
  rw[show d6 xs (v::r)=((v == -1 || cC xs v)&&d6 xs r)from rfl,show(v != -1) = !(v == -1)from rfl]
  cases v == -1<;>cases cC xs v<;>cases d6 xs r<;>rfl
theorem sR (n:Nat) (hn:4294967296<n){xs:List ab}(hx:xs.length≤4294967296){env:List Int}(he:env.length≤4294967296) :
  po n (xs,env)=some (d6 xs env&&(decide (env.length=26)&&(decide (xs.length≤500)&&cj n [] xs))):=by
 have:=ue n hx he n [] env rfl (by omega)
 rw[show(([]:List Int).length:Int)=(0:Int)from rfl]at this
 show((bS n n (env,xs,env,(env.length:Int),(0:Int))).bind _)=_
 rw[this]
 cases d6 xs env with
 |false=>rfl
 |true =>
  show(cond ((env.length:Int)==(26:Int)) ((fS n xs).bind fun r5=>some r5) (some false))=_
  rw[wK n hn hx]
  by_cases q:env.length=26
  ·rw[show((env.length:Int)==(26:Int))=true by rw[q];rfl,decide_eq_true q];rfl
  ·rw[show((env.length:Int)==(26:Int))=false by simp;omega,decide_eq_false q];rfl
theorem tJ (n:Nat){xs:List ab}(hx:xs.length≤4294967296){env:List Int}(he:env.length=26):∀(m:Nat) (pre r:List Int),env=pre++r→r.length<m →
  bB n m (env,xs,(pre.length:Int))=some (bif d6 xs r then Sum.inr ()else Sum.inl false)
 |0,pre,r,h,hm=>by omega
 |m+1,pre,[],h,hm=>by
  show(cond (decide ((pre.length:Int)<(26:Int))) _ _)=_
  have:pre.length=26:=by rw[h]at he;simpa using he
  rw[decide_eq_false (by omega),cond_false];rfl
 |m+1,pre,v::r,h,hm=>by
  have hlt:pre.length<env.length:=by rw[h];simp
  have hk:env[pre.length]=v:=by simp[h]
  have e0:bB n (m+1) (env,xs,(pre.length:Int))=(cond (decide ((pre.length:Int)<(26:Int))) (cond (ba (pre.length:Int) env.length) (cond ((env.getD ((pre.length:Int)).toNat (0:Int)) != (-1:Int)) (cond (ba (pre.length:Int) env.length) ((eE n (xs,(env.getD ((pre.length:Int)).toNat (0:Int)))).bind fun r1=>(cond (!r1) (some (Sum.inl false)) (bB n m (env,xs,(IntKind.i64.wrap ((pre.length:Int)+(1:Int))))))) none) (bB n m (env,xs,(IntKind.i64.wrap ((pre.length:Int)+(1:Int)))))) none) (some (Sum.inr ()))):=rfl
  rw[e0,decide_eq_true (by omega:(pre.length:Int)<(26:Int)),cond_true,aq hlt,cond_true,cond_true,Int.toNat_natCast,j0 hlt,hk,aP hlt (by omega),vu n hx]
  have ih:=tJ n hx he m (pre++[v]) r (by simpa using h) (by simp at hm;omega)
  rw[show(pre++[v]).length=pre.length+1 by simp]at ih
  simp only[Option.bind_some,ih]
  rw[show d6 xs (v::r)=((v == -1 || cC xs v)&&d6 xs r)from rfl,show(v != -1) = !(v == -1)from rfl]
  cases v == -1<;>cases cC xs v<;>cases d6 xs r<;>rfl
theorem DT (n:Nat) (hn:4294967296<n){xs:List ab}(hx:xs.length≤4294967296){env:List Int}:nw n (xs,env)=some (decide (env.length=26)&&d6 xs env):=by
 show(cond ((env.length:Int) != (26:Int)) (some false) ((bB n n (env,xs,(0:Int))).bind _))=_
 by_cases q:env.length=26
 ·have:=tJ n hx q n [] env rfl (by omega)
  rw[show(([]:List Int).length:Int)=(0:Int)from rfl]at this
  rw[show((env.length:Int) != (26:Int))=false by rw[q];rfl,cond_false,this,decide_eq_true q]
  cases d6 xs env<;>rfl
 ·rw[show((env.length:Int) != (26:Int))=true by simp;omega,decide_eq_false q];rfl
theorem Lk{w p:Int}{L:Nat}(h1:(eZ N0 (w,p)).map (fun r=>(r.1.length,r.2))=some (L,true)) (h2:(cU N0 (w,p)).map List.length=some L) (h3:cT N0 (w,p)=some true) (h4:L≤20) :
  ∃a b,eZ N0 (w,p)=some (a,true)∧cU N0 (w,p)=some b∧a.length=b.length∧a.length≤20∧cT N0 (w,p)=some true:=by
 cases e1:eZ N0 (w,p)with
 |none=>rw[e1]at h1;cases h1
 |some r =>
  cases e2:cU N0 (w,p)with
  |none=>rw[e2]at h2;cases h2
  |some b =>
   rw[e1]at h1
   rw[e2]at h2
   obtain⟨g1,g2⟩:=Prod.mk.inj (Option.some.inj h1)
   have g3:b.length=L:=Option.some.inj h2
   obtain⟨a,t⟩:=r
   have g2:t=true:=g2
   subst g2
   exact⟨a,b,rfl,rfl,by rw[g3];exact g1,by have:a.length=L:=g1;omega,h3⟩
theorem Ll (w p:Int) (hw:w=1∨w=2∨w=3) (hp:p=0∨p=1):∃a b,eZ N0 (w,p)=some (a,true)∧cU N0 (w,p)=some b∧a.length=b.length∧a.length≤20∧cT N0 (w,p)=some true:=by
 rcases hw with rfl|rfl|rfl<;>rcases hp with rfl|rfl
 all_goals exact Lk (L:=5) (by kernel_rfl) (by kernel_rfl) (by kernel_rfl) (by omega)
theorem Cl (w p:Int) (h:¬((w=1∨w=2∨w=3)∧(p=0∨p=1))):eZ N0 (w,p)=some ([],false)∧cT N0 (w,p)=some false:=by
 constructor
 ·have e1:gp N0 (w,p)=some (⟨#[]⟩:ByteArray):=by
   unfold gp
   simp only[dY,Option.bind_some]
   by_cases h1:decide (w≥1)&&decide (w≤3)
   ·rw[h1]
    have h2:(decide (p≥0)&&decide (p≤1))=false:=by
     rw[Bool.eq_false_iff]
     intro h2
     simp at h1 h2
     omega
    rw[h2];rfl
   ·rw[Bool.not_eq_true]at h1
    rw[h1];rfl
  show((gp N0 (w,p)).bind _)=_
  rw[e1]
  show((gW N0 (⟨#[]⟩:ByteArray)).bind fun r2=>some (r2.1,r2.2))=_
  rw[show gW N0 (⟨#[]⟩:ByteArray)=some ([],false)by kernel_rfl];rfl
 ·have e1:eg N0 (w,p)=some (⟨#[]⟩:ByteArray):=by
   unfold eg
   have q:∀a b:Int,(w==a)=decide (w=a):=fun a b=>rfl
   by_cases w1:w=1
   ·subst w1
    have p0:(p==0)=false:=by simp;omega
    have p1:(p==1)=false:=by simp;omega
    simp only[p0,p1];rfl
   ·by_cases w2:w=2
    ·subst w2
     have p0:(p==0)=false:=by simp;omega
     have p1:(p==1)=false:=by simp;omega
     simp only[p0,p1];rfl
    ·by_cases w3:w=3
     ·subst w3
      have p0:(p==0)=false:=by simp;omega
      have p1:(p==1)=false:=by simp;omega
      simp only[p0,p1];rfl
     ·have e1:(w==1)=false:=by simpa using w1
      have e2:(w==2)=false:=by simpa using w2
      have e3:(w==3)=false:=by simpa using w3
      simp only[e1,e2,e3];rfl
  show((eg N0 (w,p)).bind fun r1=>some (!gC r1 (⟨#[]⟩:ByteArray)))=_
  rw[e1]
  show some (!gC (⟨#[]⟩:ByteArray) (⟨#[]⟩:ByteArray))=_
  rw[show gC (⟨#[]⟩:ByteArray) (⟨#[]⟩:ByteArray)=true from decide_eq_true rfl];rfl
theorem qT (n:Nat) (x:Int):iw n x=some (decide (x≥0)&&decide (x≤4)):=by
 show((aB n (x,(0:Int),(4:Int))).bind fun r=>some r)=_
 rw[dY];rfl
theorem II (n:Nat) (x:Int):bh n x=some (decide (x≥0)&&decide (x≤4)):=qT n x
theorem n0:4294967296<N0:=by decide
def FG (n:Nat) (x:List ab×Int×Int×Int×Int×Int×List Int×Bool×Bool×Int):Option Bool:=(eX n x.1).bind fun r1=>(cond r1 ((fT n (x.1,x.2.1,x.2.2.1,x.2.2.2.1,x.2.2.2.2.1,x.2.2.2.2.2.1,x.2.2.2.2.2.2.1,x.2.2.2.2.2.2.2.1,x.2.2.2.2.2.2.2.2.1,x.2.2.2.2.2.2.2.2.2)).bind fun r2=>(some r2)) (some false))
theorem EB{xs:List ab}(hx:xs.length≤4294967296){w p a b at_:Int}{env:List Int}(he:env.length≤4294967296){dn dd:Bool}{key:Int} :
  ∃v,fc N0 (xs,w,p,a,b,at_,env,dn,dd,key)=some v∧FG N0 (xs,w,p,a,b,at_,env,dn,dd,key)=some v:=by
 unfold fc FG fT
 simp only[lq N0 n0 hx,sR N0 n0 hx he,DT N0 n0 hx,qT,II,Option.bind_some]
 by_cases hr:(w=1∨w=2∨w=3)∧(p=0∨p=1)
 ·obtain⟨ra,rb,r1,r2,r3,r4,r5⟩:=Ll w p hr.1 hr.2
  rw[r1,r2,r5]
  simp only[Option.bind_some,dY,qF,oo N0 hx,vu N0 hx, ←r3,ak (show -9223372036854775808≤(ra.length:Int)-1 by omega) (show(ra.length:Int)-1≤9223372036854775807 by omega)]
  generalize (decide (a≥0)&&decide (a≤4))=A
  generalize (decide (b≥0)&&decide (b≤4))=B
  generalize (a==b)=C
  generalize d6 xs env=D
  generalize decide (env.length=26)=F
  generalize (decide (xs.length≤500)&&cj N0 [] xs)=G
  generalize cC xs key=H
  generalize (key == -1)=K
  have hq:(at_==(ra.length:Int))=true→(decide (at_≥0)&&decide (at_≤(ra.length:Int)))=true:=by
   intro h
   have:at_=(ra.length:Int):=by simpa using h
   simp;omega
  have hq2:(at_==(ra.length:Int))=false→(decide (at_≥0)&&decide (at_≤(ra.length:Int)-1))=(decide (at_≥0)&&decide (at_≤(ra.length:Int))):=by
   intro h
   have:at_≠(ra.length:Int):=by simpa using h
   congr 1
   rw[Bool.eq_iff_iff];simp;omega
  have hq3:(at_==(ra.length:Int))=true→(decide (at_≥0)&&decide (at_≤(ra.length:Int)-1))=false:=by
   intro h
   have:at_=(ra.length:Int):=by simpa using h
   rw[Bool.and_eq_false_iff];right;simp;omega
  revert hq hq2 hq3
  generalize (at_==(ra.length:Int))=M
  generalize (decide (at_≥0)&&decide (at_≤(ra.length:Int)))=R
  generalize (decide (at_≥0)&&decide (at_≤(ra.length:Int)-1))=R2
  intro hq hq2 hq3
  cases M
  ·have:=hq2 rfl
   subst this
   refine⟨A&&(B&&(!C&&(D&&(F&&(G&&(R2&&(!dn&&K))))))),?_,?_⟩<;>clear hq hq2 hq3<;>revert A B C D F G H K R2 dn dd<;>decide
  ·have h1:=hq rfl
   have h2:=hq3 rfl
   subst h1;subst h2
   refine⟨A&&(B&&(!C&&(D&&(F&&(G&&(dn&&(!dd&&H))))))),?_,?_⟩<;>clear hq hq2 hq3<;>revert A B C D F G H K dn dd<;>decide
 ·obtain⟨r1,r2⟩:=Cl w p hr
  rw[r1,r2]
  refine⟨false,rfl,?_⟩
  cases(decide (xs.length≤500)&&cj N0 [] xs)<;>rfl
def bW (g:Nat→Bool):Nat→Nat→Bool
 |_,0=>true
 |i,k+1=>g i&&bW g (i+1) k
theorem dS{g:Nat→Bool}:∀{k i:Nat},bW g i k=true↔∀j,i≤j→j<i+k→g j=true
 |0,i=>⟨fun _ j h1 h2=>by omega,fun _=>rfl⟩
 |k+1,i=>by
  show(g i&&bW g (i+1) k)=true↔_
  rw[Bool.and_eq_true,dS]
  constructor
  ·rintro ⟨h1,h2⟩ j g1 g2
   rcases Nat.eq_or_lt_of_le g1 with q|q
   ·subst q;exact h1
   ·exact h2 j q (by omega)
  ·exact fun h=>⟨h i (Nat.le_refl _) (by omega),fun j g1 g2=>h j (by omega) (by omega)⟩
theorem ru {α:Type} [DecidableEq α]:∀{l m:List α},l.Nodup→(∀x∈l,x∈m)→l.length≤m.length
 |[],m,_,_=>Nat.zero_le _
 |a::l,m,hn,hs=>by
  have ha:=hs a (List.mem_cons_self ..)
  have hn':=List.nodup_cons.1 hn
  have:=ru (l:=l) (m:=m.erase a) hn'.2 (fun x hx=>(List.mem_erase_of_ne (fun(e:x=a)=>hn'.1 (e▸hx))).2 (hs x (List.mem_cons_of_mem _ hx)))
  rw[List.length_erase_of_mem ha]at this
  have:0<m.length:=List.length_pos_of_mem ha
  simp;omega
theorem Et {α:Type} [DecidableEq α]{l m:List α}(hl:l.Nodup) (hm:m.Nodup) (hs:∀x∈l,x∈m):(∀x∈m,x∈l)↔l.length=m.length:=by
 constructor
 ·exact fun h=>Nat.le_antisymm (ru hl hs) (ru hm h)
 ·intro h x hx
  exact Classical.byContradiction fun hn=>by
   have:=ru (l:=x::l) (m:=m) (List.nodup_cons.2 ⟨hn,hl⟩) (fun y hy=>by
    rcases List.mem_cons.1 hy with q|q
    ·exact q▸hx
    ·exact hs y q)
   simp at this;omega
def places (d:Nat→Bool) (n:Nat):List Nat:=(List.range n).filter d
theorem Be (d:Nat→Bool) (n:Nat):(places d n).Nodup:=List.nodup_range.filter _
theorem sM{d:Nat→Bool}{n i:Nat}:i∈places d n↔i<n∧d i=true:=by
 unfold places
 rw[List.mem_filter,List.mem_range]
theorem Cw (d:Nat→Bool) (n:Nat):(places d (n+1)).length=(places d n).length+(bif d n then 1 else 0):=by
 unfold places
 rw[List.range_succ,List.filter_append,List.length_append]
 cases h:d n<;>simp[h]
theorem Kd (done:Nat→Bool) (n:Nat) (L:List Int) (hnd:L.Nodup) (hin:∀k∈L, ∃i:Nat,k=(i:Int)∧i<n∧done i=true):(∀i:Nat,i<n→done i=true→(i:Int)∈L)↔L.length=(places done n).length:=by
 have hm:((places done n).map Int.ofNat).Nodup:=List.pairwise_map.2 ((Be done n).imp fun hne e=>hne (Int.ofNat.inj e))
 have:=Et hnd hm (fun k hk=>by
  obtain⟨i,rfl,h1,h2⟩:=hin k hk
  exact List.mem_map.2 ⟨i,sM.2 ⟨h1,h2⟩,rfl⟩)
 rw[List.length_map]at this
 rw[←this]
 constructor
 ·intro h x hx
  obtain⟨i,hi,rfl⟩:=List.mem_map.1 hx
  have:=sM.1 hi
  exact h i this.1 this.2
 ·intro h i h1 h2
  exact h _ (List.mem_map.2 ⟨i,sM.2 ⟨h1,h2⟩,rfl⟩)
theorem Es{L:List Int}:L.Nodup↔∀i,i<L.length→∀j,j<i→L.getD j 0≠L.getD i 0:=by
 rw[List.Nodup,List.pairwise_iff_getElem]
 constructor
 ·intro h i hi j hj
  rw[j0 hi,j0 (by omega)]
  exact h j i (by omega) hi hj
 ·intro h i j hi hj hij
  have:=h j hj i hij
  rw[j0 hi,j0 hj]at this
  exact this
abbrev bo:=Int×(Int×(Int×(Int×(Int×((List Int)×(Bool×(Bool×Int)))))))
abbrev aS:=Int×(Bool×Bool)
abbrev zI:bo:=((0:Int),((0:Int),((0:Int),((0:Int),((0:Int),([],(false,(false,(0:Int)))))))))
abbrev zC:aS:=((0:Int),(false,false))
theorem dT{X A B:Type}(L:Nat→X→Option (A⊕B)) (st:Nat→X) (g:Nat→Bool) (bad:A) (fin:B) (len:Nat)
  (step:∀m i,i<len→L (m+1) (st i)=bif g i then L m (st (i+1))else some (.inl bad)) (stop:∀m,L (m+1) (st len)=some (.inr fin)) :
  ∀m i,i≤len→len<m+i→L m (st i)=some (bif bW g i (len-i)then .inr fin else .inl bad)
 |0,i,h1,h2=>by omega
 |m+1,i,h1,h2=>by
  rcases Nat.eq_or_lt_of_le h1 with q|q
  ·subst q
   rw[stop,Nat.sub_self];rfl
  ·rw[step m i q,show len-i=(len-(i+1))+1 by omega]
   show(bif g i then _ else _)=some (bif g i&&bW g (i+1) (len-(i+1))then _ else _)
   cases g i with
   |false=>rfl
   |true=>exact dT L st g bad fin len step stop m (i+1) q (by omega)
theorem rf{i:Nat}(h:0<i) (hi:i≤4294967296):IntKind.i64.wrap ((i:Int)-(1:Int))=((i-1:Nat):Int):=by
 rw[ak (by omega) (by omega)];omega
theorem Oj (i n:Nat):decide ((i:Int)<(n:Int))=decide (i<n):=by
 rw[Bool.eq_iff_iff];simp
theorem nh{i n:Nat}(h:i<n):decide ((i:Int)<(n:Int))=true:=decide_eq_true (by omega)
theorem tY (n:Nat):decide ((n:Int)<(n:Int))=false:=decide_eq_false (by omega)
def eI (l:List Int) (j:Nat):Bool:=decide (j=0) || decide (l.getD (j-1) 0<l.getD j 0)
def gV (xs:List ab) (k:List Int) (j:Nat):Bool:=cC xs (k.getD j 0)&&eI k j
theorem Kn{i:Nat}(h:0<i):decide ((i:Int)>(0:Int))=true:=decide_eq_true (by omega)
theorem Ac (a b:Int):decide (a≤b) = !decide (b<a):=by
 rw[Bool.eq_iff_iff];simp
theorem Au (a b:Int):decide (a≥b) = !decide (a<b):=by
 rw[Bool.eq_iff_iff];simp
theorem zb{xs:List ab}(hx:xs.length≤4294967296){k:List Int}(hk:k.length≤4294967296) (m i:Nat) (hi:i<k.length) :
  bd N0 (m+1) (k,xs,k,(k.length:Int),(i:Int))=bif gV xs k i then bd N0 m (k,xs,k,(k.length:Int),((i+1:Nat):Int))else some (.inl false):=by
 rw[bd]
 dsimp only
 rw[nh hi,cond_true,aq hi,cond_true,oo N0 hx]
 simp only[Option.bind_some,Int.toNat_natCast,aP hi hk]
 unfold gV eI
 cases cC xs (k.getD i 0)with
 |false=>rfl
 |true =>
  rcases Nat.eq_zero_or_pos i with q|q
  ·subst q;rfl
  ·rw[Kn q,cond_true,rf q (by omega),aq (by omega),cond_true,Int.toNat_natCast,Ac,decide_eq_false (by omega:¬i=0)]
   cases decide (k.getD (i-1) 0<k.getD i 0)<;>rfl
theorem Dg{xs:List ab}(hx:xs.length≤4294967296){k:List Int}(hk:k.length≤4294967296) :
  nD N0 (xs,k)=some (bW (gV xs k) 0 k.length&&(decide (k.length≤200)&&(decide (xs.length≤500)&&cj N0 [] xs))):=by
 have:=dT (bd N0) (fun i=>(k,xs,k,(k.length:Int),(i:Int))) (gV xs k) false (k,xs) k.length (zb hx hk) (fun m=>by
  rw[bd];dsimp only;rw[tY];rfl) N0 0 (Nat.zero_le _) (by have:=n0;omega)
 rw[Nat.sub_zero]at this
 show((bd N0 N0 (k,xs,k,(k.length:Int),(0:Int))).bind _)=_
 rw[show bd N0 N0 (k,xs,k,(k.length:Int),(0:Int))=_ from this]
 cases bW (gV xs k) 0 k.length with
 |false=>rfl
 |true =>
  show(cond (decide ((k.length:Int)≤(200:Int))) ((fS N0 xs).bind fun r5=>some r5) (some false))=_
  rw[wK N0 n0 hx]
  by_cases q:k.length≤200
  ·rw[decide_eq_true (by omega:(k.length:Int)≤(200:Int)),decide_eq_true q];rfl
  ·rw[decide_eq_false (by omega:¬(k.length:Int)≤(200:Int)),decide_eq_false q];rfl
theorem yS{xs:List ab}(hx:xs.length≤4294967296){k:List Int}(hk:k.length≤4294967296) (m i:Nat) (hi:i<k.length) :
  bb N0 (m+1) (k,xs,(i:Int))=bif gV xs k i then bb N0 m (k,xs,((i+1:Nat):Int))else some (.inl false):=by
 rw[bb]
 dsimp only
 rw[nh hi,cond_true,aq hi,cond_true,vu N0 hx]
 simp only[Option.bind_some,Int.toNat_natCast,aP hi hk]
 unfold gV eI
 cases cC xs (k.getD i 0)with
 |false=>rfl
 |true =>
  rcases Nat.eq_zero_or_pos i with q|q
  ·subst q;rfl
  ·rw[Kn q,cond_true,rf q (by omega),aq (by omega),cond_true,Int.toNat_natCast,Au,decide_eq_false (by omega:¬i=0)]
   cases decide (k.getD (i-1) 0<k.getD i 0)<;>rfl
theorem wz{xs:List ab}(hx:xs.length≤4294967296){k:List Int}(hk:k.length≤4294967296) :
  jo N0 (xs,k)=some (bW (gV xs k) 0 k.length&&(decide (k.length≤200)&&(decide (xs.length≤500)&&cj N0 [] xs))):=by
 have:=dT (bb N0) (fun i=>(k,xs,(i:Int))) (gV xs k) false () k.length (yS hx hk) (fun m=>by
  rw[bb];dsimp only;rw[tY];rfl) N0 0 (Nat.zero_le _) (by have:=n0;omega)
 rw[Nat.sub_zero]at this
 have e:ld N0 (xs,k)=some (decide (k.length≤200)&&bW (gV xs k) 0 k.length):=by
  show(cond (decide ((k.length:Int)>(200:Int))) (some false) ((bb N0 N0 (k,xs,(0:Int))).bind _))=_
  rw[show bb N0 N0 (k,xs,(0:Int))=_ from this]
  by_cases q:k.length≤200
  ·rw[decide_eq_false (by omega:¬(k.length:Int)>(200:Int)),decide_eq_true q]
   cases bW (gV xs k) 0 k.length<;>rfl
  ·rw[decide_eq_true (by omega:(k.length:Int)>(200:Int)),decide_eq_false q];rfl
 show((eX N0 xs).bind fun r1=>(cond r1 ((ld N0 (xs,k)).bind fun r2=>(some r2)) (some false)))=_
 rw[lq N0 n0 hx,e]
 generalize (decide (xs.length≤500)&&cj N0 [] xs)=P
 generalize bW (gV xs k) 0 k.length=Q
 generalize decide (k.length≤200)=R
 cases P<;>cases Q<;>cases R<;>rfl
theorem KA{k:List Int}(hk:k.length≤4294967296) (m i:Nat) (h0:0<i) (hi:i<k.length) :
  au N0 (m+1) (k,(i:Int))=bif eI k i then au N0 m (k,((i+1:Nat):Int))else some (.inl false):=by
 rw[au]
 dsimp only
 rw[nh hi,cond_true,aq hi,cond_true,rf h0 (by omega),aq (by omega),cond_true,Int.toNat_natCast,Int.toNat_natCast,aP hi hk,Ac]
 unfold eI
 rw[decide_eq_false (by omega:¬i=0)]
 cases decide (k.getD (i-1) 0<k.getD i 0)<;>rfl
theorem yl{k:List Int}(hk:k.length≤4294967296):fJ N0 k=some (bW (eI k) 0 k.length):=by
 have h0:∀m,au N0 (m+1) (k,(k.length:Int))=some (.inr ()):=fun m=>by
  rw[au];dsimp only;rw[tY];rfl
 show((au N0 N0 (k,(1:Int))).bind _)=_
 rcases Nat.eq_zero_or_pos k.length with q|q
 ·have:k=[]:=List.eq_nil_of_length_eq_zero q
  subst this
  rfl
 ·have:=dT (au N0) (fun i=>(k,((i+1:Nat):Int))) (fun i=>eI k (i+1)) false () (k.length-1) (fun m i hi=>KA hk m (i+1) (Nat.succ_pos i) (by omega)) (fun m=>by
   rw[show k.length-1+1=k.length by omega];exact h0 m) N0 0 (Nat.zero_le _) (by have:=n0;omega)
  rw[show au N0 N0 (k,(1:Int))=_ from this]
  have e:bW (fun i=>eI k (i+1)) 0 (k.length-1-0)=bW (eI k) 0 k.length:=by
   rw[Bool.eq_iff_iff,dS,dS]
   constructor
   ·intro h j h1 h2
    rcases Nat.eq_zero_or_pos j with z|z
    ·subst z;rfl
    ·have:=h (j-1) (Nat.zero_le _) (by omega)
     rw[show j-1+1=j by omega]at this
     exact this
   ·intro h j h1 h2
    exact h (j+1) (Nat.zero_le _) (by omega)
  rw[e]
  cases bW (eI k) 0 k.length<;>rfl
def ud (lo hi v:Int):Bool:=decide (v≥lo)&&decide (v≤hi)
theorem IG{k:List Int}(hk:k.length≤4294967296) (lo hi:Int) (m i:Nat) (hl:i<k.length) :
  bc N0 (m+1) (k,lo,hi,(i:Int))=bif ud lo hi (k.getD i 0)&&eI k i then bc N0 m (k,lo,hi,((i+1:Nat):Int))else some (.inl false):=by
 rw[bc]
 dsimp only
 rw[nh hl,cond_true,aq hl,cond_true,qF]
 simp only[Option.bind_some,Int.toNat_natCast,aP hl hk]
 rw[show(decide (k.getD i 0≥lo)&&decide (k.getD i 0≤hi))=ud lo hi (k.getD i 0)from rfl]
 unfold eI
 cases ud lo hi (k.getD i 0)with
 |false=>rfl
 |true =>
  rcases Nat.eq_zero_or_pos i with q|q
  ·subst q;rfl
  ·rw[Kn q,cond_true,rf q (by omega),aq (by omega),cond_true,Int.toNat_natCast,Au,decide_eq_false (by omega:¬i=0)]
   cases decide (k.getD (i-1) 0<k.getD i 0)<;>rfl
theorem xB{k:List Int}(hk:k.length≤4294967296) (lo hi:Int):ll N0 (k,lo,hi)=some (bW (fun j=>ud lo hi (k.getD j 0)&&eI k j) 0 k.length):=by
 have:=dT (bc N0) (fun i=>(k,lo,hi,(i:Int))) (fun j=>ud lo hi (k.getD j 0)&&eI k j) false () k.length (IG hk lo hi) (fun m=>by
  rw[bc];dsimp only;rw[tY];rfl) N0 0 (Nat.zero_le _) (by have:=n0;omega)
 rw[Nat.sub_zero]at this
 show((bc N0 N0 (k,lo,hi,(0:Int))).bind _)=_
 rw[show bc N0 N0 (k,lo,hi,(0:Int))=_ from this]
 cases bW (fun j=>ud lo hi (k.getD j 0)&&eI k j) 0 k.length<;>rfl
def kr (l:List Int) (v:Int):Bool := !bW (fun j => !(l.getD j 0==v)) 0 l.length
theorem jg{k:List Int}(hk:k.length≤4294967296) (v:Int):dp N0 (k,v)=some (kr k v):=by
 have:=dT (bv N0) (fun i=>(k,v,(i:Int))) (fun j => !(k.getD j 0==v)) true () k.length (fun m i hi=>by
  rw[bv];dsimp only
  rw[nh hi,cond_true,aq hi,cond_true,Int.toNat_natCast,aP hi hk]
  cases(k.getD i 0==v)<;>rfl) (fun m=>by
  rw[bv];dsimp only;rw[tY];rfl) N0 0 (Nat.zero_le _) (by have:=n0;omega)
 rw[Nat.sub_zero]at this
 show((bv N0 N0 (k,v,(0:Int))).bind _)=_
 rw[show bv N0 N0 (k,v,(0:Int))=_ from this]
 unfold kr
 cases bW (fun j => !(k.getD j 0==v)) 0 k.length<;>rfl
theorem vw{l:List Int}{v:Int}:kr l v=true↔∃j,j<l.length∧l.getD j 0=v:=by
 unfold kr
 rw[Bool.not_eq_true',Bool.eq_false_iff,ne_eq,dS]
 constructor
 ·intro h
  refine Classical.byContradiction fun h2=>h fun j _ hj=>?_
  have:¬l.getD j 0=v:=fun e=>h2 ⟨j,by omega,e⟩
  simpa using this
 ·rintro ⟨j,h1,h2⟩ h
  have:=h j (Nat.zero_le _) (by omega)
  rw[h2]at this
  simp at this
abbrev kI:Ty := .int .i64
abbrev tu (x:bo):List Int:=x.2.2.2.2.2.1
def dn (x:bo):Bool:=x.2.2.2.2.2.2.1
structure Small (xs:List ab) (kn:List Int) (li:List bo) (gv sh:List Int) (lg:List aS):Prop where
 fx:xs.length≤4294967296
 fk:kn.length≤4294967296
 fl:li.length≤4294967296
 fg:gv.length≤4294967296
 fs:sh.length≤4294967296
 fo:lg.length≤4294967296
 fe:∀i,i<li.length→(tu (li.getD i zI)).length≤4294967296
def iP (xs:List ab) (x:bo):Bool:=(fc N0 (xs,x.1,x.2.1,x.2.2.1,x.2.2.2.1,x.2.2.2.2.1,x.2.2.2.2.2.1,x.2.2.2.2.2.2.1,x.2.2.2.2.2.2.2.1,x.2.2.2.2.2.2.2.2)).getD false
theorem rH{xs:List ab}(hx:xs.length≤4294967296){x:bo}(he:(tu x).length≤4294967296) :
  fc N0 (xs,x.1,x.2.1,x.2.2.1,x.2.2.2.1,x.2.2.2.2.1,x.2.2.2.2.2.1,x.2.2.2.2.2.2.1,x.2.2.2.2.2.2.2.1,x.2.2.2.2.2.2.2.2)=some (iP xs x) ∧
  FG N0 (xs,x.1,x.2.1,x.2.2.1,x.2.2.2.1,x.2.2.2.2.1,x.2.2.2.2.2.1,x.2.2.2.2.2.2.1,x.2.2.2.2.2.2.2.1,x.2.2.2.2.2.2.2.2)=some (iP xs x):=by
 obtain⟨v,h1,h2⟩:=EB hx (w:=x.1) (p:=x.2.1) (a:=x.2.2.1) (b:=x.2.2.2.1) (at_:=x.2.2.2.2.1) (env:=x.2.2.2.2.2.1) he (dn:=x.2.2.2.2.2.2.1) (dd:=x.2.2.2.2.2.2.2.1) (key:=x.2.2.2.2.2.2.2.2)
 unfold iP
 rw[h1]
 exact⟨rfl,h2⟩
def aO (xs:List ab):Bool:=decide (xs.length≤500)&&cj N0 [] xs
theorem Ol{xs:List ab}(hx:xs.length≤4294967296){x:bo}(he:(tu x).length≤4294967296) (hP:aO xs=true) :
  fT N0 (xs,x.1,x.2.1,x.2.2.1,x.2.2.2.1,x.2.2.2.2.1,x.2.2.2.2.2.1,x.2.2.2.2.2.2.1,x.2.2.2.2.2.2.2.1,x.2.2.2.2.2.2.2.2)=some (iP xs x):=by
 have h2:=(rH hx he).2
 have hP:(decide (xs.length≤500)&&cj N0 [] xs)=true:=hP
 rw[FG]at h2
 dsimp only at h2
 rw[lq N0 n0 hx,hP]at h2
 simp only[Option.bind_some,cond_true]at h2
 cases hq:fT N0 (xs,x.1,x.2.1,x.2.2.1,x.2.2.2.1,x.2.2.2.2.1,x.2.2.2.2.2.1,x.2.2.2.2.2.2.1,x.2.2.2.2.2.2.2.1,x.2.2.2.2.2.2.2.2)with
 |none=>rw[hq]at h2;cases h2
 |some v=>rw[hq]at h2;exact h2
def wJ (n:Int) (k:Int):Bool:=decide (k≥0)&&decide (k≤n-1)
def mR (li:List bo) (k:Int):Bool:=wJ (li.length:Int) k&&dn (li.getD k.toNat zI)
theorem Am{li:List bo}{k:Int}(h:wJ (li.length:Int) k=true):ba k li.length=true:=by
 unfold wJ at h
 simp at h
 exact decide_eq_true ⟨by omega,by omega⟩
section
variable{xs:List ab}{kn:List Int}{li:List bo}{fr:Int}{gv sh:List Int}{lg:List aS}
theorem Il (hl:li.length≤4294967296) (k:Int):e9 N0 (xs,kn,li,fr,gv,sh,lg,k)=some (xs,kn,li,fr,gv,sh,lg,wJ (li.length:Int) k):=by
 rw[e9]
 dsimp only
 rw[ak (by omega) (by omega),dY];rfl
theorem Ak (hl:li.length≤4294967296) (k:Int):dV N0 (xs,kn,li,fr,gv,sh,lg,k)=some (xs,kn,li,fr,gv,sh,lg,mR li k):=by
 rw[dV]
 dsimp only
 rw[Il hl]
 simp only[Option.bind_some]
 unfold mR
 cases h:wJ (li.length:Int) k with
 |false=>rfl
 |true =>
  rw[Am h];rfl
def lk (lg:List aS) (j:Nat):Int:=(lg.getD j zC).1
def ui (li:List bo) (lg:List aS) (i:Nat):Bool:=mR li (lk lg i)&&bW (fun j => !(lk lg j==lk lg i)) 0 i
def vi (lg:List aS):Nat→List (Int×Int)
 |0=>[]
 |i+1=>kq kI (lk lg i) (IntKind.i64.wrap (eA kI (lk lg i) (vi lg i)+(1:Int))) (vi lg i)
def tz (lg:List aS) (k:Int):Nat→Nat
 |0=>0
 |i+1=>tz lg k i+(if lk lg i=k then 1 else 0)
theorem BH (lg:List aS) (k:Int):∀i,tz lg k i≤i
 |0=>Nat.le_refl _
 |i+1=>by
  have:=BH lg k i
  show tz lg k i+(if lk lg i=k then 1 else 0)≤i+1
  split<;>omega
theorem yi (lg:List aS) (k:Int):∀i,i≤4294967296→eA kI k (vi lg i)=(tz lg k i:Int)
 |0,_=>rfl
 |i+1,h=>by
  have ih:=fun k=>yi lg k i (by omega)
  show eA kI k (kq kI (lk lg i) (IntKind.i64.wrap (eA kI (lk lg i) (vi lg i)+(1:Int))) (vi lg i))=((tz lg k i+(if lk lg i=k then 1 else 0):Nat):Int)
  by_cases q:lk lg i=k
  ·subst q
   rw[rA (ot kI rfl _),yi lg _ i (by omega),if_pos rfl]
   have:=BH lg (lk lg i) i
   rw[ak (by omega) (by omega)];omega
  ·have hne:kI.eqv k (lk lg i)=false:=by
    rw[Bool.eq_false_iff]
    exact fun h=>q (vJ kI h).symm
   rw[tU hne,yi lg k i (by omega),if_neg q,Nat.add_zero]
theorem wb (lg:List aS) (k:Int):∀i,tz lg k i=0↔∀j,j<i→lk lg j≠k
 |0=>⟨fun _ j h=>by omega,fun _=>rfl⟩
 |i+1=>by
  show tz lg k i+(if lk lg i=k then 1 else 0)=0↔_
  have ih:=wb lg k i
  by_cases q:lk lg i=k
  ·rw[if_pos q]
   exact⟨fun h=>by omega,fun h=>absurd q (h i (by omega))⟩
  ·rw[if_neg q,Nat.add_zero,ih]
   constructor
   ·intro h j hj
    rcases Nat.lt_or_ge j i with z|z
    ·exact h j z
    ·have:j=i:=by omega
     subst this;exact q
   ·exact fun h j hj=>h j (by omega)
theorem Kb (hg:lg.length≤4294967296){i:Nat}(hi:i<lg.length):decide (eA kI (lk lg i) (vi lg (i+1))>(1:Int)) = !bW (fun j => !(lk lg j==lk lg i)) 0 i:=by
 rw[yi lg _ (i+1) (by omega),show tz lg (lk lg i) (i+1)=tz lg (lk lg i) i+1 from by show _+(if _ then 1 else 0)=_;rw[if_pos rfl]]
 have hc:=BH lg (lk lg i) i
 rw[Bool.eq_iff_iff,decide_eq_true_iff,Bool.not_eq_true',Bool.eq_false_iff,ne_eq,dS]
 have hz:=wb lg (lk lg i) i
 constructor
 ·intro h h2
  have:tz lg (lk lg i) i=0:=hz.2 fun j hj e=>by
   have:=h2 j (Nat.zero_le _) (by omega)
   rw[e]at this
   simp at this
  omega
 ·intro h
  have:tz lg (lk lg i) i≠0:=fun e=>h fun j _ hj=>by
   have:=hz.1 e j (by omega)
   simpa using this
  omega
def pq (li:List bo) (lg:List aS) (i:Nat):Bool := !dn (li.getD i zI) || !(((tz lg (i:Int) lg.length:Nat):Int)==(0:Int))
theorem Ke (hl:li.length≤4294967296) (hg:lg.length≤4294967296):eC N0 (xs,kn,li,fr,gv,sh,lg)=some (xs,kn,li,fr,gv,sh,lg,bW (ui li lg) 0 lg.length&&bW (pq li lg) 0 li.length):=by
 have h1:=dT (aK N0) (fun i=>(xs,kn,li,fr,gv,sh,lg,vi lg i,lg,(lg.length:Int),(i:Int))) (ui li lg) (xs,kn,li,fr,gv,sh,lg,false) (xs,kn,li,fr,gv,sh,lg,vi lg lg.length) lg.length (fun m i hi=>by
  rw[aK];dsimp only
  rw[nh hi,cond_true,aq hi,cond_true,Ak hl]
  simp only[Option.bind_some,Int.toNat_natCast,aP hi hg]
  show(cond (!mR li (lk lg i)) (some (Sum.inl (xs,kn,li,fr,gv,sh,lg,false))) (cond (decide (eA kI (lk lg i) (vi lg (i+1))>(1:Int))) (some (Sum.inl (xs,kn,li,fr,gv,sh,lg,false))) (aK N0 m (xs,kn,li,fr,gv,sh,lg,vi lg (i+1),lg,(lg.length:Int),((i+1:Nat):Int)))))=_
  rw[Kb hg hi]
  unfold ui
  cases mR li (lk lg i)with
  |false=>rfl
  |true =>
   cases bW (fun j => !(lk lg j==lk lg i)) 0 i<;>rfl) (fun m=>by
  rw[aK];dsimp only;rw[tY];rfl) N0 0 (Nat.zero_le _) (by have:=n0;omega)
 have h2:=dT (aC N0) (fun i=>(xs,kn,li,fr,gv,sh,lg,vi lg lg.length,li,(li.length:Int),(i:Int))) (pq li lg) (xs,kn,li,fr,gv,sh,lg,false) (xs,kn,li,fr,gv,sh,lg) li.length (fun m i hi=>by
  rw[aC];dsimp only
  rw[nh hi,cond_true,aq hi,cond_true]
  simp only[Int.toNat_natCast,aP hi hl]
  rw[yi lg (i:Int) lg.length hg]
  unfold pq dn
  cases(li.getD i zI).2.2.2.2.2.2.1 with
  |false=>rfl
  |true=>cases(((tz lg (i:Int) lg.length:Nat):Int)==(0:Int))<;>rfl) (fun m=>by
  rw[aC];dsimp only;rw[tY];rfl) N0 0 (Nat.zero_le _) (by have:=n0;omega)
 rw[Nat.sub_zero]at h1 h2
 rw[eC]
 dsimp only
 rw[show aK N0 N0 (xs,kn,li,fr,gv,sh,lg,[],lg,(lg.length:Int),(0:Int))=_ from h1]
 cases bW (ui li lg) 0 lg.length with
 |false=>rfl
 |true =>
  show((aC N0 N0 (xs,kn,li,fr,gv,sh,lg,vi lg lg.length,li,(li.length:Int),(0:Int))).bind _)=_
  rw[show aC N0 N0 (xs,kn,li,fr,gv,sh,lg,vi lg lg.length,li,(li.length:Int),(0:Int))=_ from h2]
  cases bW (pq li lg) 0 li.length<;>rfl
def qC (xs:List ab) (li:List bo):Bool:=bW (fun i=>iP xs (li.getD i zI)) 0 li.length
def rM (gv:List Int):Bool:=bW (fun i=>ud 0 4 (gv.getD i 0)) 0 gv.length
def sA (li:List bo) (sh:List Int):Bool:=bW (fun i=>mR li (sh.getD i 0)) 0 sh.length
def pH (xs:List ab) (kn:List Int):Bool:=bW (gV xs kn) 0 kn.length&&(decide (kn.length≤200)&&aO xs)
theorem Bv (hs:Small xs kn li gv sh lg):fZ N0 (xs,kn,li,fr,gv,sh,lg)=some (pH xs kn&&(decide (li.length≤8)&&(ud 0 8 fr&&(bW (eI gv) 0 gv.length&&(bW (eI sh) 0 sh.length&&(qC xs li&&(rM gv&&(sA li sh&&(bW (ui li lg) 0 lg.length&&bW (pq li lg) 0 li.length))))))))):=by
 have h1:=dT (bN N0) (fun i=>(xs,kn,li,fr,gv,sh,lg,li,(li.length:Int),(i:Int))) (fun i=>iP xs (li.getD i zI)) false (xs,kn,li,fr,gv,sh,lg) li.length (fun m i hi=>by
  rw[bN];dsimp only
  rw[nh hi,cond_true,aq hi,cond_true]
  simp only[Int.toNat_natCast,aP hi hs.fl]
  rw[(rH hs.fx (hs.fe i hi)).1]
  simp only[Option.bind_some]
  cases iP xs (li.getD i zI)<;>rfl) (fun m=>by
  rw[bN];dsimp only;rw[tY];rfl) N0 0 (Nat.zero_le _) (by have:=n0;have:=hs.fl;omega)
 have h2:=dT (bl N0) (fun i=>(xs,kn,li,fr,gv,sh,lg,gv,(gv.length:Int),(i:Int))) (fun i=>ud 0 4 (gv.getD i 0)) false (xs,kn,li,fr,gv,sh,lg) gv.length (fun m i hi=>by
  rw[bl];dsimp only
  rw[nh hi,cond_true,aq hi,cond_true,qT]
  simp only[Option.bind_some,Int.toNat_natCast,aP hi hs.fg]
  rw[show(decide (gv.getD i 0≥0)&&decide (gv.getD i 0≤4))=ud 0 4 (gv.getD i 0)from rfl]
  cases ud 0 4 (gv.getD i 0)<;>rfl) (fun m=>by
  rw[bl];dsimp only;rw[tY];rfl) N0 0 (Nat.zero_le _) (by have:=n0;have:=hs.fg;omega)
 have h3:=dT (bk N0) (fun i=>(xs,kn,li,fr,gv,sh,lg,sh,(sh.length:Int),(i:Int))) (fun i=>mR li (sh.getD i 0)) false (xs,kn,li,fr,gv,sh,lg) sh.length (fun m i hi=>by
  rw[bk];dsimp only
  rw[nh hi,cond_true,aq hi,cond_true,Ak hs.fl]
  simp only[Option.bind_some,Int.toNat_natCast,aP hi hs.fs]
  cases mR li (sh.getD i 0)<;>rfl) (fun m=>by
  rw[bk];dsimp only;rw[tY];rfl) N0 0 (Nat.zero_le _) (by have:=n0;have:=hs.fs;omega)
 rw[Nat.sub_zero]at h1 h2 h3
 rw[fZ]
 dsimp only
 rw[Dg hs.fx hs.fk,dY,yl hs.fg,yl hs.fs,
  show bN N0 N0 (xs,kn,li,fr,gv,sh,lg,li,(li.length:Int),(0:Int))=_ from h1]
 simp only[Option.bind_some]
 rw[show(bW (gV xs kn) 0 kn.length&&(decide (kn.length≤200)&&(decide (xs.length≤500)&&cj N0 [] xs)))=pH xs kn from rfl,
  show(decide (fr≥0)&&decide (fr≤8))=ud 0 8 fr from rfl,show bW (fun i=>iP xs (li.getD i zI)) 0 li.length=qC xs li from rfl]
 cases pH xs kn with
 |false=>rfl
 |true =>
  by_cases q:li.length≤8
  ·rw[decide_eq_false (by omega:¬(li.length:Int)>(8:Int)),decide_eq_true q]
   cases ud 0 8 fr with
   |false=>rfl
   |true =>
    cases bW (eI gv) 0 gv.length with
    |false=>rfl
    |true =>
     cases bW (eI sh) 0 sh.length with
     |false=>rfl
     |true =>
      cases qC xs li with
      |false=>rfl
      |true =>
       show((bl N0 N0 (xs,kn,li,fr,gv,sh,lg,gv,(gv.length:Int),(0:Int))).bind _)=_
       rw[show bl N0 N0 (xs,kn,li,fr,gv,sh,lg,gv,(gv.length:Int),(0:Int))=_ from h2,show bW (fun i=>ud 0 4 (gv.getD i 0)) 0 gv.length=rM gv from rfl]
       cases rM gv with
       |false=>rfl
       |true =>
        show((bk N0 N0 (xs,kn,li,fr,gv,sh,lg,sh,(sh.length:Int),(0:Int))).bind _)=_
        rw[show bk N0 N0 (xs,kn,li,fr,gv,sh,lg,sh,(sh.length:Int),(0:Int))=_ from h3,show bW (fun i=>mR li (sh.getD i 0)) 0 sh.length=sA li sh from rfl]
        cases sA li sh with
        |false=>rfl
        |true =>
         show((eC N0 (xs,kn,li,fr,gv,sh,lg)).bind _)=_
         rw[Ke hs.fl hs.fo];rfl
  ·rw[decide_eq_true (by omega:(li.length:Int)>(8:Int)),decide_eq_false q];rfl
def BZ (li:List bo) (i:Nat):Bool:=dn (li.getD i zI)
def K2 (xs:List ab) (li:List bo) (sh:List Int) (i:Nat):Bool:=iP xs (li.getD i zI)&&(!kr sh (i:Int) || BZ li i)
theorem GL (d:Nat→Bool) (n:Nat):(places d n).length≤n:=by
 unfold places
 exact Nat.le_trans (List.length_filter_le _ _) (by simp)
theorem Qa (hs:Small xs kn li gv sh lg) (hP:aO xs=true):aZ N0 N0 (xs,kn,li,fr,gv,sh,lg,(li.length:Int),(0:Int),(0:Int)) =
  some (bif bW (K2 xs li sh) 0 li.length then .inr (xs,kn,li,fr,gv,sh,lg,(li.length:Int),((places (BZ li) li.length).length:Int))else .inl false):=by
 have h:=dT (aZ N0) (fun i=>(xs,kn,li,fr,gv,sh,lg,(li.length:Int),((places (BZ li) i).length:Int),(i:Int))) (K2 xs li sh) false (xs,kn,li,fr,gv,sh,lg,(li.length:Int),((places (BZ li) li.length).length:Int)) li.length (fun m i hi=>by
  rw[aZ];dsimp only
  rw[nh hi,cond_true,aq hi,cond_true]
  simp only[Int.toNat_natCast,aP hi hs.fl]
  rw[Ol hs.fx (hs.fe i hi) hP,jg hs.fs]
  simp only[Option.bind_some,cond_true]
  have hpl:=GL (BZ li) i
  have hli:=hs.fl
  rw[Cw,show(li.getD i zI).2.2.2.2.2.2.1=BZ li i from rfl,aP (i:=(places (BZ li) i).length) (n:=i+1) (by omega) (by omega)]
  unfold K2
  cases iP xs (li.getD i zI)with
  |false=>rfl
  |true =>
   cases kr sh (i:Int)<;>cases BZ li i<;>rfl) (fun m=>by
  rw[aZ];dsimp only;rw[tY];rfl) N0 0 (Nat.zero_le _) (by have:=n0;have:=hs.fl;omega)
 rw[Nat.sub_zero]at h
 exact h
theorem NQ (hg:lg.length≤4294967296){N D k:Int}{i:Nat}(hi:i<lg.length):bp N0 N0 (xs,kn,li,fr,gv,sh,lg,N,D,(i:Int),k,(0:Int)) =
  some (bif bW (fun j => !(lk lg j==k)) 0 i then .inr (xs,kn,li,fr,gv,sh,lg,N,D,(i:Int))else .inl false):=by
 have h:=dT (bp N0) (fun j=>(xs,kn,li,fr,gv,sh,lg,N,D,(i:Int),k,(j:Int))) (fun j => !(lk lg j==k)) false (xs,kn,li,fr,gv,sh,lg,N,D,(i:Int)) i (fun m j hj=>by
  rw[bp];dsimp only
  rw[nh hj,cond_true,aq (by omega:j<lg.length),cond_true]
  simp only[Int.toNat_natCast,aP (by omega:j<lg.length) hg]
  rw[show(lg.getD j zC).1=lk lg j from rfl]
  cases(lk lg j==k)<;>rfl) (fun m=>by
  rw[bp];dsimp only;rw[tY];rfl) N0 0 (Nat.zero_le _) (by have:=n0;omega)
 rw[Nat.sub_zero]at h
 exact h
theorem NR (hl:li.length≤4294967296) (hg:lg.length≤4294967296){D:Int}:aW N0 N0 (xs,kn,li,fr,gv,sh,lg,(li.length:Int),D,(0:Int)) =
  some (bif bW (ui li lg) 0 lg.length then .inr (xs,kn,li,fr,gv,sh,lg,D)else .inl false):=by
 have h:=dT (aW N0) (fun i=>(xs,kn,li,fr,gv,sh,lg,(li.length:Int),D,(i:Int))) (ui li lg) false (xs,kn,li,fr,gv,sh,lg,D) lg.length (fun m i hi=>by
  rw[aW];dsimp only
  rw[nh hi,cond_true,aq hi,cond_true,ak (show -9223372036854775808≤(li.length:Int)-1 by omega) (show(li.length:Int)-1≤9223372036854775807 by omega),qF]
  simp only[Option.bind_some,Int.toNat_natCast]
  rw[show(decide ((lg.getD i zC).1≥0)&&decide ((lg.getD i zC).1≤(li.length:Int)-1))=wJ (li.length:Int) (lk lg i)from rfl,show(lg.getD i zC).1=lk lg i from rfl]
  unfold ui mR
  cases hq:wJ (li.length:Int) (lk lg i)with
  |false=>rfl
  |true =>
   rw[Am hq,NQ hg hi]
   unfold dn
   cases(li.getD (lk lg i).toNat zI).2.2.2.2.2.2.1 with
   |false=>rfl
   |true =>
    cases bW (fun j => !(lk lg j==lk lg i)) 0 i with
    |false=>rfl
    |true =>
     show aW N0 m (xs,kn,li,fr,gv,sh,lg,(li.length:Int),D,IntKind.i64.wrap ((i:Int)+(1:Int)))=_
     rw[aP hi hg];rfl) (fun m=>by
  rw[aW];dsimp only;rw[tY];rfl) N0 0 (Nat.zero_le _) (by have:=n0;omega)
 rw[Nat.sub_zero]at h
 exact h
theorem A6 (hs:Small xs kn li gv sh lg):dl N0 (xs,kn,li,fr,gv,sh,lg)=some (pH xs kn&&(decide (li.length≤8)&&(ud 0 8 fr&&(bW (fun j=>ud 0 4 (gv.getD j 0)&&eI gv j) 0 gv.length&&(bW (fun j=>ud 0 ((li.length:Int)-1) (sh.getD j 0)&&eI sh j) 0 sh.length&&(bW (K2 xs li sh) 0 li.length&&(bW (ui li lg) 0 lg.length&&((lg.length:Int)==((places (BZ li) li.length).length:Int))))))))):=by
 have hli:=hs.fl
 rw[dl]
 dsimp only
 rw[wz hs.fx hs.fk,qF,xB hs.fg,ak (show -9223372036854775808≤(li.length:Int)-1 by omega) (show(li.length:Int)-1≤9223372036854775807 by omega),xB hs.fs]
 simp only[Option.bind_some]
 rw[show(bW (gV xs kn) 0 kn.length&&(decide (kn.length≤200)&&(decide (xs.length≤500)&&cj N0 [] xs)))=pH xs kn from rfl,
  show(decide (fr≥0)&&decide (fr≤8))=ud 0 8 fr from rfl]
 cases hk:pH xs kn with
 |false=>rfl
 |true =>
  have hP:aO xs=true:=by
   unfold pH at hk
   rw[Bool.and_eq_true,Bool.and_eq_true]at hk
   exact hk.2.2
  rw[Qa hs hP]
  by_cases q:li.length≤8
  ·rw[decide_eq_false (by omega:¬(li.length:Int)>(8:Int)),decide_eq_true q]
   cases ud 0 8 fr with
   |false=>rfl
   |true =>
    cases bW (fun j=>ud 0 4 (gv.getD j 0)&&eI gv j) 0 gv.length with
    |false=>rfl
    |true =>
     cases bW (fun j=>ud 0 ((li.length:Int)-1) (sh.getD j 0)&&eI sh j) 0 sh.length with
     |false=>rfl
     |true =>
      cases bW (K2 xs li sh) 0 li.length with
      |false=>rfl
      |true =>
       show((aW N0 N0 (xs,kn,li,fr,gv,sh,lg,(li.length:Int),((places (BZ li) li.length).length:Int),(0:Int))).bind _)=_
       rw[NR hs.fl hs.fo]
       cases bW (ui li lg) 0 lg.length<;>rfl
  ·rw[decide_eq_true (by omega:(li.length:Int)>(8:Int)),decide_eq_false q];rfl
end
theorem DE (a b:Nat→Bool) (i k:Nat):bW (fun j=>a j&&b j) i k=(bW a i k&&bW b i k):=by
 rw[Bool.eq_iff_iff,Bool.and_eq_true,dS,dS,dS]
 constructor
 ·intro h
  refine⟨fun j h1 h2=>?_,fun j h1 h2=>?_⟩
  ·have:=h j h1 h2
   rw[Bool.and_eq_true]at this;exact this.1
  ·have:=h j h1 h2
   rw[Bool.and_eq_true]at this;exact this.2
 ·rintro ⟨h1,h2⟩ j h3 h4
  rw[Bool.and_eq_true]
  exact⟨h1 j h3 h4,h2 j h3 h4⟩
section
variable{xs:List ab}{kn:List Int}{li:List bo}{fr:Int}{gv sh:List Int}{lg:List aS}
theorem DW:(qC xs li&&sA li sh)=(bW (fun j=>ud 0 ((li.length:Int)-1) (sh.getD j 0)) 0 sh.length&&bW (K2 xs li sh) 0 li.length):=by
 unfold qC sA
 rw[Bool.eq_iff_iff,Bool.and_eq_true,Bool.and_eq_true,dS,dS,dS,dS]
 constructor
 ·rintro ⟨h1,h2⟩
  refine⟨fun j h3 h4=>?_,fun i h3 h4=>?_⟩
  ·have:=h2 j h3 h4
   unfold mR at this
   rw[Bool.and_eq_true]at this
   exact this.1
  ·unfold K2
   rw[Bool.and_eq_true]
   refine⟨h1 i h3 h4,?_⟩
   cases hh:kr sh (i:Int)with
   |false=>rfl
   |true =>
    obtain⟨j,h5,h6⟩:=vw.1 hh
    have:=h2 j (Nat.zero_le _) (by omega)
    unfold mR at this
    rw[Bool.and_eq_true,h6,Int.toNat_natCast]at this
    show(false || BZ li i)=true
    rw[Bool.false_or];exact this.2
 ·rintro ⟨h1,h2⟩
  refine⟨fun i h3 h4=>?_,fun j h3 h4=>?_⟩
  ·have:=h2 i h3 h4
   unfold K2 at this
   rw[Bool.and_eq_true]at this
   exact this.1
  ·have hr:=h1 j h3 h4
   unfold mR
   rw[Bool.and_eq_true]
   refine⟨hr,?_⟩
   have hr':=hr
   unfold ud at hr'
   rw[Bool.and_eq_true,decide_eq_true_iff,decide_eq_true_iff]at hr'
   obtain⟨i,hi⟩:=Int.eq_ofNat_of_zero_le hr'.1
   rw[hi]at hr' ⊢
   rw[Int.toNat_natCast]
   have:=h2 i (Nat.zero_le _) (by omega)
   unfold K2 at this
   rw[Bool.and_eq_true]at this
   have hh:kr sh (i:Int)=true:=vw.2 ⟨j,by omega,hi⟩
   have h3:=this.2
   rw[hh]at h3
   exact h3
theorem Kc (h:bW (ui li lg) 0 lg.length=true):bW (pq li lg) 0 li.length=((lg.length:Int)==((places (BZ li) li.length).length:Int)):=by
 rw[dS]at h
 have hg:∀i,i<lg.length→mR li (lk lg i)=true∧∀j,j<i→lk lg j≠lk lg i:=fun i hi=>by
  have:=h i (Nat.zero_le _) (by omega)
  unfold ui at this
  rw[Bool.and_eq_true,dS]at this
  refine⟨this.1,fun j hj e=>?_⟩
  have:=this.2 j (Nat.zero_le _) (by omega)
  rw[e]at this
  simp at this
 have hL:((List.range lg.length).map (lk lg)).length=lg.length:=by simp
 have hnd:((List.range lg.length).map (lk lg)).Nodup:=by
  rw[Es,hL]
  intro i hi j hj
  have e:∀k,k<lg.length→((List.range lg.length).map (lk lg)).getD k 0=lk lg k:=fun k hk=>by
   rw[j0 (by rw[hL];exact hk)];simp
  rw[e i hi,e j (by omega)]
  exact(hg i hi).2 j hj
 have hin:∀k∈(List.range lg.length).map (lk lg), ∃i:Nat,k=(i:Int)∧i<li.length∧BZ li i=true:=by
  intro k hk
  obtain⟨j,hj,rfl⟩:=List.mem_map.1 hk
  have:=(hg j (List.mem_range.1 hj)).1
  unfold mR wJ at this
  rw[Bool.and_eq_true,Bool.and_eq_true,decide_eq_true_iff,decide_eq_true_iff]at this
  obtain⟨⟨h1,h2⟩,h3⟩:=this
  obtain⟨i,hi⟩:=Int.eq_ofNat_of_zero_le h1
  rw[hi]at h2 h3
  rw[Int.toNat_natCast]at h3
  exact⟨i,hi,by omega,h3⟩
 have key:=Kd (BZ li) li.length _ hnd hin
 rw[hL]at key
 rw[Bool.eq_iff_iff,dS,beq_iff_eq]
 have hmem:∀i:Nat,(i:Int)∈(List.range lg.length).map (lk lg)↔tz lg (i:Int) lg.length≠0:=by
  intro i
  rw[Ne,wb,List.mem_map]
  constructor
  ·rintro ⟨j,h1,h2⟩ h3
   exact h3 j (List.mem_range.1 h1) h2
  ·intro h1
   refine Classical.byContradiction fun h2=>h1 fun j hj e=>h2 ⟨j,List.mem_range.2 hj,e⟩
 have e1:((lg.length:Int)=((places (BZ li) li.length).length:Int))↔lg.length=(places (BZ li) li.length).length:=by omega
 rw[e1, ←key]
 constructor
 ·intro h1 i h2 h3
  have:=h1 i (Nat.zero_le _) (by omega)
  rw[hmem]
  unfold pq at this
  rw[show dn (li.getD i zI)=BZ li i from rfl,h3]at this
  intro h4
  rw[h4]at this
  exact absurd this (by decide)
 ·intro h1 i _ h2
  unfold pq
  cases h3:dn (li.getD i zI)with
  |false=>rfl
  |true =>
   have:=(hmem i).1 (h1 i (by omega) h3)
   show(false || !(((tz lg (i:Int) lg.length:Nat):Int)==(0:Int)))=true
   rw[Bool.false_or,Bool.not_eq_true',beq_eq_false_iff_ne]
   omega
def cp (xs:List ab) (kn:List Int) (li:List bo) (fr:Int) (gv sh:List Int) (lg:List aS):Bool :=
 pH xs kn&&(decide (li.length≤8)&&(ud 0 8 fr&&(bW (eI gv) 0 gv.length&&(bW (eI sh) 0 sh.length&&(qC xs li&&(rM gv&&(sA li sh&&(bW (ui li lg) 0 lg.length&&bW (pq li lg) 0 li.length))))))))
theorem ss (hs:Small xs kn li gv sh lg):dl N0 (xs,kn,li,fr,gv,sh,lg)=some (cp xs kn li fr gv sh lg):=by
 refine(A6 hs).trans (congrArg some ?_)
 unfold cp
 have e1:bW (fun j=>ud 0 4 (gv.getD j 0)&&eI gv j) 0 gv.length=(rM gv&&bW (eI gv) 0 gv.length):=DE _ _ _ _
 have e2:bW (fun j=>ud 0 ((li.length:Int)-1) (sh.getD j 0)&&eI sh j) 0 sh.length=(bW (fun j=>ud 0 ((li.length:Int)-1) (sh.getD j 0)) 0 sh.length&&bW (eI sh) 0 sh.length):=DE _ _ _ _
 have e3:=DW (xs:=xs) (li:=li) (sh:=sh)
 rw[e1,e2]
 cases hl:bW (ui li lg) 0 lg.length with
 |true =>
  rw[Kc hl]
  revert e3
  generalize bW (fun j=>ud 0 ((li.length:Int)-1) (sh.getD j 0)) 0 sh.length=A
  generalize bW (K2 xs li sh) 0 li.length=B
  generalize qC xs li=C
  generalize sA li sh=D
  generalize rM gv=E
  generalize bW (eI gv) 0 gv.length=F
  generalize bW (eI sh) 0 sh.length=G
  generalize ((lg.length:Int)==((places (BZ li) li.length).length:Int))=H
  generalize pH xs kn=K
  generalize decide (li.length≤8)=M
  generalize ud 0 8 fr=R
  intro e3
  have:(A&&B)=(C&&D):=e3.symm
  cases A<;>cases B<;>cases C<;>cases D<;>simp_all<;>(cases E<;>cases F<;>cases G<;>rfl)
 |false =>
  simp only[Bool.false_and,Bool.and_false]
theorem mH (hs:Small xs kn li gv sh lg):fZ N0 (xs,kn,li,fr,gv,sh,lg)=some (cp xs kn li fr gv sh lg)∧dl N0 (xs,kn,li,fr,gv,sh,lg)=some (cp xs kn li fr gv sh lg):=⟨Bv hs,ss hs⟩
end
section
variable{xs:List ab}{kn:List Int}{li:List bo}{fr:Int}{gv sh:List Int}{lg:List aS}
end
section
variable{xs:List ab}{kn:List Int}{li:List bo}{fr:Int}{gv sh:List Int}{lg:List aS}{k:Int}
theorem wO{l:List Int}(hl:l.length≤4294967296) (v:Int):bn N0 (l,v)=some (kr l v):=by
 have h:∀(m i:Nat),i≤l.length→l.length<m+i →
   (∃j:Nat,aj N0 m (l,v,(l.length:Int),(i:Int))=some (.inl (j:Int))∧bW (fun j => !(l.getD j 0==v)) i (l.length-i)=false) ∨
   (aj N0 m (l,v,(l.length:Int),(i:Int))=some (.inr ())∧bW (fun j => !(l.getD j 0==v)) i (l.length-i)=true):=by
  intro m
  induction m with
  |zero=>intro i h1 h2;omega
  |succ m ih =>
   intro i h1 h2
   rcases Nat.eq_or_lt_of_le h1 with q|q
   ·subst q
    refine .inr ⟨?_,?_⟩
    ·rw[aj];dsimp only;rw[tY];rfl
    ·rw[Nat.sub_self];rfl
   ·rw[aj]
    dsimp only
    rw[nh q,cond_true,aq q,cond_true,Int.toNat_natCast,aP q hl,show l.length-i=(l.length-(i+1))+1 by omega]
    show(∃j:Nat,_∧(!(l.getD i 0==v)&&bW (fun j => !(l.getD j 0==v)) (i+1) (l.length-(i+1)))=false)∨(_∧(!(l.getD i 0==v)&&bW (fun j => !(l.getD j 0==v)) (i+1) (l.length-(i+1)))=true)
    have hc:(v==l.getD i 0)=(l.getD i 0==v):=by
     rw[Bool.eq_iff_iff,beq_iff_eq,beq_iff_eq]
     exact⟨fun h=>h.symm,fun h=>h.symm⟩
    rw[hc]
    cases hq:(l.getD i 0==v)with
    |true=>exact .inl ⟨i,rfl,rfl⟩
    |false=>exact ih (i+1) q (by omega)
 rcases h N0 0 (Nat.zero_le _) (by have:=n0;omega)with⟨j,h1,h2⟩|⟨h1,h2⟩
 ·rw[bn];dsimp only
  rw[c9];dsimp only
  rw[show aj N0 N0 (l,v,(l.length:Int),(0:Int))=_ from h1]
  unfold kr
  rw[Nat.sub_zero]at h2
  rw[h2]
  show some (decide ((j:Int)≥0))=some true
  rw[decide_eq_true (by omega:(j:Int)≥0)]
 ·rw[bn];dsimp only
  rw[c9];dsimp only
  rw[show aj N0 N0 (l,v,(l.length:Int),(0:Int))=_ from h1]
  unfold kr
  rw[Nat.sub_zero]at h2
  rw[h2];rfl
end
abbrev oJ:ab:=((0:Int),((0:Int),(0:Int)))
def pf (xs:List ab) (k:ab):Nat→Nat→Option Nat
 |_,0=>none
 |i,m+1=>if xs.getD i oJ=k then some i else pf xs k (i+1) m
abbrev wD (xs:List ab) (k:ab):Option Nat:=pf xs k 0 xs.length
theorem Bg{xs:List ab}{k:ab}:∀{m i j:Nat},pf xs k i m=some j→i≤j∧j<i+m∧xs.getD j oJ=k
 |0,_,_,h=>by cases h
 |m+1,i,j,h=>by
  unfold pf at h
  by_cases hk:xs.getD i oJ=k
  ·rw[if_pos hk]at h
   obtain rfl:=Option.some.inj h
   exact⟨Nat.le_refl _,by omega,hk⟩
  ·rw[if_neg hk]at h
   obtain⟨h1,h2,h3⟩:=Bg h
   exact⟨by omega,by omega,h3⟩
theorem Fm{xs:List ab}{k:ab}:∀{m i:Nat},pf xs k i m=none→∀q,i≤q→q<i+m→xs.getD q oJ≠k
 |0,i,_,q,h1,h2=>by omega
 |m+1,i,h,q,h1,h2=>by
  unfold pf at h
  by_cases hk:xs.getD i oJ=k
  ·rw[if_pos hk]at h;cases h
  ·rw[if_neg hk]at h
   rcases Nat.eq_or_lt_of_le h1 with e|e
   ·subst e;exact hk
   ·exact Fm h q e (by omega)
theorem JZ (p k:ab):(p.1==k.1&&(p.2.1==k.2.1&&(p.2.2==k.2.2&&true)))=decide (p=k):=by
 obtain⟨p1,p2,p3⟩:=p
 obtain⟨k1,k2,k3⟩:=k
 rw[Bool.eq_iff_iff]
 simp
theorem Lt{xs:List ab}{k:ab}{i:Nat}(h:i<xs.length):pf xs k i (xs.length-i)=if xs.getD i oJ=k then some i else pf xs k (i+1) (xs.length-(i+1)):=by
 have e:xs.length-i=(xs.length-(i+1))+1:=by omega
 rw[e];rfl
theorem N2{xs:List ab}{k:ab}{i:Nat}(h:xs.length≤i):pf xs k i (xs.length-i)=none:=by
 have e:xs.length-i=0:=by omega
 rw[e];rfl
theorem yq (n:Nat){xs:List ab}(hx:xs.length≤4294967296) (k:ab):∀(m i:Nat),i≤xs.length→xs.length<m+i→bm n m (xs,k.1,k.2.1,k.2.2,(i:Int)) =
  some (match pf xs k i (xs.length-i)with|some j=>Sum.inl (j:Int)|none=>Sum.inr ())
 |0,i,h1,h2=>by omega
 |m+1,i,h1,h2=>by
  have e0:bm n (m+1) (xs,k.1,k.2.1,k.2.2,(i:Int))=(cond (decide ((i:Int)<(xs.length:Int))) (cond (ba (i:Int) xs.length) (cond ((xs.getD ((i:Int)).toNat oJ).1==k.1&&((xs.getD ((i:Int)).toNat oJ).2.1==k.2.1&&((xs.getD ((i:Int)).toNat oJ).2.2==k.2.2&&true))) (some (Sum.inl (i:Int))) (bm n m (xs,k.1,k.2.1,k.2.2,IntKind.i64.wrap ((i:Int)+(1:Int))))) none) (some (Sum.inr ()))):=rfl
  rw[e0,Oj]
  by_cases hlt:i<xs.length
  ·rw[decide_eq_true hlt,cond_true,aq hlt,cond_true,Int.toNat_natCast,aP hlt hx,JZ,Lt hlt]
   by_cases hk:xs.getD i oJ=k
   ·rw[decide_eq_true hk,cond_true,if_pos hk]
   ·rw[decide_eq_false hk,cond_false,if_neg hk,yq n hx k m (i+1) hlt (by omega)]
  ·rw[decide_eq_false hlt,cond_false,N2 (by omega)]
def Wl (xs:List ab) (k:ab):Int:=match wD xs k with
 |some j=>(j:Int)
 |none=>-1
theorem Ig{xs:List ab}(hx:xs.length≤4294967296) (k:ab):cI N0 (xs,k.1,k.2.1,k.2.2)=some (Wl xs k):=by
 unfold cI
 dsimp only
 have h:=yq N0 hx k N0 0 (Nat.zero_le _) (by have:=n0;omega)
 rw[Nat.sub_zero]at h
 rw[show(0:Int)=((0:Nat):Int)from rfl,h]
 unfold Wl wD
 cases pf xs k 0 xs.length<;>rfl
theorem Jq {α:Type}{xs:List ab}(h:xs.length≤500){k:α}:aI (xs.length+[k].length)=true:=by
 unfold aI
 rw[List.length_singleton]
 simp
 omega
theorem J0{c a b:Int}{i j:Nat}(hj:j≤4294967296) (hij:i≤j) (h:fP N0 (c,a,b,(i:Int))=true):fP N0 (c,a,b,(j:Int))=true:=by
 have wi:IntKind.i64.wrap ((i:Int)-(1:Int))=(i:Int)-1:=ak (by omega) (by omega)
 have wj:IntKind.i64.wrap ((j:Int)-(1:Int))=(j:Int)-1:=ak (by omega) (by omega)
 have up:∀v:Int,(decide (v≥0)&&decide (v≤(i:Int)-1))=true→(decide (v≥0)&&decide (v≤(j:Int)-1))=true:=fun v hv=>by
  rw[Bool.and_eq_true,decide_eq_true_iff,decide_eq_true_iff]at hv ⊢
  omega
 have ha:=up a
 have hb:=up b
 revert h
 unfold fP ci
 dsimp only
 obtain⟨v,hv⟩:=yy N0 c
 rw[hv]
 simp only[Option.bind_some,dY,wi,wj]
 generalize (decide (a≥0)&&decide (a≤(i:Int)-1))=A1 at ha ⊢
 generalize (decide (a≥0)&&decide (a≤(j:Int)-1))=A2 at ha ⊢
 generalize (decide (b≥0)&&decide (b≤(i:Int)-1))=B1 at hb ⊢
 generalize (decide (b≥0)&&decide (b≤(j:Int)-1))=B2 at hb ⊢
 cases(v==(0:Int))
 ·cases(v==(1:Int))
  ·cases(v==(2:Int))
   ·exact id
   ·cases A1
    ·exact fun h=>Bool.noConfusion h
    ·cases B1
     ·exact fun h=>(by cases A2<;>exact Bool.noConfusion h)
     ·rw[ha rfl,hb rfl];exact id
  ·cases A1
   ·exact fun h=>Bool.noConfusion h
   ·rw[ha rfl];exact id
 ·exact id
theorem zL{n:Nat}:∀{r pre:List ab},cj n pre r=true→∀j,j<r.length→fP n ((r.getD j oJ).1,(r.getD j oJ).2.1,(r.getD j oJ).2.2,((pre.length+j:Nat):Int))=true
 |[],pre,_,j,hj=>absurd hj (Nat.not_lt_zero _)
 |k::r,pre,h,j,hj=>by
  have h:((!pre.contains k&&fP n (k.1,k.2.1,k.2.2,(pre.length:Int)))&&cj n (pre++[k]) r)=true:=h
  rw[Bool.and_eq_true,Bool.and_eq_true]at h
  match j with
  |0=>exact h.1.2
  |j+1 =>
   have:=zL h.2 j (by simpa using hj)
   rw[List.length_append]at this
   have e:pre.length+(j+1)=pre.length+[k].length+j:=by simp;omega
   rw[e]
   exact this
theorem xV{n:Nat}:∀{r pre s:List ab},cj n pre (r++s)=(cj n pre r&&cj n (pre++r) s)
 |[],pre,s=>by simp[cj]
 |k::r,pre,s=>by
  show((!pre.contains k&&fP n (k.1,k.2.1,k.2.2,(pre.length:Int)))&&cj n (pre++[k]) (r++s))=(((!pre.contains k&&fP n (k.1,k.2.1,k.2.2,(pre.length:Int)))&&cj n (pre++[k]) r)&&cj n (pre++(k::r)) s)
  rw[xV]
  simp only[Bool.and_assoc,List.append_assoc,List.singleton_append]
theorem cL{xs:List ab}(h:aO xs=true):xs.length≤500:=by
 unfold aO at h
 rw[Bool.and_eq_true,decide_eq_true_iff]at h
 exact h.1
theorem xL{xs:List ab}(h:aO xs=true){j:Nat}(hj:j<xs.length):fP N0 ((xs.getD j oJ).1,(xs.getD j oJ).2.1,(xs.getD j oJ).2.2,(j:Int))=true:=by
 unfold aO at h
 rw[Bool.and_eq_true]at h
 have:=zL h.2 j hj
 simpa using this
theorem Ec{xs:List ab}(h:aO xs=true) (hl:xs.length<500){k:ab}(hk:fP N0 (k.1,k.2.1,k.2.2,(xs.length:Int))=true) (hn:wD xs k=none):aO (xs++[k])=true:=by
 unfold aO at h ⊢
 rw[Bool.and_eq_true]at h ⊢
 refine⟨decide_eq_true (by simp;omega),?_⟩
 rw[xV,h.2,Bool.true_and,List.nil_append]
 show((!xs.contains k&&fP N0 (k.1,k.2.1,k.2.2,(xs.length:Int)))&&true)=true
 rw[hk,Bool.and_true,Bool.and_true,Bool.not_eq_true']
 rw[←Bool.not_eq_true]
 intro hc
 have hm:k∈xs:=by simpa using hc
 obtain⟨j,hj,e⟩:=List.mem_iff_getElem.1 hm
 refine Fm hn j (Nat.zero_le _) (by omega) ?_
 rw[j0 hj]
 exact e
def BT (xs:List ab) (k:ab):Option (List ab×Int) :=
 bif fP N0 (k.1,k.2.1,k.2.2,(xs.length:Int))then(match wD xs k with
  |some j=>some (xs,(j:Int))
  |none=>if 500≤xs.length then none else some (xs++[k],(xs.length:Int)))else none
def Rn (kd a b:Int):ab:=bif kd==8 then(kd,mn a b,mx a b)else(kd,a,b)
def iS (xs:List ab) (kd a b:Int):Option (List ab×Int):=BT xs (Rn kd a b)
def nM (xs:List ab):Option (List ab×Int)→List ab×Int
 |some r=>r
 |none=>(xs, -1)
theorem IK{xs ys:List ab}{k:ab}{t:Int}(hp:aO xs=true) (h:BT xs k=some (ys,t)):aO ys=true∧0≤t∧t<(ys.length:Int)∧(∃zs,ys=xs++zs)∧ys.getD t.toNat oJ=k:=by
 unfold BT at h
 cases hk:fP N0 (k.1,k.2.1,k.2.2,(xs.length:Int))with
 |false=>rw[hk]at h;cases h
 |true =>
  rw[hk,cond_true]at h
  cases hf:wD xs k with
  |some j =>
   rw[hf]at h
   obtain⟨rfl,rfl⟩:=Prod.mk.inj (Option.some.inj h)
   obtain⟨h1,h2,h3⟩:=Bg hf
   exact⟨hp,by omega,by omega,⟨[],by simp⟩,by rw[Int.toNat_natCast];exact h3⟩
  |none =>
   rw[hf]at h
   dsimp only at h
   by_cases hl:500≤xs.length
   ·rw[if_pos hl]at h;cases h
   ·rw[if_neg hl]at h
    obtain⟨rfl,rfl⟩:=Prod.mk.inj (Option.some.inj h)
    exact⟨Ec hp (by omega) hk hf,by omega,by simp;omega,⟨[k],rfl⟩,by rw[Int.toNat_natCast];simp[List.getD_eq_getElem?_getD]⟩
theorem xC{xs:List ab}(hp:aO xs=true) (k:ab):((cI N0 (xs,k.1,k.2.1,k.2.2)).bind fun r9=>(cond (decide (r9≥(0:Int))) (some (xs,r9)) ((cQ N0 (k.1,k.2.1,k.2.2,((xs).length:Int))).bind fun r10=>(cond (!r10) (some (xs,(-1:Int))) (cond (((xs).length:Int)==(500:Int)) (some (xs,(-1:Int))) ((aM N0 xs).bind fun r11=>(cond (aI ((r11).length+([(k.1,(k.2.1,k.2.2))]).length)) ((fA N0 (xs,[],(r11++[(k.1,(k.2.1,k.2.2))]))).bind fun g12=>(some (g12.1,g12.2))) none)))))))
  = some (nM xs (BT xs k)):=by
 have hx:=cL hp
 rw[Ig (by omega),Option.bind_some]
 unfold Wl BT
 cases hf:wD xs k with
 |some j =>
  obtain⟨h1,h2,h3⟩:=Bg hf
  have hj:j<xs.length:=by omega
  have hnd:=xL hp hj
  rw[h3]at hnd
  rw[J0 (by omega) (Nat.le_of_lt hj) hnd]
  dsimp only
  rw[decide_eq_true (by omega:(j:Int)≥(0:Int)),cond_true];rfl
 |none =>
  dsimp only
  rw[decide_eq_false (by omega:¬((-1:Int)≥(0:Int))),cond_false,Cn,Option.bind_some]
  cases fP N0 (k.1,k.2.1,k.2.2,(xs.length:Int))with
  |false=>rfl
  |true =>
   rw[cond_true,Bool.not_true,cond_false]
   by_cases hl:500≤xs.length
   ·have:((xs.length:Int)==(500:Int))=true:=by simp;omega
    rw[this,cond_true,if_pos hl];rfl
   ·have:((xs.length:Int)==(500:Int))=false:=by simp;omega
    rw[this,cond_false,if_neg hl]
    have e1:aM N0 xs=some xs:=by
     unfold aM
     have:aI (([]:List ab).length+xs.length)=true:=by
      unfold aI
      simp
      omega
     rw[this];rfl
    rw[e1,Option.bind_some]
    have:aI (xs.length+[(k.1,(k.2.1,k.2.2))].length)=true:=Jq hx
    rw[this,cond_true];rfl
theorem gR{xs:List ab}(hp:aO xs=true) (kd a b:Int):aR N0 (xs,kd,a,b)=some (nM xs (iS xs kd a b)):=by
 unfold aR iS Rn mn mx
 dsimp only
 cases hk:(kd==(8:Int))with
 |true =>
  rw[cond_true,cond_true]
  by_cases hab:a>b
  ·rw[decide_eq_true hab,cond_true,if_pos (by omega:b<a),if_neg (by omega:¬b>a)]
   exact xC hp (kd,b,a)
  ·rw[decide_eq_false hab,cond_false,if_neg (by omega:¬b<a)]
   have:(if b>a then b else a)=b:=by split<;>omega
   rw[this]
   exact xC hp (kd,a,b)
 |false=>rw[cond_false,cond_false];exact xC hp (kd,a,b)
theorem jp{xs:List ab}(hp:aO xs=true) (c:Int):bI N0 (xs,c)=some (nM xs (iS xs 1 c 0)):=by
 unfold bI
 dsimp only
 rw[gR hp];rfl
def ql (xs:List ab) (a e:Int):Option (List ab×Int) :=
 bif cC xs a then(bif cC xs e then(bif (xs.getD a.toNat oJ).1==7 then iS xs 8 e (xs.getD a.toNat oJ).2.1 else none)else none)else none
theorem qG{xs:List ab}{a:Int}(h:cC xs a=true):ba a xs.length=true:=by
 unfold cC at h
 rw[Bool.and_eq_true,decide_eq_true_iff,decide_eq_true_iff]at h
 have e:a=((a.toNat:Nat):Int):=by omega
 rw[e]
 exact aq (by omega)
theorem tI{xs:List ab}(hp:aO xs=true) (a e:Int):dK N0 (xs,a,e)=some (nM xs (ql xs a e)):=by
 have hx:=cL hp
 unfold dK ql
 dsimp only
 rw[vu N0 (by omega),Option.bind_some]
 cases ha:cC xs a with
 |false=>rfl
 |true =>
  rw[Bool.not_true,cond_false,cond_true,vu N0 (by omega),Option.bind_some]
  cases cC xs e with
  |false=>rfl
  |true =>
   rw[Bool.not_true,cond_false,cond_true,qG ha,cond_true,cond_true]
   show(cond (!((xs.getD a.toNat oJ).1==(7:Int))) _ _)=_
   cases((xs.getD a.toNat oJ).1==(7:Int))with
   |false=>rfl
   |true =>
    rw[Bool.not_true,cond_false,cond_true,gR hp];rfl
inductive m9 where
 |name (c:Int)
 |var (i:Int)
 |ask (i:Int)
 |un (k:Int) (p:m9)
 |bin (k:Int) (p q:m9)
 |exp (p q:m9)
def m9.asks:m9→Bool
 | .ask _=>true
 | .un _ p=>p.asks
 | .bin _ p q=>p.asks || q.asks
 | .exp p q=>p.asks || q.asks
 |_=>false
def mk (env:List Int):m9→List ab→Option (List ab×Int)
 | .name c,xs=>iS xs 1 c 0
 | .var i,xs=>bif decide (env.getD i.toNat 0<0)then none else some (xs,env.getD i.toNat 0)
 | .ask _,xs=>none
 | .un k p,xs=>(mk env p xs).bind fun r=>iS r.1 k r.2 0
 | .bin k p q,xs=>(mk env p xs).bind fun r=>(mk env q r.1).bind fun s=>iS s.1 k r.2 s.2
 | .exp p q,xs=>(mk env p xs).bind fun r=>(mk env q r.1).bind fun s=>ql s.1 s.2 r.2
theorem rz{env:List Int}:∀{p:m9}(xs:List ab),p.asks=true→mk env p xs=none
 | .name c,xs,h=>by cases h
 | .var i,xs,h=>by cases h
 | .ask _,xs,_=>rfl
 | .un k p,xs,h=>by
  show(mk env p xs).bind _=none
  rw[rz xs (show p.asks=true from h)];rfl
 | .bin k p q,xs,h=>by
  have h:(p.asks || q.asks)=true:=h
  show(mk env p xs).bind _=none
  cases hp:p.asks with
  |true=>rw[rz xs hp];rfl
  |false =>
   rw[hp,Bool.false_or]at h
   cases mk env p xs with
   |none=>rfl
   |some r=>show(mk env q r.1).bind _=none;rw[rz r.1 h];rfl
 | .exp p q,xs,h=>by
  have h:(p.asks || q.asks)=true:=h
  show(mk env p xs).bind _=none
  cases hp:p.asks with
  |true=>rw[rz xs hp];rfl
  |false =>
   rw[hp,Bool.false_or]at h
   cases mk env p xs with
   |none=>rfl
   |some r=>show(mk env q r.1).bind _=none;rw[rz r.1 h];rfl
def AN (xs ys:List ab) (t:Int):Prop:=aO ys=true∧0≤t∧(∃zs,ys=xs++zs)
theorem dZ{xs ys:List ab}{kd a b t:Int}(hp:aO xs=true) (h:iS xs kd a b=some (ys,t)):AN xs ys t∧t<(ys.length:Int):=by
 obtain⟨h1,h2,h3,h4,_⟩:=IK hp h
 exact⟨⟨h1,h2,h4⟩,h3⟩
theorem AN.trans{xs ys zs:List ab}{t u:Int}(h1:AN xs ys t) (h2:AN ys zs u):AN xs zs u:=by
 obtain⟨a1,a2,v,rfl⟩:=h1
 obtain⟨b1,b2,w,rfl⟩:=h2
 exact⟨b1,b2,v++w,by rw[List.append_assoc]⟩
theorem oY{xs ys:List ab}{a e t:Int}(h:ql xs a e=some (ys,t)):iS xs 8 e (xs.getD a.toNat oJ).2.1=some (ys,t):=by
 unfold ql at h
 cases h1:cC xs a with
 |false=>rw[h1]at h;cases h
 |true =>
  cases h2:cC xs e with
  |false=>rw[h1,h2]at h;cases h
  |true =>
   cases h3:((xs.getD a.toNat oJ).1==7)with
   |false=>rw[h1,h2,h3]at h;cases h
   |true=>rw[h1,h2,h3]at h;exact h
theorem dP{env:List Int}:∀{p:m9}{xs ys:List ab}{t:Int},aO xs=true→mk env p xs=some (ys,t)→AN xs ys t
 | .name c,xs,ys,t,hp,h=>(dZ hp h).1
 | .var i,xs,ys,t,hp,h=>by
  have h:(bif decide (env.getD i.toNat 0<0)then none else some (xs,env.getD i.toNat 0))=some (ys,t):=h
  by_cases hn:env.getD i.toNat 0<0
  ·rw[decide_eq_true hn]at h;cases h
  ·rw[decide_eq_false hn]at h
   obtain⟨rfl,rfl⟩:=Prod.mk.inj (Option.some.inj h)
   exact⟨hp,by omega,[],by simp⟩
 | .ask _,xs,ys,t,hp,h=>by cases h
 | .un k p,xs,ys,t,hp,h=>by
  obtain⟨r,h1,h2⟩:=Option.bind_eq_some_iff.1 (show(mk env p xs).bind _=some (ys,t)from h)
  have g1:=dP hp (show mk env p xs=some (r.1,r.2)from h1)
  exact g1.trans (dZ g1.1 h2).1
 | .bin k p q,xs,ys,t,hp,h=>by
  obtain⟨r,h1,h2⟩:=Option.bind_eq_some_iff.1 (show(mk env p xs).bind _=some (ys,t)from h)
  have g1:=dP hp (show mk env p xs=some (r.1,r.2)from h1)
  obtain⟨s,h3,h4⟩:=Option.bind_eq_some_iff.1 h2
  have g2:=dP g1.1 (show mk env q r.1=some (s.1,s.2)from h3)
  exact(g1.trans g2).trans (dZ g2.1 h4).1
 | .exp p q,xs,ys,t,hp,h=>by
  obtain⟨r,h1,h2⟩:=Option.bind_eq_some_iff.1 (show(mk env p xs).bind _=some (ys,t)from h)
  have g1:=dP hp (show mk env p xs=some (r.1,r.2)from h1)
  obtain⟨s,h3,h4⟩:=Option.bind_eq_some_iff.1 h2
  have g2:=dP g1.1 (show mk env q r.1=some (s.1,s.2)from h3)
  exact(g1.trans g2).trans (dZ g2.1 (oY h4)).1
abbrev gi:=Int×(Int×List Int)
abbrev fL:=Int×(Int×(Int×Bool))
abbrev zP:gi:=((0:Int),((0:Int),[]))
abbrev zS:fL:=((0:Int),((0:Int),((0:Int),false)))
def Ag (s:Int):Int:=if s=40 then 2 else if s=123 then 3 else if s=91 then 4 else if s=35 then 5 else if s=107 then 6 else if s=94 then 7 else if s=42 then 8 else 0
def FC (x:gi) (y:fL):Option m9 :=
 bif x.1==110 then(bif y.1==1&&(x.2.1==y.2.1 && !y.2.2.2)then some (.name x.2.1)else none)
 else bif x.1==36 then(bif (y.1==9&&(x.2.1==y.2.1 && !y.2.2.2))&&(decide (0≤x.2.1)&&decide (x.2.1<26))then some (.var x.2.1)else none)
 else bif x.1==63 then(bif (y.1==9&&(x.2.1==y.2.1&&y.2.2.2))&&(decide (0≤x.2.1)&&decide (x.2.1<26))then some (.ask x.2.1)else none)
 else none
def vp (s:Int):Bool:=s==110 || (s==36 || s==63)
def El (x:gi) (y:fL) (P:m9):Option m9 :=
 bif !vp x.1&&(!(x.1==120)&&((Ag x.1==y.1)&&((y.1==5 || y.1==7)&&(y.2.2.2==P.asks))))then some (.un y.1 P)else none
def La (x:gi) (y:fL) (P Q:m9):Option m9 :=
 bif !vp x.1&&(y.2.2.2==(P.asks || Q.asks))then(bif x.1==120 then(bif y.1==10 then some (.exp P Q)else none)else(bif (Ag x.1==y.1)&&(y.1==2 || (y.1==3 || (y.1==4 || (y.1==6 || y.1==8))))then some (.bin y.1 P Q)else none))else none
def ni (l1:List gi) (l2:List fL):Nat→Int→Int→Option m9
 |0,_,_=>none
 |k+1,a,b=>bif ba a l1.length&&ba b l2.length then(match(l1.getD a.toNat zP).2.2 with
   |[]=>FC (l1.getD a.toNat zP) (l2.getD b.toNat zS)
   |[p]=>(ni l1 l2 k p (l2.getD b.toNat zS).2.1).bind fun P=>El (l1.getD a.toNat zP) (l2.getD b.toNat zS) P
   |[p,q]=>(ni l1 l2 k p (l2.getD b.toNat zS).2.1).bind fun P=>(ni l1 l2 k q (l2.getD b.toNat zS).2.2.1).bind fun Q=>La (l1.getD a.toNat zP) (l2.getD b.toNat zS) P Q
   |_=>none)else none
theorem qB{x:gi}{y:fL}{P:m9}(h:FC x y=some P) :
  ((x.1==110)=true∧y.1=1∧y.2.1=x.2.1∧y.2.2.2=false∧P = .name x.2.1) ∨
  ((x.1==110)=false∧(x.1==36)=true∧y.1=9∧y.2.1=x.2.1∧y.2.2.2=false∧0≤x.2.1∧x.2.1<26∧P = .var x.2.1) ∨
  ((x.1==110)=false∧(x.1==36)=false∧(x.1==63)=true∧y.1=9∧y.2.1=x.2.1∧y.2.2.2=true∧0≤x.2.1∧x.2.1<26∧P = .ask x.2.1):=by
 unfold FC at h
 cases h1:(x.1==110)with
 |true =>
  rw[h1,cond_true]at h
  cases hc:(y.1==1&&(x.2.1==y.2.1 && !y.2.2.2))with
  |false=>rw[hc]at h;cases h
  |true =>
   rw[hc]at h
   simp only[Bool.and_eq_true,beq_iff_eq,Bool.not_eq_true']at hc
   exact .inl ⟨rfl,hc.1,hc.2.1.symm,hc.2.2,(Option.some.inj h).symm⟩
 |false =>
  rw[h1,cond_false]at h
  cases h2:(x.1==36)with
  |true =>
   rw[h2,cond_true]at h
   cases hc:((y.1==9&&(x.2.1==y.2.1 && !y.2.2.2))&&(decide (0≤x.2.1)&&decide (x.2.1<26)))with
   |false=>rw[hc]at h;cases h
   |true =>
    rw[hc]at h
    simp only[Bool.and_eq_true,beq_iff_eq,Bool.not_eq_true',decide_eq_true_iff]at hc
    exact .inr (.inl ⟨rfl,rfl,hc.1.1,hc.1.2.1.symm,hc.1.2.2,hc.2.1,hc.2.2,(Option.some.inj h).symm⟩)
  |false =>
   rw[h2,cond_false]at h
   cases h3:(x.1==63)with
   |false=>rw[h3]at h;cases h
   |true =>
    rw[h3,cond_true]at h
    cases hc:((y.1==9&&(x.2.1==y.2.1&&y.2.2.2))&&(decide (0≤x.2.1)&&decide (x.2.1<26)))with
    |false=>rw[hc]at h;cases h
    |true =>
     rw[hc]at h
     simp only[Bool.and_eq_true,beq_iff_eq,decide_eq_true_iff]at hc
     exact .inr (.inr ⟨rfl,rfl,rfl,hc.1.1,hc.1.2.1.symm,hc.1.2.2,hc.2.1,hc.2.2,(Option.some.inj h).symm⟩)
theorem Aj{s:Int}(h:(!vp s)=true):(s==110)=false∧(s==36)=false∧(s==63)=false:=by
 unfold vp at h
 simpa using h
theorem o8{x:gi}{y:fL}{P R:m9}(h:El x y P=some R) :
  ((x.1==110)=false∧(x.1==36)=false∧(x.1==63)=false)∧(x.1==120)=false∧Ag x.1=y.1∧(y.1=5∨y.1=7)∧y.2.2.2=P.asks∧R = .un y.1 P:=by
 unfold El at h
 cases hc:(!vp x.1&&(!(x.1==120)&&((Ag x.1==y.1)&&((y.1==5 || y.1==7)&&(y.2.2.2==P.asks)))))with
 |false=>rw[hc]at h;cases h
 |true =>
  rw[hc]at h
  rw[Bool.and_eq_true]at hc
  have h2:=hc.2
  simp only[Bool.and_eq_true,Bool.not_eq_true',beq_iff_eq,Bool.or_eq_true]at h2
  exact⟨Aj hc.1,h2.1,h2.2.1,h2.2.2.1,h2.2.2.2,(Option.some.inj h).symm⟩
theorem su{x:gi}{y:fL}{P Q R:m9}(h:La x y P Q=some R) :
  ((x.1==110)=false∧(x.1==36)=false∧(x.1==63)=false)∧y.2.2.2=(P.asks || Q.asks) ∧
  (((x.1==120)=true∧y.1=10∧R = .exp P Q)∨((x.1==120)=false∧Ag x.1=y.1∧(y.1=2∨y.1=3∨y.1=4∨y.1=6∨y.1=8)∧R = .bin y.1 P Q)):=by
 unfold La at h
 cases hc:(!vp x.1&&(y.2.2.2==(P.asks || Q.asks)))with
 |false=>rw[hc]at h;cases h
 |true =>
  rw[hc,cond_true]at h
  rw[Bool.and_eq_true]at hc
  refine⟨Aj hc.1,by simpa using hc.2,?_⟩
  cases h1:(x.1==120)with
  |true =>
   rw[h1,cond_true]at h
   cases h2:(y.1==10)with
   |false=>rw[h2]at h;cases h
   |true=>rw[h2]at h;exact .inl ⟨rfl,by simpa using h2,(Option.some.inj h).symm⟩
  |false =>
   rw[h1,cond_false]at h
   cases h2:((Ag x.1==y.1)&&(y.1==2 || (y.1==3 || (y.1==4 || (y.1==6 || y.1==8)))))with
   |false=>rw[h2]at h;cases h
   |true =>
    rw[h2]at h
    simp only[Bool.and_eq_true,beq_iff_eq,Bool.or_eq_true]at h2
    exact .inr ⟨rfl,h2.1,h2.2,(Option.some.inj h).symm⟩
theorem BR{xs:List ab}{kd a b:Int}(hp:aO xs=true):∀r,iS xs kd a b=some r→0≤r.2:=fun r h=>(dZ hp (show _=some (r.1,r.2)from h)).1.2.1
theorem GD{xs:List ab}{a e:Int}(hp:aO xs=true):∀r,ql xs a e=some r→0≤r.2:=fun r h=>(dZ hp (oY (show _=some (r.1,r.2)from h))).1.2.1
theorem rJ{l1:List gi}{l2:List fL}{k:Nat}{a b:Int}{P:m9}(h:ni l1 l2 (k+1) a b=some P) :
    ba a l1.length=true∧ba b l2.length=true ∧
    (((l1.getD a.toNat zP).2.2=[]∧FC (l1.getD a.toNat zP) (l2.getD b.toNat zS)=some P) ∨
     (∃p Q,(l1.getD a.toNat zP).2.2=[p]∧ni l1 l2 k p (l2.getD b.toNat zS).2.1=some Q∧El (l1.getD a.toNat zP) (l2.getD b.toNat zS) Q=some P) ∨
     (∃p q Q R,(l1.getD a.toNat zP).2.2=[p,q]∧ni l1 l2 k p (l2.getD b.toNat zS).2.1=some Q∧ni l1 l2 k q (l2.getD b.toNat zS).2.2.1=some R∧La (l1.getD a.toNat zP) (l2.getD b.toNat zS) Q R=some P)):=by
  unfold ni at h
  cases hb:(ba a l1.length&&ba b l2.length)with
  |false=>rw[hb]at h;cases h
  |true =>
    rw[hb,cond_true]at h
    rw[Bool.and_eq_true]at hb
    refine⟨hb.1,hb.2,?_⟩
    split at h
    · rename_i e;exact .inl ⟨e,h⟩
    · rename_i p e
      obtain⟨Q,h1,h2⟩:=Option.bind_eq_some_iff.1 h
      exact .inr (.inl ⟨p,Q,e,h1,h2⟩)
    · rename_i p q e
      obtain⟨Q,h1,h2⟩:=Option.bind_eq_some_iff.1 h
      obtain⟨R,h3,h4⟩:=Option.bind_eq_some_iff.1 h2
      exact .inr (.inr ⟨p,q,Q,R,e,h1,h3,h4⟩)
    · cases h
theorem yu{env:List Int}(he:env.length=26){i:Int}(h0:0≤i) (h1:i<26):ba i env.length=true:=by
 have e:i=((i.toNat:Nat):Int):=by omega
 rw[e]
 exact aq (by omega)
theorem J6{env:List Int}(xs:List ab) (i:Int):(match mk env (.var i) xs with
  |some s=>(xs,env.getD i.toNat 0)=s
  |none=>env.getD i.toNat 0<0):=by
 by_cases hn:env.getD i.toNat 0<0
 ·have:mk env (.var i) xs=none:=by
   show(bif decide (env.getD i.toNat 0<0)then none else some (xs,env.getD i.toNat 0))=none
   rw[decide_eq_true hn];rfl
  rw[this];exact hn
 ·have:mk env (.var i) xs=some (xs,env.getD i.toNat 0):=by
   show(bif decide (env.getD i.toNat 0<0)then none else some (xs,env.getD i.toNat 0))=_
   rw[decide_eq_false hn];rfl
  rw[this]
abbrev KG:=List ab×Int
def sn (res:Option KG) (m:Option (List ab×Int)):Prop:=∃ys t,res=some (ys,t)∧(match m with
 |some s=>(ys,t)=s
 |none=>t=-1)
theorem rC{xs:List ab}{m:Option (List ab×Int)}(h:∀r,m=some r→0≤r.2):sn (some ((nM xs m).1,(nM xs m).2)) m:=by
 refine⟨_,_,rfl,?_⟩
 cases m with
 |none=>rfl
 |some s=>rfl
theorem LJ{env:List Int}(hv:∀i:Nat,env.getD i 0<0→env.getD i 0=-1) (xs:List ab) (i:Int):(match mk env (.var i) xs with
  |some s=>(xs,env.getD i.toNat 0)=s
  |none=>env.getD i.toNat 0=-1):=by
 have h:=J6 (env:=env) xs i
 cases q:mk env (.var i) xs with
 |none=>rw[q]at h;exact hv _ h
 |some s=>rw[q]at h;exact h
theorem CC (n:Nat) (y:fL):bR n (y.1,y.2.1,y.2.2.1,y.2.2.2)=cond (y.1==(9:Int)) (some (0:Int)) (cond (y.1==(10:Int)) (some (2:Int)) ((jF n y.1).bind fun r1=>(some r1))):=rfl
theorem qc{l1:List gi}{l2:List fL}{env:List Int}(he:env.length=26) (hv:∀i:Nat,env.getD i 0<0→env.getD i 0=-1):∀(k:Nat) (a b:Int) (P:m9) (xs:List ab) (j:Nat),ni l1 l2 k a b=some P→k≤j→aO xs=true→sn (bV N0 j (xs,env,l2,b)) (mk env P xs)
 |0,a,b,P,xs,j,h,_,_=>by cases h
 |k+1,a,b,P,xs,0,h,hj,_=>by omega
 |k+1,a,b,P,xs,j+1,h,hj,hp=>by
  have hx:=cL hp
  obtain⟨_,hb,hc⟩:=rJ h
  have e0:bV N0 (j+1) (xs,env,l2,b)=cond (ba b l2.length) (cond (l2.getD b.toNat zS).2.2.2 (some (xs,(-1:Int))) (cond ((l2.getD b.toNat zS).1==(9:Int)) ((dX N0 (bV N0 j) (env,xs,[],(l2.getD b.toNat zS).1,(l2.getD b.toNat zS).2.1,(l2.getD b.toNat zS).2.2.1,(l2.getD b.toNat zS).2.2.2)).bind fun g1=>(some (g1.1,g1.2))) (cond ((l2.getD b.toNat zS).1==(1:Int)) ((bI N0 (xs,(l2.getD b.toNat zS).2.1)).bind fun r2=>(some (r2.1,r2.2))) ((bV N0 j (xs,env,l2,(l2.getD b.toNat zS).2.1)).bind fun r3=>(cond (decide (r3.2<(0:Int))) (some (xs,(-1:Int))) ((bR N0 ((l2.getD b.toNat zS).1,(l2.getD b.toNat zS).2.1,(l2.getD b.toNat zS).2.2.1,(l2.getD b.toNat zS).2.2.2)).bind fun r4=>(cond (r4==(1:Int)) ((aR N0 (r3.1,(l2.getD b.toNat zS).1,r3.2,(0:Int))).bind fun r5=>(some (r5.1,r5.2))) ((bV N0 j (r3.1,env,l2,(l2.getD b.toNat zS).2.2.1)).bind fun r6=>(cond (decide (r6.2<(0:Int))) (some (xs,(-1:Int))) (cond ((l2.getD b.toNat zS).1==(10:Int)) ((dK N0 (r6.1,r6.2,r3.2)).bind fun r7=>(some (r7.1,r7.2))) ((aR N0 (r6.1,(l2.getD b.toNat zS).1,r3.2,r6.2)).bind fun r8=>(some (r8.1,r8.2))))))))))))) none:=rfl
  rw[e0,hb,cond_true]
  have fin2:∀(z:Option KG),(l2.getD b.toNat zS).2.2.2=P.asks→(P.asks=false→sn z (mk env P xs))→sn (cond (l2.getD b.toNat zS).2.2.2 (some (xs,(-1:Int))) z) (mk env P xs):=fun z q1 q2=>by
   rw[q1]
   cases hA:P.asks with
   |true =>
    rw[cond_true,rz xs hA]
    exact⟨xs, -1,rfl,rfl⟩
   |false=>rw[cond_false];exact q2 hA
  rcases hc with⟨hps,hl⟩|⟨p,Q,hps,h1,h2⟩|⟨p,q,Q,R,hps,h1,h2,h3⟩
  ·rcases qB hl with⟨c1,c2,c3,c4,rfl⟩|⟨_,c1,c2,c3,c4,c6,c7,rfl⟩|⟨_,_,c1,c2,c3,c4,c6,c7,rfl⟩
   ·rw[c4,c2,c3,cond_false]
    show sn ((bI N0 (xs,(l1.getD a.toNat zP).2.1)).bind fun r2=>(some (r2.1,r2.2))) _
    rw[jp hp,Option.bind_some]
    exact rC (BR hp)
   ·rw[c4,c2,c3,cond_false]
    show sn ((dX N0 (bV N0 j) (env,xs,[],_,(l1.getD a.toNat zP).2.1,_,_)).bind fun g1=>(some (g1.1,g1.2))) _
    unfold dX
    dsimp only
    rw[yu he c6 c7,cond_true,Option.bind_some]
    exact⟨_,_,rfl,LJ hv xs _⟩
   ·rw[c4,cond_true]
    exact⟨xs, -1,rfl,rfl⟩
  ·obtain⟨_,c4,c5,c6,c7,rfl⟩:=o8 h2
   refine fin2 _ c7 fun hA=>?_
   have n9:((l2.getD b.toNat zS).1==(9:Int))=false:=by rw[beq_eq_false_iff_ne];omega
   have n1:((l2.getD b.toNat zS).1==(1:Int))=false:=by rw[beq_eq_false_iff_ne];omega
   have hpt:bR N0 ((l2.getD b.toNat zS).1,(l2.getD b.toNat zS).2.1,(l2.getD b.toNat zS).2.2.1,(l2.getD b.toNat zS).2.2.2)=some 1:=by
    rw[CC]
    rcases c6 with e|e<;>rw[e]<;>rfl
   rw[n9,n1,cond_false,cond_false]
   obtain⟨ys,t,g1,g2⟩:=qc he hv k p _ Q xs j h1 (by omega) hp
   rw[g1,Option.bind_some]
   dsimp only
   show sn _ ((mk env Q xs).bind fun r=>iS r.1 (l2.getD b.toNat zS).1 r.2 0)
   cases hm:mk env Q xs with
   |none =>
    rw[hm]at g2
    have g2:t=-1:=g2
    rw[decide_eq_true (by omega:t<0),cond_true]
    exact⟨xs, -1,rfl,rfl⟩
   |some s =>
    rw[hm]at g2
    have g2:(ys,t)=s:=g2
    subst g2
    have gr:=dP hp hm
    rw[decide_eq_false (by have:=gr.2.1;omega),cond_false,hpt,Option.bind_some,Option.bind_some]
    show sn ((aR N0 (ys,(l2.getD b.toNat zS).1,t,(0:Int))).bind fun r5=>(some (r5.1,r5.2))) _
    rw[gR gr.1,Option.bind_some]
    exact rC (BR gr.1)
  ·obtain⟨_,c4,c5⟩:=su h3
   have hasks:P.asks=(Q.asks || R.asks):=by
    rcases c5 with⟨_,_,rfl⟩|⟨_,_,_,rfl⟩<;>rfl
   refine fin2 _ (c4.trans hasks.symm) fun hA=>?_
   have n9:((l2.getD b.toNat zS).1==(9:Int))=false:=by
    rw[beq_eq_false_iff_ne]
    rcases c5 with⟨_,e,_⟩|⟨_,_,e,_⟩<;>omega
   have n1:((l2.getD b.toNat zS).1==(1:Int))=false:=by
    rw[beq_eq_false_iff_ne]
    rcases c5 with⟨_,e,_⟩|⟨_,_,e,_⟩<;>omega
   have hpt:bR N0 ((l2.getD b.toNat zS).1,(l2.getD b.toNat zS).2.1,(l2.getD b.toNat zS).2.2.1,(l2.getD b.toNat zS).2.2.2)=some 2:=by
    rw[CC]
    rcases c5 with⟨_,e,_⟩|⟨_,_,e,_⟩
    ·rw[e];rfl
    ·rcases e with e|e|e|e|e<;>rw[e]<;>rfl
   rw[n9,n1,cond_false,cond_false]
   have hmk:(mk env Q xs=none→mk env P xs=none)∧(∀s,mk env Q xs=some s→mk env R s.1=none→mk env P xs=none):=by
    rcases c5 with⟨_,_,rfl⟩|⟨_,_,_,rfl⟩
    ·exact⟨fun e=>by show(mk env Q xs).bind _=none;rw[e];rfl,fun s e1 e2=>by show(mk env Q xs).bind _=none;rw[e1];show(mk env R s.1).bind _=none;rw[e2];rfl⟩
    ·exact⟨fun e=>by show(mk env Q xs).bind _=none;rw[e];rfl,fun s e1 e2=>by show(mk env Q xs).bind _=none;rw[e1];show(mk env R s.1).bind _=none;rw[e2];rfl⟩
   obtain⟨ys,t,g1,g2⟩:=qc he hv k p _ Q xs j h1 (by omega) hp
   rw[g1,Option.bind_some]
   dsimp only
   cases hm:mk env Q xs with
   |none =>
    rw[hm]at g2
    have g2:t=-1:=g2
    rw[decide_eq_true (by omega:t<0),cond_true,hmk.1 hm]
    exact⟨xs, -1,rfl,rfl⟩
   |some s =>
    rw[hm]at g2
    have g2:(ys,t)=s:=g2
    subst g2
    have gr:=dP hp hm
    rw[decide_eq_false (by have:=gr.2.1;omega),cond_false,hpt,Option.bind_some]
    show sn ((bV N0 j (ys,env,l2,(l2.getD b.toNat zS).2.2.1)).bind fun r6=>(cond (decide (r6.2<(0:Int))) (some (xs,(-1:Int))) (cond ((l2.getD b.toNat zS).1==(10:Int)) ((dK N0 (r6.1,r6.2,t)).bind fun r7=>(some (r7.1,r7.2))) ((aR N0 (r6.1,(l2.getD b.toNat zS).1,t,r6.2)).bind fun r8=>(some (r8.1,r8.2)))))) _
    obtain⟨zs,u,g3,g4⟩:=qc he hv k q _ R ys j h2 (by omega) gr.1
    rw[g3,Option.bind_some]
    dsimp only
    cases hm2:mk env R ys with
    |none =>
     rw[hm2]at g4
     have g4:u=-1:=g4
     rw[decide_eq_true (by omega:u<0),cond_true,hmk.2 _ hm hm2]
     exact⟨xs, -1,rfl,rfl⟩
    |some s2 =>
     rw[hm2]at g4
     have g4:(zs,u)=s2:=g4
     subst g4
     have gr2:=dP gr.1 hm2
     rw[decide_eq_false (by have:=gr2.2.1;omega),cond_false]
     rcases c5 with⟨d1,d2,rfl⟩|⟨d1,d2,d3,rfl⟩
     ·rw[d2]
      show sn ((dK N0 (zs,u,t)).bind fun r7=>(some (r7.1,r7.2))) _
      rw[tI gr2.1,Option.bind_some]
      have e:mk env (.exp Q R) xs=ql zs u t:=by
       show(mk env Q xs).bind _=_
       rw[hm]
       show(mk env R ys).bind _=_
       rw[hm2];rfl
      rw[e]
      exact rC (GD gr2.1)
     ·have n10:((l2.getD b.toNat zS).1==(10:Int))=false:=by rw[beq_eq_false_iff_ne];omega
      rw[n10,cond_false,gR gr2.1,Option.bind_some]
      have e:mk env (.bin (l2.getD b.toNat zS).1 Q R) xs=iS zs (l2.getD b.toNat zS).1 t u:=by
       show(mk env Q xs).bind _=_
       rw[hm]
       show(mk env R ys).bind _=_
       rw[hm2];rfl
      rw[e]
      exact rC (BR gr2.1)
theorem G3 {α β:Type}(f:α→β) (c:Bool) (a b:Option α):Option.map f (cond c a b)=cond c (Option.map f a) (Option.map f b):=by cases c<;>rfl
theorem G4 {α β γ:Type}(f:β→γ) (x:Option α) (g:α→Option β):Option.map f (x.bind g)=x.bind fun a=>Option.map f (g a):=by cases x<;>rfl
theorem IE {α β γ:Type}(f:α→β) (x:Option α) (g:β→Option γ):(Option.map f x).bind g=x.bind fun a=>g (f a):=by cases x<;>rfl
theorem EP {α β:Type}(f:α→Option β) (c:Bool) (a b:Option α):(cond c a b).bind f=cond c (a.bind f) (b.bind f):=by cases c<;>rfl
theorem zu {α β:Type}(f:α→β) (a:α):Option.map f (some a)=some (f a):=rfl
theorem GS {α β:Type}(f:α→β):Option.map f (none:Option α)=none:=rfl
theorem nO (n:Nat):∀(k:Nat) (xs:List ab) (env:List Int) (l:List fL) (b:Int),cu n k (xs,env,l,b)=(bV n k (xs,env,l,b)).map (fun r=>(env,r.1,r.2))
 |0,xs,env,l,b=>rfl
 |k+1,xs,env,l,b=>by
  have ih:=nO n k
  show iC n (cu n k) (xs,env,l,b)=(jT n (bV n k) (xs,env,l,b)).map _
  simp only[iC,jT,gD,dX,ih,G3,G4,IE,zu,GS,EP,Option.bind_some,Option.bind_none]
def qi (w p:Int):List (Int×ByteArray):=(cU N0 (w,p)).getD []
theorem q9{w p:Int}(hw:w=1∨w=2∨w=3) (hp:p=0∨p=1):eZ N0 (w,p)=some (qi w p,true)∧cU N0 (w,p)=some (qi w p)∧(qi w p).length=5:=by
 rcases hw with rfl|rfl|rfl<;>rcases hp with rfl|rfl
 all_goals exact⟨by kernel_rfl,by kernel_rfl,by kernel_rfl⟩
def wW (T:ByteArray) (P:m9):Prop:=∃b l1 l2 k,eG N0 T=some (b,true,l1)∧d8 N0 T=some (l2,true)∧k≤N0∧ni l1 l2 k ((l1.length:Int)-1) ((l2.length:Int)-1)=some P∧l1.length≤4294967296∧l2.length≤4294967296
def Lu (T:ByteArray) (f:m9→Bool):Bool:=match eG N0 T,d8 N0 T with
 |some r,some q=>r.2.1&&(q.2&&((match ni r.2.2 q.1 40 ((r.2.2.length:Int)-1) ((q.1.length:Int)-1)with|some P=>f P|none=>false)&&(Nat.ble r.2.2.length 300&&Nat.ble q.1.length 300)))
 |_,_=>false
theorem Fn{T:ByteArray}{f:m9→Bool}(h:Lu T f=true):∃P,wW T P∧f P=true:=by
 unfold Lu at h
 split at h
 ·rename_i r q e1 e2
  rw[Bool.and_eq_true,Bool.and_eq_true,Bool.and_eq_true,Bool.and_eq_true]at h
  obtain⟨h1,h2,h3,h4,h5⟩:=h
  obtain⟨b,o,l1⟩:=r
  obtain⟨l2,o2⟩:=q
  have h1:o=true:=h1
  have h2:o2=true:=h2
  subst h1;subst h2
  split at h3
  ·rename_i P e3
   exact⟨P,⟨b,l1,l2,40,e1,e2,by decide,e3,Nat.le_trans (show l1.length≤300 from Nat.le_of_ble_eq_true h4) (by decide),Nat.le_trans (show l2.length≤300 from Nat.le_of_ble_eq_true h5) (by decide)⟩,h3⟩
  ·cases h3
 ·cases h
def SZ (a:Int×ByteArray):Bool:=a.1==1&&(a.2.size==1&&(decide (97≤bt a.2 0)&&decide (bt a.2 0≤122))) || (a.1==3&&Lu a.2 (fun _=>true) || ((a.1==2 || a.1==4)&&Lu a.2 (fun P => !P.asks)))
def MG (w p:Int):Bool:=(qi w p).all SZ&&(List.range 5).all (fun i=>(((qi w p).getD i ((0:Int),(⟨#[]⟩:ByteArray))).1==4)==Nat.beq i 4)
theorem Gz{w p:Int}(hw:w=1∨w=2∨w=3) (hp:p=0∨p=1):MG w p=true:=by
 rcases hw with rfl|rfl|rfl<;>rcases hp with rfl|rfl
 all_goals kernel_rfl
theorem tS (h:some false=some true):False:=by cases h
structure KW (xs:List ab) (x:bo):Prop where
 way:x.1=1∨x.1=2∨x.1=3
 side:x.2.1=0∨x.2.1=1
 me:0≤x.2.2.1∧x.2.2.1≤4
 peer:0≤x.2.2.2.1∧x.2.2.2.1≤4
 ne:x.2.2.1≠x.2.2.2.1
 env:d6 xs (tu x)=true
 len:(tu x).length=26
 pool:aO xs=true
 at0:0≤x.2.2.2.2.1∧x.2.2.2.2.1≤5
 done:dn x=(x.2.2.2.2.1==5)
 live:dn x=true→x.2.2.2.2.2.2.2.1=false
 key:dn x=true→cC xs x.2.2.2.2.2.2.2.2=true
 no:dn x=false→x.2.2.2.2.2.2.2.2=-1
theorem Bx{xs:List ab}(hx:xs.length≤4294967296){x:bo}(he:(tu x).length≤4294967296) (h:iP xs x=true):KW xs x:=by
 have h1:=(rH hx he).1
 rw[h]at h1
 obtain⟨w,p,a,b,at_,env,d,dd,key⟩:=x
 dsimp only at h1
 unfold fc at h1
 simp only[sR N0 n0 hx (show env.length≤4294967296 from he),qT,Option.bind_some]at h1
 by_cases hr:(w=1∨w=2∨w=3)∧(p=0∨p=1)
 ·obtain⟨r1,r2,r3⟩:=q9 hr.1 hr.2
  rw[r1]at h1
  simp only[Option.bind_some,dY,oo N0 hx,r3,Bool.not_true,cond_false]at h1
  cases ha:(decide (a≥0)&&decide (a≤4))with
  |false=>rw[ha]at h1;exact(tS h1).elim
  |true =>
   cases hb:(decide (b≥0)&&decide (b≤4))with
   |false=>rw[ha,hb]at h1;exact(tS h1).elim
   |true =>
    cases hab:(a==b)with
    |true=>rw[ha,hb,hab]at h1;exact(tS h1).elim
    |false =>
     cases h2:(d6 xs env&&(decide (env.length=26)&&(decide (xs.length≤500)&&cj N0 [] xs)))with
     |false=>rw[ha,hb,hab,h2]at h1;exact(tS h1).elim
     |true =>
      cases h3:(decide (at_≥0)&&decide (at_≤((5:Nat):Int)))with
      |false=>rw[ha,hb,hab,h2,h3]at h1;exact(tS h1).elim
      |true =>
       rw[ha,hb,hab,h2,h3]at h1
       simp only[Bool.not_true,cond_false]at h1
       rw[Bool.and_eq_true,decide_eq_true_iff,decide_eq_true_iff]at ha hb h3
       rw[Bool.and_eq_true,Bool.and_eq_true]at h2
       have h5:(at_==((5:Nat):Int))=(at_==5):=rfl
       rw[h5]at h1
       cases h4:((at_==5) != d)with
       |true=>rw[h4]at h1;exact(tS h1).elim
       |false =>
        rw[h4,cond_false]at h1
        have h6:d=(at_==5):=by
         rw[bne_eq_false_iff_eq]at h4
         exact h4.symm
        refine⟨hr.1,hr.2,⟨ha.1,ha.2⟩,⟨hb.1,hb.2⟩,by simpa using hab,h2.1,of_decide_eq_true h2.2.1,h2.2.2,⟨h3.1,h3.2⟩,h6,fun hd=>?_,fun hd=>?_,fun hd=>?_⟩
        ·have hd:d=true:=hd
         subst hd
         show dd=false
         cases dd with
         |false=>rfl
         |true=>exact(tS h1).elim
        ·have hd:d=true:=hd
         subst hd
         cases dd with
         |false=>exact Option.some.inj h1
         |true=>exact(tS h1).elim
        ·have hd:d=false:=hd
         subst hd
         have:(key == -1)=true:=Option.some.inj h1
         exact by simpa using this
 ·rw[(Cl w p hr).1]at h1
  exact(tS h1).elim
theorem qP{xs:List ab}:∀{env:List Int},d6 xs env=true→∀i:Nat,env.getD i 0<0→env.getD i 0=-1
 |[],_,i,h=>by simp at h
 |v::r,hb,i,h=>by
  have hb:((v == -1 || cC xs v)&&d6 xs r)=true:=hb
  rw[Bool.and_eq_true,Bool.or_eq_true]at hb
  match i with
  |0 =>
   have h:v<0:=h
   rcases hb.1 with q|q
   ·exact by simpa using q
   ·unfold cC at q
    simp at q
    omega
  |i+1=>exact qP hb.2 i h
theorem uM{xs:List ab}(hx:xs.length≤4294967296):aM N0 xs=some xs:=by
 unfold aM
 have:aI (([]:List ab).length+xs.length)=true:=by
  unfold aI
  simp
  omega
 rw[this];rfl
theorem Ez{T:ByteArray}{P:m9}(hT:wW T P){xs:List ab}(hp:aO xs=true){env:List Int}(he:env.length=26) (hv:d6 xs env=true):∃l2 ys t,d8 N0 T=some (l2,true)∧l2.length≤4294967296∧bV N0 N0 (xs,env,l2,(l2.length:Int)-1)=some (ys,t)∧(match mk env P xs with
  |some s=>(ys,t)=s
  |none=>t=-1):=by
 obtain⟨b,l1,l2,k,e1,e2,hk,hd,hl1,hl2⟩:=hT
 obtain⟨ys,t,g1,g2⟩:=qc he (qP hv) k _ _ P xs N0 hd hk hp
 exact⟨l2,ys,t,e2,hl2,g1,g2⟩
theorem Ff{w p:Int}(hw:w=1∨w=2∨w=3) (hp:p=0∨p=1){i:Nat}(hi:i<5) (a:Int×ByteArray) (ha:a=(qi w p).getD i ((0:Int),(⟨#[]⟩:ByteArray))) :
  (a.1=4↔i=4)∧((a.1=1∧a.2.size=1∧97≤bt a.2 0∧bt a.2 0≤122)∨(a.1=3∧∃P,wW a.2 P)∨((a.1=2∨a.1=4)∧∃P,wW a.2 P∧P.asks=false)):=by
 have hb:=Gz hw hp
 obtain⟨_,_,hl⟩:=q9 hw hp
 unfold MG at hb
 rw[Bool.and_eq_true]at hb
 have h2:=List.all_eq_true.1 hb.2 i (List.mem_range.2 hi)
 rw[←ha]at h2
 have hm:a∈qi w p:=by
  rw[ha,List.getD_eq_getElem?_getD,List.getElem?_eq_getElem (by omega)]
  exact List.getElem_mem _
 have h1:=List.all_eq_true.1 hb.1 a hm
 refine⟨?_,?_⟩
 ·have h2:(a.1==4)=Nat.beq i 4:=by simpa using h2
  constructor
  ·intro h
   rw[h]at h2
   exact Nat.eq_of_beq_eq_true h2.symm
  ·intro h
   rw[h]at h2
   have:(a.1==4)=true:=h2
   exact by simpa using this
 ·unfold SZ at h1
  rw[Bool.or_eq_true,Bool.or_eq_true,Bool.and_eq_true,Bool.and_eq_true,Bool.and_eq_true,Bool.and_eq_true,Bool.and_eq_true,Bool.or_eq_true]at h1
  rcases h1 with⟨h1,h3,h4,h5⟩|⟨h1,h3⟩|⟨h1,h3⟩
  ·exact .inl ⟨by simpa using h1,by simpa using h3,of_decide_eq_true h4,of_decide_eq_true h5⟩
  ·obtain⟨P,hP,_⟩:=Fn h3
   exact .inr (.inl ⟨by simpa using h1,P,hP⟩)
  ·obtain⟨P,hP,hA⟩:=Fn h3
   exact .inr (.inr ⟨by simpa using h1,P,hP,by simpa using hA⟩)
section
variable{xs:List ab}{kn:List Int}{li:List bo}{fr:Int}{gv sh:List Int}{lg:List aS}{k:Int}
theorem DL (hw:cp xs kn li fr gv sh lg=true):aO xs=true:=by
 unfold cp pH at hw
 rw[Bool.and_eq_true,Bool.and_eq_true,Bool.and_eq_true]at hw
 exact hw.1.2.2
theorem DM (hw:cp xs kn li fr gv sh lg=true){i:Nat}(hi:i<li.length):iP xs (li.getD i zI)=true:=by
 unfold cp at hw
 rw[Bool.and_eq_true,Bool.and_eq_true,Bool.and_eq_true,Bool.and_eq_true,Bool.and_eq_true,Bool.and_eq_true]at hw
 have h:=hw.2.2.2.2.2.1
 unfold qC at h
 exact dS.1 h i (Nat.zero_le _) (by omega)
theorem DN (hs:Small xs kn li gv sh lg) (hw:cp xs kn li fr gv sh lg=true){i:Nat}(hi:i<li.length):KW xs (li.getD i zI):=Bx hs.fx (hs.fe i hi) (DM hw hi)
theorem eH{xs:List ab}{t:Int}:cC xs t=true↔0≤t∧t<(xs.length:Int):=by
 unfold cC
 rw[Bool.and_eq_true,decide_eq_true_iff,decide_eq_true_iff]
 omega
def mc (d:Nat→Bool):Nat→Nat→List Int
 |_,0=>[]
 |i,m+1=>bif d i then(i:Int)::mc d (i+1) m else mc d (i+1) m
theorem xO{d:Nat→Bool}:∀{m i:Nat},(∀j,i≤j→j<i+m→d j=false)→mc d i m=[]
 |0,_,_=>rfl
 |m+1,i,h=>by
  unfold mc
  rw[h i (Nat.le_refl _) (by omega),cond_false,xO (m:=m) (i:=i+1) (fun j h1 h2=>h j (by omega) (by omega))]
end
def zj (env:List Int):Prop:=env.length=26∧∀i:Nat,env.getD i 0<0→env.getD i 0=-1
theorem Fd{env:List Int}{i:Nat}(h:i<env.length) (t:Int):(env.set i t).getD i 0=t:=by
 rw[List.getD_eq_getElem?_getD,List.getElem?_set_self h];rfl
theorem zj.set{env:List Int}(h:zj env){i:Nat}(hi:i<env.length){t:Int}(ht:0≤t):zj (env.set i t):=by
 refine⟨by rw[List.length_set];exact h.1,fun j hj=>?_⟩
 by_cases e:i=j
 ·subst e
  rw[Fd hi]at hj
  omega
 ·have e2:(env.set i t).getD j 0=env.getD j 0:=by rw[List.getD_eq_getElem?_getD,List.getD_eq_getElem?_getD,List.getElem?_set_ne e]
  rw[e2]at hj ⊢
  exact h.2 _ hj
theorem ix{xs zs:List ab}{t:Int}(h:cC xs t=true):cC (xs++zs) t=true:=by
 rw[eH]at h ⊢
 rw[List.length_append]
 omega
def G0 (env:List Int) (P:m9) (xs:List ab) (t:Int):Option (List Int×List ab):=(mk env P xs).bind fun r=>bif r.2==t then some (env,r.1)else none
abbrev nd (xs:List ab) (t:Int):ab:=xs.getD t.toNat oJ
def dz:m9→List Int→List ab→Int→Option (List Int×List ab)
 | .ask i,env,xs,t=>bif decide (env.getD i.toNat 0<0)then some (env.set i.toNat t,xs)else bif env.getD i.toNat 0==t then some (env,xs)else none
 | .bin k p q,env,xs,t=>bif k==2 then(bif (nd xs t).1==2 then(dz p env xs (nd xs t).2.1).bind fun r=>dz q r.1 r.2 (nd xs t).2.2 else none)
   else bif k==3 || k==4 then(bif (nd xs t).1==k then(dz q env xs (nd xs t).2.2).bind fun r=>dz p r.1 r.2 (nd xs t).2.1 else none)
   else G0 env (.bin k p q) xs t
 | .name c,env,xs,t=>G0 env (.name c) xs t
 | .var i,env,xs,t=>G0 env (.var i) xs t
 | .un k p,env,xs,t=>G0 env (.un k p) xs t
 | .exp p q,env,xs,t=>G0 env (.exp p q) xs t
theorem qu{env e:List Int}{P:m9}{xs ys:List ab}{t:Int}(hE:zj env) (hp:aO xs=true) (h:G0 env P xs t=some (e,ys)):zj e∧aO ys=true∧∃zs,ys=xs++zs:=by
 obtain⟨r,h1,h2⟩:=Option.bind_eq_some_iff.1 (show(mk env P xs).bind _=some (e,ys)from h)
 have g:=dP hp (show mk env P xs=some (r.1,r.2)from h1)
 cases hc:(r.2==t)with
 |false=>rw[hc]at h2;cases h2
 |true =>
  rw[hc]at h2
  obtain⟨rfl,rfl⟩:=Prod.mk.inj (Option.some.inj h2)
  exact⟨hE,g.1,g.2.2⟩
theorem EA{xs:List ab}{t:Int}(hp:aO xs=true) (ht:cC xs t=true) (hk:(nd xs t).1=2∨(nd xs t).1=3∨(nd xs t).1=4):cC xs (nd xs t).2.1=true∧cC xs (nd xs t).2.2=true:=by
 have hl:=cL hp
 rw[eH]at ht
 have h:=xL hp (j:=t.toNat) (by omega)
 have hd:(xs.getD t.toNat oJ)=nd xs t:=rfl
 rw[hd]at h
 generalize nd xs t=X at h hk
 have hc:dI N0 X.1=some 2:=by rcases hk with e|e|e<;>rw[e]<;>rfl
 rw[show((t.toNat:Nat):Int)=t from by omega]at h
 unfold fP ci at h
 dsimp only at h
 rw[hc,ak (by omega) (by omega)]at h
 simp only[Option.bind_some,dY]at h
 have c0:((2:Int)==(0:Int))=false:=by decide
 have c1:((2:Int)==(1:Int))=false:=by decide
 have c2:((2:Int)==(2:Int))=true:=by decide
 rw[c0,c1,c2,cond_false,cond_false,cond_true]at h
 cases h1:(decide (X.2.1≥0)&&decide (X.2.1≤t-1))with
 |false=>rw[h1]at h;cases h
 |true =>
  cases h2:(decide (X.2.2≥0)&&decide (X.2.2≤t-1))with
  |false=>rw[h1,h2]at h;cases h
  |true =>
   rw[Bool.and_eq_true,decide_eq_true_iff,decide_eq_true_iff]at h1 h2
   rw[eH,eH]
   omega
theorem ei:∀{P:m9}{env e:List Int}{xs ys:List ab}{t:Int},zj env→aO xs=true→cC xs t=true→dz P env xs t=some (e,ys)→zj e∧aO ys=true∧∃zs,ys=xs++zs
 | .name c,env,e,xs,ys,t,hE,hp,ht,h=>qu hE hp h
 | .var i,env,e,xs,ys,t,hE,hp,ht,h=>qu hE hp h
 | .un k p,env,e,xs,ys,t,hE,hp,ht,h=>qu hE hp h
 | .exp p q,env,e,xs,ys,t,hE,hp,ht,h=>qu hE hp h
 | .ask i,env,e,xs,ys,t,hE,hp,ht,h=>by
  have h:(bif decide (env.getD i.toNat 0<0)then some (env.set i.toNat t,xs)else bif env.getD i.toNat 0==t then some (env,xs)else none)=some (e,ys):=h
  by_cases hn:env.getD i.toNat 0<0
  ·rw[decide_eq_true hn]at h
   obtain⟨rfl,rfl⟩:=Prod.mk.inj (Option.some.inj h)
   have hi:i.toNat<env.length:=by
    refine Nat.lt_of_not_le fun q=>?_
    rw[List.getD_eq_getElem?_getD,List.getElem?_eq_none q]at hn
    exact absurd hn (by decide)
   exact⟨hE.set hi (eH.1 ht).1,hp,[],by simp⟩
  ·rw[decide_eq_false hn]at h
   cases hc:(env.getD i.toNat 0==t)with
   |false=>rw[hc]at h;cases h
   |true =>
    rw[hc]at h
    obtain⟨rfl,rfl⟩:=Prod.mk.inj (Option.some.inj h)
    exact⟨hE,hp,[],by simp⟩
 | .bin k p q,env,e,xs,ys,t,hE,hp,ht,h=>by
  have h:(bif k==2 then(bif (nd xs t).1==2 then(dz p env xs (nd xs t).2.1).bind fun r=>dz q r.1 r.2 (nd xs t).2.2 else none)
   else bif k==3 || k==4 then(bif (nd xs t).1==k then(dz q env xs (nd xs t).2.2).bind fun r=>dz p r.1 r.2 (nd xs t).2.1 else none)
   else G0 env (.bin k p q) xs t)=some (e,ys):=h
  cases h2:(k==2)with
  |true =>
   rw[h2,cond_true]at h
   cases h3:((nd xs t).1==2)with
   |false=>rw[h3]at h;cases h
   |true =>
    rw[h3,cond_true]at h
    obtain⟨k1,k2⟩:=EA hp ht (.inl (by simpa using h3))
    obtain⟨r,h4,h5⟩:=Option.bind_eq_some_iff.1 h
    obtain⟨g1,g2,w,g3⟩:=ei hE hp k1 (show _=some (r.1,r.2)from h4)
    obtain⟨g4,g5,v,g6⟩:=ei g1 g2 (by rw[g3];exact ix k2) h5
    exact⟨g4,g5,w++v,by rw[g6,g3,List.append_assoc]⟩
  |false =>
   rw[h2,cond_false]at h
   cases h3:(k==3 || k==4)with
   |false=>rw[h3,cond_false]at h;exact qu hE hp h
   |true =>
    rw[h3,cond_true]at h
    cases h6:((nd xs t).1==k)with
    |false=>rw[h6]at h;cases h
    |true =>
     rw[h6,cond_true]at h
     have h7:(nd xs t).1=k:=by simpa using h6
     have h8:k=3∨k=4:=by simpa using h3
     obtain⟨k1,k2⟩:=EA hp ht (by rw[h7];exact .inr h8)
     obtain⟨r,h4,h5⟩:=Option.bind_eq_some_iff.1 h
     obtain⟨g1,g2,w,g3⟩:=ei hE hp k2 (show _=some (r.1,r.2)from h4)
     obtain⟨g4,g5,v,g6⟩:=ei g1 g2 (by rw[g3];exact ix k1) h5
     exact⟨g4,g5,w++v,by rw[g6,g3,List.append_assoc]⟩
def wn (res:Option (List Int×List ab×Bool)) (m:Option (List Int×List ab)):Prop:=∃e ys c,res=some (e,ys,c)∧(match m with
 |some s=>(e,ys)=s∧c=true
 |none=>c=false)
theorem LN{l1:List gi}{l2:List fL}{env:List Int}{xs:List ab}{k:Nat}{a b t:Int}{P:m9}(he:zj env) (hd:ni l1 l2 k a b=some P) (hk:k≤N0) (hp:aO xs=true) (ht:0≤t) :
  wn ((cu N0 N0 (xs,env,l2,b)).bind fun r16=>(cond (r16.2.2==t) (some (r16.1,r16.2.1,(decide (r16.2.2≥(0:Int))))) (some (r16.1,r16.2.1,false)))) (G0 env P xs t):=by
 obtain⟨ys,u,g1,g2⟩:=qc he.1 he.2 k a b P xs N0 hd hk hp
 rw[nO,g1,zu,Option.bind_some]
 dsimp only
 unfold G0
 cases hm:mk env P xs with
 |none =>
  rw[hm]at g2
  have g2:u=-1:=g2
  have:(u==t)=false:=by rw[beq_eq_false_iff_ne];omega
  rw[this,cond_false]
  exact⟨_,_,_,rfl,rfl⟩
 |some s =>
  rw[hm]at g2
  have g2:(ys,u)=s:=g2
  subst g2
  have gr:=dP hp hm
  rw[Option.bind_some]
  dsimp only
  cases(u==t)with
  |true=>exact⟨_,_,_,rfl,rfl,decide_eq_true gr.2.1⟩
  |false=>exact⟨_,_,_,rfl,rfl⟩
theorem kE{l1:List gi}{l2:List fL}:∀(k:Nat) (a b:Int) (P:m9) (env:List Int) (xs:List ab) (t:Int) (j:Nat),ni l1 l2 k a b=some P→k≤j→k≤N0→zj env→aO xs=true→cC xs t=true→wn (bE N0 j (xs,env,l2,b,t)) (dz P env xs t)
 |0,a,b,P,env,xs,t,j,h,_,_,_,_,_=>by cases h
 |k+1,a,b,P,env,xs,t,0,h,hj,_,_,_,_=>by omega
 |k+1,a,b,P,env,xs,t,j+1,h,hj,hn,hE,hp,ht=>by
  have hx:=cL hp
  obtain⟨t0,t1⟩:=eH.1 ht
  obtain⟨_,hb,hc⟩:=rJ h
  have mb:=LN (t:=t) hE h hn hp t0
  have e0:bE N0 (j+1) (xs,env,l2,b,t)=jd N0 (bE N0 j) (xs,env,l2,b,t):=rfl
  rw[e0]
  unfold jd ep
  dsimp only
  rw[hb,qG ht]
  simp only[cond_true]
  rcases hc with⟨hps,hl⟩|⟨p,Q,hps,h1,h2⟩|⟨p,q,Q,R,hps,h1,h2,h3⟩
  ·rcases qB hl with⟨c1,c2,c3,c4,rfl⟩|⟨_,c1,c2,c3,c4,c6,c7,rfl⟩|⟨_,_,c1,c2,c3,c4,c6,c7,rfl⟩
   ·rw[c2]
    exact mb
   ·rw[c2,c4,c3,yu hE.1 c6 c7]
    refine⟨env,xs,(env.getD (l1.getD a.toNat zP).2.1.toNat 0==t),rfl,?_⟩
    show match G0 env (.var (l1.getD a.toNat zP).2.1) xs t with
     |some s=>(env,xs)=s∧(env.getD (l1.getD a.toNat zP).2.1.toNat 0==t)=true
     |none=>(env.getD (l1.getD a.toNat zP).2.1.toNat 0==t)=false
    have hv:=J6 (env:=env) xs (l1.getD a.toNat zP).2.1
    unfold G0
    cases hm:mk env (.var (l1.getD a.toNat zP).2.1) xs with
    |none =>
     rw[hm]at hv
     have hv:env.getD (l1.getD a.toNat zP).2.1.toNat 0<0:=hv
     show(_==t)=false
     rw[beq_eq_false_iff_ne];omega
    |some s =>
     rw[hm]at hv
     have hv:(xs,env.getD (l1.getD a.toNat zP).2.1.toNat 0)=s:=hv
     subst hv
     rw[Option.bind_some]
     dsimp only
     cases(env.getD (l1.getD a.toNat zP).2.1.toNat 0==t)with
     |true=>exact⟨rfl,rfl⟩
     |false=>rfl
   ·rw[c2,c4,c3]
    have hi:ba (l1.getD a.toNat zP).2.1 (env.set (l1.getD a.toNat zP).2.1.toNat t).length=true:=by rw[List.length_set];exact yu hE.1 c6 c7
    rw[yu hE.1 c6 c7,hi,Fd (i:=(l1.getD a.toNat zP).2.1.toNat) (by have:=hE.1;omega)]
    show wn _ (bif decide (env.getD (l1.getD a.toNat zP).2.1.toNat 0<0)then some (env.set (l1.getD a.toNat zP).2.1.toNat t,xs)else bif env.getD (l1.getD a.toNat zP).2.1.toNat 0==t then some (env,xs)else none)
    by_cases hneg:env.getD (l1.getD a.toNat zP).2.1.toNat 0<0
    ·rw[decide_eq_true hneg]
     exact⟨_,_,_,rfl,rfl,by simp⟩
    ·rw[decide_eq_false hneg]
     cases hq:(env.getD (l1.getD a.toNat zP).2.1.toNat 0==t)with
     |true=>exact⟨_,_,_,rfl,rfl,rfl⟩
     |false=>exact⟨_,_,_,rfl,rfl⟩
  ·obtain⟨_,c4,c5,c6,c7,rfl⟩:=o8 h2
   rcases c6 with e|e
   ·rw[e]at mb ⊢
    exact mb
   ·rw[e]at mb ⊢
    exact mb
  ·obtain⟨_,c4,c5⟩:=su h3
   rcases c5 with⟨d1,d2,rfl⟩|⟨d1,d2,d3,rfl⟩
   ·rw[d2]
    exact mb
   ·rcases d3 with d3|d3|d3|d3|d3
    ·rw[d3]
     show wn (cond ((nd xs t).1 != 2) (some (env,xs,false)) ((bE N0 j (xs,env,l2,(l2.getD b.toNat zS).2.1,(nd xs t).2.1)).bind fun r4=>(cond (!r4.2.2) (some (r4.1,xs,false)) ((bE N0 j (r4.2.1,r4.1,l2,(l2.getD b.toNat zS).2.2.1,(nd xs t).2.2)).bind fun r5=>(some (r5.1,r5.2.1,r5.2.2)))))) (bif (nd xs t).1==2 then(dz Q env xs (nd xs t).2.1).bind fun r=>dz R r.1 r.2 (nd xs t).2.2 else none)
     rw[show((nd xs t).1 != 2) = !((nd xs t).1==2)from rfl]
     cases hkd:((nd xs t).1==2)with
     |false=>exact⟨_,_,_,rfl,rfl⟩
     |true =>
      obtain⟨k1,k2⟩:=EA hp ht (.inl (by simpa using hkd))
      obtain⟨e,ys,c,g1,g2⟩:=kE k p _ Q env xs (nd xs t).2.1 j h1 (by omega) (by omega) hE hp k1
      rw[Bool.not_true,cond_false,cond_true,g1,Option.bind_some]
      dsimp only
      cases hm:dz Q env xs (nd xs t).2.1 with
      |none =>
       rw[hm]at g2
       have g2:c=false:=g2
       subst g2
       exact⟨_,_,_,rfl,rfl⟩
      |some s =>
       rw[hm]at g2
       obtain⟨g2,g3⟩:=(g2:(e,ys)=s∧c=true)
       subst g2;subst g3
       obtain⟨f1,f2,w,f3⟩:=ei hE hp k1 hm
       obtain⟨e2,zs,c2,g4,g5⟩:=kE k q _ R e ys (nd xs t).2.2 j h2 (by omega) (by omega) f1 f2 (by rw[f3];exact ix k2)
       rw[Bool.not_true,cond_false,g4]
       exact⟨_,_,_,rfl,g5⟩
    ·rw[d3]
     show wn (cond ((nd xs t).1 != 3) (some (env,xs,false)) ((bE N0 j (xs,env,l2,(l2.getD b.toNat zS).2.2.1,(nd xs t).2.2)).bind fun r4=>(cond (!r4.2.2) (some (r4.1,xs,false)) ((bE N0 j (r4.2.1,r4.1,l2,(l2.getD b.toNat zS).2.1,(nd xs t).2.1)).bind fun r5=>(some (r5.1,r5.2.1,r5.2.2)))))) (bif (nd xs t).1==3 then(dz R env xs (nd xs t).2.2).bind fun r=>dz Q r.1 r.2 (nd xs t).2.1 else none)
     rw[show((nd xs t).1 != 3) = !((nd xs t).1==3)from rfl]
     cases hkd:((nd xs t).1==3)with
     |false=>exact⟨_,_,_,rfl,rfl⟩
     |true =>
      obtain⟨k1,k2⟩:=EA hp ht (by
       have:(nd xs t).1=3:=by simpa using hkd
       rw[this];decide)
      obtain⟨e,ys,c,g1,g2⟩:=kE k q _ R env xs (nd xs t).2.2 j h2 (by omega) (by omega) hE hp k2
      rw[Bool.not_true,cond_false,cond_true,g1,Option.bind_some]
      dsimp only
      cases hm:dz R env xs (nd xs t).2.2 with
      |none =>
       rw[hm]at g2
       have g2:c=false:=g2
       subst g2
       exact⟨_,_,_,rfl,rfl⟩
      |some s =>
       rw[hm]at g2
       obtain⟨g2,g3⟩:=(g2:(e,ys)=s∧c=true)
       subst g2;subst g3
       obtain⟨f1,f2,w,f3⟩:=ei hE hp k2 hm
       obtain⟨e2,zs,c2,g4,g5⟩:=kE k p _ Q e ys (nd xs t).2.1 j h1 (by omega) (by omega) f1 f2 (by rw[f3];exact ix k1)
       rw[Bool.not_true,cond_false,g4]
       exact⟨_,_,_,rfl,g5⟩
    ·rw[d3]
     show wn (cond ((nd xs t).1 != 4) (some (env,xs,false)) ((bE N0 j (xs,env,l2,(l2.getD b.toNat zS).2.2.1,(nd xs t).2.2)).bind fun r4=>(cond (!r4.2.2) (some (r4.1,xs,false)) ((bE N0 j (r4.2.1,r4.1,l2,(l2.getD b.toNat zS).2.1,(nd xs t).2.1)).bind fun r5=>(some (r5.1,r5.2.1,r5.2.2)))))) (bif (nd xs t).1==4 then(dz R env xs (nd xs t).2.2).bind fun r=>dz Q r.1 r.2 (nd xs t).2.1 else none)
     rw[show((nd xs t).1 != 4) = !((nd xs t).1==4)from rfl]
     cases hkd:((nd xs t).1==4)with
     |false=>exact⟨_,_,_,rfl,rfl⟩
     |true =>
      obtain⟨k1,k2⟩:=EA hp ht (by
       have:(nd xs t).1=4:=by simpa using hkd
       rw[this];decide)
      obtain⟨e,ys,c,g1,g2⟩:=kE k q _ R env xs (nd xs t).2.2 j h2 (by omega) (by omega) hE hp k2
      rw[Bool.not_true,cond_false,cond_true,g1,Option.bind_some]
      dsimp only
      cases hm:dz R env xs (nd xs t).2.2 with
      |none =>
       rw[hm]at g2
       have g2:c=false:=g2
       subst g2
       exact⟨_,_,_,rfl,rfl⟩
      |some s =>
       rw[hm]at g2
       obtain⟨g2,g3⟩:=(g2:(e,ys)=s∧c=true)
       subst g2;subst g3
       obtain⟨f1,f2,w,f3⟩:=ei hE hp k2 hm
       obtain⟨e2,zs,c2,g4,g5⟩:=kE k p _ Q e ys (nd xs t).2.1 j h1 (by omega) (by omega) f1 f2 (by rw[f3];exact ix k1)
       rw[Bool.not_true,cond_false,g4]
       exact⟨_,_,_,rfl,g5⟩
    ·rw[d3]at mb ⊢
     exact mb
    ·rw[d3]at mb ⊢
     exact mb
theorem FL {α:Type}(pre r:List α) (a d:α):(pre++a::r).getD pre.length d=a:=by
 rw[List.getD_eq_getElem?_getD,List.getElem?_append_right (Nat.le_refl _),Nat.sub_self];rfl
theorem Ki {α:Type}(pre r:List α) (a:α):ba (pre.length:Int) (pre++a::r).length=true:=aq (by simp)
theorem J9 {α:Type}(pre r:List α) (a:α):decide ((pre.length:Int)<((pre++a::r).length:Int))=true:=decide_eq_true (by simp;omega)
theorem Ka {α:Type}(pre:List α):decide ((pre.length:Int)<((pre++([]:List α)).length:Int))=false:=decide_eq_false (by simp)
theorem F0 {α:Type}(pre r:List α) (a:α):pre++a::r=(pre++[a])++r:=by rw[List.append_assoc];rfl
theorem rD {α:Type}(pre:List α) (a:α):((pre++[a]).length:Int)=(pre.length:Int)+1:=by rw[List.length_append,List.length_singleton];omega
theorem Ew{w p a b at_:Int}{env:List Int}{d dd:Bool}{key:Int}(he:env.length≤4294967296):jQ N0 (w,p,a,b,at_,env,d,dd,key)=some (w,p,a,b,at_,env,d,dd,key):=by
 unfold jQ
 dsimp only
 have:aI (([]:List Int).length+env.length)=true:=by
  unfold aI
  simp
  omega
 rw[this];rfl
theorem Ey{T:ByteArray}{P:m9}(hT:wW T P){xs:List ab}(hp:aO xs=true){env:List Int}(he:env.length=26) (hv:d6 xs env=true){t:Int}(ht:cC xs t=true) :
  ∃l2 e ys c,d8 N0 T=some (l2,true)∧jR N0 (xs,env,l2,t)=some (ys,e,c)∧(match dz P env xs t with
   |some s=>(e,ys)=s∧c=true
   |none=>c=false):=by
 obtain⟨b,l1,l2,k,e1,e2,hk,hd,hl1,hl2⟩:=hT
 obtain⟨e,ys,c,g1,g2⟩:=kE k _ _ P env xs t N0 hd hk hk ⟨he,qP hv⟩ hp ht
 refine⟨l2,e,ys,c,e2,?_,g2⟩
 unfold jR
 dsimp only
 have:aI (([]:List Int).length+env.length)=true:=by
  unfold aI
  simp
  omega
 rw[this,cond_true,List.nil_append,ak (by omega) (by omega),g1];rfl
theorem kJ{xs zs:List ab}:∀{env:List Int},d6 xs env=true→d6 (xs++zs) env=true
 |[],_=>rfl
 |v::r,h=>by
  have h:((v == -1 || cC xs v)&&d6 xs r)=true:=h
  show((v == -1 || cC (xs++zs) v)&&d6 (xs++zs) r)=true
  rw[Bool.and_eq_true,Bool.or_eq_true]at h ⊢
  exact⟨h.1.imp id ix,kJ h.2⟩
theorem qO{xs:List ab}{t:Int}(ht:cC xs t=true):∀{env:List Int}(i:Nat),d6 xs env=true→d6 xs (env.set i t)=true
 |[],i,_=>rfl
 |v::r,0,h=>by
  have h:((v == -1 || cC xs v)&&d6 xs r)=true:=h
  show((t == -1 || cC xs t)&&d6 xs r)=true
  rw[Bool.and_eq_true]at h
  rw[ht,h.2,Bool.or_true];rfl
 |v::r,i+1,h=>by
  have h:((v == -1 || cC xs v)&&d6 xs r)=true:=h
  show((v == -1 || cC xs v)&&d6 xs (r.set i t))=true
  rw[Bool.and_eq_true]at h
  rw[h.1,qO ht i h.2];rfl
abbrev X7:=List ab×Int×Int×Int×Int×Int×List Int×Bool×Bool×Int×List Int×Int
def WP:(X7⊕(Int×List ab×Int×Int×Int×Int×Int×List Int×Bool×Bool×Int×List ab×Int×Int×Int×Int×Int×List Int×Bool×Bool×Int×List Int))→X7
 | .inl a=>a
 | .inr b=>(b.2.1,b.2.2.1,b.2.2.2.1,b.2.2.2.2.1,b.2.2.2.2.2.1,b.2.2.2.2.2.2.1,b.2.2.2.2.2.2.2.1,b.2.2.2.2.2.2.2.2.1,b.2.2.2.2.2.2.2.2.2.1,b.2.2.2.2.2.2.2.2.2.2.1,b.2.2.2.2.2.2.2.2.2.2.2.2.2.2.2.2.2.2.2.2.2,b.1)
theorem Yr{x:Int}(h0:97≤x) (h1:x≤122):IntKind.u8.wrap (x-97)=x-97∧IntKind.i64.wrap (IntKind.i64.wrap x-97)=x-97:=by
 have h:x=97∨x=98∨x=99∨x=100∨x=101∨x=102∨x=103∨x=104∨x=105∨x=106∨x=107∨x=108∨x=109∨x=110∨x=111∨x=112∨x=113∨x=114∨x=115∨x=116∨x=117∨x=118∨x=119∨x=120∨x=121∨x=122:=by omega
 rcases h with h|h|h|h|h|h|h|h|h|h|h|h|h|h|h|h|h|h|h|h|h|h|h|h|h|h<;>subst h<;>exact⟨by decide,by decide⟩
theorem ZT:∃m,N0=m+1:=⟨N0-1,by have:=n0;omega⟩
theorem FP{xs:List ab}:∀{env:List Int},d6 xs env=true→∀i:Nat,0≤env.getD i 0→i<env.length→cC xs (env.getD i 0)=true
 |[],_,i,_,h=>absurd h (Nat.not_lt_zero _)
 |v::r,hb,i,h0,hl=>by
  have hb:((v == -1 || cC xs v)&&d6 xs r)=true:=hb
  rw[Bool.and_eq_true,Bool.or_eq_true]at hb
  match i with
  |0 =>
   rcases hb.1 with q|q
   ·have q:v=-1:=by simpa using q
    have h0:0≤v:=h0
    omega
   ·exact q
  |i+1=>exact FP hb.2 i h0 (by simpa using hl)
def m9.Fine:m9→Prop
 | .name _=>True
 | .var i=>0≤i∧i<26
 | .ask i=>0≤i∧i<26
 | .un _ p=>p.Fine
 | .bin _ p q=>p.Fine∧q.Fine
 | .exp p q=>p.Fine∧q.Fine
theorem mF{l1:List gi}{l2:List fL}:∀{k:Nat}{a b:Int}{P:m9},ni l1 l2 k a b=some P→P.Fine
 |0,a,b,P,h=>by cases h
 |k+1,a,b,P,h=>by
  obtain⟨_,_,hc⟩:=rJ h
  rcases hc with⟨_,hl⟩|⟨p,Q,_,h1,h2⟩|⟨p,q,Q,R,_,h1,h2,h3⟩
  ·rcases qB hl with⟨_,_,_,_,rfl⟩|⟨_,_,_,_,_,c6,c7,rfl⟩|⟨_,_,_,_,_,_,c6,c7,rfl⟩
   ·exact trivial
   ·exact⟨c6,c7⟩
   ·exact⟨c6,c7⟩
  ·obtain⟨_,_,_,_,_,rfl⟩:=o8 h2
   exact(show Q.Fine from mF h1)
  ·obtain⟨_,_,c5⟩:=su h3
   rcases c5 with⟨_,_,rfl⟩|⟨_,_,_,rfl⟩
   ·exact⟨mF h1,mF h2⟩
   ·exact⟨mF h1,mF h2⟩
theorem wW.fine{T:ByteArray}{P:m9}(h:wW T P):P.Fine:=by
 obtain⟨_,_,_,_,_,_,_,hd,_⟩:=h
 exact mF hd
theorem M6{env:List Int}:∀{P:m9}{xs ys:List ab}{t:Int},P.Fine→aO xs=true→env.length=26→d6 xs env=true→mk env P xs=some (ys,t)→cC ys t=true
 | .name c,xs,ys,t,_,hp,_,_,h=>by
  obtain⟨g,g2⟩:=dZ hp h
  exact eH.2 ⟨g.2.1,g2⟩
 | .var i,xs,ys,t,hf,hp,he,hv,h=>by
  have h:(bif decide (env.getD i.toNat 0<0)then none else some (xs,env.getD i.toNat 0))=some (ys,t):=h
  by_cases hn:env.getD i.toNat 0<0
  ·rw[decide_eq_true hn]at h;cases h
  ·rw[decide_eq_false hn]at h
   obtain⟨rfl,rfl⟩:=Prod.mk.inj (Option.some.inj h)
   obtain⟨f1,f2⟩:=hf
   exact FP hv _ (by omega) (by omega)
 | .ask i,xs,ys,t,_,_,_,_,h=>by cases h
 | .un k p,xs,ys,t,hf,hp,he,hv,h=>by
  obtain⟨r,h1,h2⟩:=Option.bind_eq_some_iff.1 (show(mk env p xs).bind _=some (ys,t)from h)
  have g1:=dP hp (show mk env p xs=some (r.1,r.2)from h1)
  obtain⟨g,g2⟩:=dZ g1.1 h2
  exact eH.2 ⟨g.2.1,g2⟩
 | .bin k p q,xs,ys,t,hf,hp,he,hv,h=>by
  obtain⟨r,h1,h2⟩:=Option.bind_eq_some_iff.1 (show(mk env p xs).bind _=some (ys,t)from h)
  have g1:=dP hp (show mk env p xs=some (r.1,r.2)from h1)
  obtain⟨s,h3,h4⟩:=Option.bind_eq_some_iff.1 h2
  have g2:=dP g1.1 (show mk env q r.1=some (s.1,s.2)from h3)
  obtain⟨g,g3⟩:=dZ g2.1 h4
  exact eH.2 ⟨g.2.1,g3⟩
 | .exp p q,xs,ys,t,hf,hp,he,hv,h=>by
  obtain⟨r,h1,h2⟩:=Option.bind_eq_some_iff.1 (show(mk env p xs).bind _=some (ys,t)from h)
  have g1:=dP hp (show mk env p xs=some (r.1,r.2)from h1)
  obtain⟨s,h3,h4⟩:=Option.bind_eq_some_iff.1 h2
  have g2:=dP g1.1 (show mk env q r.1=some (s.1,s.2)from h3)
  obtain⟨g,g3⟩:=dZ g2.1 (oY h4)
  exact eH.2 ⟨g.2.1,g3⟩
def so (env e:List Int):Prop:=∀i:Nat,env.getD i 0≠-1→e.getD i 0=env.getD i 0
theorem so.refl (env:List Int):so env env:=fun _ _=>rfl
theorem so.trans{a b c:List Int}(h1:so a b) (h2:so b c):so a c:=fun i h=>(h2 i (by rw[h1 i h];exact h)).trans (h1 i h)
theorem qr{env e:List Int}{P:m9}{xs ys:List ab}{t:Int}(hp:aO xs=true) (hv:d6 xs env=true) (h:G0 env P xs t=some (e,ys)):d6 ys e=true∧so env e:=by
 obtain⟨r,h1,h2⟩:=Option.bind_eq_some_iff.1 (show(mk env P xs).bind _=some (e,ys)from h)
 obtain⟨_,_,zs,hz⟩:=dP hp (show mk env P xs=some (r.1,r.2)from h1)
 cases hc:(r.2==t)with
 |false=>rw[hc]at h2;cases h2
 |true =>
  rw[hc]at h2
  obtain⟨rfl,rfl⟩:=Prod.mk.inj (Option.some.inj h2)
  exact⟨by rw[hz];exact kJ hv,so.refl _⟩
theorem lu:∀{P:m9}{env e:List Int}{xs ys:List ab}{t:Int},zj env→d6 xs env=true→aO xs=true→cC xs t=true→dz P env xs t=some (e,ys)→d6 ys e=true∧so env e
 | .name c,env,e,xs,ys,t,hE,hv,hp,ht,h=>qr hp hv h
 | .var i,env,e,xs,ys,t,hE,hv,hp,ht,h=>qr hp hv h
 | .un k p,env,e,xs,ys,t,hE,hv,hp,ht,h=>qr hp hv h
 | .exp p q,env,e,xs,ys,t,hE,hv,hp,ht,h=>qr hp hv h
 | .ask i,env,e,xs,ys,t,hE,hv,hp,ht,h=>by
  have h:(bif decide (env.getD i.toNat 0<0)then some (env.set i.toNat t,xs)else bif env.getD i.toNat 0==t then some (env,xs)else none)=some (e,ys):=h
  by_cases hn:env.getD i.toNat 0<0
  ·rw[decide_eq_true hn]at h
   obtain⟨rfl,rfl⟩:=Prod.mk.inj (Option.some.inj h)
   refine⟨qO ht _ hv,fun j hj=>?_⟩
   have hij:i.toNat≠j:=fun q=>by
    rw[←q]at hj
    exact hj (hE.2 _ hn)
   rw[List.getD_eq_getElem?_getD,List.getD_eq_getElem?_getD,List.getElem?_set_ne hij]
  ·rw[decide_eq_false hn]at h
   cases hc:(env.getD i.toNat 0==t)with
   |false=>rw[hc]at h;cases h
   |true =>
    rw[hc]at h
    obtain⟨rfl,rfl⟩:=Prod.mk.inj (Option.some.inj h)
    exact⟨hv,so.refl _⟩
 | .bin k p q,env,e,xs,ys,t,hE,hv,hp,ht,h=>by
  have h:(bif k==2 then(bif (nd xs t).1==2 then(dz p env xs (nd xs t).2.1).bind fun r=>dz q r.1 r.2 (nd xs t).2.2 else none)
   else bif k==3 || k==4 then(bif (nd xs t).1==k then(dz q env xs (nd xs t).2.2).bind fun r=>dz p r.1 r.2 (nd xs t).2.1 else none)
   else G0 env (.bin k p q) xs t)=some (e,ys):=h
  cases h2:(k==2)with
  |true =>
   rw[h2,cond_true]at h
   cases h3:((nd xs t).1==2)with
   |false=>rw[h3]at h;cases h
   |true =>
    rw[h3,cond_true]at h
    obtain⟨k1,k2⟩:=EA hp ht (.inl (by simpa using h3))
    obtain⟨r,h4,h5⟩:=Option.bind_eq_some_iff.1 h
    have h4:dz p env xs (nd xs t).2.1=some (r.1,r.2):=h4
    obtain⟨g1,g2,w,g3⟩:=ei hE hp k1 h4
    obtain⟨m1,m2⟩:=lu hE hv hp k1 h4
    obtain⟨m3,m4⟩:=lu g1 m1 g2 (by rw[g3];exact ix k2) h5
    exact⟨m3,m2.trans m4⟩
  |false =>
   rw[h2,cond_false]at h
   cases h3:(k==3 || k==4)with
   |false=>rw[h3,cond_false]at h;exact qr hp hv h
   |true =>
    rw[h3,cond_true]at h
    cases h6:((nd xs t).1==k)with
    |false=>rw[h6]at h;cases h
    |true =>
     rw[h6,cond_true]at h
     have h7:(nd xs t).1=k:=by simpa using h6
     have h8:k=3∨k=4:=by simpa using h3
     obtain⟨k1,k2⟩:=EA hp ht (by rw[h7];exact .inr h8)
     obtain⟨r,h4,h5⟩:=Option.bind_eq_some_iff.1 h
     have h4:dz q env xs (nd xs t).2.2=some (r.1,r.2):=h4
     obtain⟨g1,g2,w,g3⟩:=ei hE hp k2 h4
     obtain⟨m1,m2⟩:=lu hE hv hp k2 h4
     obtain⟨m3,m4⟩:=lu g1 m1 g2 (by rw[g3];exact ix k1) h5
     exact⟨m3,m2.trans m4⟩
theorem pn{xs:List ab}{w p a b at_:Int}{env:List Int}{d dd:Bool}{key:Int}(hw:w=1∨w=2∨w=3) (hs:p=0∨p=1) (ha:0≤a∧a≤4) (hb:0≤b∧b≤4) (hab:a≠b) (hp:aO xs=true) (he:env.length=26) (hv:d6 xs env=true)
  (h0:0≤at_∧at_≤5) (hd:d=(at_==5)) (h1:d=true→dd=false∧cC xs key=true) (h2:d=false→key=-1):iP xs (w,p,a,b,at_,env,d,dd,key)=true:=by
 have hx:=cL hp
 have h:=(rH (xs:=xs) (by omega) (x:=(w,p,a,b,at_,env,d,dd,key)) (show env.length≤4294967296 by omega)).1
 dsimp only at h
 unfold fc at h
 obtain⟨r1,r2,r3⟩:=q9 hw hs
 have hP:(decide (xs.length≤500)&&cj N0 [] xs)=true:=hp
 have k1:(decide (a≥0)&&decide (a≤4))=true:=by simp;omega
 have k2:(decide (b≥0)&&decide (b≤4))=true:=by simp;omega
 have k3:(a==b)=false:=by simpa using hab
 have k4:(decide (at_≥0)&&decide (at_≤((5:Nat):Int)))=true:=by simp;omega
 have k5:((at_==((5:Nat):Int)) != d)=false:=by
  rw[show(at_==((5:Nat):Int))=(at_==5)from rfl, ←hd]
  cases d<;>rfl
 simp only[sR N0 n0 (show xs.length≤4294967296 by omega) (show env.length≤4294967296 by omega),qT,Option.bind_some,r1,dY,oo N0 (show xs.length≤4294967296 by omega),r3,Bool.not_true,cond_false,k1,k2,k3,hv,decide_eq_true he,hP,Bool.and_true,k4,k5]at h
 cases d with
 |true =>
  obtain⟨q1,q2⟩:=h1 rfl
  subst q1
  simp only[q2,cond_true,cond_false]at h
  exact(Option.some.inj h).symm
 |false =>
  have q:=h2 rfl
  subst q
  simp only[cond_false]at h
  exact(Option.some.inj h).symm
structure qU (xs:List ab) (at_ key:Int) (out:List Int) (ys:List ab) (at':Int) (env':List Int) (d' dd':Bool) (key':Int) (out':List Int):Prop where
 pool:aO ys=true
 len:env'.length=26
 few:out'.length≤5
 env:d6 ys env'=true
 grows:∃zs,ys=xs++zs
 on:at_≤at'
 most:at'≤5
 done:d'=(at'==5)
 key1:d'=true→dd'=false∧cC ys key'=true
 key0:d'=false→key'=key
 sent:∀v∈out',v∈out∨cC ys v=true
theorem qU.stay{xs:List ab}{at_ key:Int}{out env:List Int}{dd:Bool}(h0:at_<5) (hp:aO xs=true) (he:env.length=26) (hv:d6 xs env=true) (ho:out.length≤5):qU xs at_ key out xs at_ env false dd key out :=
 ⟨hp,he,ho,hv,⟨[],by simp⟩,Int.le_refl _,by omega,by rw[eq_comm,beq_eq_false_iff_ne];omega,fun q=>(by cases q),fun _=>rfl,fun v h => .inl h⟩
theorem qU.go{xs zs ys:List ab}{at_ at' key key2:Int}{out out2 env' out':List Int}{d' dd':Bool}{key':Int}(h:qU zs (at_+1) key2 out2 ys at' env' d' dd' key' out') (g:∃us,zs=xs++us) (hk:key2=key∨at_=4) (ho:∀v∈out2,v∈out∨cC zs v=true):qU xs at_ key out ys at' env' d' dd' key' out':=by
 obtain⟨us,rfl⟩:=g
 obtain⟨vs,hvs⟩:=h.grows
 refine⟨h.pool,h.len,h.few,h.env,⟨us++vs,by rw[hvs,List.append_assoc]⟩,by have:=h.on;omega,h.most,h.done,h.key1,fun q=>?_,fun v hv=>?_⟩
 ·rcases hk with e|e
  ·rw[←e];exact h.key0 q
  ·have q1:=h.done
   rw[q,show at'=5 by have:=h.on;have:=h.most;omega]at q1
   cases q1
 ·rcases h.sent v hv with q|q
  ·rcases ho v q with q|q
   ·exact .inl q
   ·exact .inr (by rw[hvs];exact ix q)
  ·exact .inr q
abbrev bs (T:ByteArray):List UInt8:=T.data.toList
def MS:ByteArray:=⟨#[36,63,120]⟩
theorem KF (a:Int):0≤bits .and .i64 a 255∧bits .and .i64 a 255≤255:=by
 have h:((BitVec.ofInt 64 a) &&& (BitVec.ofInt 64 255)).toNat≤255:=by
  rw[BitVec.toNat_and]
  exact Nat.and_le_right
 have e:bits .and .i64 a 255=IntKind.i64.wrap (((BitVec.ofInt 64 a) &&& (BitVec.ofInt 64 255)).toNat:Int):=rfl
 rw[e,ak (by omega) (by omega)]
 omega
def Cu (b:List Int) (i:Int):Prop:=0≤i∧b.length≤4294967296
theorem uN (n:Nat){b:List Int}{i:Int}(h:Int) (hc:Cu b i):∃i' h' v,eS n (b,i,h)=some (b,i',h',v)∧Cu b i'∧0≤v∧v≤255:=by
 obtain⟨h0,h1⟩:=hc
 unfold eS
 dsimp only
 rw[decide_eq_true (show(0:Int)≤33 by decide),decide_eq_true (show(0:Int)≤45 by decide),cond_true,cond_true]
 by_cases hl:i<(b.length:Int)
 ·have e:i=((i.toNat:Nat):Int):=by omega
  have hin:ba i b.length=true:=by rw[e];exact aq (by omega)
  rw[decide_eq_true hl,hin,cond_true,cond_true,ak (n:=i+1) (by omega) (by omega)]
  exact⟨_,_,_,rfl,⟨by omega,h1⟩,KF _⟩
 ·rw[decide_eq_false hl,cond_false]
  exact⟨_,_,_,rfl,⟨h0,h1⟩,KF _⟩
theorem Fa{x k:Int}(hx:0≤x) (hk:0<k):0≤x.tmod k∧x.tmod k<k:=by
 rw[Int.tmod_eq_emod_of_nonneg hx]
 exact⟨Int.emod_nonneg _ (by omega),Int.emod_lt_of_pos _ hk⟩
def Z6 (k v:Int):Prop:=(k≤0∧v=0)∨(0≤v∧v<k)
theorem bj (n:Nat){b:List Int}{i:Int}(h k:Int) (hc:Cu b i):∃i' h' v,af n (b,i,h,k)=some (b,i',h',v)∧Cu b i'∧Z6 k v:=by
 unfold af
 dsimp only
 by_cases h0:k≤0
 ·rw[decide_eq_true h0,cond_true]
  exact⟨_,_,_,rfl,hc, .inl ⟨h0,rfl⟩⟩
 ·have hk:(k != 0)=true:=by rw[bne_iff_ne];omega
  rw[decide_eq_false h0,cond_false]
  by_cases h1:k≤256
  ·rw[decide_eq_true h1,cond_true]
   obtain⟨i1,h1,v1,e1,c1,q1,q2⟩:=uN n h hc
   rw[e1,Option.bind_some]
   dsimp only
   rw[hk,cond_true]
   exact⟨_,_,_,rfl,c1, .inr (Fa q1 (by omega))⟩
  ·rw[decide_eq_false h1,cond_false]
   obtain⟨i1,h1,v1,e1,c1,p1,q1⟩:=uN n h hc
   rw[e1,Option.bind_some]
   dsimp only
   obtain⟨i2,h2,v2,e2,c2,p2,q2⟩:=uN n h1 c1
   rw[e2,Option.bind_some]
   dsimp only
   obtain⟨i3,h3,v3,e3,c3,p3,q3⟩:=uN n h2 c2
   rw[e3,Option.bind_some]
   dsimp only
   obtain⟨i4,h4,v4,e4,c4,p4,q4⟩:=uN n h3 c3
   rw[e4,Option.bind_some]
   dsimp only
   rw[hk,cond_true]
   have w1:IntKind.i64.wrap (v1*16777216)=v1*16777216:=ak (by omega) (by omega)
   have w2:IntKind.i64.wrap (v2*65536)=v2*65536:=ak (by omega) (by omega)
   have w3:IntKind.i64.wrap (v3*256)=v3*256:=ak (by omega) (by omega)
   have w4:IntKind.i64.wrap (v1*16777216+v2*65536)=v1*16777216+v2*65536:=ak (by omega) (by omega)
   have w5:IntKind.i64.wrap (v1*16777216+v2*65536+v3*256)=v1*16777216+v2*65536+v3*256:=ak (by omega) (by omega)
   have w6:IntKind.i64.wrap (v1*16777216+v2*65536+v3*256+v4)=v1*16777216+v2*65536+v3*256+v4:=ak (by omega) (by omega)
   rw[w1,w2,w3,w4,w5,w6]
   exact⟨_,_,_,rfl,c4, .inr (Fa (by omega) (by omega))⟩
theorem o9 (n:Nat){b:List Int}{i:Int}(h k:Int) (hc:Cu b i):∃i' h' v,cZ n (b,i,h,k)=some (b,i',h',v)∧Cu b i':=by
 unfold cZ
 dsimp only
 obtain⟨i1,h1,v1,e1,c1,_⟩:=bj n h k hc
 rw[e1,Option.bind_some]
 exact⟨_,_,_,rfl,c1⟩
theorem Eh (n:Nat){b:List Int}{i:Int}(h:Int) (l:List Int) (hl:l≠[]) (hc:Cu b i):∃i' h' v,gK n (b,i,h,l)=some (b,i',h',v)∧Cu b i'∧v∈l:=by
 unfold gK
 dsimp only
 obtain⟨i1,h1,v1,e1,c1,hb⟩:=bj n h (l.length:Int) hc
 have hpos:0<l.length:=List.length_pos_iff.2 hl
 rw[e1,Option.bind_some]
 dsimp only
 have hv:0≤v1∧v1<(l.length:Int):=by
  rcases hb with⟨q,_⟩|q
  ·omega
  ·exact q
 have e:v1=((v1.toNat:Nat):Int):=by omega
 have hin:ba v1 l.length=true:=by rw[e];exact aq (by omega)
 rw[hin,cond_true]
 refine⟨_,_,_,rfl,c1,?_⟩
 rw[List.getD_eq_getElem?_getD,List.getElem?_eq_getElem (by omega),Option.getD_some]
 exact List.getElem_mem _
theorem CS{b:List Int}(hb:b.length≤4294967296):∀(m:Nat) (h:Int) (j:Nat),4001<m+j→j≤4000→∃h',di N0 m (b,h,(j:Int))=some (b,h')
 |0,h,j,hm,hj=>by omega
 |m+1,h,j,hm,hj=>by
  unfold di
  dsimp only
  by_cases h1:j<b.length
  ·rw[decide_eq_true (show(j:Int)<(b.length:Int)by omega),cond_true]
   by_cases h2:j<4000
   ·rw[decide_eq_true (show(j:Int)<4000 by omega),cond_true,aq h1,cond_true,ak (n:=(j:Int)+1) (by omega) (by omega),show(j:Int)+1=((j+1:Nat):Int)by omega]
    exact CS hb m _ (j+1) (by omega) (by omega)
   ·rw[decide_eq_false (show ¬(j:Int)<4000 by omega),cond_false]
    exact⟨_,rfl⟩
  ·rw[decide_eq_false (show ¬(j:Int)<(b.length:Int)by omega),cond_false]
   exact⟨_,rfl⟩
theorem Of{b:List Int}(hb:b.length≤4294967296):∃h,mI N0 b=some (false,b,(0:Int),h)∧Cu b 0:=by
 unfold mI
 have:=n0
 obtain⟨h',e⟩:=CS hb N0 (IntKind.i64.wrap ((12241:Int)+(b.length:Int))) 0 (by omega) (by omega)
 rw[show((0:Nat):Int)=(0:Int)from rfl]at e
 rw[e,Option.bind_some]
 exact⟨_,rfl,by decide,hb⟩
theorem FI{a:Int}{n m:Nat}(h:ba a n=true) (hm:n≤m):ba a m=true:=by
 unfold ba at h ⊢
 simp at h ⊢
 omega
theorem FH{a:Int}{n:Nat}(h:ba a n=true):0≤a∧a.toNat<n:=by
 unfold ba at h
 simp at h
 omega
theorem Dm {α:Type}{l x:List α}{i:Nat}(h:i<l.length) (d:α):(l++x).getD i d=l.getD i d:=by
 rw[List.getD_eq_getElem?_getD,List.getD_eq_getElem?_getD,List.getElem?_append_left h]
theorem rK{l1 x1:List gi}{l2 x2:List fL}:∀{k k':Nat}{a b:Int}{P:m9},ni l1 l2 k a b=some P→k≤k'→ni (l1++x1) (l2++x2) k' a b=some P
 |0,k',a,b,P,h,_=>by cases h
 |k+1,0,a,b,P,h,hk=>by omega
 |k+1,k'+1,a,b,P,h,hk=>by
  obtain⟨h1,h2,hc⟩:=rJ h
  have g1:=(FH h1).2
  have g2:=(FH h2).2
  unfold ni
  rw[FI h1 (by simp),FI h2 (by simp),Bool.and_true,cond_true,Dm g1,Dm g2]
  rcases hc with⟨hps,hl⟩|⟨p,Q,hps,q1,q2⟩|⟨p,q,Q,R,hps,q1,q2,q3⟩
  ·rw[hps];exact hl
  ·rw[hps]
   dsimp only
   rw[rK q1 (by omega),Option.bind_some]
   exact q2
  ·rw[hps]
   dsimp only
   rw[rK q1 (by omega),Option.bind_some,rK q2 (by omega),Option.bind_some]
   exact q3
theorem FD {α:Type}(l:List α) (x d:α):(l++[x]).getD (((l++[x]).length:Int)-1).toNat d=x∧ba (((l++[x]).length:Int)-1) (l++[x]).length=true:=by
 have e:(((l++[x]).length:Int)-1).toNat=l.length:=by rw[rD];omega
 have e2:((l++[x]).length:Int)-1=(l.length:Int):=by rw[rD];omega
 refine⟨by rw[e];exact FL l [] x d,?_⟩
 rw[e2]
 exact aq (by simp)
theorem Ks{l1:List gi}{l2:List fL}{k:Nat}{s c p kd A B:Int}{P Q:m9}{u:Bool}(h:ni l1 l2 k p A=some Q) (h2:El (s,(c,[p])) (kd,(A,(B,u))) Q=some P) :
  ni (l1++[(s,(c,[p]))]) (l2++[(kd,(A,(B,u)))]) (k+1) (((l1++[(s,(c,[p]))]).length:Int)-1) (((l2++[(kd,(A,(B,u)))]).length:Int)-1)=some P:=by
 obtain⟨a1,a2⟩:=FD l1 (s,(c,[p])) zP
 obtain⟨b1,b2⟩:=FD l2 (kd,(A,(B,u))) zS
 unfold ni
 rw[a2,b2,a1,b1]
 dsimp only
 rw[Bool.and_true,cond_true,rK h (Nat.le_refl _),Option.bind_some]
 exact h2
abbrev Z3:=ByteArray×Int×Int×ByteArray×Bool×Bool×Bool×List gi×Int
abbrev Z4:=List fL×Int×Int×Bool
def m9.lets:m9→List Int
 | .ask i=>[i]
 | .un _ p=>p.lets
 | .bin _ p q=>p.lets++q.lets
 | .exp p q=>p.lets++q.lets
 |_=>[]
def yg (l:List gi):List Int:=l.flatMap fun x=>bif x.1==63 then [x.2.1]else []
def yf (l:List fL):List Int:=l.flatMap fun y=>bif y.1==9&&y.2.2.2 then [y.2.1]else []
theorem Ic (a b:List gi):yg (a++b)=yg a++yg b:=List.flatMap_append
theorem Ia (a b:List fL):yf (a++b)=yf a++yf b:=List.flatMap_append
theorem Ib (x:gi):yg [x]=bif x.1==63 then [x.2.1]else []:=by show _++[]=_;rw[List.append_nil]
theorem G8 (y:fL):yf [y]=bif y.1==9&&y.2.2.2 then [y.2.1]else []:=by show _++[]=_;rw[List.append_nil]
theorem GR{x:gi}{y:fL}{P Q:m9}(h:El x y Q=some P):yg [x]=[]∧yf [y]=[]∧P.lets=Q.lets:=by
 rw[Ib,G8]
 obtain⟨⟨_,_,c3⟩,_,_,c4,_,rfl⟩:=o8 h
 rw[c3,show(y.1==9)=false from by rw[beq_eq_false_iff_ne];omega]
 exact⟨rfl,rfl,rfl⟩
def SY (T:ByteArray) (i:Nat):List Int:=bif bt T (i:Int)==63 then [bt T ((i:Int)+1)-97]else []
def DY (T:ByteArray) (a b:Nat):List Int:=(List.range' a (b-a)).flatMap (SY T)
theorem Jl{T:ByteArray}{a b c:Nat}(h1:a≤b) (h2:b≤c):DY T a c=DY T a b++DY T b c:=by
 unfold DY
 rw[←List.flatMap_append]
 congr 1
 have:=List.range'_append (s:=a) (m:=b-a) (n:=c-b) (step:=1)
 rw[show a+1*(b-a)=b by omega,show b-a+(c-b)=c-a by omega]at this
 exact this.symm
def VR (T:ByteArray) (a:Nat) (l1:List gi) (l2:List fL) (ri:Option Z3) (rs:Option Z4):Prop :=
 (∃(a':Nat) (l1':List gi) (l2':List fL) (k:Nat) (P:m9),ri=some (T,(a':Int),(0:Int),MS,false,false,false,l1',(l1'.length:Int)-1)∧rs=some (l2',(l2'.length:Int)-1,(a':Int),true)∧a<a'∧a'≤T.size∧l1'.length=l2'.length∧l1'.length+a≤l1.length+a' ∧
  (∃x,l1'=l1++x∧yg x=P.lets∧DY T a a'=P.lets)∧(∃y,l2'=l2++y∧yf y=P.lets)∧k+a≤a'∧ni l1' l2' k ((l1'.length:Int)-1) ((l2'.length:Int)-1)=some P) ∨
 (∃a2 c l1' v l2',ri=some (T,a2,c,MS,false,false,false,l1',v)∧c≠0∧rs=some (l2',(0:Int),(0:Int),false))
theorem Kj {α:Type}(l:List α) (x:α):(((l++[x]).length:Int)-1)=(l.length:Int):=by rw[rD];omega
theorem VR.one{T:ByteArray}{a b:Nat}{l1 m1:List gi}{l2 m2:List fL}{s kd:Int}{k:Nat}{P Q:m9}(h1:a<b) (h2:b≤T.size) (hl:m1.length=m2.length) (hb:m1.length+a<l1.length+b){f:Nat}(hf:a≤f) (hfb:f≤b) (hsc:DY T a f=[]) (g1:∃x,m1=l1++x∧yg x=Q.lets∧DY T f b=Q.lets) (g2:∃y,m2=l2++y∧yf y=Q.lets) (hk:k+a<b)
  (hd:ni m1 m2 k ((m1.length:Int)-1) ((m2.length:Int)-1)=some Q) (hp:El (s,(0,[(m1.length:Int)-1])) (kd,((m2.length:Int)-1,(0,Q.asks))) Q=some P) :
  VR T a l1 l2 (some (T,(b:Int),(0:Int),MS,false,false,false,m1++[(s,(0,[(m1.length:Int)-1]))],((m1++[(s,(0,[(m1.length:Int)-1]))]).length:Int)-1)) (some (m2++[(kd,((m2.length:Int)-1,(0,Q.asks)))],(m2.length:Int),(b:Int),true)):=by
 obtain⟨x,rfl,gx,gs⟩:=g1
 obtain⟨y,rfl,gy⟩:=g2
 obtain⟨e1,e2,e3⟩:=GR hp
 exact .inl ⟨b,_,_,k+1,P,rfl,by rw[Kj],h1,h2,by simp at hl ⊢;omega,by rw[List.length_append,List.length_singleton];omega,⟨_,List.append_assoc ..,by rw[Ic,gx,e1,e3,List.append_nil],by rw[Jl hf hfb,hsc,gs,e3,List.nil_append]⟩,⟨_,List.append_assoc ..,by rw[Ia,gy,e2,e3,List.append_nil]⟩,by omega,Ks hd hp⟩
section
variable{T:ByteArray}{a:Nat}{c:UInt8}{r:List UInt8}{l1:List gi}{l2:List fL}{i1 i2 n:Nat}
end
section
variable{T:ByteArray}{a:Nat}{c:UInt8}{r:List UInt8}{l1:List gi}{l2:List fL}{i1 i2 n:Nat}
end
def m9.plain:m9→m9
 | .ask i => .var i
 | .un k p => .un k p.plain
 | .bin k p q => .bin k p.plain q.plain
 | .exp p q => .exp p.plain q.plain
 |p=>p
theorem J3{xs:List ab}{ys:List ab}{t:Int}{a:Int}(hp:aO xs=true) (h0:0≤a) (h1:a≤199):fP N0 (1,a,0,(xs.length:Int))=true:=by
 have hr:∀v lo hi:Int,aB N0 (v,lo,hi)=some (decide (v≥lo)&&decide (v≤hi)):=fun v lo hi=>by
  unfold aB
  cases q:decide (v≥lo)<;>(simp[q])
 show(ci N0 (1,a,0,(xs.length:Int))).getD false=true
 unfold ci
 dsimp only
 rw[hr,show dI N0 1=some 0 from rfl]
 simp only[Option.bind_some,beq_self_eq_true,cond_true,decide_eq_true h0,decide_eq_true h1,Bool.and_self]
 rfl
theorem D0 {α:Type}{xs:List α}(h:xs.length≤1000){k:α}:aI (xs.length+[k].length)=true:=by
 unfold aI;rw[List.length_singleton];exact decide_eq_true (by omega)
theorem wN:∀(m:Nat) (l:List Int),l.length≤26→26<m+l.length→∃e,cx N0 m (l,(l.length:Int))=some e∧e.length=26∧((∀v∈l,v=-1)→∀v∈e,v=-1)
 |0,l,h,hm=>by omega
 |m+1,l,h,hm=>by
  unfold cx
  dsimp only
  by_cases hq:l.length<26
  ·rw[decide_eq_true (show(l.length:Int)<26 by omega),cond_true,D0 (by omega),cond_true,ak (n:=(l.length:Int)+1) (by omega) (by omega), ←rD l (-1)]
   obtain⟨e,e1,e2,e3⟩:=wN m (l++[-1]) (by simp;omega) (by simp;omega)
   refine⟨e,e1,e2,fun hl=>e3 fun v hv=>?_⟩
   rcases List.mem_append.1 hv with q|q
   ·exact hl v q
   ·exact List.mem_singleton.1 q
  ·rw[decide_eq_false (show ¬(l.length:Int)<26 by omega),cond_false]
   exact⟨l,rfl,by omega,fun h=>h⟩
theorem Iv:∃e,lp N0 ()=some e∧e.length=26∧∀v∈e,v=-1:=by
 unfold lp
 have:=n0
 obtain⟨e,e1,e2,e3⟩:=wN N0 [] (by simp) (by omega)
 have e1:cx N0 N0 (([]:List Int),(0:Int))=some e:=e1
 rw[e1,Option.bind_some]
 exact⟨e,rfl,e2,e3 (fun v hv=>by cases hv)⟩
theorem cG (a b:ByteArray):(a++b).size=a.size+b.size:=ByteArray.size_append
theorem sy (l:List Int):(mC l).size=l.length:=by
 show(l.map _).toArray.size=_
 rw[List.size_toArray,List.length_map]
theorem zM:∀(k m:Nat) (x:Int) (s:ByteArray),0≤x→x≤1000000→x<10 ^ k→k<m→s.size+k≤1000→∃r,cN N0 m (x,s)=some r∧r.size≤s.size+k
 |_,0,x,s,_,_,_,h,_=>by omega
 |0,m+1,x,s,h0,hx,h1,hm,hs=>by
  unfold cN
  dsimp only
  rw[decide_eq_false (show ¬x>0 by have:(10:Int) ^ 0=1:=rfl;omega),cond_false]
  exact⟨s,rfl,by omega⟩
 |k+1,m+1,x,s,h0,hx,h1,hm,hs=>by
  unfold cN
  dsimp only
  by_cases hq:x>0
  ·rw[decide_eq_true hq,cond_true,show((10:Int) != 0)=true from rfl,cond_true,eD (by rw[sy,List.length_singleton];omega),cond_true,cond_true]
   have hd:x.tdiv 10=x / 10:=Int.tdiv_eq_ediv_of_nonneg h0
   have h2:x / 10<10 ^ k:=by
    rw[Int.pow_succ]at h1
    omega
   rw[hd,ak (n:=x / 10) (by omega) (by omega)]
   obtain⟨r,e1,e2⟩:=zM k m (x / 10) (mC [(IntKind.u8.wrap (IntKind.i64.wrap ((48:Int)+(x.tmod (10:Int)))))]++s) (by omega) (by omega) h2 (by omega) (by rw[cG,sy,List.length_singleton];omega)
   exact⟨r,e1,by rw[cG,sy,List.length_singleton]at e2;omega⟩
  ·rw[decide_eq_false hq,cond_false]
   exact⟨s,rfl,by omega⟩
theorem Gs{xs:List ab}{w p a b at_:Int}{env:List Int}{d dd:Bool}{key t:Int}(hx:xs.length≤4294967296) (he:env.length≤4294967296) (h:iP xs (w,p,a,b,at_,env,d,dd,key)=true) :
  ∃ys at' e d' dd' ok,cS N0 (xs,w,p,a,b,at_,env,d,dd,key,t)=some (ys,w,p,a,b,at',e,d',dd',key,ok)∧iP ys (w,p,a,b,at',e,d',dd',key)=true∧e.length=26∧aO ys=true∧∃zs,ys=xs++zs:=by
 have hg:=Bx hx (x:=(w,p,a,b,at_,env,d,dd,key)) he h
 have g1:w=1∨w=2∨w=3:=hg.way
 have g2:p=0∨p=1:=hg.side
 have g3:d6 xs env=true:=hg.env
 have g4:env.length=26:=hg.len
 have g5:0≤at_∧at_≤5:=hg.at0
 have g6:d=(at_==5):=hg.done
 have hp:=hg.pool
 obtain⟨r1,r2,r3⟩:=q9 g1 g2
 have no:cS N0 (xs,w,p,a,b,at_,env,d,dd,key,t)=some (xs,w,p,a,b,at_,env,d,dd,key,false) →
   ∃ys at' e d' dd' ok,cS N0 (xs,w,p,a,b,at_,env,d,dd,key,t)=some (ys,w,p,a,b,at',e,d',dd',key,ok)∧iP ys (w,p,a,b,at',e,d',dd',key)=true∧e.length=26∧aO ys=true∧∃zs,ys=xs++zs:=fun q=>⟨_,_,_,_,_,_,q,h,g4,hp,[],by simp⟩
 cases d with
 |true =>
  refine no ?_
  unfold cS cR
  simp only[Option.bind_some,Bool.not_true,cond_false,cond_true]
 |false =>
  cases dd with
  |true =>
   refine no ?_
   unfold cS cR
   simp only[Option.bind_some,Bool.not_true,cond_false,cond_true]
  |false =>
   have a5:at_≠5:=fun q=>by rw[q]at g6;exact absurd g6 (by decide)
   have hin:ba at_ 5=true:=by
    have e:at_=((at_.toNat:Nat):Int):=by omega
    rw[e];exact aq (by omega)
   obtain⟨hA,hact⟩:=Ff g1 g2 (i:=at_.toNat) (by omega) _ rfl
   have hh:=vu N0 hx t
   revert hA hact
   generalize hAA:(qi w p).getD at_.toNat ((0:Int),(⟨#[]⟩:ByteArray))=A
   intro hA hact
   cases hk:(A.1 != 3)with
   |true =>
    refine no ?_
    unfold cS cR eQ iZ
    simp only[hh,Option.bind_some,Bool.not_true,cond_false,cond_true,r2,r3,hin,hAA,hk]
    cases cC xs t<;>simp only[Bool.not_true,Bool.not_false,cond_false,cond_true,Option.bind_some,r2,r3,hin,hAA,hk]
   |false =>
    have hk3:A.1=3:=by simpa using hk
    have hT:∃P,wW A.2 P:=by
     rcases hact with⟨h,_⟩|⟨_,h⟩|⟨h,_⟩
     ·omega
     ·exact h
     ·omega
    obtain⟨P,hP⟩:=hT
    cases ht:cC xs t with
    |false =>
     refine no ?_
     unfold cS cR
     simp only[hh,ht,Option.bind_some,Bool.not_true,Bool.not_false,cond_false,cond_true]
    |true =>
     rw[ht]at hh
     obtain⟨l2,e,ys,c,q1,q2,q3⟩:=Ey hP hp g4 g3 ht
     cases hM:dz P env xs t with
     |none =>
      rw[hM]at q3
      have q3:c=false:=q3
      subst q3
      refine no ?_
      unfold cS eQ iY
      simp only[hh,r2,r3,hin,hAA,hk,q1,q2,Option.bind_some,Bool.not_true,Bool.not_false,cond_false,cond_true]
     |some s =>
      rw[hM]at q3
      obtain⟨q3,q4⟩:=(q3:(e,ys)=s∧c=true)
      subst q3;subst q4
      obtain⟨f1,f2,f3⟩:=ei ⟨g4,qP g3⟩ hp ht hM
      obtain⟨f4,f5⟩:=lu ⟨g4,qP g3⟩ g3 hp ht hM
      have n4:at_.toNat≠4:=fun q=>by have:=hA.2 q;omega
      have wa:IntKind.i64.wrap (at_+(1:Int))=at_+1:=ak (by omega) (by omega)
      refine⟨ys,at_+1,e,false,false,true,?_,pn g1 g2 hg.me hg.peer hg.ne f2 f1.1 f4 ⟨by omega,by omega⟩ (by rw[eq_comm,beq_eq_false_iff_ne];omega) (fun q=>by cases q) (fun _=>hg.no rfl),f1.1,f2,f3⟩
      unfold cS eQ il
      simp only[hh,r2,r3,hin,hAA,hk,q1,q2,wa,Option.bind_some,Bool.not_true,Bool.not_false,cond_false,cond_true]
theorem J4{xs:List ab}(hp:aO xs=true) (hl:xs.length<490){v:Int}(h0:0≤v) (h1:v≤199):∃ys t,bI N0 (xs,v)=some (ys,t)∧iS xs 1 v 0=some (ys,t)∧ys.length≤xs.length+1:=by
 have hn:=J3 (ys:=[]) (t:=0) hp h0 h1
 have ha:∃ys t,iS xs 1 v 0=some (ys,t)∧ys.length≤xs.length+1:=by
  show ∃ys t,BT xs (1,v,0)=some (ys,t)∧_
  unfold BT
  dsimp only
  rw[hn,cond_true]
  cases hf:wD xs (1,v,0)with
  |some j=>exact⟨_,_,rfl,by omega⟩
  |none =>
   dsimp only
   rw[if_neg (by omega)]
   exact⟨_,_,rfl,by simp⟩
 obtain⟨ys,t,e,l⟩:=ha
 refine⟨ys,t,?_,e,l⟩
 unfold bI
 dsimp only
 rw[gR hp,e];rfl
theorem GF{i:Nat}{t:Int}(h0:0≤t) (h1:t<(i:Int)) (hi:i≤4294967296):fP N0 (7,t,0,(i:Int))=true:=by
 have w:IntKind.i64.wrap ((i:Int)-(1:Int))=(i:Int)-1:=ak (by omega) (by omega)
 have hr:∀v lo hi:Int,aB N0 (v,lo,hi)=some (decide (v≥lo)&&decide (v≤hi)):=fun v lo hi=>by
  unfold aB
  cases q:decide (v≥lo)<;>(simp[q])
 show(ci N0 (7,t,0,(i:Int))).getD false=true
 unfold ci
 dsimp only
 rw[w,hr,hr,hr,show dI N0 7=some 1 from rfl]
 simp only[Option.bind_some,show((1:Int)==0)=false from rfl,beq_self_eq_true,cond_true,cond_false,decide_eq_true (show t≥0 by omega),decide_eq_true (show t≤(i:Int)-1 by omega),Bool.and_self]
 rfl
theorem GH{xs:List ab}(hp:aO xs=true) (hl:xs.length<490){t:Int}(ht:cC xs t=true):∃ys u,aR N0 (xs,(7:Int),t,(0:Int))=some (ys,u)∧iS xs 7 t 0=some (ys,u)∧ys.length≤xs.length+1:=by
 rw[eH]at ht
 have hn:=GF ht.1 ht.2 (by omega)
 have ha:∃ys t',iS xs 7 t 0=some (ys,t')∧ys.length≤xs.length+1:=by
  show ∃ys t',BT xs (7,t,0)=some (ys,t')∧_
  unfold BT
  dsimp only
  rw[hn,cond_true]
  cases hf:wD xs (7,t,0)with
  |some j=>exact⟨_,_,rfl,by omega⟩
  |none =>
   dsimp only
   rw[if_neg (by omega)]
   exact⟨_,_,rfl,by simp⟩
 obtain⟨ys,u,e,l⟩:=ha
 refine⟨ys,u,?_,e,l⟩
 rw[gR hp,e];rfl
def w7:List Int:=[(109:Int),(112:Int),(115:Int),(113:Int),(107:Int),(116:Int),(117:Int)]
theorem LQ:∀j:Nat,j<7→97≤w7.getD j 0∧w7.getD j 0≤122:=by decide
theorem lB{xs ys:List ab}{kd a b t:Int}(hp:aO xs=true) (h:iS xs kd a b=some (ys,t)):aO ys=true∧cC ys t=true∧∃zs,ys=xs++zs:=by
 obtain⟨⟨g1,g2,g3⟩,g4⟩:=dZ hp h
 exact⟨g1,eH.2 ⟨g2,g4⟩,g3⟩
theorem nN{xs0:List ab}{w p a b:Int}{ns:List Int}(hns:ns.length=7) (hin:∀j:Nat,j<7→0≤ns.getD j 0∧ns.getD j 0≤199):∀(m j:Nat) (xs:List ab) (env:List Int),j≤7→7<m+j→aO xs=true→xs.length+2*(7-j)≤480→env.length=26→d6 xs env=true →
  ∃ys e,bx N0 m (xs0,[],(0:Int),(0:Int),(0:Int),(0:Int),(0:Int),[],false,false,(0:Int),w,p,a,b,(0:Int),env,false,false,(-1:Int),ns,w7,xs,(j:Int))=some (Sum.inr ([],(0:Int),(0:Int),(0:Int),(0:Int),(0:Int),[],false,false,(0:Int),w,p,a,b,(0:Int),e,false,false,(-1:Int),ys))∧aO ys=true∧ys.length≤xs.length+2*(7-j)∧e.length=26∧d6 ys e=true∧∃zs,ys=xs++zs
 |0,j,xs,env,hj,hm,_,_,_,_=>by omega
 |m+1,j,xs,env,hj,hm,hp,hl,he,hv=>by
  unfold bx
  dsimp only
  by_cases hq:j<7
  ·obtain⟨n1,n2⟩:=hin j hq
   obtain⟨l1,l2⟩:=LQ j hq
   have hll:w7.length=7:=rfl
   have hi2:ba (j:Int) w7.length=true:=aq (by omega)
   have wj:IntKind.i64.wrap ((j:Int)+1)=((j+1:Nat):Int):=by rw[ak (by omega) (by omega)];omega
   have hw:=(Yr l1 l2).2
   have hie:ba (w7.getD j 0-97) env.length=true:=by
    rw[show w7.getD j 0-97=(((w7.getD j 0-97).toNat:Nat):Int)by omega]
    exact aq (by omega)
   obtain⟨ys,t,e1,e2,e3⟩:=J4 hp (by omega) n1 n2
   obtain⟨p1,h1,zs,hz⟩:=lB hp e2
   have hv1:d6 ys env=true:=by rw[hz];exact kJ hv
   have t0:=(eH.1 h1).1
   rw[decide_eq_true (show(j:Int)<(ns.length:Int)by omega),cond_true]
   unfold ir
   dsimp only
   rw[aq (show j<ns.length by omega),cond_true,Int.toNat_natCast,e1,Option.bind_some,Option.bind_some]
   dsimp only
   rw[decide_eq_true (show t≥0 by omega),cond_true,hi2,cond_true,Int.toNat_natCast,hw,hie,wj]
   cases(w7.getD j 0==117)with
   |true =>
    obtain⟨us,u,f1,f2,f3⟩:=GH p1 (by omega) h1
    obtain⟨p2,h2,ws,hw2⟩:=lB p1 f2
    have u0:=(eH.1 h2).1
    have hv2:d6 us env=true:=by rw[hw2];exact kJ hv1
    rw[cond_true,f1,Option.bind_some]
    dsimp only
    rw[decide_eq_false (show ¬u<0 by omega),cond_false,cond_true,cond_true]
    obtain⟨vs,e,k1,k2,k3,k4,k5,ks,k6⟩:=nN hns hin m (j+1) us (env.set (w7.getD j 0-97).toNat u) (by omega) (by omega) p2 (by omega) (by rw[List.length_set];exact he) (qO h2 _ hv2)
    exact⟨vs,e,k1,k2,by omega,k4,k5,zs++(ws++ks),by rw[k6,hw2,hz,List.append_assoc,List.append_assoc]⟩
   |false =>
    rw[cond_false,decide_eq_false (show ¬t<0 by omega),cond_false,cond_true,cond_true]
    obtain⟨vs,e,k1,k2,k3,k4,k5,ks,k6⟩:=nN hns hin m (j+1) ys (env.set (w7.getD j 0-97).toNat t) (by omega) (by omega) p1 (by omega) (by rw[List.length_set];exact he) (qO h1 _ hv1)
    exact⟨vs,e,k1,k2,by omega,k4,k5,zs++ks,by rw[k6,hz,List.append_assoc]⟩
  ·rw[decide_eq_false (show ¬(j:Int)<(ns.length:Int)by omega),cond_false]
   exact⟨xs,env,rfl,hp,by omega,he,hv,[],by simp⟩
theorem Ds{xs:List ab}:∀{e:List Int},(∀v∈e,v=-1)→d6 xs e=true
 |[],_=>rfl
 |v::e,h=>by
  show((v == -1 || cC xs v)&&d6 xs e)=true
  rw[h v (List.mem_cons_self ..),Ds (fun u hu=>h u (List.mem_cons_of_mem _ hu))]
  rfl
theorem Cm{w p:Int}(hw:w=1∨w=2∨w=3) (hp:p=0∨p=1):cT N0 (w,p)=some true:=by
 rcases hw with rfl|rfl|rfl<;>rcases hp with rfl|rfl
 all_goals kernel_rfl
theorem kK{a:Int}(h0:0≤a) (h1:a≤4):bh N0 a=some true:=by
 unfold bh
 rw[qF,decide_eq_true (show a≥0 by omega),decide_eq_true h1];rfl
theorem sN{a:Int}(h0:0≤a) (h1:a≤4):fU N0 a=some (50+a):=by
 unfold fU
 rw[kK h0 h1,Option.bind_some,Bool.not_true,cond_false,ak (by omega) (by omega)]
theorem mq{a:Int}(h0:0≤a) (h1:a≤4):dm N0 a=some (90+a):=by
 unfold dm
 rw[kK h0 h1,Option.bind_some,Bool.not_true,cond_false,ak (by omega) (by omega)]
theorem tL{a b:Int}(h0:0≤a) (h1:a≤4) (g0:0≤b) (g1:b≤4) (hab:a≠b):∃v,fD N0 (a,b)=some v∧0≤v∧v≤199:=by
 unfold fD gM oQ
 dsimp only
 rw[kK h0 h1,kK g0 g1,show(a==b)=false from by rw[beq_eq_false_iff_ne];exact hab]
 simp only[Option.bind_some,Bool.not_true,cond_false]
 cases decide (a<b)with
 |true =>
  simp only[cond_true,Option.bind_some]
  cases decide (a>b)with
  |true=>simp only[cond_true,Option.bind_some];rw[ak (n:=5*a) (by omega) (by omega),ak (n:=60+5*a) (by omega) (by omega),ak (by omega) (by omega)];exact⟨_,rfl,by omega,by omega⟩
  |false=>simp only[cond_false,Option.bind_some];rw[ak (n:=5*a) (by omega) (by omega),ak (n:=60+5*a) (by omega) (by omega),ak (by omega) (by omega)];exact⟨_,rfl,by omega,by omega⟩
 |false =>
  simp only[cond_false,Option.bind_some]
  cases decide (a>b)with
  |true=>simp only[cond_true,Option.bind_some];rw[ak (n:=5*b) (by omega) (by omega),ak (n:=60+5*b) (by omega) (by omega),ak (by omega) (by omega)];exact⟨_,rfl,by omega,by omega⟩
  |false=>simp only[cond_false,Option.bind_some];rw[ak (n:=5*b) (by omega) (by omega),ak (n:=60+5*b) (by omega) (by omega),ak (by omega) (by omega)];exact⟨_,rfl,by omega,by omega⟩
theorem LF{xs:List ab}(hp:aO xs=true) (hl:xs.length≤400){w p a b:Int}(hw:w=1∨w=2∨w=3) (hs:p=0∨p=1) (a0:0≤a) (a1:a≤4) (b0:0≤b) (b1:b≤4) (hab:a≠b) :
  ∃ys e,jU N0 (xs,w,p,a,b)=some (ys,w,p,a,b,(0:Int),e,false,false,(-1:Int),true)∧ys.length≤xs.length+14∧e.length=26∧(∃zs,ys=xs++zs)∧iP ys (w,p,a,b,0,e,false,false, -1)=true:=by
 have hN:=n0
 have pS:=lq N0 n0 (xs:=xs) (by omega)
 have hP:(decide (xs.length≤500)&&cj N0 [] xs)=true:=hp
 rw[hP]at pS
 obtain⟨e0,q1,q2,q3⟩:=Iv
 obtain⟨s,s1,s2,s3⟩:=tL a0 a1 b0 b1 hab
 unfold jU
 dsimp only
 rw[pS]
 simp only[Cm hw hs,kK a0 a1,kK b0 b1,show(a==b)=false from by rw[beq_eq_false_iff_ne];exact hab,q1,sN a0 a1,sN b0 b1,s1,mq a0 a1,mq b0 b1,Option.bind_some,Bool.not_true,cond_false]
 obtain⟨ys,e,k1,k2,k3,k4,k5,k6⟩:=nN (xs0:=xs) (w:=w) (p:=p) (a:=a) (b:=b) (ns:=[a,b,50+a,50+b,s,90+a,90+b]) rfl (fun j hj=>by
  match j,hj with
  |0,_=>exact⟨a0,(show a≤199 by omega)⟩
  |1,_=>exact⟨b0,(show b≤199 by omega)⟩
  |2,_=>exact⟨(show 0≤50+a by omega),(show 50+a≤199 by omega)⟩
  |3,_=>exact⟨(show 0≤50+b by omega),(show 50+b≤199 by omega)⟩
  |4,_=>exact⟨s2,s3⟩
  |5,_=>exact⟨(show 0≤90+a by omega),(show 90+a≤199 by omega)⟩
  |6,_=>exact⟨(show 0≤90+b by omega),(show 90+b≤199 by omega)⟩
  |n+7,h=>omega) N0 0 xs e0 (by omega) (by omega) hp (by omega) q2 (Ds q3)
 rw[show((0:Nat):Int)=(0:Int)from rfl]at k1
 unfold w7 at k1
 rw[k1,Option.bind_some]
 dsimp only
 unfold iq
 dsimp only
 have hyl:=cL k2
 rw[uM (xs:=ys) (by omega),Option.bind_some,Option.bind_some]
 exact⟨ys,e,rfl,by omega,k4,k6,pn hw hs ⟨a0,a1⟩ ⟨b0,b1⟩ hab k2 k4 k5 (by omega) rfl (fun q=>by cases q) (fun _=>rfl)⟩
def BA (n:Int):Int:=(fE N0 n).getD 0
theorem Ip (n:Int):fE N0 n=some (BA n):=by
 unfold BA fE
 rw[qF]
 simp only[Option.bind_some]
 cases(decide (n≥0)&&decide (n≤99))<;>rfl
structure NB (xs:List ab) (at_ key:Int) (out:List Int) (rs:Option (X7⊕(Int×List ab×Int×Int×Int×Int×Int×List Int×Bool×Bool×Int×List ab×Int×Int×Int×Int×Int×List Int×Bool×Bool×Int×List Int))) (w p a b:Int):Prop where
 ex:∃es ys at' env' d' dd' key' out' nx,rs=some es∧WP es=(ys,w,p,a,b,at',env',d',dd',key',out',nx)∧qU xs at_ key out ys at' env' d' dd' key' out'
theorem ug{w p a b:Int}(hw:w=1∨w=2∨w=3) (hs:p=0∨p=1):∀(k:Nat) (at_:Int) (env:List Int) (key nx:Int) (xs:List ab) (out:List Int) (m2:Nat),at_+(k:Int)=5→0≤at_→aO xs=true→env.length=26→d6 xs env=true→(at_=5→cC xs key=true)→out.length+k≤5→k<m2 →
  NB xs at_ key out (am N0 m2 (nx,xs,w,p,a,b,at_,env,(at_==5),false,key,[],(0:Int),(0:Int),(0:Int),(0:Int),(0:Int),[],false,false,(0:Int),out,qi w p)) w p a b
 |k,at_,env,key,nx,xs,out,0,h0,h1,hp,he,hv,hky,ho,hm2=>by omega
 |0,at_,env,key,nx,xs,out,m2+1,h0,h1,hp,he,hv,hky,ho,hm2=>by
  have e5:at_=5:=by omega
  subst e5
  have hl:=cL hp
  refine⟨_,xs,5,env,true,false,key,out,nx,rfl,rfl,hp,he,by omega,hv,⟨[],by simp⟩,Int.le_refl _,Int.le_refl _,rfl,fun _=>⟨rfl,hky rfl⟩,fun q=>(by cases q),fun v h => .inl h⟩
 |k+1,at_,env,key,nx,xs,out,m2+1,h0,h1,hp,he,hv,hky,ho,hm2=>by
  have hl:=cL hp
  have c5:(at_==5)=false:=by rw[beq_eq_false_iff_ne];omega
  have hin:ba at_ 5=true:=by
   have e:at_=((at_.toNat:Nat):Int):=by omega
   rw[e];exact aq (by omega)
  obtain⟨_,_,r3⟩:=q9 hw hs
  obtain⟨hA,hact⟩:=Ff hw hs (i:=at_.toNat) (by omega) _ rfl
  have w1:IntKind.i64.wrap (at_+1)=at_+1:=ak (by omega) (by omega)
  have rm:∀t:Int,aI (out.length+[t].length)=true:=fun t=>by
   unfold aI
   rw[List.length_singleton]
   simp
   omega
  revert hA hact
  generalize hAA:(qi w p).getD at_.toNat ((0:Int),(⟨#[]⟩:ByteArray))=A
  intro hA hact
  rw[c5]
  rcases hact with⟨k1,s1,s2,s3⟩|⟨k1,_⟩|⟨k1,P,hP,hAs⟩
  ·have k1':(A.1==1)=true:=by rw[k1];rfl
   have k3':(A.1==3)=false:=by rw[k1];rfl
   have k4':(A.1==4)=false:=by rw[k1];rfl
   have k2':(A.1==2)=false:=by rw[k1];rfl
   have n4:at_.toNat≠4:=fun q=>by have:=hA.2 q;omega
   have c6:(at_+1==5)=false:=by rw[beq_eq_false_iff_ne];omega
   have f2:=Ip nx
   have nS:=jp hp (BA nx)
   cases hq:iS xs 1 (BA nx) 0 with
   |none =>
    rw[hq]at nS
    refine⟨.inl (xs,w,p,a,b,at_,env,false,true,key,out,nx),xs,at_,env,false,true,key,out,nx,?_,rfl,qU.stay (by omega) hp he hv (by omega)⟩
    rw[am];dsimp only
    simp only[gN,dM,fB,r3,hin,hAA,k1',k2',k3',k4',f2,nS,nM,Bool.not_false,Bool.not_true,cond_true,cond_false,Option.bind_some,show decide ((-1:Int)<0)=true from rfl,show decide ((-1:Int)≥0)=false from rfl]
   |some s =>
    obtain⟨ys,t⟩:=s
    rw[hq]at nS
    obtain⟨⟨g1,g2,zs,g3⟩,g4⟩:=dZ hp hq
    have tb:cC ys t=true:=eH.2 ⟨g2,g4⟩
    obtain⟨u1,u2⟩:=Yr s2 s3
    have ib:ba (bt A.2 0-97) env.length=true:=yu he (by omega) (by omega)
    have sz:ba (0:Int) A.2.size=true:=by rw[s1];rfl
    have tn:decide (t<0)=false:=decide_eq_false (by omega)
    have tp:decide (t≥0)=true:=decide_eq_true (by omega)
    have ih:=ug (a:=a) (b:=b) hw hs k (at_+1) (env.set (bt A.2 0-97).toNat t) key (IntKind.i64.wrap (nx+1)) ys out m2 (by omega) (by omega) g1 (by rw[List.length_set];exact he) (qO tb _ (by rw[g3];exact kJ hv)) (fun q=>by omega) (by omega) (by omega)
    rw[c6]at ih
    obtain⟨es,zs2,at',env',d',dd',key',out',nx',q2,q4,q5⟩:=ih
    refine⟨es,zs2,at',env',d',dd',key',out',nx',?_,q4,q5.go ⟨zs,g3⟩ (.inl rfl) (fun v h => .inl h)⟩
    rw[am];dsimp only
    simp only[gN,dM,fB,r3,hin,hAA,k1',k2',k3',k4',f2,nS,nM,Bool.not_false,Bool.not_true,cond_true,cond_false,Option.bind_some,tn,tp,sz,u2,ib,w1,q2]
  ·have k1':(A.1==1)=false:=by rw[k1];rfl
   have k3':(A.1==3)=true:=by rw[k1];rfl
   refine⟨.inl (xs,w,p,a,b,at_,env,false,false,key,out,nx),xs,at_,env,false,false,key,out,nx,?_,rfl,qU.stay (by omega) hp he hv (by omega)⟩
   rw[am];dsimp only
   simp only[fB,r3,hin,hAA,k1',k3',Bool.not_false,Bool.not_true,cond_true,cond_false,Option.bind_some]
  ·have k1':(A.1==1)=false:=by rcases k1 with e|e<;>rw[e]<;>rfl
   have k3':(A.1==3)=false:=by rcases k1 with e|e<;>rw[e]<;>rfl
   obtain⟨l2,ys,t,e1,e2,e3,e4⟩:=Ez hP hp he hv
   have w2:IntKind.i64.wrap ((l2.length:Int)-1)=(l2.length:Int)-1:=ak (by omega) (by omega)
   have mo:cu N0 N0 (xs,env,l2,(l2.length:Int)-1)=some (env,ys,t):=by
    rw[nO,e3];rfl
   cases hq:mk env P xs with
   |none =>
    rw[hq]at e4
    have e4:t=-1:=e4
    subst e4
    refine⟨.inl (xs,w,p,a,b,at_,env,false,true,key,out,nx),xs,at_,env,false,true,key,out,nx,?_,rfl,qU.stay (by omega) hp he hv (by omega)⟩
    rw[am];dsimp only
    simp only[dM,r3,hin,hAA,k1',k3',e1,w2,mo,Bool.not_false,Bool.not_true,cond_true,cond_false,Option.bind_some,show decide ((-1:Int)<0)=true from rfl]
   |some s =>
    rw[hq]at e4
    have e4:(ys,t)=s:=e4
    subst e4
    obtain⟨g1,g2,zs,g3⟩:=dP hp hq
    have tn:decide (t<0)=false:=decide_eq_false (by omega)
    have tp:decide (t≥0)=true:=decide_eq_true (by omega)
    have hv':d6 ys env=true:=by rw[g3];exact kJ hv
    rcases k1 with k1|k1
    ·have k4':(A.1==4)=false:=by rw[k1];rfl
     have k2':(A.1==2)=true:=by rw[k1];rfl
     have n4:at_.toNat≠4:=fun q=>by have:=hA.2 q;omega
     have c6:(at_+1==5)=false:=by rw[beq_eq_false_iff_ne];omega
     have ih:=ug (a:=a) (b:=b) hw hs k (at_+1) env key nx ys (out++[t]) m2 (by omega) (by omega) g1 he hv' (fun q=>by omega) (by rw[List.length_append,List.length_singleton];omega) (by omega)
     rw[c6]at ih
     obtain⟨es,zs2,at',env',d',dd',key',out',nx',q2,q4,q5⟩:=ih
     refine⟨es,zs2,at',env',d',dd',key',out',nx',?_,q4,q5.go ⟨zs,g3⟩ (.inl rfl) (fun v h=>(List.mem_append.1 h).imp id (fun h=>by rw[List.mem_singleton.1 h];exact M6 hP.fine hp he hv hq))⟩
     rw[am];dsimp only
     simp only[r3,hin,hAA,k1',k2',k3',k4',e1,w2,mo,Bool.not_false,Bool.not_true,cond_true,cond_false,Option.bind_some,tn,tp,w1,rm t,q2]
    ·have k4':(A.1==4)=true:=by rw[k1];rfl
     have k2':(A.1==2)=false:=by rw[k1];rfl
     have n4:at_.toNat=4:=hA.1 k1
     have c6:(at_+1==5)=true:=by rw[beq_iff_eq];omega
     have ih:=ug (a:=a) (b:=b) hw hs k (at_+1) env t nx ys out m2 (by omega) (by omega) g1 he hv' (fun _=>M6 hP.fine hp he hv hq) (by omega) (by omega)
     rw[c6]at ih
     obtain⟨es,zs2,at',env',d',dd',key',out',nx',q2,q4,q5⟩:=ih
     refine⟨es,zs2,at',env',d',dd',key',out',nx',?_,q4,q5.go ⟨zs,g3⟩ (.inr (by omega)) (fun v h => .inl h)⟩
     rw[am];dsimp only
     simp only[r3,hin,hAA,k1',k2',k3',k4',e1,w2,mo,Bool.not_false,Bool.not_true,cond_true,cond_false,Option.bind_some,tn,w1,q2]
theorem Kh{xs:List ab}{w p a b at_:Int}{env:List Int}{d dd:Bool}{key nx:Int}(hx:xs.length≤4294967296) (he:env.length≤4294967296) (hv:iP xs (w,p,a,b,at_,env,d,dd,key)=true) :
  ∃ys at' env' d' dd' key' out' nx',kC N0 (xs,w,p,a,b,at_,env,d,dd,key,nx)=some (ys,w,p,a,b,at',env',d',dd',key',out',nx')∧iP ys (w,p,a,b,at',env',d',dd',key')=true∧qU xs at_ key [] ys at' env' d' dd' key' out':=by
 have hg:=Bx hx (x:=(w,p,a,b,at_,env,d,dd,key)) he hv
 have g1:w=1∨w=2∨w=3:=hg.way
 have g2:p=0∨p=1:=hg.side
 have g3:d6 xs env=true:=hg.env
 have g4:env.length=26:=hg.len
 have g5:0≤at_∧at_≤5:=hg.at0
 have g6:d=(at_==5):=hg.done
 have hp:=hg.pool
 obtain⟨r1,r2,r3⟩:=q9 g1 g2
 have cl:=Ew (w:=w) (p:=p) (a:=a) (b:=b) (at_:=at_) (d:=d) (dd:=dd) (key:=key) he
 have hsz:=cL hp
 have ends:NB xs at_ key [] (am N0 N0 (nx,xs,w,p,a,b,at_,env,d,dd,key,[],(0:Int),(0:Int),(0:Int),(0:Int),(0:Int),[],false,false,(0:Int),[],qi w p)) w p a b:=by
  cases dd with
  |true =>
   have hd:d=false:=by
    cases d with
    |false=>rfl
    |true=>exact absurd (show true=false from hg.live rfl) (by decide)
   subst hd
   obtain⟨m,hm⟩:=ZT
   refine⟨.inr (nx,xs,w,p,a,b,at_,env,false,true,key,[],(0:Int),(0:Int),(0:Int),(0:Int),(0:Int),[],false,false,(0:Int),[]),xs,at_,env,false,true,key,[],nx,?_,rfl,qU.stay (by have:at_≠5:=fun q=>(by rw[q]at g6;cases g6);omega) hp g4 g3 (by simp)⟩
   rw[show am N0 N0=am N0 (m+1)from congrArg _ hm,am];rfl
  |false =>
   have h:=ug (a:=a) (b:=b) g1 g2 (5-at_).toNat at_ env key nx xs [] N0 (by omega) g5.1 hp g4 g3 (fun q=>hg.key (by show d=true;rw[g6,q];rfl)) (by simp;omega) (by have:=n0;omega)
   rw[←g6]at h
   exact h
 obtain⟨es,ys,at',env',d',dd',key',out',nx',q2,q4,st⟩:=ends
 have go2:kC N0 (xs,w,p,a,b,at_,env,d,dd,key,nx)=some (ys,w,p,a,b,at',env',d',dd',key',out',nx'):=by
  unfold kC jM
  simp only[cl,r2,Option.bind_some,q2]
  cases es with
  |inl x =>
   simp only[WP]at q4
   subst q4;rfl
  |inr x =>
   simp only[WP,Prod.mk.injEq]at q4
   obtain⟨z1,z2,z3,z4,z5,z6,z7,z8,z9,z10,z11,z12⟩:=q4
   simp only[z1,z2,z3,z4,z5,z6,z7,z8,z9,z10,z11,z12,Option.bind_some]
 have hno:d=false→key=-1:=fun q=>hg.no q
 exact⟨ys,at',env',d',dd',key',out',nx',go2,pn g1 g2 hg.me hg.peer hg.ne st.pool st.len st.env ⟨by have:=st.on;omega,st.most⟩ st.done st.key1 (fun q=>(st.key0 q).trans (hno (by
   rw[g6,beq_eq_false_iff_ne]
   have:=st.done
   rw[q,eq_comm,beq_eq_false_iff_ne]at this
   have:=st.on
   have:=st.most
   omega))),st⟩
end AM
end Go.Proofs.YtpgigedclifoeaaGreatDoor
namespace Go.Proofs.YtpgigedclifoeaaGreatDoor
namespace AM
open Go
set_option linter.unusedSimpArgs false
set_option linter.unusedVariables false
def body (k a b c d:Int) (t:ByteArray):List UInt8 :=
 if k=1 then [115,116,97,114,116]++[32]++Lib.itoa a++[32]++Lib.itoa b++[32]++Lib.itoa c++[32]++Lib.itoa d
 else if k=2 then [116,97,107,101]++[32]++Lib.itoa a++[32]++t.data.toList
 else if k=3 then [103,105,118,101]++[32]++Lib.itoa a
 else [115,104,111,119]++[32]++Lib.itoa a
def WO (x:Int):Bool:=decide (0≤x∧x≤999)
end AM
end Go.Proofs.YtpgigedclifoeaaGreatDoor
namespace Go.Proofs.YtpgigedclifoeaaGreatDoor
namespace AM
open Go
set_option linter.unusedVariables false
set_option linter.unusedSimpArgs false
theorem Rt{i n:Nat}(h:i<n):ba (i:Int) n=true:=decide_eq_true (by omega)
theorem zk{x:Int}(h1:-9223372036854775808≤x) (h2:x≤9223372036854775807):IntKind.i64.wrap x=x:=K4 h1 h2
theorem NK:∀d:Fin 6,(10:Int) ^ d.val≤100000:=by decide
theorem De (n:Nat){T:ByteArray}(hT:T.size≤1048576){p:Nat}:∀(m i:Nat) (acc:Int),p≤i→i≤p+5→p+5<m+i→0≤acc→acc<10 ^ (i-p)→∃(i':Nat) (acc':Int),cP n m (T,(i:Int),(p:Int),acc)=some (T,(i':Int),(p:Int),acc')∧i≤i'∧(i<i'→i<T.size∧i'≤T.size)∧0≤acc'
 |0,i,acc,h1,h2,hm,_,_=>by omega
 |m+1,i,acc,h1,h2,hm,h0,hb=>by
  have no:∃(i':Nat) (acc':Int),some (T,(i:Int),(p:Int),acc)=some (T,(i':Int),(p:Int),acc')∧i≤i'∧(i<i'→i<T.size∧i'≤T.size)∧0≤acc':=⟨i,acc,rfl,Nat.le_refl _,fun q=>by omega,h0⟩
  rw[cP]
  dsimp only
  by_cases hq:i<T.size
  ·rw[decide_eq_true (show(i:Int)<(T.size:Int)by omega),cond_true,Rt hq,cond_true]
   cases h8:decide (bt T (i:Int)≥48)with
   |false=>exact no
   |true =>
    rw[cond_true,cond_true]
    cases h9:decide (bt T (i:Int)≤57)with
    |false=>exact no
    |true =>
     rw[cond_true,zk (x:=(i:Int)-(p:Int)) (by omega) (by omega)]
     by_cases h5:(i:Int)-(p:Int)<5
     ·rw[decide_eq_true_iff]at h8 h9
      have h10:(10:Int) ^ (i-p)≤100000:=NK ⟨i-p,by omega⟩
      have hs:(10:Int) ^ (i+1-p)=10 ^ (i-p)*10:=by rw[show i+1-p=i-p+1 by omega,Int.pow_succ]
      rw[decide_eq_true h5,cond_true,cond_true,zk (x:=(i:Int)+1) (by omega) (by omega),show(i:Int)+1=((i+1:Nat):Int)by omega,zk (x:=10*acc) (by omega) (by omega),zk (x:=bt T (i:Int)) (by omega) (by omega),zk (x:=10*acc+bt T (i:Int)) (by omega) (by omega),zk (x:=10*acc+bt T (i:Int)-48) (by omega) (by omega)]
      obtain⟨i',a',e1,e2,e3,e4⟩:=De n hT m (i+1) (10*acc+bt T (i:Int)-48) (by omega) (by omega) (by omega) (by omega) (by omega) (p:=p)
      exact⟨i',a',e1,by omega,fun _=>by omega,e4⟩
     ·rw[decide_eq_false h5,cond_false]
      exact no
  ·rw[decide_eq_false (show ¬(i:Int)<(T.size:Int)by omega),cond_false]
   exact no
theorem Er (n:Nat) (hn:100≤n){T:ByteArray}(hT:T.size≤1048576) (p:Nat):∃(x:Int) (nx:Nat) (b:Bool),jn n (T,(p:Int))=some (x,(nx:Int),b)∧(b=true→0≤x∧p<nx∧nx≤T.size):=by
 obtain⟨i',a',e1,e2,e3,e4⟩:=De n hT (p:=p) n p 0 (Nat.le_refl _) (by omega) (by omega) (Int.le_refl _) (by rw[Nat.sub_self];decide)
 have no:∃(x:Int) (nx:Nat) (b:Bool),some ((0:Int),(0:Int),false)=some (x,(nx:Int),b)∧(b=true→0≤x∧p<nx∧nx≤T.size):=⟨0,0,false,rfl,fun q=>by cases q⟩
 unfold jn
 dsimp only
 rw[e1,Option.bind_some]
 dsimp only
 cases hq:((i':Int)==(p:Int))with
 |true=>exact no
 |false =>
  have hlt:p<i':=by
   rw[beq_eq_false_iff_ne]at hq
   omega
  have yes:∃(x:Int) (nx:Nat) (b:Bool),some (a',(i':Int),true)=some (x,(nx:Int),b)∧(b=true→0≤x∧p<nx∧nx≤T.size):=⟨a',i',true,rfl,fun _=>⟨e4,hlt,(e3 hlt).2⟩⟩
  rw[cond_false,Rt (e3 hlt).1]
  cases decide (IntKind.i64.wrap ((i':Int)-(p:Int))>4)with
  |true=>exact no
  |false =>
   rw[cond_false,cond_true]
   cases(bt T (p:Int)==48)with
   |false=>exact yes
   |true =>
    rw[cond_true]
    cases decide (IntKind.i64.wrap ((i':Int)-(p:Int))>1)with
    |true=>exact no
    |false=>exact yes
def tE (T:ByteArray) (a:Nat) (xs:List ab) (s:Option (List ab×Int×Int×Int)):Prop :=
 ∃ys t k c,s=some (ys,t,k,c)∧(c=0→aO ys=true∧(∃zs,ys=xs++zs)∧cC ys t=true∧∃b:Nat,k=b∧a<b∧b≤T.size)
def DF (T:ByteArray) (a:Nat) (xs:List ab) (s:Option (List ab×Int×Int×Int×Int)):Prop :=
 ∃ys x y k c,s=some (ys,x,y,k,c)∧(c=0→aO ys=true∧(∃zs,ys=xs++zs)∧cC ys x=true∧cC ys y=true∧∃b:Nat,k=b∧a<b∧b≤T.size)
def yj (kn:List Int) (xs:List ab):Prop:=∀u,u<kn.length→cC xs (kn.getD u 0)=true
theorem jw{xs:List ab}{v:Int}:cC xs v=true↔0≤v∧v<(xs.length:Int):=by
 unfold cC
 rw[Bool.and_eq_true,decide_eq_true_iff,decide_eq_true_iff]
 omega
theorem vv{xs zs:List ab}{v:Int}(h:cC xs v=true):cC (xs++zs) v=true:=by
 rw[jw]at h ⊢
 rw[List.length_append]
 omega
theorem Ij{kn:List Int}{xs zs:List ab}(h:yj kn xs):yj kn (xs++zs):=fun u hu=>vv (h u hu)
theorem CM{k a b:Int}{i:Nat}(hi:i≤4294967296) (h:fP N0 (k,a,b,(i:Int))=true):(k=1∧0≤a∧a≤199)∨((k=5∨k=7)∧0≤a∧a<(i:Int))∨((k=2∨k=3∨k=4∨k=6∨k=8)∧0≤a∧a<(i:Int)∧0≤b∧b<(i:Int)):=by
 have w:IntKind.i64.wrap ((i:Int)-(1:Int))=(i:Int)-1:=ak (by omega) (by omega)
 have hr:∀v lo hi:Int,aB N0 (v,lo,hi)=some (decide (v≥lo)&&decide (v≤hi)):=fun v lo hi=>by
  unfold aB
  cases q:decide (v≥lo)<;>(simp[q])
 have hk:fP N0 (k,a,b,(i:Int))=(ci N0 (k,a,b,(i:Int))).getD false:=rfl
 rw[hk]at h
 unfold ci at h
 dsimp only at h
 rw[w,hr,hr,hr]at h
 by_cases h1:k=1
 ·subst h1
  rw[show dI N0 1=some 0 from rfl]at h
  left
  cases q:(decide (a≥0)&&decide (a≤199))with
  |false=>simp only[Option.bind_some,beq_self_eq_true,cond_true,q]at h;cases h
  |true =>
   rw[Bool.and_eq_true,decide_eq_true_iff,decide_eq_true_iff]at q
   exact⟨rfl,q.1,q.2⟩
 by_cases h5:k=5∨k=7
 ·right;left
  have hc:dI N0 k=some 1:=by rcases h5 with rfl|rfl<;>rfl
  rw[hc]at h
  cases q:(decide (a≥0)&&decide (a≤(i:Int)-1))with
  |false=>simp only[Option.bind_some,show((1:Int)==0)=false from rfl,beq_self_eq_true,cond_true,cond_false,q]at h;cases h
  |true =>
   rw[Bool.and_eq_true,decide_eq_true_iff,decide_eq_true_iff]at q
   exact⟨h5,q.1,by omega⟩
 by_cases h2:k=2∨k=3∨k=4∨k=6∨k=8
 ·right;right
  have hc:dI N0 k=some 2:=by rcases h2 with rfl|rfl|rfl|rfl|rfl<;>rfl
  rw[hc]at h
  cases q:(decide (a≥0)&&decide (a≤(i:Int)-1))with
  |false=>simp only[Option.bind_some,show((2:Int)==0)=false from rfl,show((2:Int)==1)=false from rfl,beq_self_eq_true,cond_true,cond_false,q]at h;cases h
  |true =>
   cases q2:(decide (b≥0)&&decide (b≤(i:Int)-1))with
   |false=>simp only[Option.bind_some,show((2:Int)==0)=false from rfl,show((2:Int)==1)=false from rfl,beq_self_eq_true,cond_true,cond_false,q,q2]at h;cases h
   |true =>
    rw[Bool.and_eq_true,decide_eq_true_iff,decide_eq_true_iff]at q q2
    exact⟨h2,q.1,by omega,q2.1,by omega⟩
 exfalso
 have hc:∃c,dI N0 k=some c∧c≠0∧c≠1∧c≠2:=by
  unfold dI
  simp only[show(k==1)=false from by rw[beq_eq_false_iff_ne];exact h1,show(k==2)=false from by rw[beq_eq_false_iff_ne];omega,show(k==3)=false from by rw[beq_eq_false_iff_ne];omega,show(k==4)=false from by rw[beq_eq_false_iff_ne];omega,show(k==5)=false from by rw[beq_eq_false_iff_ne];omega,show(k==6)=false from by rw[beq_eq_false_iff_ne];omega,show(k==7)=false from by rw[beq_eq_false_iff_ne];omega,show(k==8)=false from by rw[beq_eq_false_iff_ne];omega,cond_false]
  exact⟨_,rfl,by decide,by decide,by decide⟩
 obtain⟨c,hc,c0,c1,c2⟩:=hc
 rw[hc]at h
 simp only[Option.bind_some,show(c==0)=false from by rw[beq_eq_false_iff_ne];exact c0,show(c==1)=false from by rw[beq_eq_false_iff_ne];exact c1,show(c==2)=false from by rw[beq_eq_false_iff_ne];exact c2,cond_false]at h
 cases h
theorem Bq{m:List ab}{p:Int}(hp:aO m=true) (h:cC m p=true) (hk:(m.getD p.toNat oJ).1=2∨(m.getD p.toNat oJ).1=3∨(m.getD p.toNat oJ).1=4):cC m (m.getD p.toNat oJ).2.1=true∧cC m (m.getD p.toNat oJ).2.2=true:=by
 have h2:=jw.1 h
 have hl:=cL hp
 have:=CM (by omega) (xL hp (j:=p.toNat) (by omega))
 rw[jw,jw]
 rcases this with⟨q,_⟩|⟨q,_⟩|⟨_,q1,q2,q3,q4⟩
 ·rw[q]at hk;omega
 ·rcases q with q|q<;>(rw[q]at hk;omega)
 ·omega
section
variable{T:ByteArray}{a:Nat}{xs:List ab}{kn:List Int}
theorem gS{ys:List ab}{t k c:Int}(hc:c≠0):tE T a xs (some (ys,t,k,c)):=⟨ys,t,k,c,rfl,fun h=>absurd h hc⟩
theorem tN{ys:List ab}{t u k c:Int}(hc:c≠0):DF T a xs (some (ys,t,u,k,c)):=⟨ys,t,u,k,c,rfl,fun h=>absurd h hc⟩
theorem xw (hT:T.size≤100000) (ha:a≤T.size) (e:Int):(ap N0 (T,(a:Int),e)=some (((a+1:Nat):Int),(0:Int))∧a+1≤T.size)∨(∃k c:Int,c≠0∧ap N0 (T,(a:Int),e)=some (k,c)):=by
 unfold ap
 dsimp only
 by_cases h:a<T.size
 ·rw[show decide ((a:Int)≥(T.size:Int))=false from decide_eq_false (by omega),aq h,cond_false,cond_true]
  cases(bt T (a:Int) != e)with
  |false =>
   rw[cond_false,ak (by omega) (by omega)]
   exact .inl ⟨rfl,h⟩
  |true=>exact .inr ⟨_,3,by decide,rfl⟩
 ·rw[show decide ((a:Int)≥(T.size:Int))=true from decide_eq_true (by omega),cond_true]
  exact .inr ⟨_,2,by decide,rfl⟩
theorem NS{rec_:List ab×List Int×ByteArray×Int→Option (List ab×Int×Int×Int)}(hT:T.size≤100000) (ha:a+1≤T.size) (hp:aO xs=true) (hk:yj kn xs):tE T a xs ((jn N0 (T,((a+1:Nat):Int))).bind fun r1=>(cond (!r1.2.2) (some (xs,(-1:Int),(a:Int),(4:Int))) (cond (decide (r1.1≥((kn).length:Int))) (some (xs,(-1:Int),(a:Int),(4:Int))) ((gP N0 rec_ (kn,xs,[],r1.1,r1.2.1)).bind fun g2=>(some (g2.1,g2.2.1,g2.2.2.1,g2.2.2.2)))))):=by
 obtain⟨x,nx,b,e,h⟩:=Er N0 (by have:=n0;omega) (T:=T) (by omega) (a+1)
 rw[e,Option.bind_some]
 dsimp only
 cases b with
 |false=>exact gS (by decide)
 |true =>
  obtain⟨x0,n1,n2⟩:=h rfl
  rw[Bool.not_true,cond_false]
  cases hku:decide (x≥(kn.length:Int))with
  |true=>exact gS (by decide)
  |false =>
   rw[decide_eq_false_iff_not]at hku
   have hu:x.toNat<kn.length:=by omega
   have ex:((x.toNat:Nat):Int)=x:=by omega
   have hin:=aq hu
   rw[ex]at hin
   rw[cond_false,gP]
   dsimp only
   rw[hin,cond_true,Option.bind_some]
   exact⟨_,_,_,_,rfl,fun _=>⟨hp,⟨[],by simp⟩,hk _ hu,_,rfl,by omega,n2⟩⟩
theorem x7{p:Nat}(hT:T.size≤100000):∀(m i:Nat) (acc:Int),p≤i→i≤p+4→p+4<m+i→∃(i':Nat) (acc':Int),cO N0 m (T,(i:Int),(p:Int),acc)=some (T,(i':Int),(p:Int),acc')∧i≤i'∧(i<i'→i<T.size∧i'≤T.size)
 |0,i,acc,h1,h2,hm=>by omega
 |m+1,i,acc,h1,h2,hm=>by
  have no:∃(i':Nat) (acc':Int),some (T,(i:Int),(p:Int),acc)=some (T,(i':Int),(p:Int),acc')∧i≤i'∧(i<i'→i<T.size∧i'≤T.size):=⟨i,acc,rfl,Nat.le_refl _,fun q=>by omega⟩
  rw[cO]
  dsimp only
  by_cases hq:i<T.size
  ·rw[nh hq,cond_true,aq hq,cond_true]
   cases decide (bt T (i:Int)≥48)with
   |false=>exact no
   |true =>
    rw[cond_true,cond_true]
    cases decide (bt T (i:Int)≤57)with
    |false=>exact no
    |true =>
     rw[cond_true,ak (n:=(i:Int)-(p:Int)) (by omega) (by omega)]
     by_cases h5:(i:Int)-(p:Int)<4
     ·rw[decide_eq_true h5,cond_true,cond_true,aP hq (by omega)]
      obtain⟨i',a',e1,e2,e3⟩:=x7 hT m (i+1) (IntKind.i64.wrap ((IntKind.i64.wrap ((IntKind.i64.wrap ((10:Int)*acc))+(IntKind.i64.wrap (bt T (i:Int)))))-(48:Int))) (by omega) (by omega) (by omega) (p:=p)
      exact⟨i',a',e1,by omega,fun _=>by omega⟩
     ·rw[decide_eq_false h5,cond_false]
      exact no
  ·rw[show decide ((i:Int)<(T.size:Int))=false from decide_eq_false (by omega),cond_false]
   exact no
theorem GT (hT:T.size≤100000) (p:Nat):∃(x:Int) (nx:Nat) (b:Bool),gJ N0 (T,(p:Int))=some (x,(nx:Int),b)∧(b=true→p<nx∧nx≤T.size):=by
 obtain⟨i',a',e1,e2,e3⟩:=x7 (p:=p) hT N0 p 0 (Nat.le_refl _) (by omega) (by have:=n0;omega)
 have no:∃(x:Int) (nx:Nat) (b:Bool),some ((0:Int),(0:Int),false)=some (x,(nx:Int),b)∧(b=true→p<nx∧nx≤T.size):=⟨0,0,false,rfl,fun q=>by cases q⟩
 unfold gJ
 dsimp only
 rw[e1,Option.bind_some]
 dsimp only
 cases hq:((i':Int)==(p:Int))with
 |true=>exact no
 |false =>
  have hlt:p<i':=by
   rw[beq_eq_false_iff_ne]at hq
   omega
  have yes:∃(x:Int) (nx:Nat) (b:Bool),some (a',(i':Int),true)=some (x,(nx:Int),b)∧(b=true→p<nx∧nx≤T.size):=⟨a',i',true,rfl,fun _=>⟨hlt,(e3 hlt).2⟩⟩
  rw[cond_false,aq (e3 hlt).1]
  cases decide (IntKind.i64.wrap ((i':Int)-(p:Int))>3)with
  |true=>exact no
  |false =>
   rw[cond_false,cond_true]
   cases(bt T (p:Int)==48)<;>cases decide (IntKind.i64.wrap ((i':Int)-(p:Int))>1)<;>cases decide (a'≥200)<;>first
    |exact no
    |exact yes
theorem Lm (hT:T.size≤100000) (ha:a+1≤T.size) (hp:aO xs=true):tE T a xs ((gJ N0 (T,((a+1:Nat):Int))).bind fun r3=>(cond (!r3.2.2) (some (xs,(-1:Int),(a:Int),(4:Int))) ((gn N0 r3.1).bind fun r4=>(cond (!r4) (some (xs,(-1:Int),(a:Int),(4:Int))) ((bI N0 (xs,r3.1)).bind fun r5=>(cond (decide (r5.2<(0:Int))) (some (xs,(-1:Int),r3.2.1,(5:Int))) (some (r5.1,r5.2,r3.2.1,(0:Int))))))))):=by
 obtain⟨x,nx,b,e,h⟩:=GT hT (a+1)
 rw[e,Option.bind_some]
 dsimp only
 cases b with
 |false=>exact gS (by decide)
 |true =>
  obtain⟨n1,n2⟩:=h rfl
  have hq:∃q,gn N0 x=some q:=by
   unfold gn bO
   cases decide (x≥0)<;>exact⟨_,rfl⟩
  obtain⟨q,hq⟩:=hq
  rw[Bool.not_true,cond_false,hq,Option.bind_some,jp hp]
  cases q with
  |false=>exact gS (by decide)
  |true =>
   rw[Bool.not_true,cond_false,Option.bind_some]
   cases hA:iS xs 1 x 0 with
   |none=>exact gS (by decide)
   |some p =>
    obtain⟨ys,t⟩:=p
    obtain⟨g1,g2,g3⟩:=lB hp hA
    rw[show nM xs (some (ys,t))=(ys,t)from rfl]
    dsimp only
    rw[show decide (t<(0:Int))=false from decide_eq_false (by have:=(jw.1 g2).1;omega),cond_false]
    exact⟨_,_,_,_,rfl,fun _=>⟨g1,g3,g2,_,rfl,by omega,n2⟩⟩
theorem OI{ys:List ab}(hp:aO ys=true){t:Int}(h:cC ys t=true) (v:Int):∃o,ef N0 (ys,v,t)=some o∧(o<0∨cC ys o=true):=by
 unfold ef
 dsimp only
 rw[qG h,cond_true]
 have e1:((ys.getD t.toNat oJ).1==(2:Int))=true→cC ys (ys.getD t.toNat oJ).2.1=true∧cC ys (ys.getD t.toNat oJ).2.2=true:=fun q=>Bq hp h (.inl (by simpa using q))
 have e2:((ys.getD t.toNat oJ).1==(4:Int))=true→cC ys (ys.getD t.toNat oJ).2.1=true:=fun q=>(Bq hp h (.inr (.inr (by simpa using q)))).1
 have ez:ys.getD t.toNat ((0:Int),((0:Int),(0:Int)))=ys.getD t.toNat oJ:=rfl
 rw[ez]
 revert e1 e2
 cases((ys.getD t.toNat oJ).1==(2:Int))<;>cases((ys.getD t.toNat oJ).1==(4:Int))<;>cases(v==(60:Int))<;>cases(v==(33:Int))<;>cases(v==(62:Int))<;>intro e1 e2<;>first
  |exact⟨_,rfl, .inl (by decide)⟩
  |exact⟨_,rfl, .inr (e1 rfl).1⟩
  |exact⟨_,rfl, .inr (e1 rfl).2⟩
  |exact⟨_,rfl, .inr (e2 rfl)⟩
theorem D3{s:Option (List ab×Int×Int×Int)}(hs:tE T (a+1) xs s) (v:Int):tE T a xs (s.bind fun r6=>(cond (r6.2.2.2 != (0:Int)) (some (r6.1,(-1:Int),r6.2.2.1,r6.2.2.2)) ((ef N0 (r6.1,v,r6.2.1)).bind fun r7=>(cond (decide (r7<(0:Int))) (some (r6.1,(-1:Int),r6.2.2.1,(7:Int))) (some (r6.1,r7,r6.2.2.1,(0:Int))))))):=by
 obtain⟨ys,t,k,c,rfl,h⟩:=hs
 rw[Option.bind_some]
 dsimp only
 by_cases hc:c=0
 ·obtain⟨h1,h2,h3,b,h4,h5,h6⟩:=h hc
  obtain⟨o,e1,e2⟩:=OI h1 h3 v
  rw[hc,e1,Option.bind_some,show((0:Int) != 0)=false from rfl,cond_false]
  cases ho:decide (o<0)with
  |true=>exact gS (by decide)
  |false =>
   rw[decide_eq_false_iff_not]at ho
   exact⟨_,_,_,_,rfl,fun _=>⟨h1,h2,e2.resolve_left ho,b,h4,by omega,h6⟩⟩
 ·rw[show(c != 0)=true from by rw[bne_iff_ne];exact hc,cond_true]
  exact gS hc
theorem Jr{ys:List ab}(h1:aO ys=true) (h2:∃zs,ys=xs++zs){b:Nat}(h5:a<b) (h6:b≤T.size) (kd p q:Int):tE T a xs ((aR N0 (ys,kd,p,q)).bind fun r18=>(cond (decide (r18.2<(0:Int))) (some (ys,(-1:Int),(b:Int),(5:Int))) (some (r18.1,r18.2,(b:Int),(0:Int))))):=by
 rw[gR h1,Option.bind_some]
 cases hA:iS ys kd p q with
 |none=>exact gS (by decide)
 |some m =>
  obtain⟨zs,t⟩:=m
  obtain⟨g1,g2,z,g3⟩:=lB h1 hA
  rw[show nM ys (some (zs,t))=(zs,t)from rfl]
  dsimp only
  rw[show decide (t<(0:Int))=false from decide_eq_false (by have:=(jw.1 g2).1;omega),cond_false]
  obtain⟨z',h2⟩:=h2
  exact⟨_,_,_,_,rfl,fun _=>⟨g1,⟨z'++z,by rw[g3,h2,List.append_assoc]⟩,g2,b,rfl,h5,h6⟩⟩
theorem Lo{s:Option (List ab×Int×Int×Int)}(hs:tE T (a+1) xs s) (kd:Int):tE T a xs (s.bind fun r19=>(cond (r19.2.2.2 != (0:Int)) (some (r19.1,(-1:Int),r19.2.2.1,r19.2.2.2)) ((aR N0 (r19.1,kd,r19.2.1,(0:Int))).bind fun r20=>(cond (decide (r20.2<(0:Int))) (some (r19.1,(-1:Int),r19.2.2.1,(5:Int))) (some (r20.1,r20.2,r19.2.2.1,(0:Int))))))):=by
 obtain⟨ys,t,k,c,rfl,h⟩:=hs
 rw[Option.bind_some]
 dsimp only
 by_cases hc:c=0
 ·obtain⟨h1,h2,h3,b,h4,h5,h6⟩:=h hc
  rw[hc,h4,show((0:Int) != 0)=false from rfl,cond_false]
  exact Jr h1 h2 (by omega) h6 kd _ _
 ·rw[show(c != 0)=true from by rw[bne_iff_ne];exact hc,cond_true]
  exact gS hc
theorem Ln{s:Option (List ab×Int×Int×Int×Int)}(hs:DF T (a+1) xs s) (kd:Int):tE T a xs (s.bind fun r17=>(cond (r17.2.2.2.2 != (0:Int)) (some (r17.1,(-1:Int),r17.2.2.2.1,r17.2.2.2.2)) ((aR N0 (r17.1,kd,r17.2.1,r17.2.2.1)).bind fun r18=>(cond (decide (r18.2<(0:Int))) (some (r17.1,(-1:Int),r17.2.2.2.1,(5:Int))) (some (r18.1,r18.2,r17.2.2.2.1,(0:Int))))))):=by
 obtain⟨ys,t,u,k,c,rfl,h⟩:=hs
 rw[Option.bind_some]
 dsimp only
 by_cases hc:c=0
 ·obtain⟨h1,h2,h3,h3',b,h4,h5,h6⟩:=h hc
  rw[hc,h4,show((0:Int) != 0)=false from rfl,cond_false]
  exact Jr h1 h2 (by omega) h6 kd _ _
 ·rw[show(c != 0)=true from by rw[bne_iff_ne];exact hc,cond_true]
  exact gS hc
theorem Fg{s:Option (List ab×Int×Int×Int×Int)}(hs:DF T (a+1) xs s) (v:Int):tE T a xs (s.bind fun r12=>(cond (r12.2.2.2.2 != (0:Int)) (some (r12.1,(-1:Int),r12.2.2.2.1,r12.2.2.2.2)) ((ip N0 (r12.1,v,r12.2.1,r12.2.2.1)).bind fun r13=>(some (r13.1,r13.2.1,r12.2.2.2.1,r13.2.2))))):=by
 obtain⟨ys,x,y,k,c,rfl,h⟩:=hs
 rw[Option.bind_some]
 dsimp only
 by_cases hc:c=0
 ·obtain⟨h1,⟨z',h2⟩,h3,h3',b,h4,h5,h6⟩:=h hc
  rw[hc,h4,show((0:Int) != 0)=false from rfl,cond_false,ip]
  dsimp only
  rw[qG h3,qG h3',cond_true,cond_true]
  cases(v==(111:Int))with
  |true =>
   rw[cond_true]
   cases hk:((ys.getD x.toNat ((0:Int),((0:Int),(0:Int)))).1 != (3:Int))with
   |true=>exact gS (c:=7) (by decide)
   |false =>
    have hk3:(ys.getD x.toNat oJ).1=3:=by
     rw[bne_eq_false_iff_eq]at hk
     exact hk
    rw[cond_false]
    cases((ys.getD x.toNat ((0:Int),((0:Int),(0:Int)))).2.2 != y)with
    |true=>exact gS (c:=7) (by decide)
    |false=>exact⟨_,_,_,_,rfl,fun _=>⟨h1,⟨z',h2⟩,(Bq h1 h3 (.inr (.inl hk3))).1,b,rfl,by omega,h6⟩⟩
  |false =>
   rw[cond_false]
   cases((ys.getD y.toNat ((0:Int),((0:Int),(0:Int)))).1 != (7:Int))with
   |true=>exact gS (c:=7) (by decide)
   |false =>
    rw[cond_false,tI h1,Option.bind_some]
    cases hA:ql ys y x with
    |none=>exact gS (c:=5) (by decide)
    |some m =>
     obtain⟨zs,t⟩:=m
     obtain⟨g1,g2,z,g3⟩:=lB h1 (oY hA)
     rw[show nM ys (some (zs,t))=(zs,t)from rfl]
     dsimp only
     rw[show decide (t<(0:Int))=false from decide_eq_false (by have:=(jw.1 g2).1;omega),cond_false]
     exact⟨_,_,_,_,rfl,fun _=>⟨g1,⟨z'++z,by rw[g3,h2,List.append_assoc]⟩,g2,b,rfl,by omega,h6⟩⟩
 ·rw[show(c != 0)=true from by rw[bne_iff_ne];exact hc,cond_true]
  exact gS hc
theorem XA{c:Int}(h:c≠0):(c==0)=false:=by rw[beq_eq_false_iff_ne];exact h
theorem Ce{rec_:List ab×List Int×ByteArray×Int→Option (List ab×Int×Int×Int)}(hT:T.size≤100000) (ih:∀(b:Nat) (ys:List ab),a≤b→b≤T.size→aO ys=true→yj kn ys→tE T b ys (rec_ (ys,kn,T,(b:Int)))) (ha:a≤T.size) (hp:aO xs=true) (hk:yj kn xs){b:Nat}(hb:a≤b) (hb2:b≤T.size) (e:Int):DF T a xs (c8 N0 rec_ (xs,kn,T,(b:Int),false,e)):=by
 unfold c8
 dsimp only
 rw[cond_false,show((0:Int)==0)=true from rfl,cond_true]
 obtain⟨ys,t,k,c,e1,h⟩:=ih b xs hb hb2 hp hk
 rw[e1,Option.bind_some]
 dsimp only
 by_cases hc:c=0
 ·obtain⟨h1,⟨z,rfl⟩,h3,b',rfl,h5,h6⟩:=h hc
  rw[hc,show((0:Int)==0)=true from rfl,cond_true]
  rcases xw hT h6 44 with⟨w1,w2⟩|⟨k2,c2,w0,w1⟩
  ·rw[w1,Option.bind_some]
   dsimp only
   rw[show((0:Int)==0)=true from rfl,cond_true]
   obtain⟨ys2,t2,k2,c2,e2,h'⟩:=ih (b'+1) _ (by omega) w2 h1 (Ij hk)
   rw[e2,Option.bind_some]
   dsimp only
   by_cases hc2:c2=0
   ·obtain⟨i1,⟨z2,rfl⟩,i3,b2,rfl,i5,i6⟩:=h' hc2
    rw[hc2,show((0:Int)==0)=true from rfl,cond_true]
    rcases xw hT i6 e with⟨u1,u2⟩|⟨k3,c3,u0,u1⟩
    ·rw[u1,Option.bind_some]
     exact⟨_,_,_,_,_,rfl,fun _=>⟨i1,⟨z++z2,by rw[List.append_assoc]⟩,vv h3,i3,_,rfl,by omega,u2⟩⟩
    ·rw[u1,Option.bind_some]
     exact tN u0
   ·rw[XA hc2,cond_false]
    exact tN hc2
  ·rw[w1,Option.bind_some]
   dsimp only
   rw[XA w0,cond_false]
   exact tN w0
 ·rw[XA hc,cond_false]
  exact tN hc
theorem Gq{T:ByteArray}{a b e:Int}{kn:List Int}{xs:List ab}{rec_:List ab×List Int×ByteArray×Int→Option (List ab×Int×Int×Int)}(h:ap N0 (T,a,40)=some (b,0)):c8 N0 rec_ (xs,kn,T,a,true,e)=c8 N0 rec_ (xs,kn,T,b,false,e):=by
 unfold c8
 dsimp only
 rw[h]
 rfl
theorem Gp{T:ByteArray}{a b e c:Int}{kn:List Int}{xs:List ab}{rec_:List ab×List Int×ByteArray×Int→Option (List ab×Int×Int×Int)}(h:ap N0 (T,a,40)=some (b,c)) (hc:c≠0):c8 N0 rec_ (xs,kn,T,a,true,e)=some (xs, -1, -1,b,c):=by
 unfold c8
 dsimp only
 rw[h,cond_true,Option.bind_some]
 dsimp only
 rw[show(c==0)=false from by rw[beq_eq_false_iff_ne];exact hc]
 rfl
theorem DS{rec_:List ab×List Int×ByteArray×Int→Option (List ab×Int×Int×Int)}(hT:T.size≤100000) (ih:∀(b:Nat) (ys:List ab),a≤b→b≤T.size→aO ys=true→yj kn ys→tE T b ys (rec_ (ys,kn,T,(b:Int)))) (ha:a≤T.size) (hp:aO xs=true) (hk:yj kn xs) (o:Bool) (e:Int):DF T a xs (c8 N0 rec_ (xs,kn,T,(a:Int),o,e)):=by
 cases o with
 |false=>exact Ce hT ih ha hp hk (Nat.le_refl _) ha e
 |true =>
  rcases xw hT ha 40 with⟨w1,w2⟩|⟨k,c,w0,w1⟩
  ·have h:=Ce hT ih ha hp hk (Nat.le_succ a) w2 e
   rw[Gq w1]
   exact h
  ·rw[Gp w1 w0]
   exact tN w0
end
theorem Ii{T:ByteArray}{a:Int}(h:ba a T.size=true):∃k l e,jl N0 (T,a)=some (k,l,e):=by
 unfold jl
 dsimp only
 rw[h,cond_true]
 cases(bt T a==40)
 ·cases(bt T a==123)
  ·cases(bt T a==91)
   ·cases(bt T a==35)
    ·cases(bt T a==94)
     ·cases(bt T a==107)
      ·cases(bt T a==42)<;>exact⟨_,_,_,rfl⟩
      ·exact⟨_,_,_,rfl⟩
     ·exact⟨_,_,_,rfl⟩
    ·exact⟨_,_,_,rfl⟩
   ·exact⟨_,_,_,rfl⟩
  ·exact⟨_,_,_,rfl⟩
 ·exact⟨_,_,_,rfl⟩
theorem Jo{T:ByteArray}(hT:T.size≤100000){kn:List Int}:∀(n a:Nat) (xs:List ab) (j:Nat),T.size-a≤n→n<j→a≤T.size→aO xs=true→yj kn xs→tE T a xs (dw N0 j (xs,kn,T,(a:Int)))
 |n,a,xs,0,_,hj,_,_,_=>absurd hj (by omega)
 |n,a,xs,j+1,hn,hj,ha,hp,hk=>by
  show tE T a xs (kD N0 (dw N0 j) (xs,kn,T,(a:Int)))
  unfold kD
  dsimp only
  by_cases hs:a<T.size
  ·obtain⟨n,rfl⟩:∃m,n=m+1:=⟨n-1,by omega⟩
   have ih:∀(b:Nat) (ys:List ab),a+1≤b→b≤T.size→aO ys=true→yj kn ys→tE T b ys (dw N0 j (ys,kn,T,(b:Int))):=fun b ys q1 q2 q3 q4=>Jo hT n b ys j (by omega) (by omega) q2 q3 q4
   obtain⟨kd,l,e,hkd⟩:=Ii (T:=T) (aq hs)
   rw[show decide ((a:Int)≥(T.size:Int))=false from decide_eq_false (by omega),aq hs,cond_false,cond_true,hkd,ak (by omega) (by omega),show((a:Int)+1)=((a+1:Nat):Int)from by omega,Option.bind_some]
   dsimp only
   have hi:=ih (a+1) xs (Nat.le_refl _) hs hp hk
   cases(bt T (a:Int)==(64:Int))with
   |true=>exact NS hT hs hp hk
   |false =>
   rw[cond_false]
   cases(bt T (a:Int)==(110:Int))with
   |true=>exact Lm hT hs hp
   |false =>
   rw[cond_false]
   cases(bt T (a:Int)==(60:Int))with
   |true=>exact D3 hi _
   |false =>
   rw[cond_false]
   cases(bt T (a:Int)==(62:Int))with
   |true=>exact D3 hi _
   |false =>
   rw[cond_false]
   cases(bt T (a:Int)==(33:Int))with
   |true=>exact D3 hi _
   |false =>
   rw[cond_false]
   cases(bt T (a:Int)==(111:Int))with
   |true=>exact Fg (DS hT ih hs hp hk true 41) _
   |false =>
   rw[cond_false]
   cases(bt T (a:Int)==(120:Int))with
   |true=>exact Fg (DS hT ih hs hp hk true 41) _
   |false =>
   rw[cond_false]
   cases decide (kd>0)with
   |true =>
    rw[cond_true,cond_true]
    cases decide (e>0)with
    |true=>exact Ln (DS hT ih hs hp hk _ _) _
    |false=>exact Lo hi _
   |false=>exact gS (c:=3) (by decide)
  ·rw[show decide ((a:Int)≥(T.size:Int))=true from decide_eq_true (by omega),cond_true]
   exact gS (by decide)
theorem Ck {α:Type}{xs:List α}(h:xs.length≤1000000){k:α}:aI (xs.length+[k].length)=true:=by
 unfold aI
 simp
 omega
def In (t:Int):List Int→List Int
 |[]=>[t]
 |v::r=>if v<t then v::In t r else t::v::r
def pQ (v:Int):Bool→List Int→List Int×Bool
 |b,[]=>([],b)
 |true,x::r=>(x::r,true)
 |false,x::r=>if v<x then(v::x::r,true)else(x::(pQ v false r).1,(pQ v false r).2)
theorem D9 (v:Int) (r:List Int):pQ v true r=(r,true):=by cases r<;>rfl
theorem zB (v:Int):∀(r pre out:List Int) (b:Bool) (m:Nat),r.length<m→pre.length+r.length≤1000→out.length+2*r.length≤100000→bi N0 m (pre++r,v,out,b,(pre.length:Int))=some (v,out++(pQ v b r).1,(pQ v b r).2)
 |[],pre,out,b,m,hm,hl,ho=>by
  obtain⟨i,rfl⟩:∃i,m=i+1:=⟨m-1,by omega⟩
  rw[bi]
  dsimp only
  rw[Ka,cond_false]
  cases b<;>simp[pQ]
 |x::r,pre,out,b,m,hm,hl,ho=>by
  obtain⟨i,rfl⟩:∃i,m=i+1:=⟨m-1,by omega⟩
  have hl':pre.length+(r.length+1)≤1000:=hl
  have hm':r.length+1<i+1:=hm
  have w:IntKind.i64.wrap ((pre.length:Int)+1)=((pre++[x]).length:Int):=by rw[ak (by omega) (by omega),rD]
  have ho2:out.length+2*(r.length+1)≤100000:=ho
  have go:∀out' b',out'.length+2*r.length≤100000→bi N0 i (pre++x::r,v,out',b',((pre++[x]).length:Int))=some (v,out'++(pQ v b' r).1,(pQ v b' r).2):=fun out' b' ho'=>by
   rw[F0]
   exact zB v r (pre++[x]) out' b' i (by omega) (by simp;omega) ho'
  rw[bi]
  dsimp only
  rw[J9,cond_true,Ki,Int.toNat_natCast,FL]
  simp only[cond_true,w]
  cases b with
  |true =>
   simp only[Bool.not_true,cond_false,Ck (show out.length≤1000000 by omega),cond_true]
   rw[go _ _ (by simp;omega)]
   simp[pQ,D9]
  |false =>
   simp only[Bool.not_false,cond_true]
   by_cases hx:v<x
   ·simp only[decide_eq_true (show x>v from hx),cond_true,Ck (show out.length≤1000000 by omega),Ck (show(out++[v]).length≤1000000 by simp;omega)]
    rw[go _ _ (by simp;omega),pQ,if_pos hx,D9]
    simp
   ·simp only[decide_eq_false (show ¬x>v from hx),cond_false,cond_true,Ck (show out.length≤1000000 by omega)]
    rw[go _ _ (by simp;omega),pQ,if_neg hx]
    simp
theorem Cs (v:Int):∀{r:List Int},v∉r→(bif (pQ v false r).2 then(pQ v false r).1 else(pQ v false r).1++[v])=In v r
 |[],_=>rfl
 |x::r,h=>by
  rw[pQ,In]
  by_cases hx:v<x
  ·rw[if_pos hx,if_neg (by omega)];rfl
  ·have hne:v≠x:=fun q=>h (q▸List.mem_cons_self ..)
   rw[if_neg hx,if_pos (by omega), ←Cs v (fun q=>h (List.mem_cons_of_mem _ q))]
   dsimp only
   cases(pQ v false r).2<;>rfl
theorem qD (v:Int):∀(r:List Int),(In v r).length=r.length+1
 |[]=>rfl
 |x::r=>by
  rw[In]
  split
  ·rw[List.length_cons,qD v r,List.length_cons]
  ·rfl
theorem Aq{l:List Int}{v:Int}:kr l v=l.contains v:=by
 rw[Bool.eq_iff_iff,List.contains_iff_mem,vw,List.mem_iff_getElem]
 constructor
 ·rintro ⟨j,hj,e⟩
  exact⟨j,hj,by rw[←e];simp[List.getD_eq_getElem?_getD,hj]⟩
 ·rintro ⟨j,hj,e⟩
  exact⟨j,hj,by rw[←e];simp[List.getD_eq_getElem?_getD,hj]⟩
def uZ (kn:List Int) (v:Int):List Int:=bif kn.contains v then kn else In v kn
theorem tP (kn:List Int) (v:Int):(uZ kn v).length≤kn.length+1:=by
 unfold uZ
 cases kn.contains v with
 |true=>exact Nat.le_succ _
 |false=>exact Nat.le_of_eq (qD v kn)
theorem xj{kn:List Int}(hl:kn.length≤900) (v:Int):fh N0 (kn,v)=some (uZ kn v):=by
 unfold uZ fh
 dsimp only
 rw[jg (by omega),Option.bind_some,Aq]
 have hlp:=zB v kn [] [] (kn.contains v) N0 (by have:=n0;omega) (by simp;omega) (by simp;omega)
 have hlp':bi N0 N0 (kn,v,([]:List Int),kn.contains v,(0:Int))=_:=hlp
 rw[hlp',Option.bind_some]
 dsimp only
 cases hc:kn.contains v with
 |true =>
  rw[D9]
  rfl
 |false =>
  have hnm:v∉kn:=fun q=>by rw[List.contains_iff_mem.2 q]at hc;cases hc
  have hi:=Cs v hnm
  have hil:=qD v kn
  rw[cond_false]
  cases hb:(pQ v false kn).2 with
  |true =>
   rw[hb,cond_true]at hi
   rw[←hi];rfl
  |false =>
   rw[hb,cond_false]at hi
   have:(pQ v false kn).1.length≤1000000:=by
    have:=congrArg List.length hi
    simp at this
    omega
   simp only[List.nil_append,Bool.not_false,cond_true,Ck this,hi]
end AM
end Go.Proofs.YtpgigedclifoeaaGreatDoor
