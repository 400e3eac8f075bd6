/- Small laws on whole numbers that wrap, on strings as lists of bytes, and on answers that may be none. No condition. And what follows it: see the remarks. -/
import Derived.Test.YtcflmfpnmjlhdaaGreatDoorRW4
import Derived.Lib.ItoaNum
import Derived.Lib.IndexMore
import Derived.Laws.BitsLemmas
import Derived.Test.YtcflmfpnmjlhdaaGreatDoorRALd
import Derived.Test.YtcflmfpnmjlhdaaGreatDoorRP1
import Derived.Lib.AtoiAllCases
import Derived.Lib.SlicesCompact
namespace Go.Proofs.YtcflmfpnmjlhdaaGreatDoor
namespace AM
open Go
set_option linter.unusedSimpArgs false
set_option linter.unusedVariables false
theorem cD{a b:ByteArray}(h:a.size+b.size≤4611686018427387904):bd a b=true:=decide_eq_true h
theorem MO{s:ByteArray}{i:Nat}(h:i<s.data.toList.length):bt s (i:Int)=((s.data.toList[i]).toNat:Int):=by
 unfold bt
 rw[Int.toNat_natCast,List.getD_eq_getElem?_getD,List.getElem?_eq_getElem h];rfl
end AM
end Go.Proofs.YtcflmfpnmjlhdaaGreatDoor
namespace Go.Proofs.YtcflmfpnmjlhdaaGreatDoor
namespace AM
open Go
set_option linter.unusedVariables false
set_option linter.unusedSimpArgs false
abbrev N0:Nat:=1000000000000000000000000000000
theorem ao{n:Int}(h1:-9223372036854775808≤n) (h2:n≤9223372036854775807):IntKind.i64.wrap n=n:=by
 rw[IntKind.wrap_i64];omega
theorem o5 {α:Type}{l:List α}{i:Nat}(h:i<l.length) (d:α):l.getD i d=l[i]:=by
 rw[List.getD_eq_getElem?_getD,List.getElem?_eq_getElem h];rfl
theorem ax{i n:Nat}(h:i<n):ah (i:Int) n=true:=by
 unfold ah
 exact decide_eq_true ⟨Int.natCast_nonneg _,by omega⟩
theorem bE{i n:Nat}(hi:i<n) (hn:n≤4294967296):IntKind.i64.wrap ((i:Int)+(1:Int))=((i+1:Nat):Int):=by
 rw[ao (by omega) (by omega)];omega
theorem ol:∀(t:Ty),t.hasSl=false→∀x:t.den,t.eqv x x=true
 | .int _,_,x=>by simp[Ty.eqv]
 | .bool,_,x=>by simp[Ty.eqv]
 | .str,_,x=>decide_eq_true rfl
 | .sl _,h,_=>by cases h
 | .pr a b,h,x=>by
  have h:(a.hasSl || b.hasSl)=false:=h
  rw[Bool.or_eq_false_iff]at h
  show(a.eqv x.1 x.1&&b.eqv x.2 x.2)=true
  rw[ol a h.1,ol b h.2];rfl
theorem wY{kt:Ty}{k:kt.den}{m:List (kt.den×Int)}{j:Nat}{v:Int}(h:bR kt k m 0=some (j,v)):j<m.length:=by
 obtain⟨_,h2⟩:=lj h
 exact(List.getElem?_eq_some_iff.1 h2).1
theorem z9 {α:Type}{y:Int}{k:α}{c:Int}:∀{m:List (α×Int)}{j:Nat},j<m.length→tl y (m.set j (k,c)) j=m.set j (k,y)
 |[],_,h=>by simp at h
 |p::r,0,_=>rfl
 |p::r,j+1,h=>by
  show p::tl y (r.set j (k,c)) j=p::r.set j (k,y)
  rw[z9 (by simpa using h)]
theorem wU {α:Type}{y:Int}{k:α}{c:Int}:∀{m:List (α×Int)},tl y (m++[(k,c)]) m.length=m++[(k,y)]
 |[]=>rfl
 |p::r=>by
  show p::tl y (r++[(k,c)]) r.length=p::(r++[(k,y)])
  rw[wU]
theorem D2{kt:Ty}{k:kt.den}{c y:Int}{m:List (kt.den×Int)}:D3 (pU kt k m) y (kQ kt k c m)=kQ kt k y m:=by
 unfold D3 pU kQ
 cases h:bR kt k m 0 with
 |some p =>
  obtain⟨j,v⟩:=p
  dsimp only
  rw[Int.toNat_natCast]
  exact z9 (wY h)
 |none =>
  dsimp only
  rw[Int.toNat_natCast]
  exact wU
theorem Ix{kt:Ty}{k:kt.den}{c:Int}{m:List (kt.den×Int)}:ah (pU kt k m) (kQ kt k c m).length=true:=by
 unfold pU kQ
 cases h:bR kt k m 0 with
 |some p =>
  obtain⟨j,v⟩:=p
  dsimp only
  rw[List.length_set]
  exact ax (wY h)
 |none =>
  dsimp only
  rw[List.length_append]
  exact ax (by simp)
theorem qN{kt:Ty}{k k':kt.den}{x:Int}(hne:kt.eqv k' k=false):∀{m:List (kt.den×Int)}{i j:Nat}{v:Int},bR kt k m i=some (j,v)→bR kt k' (m.set (j-i) (k,x)) i=bR kt k' m i
 |[],_,_,_,h=>by cases h
 |p::r,i,j,v,h=>by
  unfold bR at h
  cases q:kt.eqv k p.1 with
  |true =>
   rw[q]at h
   obtain⟨rfl,rfl⟩:=Prod.mk.inj (Option.some.inj h)
   rw[Nat.sub_self,List.set_cons_zero]
   have:=vg kt q
   unfold bR
   rw[hne, ←this,hne]
   rfl
  |false =>
   rw[q]at h
   have h:bR kt k r (i+1)=some (j,v):=h
   obtain⟨h1,_⟩:=lj h
   rw[show j-i=(j-(i+1))+1 by omega,List.set_cons_succ]
   unfold bR
   rw[qN hne h]
theorem pD{kt:Ty}{k k':kt.den}{x:Int}(hne:kt.eqv k' k=false):∀{m:List (kt.den×Int)}{i:Nat},bR kt k' (m++[(k,x)]) i=bR kt k' m i
 |[],i=>by
  show bR kt k' [(k,x)] i=_
  unfold bR
  rw[hne];rfl
 |p::r,i=>by
  show bR kt k' (p::(r++[(k,x)])) i=_
  unfold bR
  rw[pD hne]
theorem yk{kt:Ty}{k k':kt.den}{x:Int}{m:List (kt.den×Int)}(hne:kt.eqv k' k=false):fH kt k' (kQ kt k x m)=fH kt k' m:=by
 unfold fH kQ
 cases h:bR kt k m 0 with
 |some p =>
  obtain⟨j,v⟩:=p
  have:=qN (x:=x) hne h
  rw[Nat.sub_zero]at this
  simp only[this]
 |none=>simp only[pD hne]
abbrev ae:=Int×(Int×Int)
abbrev kN:Ty := .pr (.int .i64) (.pr (.int .i64) (.int .i64))
theorem iv (n:Nat) (a b c:Int):aE n (a,b,c)=some (decide (a≥b)&&decide (a≤c)):=by
 unfold aE
 cases decide (a≥b)<;>rfl
theorem F8 (n:Nat) (a b c:Int):cq n (a,b,c)=some (decide (a≥b)&&decide (a≤c)):=iv n a b c
theorem vo (n:Nat) (x:Int):∃v,aH n x=some v:=by
 unfold aH
 simp only[cond_eq_ite]
 repeat' split
 all_goals exact⟨_,rfl⟩
theorem zX (n:Nat) (x:Int×Int×Int×Int):∃v,aQ n x=some v:=by
 unfold aQ
 obtain⟨v,hv⟩:=vo n x.1
 rw[hv]
 simp only[Option.bind_some,iv,cond_eq_ite]
 repeat' split
 all_goals exact⟨_,rfl⟩
def dm (n:Nat) (x:Int×Int×Int×Int):Bool:=(aQ n x).getD false
theorem rT (n:Nat) (x):aQ n x=some (dm n x):=by
 obtain⟨v,hv⟩:=zX n x
 unfold dm
 rw[hv];rfl
theorem zp (n:Nat) (x):dL n x=some (dm n x):=rT n x
def cE (n:Nat) (pre:List ae):List ae→Bool
 |[]=>true
 |k::r=>(!pre.contains k&&dm n (k.1,k.2.1,k.2.2,(pre.length:Int)))&&cE n (pre++[k]) r
theorem xv (n:Nat){pre r:List ae}{k:ae}(hx:(pre++k::r).length≤4294967296):∀(m j:Nat),j≤pre.length→pre.length<m+j →
  ∃q:Nat,bF n m (pre++k::r,k.1,k.2.1,k.2.2,(j:Int))=some (Sum.inl (q:Int))∧q≤pre.length∧(q=pre.length↔k∉pre.drop j)
 |0,j,h1,h2=>by omega
 |m+1,j,h1,h2=>by
  have hlt:j<(pre++k::r).length:=by simp;omega
  have e0:bF n (m+1) (pre++k::r,k.1,k.2.1,k.2.2,(j:Int))=(cond (decide ((j:Int)<((pre++k::r).length:Int))) (cond (ah (j:Int) (pre++k::r).length) (cond (((pre++k::r).getD ((j:Int)).toNat ((0:Int),((0:Int),(0:Int)))).1==k.1&&(((pre++k::r).getD ((j:Int)).toNat ((0:Int),((0:Int),(0:Int)))).2.1==k.2.1&&(((pre++k::r).getD ((j:Int)).toNat ((0:Int),((0:Int),(0:Int)))).2.2==k.2.2&&true))) (some (Sum.inl (j:Int))) (bF n m (pre++k::r,k.1,k.2.1,k.2.2,IntKind.i64.wrap ((j:Int)+(1:Int))))) none) (some (Sum.inr ()))):=rfl
  rw[e0,decide_eq_true (by omega:(j:Int)<((pre++k::r).length:Int)),cond_true,ax hlt,cond_true,Int.toNat_natCast,o5 hlt]
  have heq:∀p:ae,(p.1==k.1&&(p.2.1==k.2.1&&(p.2.2==k.2.2&&true)))=decide (p=k):=by
   intro p
   obtain⟨p1,p2,p3⟩:=p
   obtain⟨k1,k2,k3⟩:=k
   rw[Bool.eq_iff_iff]
   simp
  rw[heq]
  rcases Nat.lt_or_ge j pre.length with q|q
  ·have hg:(pre++k::r)[j]=pre[j]:=List.getElem_append_left q
   rw[hg]
   have hd:pre.drop j=pre[j]::pre.drop (j+1):=List.drop_eq_getElem_cons q
   by_cases hk:pre[j]=k
   ·rw[decide_eq_true hk,cond_true]
    exact⟨j,rfl,by omega,by rw[hd,hk];simp;omega⟩
   ·rw[decide_eq_false hk,cond_false,bE hlt hx]
    obtain⟨z,g1,g2,g3⟩:=xv n hx m (j+1) q (by omega)
    refine⟨z,g1,g2,g3.trans ?_⟩
    rw[hd,List.mem_cons]
    constructor
    ·intro h h2
     rcases h2 with h2|h2
     ·exact hk h2.symm
     ·exact h h2
    ·exact fun h h2=>h (.inr h2)
  ·have hj:j=pre.length:=by omega
   subst hj
   rw[show(pre++k::r)[pre.length]=k by simp,decide_eq_true rfl,cond_true]
   exact⟨pre.length,rfl,Nat.le_refl _,by simp⟩
theorem IK (n:Nat) (hn:4294967296<n){pre r:List ae}{k:ae}(hx:(pre++k::r).length≤4294967296):∃q:Int,bQ n (pre++k::r,k.1,k.2.1,k.2.2)=some q∧(q != (pre.length:Int))=pre.contains k:=by
  have hlen : pre.length < n := by have : pre.length ≤ (pre ++ k :: r).length := by simp
                                   omega
  obtain⟨z,g1,g2,g3⟩:=xv n hx n 0 (Nat.zero_le _) (by omega)
  refine⟨(z:Int),?_,?_⟩
  · show((bF n n (pre++k::r,k.1,k.2.1,k.2.2,((0:Nat):Int))).bind _)=_
    rw[g1];rfl
  · rw[List.drop_zero]at g3
    rw[Bool.eq_iff_iff]
    simp only[bne_iff_ne,ne_eq,List.contains_iff_mem]
    constructor
    · intro h
      exact Classical.byContradiction fun h2=>h (by rw[g3.2 h2])
    · intro h h2
      exact(g3.1 (by omega)) h
theorem px (n:Nat) (hn:4294967296<n):∀(m:Nat) (pre r:List ae),(pre++r).length≤4294967296→r.length<m→cQ n m (pre++r,(pre.length:Int))=some (bif cE n pre r then Sum.inr ()else Sum.inl false)
 |0,pre,r,hx,hm=>by omega
 |m+1,pre,[],hx,hm=>by
  show(cond (decide ((pre.length:Int)<((pre++[]).length:Int))) _ _)=_
  rw[decide_eq_false (by simp),cond_false];rfl
 |m+1,pre,k::r,hx,hm=>by
  have hlt:pre.length<(pre++k::r).length:=by simp
  have e0:cQ n (m+1) (pre++k::r,(pre.length:Int))=(cond (decide ((pre.length:Int)<((pre++k::r).length:Int))) (cond (ah (pre.length:Int) (pre++k::r).length) ((dL n (((pre++k::r).getD ((pre.length:Int)).toNat ((0:Int),((0:Int),(0:Int)))).1,((pre++k::r).getD ((pre.length:Int)).toNat ((0:Int),((0:Int),(0:Int)))).2.1,((pre++k::r).getD ((pre.length:Int)).toNat ((0:Int),((0:Int),(0:Int)))).2.2,(pre.length:Int))).bind fun r1=>(cond (!r1) (some (Sum.inl false)) (cond (ah (pre.length:Int) (pre++k::r).length) ((bQ n (pre++k::r,((pre++k::r).getD ((pre.length:Int)).toNat ((0:Int),((0:Int),(0:Int)))).1,((pre++k::r).getD ((pre.length:Int)).toNat ((0:Int),((0:Int),(0:Int)))).2.1,((pre++k::r).getD ((pre.length:Int)).toNat ((0:Int),((0:Int),(0:Int)))).2.2)).bind fun r2=>(cond (r2 != (pre.length:Int)) (some (Sum.inl false)) (cQ n m (pre++k::r,IntKind.i64.wrap ((pre.length:Int)+(1:Int)))))) none))) none) (some (Sum.inr ()))):=rfl
  obtain⟨q,g1,g2⟩:=IK n hn (pre:=pre) (r:=r) (k:=k) hx
  rw[e0,decide_eq_true (by omega:(pre.length:Int)<((pre++k::r).length:Int)),cond_true,ax hlt,cond_true,Int.toNat_natCast,o5 hlt,show(pre++k::r)[pre.length]=k by simp,zp,g1]
  simp only[Option.bind_some,cond_true]
  rw[g2,bE hlt hx]
  have ih:=px n hn m (pre++[k]) r (by simpa using hx) (by simp at hm;omega)
  rw[show pre++[k]++r=pre++k::r by simp,show(pre++[k]).length=pre.length+1 by simp]at ih
  rw[ih]
  rw[show cE n pre (k::r)=((!pre.contains k&&dm n (k.1,k.2.1,k.2.2,(pre.length:Int)))&&cE n (pre++[k]) r)from rfl]
  cases dm n (k.1,k.2.1,k.2.2,(pre.length:Int))<;>cases pre.contains k<;>cases cE n (pre++[k]) r<;>rfl
theorem nP (n:Nat) (hn:4294967296<n){xs:List ae}(hx:xs.length≤4294967296):dS n xs=some (decide (xs.length≤500)&&cE n [] xs):=by
 unfold dS
 by_cases q:xs.length≤500
 ·rw[decide_eq_false (by omega:¬(xs.length:Int)>(500:Int)),cond_false,decide_eq_true q,Bool.true_and]
  have:=px n hn n [] xs (by simpa using hx) (by omega)
  rw[List.nil_append,show(([]:List ae).length:Int)=(0:Int)from rfl]at this
  rw[this]
  cases cE n [] xs<;>rfl
 ·rw[decide_eq_true (by omega:(xs.length:Int)>(500:Int)),cond_true,decide_eq_false q];rfl
def US (kvs:List (ae×Int)) (pre:List ae):Prop:=∀k:ae,fH kN k kvs=if k∈pre then 1 else 0
theorem Mi{a b:ae}:kN.eqv a b=decide (a=b):=by
 rw[Bool.eq_iff_iff,decide_eq_true_iff]
 exact⟨vg kN,fun h=>h▸ol kN rfl a⟩
theorem DK (n:Nat) (kvs:List (ae×Int)) (i a b c:Int) (xs:List ae) (l j:Int):aL n (kvs,i,a,b,c,xs,l,j)=some (kQ kN (a,b,c) (IntKind.i64.wrap (fH kN (a,b,c) kvs+(1:Int))) kvs,i,a,b,c,xs,l,j):=by
 unfold aL
 dsimp only
 rw[Ix,cond_true,D2]
theorem pH (n:Nat){xs:List ae}(hx:xs.length≤4294967296):∀(m:Nat) (pre r:List ae) (kvs:List (ae×Int)),xs=pre++r→US kvs pre→r.length<m→cT n m (kvs,xs,(xs.length:Int),(pre.length:Int))=some (bif cE n pre r then Sum.inr ()else Sum.inl false)
 |0,pre,r,kvs,he,hc,hm=>by omega
 |m+1,pre,[],kvs,he,hc,hm=>by
  show(cond (decide ((pre.length:Int)<(xs.length:Int))) _ _)=_
  rw[decide_eq_false (by rw[he];simp),cond_false];rfl
 |m+1,pre,k::r,kvs,he,hc,hm=>by
  have hlt:pre.length<xs.length:=by rw[he];simp
  have hk:xs[pre.length]=k:=by simp[he]
  have e0:cT n (m+1) (kvs,xs,(xs.length:Int),(pre.length:Int))=(cond (decide ((pre.length:Int)<(xs.length:Int))) (cond (ah (pre.length:Int) xs.length) ((aL n (kvs,(pre.length:Int),(xs.getD ((pre.length:Int)).toNat ((0:Int),((0:Int),(0:Int)))).1,(xs.getD ((pre.length:Int)).toNat ((0:Int),((0:Int),(0:Int)))).2.1,(xs.getD ((pre.length:Int)).toNat ((0:Int),((0:Int),(0:Int)))).2.2,xs,(xs.length:Int),(pre.length:Int))).bind fun g1=>(cond (decide ((fH kN (g1.2.2.1,(g1.2.2.2.1,g1.2.2.2.2.1)) g1.1)>(1:Int))) (some (Sum.inl false)) ((aQ n (g1.2.2.1,g1.2.2.2.1,g1.2.2.2.2.1,g1.2.1)).bind fun r2=>(cond (!r2) (some (Sum.inl false)) (cT n m (g1.1,g1.2.2.2.2.2.1,g1.2.2.2.2.2.2.1,(IntKind.i64.wrap (g1.2.2.2.2.2.2.2+(1:Int))))))))) none) (some (Sum.inr ()))):=rfl
  rw[e0,decide_eq_true (by omega:(pre.length:Int)<(xs.length:Int)),cond_true,ax hlt,cond_true,Int.toNat_natCast,o5 hlt,hk,DK]
  simp only[Option.bind_some]
  have hself:kN.eqv (k.1,k.2.1,k.2.2) (k.1,k.2.1,k.2.2)=true:=ol kN rfl _
  have hke:((k.1,k.2.1,k.2.2):ae)=k:=rfl
  rw[rW hself,rT,bE hlt hx]
  rw[show cE n pre (k::r)=((!pre.contains k&&dm n (k.1,k.2.1,k.2.2,(pre.length:Int)))&&cE n (pre++[k]) r)from rfl]
  have hck:=hc k
  by_cases hin:k∈pre
  ·rw[if_pos hin]at hck
   have:pre.contains k=true:=by simpa using hin
   rw[this,show fH kN (k.1,k.2.1,k.2.2) kvs=1 from hck]
   rfl
  ·rw[if_neg hin]at hck
   have hcf:pre.contains k=false:=by simpa using hin
   rw[hcf,show fH kN (k.1,k.2.1,k.2.2) kvs=0 from hck]
   rw[show decide (IntKind.i64.wrap ((0:Int)+(1:Int))>(1:Int))=false from rfl,cond_false]
   have ih:=pH n hx m (pre++[k]) r (kQ kN k (IntKind.i64.wrap ((0:Int)+(1:Int))) kvs) (by simpa using he) (by
    intro k'
    by_cases q:k'=k
    ·subst q
     rw[rW (ol kN rfl k')]
     simp;rfl
    ·rw[yk (by rw[Mi];exact decide_eq_false q),hc k']
     simp[q]) (by simp at hm;omega)
   rw[show(pre++[k]).length=pre.length+1 by simp]at ih
   simp only[Option.bind_some]
   rw[show kQ kN (k.1,k.2.1,k.2.2) (IntKind.i64.wrap ((0:Int)+(1:Int))) kvs=kQ kN k (IntKind.i64.wrap ((0:Int)+(1:Int))) kvs from rfl,ih]
   cases dm n (k.1,k.2.1,k.2.2,(pre.length:Int))<;>cases cE n (pre++[k]) r<;>rfl
theorem lR (n:Nat) (hn:4294967296<n){xs:List ae}(hx:xs.length≤4294967296):dU n xs=some (decide (xs.length≤500)&&cE n [] xs):=by
 unfold dU
 by_cases q:xs.length≤500
 ·rw[decide_eq_false (by omega:¬(xs.length:Int)>(500:Int)),cond_false,decide_eq_true q,Bool.true_and]
  have:=pH n hx n [] xs [] rfl (fun k=>by simp[fH,bR]) (by omega)
  rw[show(([]:List ae).length:Int)=(0:Int)from rfl]at this
  rw[this]
  cases cE n [] xs<;>rfl
 ·rw[decide_eq_true (by omega:(xs.length:Int)>(500:Int)),cond_true,decide_eq_false q];rfl
def cU (xs:List ae) (v:Int):Bool:=decide (v≥0)&&decide (v≤(xs.length:Int)-1)
theorem uZ (n:Nat){xs:List ae}(hx:xs.length≤4294967296) (v:Int):gg n (xs,v)=some (cU xs v):=by
 show((cq n (v,(0:Int),IntKind.i64.wrap ((xs.length:Int)-(1:Int)))).bind fun r1=>some r1)=_
 rw[ao (by omega) (by omega),F8];rfl
theorem oX (n:Nat){xs:List ae}(hx:xs.length≤4294967296) (v:Int):dX n (xs,v)=some (xs,cU xs v):=by
 show((aE n (v,(0:Int),IntKind.i64.wrap ((xs.length:Int)-(1:Int)))).bind fun r1=>some (xs,r1))=_
 rw[ao (by omega) (by omega),iv];rfl
theorem n0:4294967296<N0:=by decide
def qo (g:Nat→Bool):Nat→Nat→Bool
 |_,0=>true
 |i,k+1=>g i&&qo g (i+1) k
theorem oA{g:Nat→Bool}:∀{k i:Nat},qo g i k=true↔∀j,i≤j→j<i+k→g j=true
 |0,i=>⟨fun _ j h1 h2=>by omega,fun _=>rfl⟩
 |k+1,i=>by
  show(g i&&qo g (i+1) k)=true↔_
  rw[Bool.and_eq_true,oA]
  constructor
  ·rintro ⟨h1,h2⟩ j g1 g2
   rcases Nat.eq_or_lt_of_le g1 with q|q
   ·subst q;exact h1
   ·exact h2 j q (by omega)
  ·exact fun h=>⟨h i (Nat.le_refl _) (by omega),fun j g1 g2=>h j (by omega) (by omega)⟩
def places (d:Nat→Bool) (n:Nat):List Nat:=(List.range n).filter d
abbrev tF:=Int×(Int×(Int×(Int×(Int×((List Int)×(Bool×(Bool×Int)))))))
abbrev sY:=Int×(Bool×Bool)
abbrev zI:tF:=((0:Int),((0:Int),((0:Int),((0:Int),((0:Int),([],(false,(false,(0:Int)))))))))
theorem oG{X A B:Type}(L:Nat→X→Option (A⊕B)) (st:Nat→X) (g:Nat→Bool) (bad:A) (fin:B) (len:Nat)
  (step:∀m i,i<len→L (m+1) (st i)=bif g i then L m (st (i+1))else some (.inl bad)) (stop:∀m,L (m+1) (st len)=some (.inr fin)) :
  ∀m i,i≤len→len<m+i→L m (st i)=some (bif qo g i (len-i)then .inr fin else .inl bad)
 |0,i,h1,h2=>by omega
 |m+1,i,h1,h2=>by
  rcases Nat.eq_or_lt_of_le h1 with q|q
  ·subst q
   rw[stop,Nat.sub_self];rfl
  ·rw[step m i q,show len-i=(len-(i+1))+1 by omega]
   show(bif g i then _ else _)=some (bif g i&&qo g (i+1) (len-(i+1))then _ else _)
   cases g i with
   |false=>rfl
   |true=>exact oG L st g bad fin len step stop m (i+1) q (by omega)
theorem wD{i:Nat}(h:0<i) (hi:i≤4294967296):IntKind.i64.wrap ((i:Int)-(1:Int))=((i-1:Nat):Int):=by
 rw[ao (by omega) (by omega)];omega
theorem F0 (i n:Nat):decide ((i:Int)<(n:Int))=decide (i<n):=by
 rw[Bool.eq_iff_iff];simp
theorem pd{i n:Nat}(h:i<n):decide ((i:Int)<(n:Int))=true:=decide_eq_true (by omega)
theorem F1 (n:Nat):decide ((n:Int)<(n:Int))=false:=decide_eq_false (by omega)
def xD (l:List Int) (j:Nat):Bool:=decide (j=0) || decide (l.getD (j-1) 0<l.getD j 0)
def fu (xs:List ae) (k:List Int) (j:Nat):Bool:=cU xs (k.getD j 0)&&xD k j
theorem Jr{i:Nat}(h:0<i):decide ((i:Int)>(0:Int))=true:=decide_eq_true (by omega)
theorem Eb (a b:Int):decide (a≤b) = !decide (b<a):=by
 rw[Bool.eq_iff_iff];simp
theorem Ek (a b:Int):decide (a≥b) = !decide (a<b):=by
 rw[Bool.eq_iff_iff];simp
theorem v7{xs:List ae}(hx:xs.length≤4294967296){k:List Int}(hk:k.length≤4294967296) (m i:Nat) (hi:i<k.length) :
  bv N0 (m+1) (k,xs,k,(k.length:Int),(i:Int))=bif fu xs k i then bv N0 m (k,xs,k,(k.length:Int),((i+1:Nat):Int))else some (.inl false):=by
 rw[bv]
 dsimp only
 rw[pd hi,cond_true,ax hi,cond_true,oX N0 hx]
 simp only[Option.bind_some,Int.toNat_natCast,bE hi hk]
 unfold fu xD
 cases cU xs (k.getD i 0)with
 |false=>rfl
 |true =>
  rcases Nat.eq_zero_or_pos i with q|q
  ·subst q;rfl
  ·rw[Jr q,cond_true,wD q (by omega),ax (by omega),cond_true,Int.toNat_natCast,Eb,decide_eq_false (by omega:¬i=0)]
   cases decide (k.getD (i-1) 0<k.getD i 0)<;>rfl
theorem tn{xs:List ae}(hx:xs.length≤4294967296){k:List Int}(hk:k.length≤4294967296) :
  gy N0 (xs,k)=some (qo (fu xs k) 0 k.length&&(decide (k.length≤200)&&(decide (xs.length≤500)&&cE N0 [] xs))):=by
 have:=oG (bv N0) (fun i=>(k,xs,k,(k.length:Int),(i:Int))) (fu xs k) false (k,xs) k.length (v7 hx hk) (fun m=>by
  rw[bv];dsimp only;rw[F1];rfl) N0 0 (Nat.zero_le _) (by have:=n0;omega)
 rw[Nat.sub_zero]at this
 show((bv N0 N0 (k,xs,k,(k.length:Int),(0:Int))).bind _)=_
 rw[show bv N0 N0 (k,xs,k,(k.length:Int),(0:Int))=_ from this]
 cases qo (fu xs k) 0 k.length with
 |false=>rfl
 |true =>
  show(cond (decide ((k.length:Int)≤(200:Int))) ((dU N0 xs).bind fun r5=>some r5) (some false))=_
  rw[lR N0 n0 hx]
  by_cases q:k.length≤200
  ·rw[decide_eq_true (by omega:(k.length:Int)≤(200:Int)),decide_eq_true q];rfl
  ·rw[decide_eq_false (by omega:¬(k.length:Int)≤(200:Int)),decide_eq_false q];rfl
theorem vS{xs:List ae}(hx:xs.length≤4294967296){k:List Int}(hk:k.length≤4294967296) (m i:Nat) (hi:i<k.length) :
  bp N0 (m+1) (k,xs,(i:Int))=bif fu xs k i then bp N0 m (k,xs,((i+1:Nat):Int))else some (.inl false):=by
 rw[bp]
 dsimp only
 rw[pd hi,cond_true,ax hi,cond_true,uZ N0 hx]
 simp only[Option.bind_some,Int.toNat_natCast,bE hi hk]
 unfold fu xD
 cases cU xs (k.getD i 0)with
 |false=>rfl
 |true =>
  rcases Nat.eq_zero_or_pos i with q|q
  ·subst q;rfl
  ·rw[Jr q,cond_true,wD q (by omega),ax (by omega),cond_true,Int.toNat_natCast,Ek,decide_eq_false (by omega:¬i=0)]
   cases decide (k.getD (i-1) 0<k.getD i 0)<;>rfl
theorem j6{xs:List ae}(hx:xs.length≤4294967296){k:List Int}(hk:k.length≤4294967296) :
  cm N0 (xs,k)=some (qo (fu xs k) 0 k.length&&(decide (k.length≤200)&&(decide (xs.length≤500)&&cE N0 [] xs))):=by
 have:=oG (bp N0) (fun i=>(k,xs,(i:Int))) (fu xs k) false () k.length (vS hx hk) (fun m=>by
  rw[bp];dsimp only;rw[F1];rfl) N0 0 (Nat.zero_le _) (by have:=n0;omega)
 rw[Nat.sub_zero]at this
 have e:jZ N0 (xs,k)=some (decide (k.length≤200)&&qo (fu xs k) 0 k.length):=by
  show(cond (decide ((k.length:Int)>(200:Int))) (some false) ((bp N0 N0 (k,xs,(0:Int))).bind _))=_
  rw[show bp N0 N0 (k,xs,(0:Int))=_ from this]
  by_cases q:k.length≤200
  ·rw[decide_eq_false (by omega:¬(k.length:Int)>(200:Int)),decide_eq_true q]
   cases qo (fu xs k) 0 k.length<;>rfl
  ·rw[decide_eq_true (by omega:(k.length:Int)>(200:Int)),decide_eq_false q];rfl
 show((dS N0 xs).bind fun r1=>(cond r1 ((jZ N0 (xs,k)).bind fun r2=>(some r2)) (some false)))=_
 rw[nP N0 n0 hx,e]
 generalize (decide (xs.length≤500)&&cE N0 [] xs)=P
 generalize qo (fu xs k) 0 k.length=Q
 generalize decide (k.length≤200)=R
 cases P<;>cases Q<;>cases R<;>rfl
def jl (l:List Int) (v:Int):Bool := !qo (fun j => !(l.getD j 0==v)) 0 l.length
theorem ll{k:List Int}(hk:k.length≤4294967296) (v:Int):aP N0 (k,v)=some (jl k v):=by
 have:=oG (bO N0) (fun i=>(k,v,(i:Int))) (fun j => !(k.getD j 0==v)) true () k.length (fun m i hi=>by
  rw[bO];dsimp only
  rw[pd hi,cond_true,ax hi,cond_true,Int.toNat_natCast,bE hi hk]
  cases(k.getD i 0==v)<;>rfl) (fun m=>by
  rw[bO];dsimp only;rw[F1];rfl) N0 0 (Nat.zero_le _) (by have:=n0;omega)
 rw[Nat.sub_zero]at this
 show((bO N0 N0 (k,v,(0:Int))).bind _)=_
 rw[show bO N0 N0 (k,v,(0:Int))=_ from this]
 unfold jl
 cases qo (fun j => !(k.getD j 0==v)) 0 k.length<;>rfl
theorem Ej{l:List Int}{v:Int}:jl l v=true↔∃j,j<l.length∧l.getD j 0=v:=by
 unfold jl
 rw[Bool.not_eq_true',Bool.eq_false_iff,ne_eq,oA]
 constructor
 ·intro h
  refine Classical.byContradiction fun h2=>h fun j _ hj=>?_
  have:¬l.getD j 0=v:=fun e=>h2 ⟨j,by omega,e⟩
  simpa using this
 ·rintro ⟨j,h1,h2⟩ h
  have:=h j (Nat.zero_le _) (by omega)
  rw[h2]at this
  simp at this
abbrev QR (x:tF):List Int:=x.2.2.2.2.2.1
structure Small (xs:List ae) (kn:List Int) (li:List tF) (gv sh:List Int) (lg:List sY):Prop where
 fx:xs.length≤4294967296
 fk:kn.length≤4294967296
 fl:li.length≤4294967296
 fg:gv.length≤4294967296
 fs:sh.length≤4294967296
 fo:lg.length≤4294967296
 fe:∀i,i<li.length→(QR (li.getD i zI)).length≤4294967296
def aw (xs:List ae):Bool:=decide (xs.length≤500)&&cE N0 [] xs
section
variable{xs:List ae}{kn:List Int}{li:List tF}{fr:Int}{gv sh:List Int}{lg:List sY}
end
section
variable{xs:List ae}{kn:List Int}{li:List tF}{fr:Int}{gv sh:List Int}{lg:List sY}
end
section
variable{xs:List ae}{kn:List Int}{li:List tF}{fr:Int}{gv sh:List Int}{lg:List sY}
end
section
variable{xs:List ae}{kn:List Int}{li:List tF}{fr:Int}{gv sh:List Int}{lg:List sY}{k:Int}
end
abbrev aM:ae:=((0:Int),((0:Int),(0:Int)))
def pf (xs:List ae) (k:ae):Nat→Nat→Option Nat
 |_,0=>none
 |i,m+1=>if xs.getD i aM=k then some i else pf xs k (i+1) m
abbrev gZ (xs:List ae) (k:ae):Option Nat:=pf xs k 0 xs.length
theorem mR{xs:List ae}{k:ae}:∀{m i j:Nat},pf xs k i m=some j→i≤j∧j<i+m∧xs.getD j aM=k
 |0,_,_,h=>by cases h
 |m+1,i,j,h=>by
  unfold pf at h
  by_cases hk:xs.getD i aM=k
  ·rw[if_pos hk]at h
   obtain rfl:=Option.some.inj h
   exact⟨Nat.le_refl _,by omega,hk⟩
  ·rw[if_neg hk]at h
   obtain⟨h1,h2,h3⟩:=mR h
   exact⟨by omega,by omega,h3⟩
theorem yc{xs:List ae}{k:ae}:∀{m i:Nat},pf xs k i m=none→∀q,i≤q→q<i+m→xs.getD q aM≠k
 |0,i,_,q,h1,h2=>by omega
 |m+1,i,h,q,h1,h2=>by
  unfold pf at h
  by_cases hk:xs.getD i aM=k
  ·rw[if_pos hk]at h;cases h
  ·rw[if_neg hk]at h
   rcases Nat.eq_or_lt_of_le h1 with e|e
   ·subst e;exact hk
   ·exact yc h q e (by omega)
theorem zV (p k:ae):(p.1==k.1&&(p.2.1==k.2.1&&(p.2.2==k.2.2&&true)))=decide (p=k):=by
 obtain⟨p1,p2,p3⟩:=p
 obtain⟨k1,k2,k3⟩:=k
 rw[Bool.eq_iff_iff]
 simp
theorem D1 (p k:ae):(k.1==p.1&&(k.2.1==p.2.1&&(k.2.2==p.2.2&&true)))=decide (p=k):=by
 rw[zV k p,Bool.eq_iff_iff]
 simp[eq_comm]
theorem Cz{xs:List ae}{k:ae}{i:Nat}(h:i<xs.length):pf xs k i (xs.length-i)=if xs.getD i aM=k then some i else pf xs k (i+1) (xs.length-(i+1)):=by
 have e:xs.length-i=(xs.length-(i+1))+1:=by omega
 rw[e];rfl
theorem Fz{xs:List ae}{k:ae}{i:Nat}(h:xs.length≤i):pf xs k i (xs.length-i)=none:=by
 have e:xs.length-i=0:=by omega
 rw[e];rfl
theorem uX (n:Nat){xs:List ae}(hx:xs.length≤4294967296) (k:ae):∀(m i:Nat),i≤xs.length→xs.length<m+i→ay n m (xs,k.1,k.2.1,k.2.2,(xs.length:Int),(i:Int)) =
  some (match pf xs k i (xs.length-i)with|some j=>Sum.inl (j:Int)|none=>Sum.inr ())
 |0,i,h1,h2=>by omega
 |m+1,i,h1,h2=>by
  have e0:ay n (m+1) (xs,k.1,k.2.1,k.2.2,(xs.length:Int),(i:Int))=(cond (decide ((i:Int)<(xs.length:Int))) (cond (ah (i:Int) xs.length) (cond (k.1==(xs.getD ((i:Int)).toNat aM).1&&(k.2.1==(xs.getD ((i:Int)).toNat aM).2.1&&(k.2.2==(xs.getD ((i:Int)).toNat aM).2.2&&true))) (some (Sum.inl (i:Int))) (ay n m (xs,k.1,k.2.1,k.2.2,(xs.length:Int),IntKind.i64.wrap ((i:Int)+(1:Int))))) none) (some (Sum.inr ()))):=rfl
  rw[e0,F0]
  by_cases hlt:i<xs.length
  ·rw[decide_eq_true hlt,cond_true,ax hlt,cond_true,Int.toNat_natCast,bE hlt hx,D1,Cz hlt]
   by_cases hk:xs.getD i aM=k
   ·rw[decide_eq_true hk,cond_true,if_pos hk]
   ·rw[decide_eq_false hk,cond_false,if_neg hk,uX n hx k m (i+1) hlt (by omega)]
  ·rw[decide_eq_false hlt,cond_false,Fz (by omega)]
theorem u7 (n:Nat){xs:List ae}(hx:xs.length≤4294967296) (k:ae):∀(m i:Nat),i≤xs.length→xs.length<m+i→bF n m (xs,k.1,k.2.1,k.2.2,(i:Int)) =
  some (match pf xs k i (xs.length-i)with|some j=>Sum.inl (j:Int)|none=>Sum.inr ())
 |0,i,h1,h2=>by omega
 |m+1,i,h1,h2=>by
  have e0:bF n (m+1) (xs,k.1,k.2.1,k.2.2,(i:Int))=(cond (decide ((i:Int)<(xs.length:Int))) (cond (ah (i:Int) xs.length) (cond ((xs.getD ((i:Int)).toNat aM).1==k.1&&((xs.getD ((i:Int)).toNat aM).2.1==k.2.1&&((xs.getD ((i:Int)).toNat aM).2.2==k.2.2&&true))) (some (Sum.inl (i:Int))) (bF n m (xs,k.1,k.2.1,k.2.2,IntKind.i64.wrap ((i:Int)+(1:Int))))) none) (some (Sum.inr ()))):=rfl
  rw[e0,F0]
  by_cases hlt:i<xs.length
  ·rw[decide_eq_true hlt,cond_true,ax hlt,cond_true,Int.toNat_natCast,bE hlt hx,zV,Cz hlt]
   by_cases hk:xs.getD i aM=k
   ·rw[decide_eq_true hk,cond_true,if_pos hk]
   ·rw[decide_eq_false hk,cond_false,if_neg hk,u7 n hx k m (i+1) hlt (by omega)]
  ·rw[decide_eq_false hlt,cond_false,Fz (by omega)]
def zG (xs:List ae) (k:ae):Int:=match gZ xs k with
 |some j=>(j:Int)
 |none=>-1
theorem Am{xs:List ae}(hx:xs.length≤4294967296) (k:ae):aX N0 (xs,k.1,k.2.1,k.2.2)=some (zG xs k):=by
 unfold aX
 dsimp only
 have h:=uX N0 hx k N0 0 (Nat.zero_le _) (by have:=n0;omega)
 rw[Nat.sub_zero]at h
 rw[show(0:Int)=((0:Nat):Int)from rfl,h]
 unfold zG gZ
 cases pf xs k 0 xs.length<;>rfl
theorem oU{xs:List ae}(hx:xs.length≤4294967296) (k:ae):bQ N0 (xs,k.1,k.2.1,k.2.2)=some (zG xs k):=by
 unfold bQ
 dsimp only
 have h:=u7 N0 hx k N0 0 (Nat.zero_le _) (by have:=n0;omega)
 rw[Nat.sub_zero]at h
 rw[show(0:Int)=((0:Nat):Int)from rfl,h]
 unfold zG gZ
 cases pf xs k 0 xs.length<;>rfl
theorem zo {α:Type}{xs:List ae}(h:xs.length≤500){k:α}:cJ (xs.length+[k].length)=true:=by
 unfold cJ
 rw[List.length_singleton]
 simp
 omega
theorem FS{c a b:Int}{i j:Nat}(hj:j≤4294967296) (hij:i≤j) (h:dm N0 (c,a,b,(i:Int))=true):dm N0 (c,a,b,(j:Int))=true:=by
 have wi:IntKind.i64.wrap ((i:Int)-(1:Int))=(i:Int)-1:=ao (by omega) (by omega)
 have wj:IntKind.i64.wrap ((j:Int)-(1:Int))=(j:Int)-1:=ao (by omega) (by omega)
 have up:∀v:Int,(decide (v≥0)&&decide (v≤(i:Int)-1))=true→(decide (v≥0)&&decide (v≤(j:Int)-1))=true:=fun v hv=>by
  rw[Bool.and_eq_true,decide_eq_true_iff,decide_eq_true_iff]at hv ⊢
  omega
 have ha:=up a
 have hb:=up b
 revert h
 unfold dm aQ
 dsimp only
 obtain⟨v,hv⟩:=vo N0 c
 rw[hv]
 simp only[Option.bind_some,iv,wi,wj]
 generalize (decide (a≥0)&&decide (a≤(i:Int)-1))=A1 at ha ⊢
 generalize (decide (a≥0)&&decide (a≤(j:Int)-1))=A2 at ha ⊢
 generalize (decide (b≥0)&&decide (b≤(i:Int)-1))=B1 at hb ⊢
 generalize (decide (b≥0)&&decide (b≤(j:Int)-1))=B2 at hb ⊢
 cases(v==(0:Int))
 ·cases(v==(1:Int))
  ·cases(v==(2:Int))
   ·exact id
   ·cases A1
    ·exact fun h=>Bool.noConfusion h
    ·cases B1
     ·exact fun h=>(by cases A2<;>exact Bool.noConfusion h)
     ·rw[ha rfl,hb rfl];exact id
  ·cases A1
   ·exact fun h=>Bool.noConfusion h
   ·rw[ha rfl];exact id
 ·exact id
theorem wO{n:Nat}:∀{r pre:List ae},cE n pre r=true→∀j,j<r.length→dm n ((r.getD j aM).1,(r.getD j aM).2.1,(r.getD j aM).2.2,((pre.length+j:Nat):Int))=true
 |[],pre,_,j,hj=>absurd hj (Nat.not_lt_zero _)
 |k::r,pre,h,j,hj=>by
  have h:((!pre.contains k&&dm n (k.1,k.2.1,k.2.2,(pre.length:Int)))&&cE n (pre++[k]) r)=true:=h
  rw[Bool.and_eq_true,Bool.and_eq_true]at h
  match j with
  |0=>exact h.1.2
  |j+1 =>
   have:=wO h.2 j (by simpa using hj)
   rw[List.length_append]at this
   have e:pre.length+(j+1)=pre.length+[k].length+j:=by simp;omega
   rw[e]
   exact this
theorem uJ{n:Nat}:∀{r pre s:List ae},cE n pre (r++s)=(cE n pre r&&cE n (pre++r) s)
 |[],pre,s=>by simp[cE]
 |k::r,pre,s=>by
  show((!pre.contains k&&dm n (k.1,k.2.1,k.2.2,(pre.length:Int)))&&cE n (pre++[k]) (r++s))=(((!pre.contains k&&dm n (k.1,k.2.1,k.2.2,(pre.length:Int)))&&cE n (pre++[k]) r)&&cE n (pre++(k::r)) s)
  rw[uJ]
  simp only[Bool.and_assoc,List.append_assoc,List.singleton_append]
theorem ap{xs:List ae}(h:aw xs=true):xs.length≤500:=by
 unfold aw at h
 rw[Bool.and_eq_true,decide_eq_true_iff]at h
 exact h.1
theorem j7{xs:List ae}(h:aw xs=true){j:Nat}(hj:j<xs.length):dm N0 ((xs.getD j aM).1,(xs.getD j aM).2.1,(xs.getD j aM).2.2,(j:Int))=true:=by
 unfold aw at h
 rw[Bool.and_eq_true]at h
 have:=wO h.2 j hj
 simpa using this
theorem Bp{xs:List ae}(h:aw xs=true) (hl:xs.length<500){k:ae}(hk:dm N0 (k.1,k.2.1,k.2.2,(xs.length:Int))=true) (hn:gZ xs k=none):aw (xs++[k])=true:=by
 unfold aw at h ⊢
 rw[Bool.and_eq_true]at h ⊢
 refine⟨decide_eq_true (by simp;omega),?_⟩
 rw[uJ,h.2,Bool.true_and,List.nil_append]
 show((!xs.contains k&&dm N0 (k.1,k.2.1,k.2.2,(xs.length:Int)))&&true)=true
 rw[hk,Bool.and_true,Bool.and_true,Bool.not_eq_true']
 rw[←Bool.not_eq_true]
 intro hc
 have hm:k∈xs:=by simpa using hc
 obtain⟨j,hj,e⟩:=List.mem_iff_getElem.1 hm
 refine yc hn j (Nat.zero_le _) (by omega) ?_
 rw[o5 hj]
 exact e
def qr (xs:List ae) (k:ae):Option (List ae×Int) :=
 bif dm N0 (k.1,k.2.1,k.2.2,(xs.length:Int))then(match gZ xs k with
  |some j=>some (xs,(j:Int))
  |none=>if 500≤xs.length then none else some (xs++[k],(xs.length:Int)))else none
def mg (kd a b:Int):ae:=bif kd==8 then(kd,mn a b,mx a b)else(kd,a,b)
def jj (xs:List ae) (kd a b:Int):Option (List ae×Int):=qr xs (mg kd a b)
def js (xs:List ae):Option (List ae×Int)→List ae×Int
 |some r=>r
 |none=>(xs, -1)
theorem xF{xs ys:List ae}{k:ae}{t:Int}(hp:aw xs=true) (h:qr xs k=some (ys,t)):aw ys=true∧0≤t∧t<(ys.length:Int)∧(∃zs,ys=xs++zs)∧ys.getD t.toNat aM=k:=by
 unfold qr at h
 cases hk:dm N0 (k.1,k.2.1,k.2.2,(xs.length:Int))with
 |false=>rw[hk]at h;cases h
 |true =>
  rw[hk,cond_true]at h
  cases hf:gZ xs k with
  |some j =>
   rw[hf]at h
   obtain⟨rfl,rfl⟩:=Prod.mk.inj (Option.some.inj h)
   obtain⟨h1,h2,h3⟩:=mR hf
   exact⟨hp,by omega,by omega,⟨[],by simp⟩,by rw[Int.toNat_natCast];exact h3⟩
  |none =>
   rw[hf]at h
   dsimp only at h
   by_cases hl:500≤xs.length
   ·rw[if_pos hl]at h;cases h
   ·rw[if_neg hl]at h
    obtain⟨rfl,rfl⟩:=Prod.mk.inj (Option.some.inj h)
    exact⟨Bp hp (by omega) hk hf,by omega,by simp;omega,⟨[k],rfl⟩,by rw[Int.toNat_natCast];simp[List.getD_eq_getElem?_getD]⟩
theorem uU{xs:List ae}(hx:xs.length≤4294967296) (v:Int):d6 N0 (xs,v)=some (xs,cU xs v):=oX N0 hx v
theorem Ao{xs:List ae}(hx:xs.length≤500) (k:ae):((aQ N0 (k.1,k.2.1,k.2.2,((xs).length:Int))).bind fun r1=>(cond (!r1) (some (xs,(-1:Int))) ((dk N0 (xs,k.1,k.2.1,k.2.2)).bind fun r2=>(cond (decide (r2.2≥(0:Int))) (some (r2.1,r2.2)) (cond (decide (((r2.1).length:Int)≥(500:Int))) (some (r2.1,(-1:Int))) ((dD N0 (r2.1,k.1,k.2.1,k.2.2)).bind fun g3=>(some (g3,(IntKind.i64.wrap (((g3).length:Int)-(1:Int)))))))))))
  = some (js xs (qr xs k)):=by
 rw[rT,Option.bind_some]
 unfold qr
 cases dm N0 (k.1,k.2.1,k.2.2,(xs.length:Int))with
 |false=>rfl
 |true =>
  rw[cond_true,Bool.not_true,cond_false]
  have e1:dk N0 (xs,k.1,k.2.1,k.2.2)=some (xs,zG xs k):=by
   unfold dk
   dsimp only
   rw[Am (by omega)];rfl
  rw[e1,Option.bind_some]
  dsimp only
  unfold zG
  cases hf:gZ xs k with
  |some j =>
   dsimp only
   rw[decide_eq_true (by omega:(j:Int)≥(0:Int)),cond_true];rfl
  |none =>
   dsimp only
   rw[decide_eq_false (by omega:¬((-1:Int)≥(0:Int))),cond_false]
   by_cases hl:500≤xs.length
   ·rw[decide_eq_true (by omega:(xs.length:Int)≥(500:Int)),cond_true,if_pos hl];rfl
   ·rw[decide_eq_false (by omega:¬((xs.length:Int)≥(500:Int))),cond_false,if_neg hl]
    have e2:dD N0 (xs,k.1,k.2.1,k.2.2)=some (xs++[k]):=by
     unfold dD
     dsimp only
     have:cJ (xs.length+[(k.1,(k.2.1,k.2.2))].length)=true:=zo hx
     rw[this];rfl
    rw[e2,Option.bind_some]
    have e3:IntKind.i64.wrap (((xs++[k]).length:Int)-(1:Int))=(xs.length:Int):=by
     have hl:(xs++[k]).length=xs.length+1:=by rw[List.length_append,List.length_singleton]
     rw[hl,ao (by omega) (by omega)]
     omega
    rw[e3];rfl
theorem fC{xs:List ae}(hx:xs.length≤500) (kd a b:Int):eL N0 (xs,kd,a,b)=some (js xs (jj xs kd a b)):=by
 unfold eL jj mg
 dsimp only
 cases hk:(kd==(8:Int))with
 |true=>rw[cond_true,cond_true];exact Ao hx (kd,mn a b,mx a b)
 |false=>rw[cond_false,cond_false];exact Ao hx (kd,a,b)
theorem An{xs:List ae}(hx:xs.length≤500) (c:Int):gu N0 (xs,c)=some (js xs (jj xs 1 c 0)):=by
 unfold gu
 dsimp only
 rw[fC hx];rfl
theorem ui{xs:List ae}(hp:aw xs=true) (k:ae):((bQ N0 (xs,k.1,k.2.1,k.2.2)).bind fun r9=>(cond (decide (r9≥(0:Int))) (some (xs,r9)) ((dL N0 (k.1,k.2.1,k.2.2,((xs).length:Int))).bind fun r10=>(cond (!r10) (some (xs,(-1:Int))) (cond (((xs).length:Int)==(500:Int)) (some (xs,(-1:Int))) ((b9 N0 xs).bind fun r11=>(cond (cJ ((r11).length+([(k.1,(k.2.1,k.2.2))]).length)) ((gj N0 (xs,[],(r11++[(k.1,(k.2.1,k.2.2))]))).bind fun g12=>(some (g12.1,g12.2))) none)))))))
  = some (js xs (qr xs k)):=by
 have hx:=ap hp
 rw[oU (by omega),Option.bind_some]
 unfold zG qr
 cases hf:gZ xs k with
 |some j =>
  obtain⟨h1,h2,h3⟩:=mR hf
  have hj:j<xs.length:=by omega
  have hnd:=j7 hp hj
  rw[h3]at hnd
  rw[FS (by omega) (Nat.le_of_lt hj) hnd]
  dsimp only
  rw[decide_eq_true (by omega:(j:Int)≥(0:Int)),cond_true];rfl
 |none =>
  dsimp only
  rw[decide_eq_false (by omega:¬((-1:Int)≥(0:Int))),cond_false,zp,Option.bind_some]
  cases dm N0 (k.1,k.2.1,k.2.2,(xs.length:Int))with
  |false=>rfl
  |true =>
   rw[cond_true,Bool.not_true,cond_false]
   by_cases hl:500≤xs.length
   ·have:((xs.length:Int)==(500:Int))=true:=by simp;omega
    rw[this,cond_true,if_pos hl];rfl
   ·have:((xs.length:Int)==(500:Int))=false:=by simp;omega
    rw[this,cond_false,if_neg hl]
    have e1:b9 N0 xs=some xs:=by
     unfold b9
     have:cJ (([]:List ae).length+xs.length)=true:=by
      unfold cJ
      simp
      omega
     rw[this];rfl
    rw[e1,Option.bind_some]
    have:cJ (xs.length+[(k.1,(k.2.1,k.2.2))].length)=true:=zo hx
    rw[this,cond_true];rfl
theorem dh{xs:List ae}(hp:aw xs=true) (kd a b:Int):ch N0 (xs,kd,a,b)=some (js xs (jj xs kd a b)):=by
 unfold ch jj mg mn mx
 dsimp only
 cases hk:(kd==(8:Int))with
 |true =>
  rw[cond_true,cond_true]
  by_cases hab:a>b
  ·rw[decide_eq_true hab,cond_true,if_pos (by omega:b<a),if_neg (by omega:¬b>a)]
   exact ui hp (kd,b,a)
  ·rw[decide_eq_false hab,cond_false,if_neg (by omega:¬b<a)]
   have:(if b>a then b else a)=b:=by split<;>omega
   rw[this]
   exact ui hp (kd,a,b)
 |false=>rw[cond_false,cond_false];exact ui hp (kd,a,b)
theorem zj{xs:List ae}(hp:aw xs=true) (c:Int):j4 N0 (xs,c)=some (js xs (jj xs 1 c 0)):=by
 unfold j4
 dsimp only
 rw[dh hp];rfl
def nV (xs:List ae) (a e:Int):Option (List ae×Int) :=
 bif cU xs a then(bif cU xs e then(bif (xs.getD a.toNat aM).1==7 then jj xs 8 e (xs.getD a.toNat aM).2.1 else none)else none)else none
theorem j9{xs:List ae}{a:Int}(h:cU xs a=true):ah a xs.length=true:=by
 unfold cU at h
 rw[Bool.and_eq_true,decide_eq_true_iff,decide_eq_true_iff]at h
 have e:a=((a.toNat:Nat):Int):=by omega
 rw[e]
 exact ax (by omega)
theorem yx{xs:List ae}(hx:xs.length≤500) (a e:Int):fJ N0 (xs,a,e)=some (js xs (nV xs a e)):=by
 unfold fJ nV
 dsimp only
 rw[uU (by omega),Option.bind_some]
 dsimp only
 cases ha:cU xs a with
 |false=>rfl
 |true =>
  rw[Bool.not_true,cond_false,cond_true,uU (by omega),Option.bind_some]
  dsimp only
  cases cU xs e with
  |false=>rfl
  |true =>
   rw[Bool.not_true,cond_false,cond_true,j9 ha,cond_true,cond_true]
   show(cond (!((xs.getD a.toNat aM).1==(7:Int))) _ _)=_
   cases((xs.getD a.toNat aM).1==(7:Int))with
   |false=>rfl
   |true =>
    rw[Bool.not_true,cond_false,cond_true,fC hx];rfl
theorem xY{xs:List ae}(hp:aw xs=true) (a e:Int):iR N0 (xs,a,e)=some (js xs (nV xs a e)):=by
 have hx:=ap hp
 unfold iR nV
 dsimp only
 rw[uZ N0 (by omega),Option.bind_some]
 cases ha:cU xs a with
 |false=>rfl
 |true =>
  rw[Bool.not_true,cond_false,cond_true,uZ N0 (by omega),Option.bind_some]
  cases cU xs e with
  |false=>rfl
  |true =>
   rw[Bool.not_true,cond_false,cond_true,j9 ha,cond_true,cond_true]
   show(cond (!((xs.getD a.toNat aM).1==(7:Int))) _ _)=_
   cases((xs.getD a.toNat aM).1==(7:Int))with
   |false=>rfl
   |true =>
    rw[Bool.not_true,cond_false,cond_true,dh hp];rfl
inductive On where
 |name (c:Int)
 |var (i:Int)
 |ask (i:Int)
 |un (k:Int) (p:On)
 |bin (k:Int) (p q:On)
 |exp (p q:On)
def mk (env:List Int):On→List ae→Option (List ae×Int)
 | .name c,xs=>jj xs 1 c 0
 | .var i,xs=>bif decide (env.getD i.toNat 0<0)then none else some (xs,env.getD i.toNat 0)
 | .ask _,xs=>none
 | .un k p,xs=>(mk env p xs).bind fun r=>jj r.1 k r.2 0
 | .bin k p q,xs=>(mk env p xs).bind fun r=>(mk env q r.1).bind fun s=>jj s.1 k r.2 s.2
 | .exp p q,xs=>(mk env p xs).bind fun r=>(mk env q r.1).bind fun s=>nV s.1 s.2 r.2
def AY (xs ys:List ae) (t:Int):Prop:=aw ys=true∧0≤t∧(∃zs,ys=xs++zs)
theorem vC{xs ys:List ae}{kd a b t:Int}(hp:aw xs=true) (h:jj xs kd a b=some (ys,t)):AY xs ys t∧t<(ys.length:Int):=by
 obtain⟨h1,h2,h3,h4,_⟩:=xF hp h
 exact⟨⟨h1,h2,h4⟩,h3⟩
theorem AY.trans{xs ys zs:List ae}{t u:Int}(h1:AY xs ys t) (h2:AY ys zs u):AY xs zs u:=by
 obtain⟨a1,a2,v,rfl⟩:=h1
 obtain⟨b1,b2,w,rfl⟩:=h2
 exact⟨b1,b2,v++w,by rw[List.append_assoc]⟩
theorem Bj{xs ys:List ae}{a e t:Int}(h:nV xs a e=some (ys,t)):jj xs 8 e (xs.getD a.toNat aM).2.1=some (ys,t):=by
 unfold nV at h
 cases h1:cU xs a with
 |false=>rw[h1]at h;cases h
 |true =>
  cases h2:cU xs e with
  |false=>rw[h1,h2]at h;cases h
  |true =>
   cases h3:((xs.getD a.toNat aM).1==7)with
   |false=>rw[h1,h2,h3]at h;cases h
   |true=>rw[h1,h2,h3]at h;exact h
theorem IT{xs:List ae}(hx:xs.length≤4294967296):eK N0 xs=some xs:=by
 unfold eK fO
 rw[decide_eq_true hx];rfl
theorem vp{xs:List ae}(hx:xs.length≤4294967296):b9 N0 xs=some xs:=by
 unfold b9
 have:cJ (([]:List ae).length+xs.length)=true:=by
  unfold cJ
  simp
  omega
 rw[this];rfl
section
variable{xs:List ae}{kn:List Int}{li:List tF}{fr:Int}{gv sh:List Int}{lg:List sY}{k:Int}
theorem d7{xs:List ae}{t:Int}:cU xs t=true↔0≤t∧t<(xs.length:Int):=by
 unfold cU
 rw[Bool.and_eq_true,decide_eq_true_iff,decide_eq_true_iff]
 omega
end
def KT (env:List Int):Prop:=env.length=26∧∀i:Nat,env.getD i 0<0→env.getD i 0=-1
theorem xZ{env:List Int}{i:Nat}(h:i<env.length) (t:Int):(env.set i t).getD i 0=t:=by
 rw[List.getD_eq_getElem?_getD,List.getElem?_set_self h];rfl
theorem KT.set{env:List Int}(h:KT env){i:Nat}(hi:i<env.length){t:Int}(ht:0≤t):KT (env.set i t):=by
 refine⟨by rw[List.length_set];exact h.1,fun j hj=>?_⟩
 by_cases e:i=j
 ·subst e
  rw[xZ hi]at hj
  omega
 ·have e2:(env.set i t).getD j 0=env.getD j 0:=by rw[List.getD_eq_getElem?_getD,List.getD_eq_getElem?_getD,List.getElem?_set_ne e]
  rw[e2]at hj ⊢
  exact h.2 _ hj
abbrev nd (xs:List ae) (t:Int):ae:=xs.getD t.toNat aM
theorem o4 {α:Type}(pre r:List α) (a d:α):(pre++a::r).getD pre.length d=a:=by
 rw[List.getD_eq_getElem?_getD,List.getElem?_append_right (Nat.le_refl _),Nat.sub_self];rfl
theorem sk {α:Type}(pre r:List α) (a:α):ah (pre.length:Int) (pre++a::r).length=true:=ax (by simp)
theorem rY {α:Type}(pre r:List α) (a:α):decide ((pre.length:Int)<((pre++a::r).length:Int))=true:=decide_eq_true (by simp;omega)
theorem rZ {α:Type}(pre:List α):decide ((pre.length:Int)<((pre++([]:List α)).length:Int))=false:=decide_eq_false (by simp)
theorem o7 {α:Type}(pre r:List α) (a:α):pre++a::r=(pre++[a])++r:=by rw[List.append_assoc];rfl
theorem oT {α:Type}(pre:List α) (a:α):((pre++[a]).length:Int)=(pre.length:Int)+1:=by rw[List.length_append,List.length_singleton];omega
def xJ (env e:List Int):Prop:=∀i:Nat,env.getD i 0≠-1→e.getD i 0=env.getD i 0
theorem xJ.refl (env:List Int):xJ env env:=fun _ _=>rfl
theorem xJ.trans{a b c:List Int}(h1:xJ a b) (h2:xJ b c):xJ a c:=fun i h=>(h2 i (by rw[h1 i h];exact h)).trans (h1 i h)
def dg (k:Nat):UInt8:=UInt8.ofNat (48+k)
def pG (u:Nat):List UInt8:=if u<10 then [dg u]else if u<100 then [dg (u / 10),dg (u % 10)]else [dg (u / 100),dg (u / 10 % 10),dg (u % 10)]
theorem C5{u:Nat}(h:u<1000):Lib.decDigits u=pG u:=by
 unfold pG dg
 by_cases h1:u<10
 ·rw[if_pos h1,Lib.decDigits,dif_pos h1]
 ·rw[if_neg h1,Lib.decDigits,dif_neg h1]
  by_cases h2:u<100
  ·rw[if_pos h2,Lib.decDigits,dif_pos (by omega)];rfl
  ·rw[if_neg h2,Lib.decDigits,dif_neg (by omega),Lib.decDigits,dif_pos (by omega)]
   rw[show u / 10 / 10=u / 100 by omega];rfl
theorem F5{u:Nat}(h:u<1000):Lib.itoa (u:Int)=pG u:=by
 unfold Lib.itoa
 rw[if_neg (by omega),Int.toNat_natCast,C5 h]
set_option maxRecDepth 100000 in
theorem o6:∀u:Fin 1000,Lib.atoiAll (pG u.val) = .ok (u.val:Int):=by decide +kernel
theorem yr (u:Nat):(pG u).length≤3:=by
 unfold pG
 split
 ·simp
 ·split<;>simp
def iM (c:UInt8):Bool:=decide (48≤c.toNat)&&decide (c.toNat≤57)
abbrev bs (T:ByteArray):List UInt8:=T.data.toList
theorem kq (T:ByteArray):(bs T).length=T.size:=by
 rw[bs,Array.length_toList];rfl
theorem bb{T:ByteArray}{a:Nat}{c:UInt8}{r:List UInt8}(h:(bs T).drop a=c::r):a<T.size∧bt T (a:Int)=(c.toNat:Int)∧(bs T).drop (a+1)=r:=by
 have hl:a<(bs T).length:=by
  refine Nat.lt_of_not_le fun q=>?_
  rw[List.drop_eq_nil_of_le q]at h
  cases h
 rw[List.drop_eq_getElem_cons hl]at h
 injection h with h1 h2
 refine⟨by rw[←kq];exact hl,?_,h2⟩
 rw[MO hl,h1]
theorem my{T:ByteArray}{a:Nat}(h:(bs T).drop a=[]):T.size≤a:=by
 rw[←kq]
 exact List.drop_eq_nil_iff.1 h
theorem cW{T:ByteArray}{a:Nat}{c:UInt8}{r:List UInt8}(h:(bs T).drop a=c::r) (k:Int) (M:ByteArray):cI N0 (T,(a:Int),k,M)=some (T,(a:Int),k,M,(c.toNat:Int)):=by
 obtain⟨h1,h2,_⟩:=bb h
 unfold cI
 dsimp only
 rw[decide_eq_false (by omega:¬(a:Int)≥(T.size:Int)),cond_false,ax h1,cond_true,h2]
theorem zH{T:ByteArray}{a:Nat}(h:(bs T).drop a=[]) (k:Int) (M:ByteArray):cI N0 (T,(a:Int),k,M)=some (T,(a:Int),k,M,(0:Int)):=by
 have h1:=my h
 unfold cI
 dsimp only
 rw[decide_eq_true (by omega:(a:Int)≥(T.size:Int)),cond_true]
theorem F7 (c:UInt8):fQ N0 (c.toNat:Int)=some (iM c):=by
 unfold fQ iM
 by_cases h:48≤c.toNat
 ·rw[decide_eq_true (by omega:(c.toNat:Int)≥48),decide_eq_true h,cond_true,Bool.true_and]
  congr 1
  by_cases h2:c.toNat≤57
  ·rw[decide_eq_true h2,decide_eq_true (by omega)]
  ·rw[decide_eq_false h2,decide_eq_false (by omega)]
 ·rw[decide_eq_false (by omega:¬(c.toNat:Int)≥48),decide_eq_false h];rfl
theorem xw{T:ByteArray}(hT:T.size≤100000) (k most from_:Int) (M:ByteArray):∀(l:List UInt8) (a m:Nat),(bs T).drop a=l→a≤T.size→l.length<m→bi N0 m (T,(a:Int),k,M,most,from_)=some (T,((a+(l.takeWhile iM).length:Nat):Int),k,M,most,from_)
 |l,a,0,h,_,hm=>by omega
 |[],a,m+1,h,ha,hm=>by
  rw[bi];dsimp only
  rw[zH h,Option.bind_some]
  dsimp only
  rw[show fQ N0 (0:Int)=some false from rfl,Option.bind_some,cond_false];rfl
 |c::r,a,m+1,h,ha,hm=>by
  obtain⟨h1,h2,h3⟩:=bb h
  rw[bi];dsimp only
  rw[cW h,Option.bind_some]
  dsimp only
  rw[F7,Option.bind_some]
  cases hc:iM c with
  |false =>
   rw[cond_false,List.takeWhile_cons_of_neg (by rw[hc];decide)];rfl
  |true =>
   have w:IntKind.i64.wrap ((a:Int)+1)=((a+1:Nat):Int):=by rw[ao (by omega) (by omega)];omega
   rw[cond_true,w,xw hT k most from_ M r (a+1) m h3 (by omega) (by simp at hm;omega),List.takeWhile_cons_of_pos hc,List.length_cons]
   congr 4
   omega
theorem EZ{T:ByteArray}{a b:Nat}:(sub T (a:Int) (b:Int)).data.toList=((bs T).drop a).take (b-a):=by
 unfold sub
 rw[Int.toNat_natCast,Int.toNat_natCast,ByteArray.data_extract,Array.toList_extract,List.extract_eq_take_drop]
theorem A9 (l:List UInt8):l.take (l.takeWhile iM).length=l.takeWhile iM:=(List.prefix_iff_eq_take.1 (List.takeWhile_prefix iM)).symm
def yD (most:Nat) (L:List UInt8):Int:=match Lib.atoiAll L with
 | .ok v=>if L.length≤most∧Lib.itoa v=L then v else -1
 |_=>-1
def wa (L:List UInt8):Int:=yD 9 L
theorem Ax{T:ByteArray}(hT:T.size≤100000){most:Nat}(hm:most≤100){a:Nat}(ha:a≤T.size) (k:Int) (M:ByteArray):ci N0 (T,(a:Int),k,M,(most:Int))=some (T,((a+(((bs T).drop a).takeWhile iM).length:Nat):Int),k,M,yD most (((bs T).drop a).takeWhile iM)):=by
 have hl:((bs T).drop a).length≤100000:=by rw[List.length_drop,kq];omega
 have hw:(((bs T).drop a).takeWhile iM).length≤((bs T).drop a).length:=(List.takeWhile_prefix iM).length_le
 unfold ci
 dsimp only
 rw[xw hT k most (a:Int) M _ a N0 rfl ha (by have:=n0;omega),Option.bind_some]
 dsimp only
 have hr:rG (a:Int) ((a+(((bs T).drop a).takeWhile iM).length:Nat):Int) T.size=true:=by
  unfold rG
  rw[decide_eq_true_iff]
  rw[List.length_drop,kq]at hw
  omega
 rw[hr,cond_true]
 have hs:(sub T (a:Int) ((a+(((bs T).drop a).takeWhile iM).length:Nat):Int)).data.toList=((bs T).drop a).takeWhile iM:=by
  rw[EZ,Nat.add_sub_cancel_left,A9]
 generalize sub T (a:Int) ((a+(((bs T).drop a).takeWhile iM).length:Nat):Int)=s at hs ⊢
 have hz:s.size=(((bs T).drop a).takeWhile iM).length:=by rw[←hs,Array.length_toList];rfl
 generalize hL:((bs T).drop a).takeWhile iM=L at hs hz hw ⊢
 unfold oc yD
 rw[if_pos (by omega),hs]
 cases he:Lib.atoiAll L with
 |ok v =>
  dsimp only
  rw[Option.bind_some]
  dsimp only
  rw[Bool.not_false,Bool.not_true,cond_false]
  by_cases h9:L.length≤most
  ·obtain⟨b1,b2⟩:=Lib.atoiAll_bounds he
   rw[decide_eq_false (by omega:¬(s.size:Int)>(most:Int)),cond_false]
   unfold n9
   rw[if_pos ⟨b1,b2⟩,Option.bind_some]
   have hq:l8 (⟨(Lib.itoa v).toArray⟩:ByteArray) s=decide (Lib.itoa v=L):=by
    unfold l8
    rw[decide_eq_decide]
    constructor
    ·intro h
     rw[←hs, ←h]
    ·intro h
     apply ByteArray.ext
     apply Array.ext'
     rw[hs, ←h]
   rw[hq]
   by_cases h2:Lib.itoa v=L
   ·rw[decide_eq_true h2,if_pos ⟨h9,h2⟩];rfl
   ·rw[decide_eq_false h2,if_neg (fun q=>h2 q.2)];rfl
  ·rw[decide_eq_true (by omega:(s.size:Int)>(most:Int)),cond_true,if_neg (fun q=>h9 q.1)]
 |_=>rfl
theorem IM{T:ByteArray}(hT:T.size≤100000){a:Nat}(ha:a≤T.size) (k:Int) (M:ByteArray):ci N0 (T,(a:Int),k,M,(9:Int))=some (T,((a+(((bs T).drop a).takeWhile iM).length:Nat):Int),k,M,wa (((bs T).drop a).takeWhile iM)):=Ax hT (most:=9) (by decide) ha k M
theorem Gh (L:List UInt8):(∃u:Nat,u<200∧L=pG u∧wa L=(u:Int))∨((∀u:Nat,u<200→L≠pG u)∧(decide (wa L≥0)&&decide (wa L≤199))=false):=by
 by_cases h:∃u:Nat,u<200∧L=pG u
 ·obtain⟨u,h1,rfl⟩:=h
  refine .inl ⟨u,h1,rfl,?_⟩
  unfold wa yD
  rw[show Lib.atoiAll (pG u) = .ok (u:Int)from o6 ⟨u,by omega⟩]
  dsimp only
  rw[if_pos ⟨by have:=yr u;omega,F5 (by omega)⟩]
 ·refine .inr ⟨fun u h1 h2=>h ⟨u,h1,h2⟩,?_⟩
  rw[Bool.and_eq_false_iff,decide_eq_false_iff_not,decide_eq_false_iff_not]
  refine Classical.byContradiction fun q=>?_
  have q1:wa L≥0:=Classical.byContradiction fun w=>q (.inl w)
  have q2:wa L≤199:=Classical.byContradiction fun w=>q (.inr w)
  unfold wa yD at q1 q2
  cases he:Lib.atoiAll L with
  |ok v =>
   rw[he]at q1 q2
   dsimp only at q1 q2
   by_cases h2:L.length≤9∧Lib.itoa v=L
   ·rw[if_pos h2]at q1 q2
    obtain⟨u,rfl⟩:=Int.eq_ofNat_of_zero_le q1
    exact h ⟨u,by omega,by rw[←h2.2,F5 (by omega)]⟩
   ·rw[if_neg h2]at q1
    omega
  |_=>rw[he]at q1;exact absurd (show(-1:Int)≥0 from q1) (by decide)
def vQ:Int→List UInt8→Int
 |x,[]=>x
 |x,c::r=>vQ (10*x+(c.toNat:Int)-48) r
theorem m7{c:UInt8}:iM c=true↔48≤c.toNat∧c.toNat≤57:=by
 unfold iM
 rw[Bool.and_eq_true,decide_eq_true_iff,decide_eq_true_iff]
theorem wT{T:ByteArray}(hT:T.size≤100000) (f:Nat):∀(l:List UInt8) (a m:Nat) (x:Int),(bs T).drop a=l→a≤T.size→f≤a→a-f≤4→l.length<m→0≤x→x<10 ^ (a-f)→cN N0 m (T,(a:Int),(f:Int),x)=some (T,((a+((l.takeWhile iM).take (4-(a-f))).length:Nat):Int),(f:Int),vQ x ((l.takeWhile iM).take (4-(a-f))))
 |l,a,0,x,h,_,_,_,hm,_,_=>by omega
 |[],a,m+1,x,h,ha,hf,hk,hm,hx,hx2=>by
  have h1:=my h
  rw[cN];dsimp only
  rw[decide_eq_false (by omega:¬(a:Int)<(T.size:Int)),cond_false,List.takeWhile_nil,List.take_nil];rfl
 |c::r,a,m+1,x,h,ha,hf,hk,hm,hx,hx2=>by
  obtain⟨h1,h2,h3⟩:=bb h
  rw[cN];dsimp only
  rw[decide_eq_true (by omega:(a:Int)<(T.size:Int)),cond_true,ax h1,h2]
  simp only[cond_true]
  have stop:iM c=false→((c::r).takeWhile iM)=[]:=fun q=>List.takeWhile_cons_of_neg (by rw[q];decide)
  by_cases g1:48≤c.toNat
  ·by_cases g2:c.toNat≤57
   ·have gc:iM c=true:=m7.2 ⟨g1,g2⟩
    have ws:IntKind.i64.wrap ((a:Int)-(f:Int))=((a-f:Nat):Int):=by rw[ao (by omega) (by omega)];omega
    rw[decide_eq_true (by omega:(c.toNat:Int)≥48),decide_eq_true (by omega:(c.toNat:Int)≤57),cond_true,cond_true,ws,List.takeWhile_cons_of_pos gc]
    by_cases g3:a-f<4
    ·have w1:IntKind.i64.wrap ((a:Int)+1)=((a+1:Nat):Int):=by rw[ao (by omega) (by omega)];omega
     have hb:x<10000:=by
      have q:(10:Int) ^ 0=1∧(10:Int) ^ 1=10∧(10:Int) ^ 2=100∧(10:Int) ^ 3=1000:=by decide
      have q2:a-f=0∨a-f=1∨a-f=2∨a-f=3:=by omega
      rcases q2 with e|e|e|e<;>rw[e]at hx2<;>omega
     have w2:IntKind.i64.wrap (10*x)=10*x:=ao (by omega) (by omega)
     have w3:IntKind.i64.wrap (c.toNat:Int)=(c.toNat:Int):=ao (by omega) (by omega)
     have w4:IntKind.i64.wrap (10*x+(c.toNat:Int))=10*x+(c.toNat:Int):=ao (by omega) (by omega)
     have w5:IntKind.i64.wrap (10*x+(c.toNat:Int)-48)=10*x+(c.toNat:Int)-48:=ao (by omega) (by omega)
     have e4:4-(a-f)=(4-(a+1-f))+1:=by omega
     have hp:(10:Int) ^ (a+1-f)=10*10 ^ (a-f):=by
      rw[show a+1-f=(a-f)+1 by omega,Int.pow_succ,Int.mul_comm]
     rw[decide_eq_true (by omega:((a-f:Nat):Int)<4),cond_true,w1,w2,w3,w4,w5,wT hT f r (a+1) m (10*x+(c.toNat:Int)-48) h3 (by omega) (by omega) (by omega) (by simp at hm;omega) (by omega) (by rw[hp];omega),e4,List.take_succ_cons,List.length_cons]
     congr 3
     omega
    ·rw[decide_eq_false (by omega:¬((a-f:Nat):Int)<4),cond_false,show 4-(a-f)=0 by omega]
     rfl
   ·rw[decide_eq_true (by omega:(c.toNat:Int)≥48),decide_eq_false (by omega:¬(c.toNat:Int)≤57),stop (by rw[←Bool.not_eq_true,m7];omega),List.take_nil];rfl
  ·rw[decide_eq_false (by omega:¬(c.toNat:Int)≥48),stop (by rw[←Bool.not_eq_true,m7];omega),List.take_nil];rfl
theorem gO{c:UInt8}(h:iM c=true):∃k:Nat,k<10∧c.toNat=48+k∧c=dg k:=by
 obtain⟨h1,h2⟩:=m7.1 h
 refine⟨c.toNat-48,by omega,by omega,?_⟩
 unfold dg
 rw[show 48+(c.toNat-48)=c.toNat by omega,UInt8.ofNat_toNat]
theorem CX{u v:Nat}(hu:u<1000) (hv:v<1000) (h:pG u=pG v):u=v:=by
 have h1:=o6 ⟨u,hu⟩
 have h2:=o6 ⟨v,hv⟩
 dsimp only at h1 h2
 rw[h,h2]at h1
 injection h1 with h1
 omega
set_option maxRecDepth 100000 in
theorem CW:∀u:Fin 200,2≤(pG u.val).length→(pG u.val).head?≠some (dg 0):=by decide +kernel
theorem Jq:∀i:Fin 10,pG i.val=[dg i.val]:=by decide +kernel
theorem Md:∀i j:Fin 10,i.val≠0→pG (10*i.val+j.val)=[dg i.val,dg j.val]:=by decide +kernel
set_option maxRecDepth 100000 in
theorem Jp:∀i j k:Fin 10,i.val≠0→pG (10*(10*i.val+j.val)+k.val)=[dg i.val,dg j.val,dg k.val]:=by decide +kernel
theorem F6 (u:Nat):pG u≠[]:=by
 unfold pG
 split
 ·simp
 ·split<;>simp
theorem CL{T:ByteArray}(hT:T.size≤100000){a:Nat}(ha:a≤T.size):(∃u:Nat,u<200∧((bs T).drop a).takeWhile iM=pG u∧iG N0 (T,(a:Int))=some ((u:Int),((a+(pG u).length:Nat):Int),true)) ∨
  ((∀u:Nat,u<200→((bs T).drop a).takeWhile iM≠pG u)∧iG N0 (T,(a:Int))=some ((0:Int),(0:Int),false)):=by
 have hl:((bs T).drop a).length≤100000:=by rw[List.length_drop,kq];omega
 have h:=wT hT a _ a N0 0 rfl ha (Nat.le_refl _) (by omega) (by have:=n0;omega) (by omega) (by rw[Nat.sub_self];decide)
 rw[Nat.sub_self,Nat.sub_zero]at h
 unfold iG
 dsimp only
 rw[h,Option.bind_some]
 dsimp only
 have hall:∀c∈((bs T).drop a).takeWhile iM,iM c=true:=fun c hc=>by
  have:=List.all_eq_true.1 (List.all_takeWhile (p:=iM) (l:=(bs T).drop a)) c hc
  exact this
 have hhead:∀c r,((bs T).drop a).takeWhile iM=c::r→∃r',(bs T).drop a=c::r':=fun c r q=>by
  cases hd:(bs T).drop a with
  |nil=>rw[hd]at q;cases q
  |cons c' r' =>
   rw[hd]at q
   cases hc:iM c' with
   |false=>rw[List.takeWhile_cons_of_neg (by rw[hc];decide)]at q;cases q
   |true =>
    rw[List.takeWhile_cons_of_pos hc]at q
    injection q with q1 q2
    exact⟨r',by rw[q1]⟩
 have hlen:(((bs T).drop a).takeWhile iM).length≤T.size-a:=by
  have:=(List.takeWhile_prefix (l:=(bs T).drop a) iM).length_le
  rw[List.length_drop,kq]at this
  exact this
 generalize hD:((bs T).drop a).takeWhile iM=D at h hall hhead hlen ⊢
 match D,hall,hhead,hlen with
 |[],_,_,_ =>
  refine .inr ⟨fun u _ q=>F6 u q.symm,?_⟩
  rw[show((a+(([]:List UInt8).take 4).length:Nat):Int)=(a:Int)from rfl,beq_self_eq_true,cond_true]
 |[c],hall,hhead,hlen =>
  obtain⟨i,i1,i2,rfl⟩:=gO (hall c (by simp))
  obtain⟨r',hr⟩:=hhead _ _ rfl
  obtain⟨b1,b2,_⟩:=bb hr
  refine .inl ⟨i,by omega,(Jq ⟨i,i1⟩).symm,?_⟩
  have e1:(([dg i]:List UInt8).take 4).length=1:=rfl
  have e2:vQ 0 (([dg i]:List UInt8).take 4)=(i:Int):=by show 10*0+((dg i).toNat:Int)-48=_;omega
  have e3:IntKind.i64.wrap (((a+1:Nat):Int)-(a:Int))=1:=by rw[ao (by omega) (by omega)];omega
  rw[e1,e2,e3,show(((a+1:Nat):Int)==(a:Int))=false from by rw[beq_eq_false_iff_ne];omega,cond_false,ax b1,show(pG i).length=1 from by rw[Jq ⟨i,i1⟩];rfl,decide_eq_false (by omega:¬(i:Int)≥200)]
  cases(bt T (a:Int)==48)<;>rfl
 |[c,d],hall,hhead,hlen =>
  obtain⟨i,i1,i2,rfl⟩:=gO (hall c (by simp))
  obtain⟨j,j1,j2,rfl⟩:=gO (hall d (by simp))
  obtain⟨r',hr⟩:=hhead _ _ rfl
  obtain⟨b1,b2,_⟩:=bb hr
  have e1:(([dg i,dg j]:List UInt8).take 4).length=2:=rfl
  have e2:vQ 0 (([dg i,dg j]:List UInt8).take 4)=((10*i+j:Nat):Int):=by show 10*(10*0+((dg i).toNat:Int)-48)+((dg j).toNat:Int)-48=_;omega
  have e3:IntKind.i64.wrap (((a+2:Nat):Int)-(a:Int))=2:=by rw[ao (by omega) (by omega)];omega
  rw[e1,e2,e3,show(((a+2:Nat):Int)==(a:Int))=false from by rw[beq_eq_false_iff_ne];omega,cond_false,ax b1,decide_eq_false (by omega:¬((10*i+j:Nat):Int)≥200)]
  by_cases h0:i=0
  ·subst h0
   refine .inr ⟨fun u hu q=>CW ⟨u,hu⟩ (by rw[←q];simp) (by rw[←q];rfl),?_⟩
   rw[show(bt T (a:Int)==48)=true from by rw[beq_iff_eq,b2];omega];rfl
  ·have e:=Md ⟨i,i1⟩ ⟨j,j1⟩ h0
   dsimp only at e
   refine .inl ⟨10*i+j,by omega,e.symm,?_⟩
   rw[show(bt T (a:Int)==48)=false from by rw[beq_eq_false_iff_ne,b2];omega,e];rfl
 |[c,d,e],hall,hhead,hlen =>
  obtain⟨i,i1,i2,rfl⟩:=gO (hall c (by simp))
  obtain⟨j,j1,j2,rfl⟩:=gO (hall d (by simp))
  obtain⟨k,k1,k2,rfl⟩:=gO (hall e (by simp))
  obtain⟨r',hr⟩:=hhead _ _ rfl
  obtain⟨b1,b2,_⟩:=bb hr
  have e1:(([dg i,dg j,dg k]:List UInt8).take 4).length=3:=rfl
  have e2:vQ 0 (([dg i,dg j,dg k]:List UInt8).take 4)=((10*(10*i+j)+k:Nat):Int):=by show 10*(10*(10*0+((dg i).toNat:Int)-48)+((dg j).toNat:Int)-48)+((dg k).toNat:Int)-48=_;omega
  have e3:IntKind.i64.wrap (((a+3:Nat):Int)-(a:Int))=3:=by rw[ao (by omega) (by omega)];omega
  rw[e1,e2,e3,show(((a+3:Nat):Int)==(a:Int))=false from by rw[beq_eq_false_iff_ne];omega,cond_false,ax b1]
  by_cases h0:i=0
  ·subst h0
   refine .inr ⟨fun u hu q=>CW ⟨u,hu⟩ (by rw[←q];simp) (by rw[←q];rfl),?_⟩
   rw[show(bt T (a:Int)==48)=true from by rw[beq_iff_eq,b2];omega];rfl
  ·have e:=Jp ⟨i,i1⟩ ⟨j,j1⟩ ⟨k,k1⟩ h0
   dsimp only at e
   by_cases h2:10*(10*i+j)+k<200
   ·refine .inl ⟨10*(10*i+j)+k,h2,e.symm,?_⟩
    rw[show(bt T (a:Int)==48)=false from by rw[beq_eq_false_iff_ne,b2];omega,e,decide_eq_false (by omega:¬((10*(10*i+j)+k:Nat):Int)≥200)];rfl
   ·refine .inr ⟨fun u hu q=>?_,?_⟩
    ·rw[←e]at q
     have:=CX (by omega) (by omega) q
     omega
    ·rw[show(bt T (a:Int)==48)=false from by rw[beq_eq_false_iff_ne,b2];omega,decide_eq_true (by omega:((10*(10*i+j)+k:Nat):Int)≥200)];rfl
 |c::d::e::f::r,hall,hhead,hlen =>
  refine .inr ⟨fun u hu q=>?_,?_⟩
  ·have:=yr u
   rw[←q]at this
   simp at this
  ·have e1:((c::d::e::f::r).take 4).length=4:=rfl
   simp only[List.length_cons]at hlen
   have e3:IntKind.i64.wrap (((a+4:Nat):Int)-(a:Int))=4:=by rw[ao (by omega) (by omega)];omega
   rw[e1,e3,show(((a+4:Nat):Int)==(a:Int))=false from by rw[beq_eq_false_iff_ne];omega];rfl
theorem Gc {α:Type}{l x:List α}{i:Nat}(h:i<l.length) (d:α):(l++x).getD i d=l.getD i d:=by
 rw[List.getD_eq_getElem?_getD,List.getD_eq_getElem?_getD,List.getElem?_append_left h]
theorem zQ{S:ByteArray}(hS:S.size≤200) (b:Int):∀(l:List UInt8) (a m:Nat),(bs S).drop a=l→a≤S.size→l.length<m→cA N0 m (b,S,(a:Int))=some (bif l.any (fun c=>(c.toNat:Int)==b)then Sum.inl true else Sum.inr ())
 |l,a,0,h,_,hm=>by omega
 |[],a,m+1,h,ha,hm=>by
  have h1:=my h
  rw[cA];dsimp only
  rw[decide_eq_false (by omega:¬(a:Int)<(S.size:Int)),cond_false];rfl
 |c::r,a,m+1,h,ha,hm=>by
  obtain⟨h1,h2,h3⟩:=bb h
  rw[cA];dsimp only
  have w:IntKind.i64.wrap ((a:Int)+1)=((a+1:Nat):Int):=by rw[ao (by omega) (by omega)];omega
  rw[decide_eq_true (by omega:(a:Int)<(S.size:Int)),cond_true,ax h1,cond_true,h2,w,zQ hS b r (a+1) m h3 (by omega) (by simp at hm;omega),List.any_cons]
  cases((c.toNat:Int)==b)<;>rfl
theorem lq{S:ByteArray}(hS:S.size≤200) (b:Int):az N0 (b,S)=some ((bs S).any (fun c=>(c.toNat:Int)==b)):=by
 have h:=zQ hS b (bs S) 0 N0 rfl (Nat.zero_le _) (by rw[kq];have:=n0;omega)
 unfold az
 dsimp only
 rw[show((0:Nat):Int)=(0:Int)from rfl]at h
 rw[h,Option.bind_some]
 cases(bs S).any (fun c=>(c.toNat:Int)==b)<;>rfl
def pF (u:Nat):List UInt8:=if u<1000 then pG u else [dg (u / 1000),dg (u / 100 % 10),dg (u / 10 % 10),dg (u % 10)]
theorem Jo{u:Nat}(h:u<10000):Lib.itoa (u:Int)=pF u:=by
 unfold pF
 by_cases h1:u<1000
 ·rw[if_pos h1,F5 h1]
 ·rw[if_neg h1]
  unfold Lib.itoa
  rw[if_neg (by omega),Int.toNat_natCast,Lib.decDigits,dif_neg (by omega),C5 (by omega)]
  unfold pG dg
  rw[if_neg (by omega),if_neg (by omega),show u / 10 / 100=u / 1000 by omega,show u / 10 / 10=u / 100 by omega];rfl
theorem N5:∀{k:Nat},k<10→(dg k).toNat=48+k:=by
 have h:∀k:Fin 10,(dg k.val).toNat=48+k.val:=by decide +kernel
 exact fun{k} hk=>h ⟨k,hk⟩
theorem Ct{k acc:Nat}(h:k<10) (ha:acc<1000000000) (r:List UInt8):Lib.parseUint10 acc (dg k::r)=Lib.parseUint10 (acc*10+k) r:=by
 rw[Lib.parseUint10,N5 h,if_pos (by omega),if_neg (by omega),if_neg (by omega)]
 congr 1
 omega
theorem sR{u:Nat}(hu:u<10000):Lib.atoiAll (pF u) = .ok (u:Int):=by
 unfold pF
 by_cases h:u<1000
 ·rw[if_pos h];exact o6 ⟨u,h⟩
 ·rw[if_neg h]
  have hd:=N5 (k:=u / 1000) (by omega)
  unfold Lib.atoiAll
  dsimp only
  rw[hd,if_neg (by omega)]
  unfold Lib.parseMag
  rw[if_neg (by simp),Ct (by omega) (by omega),Ct (by omega) (by omega),Ct (by omega) (by omega),Ct (by omega) (by omega)]
  have e:(((0*10+u / 1000)*10+u / 100 % 10)*10+u / 10 % 10)*10+u % 10=u:=by omega
  rw[e]
  unfold Lib.parseUint10
  dsimp only
  rw[if_neg (by omega),if_neg (by omega),if_neg (by omega)]
theorem CU (u:Nat):(pF u).length≤4:=by
 unfold pF
 split
 ·have:=yr u;omega
 ·simp
theorem Ka (u:Nat):pF u≠[]:=by
 unfold pF
 split
 ·exact F6 u
 ·simp
theorem IF{u v:Nat}(hu:u<10000) (hv:v<10000) (h:pF u=pF v):u=v:=by
 have h1:=sR hu
 have h2:=sR hv
 rw[h,h2]at h1
 injection h1 with h1
 omega
theorem BQ{k:Nat}(h0:0<k) (h:k<10):dg k≠dg 0:=fun q=>by
 have:=congrArg UInt8.toNat q
 rw[N5 h,N5 (by decide)]at this
 omega
theorem yq{u:Nat}(hu:u<10000) (h2:2≤(pF u).length):(pF u).head?≠some (dg 0):=by
 unfold pF at h2 ⊢
 by_cases h:u<1000
 ·rw[if_pos h]at h2 ⊢
  unfold pG at h2 ⊢
  by_cases h1:u<10
  ·rw[if_pos h1]at h2;simp at h2
  ·rw[if_neg h1]at h2 ⊢
   by_cases h3:u<100
   ·rw[if_pos h3]
    exact fun q=>BQ (by omega) (by omega) (Option.some.inj q)
   ·rw[if_neg h3]
    exact fun q=>BQ (by omega) (by omega) (Option.some.inj q)
 ·rw[if_neg h]
  exact fun q=>BQ (by omega) (by omega) (Option.some.inj q)
theorem Mc:∀i:Fin 10,pF i.val=[dg i.val]:=by decide +kernel
theorem Mb:∀i j:Fin 10,i.val≠0→pF (10*i.val+j.val)=[dg i.val,dg j.val]:=by decide +kernel
theorem Ma (i j k:Fin 10) (h:i.val≠0):pF (10*(10*i.val+j.val)+k.val)=[dg i.val,dg j.val,dg k.val]:=by
 unfold pF
 rw[if_pos (by omega)]
 exact Jp i j k h
theorem L9 (i j k l:Fin 10) (h:i.val≠0):pF (10*(10*(10*i.val+j.val)+k.val)+l.val)=[dg i.val,dg j.val,dg k.val,dg l.val]:=by
 unfold pF
 rw[if_neg (by omega),show(10*(10*(10*i.val+j.val)+k.val)+l.val) / 1000=i.val by omega,show(10*(10*(10*i.val+j.val)+k.val)+l.val) / 100 % 10=j.val by omega,show(10*(10*(10*i.val+j.val)+k.val)+l.val) / 10 % 10=k.val by omega,show(10*(10*(10*i.val+j.val)+k.val)+l.val) % 10=l.val by omega]
theorem Gi{L:List UInt8}(hall:∀c∈L,iM c=true):(∃u:Nat,u<10000∧L=pF u∧yD 4 L=(u:Int))∨((∀u:Nat,u<10000→L≠pF u)∧yD 4 L=-1):=by
 by_cases h:∃u:Nat,u<10000∧L=pF u
 ·obtain⟨u,h1,rfl⟩:=h
  refine .inl ⟨u,h1,rfl,?_⟩
  unfold yD
  rw[show Lib.atoiAll (pF u) = .ok (u:Int)from sR (by omega)]
  dsimp only
  rw[if_pos ⟨CU u,Jo (by omega)⟩]
 ·refine .inr ⟨fun u h1 h2=>h ⟨u,h1,h2⟩,?_⟩
  unfold yD
  cases he:Lib.atoiAll L with
  |ok v =>
   dsimp only
   rw[if_neg]
   rintro ⟨q1,q2⟩
   by_cases hv:0≤v
   ·obtain⟨u,rfl⟩:=Int.eq_ofNat_of_zero_le hv
    have hd:Lib.itoa (u:Int)=Lib.decDigits u:=Lib.itoa_nonneg u
    have hn:Lib.nDigits u≤4:=by rw[←Lib.decDigits_length, ←hd,q2];exact q1
    have hu:u<10000:=by
     have h3:=Lib.lt_pow_nDigits u
     have h4:10 ^ Lib.nDigits u≤10 ^ 4:=Nat.pow_le_pow_right (by decide) hn
     omega
    exact h ⟨u,hu,by rw[←q2,Jo hu]⟩
   ·obtain⟨u,hu⟩:=Int.eq_ofNat_of_zero_le (show 0≤-v by omega)
    have hv2:v=-(u:Int):=by omega
    rw[hv2,Lib.itoa_neg u (by omega)]at q2
    have:=hall 45 (by rw[←q2];exact List.mem_cons_self ..)
    exact absurd this (by decide)
  |_=>rfl
theorem zU{T:ByteArray}(hT:T.size≤100000) (f:Nat):∀(l:List UInt8) (a m:Nat) (x:Int),(bs T).drop a=l→a≤T.size→f≤a→a-f≤5→l.length<m→0≤x→x<10 ^ (a-f)→cP N0 m (T,(a:Int),(f:Int),x)=some (T,((a+((l.takeWhile iM).take (5-(a-f))).length:Nat):Int),(f:Int),vQ x ((l.takeWhile iM).take (5-(a-f))))
 |l,a,0,x,h,_,_,_,hm,_,_=>by omega
 |[],a,m+1,x,h,ha,hf,hk,hm,hx,hx2=>by
  have h1:=my h
  rw[cP];dsimp only
  rw[decide_eq_false (by omega:¬(a:Int)<(T.size:Int)),cond_false,List.takeWhile_nil,List.take_nil];rfl
 |c::r,a,m+1,x,h,ha,hf,hk,hm,hx,hx2=>by
  obtain⟨h1,h2,h3⟩:=bb h
  rw[cP];dsimp only
  rw[decide_eq_true (by omega:(a:Int)<(T.size:Int)),cond_true,ax h1,h2]
  simp only[cond_true]
  have stop:iM c=false→((c::r).takeWhile iM)=[]:=fun q=>List.takeWhile_cons_of_neg (by rw[q];decide)
  by_cases g1:48≤c.toNat
  ·by_cases g2:c.toNat≤57
   ·have gc:iM c=true:=m7.2 ⟨g1,g2⟩
    have ws:IntKind.i64.wrap ((a:Int)-(f:Int))=((a-f:Nat):Int):=by rw[ao (by omega) (by omega)];omega
    rw[decide_eq_true (by omega:(c.toNat:Int)≥48),decide_eq_true (by omega:(c.toNat:Int)≤57),cond_true,cond_true,ws,List.takeWhile_cons_of_pos gc]
    by_cases g3:a-f<5
    ·have w1:IntKind.i64.wrap ((a:Int)+1)=((a+1:Nat):Int):=by rw[ao (by omega) (by omega)];omega
     have hb:x<100000:=by
      have q:(10:Int) ^ 0=1∧(10:Int) ^ 1=10∧(10:Int) ^ 2=100∧(10:Int) ^ 3=1000∧(10:Int) ^ 4=10000:=by decide
      have q2:a-f=0∨a-f=1∨a-f=2∨a-f=3∨a-f=4:=by omega
      rcases q2 with e|e|e|e|e<;>rw[e]at hx2<;>omega
     have w2:IntKind.i64.wrap (10*x)=10*x:=ao (by omega) (by omega)
     have w3:IntKind.i64.wrap (c.toNat:Int)=(c.toNat:Int):=ao (by omega) (by omega)
     have w4:IntKind.i64.wrap (10*x+(c.toNat:Int))=10*x+(c.toNat:Int):=ao (by omega) (by omega)
     have w5:IntKind.i64.wrap (10*x+(c.toNat:Int)-48)=10*x+(c.toNat:Int)-48:=ao (by omega) (by omega)
     have e4:5-(a-f)=(5-(a+1-f))+1:=by omega
     have hp:(10:Int) ^ (a+1-f)=10*10 ^ (a-f):=by
      rw[show a+1-f=(a-f)+1 by omega,Int.pow_succ,Int.mul_comm]
     rw[decide_eq_true (by omega:((a-f:Nat):Int)<5),cond_true,w1,w2,w3,w4,w5,zU hT f r (a+1) m (10*x+(c.toNat:Int)-48) h3 (by omega) (by omega) (by omega) (by simp at hm;omega) (by omega) (by rw[hp];omega),e4,List.take_succ_cons,List.length_cons]
     congr 3
     omega
    ·rw[decide_eq_false (by omega:¬((a-f:Nat):Int)<5),cond_false,show 5-(a-f)=0 by omega]
     rfl
   ·rw[decide_eq_true (by omega:(c.toNat:Int)≥48),decide_eq_false (by omega:¬(c.toNat:Int)≤57),stop (by rw[←Bool.not_eq_true,m7];omega),List.take_nil];rfl
  ·rw[decide_eq_false (by omega:¬(c.toNat:Int)≥48),stop (by rw[←Bool.not_eq_true,m7];omega),List.take_nil];rfl
theorem FR{T:ByteArray}(hT:T.size≤100000){a:Nat}(ha:a≤T.size):(∃u:Nat,u<10000∧((bs T).drop a).takeWhile iM=pF u∧iH N0 (T,(a:Int))=some ((u:Int),((a+(pF u).length:Nat):Int),true)) ∨
  ((∀u:Nat,u<10000→((bs T).drop a).takeWhile iM≠pF u)∧iH N0 (T,(a:Int))=some ((0:Int),(0:Int),false)):=by
 have hl:((bs T).drop a).length≤100000:=by rw[List.length_drop,kq];omega
 have h:=zU hT a _ a N0 0 rfl ha (Nat.le_refl _) (by omega) (by have:=n0;omega) (by omega) (by rw[Nat.sub_self];decide)
 rw[Nat.sub_self,Nat.sub_zero]at h
 unfold iH
 dsimp only
 rw[h,Option.bind_some]
 dsimp only
 have hall:∀c∈((bs T).drop a).takeWhile iM,iM c=true:=fun c hc=>by
  have:=List.all_eq_true.1 (List.all_takeWhile (p:=iM) (l:=(bs T).drop a)) c hc
  exact this
 have hhead:∀c r,((bs T).drop a).takeWhile iM=c::r→∃r',(bs T).drop a=c::r':=fun c r q=>by
  cases hd:(bs T).drop a with
  |nil=>rw[hd]at q;cases q
  |cons c' r' =>
   rw[hd]at q
   cases hc:iM c' with
   |false=>rw[List.takeWhile_cons_of_neg (by rw[hc];decide)]at q;cases q
   |true =>
    rw[List.takeWhile_cons_of_pos hc]at q
    injection q with q1 q2
    exact⟨r',by rw[q1]⟩
 have hlen:(((bs T).drop a).takeWhile iM).length≤T.size-a:=by
  have:=(List.takeWhile_prefix (l:=(bs T).drop a) iM).length_le
  rw[List.length_drop,kq]at this
  exact this
 generalize hD:((bs T).drop a).takeWhile iM=D at h hall hhead hlen ⊢
 match D,hall,hhead,hlen with
 |[],_,_,_ =>
  refine .inr ⟨fun u _ q=>Ka u q.symm,?_⟩
  rw[show((a+(([]:List UInt8).take 5).length:Nat):Int)=(a:Int)from rfl,beq_self_eq_true,cond_true]
 |[c],hall,hhead,hlen =>
  obtain⟨i,i1,i2,rfl⟩:=gO (hall c (by simp))
  obtain⟨r',hr⟩:=hhead _ _ rfl
  obtain⟨b1,b2,_⟩:=bb hr
  have e1:(([dg i]:List UInt8).take 5).length=1:=rfl
  have e2:vQ 0 (([dg i]:List UInt8).take 5)=((i:Nat):Int):=by show 10*0+((dg i).toNat:Int)-48=_;omega
  have e3:IntKind.i64.wrap (((a+1:Nat):Int)-(a:Int))=1:=by rw[ao (by omega) (by omega)];omega
  rw[e1,e2,e3,show(((a+1:Nat):Int)==(a:Int))=false from by rw[beq_eq_false_iff_ne];omega,cond_false,ax b1]
  have e:pF i=[dg i]:=Mc ⟨i,i1⟩
  refine .inl ⟨i,by omega,e.symm,?_⟩
  rw[e]
  cases(bt T (a:Int)==48)<;>rfl
 |[c,d],hall,hhead,hlen =>
  obtain⟨i,i1,i2,rfl⟩:=gO (hall c (by simp))
  obtain⟨j,j1,j2,rfl⟩:=gO (hall d (by simp))
  obtain⟨r',hr⟩:=hhead _ _ rfl
  obtain⟨b1,b2,_⟩:=bb hr
  have e1:(([dg i,dg j]:List UInt8).take 5).length=2:=rfl
  have e2:vQ 0 (([dg i,dg j]:List UInt8).take 5)=((10*i+j:Nat):Int):=by show 10*(10*0+((dg i).toNat:Int)-48)+((dg j).toNat:Int)-48=_;omega
  have e3:IntKind.i64.wrap (((a+2:Nat):Int)-(a:Int))=2:=by rw[ao (by omega) (by omega)];omega
  rw[e1,e2,e3,show(((a+2:Nat):Int)==(a:Int))=false from by rw[beq_eq_false_iff_ne];omega,cond_false,ax b1]
  by_cases h0:i=0
  ·subst h0
   refine .inr ⟨fun u hu q=>yq hu (by rw[←q];simp) (by rw[←q];rfl),?_⟩
   rw[show(bt T (a:Int)==48)=true from by rw[beq_iff_eq,b2];omega];rfl
  ·have e:pF (10*i+j)=[dg i,dg j]:=Mb ⟨i,i1⟩ ⟨j,j1⟩ h0
   refine .inl ⟨10*i+j,by omega,e.symm,?_⟩
   rw[show(bt T (a:Int)==48)=false from by rw[beq_eq_false_iff_ne,b2];omega,e];rfl
 |[c,d,e],hall,hhead,hlen =>
  obtain⟨i,i1,i2,rfl⟩:=gO (hall c (by simp))
  obtain⟨j,j1,j2,rfl⟩:=gO (hall d (by simp))
  obtain⟨k,k1,k2,rfl⟩:=gO (hall e (by simp))
  obtain⟨r',hr⟩:=hhead _ _ rfl
  obtain⟨b1,b2,_⟩:=bb hr
  have e1:(([dg i,dg j,dg k]:List UInt8).take 5).length=3:=rfl
  have e2:vQ 0 (([dg i,dg j,dg k]:List UInt8).take 5)=((10*(10*i+j)+k:Nat):Int):=by show 10*(10*(10*0+((dg i).toNat:Int)-48)+((dg j).toNat:Int)-48)+((dg k).toNat:Int)-48=_;omega
  have e3:IntKind.i64.wrap (((a+3:Nat):Int)-(a:Int))=3:=by rw[ao (by omega) (by omega)];omega
  rw[e1,e2,e3,show(((a+3:Nat):Int)==(a:Int))=false from by rw[beq_eq_false_iff_ne];omega,cond_false,ax b1]
  by_cases h0:i=0
  ·subst h0
   refine .inr ⟨fun u hu q=>yq hu (by rw[←q];simp) (by rw[←q];rfl),?_⟩
   rw[show(bt T (a:Int)==48)=true from by rw[beq_iff_eq,b2];omega];rfl
  ·have e:pF (10*(10*i+j)+k)=[dg i,dg j,dg k]:=Ma ⟨i,i1⟩ ⟨j,j1⟩ ⟨k,k1⟩ h0
   refine .inl ⟨10*(10*i+j)+k,by omega,e.symm,?_⟩
   rw[show(bt T (a:Int)==48)=false from by rw[beq_eq_false_iff_ne,b2];omega,e];rfl
 |[c,d,e,f],hall,hhead,hlen =>
  obtain⟨i,i1,i2,rfl⟩:=gO (hall c (by simp))
  obtain⟨j,j1,j2,rfl⟩:=gO (hall d (by simp))
  obtain⟨k,k1,k2,rfl⟩:=gO (hall e (by simp))
  obtain⟨l,l1,l2,rfl⟩:=gO (hall f (by simp))
  obtain⟨r',hr⟩:=hhead _ _ rfl
  obtain⟨b1,b2,_⟩:=bb hr
  have e1:(([dg i,dg j,dg k,dg l]:List UInt8).take 5).length=4:=rfl
  have e2:vQ 0 (([dg i,dg j,dg k,dg l]:List UInt8).take 5)=((10*(10*(10*i+j)+k)+l:Nat):Int):=by show 10*(10*(10*(10*0+((dg i).toNat:Int)-48)+((dg j).toNat:Int)-48)+((dg k).toNat:Int)-48)+((dg l).toNat:Int)-48=_;omega
  have e3:IntKind.i64.wrap (((a+4:Nat):Int)-(a:Int))=4:=by rw[ao (by omega) (by omega)];omega
  rw[e1,e2,e3,show(((a+4:Nat):Int)==(a:Int))=false from by rw[beq_eq_false_iff_ne];omega,cond_false,ax b1]
  by_cases h0:i=0
  ·subst h0
   refine .inr ⟨fun u hu q=>yq hu (by rw[←q];simp) (by rw[←q];rfl),?_⟩
   rw[show(bt T (a:Int)==48)=true from by rw[beq_iff_eq,b2];omega];rfl
  ·have e:pF (10*(10*(10*i+j)+k)+l)=[dg i,dg j,dg k,dg l]:=L9 ⟨i,i1⟩ ⟨j,j1⟩ ⟨k,k1⟩ ⟨l,l1⟩ h0
   refine .inl ⟨10*(10*(10*i+j)+k)+l,by omega,e.symm,?_⟩
   rw[show(bt T (a:Int)==48)=false from by rw[beq_eq_false_iff_ne,b2];omega,e];rfl
 |c::d::e::f::g::r,hall,hhead,hlen =>
  refine .inr ⟨fun u hu q=>?_,?_⟩
  ·have:=CU u
   rw[←q]at this
   simp at this
  ·have e1:((c::d::e::f::g::r).take 5).length=5:=rfl
   simp only[List.length_cons]at hlen
   have e3:IntKind.i64.wrap (((a+5:Nat):Int)-(a:Int))=5:=by rw[ao (by omega) (by omega)];omega
   rw[e1,e3,show(((a+5:Nat):Int)==(a:Int))=false from by rw[beq_eq_false_iff_ne];omega];rfl
def RS:ByteArray:=⟨#[64,60,62,33,111,120]⟩
abbrev UR:=ByteArray×Int×Int×ByteArray×Bool×Bool×List Int×List ae×Int
abbrev QT:=List ae×Int×Int×Int
def nL (kn:List Int) (xs:List ae):Prop:=kn.length≤4294967296∧∀u,u<kn.length→cU xs (kn.getD u 0)=true
inductive nM (kn:List Int) (xs:List ae):Int→Prop
 |know{t:Int}(u:Nat) (h:u<kn.length) (e:kn.getD u 0=t):nM kn xs t
 |pub{t:Int}(h:cU xs t=true) (k:(xs.getD t.toNat aM).1=1) (a:0≤(xs.getD t.toNat aM).2.1) (b:(xs.getD t.toNat aM).2.1≤49):nM kn xs t
 |one{t:Int}(h:cU xs t=true) (k:(xs.getD t.toNat aM).1=5∨(xs.getD t.toNat aM).1=7) (a:nM kn xs (xs.getD t.toNat aM).2.1):nM kn xs t
 |two{t:Int}(h:cU xs t=true) (k:(xs.getD t.toNat aM).1=2∨(xs.getD t.toNat aM).1=3∨(xs.getD t.toNat aM).1=4∨(xs.getD t.toNat aM).1=6∨(xs.getD t.toNat aM).1=8) (a:nM kn xs (xs.getD t.toNat aM).2.1) (b:nM kn xs (xs.getD t.toNat aM).2.2):nM kn xs t
 |share{t x p:Int}(h:cU xs t=true) (hp:cU xs p=true) (k:(xs.getD t.toNat aM).1=8) (kp:(xs.getD p.toNat aM).1=7) (e:((xs.getD t.toNat aM).2.1=x∧(xs.getD t.toNat aM).2.2=(xs.getD p.toNat aM).2.1)∨((xs.getD t.toNat aM).2.2=x∧(xs.getD t.toNat aM).2.1=(xs.getD p.toNat aM).2.1)) (a:nM kn xs x) (b:nM kn xs p):nM kn xs t
 |left{p:Int}(h:cU xs p=true) (k:(xs.getD p.toNat aM).1=2) (a:nM kn xs p):nM kn xs (xs.getD p.toNat aM).2.1
 |right{p:Int}(h:cU xs p=true) (k:(xs.getD p.toNat aM).1=2) (a:nM kn xs p):nM kn xs (xs.getD p.toNat aM).2.2
 |sign{p:Int}(h:cU xs p=true) (k:(xs.getD p.toNat aM).1=4) (a:nM kn xs p):nM kn xs (xs.getD p.toNat aM).2.1
 |open_{p:Int}(h:cU xs p=true) (k:(xs.getD p.toNat aM).1=3) (a:nM kn xs p) (b:nM kn xs (xs.getD p.toNat aM).2.2):nM kn xs (xs.getD p.toNat aM).2.1
theorem bo{xs:List ae}{v:Int}:cU xs v=true↔0≤v∧v<(xs.length:Int):=by
 unfold cU
 rw[Bool.and_eq_true,decide_eq_true_iff,decide_eq_true_iff]
 omega
theorem eW{xs zs:List ae}{v:Int}(h:cU xs v=true):cU (xs++zs) v=true:=by
 rw[bo]at h ⊢
 rw[List.length_append]
 omega
theorem iZ{xs zs:List ae}{v:Int}(h:cU xs v=true):(xs++zs).getD v.toNat aM=xs.getD v.toNat aM:=by
 rw[bo]at h
 exact Gc (by omega) aM
theorem nM.mono{kn:List Int}{xs:List ae}(zs:List ae){t:Int}(h:nM kn xs t):nM kn (xs++zs) t:=by
 induction h with
 |know u h e=>exact .know u h e
 |pub h k a b=>rw[←iZ (zs:=zs) h]at k a b;exact .pub (eW h) k a b
 |one h k a ih=>rw[←iZ (zs:=zs) h]at k ih;exact .one (eW h) k ih
 |two h k a b ia ib=>rw[←iZ (zs:=zs) h]at k ia ib;exact .two (eW h) k ia ib
 |share h hp k kp e a b ia ib=>rw[←iZ (zs:=zs) h]at k e;rw[←iZ (zs:=zs) hp]at kp e;exact .share (eW h) (eW hp) k kp e ia ib
 |left h k a ih=>rw[←iZ (zs:=zs) h]at k ⊢;exact .left (eW h) k ih
 |right h k a ih=>rw[←iZ (zs:=zs) h]at k ⊢;exact .right (eW h) k ih
 |sign h k a ih=>rw[←iZ (zs:=zs) h]at k ⊢;exact .sign (eW h) k ih
 |open_ h k a b ia ib=>rw[←iZ (zs:=zs) h]at k ib ⊢;exact .open_ (eW h) k ia ib
theorem nL.mono{kn:List Int}{xs:List ae}(zs:List ae) (h:nL kn xs):nL kn (xs++zs):=⟨h.1,fun u hu=>eW (h.2 u hu)⟩
theorem fD{xs ys:List ae}{kd a b t:Int}(hp:aw xs=true) (h:jj xs kd a b=some (ys,t)):aw ys=true∧0≤t∧t<(ys.length:Int)∧(∃zs,ys=xs++zs)∧ys.getD t.toNat aM=mg kd a b:=xF hp h
theorem zW{k a b:Int}{i:Nat}(hi:i≤4294967296) (h:dm N0 (k,a,b,(i:Int))=true):(k=1∧0≤a∧a≤199)∨((k=5∨k=7)∧0≤a∧a<(i:Int))∨((k=2∨k=3∨k=4∨k=6∨k=8)∧0≤a∧a<(i:Int)∧0≤b∧b<(i:Int)):=by
 have w:IntKind.i64.wrap ((i:Int)-(1:Int))=(i:Int)-1:=ao (by omega) (by omega)
 have hr:∀v lo hi:Int,aE N0 (v,lo,hi)=some (decide (v≥lo)&&decide (v≤hi)):=fun v lo hi=>by
  unfold aE
  cases q:decide (v≥lo)<;>(simp[q])
 have hk:dm N0 (k,a,b,(i:Int))=(aQ N0 (k,a,b,(i:Int))).getD false:=rfl
 rw[hk]at h
 unfold aQ at h
 dsimp only at h
 rw[w,hr,hr,hr]at h
 by_cases h1:k=1
 ·subst h1
  rw[show aH N0 1=some 0 from rfl]at h
  left
  cases q:(decide (a≥0)&&decide (a≤199))with
  |false=>simp only[Option.bind_some,beq_self_eq_true,cond_true,q]at h;cases h
  |true =>
   rw[Bool.and_eq_true,decide_eq_true_iff,decide_eq_true_iff]at q
   exact⟨rfl,q.1,q.2⟩
 by_cases h5:k=5∨k=7
 ·right;left
  have hc:aH N0 k=some 1:=by rcases h5 with rfl|rfl<;>rfl
  rw[hc]at h
  cases q:(decide (a≥0)&&decide (a≤(i:Int)-1))with
  |false=>simp only[Option.bind_some,show((1:Int)==0)=false from rfl,beq_self_eq_true,cond_true,cond_false,q]at h;cases h
  |true =>
   rw[Bool.and_eq_true,decide_eq_true_iff,decide_eq_true_iff]at q
   exact⟨h5,q.1,by omega⟩
 by_cases h2:k=2∨k=3∨k=4∨k=6∨k=8
 ·right;right
  have hc:aH N0 k=some 2:=by rcases h2 with rfl|rfl|rfl|rfl|rfl<;>rfl
  rw[hc]at h
  cases q:(decide (a≥0)&&decide (a≤(i:Int)-1))with
  |false=>simp only[Option.bind_some,show((2:Int)==0)=false from rfl,show((2:Int)==1)=false from rfl,beq_self_eq_true,cond_true,cond_false,q]at h;cases h
  |true =>
   cases q2:(decide (b≥0)&&decide (b≤(i:Int)-1))with
   |false=>simp only[Option.bind_some,show((2:Int)==0)=false from rfl,show((2:Int)==1)=false from rfl,beq_self_eq_true,cond_true,cond_false,q,q2]at h;cases h
   |true =>
    rw[Bool.and_eq_true,decide_eq_true_iff,decide_eq_true_iff]at q q2
    exact⟨h2,q.1,by omega,q2.1,by omega⟩
 exfalso
 have hc:∃c,aH N0 k=some c∧c≠0∧c≠1∧c≠2:=by
  unfold aH
  simp only[show(k==1)=false from by rw[beq_eq_false_iff_ne];exact h1,show(k==2)=false from by rw[beq_eq_false_iff_ne];omega,show(k==3)=false from by rw[beq_eq_false_iff_ne];omega,show(k==4)=false from by rw[beq_eq_false_iff_ne];omega,show(k==5)=false from by rw[beq_eq_false_iff_ne];omega,show(k==6)=false from by rw[beq_eq_false_iff_ne];omega,show(k==7)=false from by rw[beq_eq_false_iff_ne];omega,show(k==8)=false from by rw[beq_eq_false_iff_ne];omega,cond_false]
  exact⟨_,rfl,by decide,by decide,by decide⟩
 obtain⟨c,hc,c0,c1,c2⟩:=hc
 rw[hc]at h
 simp only[Option.bind_some,show(c==0)=false from by rw[beq_eq_false_iff_ne];exact c0,show(c==1)=false from by rw[beq_eq_false_iff_ne];exact c1,show(c==2)=false from by rw[beq_eq_false_iff_ne];exact c2,cond_false]at h
 cases h
theorem oP{m:List ae}{p:Int}(hp:aw m=true) (h:cU m p=true) (hk:(m.getD p.toNat aM).1=2∨(m.getD p.toNat aM).1=3∨(m.getD p.toNat aM).1=4∨(m.getD p.toNat aM).1=6∨(m.getD p.toNat aM).1=8):cU m (m.getD p.toNat aM).2.1=true∧cU m (m.getD p.toNat aM).2.2=true:=by
 have h2:=bo.1 h
 have hl:=ap hp
 have:=zW (by omega) (j7 hp (j:=p.toNat) (by omega))
 rw[bo,bo]
 rcases this with⟨q,_⟩|⟨q,_⟩|⟨_,q1,q2,q3,q4⟩
 ·rw[q]at hk;omega
 ·rcases q with q|q<;>(rw[q]at hk;omega)
 ·omega
theorem BL{kn:List Int}{ys:List ae}{p q t:Int}(ht:cU ys t=true) (g:ys.getD t.toNat aM=mg 8 p q) (dp:nM kn ys p) (dq:nM kn ys q):nM kn ys t:=by
 have hn:mg 8 p q=(8,(mn p q,mx p q)):=rfl
 rw[hn]at g
 refine .two ht (by rw[g];exact .inr (.inr (.inr (.inr rfl)))) ?_ ?_
 ·rw[g]
  show nM kn ys (mn p q)
  unfold mn
  split<;>assumption
 ·rw[g]
  show nM kn ys (mx p q)
  unfold mx
  split<;>assumption
theorem Es{kn:List Int}{m ys z:List ae}{p q t:Int}(hm:aw m=true) (ht:cU ys t=true) (g:ys.getD t.toNat aM=mg 8 p (m.getD q.toNat aM).2.1) (e:ys=m++z) (hk:(m.getD q.toNat aM).1=7) (hq:cU m q=true) (dp:nM kn m p) (dq:nM kn m q):nM kn ys t:=by
 subst e
 have eq:=iZ (zs:=z) hq
 have hn:mg 8 p (m.getD q.toNat aM).2.1=(8,(mn p (m.getD q.toNat aM).2.1,mx p (m.getD q.toNat aM).2.1)):=rfl
 rw[hn]at g
 refine .share (x:=p) (p:=q) ht (eW hq) (by rw[g]) (by rw[eq];exact hk) ?_ (dp.mono z) (dq.mono z)
 rw[g,eq]
 show(mn p _=p∧mx p _=_)∨(mx p _=p∧mn p _=_)
 unfold mn mx
 split
 ·split
  ·omega
  ·exact .inr ⟨rfl,rfl⟩
 ·split
  ·exact .inl ⟨rfl,rfl⟩
  ·left;omega
def RB (T:ByteArray) (a:Nat) (kn:List Int) (xs:List ae) (ri:Option UR) (rs:Option QT):Prop :=
 (∃(a':Nat) (ys:List ae) (t:Int),ri=some (T,(a':Int),(0:Int),RS,false,false,kn,ys,t)∧rs=some (ys,t,(a':Int),(0:Int))∧a<a'∧a'≤T.size∧aw ys=true∧cU ys t=true∧(∃zs,ys=xs++zs)∧nM kn ys t) ∨
 (∃(a':Nat) (c:Int) (m1 m2:List ae),c≠0∧a'≤T.size∧ri=some (T,(a':Int),c,RS,false,false,kn,m1,(-1:Int))∧rs=some (m2,(-1:Int),(a':Int),c))
theorem rK{T:ByteArray}{a c:Int}(hc:c≠0) (kn:List Int) (xs:List ae){j:Nat}(hj:0<j):ac N0 j (T,a,c,RS,false,false,kn,xs)=some (T,a,c,RS,false,false,kn,xs,(-1:Int)):=by
 obtain⟨i,rfl⟩:∃i,j=i+1:=⟨j-1,by omega⟩
 show af N0 (ac N0 i) (T,a,c,RS,false,false,kn,xs)=_
 unfold af
 dsimp only
 rw[show(c != 0)=true from by rw[bne_iff_ne];exact hc,cond_true]
theorem oH{T:ByteArray}{a k:Int}(h:k≠0) (M:ByteArray) (e:Int):aO N0 (T,a,k,M,e)=some (T,a,k,M):=by
 unfold aO
 dsimp only
 rw[show(k != 0)=true from by rw[bne_iff_ne];exact h];rfl
theorem qB{T:ByteArray}{a c:Int}(hc:c≠0) (kn:List Int) (xs:List ae){j:Nat}(hj:0<j){e:Int}:aU N0 (ac N0 j) (T,a,c,RS,false,false,e,kn,xs)=some (T,a,c,RS,false,false,kn,xs,[(-1:Int),(-1:Int)]):=by
 unfold aU
 dsimp only
 simp only[rK hc kn xs hj,oH hc,Option.bind_some]
theorem kW{T:ByteArray}(hT:T.size≤100000){a:Nat}(ha:a≤T.size) (M:ByteArray) (e:Int):(aO N0 (T,(a:Int),(0:Int),M,e)=some (T,((a+1:Nat):Int),(0:Int),M)∧aN N0 (T,(a:Int),e)=some (((a+1:Nat):Int),(0:Int))∧a+1≤T.size∧bt T (a:Int)=e) ∨
  (∃(b:Nat) (c:Int),c≠0∧b≤T.size∧aO N0 (T,(a:Int),(0:Int),M,e)=some (T,(b:Int),c,M)∧aN N0 (T,(a:Int),e)=some ((b:Int),c)):=by
 have z0:((0:Int) != 0)=false:=rfl
 unfold aO aN
 dsimp only
 cases hd:(bs T).drop a with
 |nil =>
  have h1:=my hd
  have hz:decide ((a:Int)≥(T.size:Int))=true:=decide_eq_true (by omega)
  right
  refine⟨T.size,2,by decide,Nat.le_refl _,?_,?_⟩
  ·simp only[z0,hz,cond_true,cond_false,aa,beq_self_eq_true,Option.bind_some]
  ·rw[hz,cond_true]
 |cons c r =>
  obtain⟨h1,h2,h3⟩:=bb hd
  have hz:decide ((a:Int)≥(T.size:Int))=false:=decide_eq_false (by omega)
  have hin:=ax h1
  have w1:IntKind.i64.wrap ((a:Int)+1)=((a+1:Nat):Int):=by rw[ao (by omega) (by omega)];omega
  by_cases he:bt T (a:Int)=e
  ·left
   have hb:(bt T (a:Int) != e)=false:=by rw[he];exact bne_self_eq_false' e
   refine⟨?_,?_,by omega,he⟩
   ·simp only[z0,hz,hin,hb,w1,cond_true,cond_false]
   ·simp only[hz,hin,hb,w1,cond_true,cond_false]
  ·right
   have hb:(bt T (a:Int) != e)=true:=by rw[bne_iff_ne];exact he
   refine⟨a,3,by decide,ha,?_,?_⟩
   ·simp only[z0,hz,hin,hb,cond_true,cond_false,aa,beq_self_eq_true,Option.bind_some]
   ·simp only[hz,hin,hb,cond_true,cond_false]
theorem jr{T:ByteArray}(hT:T.size≤100000){kn:List Int}{j1 j2:Nat}(hj:0<j1){n:Nat}(ih:∀(a:Nat) (xs:List ae),T.size-a≤n→a≤T.size→aw xs=true→nL kn xs→RB T a kn xs (ac N0 j1 (T,(a:Int),(0:Int),RS,false,false,kn,xs)) (ai N0 j2 (xs,kn,T,(a:Int))))
  (e:Int){a:Nat}{xs:List ae}(hn:T.size-a≤n) (ha:a≤T.size) (hp:aw xs=true) (hk:nL kn xs) :
  (∃(a':Nat) (ys:List ae) (p q:Int),aU N0 (ac N0 j1) (T,(a:Int),(0:Int),RS,false,false,e,kn,xs)=some (T,(a':Int),(0:Int),RS,false,false,kn,ys,[p,q])∧cG N0 (ai N0 j2) (xs,kn,T,(a:Int),false,e)=some (ys,p,q,(a':Int),(0:Int)) ∧
   a<a'∧a'≤T.size∧aw ys=true∧cU ys p=true∧cU ys q=true∧(∃zs,ys=xs++zs)∧nM kn ys p∧nM kn ys q) ∨
  (∃(a':Nat) (c:Int) (m1:List ae) (ps:List Int) (m2:List ae) (x y:Int),c≠0∧a'≤T.size∧aU N0 (ac N0 j1) (T,(a:Int),(0:Int),RS,false,false,e,kn,xs)=some (T,(a':Int),c,RS,false,false,kn,m1,ps)∧cG N0 (ai N0 j2) (xs,kn,T,(a:Int),false,e)=some (m2,x,y,(a':Int),c)):=by
 unfold aU cG
 dsimp only
 simp only[cond_false,show((0:Int)==0)=true from rfl,cond_true]
 rcases ih a xs hn ha hp hk with⟨b,ys,p,r1,r2,r3,r4,r5,r6,⟨z,rfl⟩,r8⟩|⟨b,c,m1,m2,r0,r1,r2,r3⟩
 ·rw[r1,r2]
  simp only[Option.bind_some,show((0:Int)==0)=true from rfl,cond_true]
  rcases kW hT r4 RS 44 with⟨t1,t2,t3,_⟩|⟨b2,c2,t0,t1,t2,t3⟩
  ·rw[t1,t2]
   simp only[Option.bind_some,show((0:Int)==0)=true from rfl,cond_true]
   rcases ih (b+1) (xs++z) (by omega) t3 r5 (hk.mono z)with⟨b',ys',q,s1,s2,s3,s4,s5,s6,⟨z',rfl⟩,s8⟩|⟨b',c,m1,m2,s0,s1,s2,s3⟩
   ·rw[s1,s2]
    simp only[Option.bind_some,show((0:Int)==0)=true from rfl,cond_true]
    rcases kW hT s4 RS e with⟨u1,u2,u3,_⟩|⟨b2,c2,u0,u1,u2,u3⟩
    ·rw[u1,u2]
     exact .inl ⟨b'+1,_,p,q,rfl,rfl,by omega,u3,s5,eW r6,s6,⟨z++z',by rw[List.append_assoc]⟩,r8.mono z',s8⟩
    ·rw[u2,u3]
     exact .inr ⟨b2,c2,_,_,_,_,_,u0,u1,rfl,rfl⟩
   ·rw[s2,s3]
    simp only[Option.bind_some,oH s0,show(c==0)=false from by rw[beq_eq_false_iff_ne];exact s0,cond_false]
    exact .inr ⟨b',c,_,_,_,_,_,s0,s1,rfl,rfl⟩
  ·rw[t2,t3]
   simp only[Option.bind_some,rK t0 kn (xs++z) hj,oH t0,show(c2==0)=false from by rw[beq_eq_false_iff_ne];exact t0,cond_false]
   exact .inr ⟨b2,c2,_,_,_,_,_,t0,t1,rfl,rfl⟩
 ·rw[r2,r3]
  simp only[Option.bind_some,oH r0,rK r0 kn m1 hj,show(c==0)=false from by rw[beq_eq_false_iff_ne];exact r0,cond_false]
  exact .inr ⟨b,c,_,_,_,_,_,r0,r1,rfl,rfl⟩
theorem oF{T:ByteArray}{a b e:Int}{kn:List Int}{xs:List ae}{rec_:List ae×List Int×ByteArray×Int→Option QT}(h:aN N0 (T,a,40)=some (b,0)):cG N0 rec_ (xs,kn,T,a,true,e)=cG N0 rec_ (xs,kn,T,b,false,e):=by
 unfold cG
 dsimp only
 rw[h]
 rfl
theorem oE{T:ByteArray}{a b e c:Int}{kn:List Int}{xs:List ae}{rec_:List ae×List Int×ByteArray×Int→Option QT}(h:aN N0 (T,a,40)=some (b,c)) (hc:c≠0):cG N0 rec_ (xs,kn,T,a,true,e)=some (xs, -1, -1,b,c):=by
 unfold cG
 dsimp only
 rw[h,cond_true,Option.bind_some]
 dsimp only
 rw[show(c==0)=false from by rw[beq_eq_false_iff_ne];exact hc]
 rfl
theorem Id (x:Int):eM N0 x=some (decide (x≥0)&&decide (x≤49)):=by
 unfold eM aE
 cases decide (x≥0)<;>cases decide (x≤49)<;>rfl
theorem Ic (x:Int):aB N0 x=some (decide (x≥0)&&decide (x≤49)):=by
 unfold aB cq
 cases decide (x≥0)<;>cases decide (x≤49)<;>rfl
theorem jt (b:Int):az N0 (b,RS)=some ((64==b) || ((60==b) || ((62==b) || ((33==b) || ((111==b) || (120==b)))))):=by
 rw[lq (by decide)]
 show some ([64,60,62,33,111,120].any _)=_
 simp[List.any_cons,Bool.or_false]
theorem BC{T:ByteArray}(hT:T.size≤100000){a:Nat}(ha:a≤T.size) (M:ByteArray) (from_:Int):(∃u:Nat,u<200∧((bs T).drop a).takeWhile iM=pG u∧di N0 (T,(a:Int),(0:Int),M,from_)=some (T,((a+(pG u).length:Nat):Int),(0:Int),M,(u:Int))) ∨
  ((∀u:Nat,u<200→((bs T).drop a).takeWhile iM≠pG u)∧di N0 (T,(a:Int),(0:Int),M,from_)=some (T,from_,(4:Int),M,(-1:Int))):=by
 have h:=IM hT ha (0:Int) M
 unfold di
 dsimp only
 rw[h,Option.bind_some]
 dsimp only
 rw[iv,Option.bind_some]
 rcases Gh (((bs T).drop a).takeWhile iM)with⟨u,h1,h2,h3⟩|⟨h1,h2⟩
 ·refine .inl ⟨u,h1,h2,?_⟩
  have:(decide (wa (((bs T).drop a).takeWhile iM)≥0)&&decide (wa (((bs T).drop a).takeWhile iM)≤199))=true:=by
   rw[h3,Bool.and_eq_true,decide_eq_true_iff,decide_eq_true_iff]
   omega
  rw[this,h3,h2];rfl
 ·refine .inr ⟨h1,?_⟩
  rw[h2];rfl
theorem Ci{p:UInt8→Bool}:∀{l:List UInt8}{c:UInt8},c∈l.takeWhile p→p c=true
 |[],c,h=>by cases h
 |d::l,c,h=>by
  rw[List.takeWhile_cons]at h
  cases q:p d with
  |false=>rw[q]at h;cases h
  |true =>
   rw[q]at h
   rcases List.mem_cons.1 h with e|e
   ·rw[e];exact q
   ·exact Ci e
theorem p6 (b:Int):az N0 (b,(⟨#[64,36,63]⟩:ByteArray))=some ((64==b) || ((36==b) || (63==b))):=by
 rw[lq (by decide)]
 show some ((64==b) || ((36==b) || ((63==b) || false)))=_
 rw[Bool.or_false]
theorem pZ (b:Int):az N0 (b,(⟨#[40,123,91]⟩:ByteArray))=some ((40==b) || ((123==b) || (91==b))):=by
 rw[lq (by decide)]
 show some ((40==b) || ((123==b) || ((91==b) || false)))=_
 rw[Bool.or_false]
theorem pY (b:Int):az N0 (b,(⟨#[35,94]⟩:ByteArray))=some ((35==b) || (94==b)):=by
 rw[lq (by decide)]
 show some ((35==b) || ((94==b) || false))=_
 rw[Bool.or_false]
theorem pX (b:Int):az N0 (b,(⟨#[60,62,33]⟩:ByteArray))=some ((60==b) || ((62==b) || (33==b))):=by
 rw[lq (by decide)]
 show some ((60==b) || ((62==b) || ((33==b) || false)))=_
 rw[Bool.or_false]
theorem pW (b:Int):az N0 (b,(⟨#[107,42]⟩:ByteArray))=some ((107==b) || (42==b)):=by
 rw[lq (by decide)]
 show some ((107==b) || ((42==b) || false))=_
 rw[Bool.or_false]
theorem pV (b:Int):az N0 (b,(⟨#[111,120]⟩:ByteArray))=some ((111==b) || (120==b)):=by
 rw[lq (by decide)]
 show some ((111==b) || ((120==b) || false))=_
 rw[Bool.or_false]
theorem wy{T:ByteArray}{a:Nat}(h:(bs T).drop a=[]) (kn:List Int) (xs:List ae){j1 j2:Nat}(h1:0<j1) (h2:0<j2):RB T a kn xs (ac N0 j1 (T,(a:Int),(0:Int),RS,false,false,kn,xs)) (ai N0 j2 (xs,kn,T,(a:Int))):=by
 obtain⟨i1,rfl⟩:∃i,j1=i+1:=⟨j1-1,by omega⟩
 obtain⟨i2,rfl⟩:∃i,j2=i+1:=⟨j2-1,by omega⟩
 have hs:=my h
 have hd:decide ((a:Int)≥(T.size:Int))=true:=decide_eq_true (by omega)
 refine .inr ⟨T.size,2,xs,xs,by decide,Nat.le_refl _,?_,?_⟩
 ·show af N0 (ac N0 i1) _=_
  unfold af
  dsimp only
  rw[show((0:Int) != 0)=false from rfl,cond_false,zH h,Option.bind_some]
  dsimp only
  rw[hd,cond_true];rfl
 ·show ak N0 (ai N0 i2) _=_
  unfold ak
  dsimp only
  rw[hd,cond_true]
section
variable{T:ByteArray}{a:Nat}{c:UInt8}{r:List UInt8}{kn:List Int}{xs:List ae}{i1 i2 n:Nat}
theorem Fi (hT:T.size≤100000) (hd:(bs T).drop a=c::r) (hp:aw xs=true) (hk:nL kn xs) (hv:(c.toNat:Int)=64):RB T a kn xs (ac N0 (i1+1) (T,(a:Int),(0:Int),RS,false,false,kn,xs)) (ai N0 (i2+1) (xs,kn,T,(a:Int))):=by
 obtain⟨h1,h2,h3⟩:=bb hd
 have z0:((0:Int) != 0)=false:=rfl
 have hz:decide ((a:Int)≥(T.size:Int))=false:=decide_eq_false (by omega)
 have hin:=ax h1
 have w1:IntKind.i64.wrap ((a:Int)+1)=((a+1:Nat):Int):=by rw[ao (by omega) (by omega)];omega
 rw[hv]at h2
 have pk:=cW hd 0 RS
 rw[hv]at pk
 have hl:=ap hp
 show RB T a kn xs (af N0 (ac N0 i1) (T,(a:Int),(0:Int),RS,false,false,kn,xs)) (ak N0 (ai N0 i2) (xs,kn,T,(a:Int)))
 unfold af ak
 simp only[z0,hz,pk,h2,hin,w1,p6,pZ,pY,pX,pW,pV,jt,Option.bind_some,Int.reduceBEq,Int.reduceBNe,Bool.or_true,Bool.or_false,Bool.true_or,Bool.false_or,Bool.or_self,cond_true,cond_false,dW,fY]
 have hfg:=Ax hT (most:=4) (by decide) (a:=a+1) h1 (0:Int) RS
 have e4:((4:Nat):Int)=(4:Int):=rfl
 rw[e4]at hfg
 have hall:∀c∈((bs T).drop (a+1)).takeWhile iM,iM c=true:=fun c hc=>Ci hc
 rw[hfg]
 simp only[Option.bind_some,iv]
 have hkl:=hk.1
 have wk:IntKind.i64.wrap ((kn.length:Int)-1)=(kn.length:Int)-1:=ao (by omega) (by omega)
 rw[wk]
 rcases Gi hall with⟨u,u1,u2,u3⟩|⟨u1,u3⟩
 ·rcases FR hT (a:=a+1) h1 with⟨u',v1,v2,v3⟩|⟨v1,v3⟩
  ·obtain rfl:u=u':=IF (by omega) (by omega) (u2.symm.trans v2)
   have hlen:a+1+(pF u).length≤T.size:=by
    have:=(List.takeWhile_prefix (l:=(bs T).drop (a+1)) iM).length_le
    rw[u2,List.length_drop,kq]at this
    omega
   by_cases hku:u<kn.length
   ·have hA:(decide ((u:Int)≥0)&&decide ((u:Int)≤(kn.length:Int)-1))=true:=by
     rw[Bool.and_eq_true,decide_eq_true_iff,decide_eq_true_iff];omega
    simp only[u3]
    simp only[v3,hA,u2,ax hku,(show decide ((u:Int)≥(kn.length:Int))=false from decide_eq_false (by omega)),lf,Int.toNat_natCast,Option.bind_some,Bool.not_true,cond_true,cond_false]
    refine .inl ⟨a+1+(pF u).length,xs,kn.getD u 0,rfl,rfl,by omega,hlen,hp,hk.2 u hku,⟨[],by simp⟩, .know u hku rfl⟩
   ·have hA:(decide ((u:Int)≥0)&&decide ((u:Int)≤(kn.length:Int)-1))=false:=by
     rw[Bool.and_eq_false_iff,decide_eq_false_iff_not,decide_eq_false_iff_not];omega
    simp only[u3,v3,hA,aa,(show decide ((u:Int)≥(kn.length:Int))=true from decide_eq_true (by omega)),Option.bind_some,Bool.not_false,Bool.not_true,beq_self_eq_true,cond_true,cond_false]
    exact .inr ⟨a,4,_,_,by decide,by omega,rfl,rfl⟩
  ·exact absurd u2 (v1 u u1)
 ·rcases FR hT (a:=a+1) h1 with⟨u',v1,v2,v3⟩|⟨v1,v3⟩
  ·exact absurd v2 (u1 u' v1)
  ·have hA:(decide ((-1:Int)≥0)&&decide ((-1:Int)≤(kn.length:Int)-1))=false:=rfl
   simp only[u3,v3,hA,aa,Option.bind_some,Bool.not_false,beq_self_eq_true,cond_true,cond_false]
   exact .inr ⟨a,4,_,_,by decide,by omega,rfl,rfl⟩
theorem DI (hT:T.size≤100000) (hd:(bs T).drop a=c::r) (hp:aw xs=true) (hk:nL kn xs) (hv:(c.toNat:Int)=110):RB T a kn xs (ac N0 (i1+1) (T,(a:Int),(0:Int),RS,false,false,kn,xs)) (ai N0 (i2+1) (xs,kn,T,(a:Int))):=by
 obtain⟨h1,h2,h3⟩:=bb hd
 have z0:((0:Int) != 0)=false:=rfl
 have hz:decide ((a:Int)≥(T.size:Int))=false:=decide_eq_false (by omega)
 have hin:=ax h1
 have w1:IntKind.i64.wrap ((a:Int)+1)=((a+1:Nat):Int):=by rw[ao (by omega) (by omega)];omega
 rw[hv]at h2
 have pk:=cW hd 0 RS
 rw[hv]at pk
 have hl:=ap hp
 show RB T a kn xs (af N0 (ac N0 i1) (T,(a:Int),(0:Int),RS,false,false,kn,xs)) (ak N0 (ai N0 i2) (xs,kn,T,(a:Int)))
 unfold af ak
 simp only[z0,hz,pk,h2,hin,w1,p6,pZ,pY,pX,pW,pV,jt,Option.bind_some,Int.reduceBEq,Int.reduceBNe,Bool.or_true,Bool.or_false,Bool.true_or,Bool.false_or,Bool.or_self,cond_true,cond_false,dW,fw]
 rcases BC hT (a:=a+1) h1 RS (a:Int)with⟨u,u1,u2,u3⟩|⟨u1,u3⟩
 ·rcases CL hT (a:=a+1) h1 with⟨u',v1,v2,v3⟩|⟨v1,v3⟩
  ·obtain rfl:u=u':=CX (by omega) (by omega) (u2.symm.trans v2)
   have hlen:a+1+(pG u).length≤T.size:=by
    have:=(List.takeWhile_prefix (l:=(bs T).drop (a+1)) iM).length_le
    rw[u2,List.length_drop,kq]at this
    omega
   simp only[u3,v3,z0,Id,Ic,Option.bind_some,Bool.not_true,cond_false]
   cases hpu:(decide ((u:Int)≥0)&&decide ((u:Int)≤49))with
   |false =>
    simp only[hpu,aa,Option.bind_some,Bool.not_false,beq_self_eq_true,cond_true]
    exact .inr ⟨a,4,_,_,by decide,by omega,rfl,rfl⟩
   |true =>
    simp only[hpu,An hl,zj hp,Option.bind_some,Bool.not_true,cond_false,aS]
    cases hA:jj xs 1 (u:Int) 0 with
    |none =>
     simp only[js,aa,Option.bind_some,beq_self_eq_true,show decide ((-1:Int)<0)=true from rfl,cond_true]
     exact .inr ⟨a+1+(pG u).length,5,_,_,by decide,hlen,rfl,rfl⟩
    |some p =>
     obtain⟨ys,t⟩:=p
     obtain⟨g1,g2,g3,g4,g5⟩:=fD hp hA
     rw[show js xs (some (ys,t))=(ys,t)from rfl]
     dsimp only
     simp only[(show decide (t<(0:Int))=false from decide_eq_false (by omega)),Option.bind_some,cond_false]
     rw[Bool.and_eq_true,decide_eq_true_iff,decide_eq_true_iff]at hpu
     refine .inl ⟨a+1+(pG u).length,ys,t,rfl,rfl,by omega,hlen,g1,bo.2 ⟨g2,by omega⟩,g4,?_⟩
     exact .pub (bo.2 ⟨g2,by omega⟩) (by rw[g5];rfl) (by rw[g5];exact hpu.1) (by rw[g5];exact hpu.2)
  ·exact absurd u2 (v1 u u1)
 ·rcases CL hT (a:=a+1) h1 with⟨u',v1,v2,v3⟩|⟨v1,v3⟩
  ·exact absurd v2 (u1 u' v1)
  ·simp only[u3,v3,Option.bind_some,Bool.not_false,Int.reduceBNe,cond_true]
   exact .inr ⟨a,4,_,_,by decide,by omega,rfl,rfl⟩
theorem Fm (hT:T.size≤100000) (hd:(bs T).drop a=c::r) (hp:aw xs=true) (hk:nL kn xs) (hv:(c.toNat:Int)=40) (hi:0<i1) (ih:∀(a:Nat) (xs:List ae),T.size-a≤n→a≤T.size→aw xs=true→nL kn xs→RB T a kn xs (ac N0 i1 (T,(a:Int),(0:Int),RS,false,false,kn,xs)) (ai N0 i2 (xs,kn,T,(a:Int)))) (hn:T.size-(a+1)≤n):RB T a kn xs (ac N0 (i1+1) (T,(a:Int),(0:Int),RS,false,false,kn,xs)) (ai N0 (i2+1) (xs,kn,T,(a:Int))):=by
 obtain⟨h1,h2,h3⟩:=bb hd
 have z0:((0:Int) != 0)=false:=rfl
 have hz:decide ((a:Int)≥(T.size:Int))=false:=decide_eq_false (by omega)
 have hin:=ax h1
 have w1:IntKind.i64.wrap ((a:Int)+1)=((a+1:Nat):Int):=by rw[ao (by omega) (by omega)];omega
 rw[hv]at h2
 have pk:=cW hd 0 RS
 rw[hv]at pk
 have hl:=ap hp
 show RB T a kn xs (af N0 (ac N0 i1) (T,(a:Int),(0:Int),RS,false,false,kn,xs)) (ak N0 (ai N0 i2) (xs,kn,T,(a:Int)))
 unfold af ak
 have hkd:br N0 (T,(a:Int))=some ((2:Int),(1:Int),(41:Int)):=by
  unfold br
  simp only[hin,h2,Int.reduceBEq,cond_true,cond_false]
 have hc:fA N0 (40:Int)=some (41:Int):=rfl
 have hko:dT N0 (40:Int)=some (2:Int):=rfl
 simp only[z0,hz,pk,h2,hin,w1,p6,pZ,pY,pX,pW,pV,jt,Option.bind_some,Int.reduceBEq,Int.reduceBNe,Bool.or_true,Bool.or_false,Bool.true_or,Bool.false_or,Bool.or_self,cond_true,cond_false,hkd,hc,show decide ((2:Int)>0)=true from rfl,show decide ((41:Int)>0)=true from rfl,show((1:Int)==2)=false from rfl]
 rcases jr hT hi ih 41 (a:=a+1) hn h1 hp hk with⟨b,m,p,q,q1,q2,q3,q4,q5,q6,q6',q7,q8,q9⟩|⟨b,c2,m1,ps,m2,x,y,q0,q1,q2,q3⟩
 ·rw[q1,q2]
  simp only[z0,aq,jt,Int.reduceBEq,Bool.or_false,Bool.or_self,cond_false,bI,bj,show decide ((([p,q]:List Int).length:Int)>(1:Int))=true from rfl,show ah (1:Int) ([p,q]:List Int).length=true from rfl,show ah (0:Int) ([p,q]:List Int).length=true from rfl,hko,fC (ap q5),dh q5,show([p,q]:List Int).getD (1:Int).toNat 0=q from rfl,show([p,q]:List Int).getD (0:Int).toNat 0=p from rfl,Option.bind_some,cond_true,aS]
  cases hA:jj m 2 p q with
  |none =>
   simp only[js,aa,Option.bind_some,beq_self_eq_true,show decide ((-1:Int)<0)=true from rfl,cond_true]
   exact .inr ⟨b,5,_,_,by decide,q4,rfl,rfl⟩
  |some s =>
   obtain⟨ys,t⟩:=s
   obtain⟨g1,g2,g3,⟨z,g4⟩,g5⟩:=fD q5 hA
   rw[show js m (some (ys,t))=(ys,t)from rfl]
   dsimp only
   simp only[(show decide (t<(0:Int))=false from decide_eq_false (by omega)),Option.bind_some,cond_false]
   obtain⟨z',q7'⟩:=q7
   refine .inl ⟨b,ys,t,rfl,rfl,by omega,q4,g1,bo.2 ⟨g2,by omega⟩,⟨z'++z,by rw[g4,q7',List.append_assoc]⟩,?_⟩
   have hne:mg 2 p q=(2,(p,q)):=rfl
   rw[hne]at g5
   exact .two (bo.2 ⟨g2,by omega⟩) (by rw[g5];simp only[Int.reduceEq,or_false,or_true,true_or,false_or]) (by rw[g5,g4];exact q8.mono _) (by rw[g5,g4];exact q9.mono _)
 ·rw[q2,q3]
  simp only[Option.bind_some,show(c2 != 0)=true from by rw[bne_iff_ne];exact q0,cond_true]
  exact .inr ⟨b,c2,_,_,q0,q1,rfl,rfl⟩
theorem DF (hT:T.size≤100000) (hd:(bs T).drop a=c::r) (hp:aw xs=true) (hk:nL kn xs) (hv:(c.toNat:Int)=123) (hi:0<i1) (ih:∀(a:Nat) (xs:List ae),T.size-a≤n→a≤T.size→aw xs=true→nL kn xs→RB T a kn xs (ac N0 i1 (T,(a:Int),(0:Int),RS,false,false,kn,xs)) (ai N0 i2 (xs,kn,T,(a:Int)))) (hn:T.size-(a+1)≤n):RB T a kn xs (ac N0 (i1+1) (T,(a:Int),(0:Int),RS,false,false,kn,xs)) (ai N0 (i2+1) (xs,kn,T,(a:Int))):=by
 obtain⟨h1,h2,h3⟩:=bb hd
 have z0:((0:Int) != 0)=false:=rfl
 have hz:decide ((a:Int)≥(T.size:Int))=false:=decide_eq_false (by omega)
 have hin:=ax h1
 have w1:IntKind.i64.wrap ((a:Int)+1)=((a+1:Nat):Int):=by rw[ao (by omega) (by omega)];omega
 rw[hv]at h2
 have pk:=cW hd 0 RS
 rw[hv]at pk
 have hl:=ap hp
 show RB T a kn xs (af N0 (ac N0 i1) (T,(a:Int),(0:Int),RS,false,false,kn,xs)) (ak N0 (ai N0 i2) (xs,kn,T,(a:Int)))
 unfold af ak
 have hkd:br N0 (T,(a:Int))=some ((3:Int),(1:Int),(125:Int)):=by
  unfold br
  simp only[hin,h2,Int.reduceBEq,cond_true,cond_false]
 have hc:fA N0 (123:Int)=some (125:Int):=rfl
 have hko:dT N0 (123:Int)=some (3:Int):=rfl
 simp only[z0,hz,pk,h2,hin,w1,p6,pZ,pY,pX,pW,pV,jt,Option.bind_some,Int.reduceBEq,Int.reduceBNe,Bool.or_true,Bool.or_false,Bool.true_or,Bool.false_or,Bool.or_self,cond_true,cond_false,hkd,hc,show decide ((3:Int)>0)=true from rfl,show decide ((125:Int)>0)=true from rfl,show((1:Int)==2)=false from rfl]
 rcases jr hT hi ih 125 (a:=a+1) hn h1 hp hk with⟨b,m,p,q,q1,q2,q3,q4,q5,q6,q6',q7,q8,q9⟩|⟨b,c2,m1,ps,m2,x,y,q0,q1,q2,q3⟩
 ·rw[q1,q2]
  simp only[z0,aq,jt,Int.reduceBEq,Bool.or_false,Bool.or_self,cond_false,bI,bj,show decide ((([p,q]:List Int).length:Int)>(1:Int))=true from rfl,show ah (1:Int) ([p,q]:List Int).length=true from rfl,show ah (0:Int) ([p,q]:List Int).length=true from rfl,hko,fC (ap q5),dh q5,show([p,q]:List Int).getD (1:Int).toNat 0=q from rfl,show([p,q]:List Int).getD (0:Int).toNat 0=p from rfl,Option.bind_some,cond_true,aS]
  cases hA:jj m 3 p q with
  |none =>
   simp only[js,aa,Option.bind_some,beq_self_eq_true,show decide ((-1:Int)<0)=true from rfl,cond_true]
   exact .inr ⟨b,5,_,_,by decide,q4,rfl,rfl⟩
  |some s =>
   obtain⟨ys,t⟩:=s
   obtain⟨g1,g2,g3,⟨z,g4⟩,g5⟩:=fD q5 hA
   rw[show js m (some (ys,t))=(ys,t)from rfl]
   dsimp only
   simp only[(show decide (t<(0:Int))=false from decide_eq_false (by omega)),Option.bind_some,cond_false]
   obtain⟨z',q7'⟩:=q7
   refine .inl ⟨b,ys,t,rfl,rfl,by omega,q4,g1,bo.2 ⟨g2,by omega⟩,⟨z'++z,by rw[g4,q7',List.append_assoc]⟩,?_⟩
   have hne:mg 3 p q=(3,(p,q)):=rfl
   rw[hne]at g5
   exact .two (bo.2 ⟨g2,by omega⟩) (by rw[g5];simp only[Int.reduceEq,or_false,or_true,true_or,false_or]) (by rw[g5,g4];exact q8.mono _) (by rw[g5,g4];exact q9.mono _)
 ·rw[q2,q3]
  simp only[Option.bind_some,show(c2 != 0)=true from by rw[bne_iff_ne];exact q0,cond_true]
  exact .inr ⟨b,c2,_,_,q0,q1,rfl,rfl⟩
theorem Fh (hT:T.size≤100000) (hd:(bs T).drop a=c::r) (hp:aw xs=true) (hk:nL kn xs) (hv:(c.toNat:Int)=91) (hi:0<i1) (ih:∀(a:Nat) (xs:List ae),T.size-a≤n→a≤T.size→aw xs=true→nL kn xs→RB T a kn xs (ac N0 i1 (T,(a:Int),(0:Int),RS,false,false,kn,xs)) (ai N0 i2 (xs,kn,T,(a:Int)))) (hn:T.size-(a+1)≤n):RB T a kn xs (ac N0 (i1+1) (T,(a:Int),(0:Int),RS,false,false,kn,xs)) (ai N0 (i2+1) (xs,kn,T,(a:Int))):=by
 obtain⟨h1,h2,h3⟩:=bb hd
 have z0:((0:Int) != 0)=false:=rfl
 have hz:decide ((a:Int)≥(T.size:Int))=false:=decide_eq_false (by omega)
 have hin:=ax h1
 have w1:IntKind.i64.wrap ((a:Int)+1)=((a+1:Nat):Int):=by rw[ao (by omega) (by omega)];omega
 rw[hv]at h2
 have pk:=cW hd 0 RS
 rw[hv]at pk
 have hl:=ap hp
 show RB T a kn xs (af N0 (ac N0 i1) (T,(a:Int),(0:Int),RS,false,false,kn,xs)) (ak N0 (ai N0 i2) (xs,kn,T,(a:Int)))
 unfold af ak
 have hkd:br N0 (T,(a:Int))=some ((4:Int),(1:Int),(93:Int)):=by
  unfold br
  simp only[hin,h2,Int.reduceBEq,cond_true,cond_false]
 have hc:fA N0 (91:Int)=some (93:Int):=rfl
 have hko:dT N0 (91:Int)=some (4:Int):=rfl
 simp only[z0,hz,pk,h2,hin,w1,p6,pZ,pY,pX,pW,pV,jt,Option.bind_some,Int.reduceBEq,Int.reduceBNe,Bool.or_true,Bool.or_false,Bool.true_or,Bool.false_or,Bool.or_self,cond_true,cond_false,hkd,hc,show decide ((4:Int)>0)=true from rfl,show decide ((93:Int)>0)=true from rfl,show((1:Int)==2)=false from rfl]
 rcases jr hT hi ih 93 (a:=a+1) hn h1 hp hk with⟨b,m,p,q,q1,q2,q3,q4,q5,q6,q6',q7,q8,q9⟩|⟨b,c2,m1,ps,m2,x,y,q0,q1,q2,q3⟩
 ·rw[q1,q2]
  simp only[z0,aq,jt,Int.reduceBEq,Bool.or_false,Bool.or_self,cond_false,bI,bj,show decide ((([p,q]:List Int).length:Int)>(1:Int))=true from rfl,show ah (1:Int) ([p,q]:List Int).length=true from rfl,show ah (0:Int) ([p,q]:List Int).length=true from rfl,hko,fC (ap q5),dh q5,show([p,q]:List Int).getD (1:Int).toNat 0=q from rfl,show([p,q]:List Int).getD (0:Int).toNat 0=p from rfl,Option.bind_some,cond_true,aS]
  cases hA:jj m 4 p q with
  |none =>
   simp only[js,aa,Option.bind_some,beq_self_eq_true,show decide ((-1:Int)<0)=true from rfl,cond_true]
   exact .inr ⟨b,5,_,_,by decide,q4,rfl,rfl⟩
  |some s =>
   obtain⟨ys,t⟩:=s
   obtain⟨g1,g2,g3,⟨z,g4⟩,g5⟩:=fD q5 hA
   rw[show js m (some (ys,t))=(ys,t)from rfl]
   dsimp only
   simp only[(show decide (t<(0:Int))=false from decide_eq_false (by omega)),Option.bind_some,cond_false]
   obtain⟨z',q7'⟩:=q7
   refine .inl ⟨b,ys,t,rfl,rfl,by omega,q4,g1,bo.2 ⟨g2,by omega⟩,⟨z'++z,by rw[g4,q7',List.append_assoc]⟩,?_⟩
   have hne:mg 4 p q=(4,(p,q)):=rfl
   rw[hne]at g5
   exact .two (bo.2 ⟨g2,by omega⟩) (by rw[g5];simp only[Int.reduceEq,or_false,or_true,true_or,false_or]) (by rw[g5,g4];exact q8.mono _) (by rw[g5,g4];exact q9.mono _)
 ·rw[q2,q3]
  simp only[Option.bind_some,show(c2 != 0)=true from by rw[bne_iff_ne];exact q0,cond_true]
  exact .inr ⟨b,c2,_,_,q0,q1,rfl,rfl⟩
theorem Fn (hT:T.size≤100000) (hd:(bs T).drop a=c::r) (hp:aw xs=true) (hk:nL kn xs) (hv:(c.toNat:Int)=35) (hi:0<i1) (ih:∀(a:Nat) (xs:List ae),T.size-a≤n→a≤T.size→aw xs=true→nL kn xs→RB T a kn xs (ac N0 i1 (T,(a:Int),(0:Int),RS,false,false,kn,xs)) (ai N0 i2 (xs,kn,T,(a:Int)))) (hn:T.size-(a+1)≤n):RB T a kn xs (ac N0 (i1+1) (T,(a:Int),(0:Int),RS,false,false,kn,xs)) (ai N0 (i2+1) (xs,kn,T,(a:Int))):=by
 obtain⟨h1,h2,h3⟩:=bb hd
 have z0:((0:Int) != 0)=false:=rfl
 have hz:decide ((a:Int)≥(T.size:Int))=false:=decide_eq_false (by omega)
 have hin:=ax h1
 have w1:IntKind.i64.wrap ((a:Int)+1)=((a+1:Nat):Int):=by rw[ao (by omega) (by omega)];omega
 rw[hv]at h2
 have pk:=cW hd 0 RS
 rw[hv]at pk
 have hl:=ap hp
 show RB T a kn xs (af N0 (ac N0 i1) (T,(a:Int),(0:Int),RS,false,false,kn,xs)) (ak N0 (ai N0 i2) (xs,kn,T,(a:Int)))
 unfold af ak
 have hkd:br N0 (T,(a:Int))=some ((5:Int),(1:Int),(0:Int)):=by
  unfold br
  simp only[hin,h2,Int.reduceBEq,cond_true,cond_false]
 have hko:dT N0 (35:Int)=some (5:Int):=rfl
 simp only[z0,hz,pk,h2,hin,w1,p6,pZ,pY,pX,pW,pV,jt,Option.bind_some,Int.reduceBEq,Int.reduceBNe,Bool.or_true,Bool.or_false,Bool.true_or,Bool.false_or,Bool.or_self,cond_true,cond_false,hkd,show decide ((5:Int)>0)=true from rfl,show decide ((0:Int)>0)=false from rfl]
 rcases ih (a+1) xs hn h1 hp hk with⟨b,m,p,q1,q2,q3,q4,q5,q6,q7,q8⟩|⟨b,c2,m1,m2,q0,q1,q2,q3⟩
 ·rw[q1,q2]
  simp only[z0,aq,jt,Int.reduceBEq,Bool.or_false,Bool.or_self,cond_false,bI,bj,show decide ((([p]:List Int).length:Int)>(1:Int))=false from rfl,show ah (0:Int) ([p]:List Int).length=true from rfl,hko,fC (ap q5),dh q5,show([p]:List Int).getD (0:Int).toNat 0=p from rfl,Option.bind_some,cond_true,aS]
  cases hA:jj m 5 p 0 with
  |none =>
   simp only[js,aa,Option.bind_some,beq_self_eq_true,show decide ((-1:Int)<0)=true from rfl,cond_true]
   exact .inr ⟨b,5,_,_,by decide,q4,rfl,rfl⟩
  |some s =>
   obtain⟨ys,t⟩:=s
   obtain⟨g1,g2,g3,⟨z,g4⟩,g5⟩:=fD q5 hA
   rw[show js m (some (ys,t))=(ys,t)from rfl]
   dsimp only
   simp only[(show decide (t<(0:Int))=false from decide_eq_false (by omega)),Option.bind_some,cond_false]
   obtain⟨z',q7'⟩:=q7
   refine .inl ⟨b,ys,t,rfl,rfl,by omega,q4,g1,bo.2 ⟨g2,by omega⟩,⟨z'++z,by rw[g4,q7',List.append_assoc]⟩,?_⟩
   have hne:mg 5 p 0=(5,(p,0)):=rfl
   rw[hne]at g5
   exact .one (bo.2 ⟨g2,by omega⟩) (by rw[g5];simp only[Int.reduceEq,or_false,or_true,true_or,false_or]) (by rw[g5,g4];exact q8.mono _)
 ·rw[q2,q3]
  simp only[Option.bind_some,show(c2 != 0)=true from by rw[bne_iff_ne];exact q0,cond_true]
  exact .inr ⟨b,c2,_,_,q0,q1,rfl,rfl⟩
theorem Fg (hT:T.size≤100000) (hd:(bs T).drop a=c::r) (hp:aw xs=true) (hk:nL kn xs) (hv:(c.toNat:Int)=94) (hi:0<i1) (ih:∀(a:Nat) (xs:List ae),T.size-a≤n→a≤T.size→aw xs=true→nL kn xs→RB T a kn xs (ac N0 i1 (T,(a:Int),(0:Int),RS,false,false,kn,xs)) (ai N0 i2 (xs,kn,T,(a:Int)))) (hn:T.size-(a+1)≤n):RB T a kn xs (ac N0 (i1+1) (T,(a:Int),(0:Int),RS,false,false,kn,xs)) (ai N0 (i2+1) (xs,kn,T,(a:Int))):=by
 obtain⟨h1,h2,h3⟩:=bb hd
 have z0:((0:Int) != 0)=false:=rfl
 have hz:decide ((a:Int)≥(T.size:Int))=false:=decide_eq_false (by omega)
 have hin:=ax h1
 have w1:IntKind.i64.wrap ((a:Int)+1)=((a+1:Nat):Int):=by rw[ao (by omega) (by omega)];omega
 rw[hv]at h2
 have pk:=cW hd 0 RS
 rw[hv]at pk
 have hl:=ap hp
 show RB T a kn xs (af N0 (ac N0 i1) (T,(a:Int),(0:Int),RS,false,false,kn,xs)) (ak N0 (ai N0 i2) (xs,kn,T,(a:Int)))
 unfold af ak
 have hkd:br N0 (T,(a:Int))=some ((7:Int),(1:Int),(0:Int)):=by
  unfold br
  simp only[hin,h2,Int.reduceBEq,cond_true,cond_false]
 have hko:dT N0 (94:Int)=some (7:Int):=rfl
 simp only[z0,hz,pk,h2,hin,w1,p6,pZ,pY,pX,pW,pV,jt,Option.bind_some,Int.reduceBEq,Int.reduceBNe,Bool.or_true,Bool.or_false,Bool.true_or,Bool.false_or,Bool.or_self,cond_true,cond_false,hkd,show decide ((7:Int)>0)=true from rfl,show decide ((0:Int)>0)=false from rfl]
 rcases ih (a+1) xs hn h1 hp hk with⟨b,m,p,q1,q2,q3,q4,q5,q6,q7,q8⟩|⟨b,c2,m1,m2,q0,q1,q2,q3⟩
 ·rw[q1,q2]
  simp only[z0,aq,jt,Int.reduceBEq,Bool.or_false,Bool.or_self,cond_false,bI,bj,show decide ((([p]:List Int).length:Int)>(1:Int))=false from rfl,show ah (0:Int) ([p]:List Int).length=true from rfl,hko,fC (ap q5),dh q5,show([p]:List Int).getD (0:Int).toNat 0=p from rfl,Option.bind_some,cond_true,aS]
  cases hA:jj m 7 p 0 with
  |none =>
   simp only[js,aa,Option.bind_some,beq_self_eq_true,show decide ((-1:Int)<0)=true from rfl,cond_true]
   exact .inr ⟨b,5,_,_,by decide,q4,rfl,rfl⟩
  |some s =>
   obtain⟨ys,t⟩:=s
   obtain⟨g1,g2,g3,⟨z,g4⟩,g5⟩:=fD q5 hA
   rw[show js m (some (ys,t))=(ys,t)from rfl]
   dsimp only
   simp only[(show decide (t<(0:Int))=false from decide_eq_false (by omega)),Option.bind_some,cond_false]
   obtain⟨z',q7'⟩:=q7
   refine .inl ⟨b,ys,t,rfl,rfl,by omega,q4,g1,bo.2 ⟨g2,by omega⟩,⟨z'++z,by rw[g4,q7',List.append_assoc]⟩,?_⟩
   have hne:mg 7 p 0=(7,(p,0)):=rfl
   rw[hne]at g5
   exact .one (bo.2 ⟨g2,by omega⟩) (by rw[g5];simp only[Int.reduceEq,or_false,or_true,true_or,false_or]) (by rw[g5,g4];exact q8.mono _)
 ·rw[q2,q3]
  simp only[Option.bind_some,show(c2 != 0)=true from by rw[bne_iff_ne];exact q0,cond_true]
  exact .inr ⟨b,c2,_,_,q0,q1,rfl,rfl⟩
theorem Fk (hT:T.size≤100000) (hd:(bs T).drop a=c::r) (hp:aw xs=true) (hk:nL kn xs) (hv:(c.toNat:Int)=60) (hi:0<i1) (ih:∀(a:Nat) (xs:List ae),T.size-a≤n→a≤T.size→aw xs=true→nL kn xs→RB T a kn xs (ac N0 i1 (T,(a:Int),(0:Int),RS,false,false,kn,xs)) (ai N0 i2 (xs,kn,T,(a:Int)))) (hn:T.size-(a+1)≤n):RB T a kn xs (ac N0 (i1+1) (T,(a:Int),(0:Int),RS,false,false,kn,xs)) (ai N0 (i2+1) (xs,kn,T,(a:Int))):=by
 obtain⟨h1,h2,h3⟩:=bb hd
 have z0:((0:Int) != 0)=false:=rfl
 have hz:decide ((a:Int)≥(T.size:Int))=false:=decide_eq_false (by omega)
 have hin:=ax h1
 have w1:IntKind.i64.wrap ((a:Int)+1)=((a+1:Nat):Int):=by rw[ao (by omega) (by omega)];omega
 rw[hv]at h2
 have pk:=cW hd 0 RS
 rw[hv]at pk
 have hl:=ap hp
 show RB T a kn xs (af N0 (ac N0 i1) (T,(a:Int),(0:Int),RS,false,false,kn,xs)) (ak N0 (ai N0 i2) (xs,kn,T,(a:Int)))
 unfold af ak
 simp only[z0,hz,pk,h2,hin,w1,p6,pZ,pY,pX,pW,pV,jt,Option.bind_some,Int.reduceBEq,Int.reduceBNe,Bool.or_true,Bool.or_false,Bool.true_or,Bool.false_or,Bool.or_self,cond_true,cond_false]
 rcases ih (a+1) xs hn h1 hp hk with⟨b,m,p,q1,q2,q3,q4,q5,q6,q7,q8⟩|⟨b,c2,m1,m2,q0,q1,q2,q3⟩
 ·rw[q1,q2]
  have hib:=j9 q6
  simp only[z0,hib,aq,jt,Int.reduceBEq,Bool.or_false,Bool.false_or,Bool.true_or,Bool.or_true,Bool.or_self,cond_false,cb,bS,dR,show ah (0:Int) ([p]:List Int).length=true from rfl,show([p]:List Int).getD (0:Int).toNat 0=p from rfl,Option.bind_some,cond_true]
  cases hq:((m.getD p.toNat aM).1==(2:Int))with
  |false =>
   simp only[hq,aa,Option.bind_some,beq_self_eq_true,show decide ((-1:Int)<0)=true from rfl,cond_true,cond_false]
   exact .inr ⟨b,7,_,_,by decide,q4,rfl,rfl⟩
  |true =>
   have hk2:(m.getD p.toNat aM).1=2:=by simpa using hq
   obtain⟨o1,o2⟩:=oP q5 q6 (by rw[hk2];decide)
   simp only[hq,Option.bind_some,cond_true,cond_false,(show decide ((m.getD p.toNat aM).2.1<(0:Int))=false from decide_eq_false (by have:=bo.1 o1;omega))]
   refine .inl ⟨b,m,_,rfl,rfl,by omega,q4,q5,o1,q7, .left q6 hk2 q8⟩
 ·rw[q2,q3]
  simp only[Option.bind_some,show(c2 != 0)=true from by rw[bne_iff_ne];exact q0,cond_true]
  exact .inr ⟨b,c2,_,_,q0,q1,rfl,rfl⟩
theorem Fj (hT:T.size≤100000) (hd:(bs T).drop a=c::r) (hp:aw xs=true) (hk:nL kn xs) (hv:(c.toNat:Int)=62) (hi:0<i1) (ih:∀(a:Nat) (xs:List ae),T.size-a≤n→a≤T.size→aw xs=true→nL kn xs→RB T a kn xs (ac N0 i1 (T,(a:Int),(0:Int),RS,false,false,kn,xs)) (ai N0 i2 (xs,kn,T,(a:Int)))) (hn:T.size-(a+1)≤n):RB T a kn xs (ac N0 (i1+1) (T,(a:Int),(0:Int),RS,false,false,kn,xs)) (ai N0 (i2+1) (xs,kn,T,(a:Int))):=by
 obtain⟨h1,h2,h3⟩:=bb hd
 have z0:((0:Int) != 0)=false:=rfl
 have hz:decide ((a:Int)≥(T.size:Int))=false:=decide_eq_false (by omega)
 have hin:=ax h1
 have w1:IntKind.i64.wrap ((a:Int)+1)=((a+1:Nat):Int):=by rw[ao (by omega) (by omega)];omega
 rw[hv]at h2
 have pk:=cW hd 0 RS
 rw[hv]at pk
 have hl:=ap hp
 show RB T a kn xs (af N0 (ac N0 i1) (T,(a:Int),(0:Int),RS,false,false,kn,xs)) (ak N0 (ai N0 i2) (xs,kn,T,(a:Int)))
 unfold af ak
 simp only[z0,hz,pk,h2,hin,w1,p6,pZ,pY,pX,pW,pV,jt,Option.bind_some,Int.reduceBEq,Int.reduceBNe,Bool.or_true,Bool.or_false,Bool.true_or,Bool.false_or,Bool.or_self,cond_true,cond_false]
 rcases ih (a+1) xs hn h1 hp hk with⟨b,m,p,q1,q2,q3,q4,q5,q6,q7,q8⟩|⟨b,c2,m1,m2,q0,q1,q2,q3⟩
 ·rw[q1,q2]
  have hib:=j9 q6
  simp only[z0,hib,aq,jt,Int.reduceBEq,Bool.or_false,Bool.false_or,Bool.true_or,Bool.or_true,Bool.or_self,cond_false,cb,bS,dR,show ah (0:Int) ([p]:List Int).length=true from rfl,show([p]:List Int).getD (0:Int).toNat 0=p from rfl,Option.bind_some,cond_true]
  cases hq:((m.getD p.toNat aM).1==(2:Int))with
  |false =>
   simp only[hq,aa,Option.bind_some,beq_self_eq_true,show decide ((-1:Int)<0)=true from rfl,cond_true,cond_false]
   exact .inr ⟨b,7,_,_,by decide,q4,rfl,rfl⟩
  |true =>
   have hk2:(m.getD p.toNat aM).1=2:=by simpa using hq
   obtain⟨o1,o2⟩:=oP q5 q6 (by rw[hk2];decide)
   simp only[hq,Option.bind_some,cond_true,cond_false,(show decide ((m.getD p.toNat aM).2.2<(0:Int))=false from decide_eq_false (by have:=bo.1 o2;omega))]
   refine .inl ⟨b,m,_,rfl,rfl,by omega,q4,q5,o2,q7, .right q6 hk2 q8⟩
 ·rw[q2,q3]
  simp only[Option.bind_some,show(c2 != 0)=true from by rw[bne_iff_ne];exact q0,cond_true]
  exact .inr ⟨b,c2,_,_,q0,q1,rfl,rfl⟩
theorem Fo (hT:T.size≤100000) (hd:(bs T).drop a=c::r) (hp:aw xs=true) (hk:nL kn xs) (hv:(c.toNat:Int)=33) (hi:0<i1) (ih:∀(a:Nat) (xs:List ae),T.size-a≤n→a≤T.size→aw xs=true→nL kn xs→RB T a kn xs (ac N0 i1 (T,(a:Int),(0:Int),RS,false,false,kn,xs)) (ai N0 i2 (xs,kn,T,(a:Int)))) (hn:T.size-(a+1)≤n):RB T a kn xs (ac N0 (i1+1) (T,(a:Int),(0:Int),RS,false,false,kn,xs)) (ai N0 (i2+1) (xs,kn,T,(a:Int))):=by
 obtain⟨h1,h2,h3⟩:=bb hd
 have z0:((0:Int) != 0)=false:=rfl
 have hz:decide ((a:Int)≥(T.size:Int))=false:=decide_eq_false (by omega)
 have hin:=ax h1
 have w1:IntKind.i64.wrap ((a:Int)+1)=((a+1:Nat):Int):=by rw[ao (by omega) (by omega)];omega
 rw[hv]at h2
 have pk:=cW hd 0 RS
 rw[hv]at pk
 have hl:=ap hp
 show RB T a kn xs (af N0 (ac N0 i1) (T,(a:Int),(0:Int),RS,false,false,kn,xs)) (ak N0 (ai N0 i2) (xs,kn,T,(a:Int)))
 unfold af ak
 simp only[z0,hz,pk,h2,hin,w1,p6,pZ,pY,pX,pW,pV,jt,Option.bind_some,Int.reduceBEq,Int.reduceBNe,Bool.or_true,Bool.or_false,Bool.true_or,Bool.false_or,Bool.or_self,cond_true,cond_false]
 rcases ih (a+1) xs hn h1 hp hk with⟨b,m,p,q1,q2,q3,q4,q5,q6,q7,q8⟩|⟨b,c2,m1,m2,q0,q1,q2,q3⟩
 ·rw[q1,q2]
  have hib:=j9 q6
  simp only[z0,hib,aq,jt,Int.reduceBEq,Bool.or_false,Bool.false_or,Bool.true_or,Bool.or_true,Bool.or_self,cond_false,cb,bS,dR,show ah (0:Int) ([p]:List Int).length=true from rfl,show([p]:List Int).getD (0:Int).toNat 0=p from rfl,Option.bind_some,cond_true]
  cases hq:((m.getD p.toNat aM).1==(4:Int))with
  |false =>
   simp only[hq,aa,Option.bind_some,beq_self_eq_true,show decide ((-1:Int)<0)=true from rfl,cond_true,cond_false]
   exact .inr ⟨b,7,_,_,by decide,q4,rfl,rfl⟩
  |true =>
   have hk2:(m.getD p.toNat aM).1=4:=by simpa using hq
   obtain⟨o1,o2⟩:=oP q5 q6 (by rw[hk2];decide)
   simp only[hq,Option.bind_some,cond_true,cond_false,(show decide ((m.getD p.toNat aM).2.1<(0:Int))=false from decide_eq_false (by have:=bo.1 o1;omega))]
   refine .inl ⟨b,m,_,rfl,rfl,by omega,q4,q5,o1,q7, .sign q6 hk2 q8⟩
 ·rw[q2,q3]
  simp only[Option.bind_some,show(c2 != 0)=true from by rw[bne_iff_ne];exact q0,cond_true]
  exact .inr ⟨b,c2,_,_,q0,q1,rfl,rfl⟩
theorem DJ (hT:T.size≤100000) (hd:(bs T).drop a=c::r) (hp:aw xs=true) (hk:nL kn xs) (hv:(c.toNat:Int)=107) (hi:0<i1) (ih:∀(a:Nat) (xs:List ae),T.size-a≤n→a≤T.size→aw xs=true→nL kn xs→RB T a kn xs (ac N0 i1 (T,(a:Int),(0:Int),RS,false,false,kn,xs)) (ai N0 i2 (xs,kn,T,(a:Int)))) (hn:T.size-(a+1)≤n):RB T a kn xs (ac N0 (i1+1) (T,(a:Int),(0:Int),RS,false,false,kn,xs)) (ai N0 (i2+1) (xs,kn,T,(a:Int))):=by
 obtain⟨h1,h2,h3⟩:=bb hd
 have z0:((0:Int) != 0)=false:=rfl
 have hz:decide ((a:Int)≥(T.size:Int))=false:=decide_eq_false (by omega)
 have hin:=ax h1
 have w1:IntKind.i64.wrap ((a:Int)+1)=((a+1:Nat):Int):=by rw[ao (by omega) (by omega)];omega
 rw[hv]at h2
 have pk:=cW hd 0 RS
 rw[hv]at pk
 have hl:=ap hp
 show RB T a kn xs (af N0 (ac N0 i1) (T,(a:Int),(0:Int),RS,false,false,kn,xs)) (ak N0 (ai N0 i2) (xs,kn,T,(a:Int)))
 unfold af ak
 have hkd:br N0 (T,(a:Int))=some ((6:Int),(2:Int),(41:Int)):=by
  unfold br
  simp only[hin,h2,Int.reduceBEq,cond_true,cond_false]
 have hko:dT N0 (107:Int)=some (6:Int):=rfl
 simp only[z0,hz,pk,h2,hin,w1,p6,pZ,pY,pX,pW,pV,jt,Option.bind_some,Int.reduceBEq,Int.reduceBNe,Bool.or_true,Bool.or_false,Bool.true_or,Bool.false_or,Bool.or_self,cond_true,cond_false,hkd,show decide ((6:Int)>0)=true from rfl,show decide ((41:Int)>0)=true from rfl,show((2:Int)==2)=true from rfl]
 rcases kW hT (a:=a+1) h1 RS 40 with⟨t1,t2,t3,t4⟩|⟨b0,c0,t0,t1,t2,t3⟩
 ·rw[t1]
  simp only[Option.bind_some]
  rw[oF t2]
  rcases jr hT hi ih 41 (a:=a+2) (by omega) t3 hp hk with⟨b,m,p,q,q1,q2,q3,q4,q5,q6,q6',q7,q8,q9⟩|⟨b,c2,m1,ps,m2,x,y,q0,q1,q2,q3⟩
  ·rw[q1,q2]
   simp only[z0,aq,jt,Int.reduceBEq,Bool.or_false,Bool.or_self,cond_false,bI,bj,show decide ((([p,q]:List Int).length:Int)>(1:Int))=true from rfl,show ah (1:Int) ([p,q]:List Int).length=true from rfl,show ah (0:Int) ([p,q]:List Int).length=true from rfl,hko,fC (ap q5),dh q5,show([p,q]:List Int).getD (1:Int).toNat 0=q from rfl,show([p,q]:List Int).getD (0:Int).toNat 0=p from rfl,Option.bind_some,cond_true,aS]
   cases hA:jj m 6 p q with
   |none =>
    simp only[js,aa,Option.bind_some,beq_self_eq_true,show decide ((-1:Int)<0)=true from rfl,cond_true]
    exact .inr ⟨b,5,_,_,by decide,q4,rfl,rfl⟩
   |some s =>
    obtain⟨ys,t⟩:=s
    obtain⟨g1,g2,g3,⟨z,g4⟩,g5⟩:=fD q5 hA
    rw[show js m (some (ys,t))=(ys,t)from rfl]
    dsimp only
    simp only[(show decide (t<(0:Int))=false from decide_eq_false (by omega)),Option.bind_some,cond_false]
    obtain⟨z',q7'⟩:=q7
    refine .inl ⟨b,ys,t,rfl,rfl,by omega,q4,g1,bo.2 ⟨g2,by omega⟩,⟨z'++z,by rw[g4,q7',List.append_assoc]⟩,?_⟩
    have hne:mg 6 p q=(6,(p,q)):=rfl
    rw[hne]at g5
    exact .two (bo.2 ⟨g2,by omega⟩) (by rw[g5];simp only[Int.reduceEq,or_false,or_true,true_or,false_or]) (by rw[g5,g4];exact q8.mono _) (by rw[g5,g4];exact q9.mono _)
  ·rw[q2,q3]
   simp only[Option.bind_some,show(c2 != 0)=true from by rw[bne_iff_ne];exact q0,cond_true]
   exact .inr ⟨b,c2,_,_,q0,q1,rfl,rfl⟩
 ·rw[t2]
  simp only[Option.bind_some]
  rw[oE t3 t0,qB t0 kn xs hi]
  simp only[Option.bind_some,show(c0 != 0)=true from by rw[bne_iff_ne];exact t0,cond_true]
  exact .inr ⟨b0,c0,_,_,t0,t1,rfl,rfl⟩
theorem Fl (hT:T.size≤100000) (hd:(bs T).drop a=c::r) (hp:aw xs=true) (hk:nL kn xs) (hv:(c.toNat:Int)=42) (hi:0<i1) (ih:∀(a:Nat) (xs:List ae),T.size-a≤n→a≤T.size→aw xs=true→nL kn xs→RB T a kn xs (ac N0 i1 (T,(a:Int),(0:Int),RS,false,false,kn,xs)) (ai N0 i2 (xs,kn,T,(a:Int)))) (hn:T.size-(a+1)≤n):RB T a kn xs (ac N0 (i1+1) (T,(a:Int),(0:Int),RS,false,false,kn,xs)) (ai N0 (i2+1) (xs,kn,T,(a:Int))):=by
 obtain⟨h1,h2,h3⟩:=bb hd
 have z0:((0:Int) != 0)=false:=rfl
 have hz:decide ((a:Int)≥(T.size:Int))=false:=decide_eq_false (by omega)
 have hin:=ax h1
 have w1:IntKind.i64.wrap ((a:Int)+1)=((a+1:Nat):Int):=by rw[ao (by omega) (by omega)];omega
 rw[hv]at h2
 have pk:=cW hd 0 RS
 rw[hv]at pk
 have hl:=ap hp
 show RB T a kn xs (af N0 (ac N0 i1) (T,(a:Int),(0:Int),RS,false,false,kn,xs)) (ak N0 (ai N0 i2) (xs,kn,T,(a:Int)))
 unfold af ak
 have hkd:br N0 (T,(a:Int))=some ((8:Int),(2:Int),(41:Int)):=by
  unfold br
  simp only[hin,h2,Int.reduceBEq,cond_true,cond_false]
 have hko:dT N0 (42:Int)=some (8:Int):=rfl
 simp only[z0,hz,pk,h2,hin,w1,p6,pZ,pY,pX,pW,pV,jt,Option.bind_some,Int.reduceBEq,Int.reduceBNe,Bool.or_true,Bool.or_false,Bool.true_or,Bool.false_or,Bool.or_self,cond_true,cond_false,hkd,show decide ((8:Int)>0)=true from rfl,show decide ((41:Int)>0)=true from rfl,show((2:Int)==2)=true from rfl]
 rcases kW hT (a:=a+1) h1 RS 40 with⟨t1,t2,t3,t4⟩|⟨b0,c0,t0,t1,t2,t3⟩
 ·rw[t1]
  simp only[Option.bind_some]
  rw[oF t2]
  rcases jr hT hi ih 41 (a:=a+2) (by omega) t3 hp hk with⟨b,m,p,q,q1,q2,q3,q4,q5,q6,q6',q7,q8,q9⟩|⟨b,c2,m1,ps,m2,x,y,q0,q1,q2,q3⟩
  ·rw[q1,q2]
   simp only[z0,aq,jt,Int.reduceBEq,Bool.or_false,Bool.or_self,cond_false,bI,bj,show decide ((([p,q]:List Int).length:Int)>(1:Int))=true from rfl,show ah (1:Int) ([p,q]:List Int).length=true from rfl,show ah (0:Int) ([p,q]:List Int).length=true from rfl,hko,fC (ap q5),dh q5,show([p,q]:List Int).getD (1:Int).toNat 0=q from rfl,show([p,q]:List Int).getD (0:Int).toNat 0=p from rfl,Option.bind_some,cond_true,aS]
   cases hA:jj m 8 p q with
   |none =>
    simp only[js,aa,Option.bind_some,beq_self_eq_true,show decide ((-1:Int)<0)=true from rfl,cond_true]
    exact .inr ⟨b,5,_,_,by decide,q4,rfl,rfl⟩
   |some s =>
    obtain⟨ys,t⟩:=s
    obtain⟨g1,g2,g3,⟨z,g4⟩,g5⟩:=fD q5 hA
    rw[show js m (some (ys,t))=(ys,t)from rfl]
    dsimp only
    simp only[(show decide (t<(0:Int))=false from decide_eq_false (by omega)),Option.bind_some,cond_false]
    obtain⟨z',q7'⟩:=q7
    refine .inl ⟨b,ys,t,rfl,rfl,by omega,q4,g1,bo.2 ⟨g2,by omega⟩,⟨z'++z,by rw[g4,q7',List.append_assoc]⟩,?_⟩
    exact BL (bo.2 ⟨g2,by omega⟩) g5 (by rw[g4];exact q8.mono _) (by rw[g4];exact q9.mono _)
  ·rw[q2,q3]
   simp only[Option.bind_some,show(c2 != 0)=true from by rw[bne_iff_ne];exact q0,cond_true]
   exact .inr ⟨b,c2,_,_,q0,q1,rfl,rfl⟩
 ·rw[t2]
  simp only[Option.bind_some]
  rw[oE t3 t0,qB t0 kn xs hi]
  simp only[Option.bind_some,show(c0 != 0)=true from by rw[bne_iff_ne];exact t0,cond_true]
  exact .inr ⟨b0,c0,_,_,t0,t1,rfl,rfl⟩
theorem DH (hT:T.size≤100000) (hd:(bs T).drop a=c::r) (hp:aw xs=true) (hk:nL kn xs) (hv:(c.toNat:Int)=111) (hi:0<i1) (ih:∀(a:Nat) (xs:List ae),T.size-a≤n→a≤T.size→aw xs=true→nL kn xs→RB T a kn xs (ac N0 i1 (T,(a:Int),(0:Int),RS,false,false,kn,xs)) (ai N0 i2 (xs,kn,T,(a:Int)))) (hn:T.size-(a+1)≤n):RB T a kn xs (ac N0 (i1+1) (T,(a:Int),(0:Int),RS,false,false,kn,xs)) (ai N0 (i2+1) (xs,kn,T,(a:Int))):=by
 obtain⟨h1,h2,h3⟩:=bb hd
 have z0:((0:Int) != 0)=false:=rfl
 have hz:decide ((a:Int)≥(T.size:Int))=false:=decide_eq_false (by omega)
 have hin:=ax h1
 have w1:IntKind.i64.wrap ((a:Int)+1)=((a+1:Nat):Int):=by rw[ao (by omega) (by omega)];omega
 rw[hv]at h2
 have pk:=cW hd 0 RS
 rw[hv]at pk
 have hl:=ap hp
 show RB T a kn xs (af N0 (ac N0 i1) (T,(a:Int),(0:Int),RS,false,false,kn,xs)) (ak N0 (ai N0 i2) (xs,kn,T,(a:Int)))
 unfold af ak
 simp only[z0,hz,pk,h2,hin,w1,p6,pZ,pY,pX,pW,pV,jt,Option.bind_some,Int.reduceBEq,Int.reduceBNe,Bool.or_true,Bool.or_false,Bool.true_or,Bool.false_or,Bool.or_self,cond_true,cond_false]
 rcases kW hT (a:=a+1) h1 RS 40 with⟨t1,t2,t3,t4⟩|⟨b0,c0,t0,t1,t2,t3⟩
 ·rw[t1]
  simp only[Option.bind_some]
  rw[oF t2]
  rcases jr hT hi ih 41 (a:=a+2) (by omega) t3 hp hk with⟨b,m,p,q,q1,q2,q3,q4,q5,q6,q6',q7,q8,q9⟩|⟨b,c2,m1,ps,m2,x,y,q0,q1,q2,q3⟩
  ·rw[q1,q2]
   have hib:=j9 q6
   simp only[z0,hib,aq,jt,Int.reduceBEq,Bool.or_false,Bool.false_or,Bool.true_or,Bool.or_true,Bool.or_self,cond_false,cb,bS,gE,kf,show ah (1:Int) ([p,q]:List Int).length=true from rfl,show ah (0:Int) ([p,q]:List Int).length=true from rfl,show([p,q]:List Int).getD (1:Int).toNat 0=q from rfl,show([p,q]:List Int).getD (0:Int).toNat 0=p from rfl,Option.bind_some,cond_true]
   cases hq:((m.getD p.toNat aM).1==(3:Int))with
   |false =>
    have hq2:((m.getD p.toNat aM).1 != (3:Int))=true:=by rw[bne,hq];rfl
    simp only[hq,hq2,aa,Option.bind_some,beq_self_eq_true,cond_true,cond_false]
    exact .inr ⟨b,7,_,_,by decide,q4,rfl,rfl⟩
   |true =>
    have hk2:(m.getD p.toNat aM).1=3:=by simpa using hq
    have hq2:((m.getD p.toNat aM).1 != (3:Int))=false:=by rw[bne,hq];rfl
    obtain⟨o1,o2⟩:=oP q5 q6 (by rw[hk2];decide)
    cases he:((m.getD p.toNat aM).2.2==q)with
    |false =>
     have he2:((m.getD p.toNat aM).2.2 != q)=true:=by rw[bne,he];rfl
     simp only[hq,hq2,he,he2,aa,Option.bind_some,beq_self_eq_true,cond_true,cond_false]
     exact .inr ⟨b,7,_,_,by decide,q4,rfl,rfl⟩
    |true =>
     have he3:(m.getD p.toNat aM).2.2=q:=by simpa using he
     have he2:((m.getD p.toNat aM).2.2 != q)=false:=by rw[bne,he];rfl
     simp only[hq,hq2,he,he2,Option.bind_some,cond_true,cond_false]
     refine .inl ⟨b,m,_,rfl,rfl,by omega,q4,q5,o1,q7, .open_ q6 hk2 q8 (by rw[he3];exact q9)⟩
  ·rw[q2,q3]
   simp only[Option.bind_some,show(c2 != 0)=true from by rw[bne_iff_ne];exact q0,cond_true]
   exact .inr ⟨b,c2,_,_,q0,q1,rfl,rfl⟩
 ·rw[t2]
  simp only[Option.bind_some]
  rw[oE t3 t0,qB t0 kn xs hi]
  simp only[Option.bind_some,show(c0 != 0)=true from by rw[bne_iff_ne];exact t0,cond_true]
  exact .inr ⟨b0,c0,_,_,t0,t1,rfl,rfl⟩
theorem DG (hT:T.size≤100000) (hd:(bs T).drop a=c::r) (hp:aw xs=true) (hk:nL kn xs) (hv:(c.toNat:Int)=120) (hi:0<i1) (ih:∀(a:Nat) (xs:List ae),T.size-a≤n→a≤T.size→aw xs=true→nL kn xs→RB T a kn xs (ac N0 i1 (T,(a:Int),(0:Int),RS,false,false,kn,xs)) (ai N0 i2 (xs,kn,T,(a:Int)))) (hn:T.size-(a+1)≤n):RB T a kn xs (ac N0 (i1+1) (T,(a:Int),(0:Int),RS,false,false,kn,xs)) (ai N0 (i2+1) (xs,kn,T,(a:Int))):=by
 obtain⟨h1,h2,h3⟩:=bb hd
 have z0:((0:Int) != 0)=false:=rfl
 have hz:decide ((a:Int)≥(T.size:Int))=false:=decide_eq_false (by omega)
 have hin:=ax h1
 have w1:IntKind.i64.wrap ((a:Int)+1)=((a+1:Nat):Int):=by rw[ao (by omega) (by omega)];omega
 rw[hv]at h2
 have pk:=cW hd 0 RS
 rw[hv]at pk
 have hl:=ap hp
 show RB T a kn xs (af N0 (ac N0 i1) (T,(a:Int),(0:Int),RS,false,false,kn,xs)) (ak N0 (ai N0 i2) (xs,kn,T,(a:Int)))
 unfold af ak
 simp only[z0,hz,pk,h2,hin,w1,p6,pZ,pY,pX,pW,pV,jt,Option.bind_some,Int.reduceBEq,Int.reduceBNe,Bool.or_true,Bool.or_false,Bool.true_or,Bool.false_or,Bool.or_self,cond_true,cond_false]
 rcases kW hT (a:=a+1) h1 RS 40 with⟨t1,t2,t3,t4⟩|⟨b0,c0,t0,t1,t2,t3⟩
 ·rw[t1]
  simp only[Option.bind_some]
  rw[oF t2]
  rcases jr hT hi ih 41 (a:=a+2) (by omega) t3 hp hk with⟨b,m,p,q,q1,q2,q3,q4,q5,q6,q6',q7,q8,q9⟩|⟨b,c2,m1,ps,m2,x,y,q0,q1,q2,q3⟩
  ·rw[q1,q2]
   have hib:=j9 q6
   have hib':=j9 q6'
   simp only[z0,hib,hib',aq,jt,Int.reduceBEq,Bool.or_false,Bool.false_or,Bool.true_or,Bool.or_true,Bool.or_self,cond_false,cb,bS,aj,gE,show ah (1:Int) ([p,q]:List Int).length=true from rfl,show ah (0:Int) ([p,q]:List Int).length=true from rfl,show([p,q]:List Int).getD (1:Int).toNat 0=q from rfl,show([p,q]:List Int).getD (0:Int).toNat 0=p from rfl,yx (ap q5),xY q5,Option.bind_some,cond_true]
   cases hq:((m.getD q.toNat aM).1==(7:Int))with
   |false =>
    have hq2:((m.getD q.toNat aM).1 != (7:Int))=true:=by rw[bne,hq];rfl
    simp only[hq,hq2,aa,Option.bind_some,beq_self_eq_true,cond_true,cond_false]
    exact .inr ⟨b,7,_,_,by decide,q4,rfl,rfl⟩
   |true =>
    have hk2:(m.getD q.toNat aM).1=7:=by simpa using hq
    have hq2:((m.getD q.toNat aM).1 != (7:Int))=false:=by rw[bne,hq];rfl
    simp only[hq,hq2,Option.bind_some,cond_true,cond_false,aS]
    cases hA:nV m q p with
    |none =>
     simp only[js,aa,Option.bind_some,beq_self_eq_true,show decide ((-1:Int)<0)=true from rfl,cond_true]
     exact .inr ⟨b,5,_,_,by decide,q4,rfl,rfl⟩
    |some s =>
     obtain⟨ys,t⟩:=s
     have hA2:=Bj hA
     obtain⟨g1,g2,g3,⟨z,g4⟩,g5⟩:=fD q5 hA2
     rw[show js m (some (ys,t))=(ys,t)from rfl]
     dsimp only
     simp only[(show decide (t<(0:Int))=false from decide_eq_false (by omega)),Option.bind_some,cond_false]
     obtain⟨z',q7'⟩:=q7
     refine .inl ⟨b,ys,t,rfl,rfl,by omega,q4,g1,bo.2 ⟨g2,by omega⟩,⟨z'++z,by rw[g4,q7',List.append_assoc]⟩,?_⟩
     exact Es q5 (bo.2 ⟨g2,by omega⟩) g5 g4 hk2 q6' q8 q9
  ·rw[q2,q3]
   simp only[Option.bind_some,show(c2 != 0)=true from by rw[bne_iff_ne];exact q0,cond_true]
   exact .inr ⟨b,c2,_,_,q0,q1,rfl,rfl⟩
 ·rw[t2]
  simp only[Option.bind_some]
  rw[oE t3 t0,qB t0 kn xs hi]
  simp only[Option.bind_some,show(c0 != 0)=true from by rw[bne_iff_ne];exact t0,cond_true]
  exact .inr ⟨b0,c0,_,_,t0,t1,rfl,rfl⟩
theorem Be (hT:T.size≤100000) (hd:(bs T).drop a=c::r) (hp:aw xs=true) (hk:nL kn xs) (k110:(c.toNat:Int)≠110) (k64:(c.toNat:Int)≠64) (k40:(c.toNat:Int)≠40) (k123:(c.toNat:Int)≠123) (k91:(c.toNat:Int)≠91) (k35:(c.toNat:Int)≠35) (k94:(c.toNat:Int)≠94) (k60:(c.toNat:Int)≠60) (k62:(c.toNat:Int)≠62) (k33:(c.toNat:Int)≠33) (k107:(c.toNat:Int)≠107) (k42:(c.toNat:Int)≠42) (k111:(c.toNat:Int)≠111) (k120:(c.toNat:Int)≠120):RB T a kn xs (ac N0 (i1+1) (T,(a:Int),(0:Int),RS,false,false,kn,xs)) (ai N0 (i2+1) (xs,kn,T,(a:Int))):=by
 obtain⟨h1,h2,h3⟩:=bb hd
 have z0:((0:Int) != 0)=false:=rfl
 have hz:decide ((a:Int)≥(T.size:Int))=false:=decide_eq_false (by omega)
 have hin:=ax h1
 have w1:IntKind.i64.wrap ((a:Int)+1)=((a+1:Nat):Int):=by rw[ao (by omega) (by omega)];omega
 have pk:=cW hd 0 RS
 have hl:=ap hp
 show RB T a kn xs (af N0 (ac N0 i1) (T,(a:Int),(0:Int),RS,false,false,kn,xs)) (ak N0 (ai N0 i2) (xs,kn,T,(a:Int)))
 unfold af ak
 have e110:((110:Int)==(c.toNat:Int))=false:=by rw[beq_eq_false_iff_ne];omega
 have f110:((c.toNat:Int)==(110:Int))=false:=by rw[beq_eq_false_iff_ne];omega
 have e64:((64:Int)==(c.toNat:Int))=false:=by rw[beq_eq_false_iff_ne];omega
 have f64:((c.toNat:Int)==(64:Int))=false:=by rw[beq_eq_false_iff_ne];omega
 have e40:((40:Int)==(c.toNat:Int))=false:=by rw[beq_eq_false_iff_ne];omega
 have f40:((c.toNat:Int)==(40:Int))=false:=by rw[beq_eq_false_iff_ne];omega
 have e123:((123:Int)==(c.toNat:Int))=false:=by rw[beq_eq_false_iff_ne];omega
 have f123:((c.toNat:Int)==(123:Int))=false:=by rw[beq_eq_false_iff_ne];omega
 have e91:((91:Int)==(c.toNat:Int))=false:=by rw[beq_eq_false_iff_ne];omega
 have f91:((c.toNat:Int)==(91:Int))=false:=by rw[beq_eq_false_iff_ne];omega
 have e35:((35:Int)==(c.toNat:Int))=false:=by rw[beq_eq_false_iff_ne];omega
 have f35:((c.toNat:Int)==(35:Int))=false:=by rw[beq_eq_false_iff_ne];omega
 have e94:((94:Int)==(c.toNat:Int))=false:=by rw[beq_eq_false_iff_ne];omega
 have f94:((c.toNat:Int)==(94:Int))=false:=by rw[beq_eq_false_iff_ne];omega
 have e60:((60:Int)==(c.toNat:Int))=false:=by rw[beq_eq_false_iff_ne];omega
 have f60:((c.toNat:Int)==(60:Int))=false:=by rw[beq_eq_false_iff_ne];omega
 have e62:((62:Int)==(c.toNat:Int))=false:=by rw[beq_eq_false_iff_ne];omega
 have f62:((c.toNat:Int)==(62:Int))=false:=by rw[beq_eq_false_iff_ne];omega
 have e33:((33:Int)==(c.toNat:Int))=false:=by rw[beq_eq_false_iff_ne];omega
 have f33:((c.toNat:Int)==(33:Int))=false:=by rw[beq_eq_false_iff_ne];omega
 have e107:((107:Int)==(c.toNat:Int))=false:=by rw[beq_eq_false_iff_ne];omega
 have f107:((c.toNat:Int)==(107:Int))=false:=by rw[beq_eq_false_iff_ne];omega
 have e42:((42:Int)==(c.toNat:Int))=false:=by rw[beq_eq_false_iff_ne];omega
 have f42:((c.toNat:Int)==(42:Int))=false:=by rw[beq_eq_false_iff_ne];omega
 have e111:((111:Int)==(c.toNat:Int))=false:=by rw[beq_eq_false_iff_ne];omega
 have f111:((c.toNat:Int)==(111:Int))=false:=by rw[beq_eq_false_iff_ne];omega
 have e120:((120:Int)==(c.toNat:Int))=false:=by rw[beq_eq_false_iff_ne];omega
 have f120:((c.toNat:Int)==(120:Int))=false:=by rw[beq_eq_false_iff_ne];omega
 have hkd:br N0 (T,(a:Int))=some ((0:Int),(0:Int),(0:Int)):=by
  unfold br
  simp only[hin,h2,e110,f110,e64,f64,e40,f40,e123,f123,e91,f91,e35,f35,e94,f94,e60,f60,e62,f62,e33,f33,e107,f107,e42,f42,e111,f111,e120,f120,cond_true,cond_false]
 refine .inr ⟨a,3,xs,xs,by decide,by omega,?_,?_⟩
 ·dsimp only
  simp only[z0,hz,pk,p6,pZ,pY,pX,pW,pV,jt,e110,f110,e64,f64,e40,f40,e123,f123,e91,f91,e35,f35,e94,f94,e60,f60,e62,f62,e33,f33,e107,f107,e42,f42,e111,f111,e120,f120,Option.bind_some,Bool.or_false,Bool.or_self,cond_false,aa,beq_self_eq_true,cond_true]
  cases((36:Int)==(c.toNat:Int))<;>cases((63:Int)==(c.toNat:Int))<;>rfl
 ·dsimp only
  simp only[hz,hin,h2,e110,f110,e64,f64,e40,f40,e123,f123,e91,f91,e35,f35,e94,f94,e60,f60,e62,f62,e33,f33,e107,f107,e42,f42,e111,f111,e120,f120,hkd,Option.bind_some,Int.reduceBEq,beq_self_eq_true,cond_true,cond_false,show decide ((0:Int)>0)=false from rfl]
  try rfl
end
theorem uq{T:ByteArray}(hT:T.size≤100000){kn:List Int}:∀(n a:Nat) (xs:List ae) (j1 j2:Nat),T.size-a≤n→n<j1→n<j2→a≤T.size→aw xs=true→nL kn xs→RB T a kn xs (ac N0 j1 (T,(a:Int),(0:Int),RS,false,false,kn,xs)) (ai N0 j2 (xs,kn,T,(a:Int)))
 |0,a,xs,j1,j2,hn,h1,h2,ha,hp,hk=>wy (List.drop_eq_nil_of_le (by rw[kq];omega)) kn xs h1 h2
 |n+1,a,xs,j1,j2,hn,h1,h2,ha,hp,hk=>by
  obtain⟨i1,rfl⟩:∃i,j1=i+1:=⟨j1-1,by omega⟩
  obtain⟨i2,rfl⟩:∃i,j2=i+1:=⟨j2-1,by omega⟩
  cases hd:(bs T).drop a with
  |nil=>exact wy hd kn xs (by omega) (by omega)
  |cons c r =>
   have hs:=(bb hd).1
   have ih:∀(a:Nat) (xs:List ae),T.size-a≤n→a≤T.size→aw xs=true→nL kn xs→RB T a kn xs (ac N0 i1 (T,(a:Int),(0:Int),RS,false,false,kn,xs)) (ai N0 i2 (xs,kn,T,(a:Int))):=fun a xs q1 q2 q3 q4=>uq hT n a xs i1 i2 q1 (by omega) (by omega) q2 q3 q4
   have hi:0<i1:=by omega
   have hn':T.size-(a+1)≤n:=by omega
   by_cases h110:(c.toNat:Int)=110
   ·exact DI hT hd hp hk h110
   by_cases h64:(c.toNat:Int)=64
   ·exact Fi hT hd hp hk h64
   by_cases h40:(c.toNat:Int)=40
   ·exact Fm hT hd hp hk h40 hi ih hn'
   by_cases h123:(c.toNat:Int)=123
   ·exact DF hT hd hp hk h123 hi ih hn'
   by_cases h91:(c.toNat:Int)=91
   ·exact Fh hT hd hp hk h91 hi ih hn'
   by_cases h35:(c.toNat:Int)=35
   ·exact Fn hT hd hp hk h35 hi ih hn'
   by_cases h94:(c.toNat:Int)=94
   ·exact Fg hT hd hp hk h94 hi ih hn'
   by_cases h60:(c.toNat:Int)=60
   ·exact Fk hT hd hp hk h60 hi ih hn'
   by_cases h62:(c.toNat:Int)=62
   ·exact Fj hT hd hp hk h62 hi ih hn'
   by_cases h33:(c.toNat:Int)=33
   ·exact Fo hT hd hp hk h33 hi ih hn'
   by_cases h107:(c.toNat:Int)=107
   ·exact DJ hT hd hp hk h107 hi ih hn'
   by_cases h42:(c.toNat:Int)=42
   ·exact Fl hT hd hp hk h42 hi ih hn'
   by_cases h111:(c.toNat:Int)=111
   ·exact DH hT hd hp hk h111 hi ih hn'
   by_cases h120:(c.toNat:Int)=120
   ·exact DG hT hd hp hk h120 hi ih hn'
   exact Be hT hd hp hk h110 h64 h40 h123 h91 h35 h94 h60 h62 h33 h107 h42 h111 h120
def fj (xs:List ae) (k:List Int):Bool:=qo (fu xs k) 0 k.length&&(decide (k.length≤200)&&(decide (xs.length≤500)&&cE N0 [] xs))
theorem kY{xs:List ae}{k:List Int}:fj xs k=true↔(qo (fu xs k) 0 k.length=true∧k.length≤200∧aw xs=true):=by
 unfold fj aw
 rw[Bool.and_eq_true,Bool.and_eq_true,decide_eq_true_iff]
theorem lk{xs:List ae}{k:List Int}(h:fj xs k=true):aw xs=true:=(kY.1 h).2.2
theorem Eg{xs:List ae}{k:List Int}(h:fj xs k=true) (u:Nat) (hu:u<k.length):fu xs k u=true:=oA.1 (kY.1 h).1 u (Nat.zero_le _) (by omega)
theorem F4{xs:List ae}{k:List Int}(h:fj xs k=true):nL k xs:=by
 refine⟨by have:=(kY.1 h).2.1;omega,fun u hu=>?_⟩
 have:=Eg h u hu
 unfold fu at this
 exact(Bool.and_eq_true _ _▸this).1
theorem Fs{T:ByteArray}(hT:T.size≤2000){kn:List Int}{xs:List ae}(hp:aw xs=true) (hk:nL kn xs) :
  (∃ys t,c8 N0 (T,(0:Int),(0:Int),RS,false,false,(2000:Int),kn,xs)=some (T,(T.size:Int),(0:Int),RS,false,false,kn,ys,t)∧ai N0 N0 (xs,kn,T,(0:Int))=some (ys,t,(T.size:Int),(0:Int))∧aw ys=true∧cU ys t=true∧(∃zs,ys=xs++zs)∧nM kn ys t) ∨
  (∃(b:Nat) (c:Int) (m1 m2:List ae) (x y c':Int),c≠0∧c8 N0 (T,(0:Int),(0:Int),RS,false,false,(2000:Int),kn,xs)=some (T,(b:Int),c,RS,false,false,kn,m1,x)∧ai N0 N0 (xs,kn,T,(0:Int))=some (m2,y,(b:Int),c')∧(c'=c∨(c'=0∧c=6∧b<T.size))):=by
 have hr:=uq (T:=T) (by omega) (kn:=kn) T.size 0 xs N0 N0 (by omega) (by have:=n0;omega) (by have:=n0;omega) (Nat.zero_le _) hp hk
 have h2:decide ((T.size:Int)>(2000:Int))=false:=decide_eq_false (by omega)
 unfold c8
 dsimp only
 rw[h2,cond_false]
 rcases hr with⟨b,ys,t,r1,r2,r3,r4,r5,r6,r7,r8⟩|⟨b,c,m1,m2,r0,r1,r2,r3⟩
 ·have r1':ac N0 N0 (T,(0:Int),(0:Int),RS,false,false,kn,xs)=_:=r1
  have r2':ai N0 N0 (xs,kn,T,(0:Int))=_:=r2
  rw[r1',r2']
  simp only[Option.bind_some,beq_self_eq_true,cond_true]
  by_cases hb:b<T.size
  ·right
   refine⟨b,6,ys,ys, -1,t,0,by decide,?_,rfl, .inr ⟨rfl,rfl,hb⟩⟩
   rw[decide_eq_true (show(b:Int)<(T.size:Int)by omega),cond_true]
   rfl
  ·left
   obtain rfl:b=T.size:=by omega
   refine⟨ys,t,?_,rfl,r5,r6,r7,r8⟩
   rw[decide_eq_false (show ¬(T.size:Int)<(T.size:Int)by omega),cond_false]
 ·have r2':ac N0 N0 (T,(0:Int),(0:Int),RS,false,false,kn,xs)=_:=r2
  have r3':ai N0 N0 (xs,kn,T,(0:Int))=_:=r3
  rw[r2',r3']
  right
  refine⟨b,c,m1,m2, -1, -1,c,r0,?_,rfl, .inl rfl⟩
  simp only[Option.bind_some,show(c==0)=false from by rw[beq_eq_false_iff_ne];exact r0,cond_false]
theorem uu {α:Type}{xs:List α}(h:xs.length≤1000000){k:α}:cJ (xs.length+[k].length)=true:=by
 unfold cJ
 simp
 omega
def tK (t:Int):List Int→List Int
 |[]=>[t]
 |v::r=>if v<t then v::tK t r else t::v::r
def nJ (v:Int):Bool→List Int→List Int×Bool
 |b,[]=>([],b)
 |true,x::r=>(x::r,true)
 |false,x::r=>if v<x then(v::x::r,true)else(x::(nJ v false r).1,(nJ v false r).2)
theorem Bk (v:Int) (r:List Int):nJ v true r=(r,true):=by cases r<;>rfl
theorem wC (v:Int):∀(r pre out:List Int) (b:Bool) (m:Nat),r.length<m→pre.length+r.length≤1000→out.length+2*r.length≤100000→bA N0 m (pre++r,v,out,b,(pre.length:Int))=some (v,out++(nJ v b r).1,(nJ v b r).2)
 |[],pre,out,b,m,hm,hl,ho=>by
  obtain⟨i,rfl⟩:∃i,m=i+1:=⟨m-1,by omega⟩
  rw[bA]
  dsimp only
  rw[rZ,cond_false]
  cases b<;>simp[nJ]
 |x::r,pre,out,b,m,hm,hl,ho=>by
  obtain⟨i,rfl⟩:∃i,m=i+1:=⟨m-1,by omega⟩
  have hl':pre.length+(r.length+1)≤1000:=hl
  have hm':r.length+1<i+1:=hm
  have w:IntKind.i64.wrap ((pre.length:Int)+1)=((pre++[x]).length:Int):=by rw[ao (by omega) (by omega),oT]
  have ho2:out.length+2*(r.length+1)≤100000:=ho
  have go:∀out' b',out'.length+2*r.length≤100000→bA N0 i (pre++x::r,v,out',b',((pre++[x]).length:Int))=some (v,out'++(nJ v b' r).1,(nJ v b' r).2):=fun out' b' ho'=>by
   rw[o7]
   exact wC v r (pre++[x]) out' b' i (by omega) (by simp;omega) ho'
  rw[bA]
  dsimp only
  rw[rY,cond_true,sk,Int.toNat_natCast,o4]
  simp only[cond_true,w]
  cases b with
  |true =>
   simp only[Bool.not_true,cond_false,uu (show out.length≤1000000 by omega),cond_true]
   rw[go _ _ (by simp;omega)]
   simp[nJ,Bk]
  |false =>
   simp only[Bool.not_false,cond_true]
   by_cases hx:v<x
   ·simp only[decide_eq_true (show x>v from hx),cond_true,uu (show out.length≤1000000 by omega),uu (show(out++[v]).length≤1000000 by simp;omega)]
    rw[go _ _ (by simp;omega),nJ,if_pos hx,Bk]
    simp
   ·simp only[decide_eq_false (show ¬x>v from hx),cond_false,cond_true,uu (show out.length≤1000000 by omega)]
    rw[go _ _ (by simp;omega),nJ,if_neg hx]
    simp
theorem zx (v:Int):∀{r:List Int},v∉r→(bif (nJ v false r).2 then(nJ v false r).1 else(nJ v false r).1++[v])=tK v r
 |[],_=>rfl
 |x::r,h=>by
  rw[nJ,tK]
  by_cases hx:v<x
  ·rw[if_pos hx,if_neg (by omega)];rfl
  ·have hne:v≠x:=fun q=>h (q▸List.mem_cons_self ..)
   rw[if_neg hx,if_pos (by omega), ←zx v (fun q=>h (List.mem_cons_of_mem _ q))]
   dsimp only
   cases(nJ v false r).2<;>rfl
theorem uW (v:Int):∀(r:List Int),(tK v r).length=r.length+1
 |[]=>rfl
 |x::r=>by
  rw[tK]
  split
  ·rw[List.length_cons,uW v r,List.length_cons]
  ·rfl
theorem ml{l:List Int}{v:Int}:jl l v=l.contains v:=by
 rw[Bool.eq_iff_iff,List.contains_iff_mem,Ej,List.mem_iff_getElem]
 constructor
 ·rintro ⟨j,hj,e⟩
  exact⟨j,hj,by rw[←e];simp[List.getD_eq_getElem?_getD,hj]⟩
 ·rintro ⟨j,hj,e⟩
  exact⟨j,hj,by rw[←e];simp[List.getD_eq_getElem?_getD,hj]⟩
theorem Gv{l:List Int}(h:∀u,u<l.length→xD l u=true):l.Pairwise (·<·):=by
 rw[List.pairwise_iff_getElem]
 intro i j hi hj hij
 have step:∀k,i+1+k<l.length→l.getD i 0<l.getD (i+1+k) 0:=by
  intro k
  induction k with
  |zero =>
   intro hk
   have:=h (i+1) hk
   unfold xD at this
   rw[decide_eq_false (by omega:¬i+1=0),Bool.false_or,decide_eq_true_iff]at this
   exact this
  |succ k ih =>
   intro hk
   have h1:=ih (by omega)
   have:=h (i+1+(k+1)) hk
   unfold xD at this
   rw[decide_eq_false (by omega:¬i+1+(k+1)=0),Bool.false_or,decide_eq_true_iff]at this
   have e:i+1+(k+1)-1=i+1+k:=by omega
   rw[e]at this
   omega
 have:=step (j-(i+1)) (by omega)
 have e:i+1+(j-(i+1))=j:=by omega
 rw[e]at this
 have e1:l.getD i 0=l[i]:=by simp[List.getD_eq_getElem?_getD,hi]
 have e2:l.getD j 0=l[j]:=by simp[List.getD_eq_getElem?_getD,hj]
 rw[e1,e2]at this
 exact this
def o9 (kn:List Int) (v:Int):List Int:=bif kn.contains v then kn else tK v kn
theorem qF (kn:List Int) (v:Int):(o9 kn v).length≤kn.length+1:=by
 unfold o9
 cases kn.contains v with
 |true=>exact Nat.le_succ _
 |false=>exact Nat.le_of_eq (uW v kn)
theorem oK{kn:List Int}(hl:kn.length≤900) (v:Int):eI N0 (kn,v)=some (o9 kn v):=by
 unfold o9 eI
 dsimp only
 rw[ll (by omega),Option.bind_some,ml]
 have hlp:=wC v kn [] [] (kn.contains v) N0 (by have:=n0;omega) (by simp;omega) (by simp;omega)
 have hlp':bA N0 N0 (kn,v,([]:List Int),kn.contains v,(0:Int))=_:=hlp
 rw[hlp',Option.bind_some]
 dsimp only
 cases hc:kn.contains v with
 |true =>
  rw[Bk]
  rfl
 |false =>
  have hnm:v∉kn:=fun q=>by rw[List.contains_iff_mem.2 q]at hc;cases hc
  have hi:=zx v hnm
  have hil:=uW v kn
  rw[cond_false]
  cases hb:(nJ v false kn).2 with
  |true =>
   rw[hb,cond_true]at hi
   rw[←hi];rfl
  |false =>
   rw[hb,cond_false]at hi
   have:(nJ v false kn).1.length≤1000000:=by
    have:=congrArg List.length hi
    simp at this
    omega
   simp only[List.nil_append,Bool.not_false,cond_true,uu this,hi]
theorem uV{v x:Int}:∀{r:List Int},x∈tK v r→x=v∨x∈r
 |[],h => .inl (List.mem_singleton.1 h)
 |y::r,h=>by
  unfold tK at h
  split at h
  ·rcases List.mem_cons.1 h with e|e
   ·exact .inr (e▸List.mem_cons_self ..)
   ·rcases uV e with e|e
    ·exact .inl e
    ·exact .inr (List.mem_cons_of_mem _ e)
  ·rcases List.mem_cons.1 h with e|e
   ·exact .inl e
   ·exact .inr e
theorem yw{v x:Int}:∀{r:List Int},(x=v∨x∈r)→x∈tK v r
 |[],h=>by
  rcases h with rfl|h
  ·exact List.mem_singleton.2 rfl
  ·cases h
 |y::r,h=>by
  unfold tK
  by_cases q:y<v
  ·rw[if_pos q]
   rcases h with h|h
   ·exact List.mem_cons_of_mem _ (yw (.inl h))
   ·rcases List.mem_cons.1 h with e|e
    ·exact e▸List.mem_cons_self ..
    ·exact List.mem_cons_of_mem _ (yw (.inr e))
  ·rw[if_neg q]
   rcases h with h|h
   ·exact h▸List.mem_cons_self ..
   ·exact List.mem_cons_of_mem _ h
theorem CY{v:Int}:∀{r:List Int},v∉r→r.Pairwise (·<·)→(tK v r).Pairwise (·<·)
 |[],_,_=>List.pairwise_singleton ..
 |y::r,hv,h=>by
  have h':=List.pairwise_cons.1 h
  have hne:v≠y:=fun q=>hv (q▸List.mem_cons_self ..)
  unfold tK
  by_cases q:y<v
  ·rw[if_pos q]
   refine List.pairwise_cons.2 ⟨fun x hx=>?_,CY (fun q=>hv (List.mem_cons_of_mem _ q)) h'.2⟩
   rcases uV hx with e|e
   ·exact e▸q
   ·exact h'.1 x e
  ·rw[if_neg q]
   refine List.pairwise_cons.2 ⟨fun x hx=>?_,h⟩
   rcases List.mem_cons.1 hx with e|e
   ·omega
   ·have:=h'.1 x e
    omega
theorem FV{k a b:Int}{i:Nat}(hi:i≤4294967296) (h:dm N0 (k,a,b,(i:Int))=true):(k=1∧0≤a∧a≤199)∨((k=5∨k=7)∧0≤a∧a<(i:Int))∨((k=2∨k=3∨k=4∨k=6∨k=8)∧0≤a∧a<(i:Int)∧0≤b∧b<(i:Int)):=by
 have w:IntKind.i64.wrap ((i:Int)-(1:Int))=(i:Int)-1:=ao (by omega) (by omega)
 have hr:∀v lo hi:Int,aE N0 (v,lo,hi)=some (decide (v≥lo)&&decide (v≤hi)):=fun v lo hi=>by
  unfold aE
  cases q:decide (v≥lo)<;>(simp[q])
 have hk:dm N0 (k,a,b,(i:Int))=(aQ N0 (k,a,b,(i:Int))).getD false:=rfl
 rw[hk]at h
 unfold aQ at h
 dsimp only at h
 rw[w,hr,hr,hr]at h
 by_cases h1:k=1
 ·subst h1
  rw[show aH N0 1=some 0 from rfl]at h
  left
  cases q:(decide (a≥0)&&decide (a≤199))with
  |false=>simp only[Option.bind_some,beq_self_eq_true,cond_true,q]at h;cases h
  |true =>
   rw[Bool.and_eq_true,decide_eq_true_iff,decide_eq_true_iff]at q
   exact⟨rfl,q.1,q.2⟩
 by_cases h5:k=5∨k=7
 ·right;left
  have hc:aH N0 k=some 1:=by rcases h5 with rfl|rfl<;>rfl
  rw[hc]at h
  cases q:(decide (a≥0)&&decide (a≤(i:Int)-1))with
  |false=>simp only[Option.bind_some,show((1:Int)==0)=false from rfl,beq_self_eq_true,cond_true,cond_false,q]at h;cases h
  |true =>
   rw[Bool.and_eq_true,decide_eq_true_iff,decide_eq_true_iff]at q
   exact⟨h5,q.1,by omega⟩
 by_cases h2:k=2∨k=3∨k=4∨k=6∨k=8
 ·right;right
  have hc:aH N0 k=some 2:=by rcases h2 with rfl|rfl|rfl|rfl|rfl<;>rfl
  rw[hc]at h
  cases q:(decide (a≥0)&&decide (a≤(i:Int)-1))with
  |false=>simp only[Option.bind_some,show((2:Int)==0)=false from rfl,show((2:Int)==1)=false from rfl,beq_self_eq_true,cond_true,cond_false,q]at h;cases h
  |true =>
   cases q2:(decide (b≥0)&&decide (b≤(i:Int)-1))with
   |false=>simp only[Option.bind_some,show((2:Int)==0)=false from rfl,show((2:Int)==1)=false from rfl,beq_self_eq_true,cond_true,cond_false,q,q2]at h;cases h
   |true =>
    rw[Bool.and_eq_true,decide_eq_true_iff,decide_eq_true_iff]at q q2
    exact⟨h2,q.1,by omega,q2.1,by omega⟩
 exfalso
 have hc:∃c,aH N0 k=some c∧c≠0∧c≠1∧c≠2:=by
  unfold aH
  simp only[show(k==1)=false from by rw[beq_eq_false_iff_ne];exact h1,show(k==2)=false from by rw[beq_eq_false_iff_ne];omega,show(k==3)=false from by rw[beq_eq_false_iff_ne];omega,show(k==4)=false from by rw[beq_eq_false_iff_ne];omega,show(k==5)=false from by rw[beq_eq_false_iff_ne];omega,show(k==6)=false from by rw[beq_eq_false_iff_ne];omega,show(k==7)=false from by rw[beq_eq_false_iff_ne];omega,show(k==8)=false from by rw[beq_eq_false_iff_ne];omega,cond_false]
  exact⟨_,rfl,by decide,by decide,by decide⟩
 obtain⟨c,hc,c0,c1,c2⟩:=hc
 rw[hc]at h
 simp only[Option.bind_some,show(c==0)=false from by rw[beq_eq_false_iff_ne];exact c0,show(c==1)=false from by rw[beq_eq_false_iff_ne];exact c1,show(c==2)=false from by rw[beq_eq_false_iff_ne];exact c2,cond_false]at h
 cases h
def fB (F:List Bool) (v:Int):Bool:=F.getD v.toNat false
def fN (F:List Bool) (j:Nat):Bool:=F.getD j false
theorem ve (F:List Bool) (j:Nat):fB F (j:Int)=fN F j:=by unfold fB fN;rw[Int.toNat_natCast]
def ya (xs:List ae) (F:List Bool) (b:Int):Bool:=match gZ xs ((7:Int),(b,(0:Int)))with
 |some j=>fN F j
 |none=>false
def tI (xs:List ae) (kn:List Int) (F:List Bool) (b:Int):Bool:=match gZ xs ((7:Int),(b,(0:Int)))with
 |some j=>fB F b || jl kn (j:Int)
 |none=>false
def lG (F:List Bool) (pow:Int→Bool) (n:ae):Bool :=
 bif n.1==1 then(decide (n.2.1≥0)&&decide (n.2.1≤49))else bif n.1==5 || n.1==7 then fB F n.2.1 else(fB F n.2.1&&fB F n.2.2) || (n.1==8&&((fB F n.2.1&&pow n.2.2) || (fB F n.2.2&&pow n.2.1)))
def wh (xs:List ae) (F:List Bool) (t:Nat):Bool:=lG F (ya xs F) (xs.getD t aM)
def nj (xs:List ae) (kn:List Int) (F:List Bool) (t:Nat):Bool:=lG F (tI xs kn F) (xs.getD t aM)
def sB (xs:List ae) (kn:List Int):Nat→List Bool
 |0=>[]
 |n+1=>sB xs kn n++[jl kn (n:Int) || nj xs kn (sB xs kn n) n]
theorem mI (xs:List ae) (kn:List Int):∀n,(sB xs kn n).length=n
 |0=>rfl
 |n+1=>by rw[sB,List.length_append,mI xs kn n];rfl
theorem x7{xs:List ae}{kn:List Int}{i:Nat}:∀{n:Nat},i<n→fN (sB xs kn n) i=(jl kn (i:Int) || nj xs kn (sB xs kn i) i)
 |0,h=>by omega
 |n+1,h=>by
  unfold fN
  rw[sB]
  by_cases q:i=n
  ·subst q
   rw[List.getD_eq_getElem?_getD,List.getElem?_append_right (by rw[mI];exact Nat.le_refl _),mI,Nat.sub_self];rfl
  ·rw[List.getD_eq_getElem?_getD,List.getElem?_append_left (by rw[mI];omega), ←List.getD_eq_getElem?_getD]
   exact x7 (by omega)
theorem G6{xs:List ae}{kn:List Int}{i n m:Nat}(h1:i<n) (h2:i<m):fN (sB xs kn n) i=fN (sB xs kn m) i:=by
 rw[x7 h1,x7 h2]
theorem Fe{xs:List ae}{kn:List Int}{v:Int}{n m:Nat}(h0:0≤v) (h1:v<(n:Int)) (h2:v<(m:Int)):fB (sB xs kn n) v=fB (sB xs kn m) v:=by
 obtain⟨i,rfl⟩:=Int.eq_ofNat_of_zero_le h0
 rw[ve,ve]
 exact G6 (by omega) (by omega)
theorem BV{F G:List Bool}{p q:Int→Bool}{n:ae}{t:Nat}(hn:(n.1=1∧0≤n.2.1∧n.2.1≤199)∨((n.1=5∨n.1=7)∧0≤n.2.1∧n.2.1<(t:Int))∨((n.1=2∨n.1=3∨n.1=4∨n.1=6∨n.1=8)∧0≤n.2.1∧n.2.1<(t:Int)∧0≤n.2.2∧n.2.2<(t:Int)))
  (h:∀v,0≤v→v<(t:Int)→fB F v=fB G v∧p v=q v):lG F p n=lG G q n:=by
 unfold lG
 rcases hn with⟨a,_⟩|⟨a,b,c⟩|⟨a,b,c,d,e⟩
 ·rw[a];rfl
 ·rw[(h _ b c).1]
  rcases a with a|a<;>rw[a]<;>rfl
 ·rw[(h _ b c).1,(h _ b c).2,(h _ d e).1,(h _ d e).2]
theorem dF{xs:List ae}(hp:aw xs=true){t:Nat}(ht:t<xs.length):((xs.getD t aM).1=1∧0≤(xs.getD t aM).2.1∧(xs.getD t aM).2.1≤199)∨(((xs.getD t aM).1=5∨(xs.getD t aM).1=7)∧0≤(xs.getD t aM).2.1∧(xs.getD t aM).2.1<(t:Int))∨(((xs.getD t aM).1=2∨(xs.getD t aM).1=3∨(xs.getD t aM).1=4∨(xs.getD t aM).1=6∨(xs.getD t aM).1=8)∧0≤(xs.getD t aM).2.1∧(xs.getD t aM).2.1<(t:Int)∧0≤(xs.getD t aM).2.2∧(xs.getD t aM).2.2<(t:Int)) :=
 FV (by have:=ap hp;omega) (j7 hp ht)
abbrev d8 (xs:List ae) (kn:List Int):List Bool:=sB xs kn xs.length
theorem rD{xs:List ae}(hp:aw xs=true){kn:List Int}{t:Nat}(ht:t<xs.length):fN (d8 xs kn) t=(jl kn (t:Int) || nj xs kn (d8 xs kn) t):=by
 rw[x7 ht]
 congr 1
 refine BV (dF hp ht) fun v h0 h1=>?_
 have e:=Fe (xs:=xs) (kn:=kn) h0 h1 (show v<(xs.length:Int)by omega)
 refine⟨e,?_⟩
 unfold tI
 rw[e]
theorem uy{xs:List ae}{b:Int}{j:Nat}(h:gZ xs ((7:Int),(b,(0:Int)))=some j):j<xs.length∧xs.getD j aM=((7:Int),(b,(0:Int))):=by
 have:=mR h
 exact⟨by omega,this.2.2⟩
theorem G0{xs:List ae}(hp:aw xs=true){kn:List Int}{F:List Bool}(hF:∀i,i<xs.length→fN F i=true→fN (d8 xs kn) i=true){t:Nat}(ht:t<xs.length) (h:wh xs F t=true):fN (d8 xs kn) t=true:=by
 rw[rD hp ht,Bool.or_eq_true]
 right
 have hv:∀v:Int,0≤v→v<(t:Int)→fB F v=true→fB (d8 xs kn) v=true:=fun v h0 h1 q=>by
  obtain⟨i,rfl⟩:=Int.eq_ofNat_of_zero_le h0
  rw[ve]at q ⊢
  exact hF i (by omega) q
 have hw:∀v:Int,0≤v→v<(t:Int)→ya xs F v=true→tI xs kn (d8 xs kn) v=true:=fun v h0 h1 q=>by
  unfold ya at q
  unfold tI
  cases e:gZ xs ((7:Int),(v,(0:Int)))with
  |none=>rw[e]at q;cases q
  |some j =>
   rw[e]at q
   dsimp only at q ⊢
   obtain⟨j1,j2⟩:=uy e
   have:=hF j j1 q
   rw[rD hp j1,Bool.or_eq_true]at this
   rw[Bool.or_eq_true]
   rcases this with this|this
   ·exact .inr this
   ·left
    unfold nj lG at this
    rw[j2]at this
    exact this
 unfold wh lG at h
 unfold nj lG
 rcases dF hp ht with⟨a,b,c⟩|⟨a,b,c⟩|⟨a,b,c,d,e⟩
 ·rw[a]at h ⊢;exact h
 ·rcases a with a|a<;>rw[a]at h ⊢<;>exact hv _ b c h
 ·have z:((xs.getD t aM).1==1)=false∧((xs.getD t aM).1==5 || (xs.getD t aM).1==7)=false:=by
   rcases a with a|a|a|a|a<;>rw[a]<;>exact⟨rfl,rfl⟩
  rw[z.1,z.2,cond_false,cond_false]at h ⊢
  rw[Bool.or_eq_true,Bool.and_eq_true,Bool.and_eq_true,Bool.or_eq_true,Bool.and_eq_true,Bool.and_eq_true]at h ⊢
  rcases h with⟨h1,h2⟩|⟨h0,⟨h1,h2⟩|⟨h1,h2⟩⟩
  ·exact .inl ⟨hv _ b c h1,hv _ d e h2⟩
  ·exact .inr ⟨h0, .inl ⟨hv _ b c h1,hw _ d e h2⟩⟩
  ·exact .inr ⟨h0, .inr ⟨hv _ d e h1,hw _ b c h2⟩⟩
theorem Ge{xs:List ae}(hp:aw xs=true){kn:List Int}{F:List Bool}(hk:∀i,i<xs.length→jl kn (i:Int)=true→fN F i=true) (hc:∀i,i<xs.length→wh xs F i=true→fN F i=true):∀(n t:Nat),t<n→t<xs.length→fN (d8 xs kn) t=true→fN F t=true
 |0,t,h,_,_=>by omega
 |n+1,t,hn,ht,h=>by
  have ih:=Ge hp hk hc n
  rw[rD hp ht,Bool.or_eq_true]at h
  rcases h with h|h
  ·exact hk t ht h
  refine hc t ht ?_
  have hv:∀v:Int,0≤v→v<(t:Int)→fB (d8 xs kn) v=true→fB F v=true:=fun v h0 h1 q=>by
   obtain⟨i,rfl⟩:=Int.eq_ofNat_of_zero_le h0
   rw[ve]at q ⊢
   exact ih i (by omega) (by omega) q
  have hw:∀v:Int,0≤v→v<(t:Int)→tI xs kn (d8 xs kn) v=true→ya xs F v=true:=fun v h0 h1 q=>by
   unfold tI at q
   unfold ya
   cases e:gZ xs ((7:Int),(v,(0:Int)))with
   |none=>rw[e]at q;cases q
   |some j =>
    rw[e]at q
    dsimp only at q ⊢
    obtain⟨j1,j2⟩:=uy e
    rw[Bool.or_eq_true]at q
    rcases q with q|q
    ·refine hc j j1 ?_
     unfold wh lG
     rw[j2]
     exact hv v h0 h1 q
    ·exact hk j j1 q
  unfold nj lG at h
  unfold wh lG
  rcases dF hp ht with⟨a,b,c⟩|⟨a,b,c⟩|⟨a,b,c,d,e⟩
  ·rw[a]at h ⊢;exact h
  ·rcases a with a|a<;>rw[a]at h ⊢<;>exact hv _ b c h
  ·have z:((xs.getD t aM).1==1)=false∧((xs.getD t aM).1==5 || (xs.getD t aM).1==7)=false:=by
    rcases a with a|a|a|a|a<;>rw[a]<;>exact⟨rfl,rfl⟩
   rw[z.1,z.2,cond_false,cond_false]at h ⊢
   rw[Bool.or_eq_true,Bool.and_eq_true,Bool.and_eq_true,Bool.or_eq_true,Bool.and_eq_true,Bool.and_eq_true]at h ⊢
   rcases h with⟨h1,h2⟩|⟨h0,⟨h1,h2⟩|⟨h1,h2⟩⟩
   ·exact .inl ⟨hv _ b c h1,hv _ d e h2⟩
   ·exact .inr ⟨h0, .inl ⟨hv _ b c h1,hw _ d e h2⟩⟩
   ·exact .inr ⟨h0, .inr ⟨hv _ d e h1,hw _ b c h2⟩⟩
theorem Gf{xs:List ae}(hp:aw xs=true){kn:List Int}{F:List Bool}(hl:F.length=xs.length) (hk:∀i,i<xs.length→jl kn (i:Int)=true→fN F i=true) (hle:∀i,i<xs.length→fN F i=true→fN (d8 xs kn) i=true) (hc:∀i,i<xs.length→wh xs F i=true→fN F i=true):F=d8 xs kn:=by
 refine List.ext_getElem (by rw[hl,mI]) fun i h1 h2=>?_
 have e1:fN F i=F[i]:=o5 h1 false
 have e2:fN (d8 xs kn) i=(d8 xs kn)[i]:=o5 h2 false
 rw[←e1, ←e2]
 rw[hl]at h1
 have a:=hle i h1
 have b:=Ge hp hk hc (i+1) i (by omega) h1
 cases q:fN F i with
 |true=>rw[a q]
 |false =>
  cases r:fN (d8 xs kn) i with
  |true=>rw[b r]at q;cases q
  |false=>rfl
theorem yO:∀{a b:List Int},a.Pairwise (·<·)→b.Pairwise (·<·)→(∀x,x∈a↔x∈b)→a=b
 |[],[],_,_,_=>rfl
 |[],y::r,_,_,h=>absurd ((h y).2 (List.mem_cons_self ..)) (by simp)
 |x::r,[],_,_,h=>absurd ((h x).1 (List.mem_cons_self ..)) (by simp)
 |x::r,y::q,h1,h2,h=>by
  have a1:=List.pairwise_cons.1 h1
  have a2:=List.pairwise_cons.1 h2
  have e:x=y:=by
   rcases List.mem_cons.1 ((h x).1 (List.mem_cons_self ..))with e|e
   ·exact e
   ·rcases List.mem_cons.1 ((h y).2 (List.mem_cons_self ..))with g|g
    ·exact g.symm
    ·have:=a2.1 x e
     have:=a1.1 y g
     omega
  subst e
  have:r=q:=yO a1.2 a2.2 fun v=>by
   constructor
   ·intro hv
    rcases List.mem_cons.1 ((h v).1 (List.mem_cons_of_mem _ hv))with e|e
    ·have:=a1.1 v hv
     omega
    ·exact e
   ·intro hv
    rcases List.mem_cons.1 ((h v).2 (List.mem_cons_of_mem _ hv))with e|e
    ·have:=a2.1 v hv
     omega
    ·exact e
  rw[this]
theorem xz{d:Array Int}{x:Int}:∀j,d[j]! = x→∃i,i≤j∧Lib.keeps d i=true∧d[i]! = x
 |0,h=>⟨0,Nat.le_refl _,by simp[Lib.keeps],h⟩
 |j+1,h=>by
  by_cases q:d[j+1]! = d[j]!
  ·obtain⟨i,h1,h2,h3⟩:=xz j (q▸h)
   exact⟨i,by omega,h2,h3⟩
  ·exact⟨j+1,Nat.le_refl _,by simp only[Lib.keeps,Nat.add_sub_cancel];exact decide_eq_true (.inr q),h⟩
theorem IX{zs:List Int}{x:Int}:x∈zs↔∃j,j<zs.length∧zs.toArray[j]! = x:=by
 constructor
 ·intro h
  obtain⟨j,h1,h2⟩:=List.getElem_of_mem h
  exact⟨j,h1,by simp[h1,h2]⟩
 ·rintro ⟨j,h1,h2⟩
  have:zs[j]=x:=by simpa [h1]using h2
  exact this▸List.getElem_mem h1
theorem Gm{zs:List Int}(x:Int):x∈Lib.compact zs↔x∈zs:=by
 unfold Lib.compact Lib.compactUpTo
 rw[List.mem_map,IX]
 constructor
 ·rintro ⟨j,h1,h2⟩
  exact⟨j,List.mem_range.1 (List.mem_filter.1 h1).1,h2⟩
 ·rintro ⟨j,h1,h2⟩
  obtain⟨i,g1,g2,g3⟩:=xz j h2
  exact⟨i,List.mem_filter.2 ⟨List.mem_range.2 (by omega),g2⟩,g3⟩
theorem Gy{zs:List Int}(h:zs.Pairwise (·≤·)){i j:Nat}(hij:i≤j) (hj:j<zs.length):zs.toArray[i]!≤zs.toArray[j]!:=by
 have hi:i<zs.length:=by omega
 simp only[List.getElem!_toArray,hi,hj,getElem!_pos]
 rcases Nat.lt_or_ge i j with q|q
 ·exact List.pairwise_iff_getElem.1 h i j hi hj q
 ·have:i=j:=by omega
  subst this;exact Int.le_refl _
theorem Gn{zs:List Int}(h:zs.Pairwise (·≤·)):(Lib.compact zs).Pairwise (·<·):=by
 unfold Lib.compact Lib.compactUpTo
 rw[List.pairwise_map]
 refine List.Pairwise.imp_of_mem ?_ (List.pairwise_lt_range.filter _)
 intro i j hi hj hij
 have hj1:=List.mem_filter.1 hj
 have hjl:=List.mem_range.1 hj1.1
 have hk:j=0∨zs.toArray[j]!≠zs.toArray[j-1]!:=of_decide_eq_true hj1.2
 have a1:=Gy h (show i≤j-1 by omega) (by omega)
 have a2:=Gy h (show j-1≤j by omega) hjl
 rcases hk with e|e
 ·omega
 ·omega
def Ig (xs:List Int):List Int:=Lib.compact (xs.mergeSort fun a b=>decide (a≤b))
theorem qI (xs:List Int):(Ig xs).Pairwise (·<·):=by
 refine Gn ?_
 have h:=List.pairwise_mergeSort (le:=fun a b:Int=>decide (a≤b)) (fun a b c h1 h2=>by simp only[decide_eq_true_eq]at *;omega) (fun a b=>by simp only[Bool.or_eq_true,decide_eq_true_eq];omega) xs
 exact h.imp fun q=>of_decide_eq_true q
theorem lL{xs:List Int}(x:Int):x∈Ig xs↔x∈xs:=by
 unfold Ig
 rw[Gm,List.mem_mergeSort]
theorem Fv{kn:List Int}(h:kn.Pairwise (·<·)) (v:Int):(o9 kn v).Pairwise (·<·):=by
 unfold o9
 cases q:kn.contains v with
 |true=>exact h
 |false =>
  refine CY (fun hv=>?_) h
  rw[List.contains_iff_mem.2 hv]at q
  cases q
theorem Fu{kn:List Int}{v x:Int}:x∈o9 kn v↔x=v∨x∈kn:=by
 unfold o9
 cases q:kn.contains v with
 |true =>
  show x∈kn↔_
  constructor
  ·exact .inr
  ·rintro (e|e)
   ·exact e▸List.contains_iff_mem.1 q
   ·exact e
 |false=>exact⟨uV,yw⟩
theorem t7:∀{b a:List Int},a.Pairwise (·<·)→b.Pairwise (·<·)→(∀x,x∈a→x∈b)→a.length≤b.length∧(a.length=b.length→a=b)
 |[],[],_,_,_=>⟨Nat.le_refl _,fun _=>rfl⟩
 |[],x::r,_,_,h=>absurd (h x (List.mem_cons_self ..)) (by simp)
 |y::q,[],_,_,_=>⟨Nat.zero_le _,fun e=>by cases e⟩
 |y::q,x::r,h1,h2,h=>by
  have a1:=List.pairwise_cons.1 h1
  have a2:=List.pairwise_cons.1 h2
  rcases List.mem_cons.1 (h x (List.mem_cons_self ..))with e|e
  ·subst e
   have ih:=t7 a1.2 a2.2 fun v hv=>by
    rcases List.mem_cons.1 (h v (List.mem_cons_of_mem _ hv))with e|e
    ·have:=a1.1 v hv
     omega
    ·exact e
   exact⟨Nat.succ_le_succ ih.1,fun e=>by rw[ih.2 (by simpa using e)]⟩
  ·have hxy:=a2.1 x e
   have ih:=t7 h1 a2.2 fun v hv=>by
    rcases List.mem_cons.1 (h v hv)with g|g
    ·rcases List.mem_cons.1 hv with k|k
     ·omega
     ·have:=a1.1 v k
      omega
    ·exact g
   have:=ih.1
   simp only[List.length_cons]at this ⊢
   exact⟨by omega,fun e=>by omega⟩
theorem mj{v:Int}{n:Nat}(h0:0≤v) (h1:v<(n:Int)):ah v n=true:=decide_eq_true ⟨h0,h1⟩
theorem Ke{xs:List ae}(hx:xs.length≤4294967296) (a b c:Int):gx N0 (xs,a,b,c)=some (xs,zG xs (a,b,c)):=by
 unfold gx
 dsimp only
 have h:=Am hx (a,b,c)
 dsimp only at h
 rw[h];rfl
theorem Ei{xs:List ae}(hx:xs.length≤4294967296){F:List Bool}(hF:F.length=xs.length) (b:Int):dj N0 (xs,(7:Int),b,(0:Int),F)=some (xs,F,ya xs F b):=by
 unfold dj ya
 dsimp only
 rw[Ke hx,Option.bind_some]
 unfold zG
 cases e:gZ xs ((7:Int),(b,(0:Int)))with
 |none=>rfl
 |some j =>
  have:=(uy e).1
  (try dsimp only)
  rw[decide_eq_true (show(j:Int)≥0 by omega),cond_true,mj (show(0:Int)≤(j:Int)by omega) (show(j:Int)<(F.length:Int)by omega),cond_true,Int.toNat_natCast]
  rfl
theorem AJ{xs:List ae}{F:List Bool}{k a b:Int}:∀(r pre:List Int) (acc:Bool) (m:Nat),r.length<m→pre.length+r.length≤1000→(∀v∈r,0≤v∧v<(F.length:Int))→aV N0 m (xs,F,k,a,b,acc,pre++r,((pre++r).length:Int),(pre.length:Int))=some (xs,F,k,a,b,acc&&r.all (fB F))
 |[],pre,acc,m,hm,hl,hv=>by
  obtain⟨i,rfl⟩:∃i,m=i+1:=⟨m-1,by omega⟩
  rw[aV]
  (try dsimp only)
  rw[rZ,cond_false,List.all_nil,Bool.and_true]
 |x::r,pre,acc,m,hm,hl,hv=>by
  obtain⟨i,rfl⟩:∃i,m=i+1:=⟨m-1,by omega⟩
  have hl':pre.length+(r.length+1)≤1000:=hl
  have hm':r.length+1<i+1:=hm
  have w:IntKind.i64.wrap ((pre.length:Int)+1)=((pre++[x]).length:Int):=by rw[ao (by omega) (by omega),oT]
  have hx:=hv x (List.mem_cons_self ..)
  have go:∀acc',aV N0 i (xs,F,k,a,b,acc',pre++x::r,((pre++x::r).length:Int),((pre++[x]).length:Int))=some (xs,F,k,a,b,acc'&&r.all (fB F)):=fun acc'=>by
   rw[o7]
   exact AJ r (pre++[x]) acc' i (by omega) (by simp;omega) (fun v q=>hv v (List.mem_cons_of_mem _ q))
  rw[aV]
  (try dsimp only)
  rw[rY,cond_true,sk,Int.toNat_natCast,o4,cond_true,w,mj hx.1 hx.2,cond_true]
  cases acc with
  |true =>
   rw[cond_true,go,List.all_cons,Bool.true_and];rfl
  |false=>rw[cond_false,go];rfl
theorem Da{xs:List ae}{F:List Bool}{k a b:Int}(r:List Int) (hr:r.length≤1000) (hv:∀v∈r,0≤v∧v<(F.length:Int)):aV N0 N0 (xs,F,k,a,b,true,r,(r.length:Int),(0:Int))=some (xs,F,k,a,b,r.all (fB F)):=by
 have h:=AJ (xs:=xs) (F:=F) (k:=k) (a:=a) (b:=b) r [] true N0 (by have:=n0;omega) (by simpa using hr) hv
 rw[Bool.true_and]at h
 exact h
theorem C6:aH N0 5=some 1∧aH N0 7=some 1:=⟨rfl,rfl⟩
theorem IS:aH N0 2=some 2∧aH N0 3=some 2∧aH N0 4=some 2∧aH N0 6=some 2∧aH N0 8=some 2:=⟨rfl,rfl,rfl,rfl,rfl⟩
theorem BW{xs:List ae}(hp:aw xs=true){t:Nat}(ht:t<xs.length){F:List Bool}(hF:F.length=xs.length):eG N0 (xs,(t:Int),F)=some (xs,F,wh xs F t):=by
 have hx:xs.length≤4294967296:=by have:=ap hp;omega
 have hc:=dF hp ht
 unfold eG wh lG dG
 dsimp only
 rw[ax ht,cond_true,Int.toNat_natCast,cond_true]
 have e0:xs.getD t aM=xs.getD t ((0:Int),((0:Int),(0:Int))):=rfl
 rw[e0]at hc ⊢
 generalize xs.getD t ((0:Int),((0:Int),(0:Int)))=n at hc ⊢
 obtain⟨k,a,b⟩:=n
 dsimp only at hc ⊢
 rcases hc with⟨rfl,h0,h1⟩|⟨hk,h0,h1⟩|⟨hk,h0,h1,g0,g1⟩
 ·unfold eM
  rw[iv];rfl
 ·have hr:=Da (xs:=xs) (F:=F) (k:=k) (a:=a) (b:=b) [a] (by simp) (fun v hv=>by rw[List.mem_singleton.1 hv];omega)
  simp only[List.all_cons,List.all_nil,Bool.and_true,List.length_singleton]at hr
  rcases hk with rfl|rfl
  ·rw[C6.1]
   simp only[Option.bind_some,show((5:Int)==1)=false from rfl,show((1:Int)==1)=true from rfl,show((5:Int)==5 || (5:Int)==7)=true from rfl,show((5:Int) != 8)=true from rfl,cond_true,cond_false,List.length_singleton]
   rw[show((1:Nat):Int)=(1:Int)from rfl]at hr ⊢
   rw[hr,Option.bind_some]
   cases fB F a<;>rfl
  ·rw[C6.2]
   simp only[Option.bind_some,show((7:Int)==1)=false from rfl,show((1:Int)==1)=true from rfl,show((7:Int)==5 || (7:Int)==7)=true from rfl,show((7:Int) != 8)=true from rfl,cond_true,cond_false,List.length_singleton]
   rw[show((1:Nat):Int)=(1:Int)from rfl]at hr ⊢
   rw[hr,Option.bind_some]
   cases fB F a<;>rfl
 ·have hr:=Da (xs:=xs) (F:=F) (k:=k) (a:=a) (b:=b) [a,b] (by simp) (fun v hv=>by
   rcases List.mem_cons.1 hv with rfl|hv
   ·omega
   ·rw[List.mem_singleton.1 hv];omega)
  simp only[List.all_cons,List.all_nil,Bool.and_true]at hr
  have hl:(([a,b]:List Int).length:Int)=2:=rfl
  rw[hl]at hr
  have plain:∀c:Int,c=2∨c=3∨c=4∨c=6→(c==1)=false∧(c==5 || c==7)=false∧(c != 8)=true∧(c==8)=false∧aH N0 c=some 2:=fun c hc=>by
   rcases hc with rfl|rfl|rfl|rfl<;>exact⟨rfl,rfl,rfl,rfl,rfl⟩
  by_cases h8:k=8
  ·subst h8
   rw[IS.2.2.2.2]
   simp only[Option.bind_some,show((8:Int)==1)=false from rfl,show((2:Int)==1)=false from rfl,show((2:Int)==2)=true from rfl,show((8:Int)==5 || (8:Int)==7)=false from rfl,show((8:Int) != 8)=false from rfl,show((8:Int)==8)=true from rfl,cond_true,cond_false]
   rw[hl,hr,Option.bind_some]
   dsimp only
   have ia:ah a F.length=true:=mj h0 (by omega)
   have ib:ah b F.length=true:=mj g0 (by omega)
   have fa:F.getD a.toNat false=fB F a:=rfl
   have fb:F.getD b.toNat false=fB F b:=rfl
   cases qa:fB F a<;>cases qb:fB F b<;>cases pa:ya xs F a<;>cases pb:ya xs F b<;>simp only[ia,ib,fa,fb,qa,qb,Ei hx hF,pa,pb,show((8:Int) != 8)=false from rfl,cond_true,cond_false,Option.bind_some,Bool.and_self,Bool.and_true,Bool.and_false,Bool.or_self,Bool.or_true,Bool.or_false,Bool.true_and,Bool.false_and,Bool.true_or,Bool.false_or]
  ·obtain⟨p1,p2,p3,p4,p5⟩:=plain k (by omega)
   rw[p5]
   simp only[Option.bind_some,p1,p2,p4,show((2:Int)==1)=false from rfl,show((2:Int)==2)=true from rfl,cond_true,cond_false]
   rw[hl,hr,Option.bind_some]
   dsimp only
   rw[p3]
   cases fB F a<;>cases fB F b<;>rfl
def we (F:List Bool):Nat:=F.countP id
theorem BI{F:List Bool}{t i:Nat}(ht:t<F.length):fN (F.set t true) i=(decide (i=t) || fN F i):=by
 unfold fN
 rw[List.getD_eq_getElem?_getD,List.getElem?_set,List.getD_eq_getElem?_getD]
 by_cases q:t=i
 ·subst q;simp[ht]
 ·simp[q,show ¬i=t from fun e=>q e.symm]
theorem C7:∀{F:List Bool}{t:Nat},t<F.length→fN F t=false→we (F.set t true)=we F+1
 |[],t,h,_=>by cases h
 |f::F,0,_,h=>by
  have h:f=false:=h
  subst h
  simp[we]
 |f::F,t+1,h,g=>by
  have ih:=C7 (F:=F) (t:=t) (by simpa using h) g
  unfold we at ih ⊢
  rw[List.set_cons_succ,List.countP_cons,List.countP_cons,ih]
  omega
theorem Kj (F:List Bool):we F≤F.length:=List.countP_le_length
structure GF (xs:List ae) (kn:List Int) (F:List Bool):Prop where
 len:F.length=xs.length
 has:∀i,i<xs.length→jl kn (i:Int)=true→fN F i=true
 le:∀i,i<xs.length→fN F i=true→fN (d8 xs kn) i=true
theorem qG{xs:List ae}(hp:aw xs=true){kn:List Int}:∀(n t:Nat) (F:List Bool) (more:Bool) (m:Nat),t+n=xs.length→n<m→GF xs kn F →
  ∃F' c,be N0 m (xs,F,more,(xs.length:Int),(t:Int))=some (xs,F',c)∧GF xs kn F'∧we F≤we F'∧((c=false∧more=false∧F'=F∧∀i,t≤i→i<xs.length→wh xs F i=true→fN F i=true)∨(c=true∧(more=true∨we F<we F')))
 |0,t,F,more,m,he,hm,hI=>by
  obtain⟨i,rfl⟩:∃i,m=i+1:=⟨m-1,by omega⟩
  rw[be]
  (try dsimp only)
  rw[show t=xs.length by omega,F1,cond_false]
  refine⟨F,more,rfl,hI,Nat.le_refl _,?_⟩
  cases more with
  |true=>exact .inr ⟨rfl, .inl rfl⟩
  |false=>exact .inl ⟨rfl,rfl,rfl,fun i h1 h2=>by omega⟩
 |n+1,t,F,more,m,he,hm,hI=>by
  obtain⟨i,rfl⟩:∃i,m=i+1:=⟨m-1,by omega⟩
  have ht:t<xs.length:=by omega
  have hx:xs.length≤4294967296:=by have:=ap hp;omega
  have hin:ah (t:Int) F.length=true:=ax (by rw[hI.len];exact ht)
  have hF:F.getD t false=fN F t:=rfl
  rw[be]
  (try dsimp only)
  rw[pd ht,cond_true,hin,cond_true,Int.toNat_natCast,hF,bE ht hx]
  cases q:fN F t with
  |true =>
   rw[Bool.not_true,cond_false]
   obtain⟨F',c,h1,h2,h3,h4⟩:=qG hp (kn:=kn) n (t+1) F more i (by omega) (by omega) hI
   refine⟨F',c,h1,h2,h3,h4.imp (fun⟨a1,a2,a3,a4⟩=>⟨a1,a2,a3,fun j g1 g2 g3=>?_⟩) id⟩
   by_cases e:j=t
   ·rw[e];exact q
   ·exact a4 j (by omega) g2 g3
  |false =>
   rw[Bool.not_false,cond_true,BW hp ht hI.len,Option.bind_some]
   dsimp only
   cases hc:wh xs F t with
   |false =>
    rw[cond_false]
    obtain⟨F',c,h1,h2,h3,h4⟩:=qG hp (kn:=kn) n (t+1) F more i (by omega) (by omega) hI
    refine⟨F',c,h1,h2,h3,h4.imp (fun⟨a1,a2,a3,a4⟩=>⟨a1,a2,a3,fun j g1 g2 g3=>?_⟩) id⟩
    by_cases e:j=t
    ·rw[e,hc]at g3;cases g3
    ·exact a4 j (by omega) g2 g3
   |true =>
    rw[cond_true,hin,cond_true]
    have ht':t<F.length:=by rw[hI.len];exact ht
    have hI':GF xs kn (F.set t true):=⟨by rw[List.length_set];exact hI.len,fun j g1 g2=>by rw[BI ht',hI.has j g1 g2,Bool.or_true],fun j g1 g2=>by
     rw[BI ht',Bool.or_eq_true]at g2
     rcases g2 with g2|g2
     ·rw[of_decide_eq_true g2];exact G0 hp hI.le ht hc
     ·exact hI.le j g1 g2⟩
    obtain⟨F',c,h1,h2,h3,h4⟩:=qG hp (kn:=kn) n (t+1) (F.set t true) true i (by omega) (by omega) hI'
    have hct:=C7 ht' q
    refine⟨F',c,h1,h2,by omega,?_⟩
    rcases h4 with⟨_,a2,_⟩|⟨a1,_⟩
    ·cases a2
    ·exact .inr ⟨a1, .inr (by omega)⟩
theorem DR{xs:List ae}(hp:aw xs=true){kn:List Int}:∀(d:Nat) (F:List Bool) (m:Nat),xs.length-we F≤d→d+1<m→GF xs kn F→bn N0 m (xs,F,true)=some (xs,d8 xs kn):=by
 intro d
 induction d with
 |zero =>
  intro F m hd hm hI
  obtain⟨i,rfl⟩:∃i,m=i+2:=⟨m-2,by omega⟩
  obtain⟨F',c,h1,h2,h3,h4⟩:=qG hp (kn:=kn) xs.length 0 F false N0 (by omega) (by have:=n0;have:=ap hp;omega) hI
  have hl:=Kj F'
  rw[h2.len]at hl
  rw[bn]
  (try dsimp only)
  rw[cond_true,hI.len]
  rw[show((0:Nat):Int)=(0:Int)from rfl]at h1
  rw[h1,Option.bind_some]
  (try dsimp only)
  rcases h4 with⟨rfl,_,rfl,h4⟩|⟨rfl,h4⟩
  ·rw[bn]
   dsimp only
   rw[cond_false,Gf hp h2.len h2.has h2.le (fun j g1 g2=>h4 j (Nat.zero_le _) g1 g2)]
  ·rcases h4 with h4|h4
   ·cases h4
   ·omega
 |succ d ih =>
  intro F m hd hm hI
  obtain⟨i,rfl⟩:∃i,m=i+2:=⟨m-2,by omega⟩
  obtain⟨F',c,h1,h2,h3,h4⟩:=qG hp (kn:=kn) xs.length 0 F false N0 (by omega) (by have:=n0;have:=ap hp;omega) hI
  rw[bn]
  (try dsimp only)
  rw[cond_true,hI.len]
  rw[show((0:Nat):Int)=(0:Int)from rfl]at h1
  rw[h1,Option.bind_some]
  (try dsimp only)
  rcases h4 with⟨rfl,_,rfl,h4⟩|⟨rfl,h4⟩
  ·rw[bn]
   dsimp only
   rw[cond_false,Gf hp h2.len h2.has h2.le (fun j g1 g2=>h4 j (Nat.zero_le _) g1 g2)]
  ·rcases h4 with h4|h4
   ·cases h4
   ·exact ih F' (i+1) (by omega) (by omega) h2
def JB (xs:List ae) (kn:List Int):Prop:=∀v∈kn,0≤v∧v<(xs.length:Int)
theorem uS{xs:List ae}:∀(r pre:List Int) (F:List Bool) (m:Nat),r.length<m→pre.length+r.length≤1000→F.length=xs.length→JB xs r→∃F',bB N0 m (xs,F,pre++r,((pre++r).length:Int),(pre.length:Int))=some (xs,F')∧F'.length=xs.length∧∀i,fN F' i=true↔fN F i=true∨(i:Int)∈r
 |[],pre,F,m,hm,hl,hF,hk=>by
  obtain⟨i,rfl⟩:∃i,m=i+1:=⟨m-1,by omega⟩
  rw[bB]
  (try dsimp only)
  rw[rZ,cond_false]
  exact⟨F,rfl,hF,fun i=>by simp⟩
 |x::r,pre,F,m,hm,hl,hF,hk=>by
  obtain⟨i,rfl⟩:∃i,m=i+1:=⟨m-1,by omega⟩
  have hl':pre.length+(r.length+1)≤1000:=hl
  have hm':r.length+1<i+1:=hm
  have w:IntKind.i64.wrap ((pre.length:Int)+1)=((pre++[x]).length:Int):=by rw[ao (by omega) (by omega),oT]
  obtain⟨x0,x1⟩:=hk x (List.mem_cons_self ..)
  obtain⟨F',h1,h2,h3⟩:=uS r (pre++[x]) (F.set x.toNat true) i (by omega) (by simp;omega) (by rw[List.length_set];exact hF) (fun v q=>hk v (List.mem_cons_of_mem _ q))
  rw[bB]
  (try dsimp only)
  rw[rY,cond_true,sk,Int.toNat_natCast,o4,cond_true,w,mj x0 (by rw[hF];exact x1),cond_true]
  rw[←o7]at h1
  refine⟨F',h1,h2,fun j=>?_⟩
  rw[h3 j,BI (by omega),Bool.or_eq_true,decide_eq_true_iff,List.mem_cons]
  constructor
  ·rintro ((q|q)|q)
   ·exact .inr (.inl (by omega))
   ·exact .inl q
   ·exact .inr (.inr q)
  ·rintro (q|q|q)
   ·exact .inl (.inr q)
   ·exact .inl (.inl (by omega))
   ·exact .inr q
theorem Mh (n i:Nat):fN (List.replicate n false) i=false:=by
 unfold fN
 rw[List.getD_eq_getElem?_getD,List.getElem?_replicate]
 split<;>rfl
theorem uP{xs:List ae}(hp:aw xs=true){kn:List Int}(hl:kn.length≤900) (hk:JB xs kn):eB N0 (xs,kn)=some (xs,d8 xs kn):=by
 have hx:=ap hp
 obtain⟨F,h1,h2,h3⟩:=uS (xs:=xs) kn [] (List.replicate xs.length false) N0 (by have:=n0;omega) (by simp;omega) (List.length_replicate ..) hk
 have h1':bB N0 N0 (xs,List.replicate xs.length false,kn,(kn.length:Int),(0:Int))=some (xs,F):=h1
 have hI:GF xs kn F:=⟨h2,fun i g1 g2=>(h3 i).2 (.inr (by rw[ml,List.contains_iff_mem]at g2;exact g2)),fun i g1 g2=>by
  rcases(h3 i).1 g2 with q|q
  ·rw[Mh]at q;cases q
  ·rw[rD hp g1,ml,List.contains_iff_mem.2 q,Bool.true_or]⟩
 unfold eB
 dsimp only
 rw[decide_eq_true (show 0≤(xs.length:Int)∧(xs.length:Int)≤(xs.length:Int)∧(xs.length:Int)≤4294967296 by omega),cond_true,Int.toNat_natCast,h1',Option.bind_some]
 dsimp only
 rw[DR hp (kn:=kn) xs.length F N0 (by omega) (by have:=n0;omega) hI]
 rfl
theorem zC{xs:List ae}(hx:xs.length≤4294967296){F:List Bool}{kn:List Int}(hl:kn.length≤4294967296){b:Int}(h0:0≤b) (h1:b<(F.length:Int)):dr N0 (xs,F,kn,b)=some (tI xs kn F b):=by
 unfold dr tI
 dsimp only
 have h:=oU hx ((7:Int),(b,(0:Int)))
 dsimp only at h
 rw[h,Option.bind_some]
 unfold zG
 cases e:gZ xs ((7:Int),(b,(0:Int)))with
 |none=>rfl
 |some j =>
  (try dsimp only)
  rw[decide_eq_true (show(j:Int)≥0 by omega),cond_true,mj h0 h1,cond_true,ll hl]
  show(cond (fB F b) _ _)=_
  cases fB F b<;>rfl
theorem IC{xs:List ae}(hp:aw xs=true){kn:List Int}(hl:kn.length≤4294967296){t:Nat}(ht:t<xs.length){F:List Bool}(hF:F.length=t):jY N0 (xs,F,(t:Int),kn)=some (nj xs kn F t):=by
 have hx:xs.length≤4294967296:=by have:=ap hp;omega
 have hc:=dF hp ht
 unfold jY nj lG
 dsimp only
 rw[ax ht,cond_true,Int.toNat_natCast]
 have e0:xs.getD t aM=xs.getD t ((0:Int),((0:Int),(0:Int))):=rfl
 rw[e0]at hc ⊢
 generalize xs.getD t ((0:Int),((0:Int),(0:Int)))=n at hc ⊢
 obtain⟨k,a,b⟩:=n
 dsimp only at hc ⊢
 rcases hc with⟨rfl,h0,h1⟩|⟨hk,h0,h1⟩|⟨hk,h0,h1,g0,g1⟩
 ·unfold aB cq
  (try dsimp only)
  cases decide (a≥0)<;>rfl
 ·have ia:ah a F.length=true:=mj h0 (by omega)
  have p:aY N0 k=some 1:=by rcases hk with rfl|rfl<;>rfl
  have p2:(k==1)=false∧(k==5 || k==7)=true:=by rcases hk with rfl|rfl<;>exact⟨rfl,rfl⟩
  rw[p,p2.1,p2.2]
  simp only[Option.bind_some,cond_false,cond_true,show((1:Int)==1)=true from rfl,ia]
  rfl
 ·have ia:ah a F.length=true:=mj h0 (by omega)
  have ib:ah b F.length=true:=mj g0 (by omega)
  have p:aY N0 k=some 2:=by rcases hk with rfl|rfl|rfl|rfl|rfl<;>rfl
  have p2:(k==1)=false∧(k==5 || k==7)=false:=by rcases hk with rfl|rfl|rfl|rfl|rfl<;>exact⟨rfl,rfl⟩
  have fa:F.getD a.toNat false=fB F a:=rfl
  have fb:F.getD b.toNat false=fB F b:=rfl
  rw[p,p2.1,p2.2]
  simp only[Option.bind_some,cond_false,show((2:Int)==1)=false from rfl,ia,ib,cond_true,fa,fb,zC hx hl h0 (show a<(F.length:Int)by omega),zC hx hl g0 (show b<(F.length:Int)by omega)]
  cases(k==8)<;>cases fB F a<;>cases fB F b<;>cases tI xs kn F a<;>cases tI xs kn F b<;>rfl
theorem AR{xs:List ae}(hp:aw xs=true){kn:List Int}(hl:kn.length≤4294967296):∀(n t m:Nat),t+n=xs.length→n<m→cu N0 m (kn,xs,sB xs kn t,(t:Int))=some (d8 xs kn)
 |0,t,m,he,hm=>by
  obtain⟨i,rfl⟩:∃i,m=i+1:=⟨m-1,by omega⟩
  rw[cu]
  (try dsimp only)
  rw[show t=xs.length by omega,F1,cond_false]
 |n+1,t,m,he,hm=>by
  obtain⟨i,rfl⟩:∃i,m=i+1:=⟨m-1,by omega⟩
  have ht:t<xs.length:=by omega
  have hx:=ap hp
  have hlen:=mI xs kn t
  have ih:=AR hp hl n (t+1) i (by omega) (by omega)
  have hs:sB xs kn (t+1)=sB xs kn t++[jl kn (t:Int) || nj xs kn (sB xs kn t) t]:=rfl
  rw[cu]
  (try dsimp only)
  rw[pd ht,cond_true,ll hl,Option.bind_some,IC hp hl ht hlen,bE ht (by omega),uu (show(sB xs kn t).length≤1000000 by omega)]
  rw[hs]at ih
  cases q:jl kn (t:Int)with
  |true =>
   rw[q,Bool.true_or]at ih
   simp only[cond_true]
   exact ih
  |false =>
   rw[q,Bool.false_or]at ih
   simp only[cond_false,Option.bind_some,uu (show(sB xs kn t).length≤1000000 by omega),cond_true]
   exact ih
theorem Ak{xs:List ae}(hp:aw xs=true){kn:List Int}(hl:kn.length≤4294967296):ga N0 (xs,kn)=some (d8 xs kn):=by
 have hx:=ap hp
 have h:=AR hp hl xs.length 0 N0 (by omega) (by have:=n0;omega)
 unfold ga
 dsimp only
 have h':cu N0 N0 (kn,xs,([]:List Bool),(0:Int))=_:=h
 rw[h'];rfl
theorem qC{n:Nat}(h:n≤4294967296):cJ n=true:=decide_eq_true h
def A0 (xs:List ae) (F:List Bool) (v:Int):List Int :=
 bif (xs.getD v.toNat aM).1==2 then [(xs.getD v.toNat aM).2.1,(xs.getD v.toNat aM).2.2]else bif (xs.getD v.toNat aM).1==4 then [(xs.getD v.toNat aM).2.1]else bif (xs.getD v.toNat aM).1==3 then(bif fB F (xs.getD v.toNat aM).2.2 then [(xs.getD v.toNat aM).2.1]else [])else []
def vM (xs:List ae) (F:List Bool):List Int→List Int
 |[]=>[]
 |v::r=>A0 xs F v++vM xs F r
theorem Ii (xs:List ae) (F:List Bool) (v:Int):(A0 xs F v).length≤2:=by
 unfold A0
 cases(xs.getD v.toNat aM).1==2<;>cases(xs.getD v.toNat aM).1==4<;>cases(xs.getD v.toNat aM).1==3<;>cases fB F (xs.getD v.toNat aM).2.2<;>simp
theorem CA (xs:List ae) (F:List Bool):∀r,(vM xs F r).length≤2*r.length
 |[]=>Nat.le_refl _
 |v::r=>by
  have:=CA xs F r
  have:=Ii xs F v
  rw[vM,List.length_append,List.length_cons]
  omega
theorem yd{xs:List ae}(hp:aw xs=true){v:Int}(h0:0≤v) (h1:v<(xs.length:Int)) (hk:(xs.getD v.toNat aM).1=2∨(xs.getD v.toNat aM).1=3∨(xs.getD v.toNat aM).1=4):(0≤(xs.getD v.toNat aM).2.1∧(xs.getD v.toNat aM).2.1<(xs.length:Int))∧0≤(xs.getD v.toNat aM).2.2∧(xs.getD v.toNat aM).2.2<(xs.length:Int):=by
 rcases dF hp (show v.toNat<xs.length by omega)with⟨a,_⟩|⟨a,_⟩|⟨a,b,c,d,e⟩
 ·omega
 ·omega
 ·exact⟨⟨b,by omega⟩,d,by omega⟩
theorem JV{xs:List ae}(hp:aw xs=true){F:List Bool}{v:Int}(h0:0≤v) (h1:v<(xs.length:Int)):JB xs (A0 xs F v):=by
 intro x hx
 have h:=yd hp h0 h1
 unfold A0 at hx
 cases q2:(xs.getD v.toNat aM).1==2 with
 |true =>
  obtain⟨g1,g2⟩:=h (.inl (by simpa using q2))
  rw[q2,cond_true]at hx
  rcases List.mem_cons.1 hx with e|e
  ·rw[e];exact g1
  ·rw[List.mem_singleton.1 e];exact g2
 |false =>
  rw[q2,cond_false]at hx
  cases q4:(xs.getD v.toNat aM).1==4 with
  |true =>
   obtain⟨g1,g2⟩:=h (.inr (.inr (by simpa using q4)))
   rw[q4,cond_true]at hx
   rw[List.mem_singleton.1 hx];exact g1
  |false =>
   rw[q4,cond_false]at hx
   cases q3:(xs.getD v.toNat aM).1==3 with
   |true =>
    obtain⟨g1,g2⟩:=h (.inr (.inl (by simpa using q3)))
    rw[q3,cond_true]at hx
    cases qf:fB F (xs.getD v.toNat aM).2.2 with
    |true =>
     rw[qf,cond_true]at hx
     rw[List.mem_singleton.1 hx];exact g1
    |false =>
     rw[qf,cond_false]at hx
     cases hx
   |false =>
    rw[q3,cond_false]at hx
    cases hx
theorem FG{xs:List ae}(hp:aw xs=true){F:List Bool}:∀{r:List Int},JB xs r→JB xs (vM xs F r)
 |[],_=>fun x hx=>by cases hx
 |v::r,h=>fun x hx=>by
  rw[vM]at hx
  rcases List.mem_append.1 hx with e|e
  ·exact JV hp (h v (List.mem_cons_self ..)).1 (h v (List.mem_cons_self ..)).2 x e
  ·exact FG hp (fun y hy=>h y (List.mem_cons_of_mem _ hy)) x e
theorem wN{xs:List ae}(hp:aw xs=true){kn:List Int}{F:List Bool}(hF:F.length=xs.length):∀(r pre out:List Int) (m:Nat),r.length<m→pre.length+r.length≤1000→out.length+2*r.length≤100000→JB xs r→aC N0 m (xs,kn,F,out,pre++r,((pre++r).length:Int),(pre.length:Int))=some (xs,kn,out++vM xs F r)
 |[],pre,out,m,hm,hl,ho,hk=>by
  obtain⟨i,rfl⟩:∃i,m=i+1:=⟨m-1,by omega⟩
  rw[aC]
  (try dsimp only)
  rw[rZ,cond_false,vM,List.append_nil]
 |v::r,pre,out,m,hm,hl,ho,hk=>by
  obtain⟨i,rfl⟩:∃i,m=i+1:=⟨m-1,by omega⟩
  have hl':pre.length+(r.length+1)≤1000:=hl
  have hm':r.length+1<i+1:=hm
  have ho':out.length+2*(r.length+1)≤100000:=ho
  have w:IntKind.i64.wrap ((pre.length:Int)+1)=((pre++[v]).length:Int):=by rw[ao (by omega) (by omega),oT]
  obtain⟨v0,v1⟩:=hk v (List.mem_cons_self ..)
  have h2:=yd hp v0 v1
  have go:∀out',out'.length+2*r.length≤100000→aC N0 i (xs,kn,F,out',pre++v::r,((pre++v::r).length:Int),((pre++[v]).length:Int))=some (xs,kn,out'++vM xs F r):=fun out' h=>by
   rw[o7]
   exact wN hp hF r (pre++[v]) out' i (by omega) (by simp;omega) h (fun y hy=>hk y (List.mem_cons_of_mem _ hy))
  have e0:xs.getD v.toNat ((0:Int),((0:Int),(0:Int)))=xs.getD v.toNat aM:=rfl
  rw[aC]
  (try dsimp only)
  rw[rY,cond_true,sk,Int.toNat_natCast,o4,cond_true,w,mj v0 v1,cond_true,e0,vM]
  unfold A0
  cases q2:(xs.getD v.toNat aM).1==2 with
  |true =>
   simp only[cond_true,qC (show out.length+[(xs.getD v.toNat aM).2.1,(xs.getD v.toNat aM).2.2].length≤4294967296 by simp;omega)]
   rw[go _ (by simp;omega),List.append_assoc]
  |false =>
   cases q4:(xs.getD v.toNat aM).1==4 with
   |true =>
    simp only[cond_true,cond_false,qC (show out.length+[(xs.getD v.toNat aM).2.1].length≤4294967296 by simp;omega)]
    rw[go _ (by simp;omega),List.append_assoc]
   |false =>
    cases q3:(xs.getD v.toNat aM).1==3 with
    |true =>
     obtain⟨g1,g2⟩:=h2 (.inr (.inl (by simpa using q3)))
     have ef:F.getD (xs.getD v.toNat aM).2.2.toNat false=fB F (xs.getD v.toNat aM).2.2:=rfl
     simp only[cond_true,cond_false,mj g2.1 (show(xs.getD v.toNat aM).2.2<(F.length:Int)by rw[hF];exact g2.2),ef]
     cases qf:fB F (xs.getD v.toNat aM).2.2 with
     |true =>
      simp only[cond_true,qC (show out.length+[(xs.getD v.toNat aM).2.1].length≤4294967296 by simp;omega)]
      rw[go _ (by simp;omega),List.append_assoc]
     |false =>
      simp only[cond_false]
      rw[go _ (by omega)];rfl
    |false =>
     simp only[cond_false]
     rw[go _ (by omega)];rfl
theorem Av{x:Int}:∀{l kn:List Int},x∈l.foldl o9 kn↔x∈kn∨x∈l
 |[],kn=>by simp
 |v::r,kn=>by
  rw[List.foldl_cons,Av,Fu,List.mem_cons]
  constructor
  ·rintro ((e|e)|e)
   ·exact .inr (.inl e)
   ·exact .inl e
   ·exact .inr (.inr e)
  ·rintro (e|e|e)
   ·exact .inl (.inr e)
   ·exact .inl (.inl e)
   ·exact .inr e
theorem Aw:∀{l kn:List Int},kn.Pairwise (·<·)→(l.foldl o9 kn).Pairwise (·<·)
 |[],kn,h=>h
 |v::r,kn,h=>Aw (l:=r) (kn:=o9 kn v) (Fv h v)
theorem wM{xs:List ae}(hp:aw xs=true){F:List Bool}(hF:F.length=xs.length):∀(r pre out:List Int) (m:Nat),r.length<m→pre.length+r.length≤1000→out.length+2*r.length≤800→JB xs r→bm N0 m (pre++r,xs,F,out,(pre.length:Int))=some ((vM xs F r).foldl o9 out)
 |[],pre,out,m,hm,hl,ho,hk=>by
  obtain⟨i,rfl⟩:∃i,m=i+1:=⟨m-1,by omega⟩
  rw[bm]
  (try dsimp only)
  rw[rZ,cond_false];rfl
 |v::r,pre,out,m,hm,hl,ho,hk=>by
  obtain⟨i,rfl⟩:∃i,m=i+1:=⟨m-1,by omega⟩
  have hl':pre.length+(r.length+1)≤1000:=hl
  have hm':r.length+1<i+1:=hm
  have ho':out.length+2*(r.length+1)≤800:=ho
  have w:IntKind.i64.wrap ((pre.length:Int)+1)=((pre++[v]).length:Int):=by rw[ao (by omega) (by omega),oT]
  obtain⟨v0,v1⟩:=hk v (List.mem_cons_self ..)
  have h2:=yd hp v0 v1
  have go:∀out',out'.length+2*r.length≤800→bm N0 i (pre++v::r,xs,F,out',((pre++[v]).length:Int))=some ((vM xs F r).foldl o9 out'):=fun out' h=>by
   rw[o7]
   exact wM hp hF r (pre++[v]) out' i (by omega) (by simp;omega) h (fun y hy=>hk y (List.mem_cons_of_mem _ hy))
  have e0:xs.getD v.toNat ((0:Int),((0:Int),(0:Int)))=xs.getD v.toNat aM:=rfl
  have l1:=qF out (xs.getD v.toNat aM).2.1
  have l2:=qF (o9 out (xs.getD v.toNat aM).2.1) (xs.getD v.toNat aM).2.2
  rw[bm]
  (try dsimp only)
  unfold la
  (try dsimp only)
  rw[rY,cond_true,sk,Int.toNat_natCast,o4,cond_true,mj v0 v1,cond_true,e0,vM,List.foldl_append,Option.bind_some]
  (try dsimp only)
  rw[w]
  unfold A0
  cases q2:(xs.getD v.toNat aM).1==2 with
  |true =>
   simp only[cond_true,oK (show out.length≤900 by omega),oK (show(o9 out (xs.getD v.toNat aM).2.1).length≤900 by omega),Option.bind_some]
   rw[go _ (by omega)];rfl
  |false =>
   cases q4:(xs.getD v.toNat aM).1==4 with
   |true =>
    simp only[cond_true,cond_false,oK (show out.length≤900 by omega),Option.bind_some]
    rw[go _ (by omega)];rfl
   |false =>
    cases q3:(xs.getD v.toNat aM).1==3 with
    |true =>
     obtain⟨g1,g2⟩:=h2 (.inr (.inl (by simpa using q3)))
     have ef:F.getD (xs.getD v.toNat aM).2.2.toNat false=fB F (xs.getD v.toNat aM).2.2:=rfl
     simp only[cond_true,cond_false,mj g2.1 (show(xs.getD v.toNat aM).2.2<(F.length:Int)by rw[hF];exact g2.2),ef]
     cases qf:fB F (xs.getD v.toNat aM).2.2 with
     |true =>
      simp only[cond_true,oK (show out.length≤900 by omega),Option.bind_some]
      rw[go _ (by omega)];rfl
     |false =>
      simp only[cond_false]
      rw[go _ (by omega)];rfl
    |false =>
     simp only[cond_false]
     rw[go _ (by omega)];rfl
structure A4 (xs:List ae) (kn:List Int):Prop where
 pool:aw xs=true
 len:kn.length≤200
 asc:kn.Pairwise (·<·)
 mem:JB xs kn
def ny (xs:List ae) (kn:List Int):List Int:=Ig (kn++vM xs (d8 xs kn) kn)
theorem FF{xs:List ae}{kn:List Int}(h:A4 xs kn):ny xs kn=(vM xs (d8 xs kn) kn).foldl o9 kn :=
 yO (qI _) (Aw h.asc) fun x=>by rw[ny,lL,Av,List.mem_append]
theorem wK{xs:List ae}{kn:List Int}(h:A4 xs kn) :
  d5 N0 (xs,kn)=some (xs,bif decide (((ny xs kn).length:Int)>200)then kn else ny xs kn)∧jX N0 (xs,kn)=some (ny xs kn,decide (((ny xs kn).length:Int)≤200))∧((ny xs kn).length≤200→A4 xs (ny xs kn))∧kn.length≤(ny xs kn).length∧(kn.length=(ny xs kn).length→kn=ny xs kn):=by
 have hl:=h.len
 have hF:(d8 xs kn).length=xs.length:=mI xs kn _
 have ha:=t7 h.asc (qI (kn++vM xs (d8 xs kn) kn)) (fun x hx=>lL x |>.2 (List.mem_append_left _ hx))
 have hoL:=CA xs (d8 xs kn) kn
 refine⟨?_,?_,fun hl2=>⟨h.pool,hl2,qI _,fun x hx=>?_⟩,ha.1,ha.2⟩
 ·have e:=wN h.pool (kn:=kn) hF kn [] kn N0 (by have:=n0;omega) (by simpa using(by omega:kn.length≤1000)) (by omega) h.mem
  have e':aC N0 N0 (xs,kn,d8 xs kn,kn,kn,(kn.length:Int),(0:Int))=_:=e
  have hc:eE kn=some kn:=by
   unfold eE
   rw[decide_eq_true (show kn.length≤4294967296 by omega)];rfl
  have hlen:(kn++vM xs (d8 xs kn) kn).length≤4294967296:=by rw[List.length_append];omega
  have hs:j8 (kn++vM xs (d8 xs kn) kn)=some ((kn++vM xs (d8 xs kn) kn).mergeSort fun a b=>decide (a≤b)):=if_pos hlen
  have hcm:gt ((kn++vM xs (d8 xs kn) kn).mergeSort fun a b=>decide (a≤b))=some (ny xs kn):=if_pos (by rw[List.length_mergeSort];exact hlen)
  have hcl:lN (ny xs kn)=some (ny xs kn):=rfl
  unfold d5
  (try dsimp only)
  simp only[uP h.pool (show kn.length≤900 by omega) h.mem,Option.bind_some,hc,e',hs,hcm,hcl]
  cases decide (((ny xs kn).length:Int)>200)<;>rfl
 ·have e:=wM h.pool hF kn [] kn N0 (by have:=n0;omega) (by simpa using(by omega:kn.length≤1000)) (by omega) h.mem
  have e':bm N0 N0 (kn,xs,d8 xs kn,kn,(0:Int))=_:=e
  unfold jX
  (try dsimp only)
  rw[Ak h.pool (show kn.length≤4294967296 by omega),Option.bind_some,qC (show([]:List Int).length+kn.length≤4294967296 by simp;omega),cond_true,List.nil_append,e',Option.bind_some,FF h]
 ·rcases List.mem_append.1 ((lL x).1 hx)with q|q
  ·exact h.mem x q
  ·exact FG h.pool h.mem x q
theorem zP{xs:List ae}:∀(d:Nat) (kn:List Int) (c1 c2:Int) (m1 m2:Nat),200-kn.length≤d→d<m1→d<m2→A4 xs kn→∃kn' c1' c2',bk N0 m1 (xs,kn,c1)=some (xs,kn',c1')∧dP N0 m2 (xs,kn,c2)=some (kn',c2')∧A4 xs kn'∧∀x∈kn,x∈kn'
 |d,kn,c1,c2,m1,m2,hd,h1,h2,hk=>by
  obtain⟨i,rfl⟩:∃i,m1=i+1:=⟨m1-1,by omega⟩
  obtain⟨j,rfl⟩:∃j,m2=j+1:=⟨m2-1,by omega⟩
  obtain⟨e1,e2,e3,e4,e5⟩:=wK hk
  have hl:=hk.len
  rw[bk,dP]
  (try dsimp only)
  rw[e1,e2,Option.bind_some,Option.bind_some]
  (try dsimp only)
  by_cases q:(ny xs kn).length≤200
  ·rw[decide_eq_false (show ¬((ny xs kn).length:Int)>200 by omega),decide_eq_true (show((ny xs kn).length:Int)≤200 by omega),cond_false,Bool.not_true,cond_false]
   by_cases q2:(ny xs kn).length=kn.length
   ·have:=e5 q2.symm
    have hb:(((ny xs kn).length:Int)==(kn.length:Int))=true:=by rw[q2];exact beq_self_eq_true _
    rw[hb,cond_true,cond_true]
    exact⟨kn,c1,c2,by rw[←this],rfl,hk,fun x hx=>hx⟩
   ·have hb:(((ny xs kn).length:Int)==(kn.length:Int))=false:=by rw[beq_eq_false_iff_ne];omega
    rw[hb,cond_false,cond_false]
    match d,hd with
    |0,hd=>omega
    |d+1,hd =>
     obtain⟨kn',c1',c2',g1,g2,g3,g4⟩:=zP d (ny xs kn) (IntKind.i64.wrap (c1+1)) (IntKind.i64.wrap (c2+1)) i j (by omega) (by omega) (by omega) (e3 q)
     exact⟨kn',c1',c2',g1,g2,g3,fun x hx=>g4 x ((lL x).2 (List.mem_append_left _ hx))⟩
  ·rw[decide_eq_true (show((ny xs kn).length:Int)>200 by omega),decide_eq_false (show ¬((ny xs kn).length:Int)≤200 by omega),cond_true,Bool.not_false,cond_true,beq_self_eq_true,cond_true]
   exact⟨kn,c1,c2,rfl,rfl,hk,fun x hx=>hx⟩
theorem AG{xs:List ae}{kn:List Int}(h:A4 xs kn):∃kn' c,A4 xs kn'∧co N0 (xs,kn)=some (xs,d8 xs kn')∧jq N0 (xs,kn)=some (kn',c)∧ga N0 (xs,kn')=some (d8 xs kn')∧∀x∈kn,x∈kn':=by
 have hl:=h.len
 obtain⟨kn',c1,c2,e1,e2,e3,e4⟩:=zP 200 kn 0 0 N0 N0 (by omega) (by have:=n0;omega) (by have:=n0;omega) h
 have hl':=e3.len
 refine⟨kn',c2,e3,?_,?_,Ak h.pool (by omega),e4⟩
 ·unfold co eF
  (try dsimp only)
  rw[e1]
  simp only[Option.bind_some,uP h.pool (show kn'.length≤900 by omega) e3.mem]
 ·unfold jq
  (try dsimp only)
  rw[qC (show([]:List Int).length+kn.length≤4294967296 by simp;omega),cond_true,List.nil_append,e2];rfl
theorem AF{xs:List ae}{kn:List Int}(h:A4 xs kn):∃kn' c,A4 xs kn'∧co N0 (xs,kn)=some (xs,d8 xs kn')∧jq N0 (xs,kn)=some (kn',c)∧ga N0 (xs,kn')=some (d8 xs kn'):=by
 obtain⟨kn',c,h1,h2,h3,h4,_⟩:=AG h
 exact⟨kn',c,h1,h2,h3,h4⟩
theorem GB (a:Int):0≤bits .and .i64 a 255∧bits .and .i64 a 255≤255:=by
 have h:((BitVec.ofInt 64 a) &&& (BitVec.ofInt 64 255)).toNat≤255:=by
  rw[BitVec.toNat_and]
  exact Nat.and_le_right
 have e:bits .and .i64 a 255=IntKind.i64.wrap (((BitVec.ofInt 64 a) &&& (BitVec.ofInt 64 255)).toNat:Int):=rfl
 rw[e,ao (by omega) (by omega)]
 omega
def Cu (b:List Int) (i:Int):Prop:=0≤i∧b.length≤4294967296
theorem rA (n:Nat){b:List Int}{i:Int}(h:Int) (hc:Cu b i):∃i' h' v,eC n (b,i,h)=some (b,i',h',v)∧Cu b i'∧0≤v∧v≤255:=by
 obtain⟨h0,h1⟩:=hc
 unfold eC
 dsimp only
 rw[decide_eq_true (show(0:Int)≤33 by decide),decide_eq_true (show(0:Int)≤45 by decide),cond_true,cond_true]
 by_cases hl:i<(b.length:Int)
 ·have e:i=((i.toNat:Nat):Int):=by omega
  have hin:ah i b.length=true:=by rw[e];exact ax (by omega)
  rw[decide_eq_true hl,hin,cond_true,cond_true,ao (n:=i+1) (by omega) (by omega)]
  exact⟨_,_,_,rfl,⟨by omega,h1⟩,GB _⟩
 ·rw[decide_eq_false hl,cond_false]
  exact⟨_,_,_,rfl,⟨h0,h1⟩,GB _⟩
theorem Cj{x k:Int}(hx:0≤x) (hk:0<k):0≤x.tmod k∧x.tmod k<k:=by
 rw[Int.tmod_eq_emod_of_nonneg hx]
 exact⟨Int.emod_nonneg _ (by omega),Int.emod_lt_of_pos _ hk⟩
def UA (k v:Int):Prop:=(k≤0∧v=0)∨(0≤v∧v<k)
theorem dA (n:Nat){b:List Int}{i:Int}(h k:Int) (hc:Cu b i):∃i' h' v,aZ n (b,i,h,k)=some (b,i',h',v)∧Cu b i'∧UA k v:=by
 unfold aZ
 dsimp only
 by_cases h0:k≤0
 ·rw[decide_eq_true h0,cond_true]
  exact⟨_,_,_,rfl,hc, .inl ⟨h0,rfl⟩⟩
 ·have hk:(k != 0)=true:=by rw[bne_iff_ne];omega
  rw[decide_eq_false h0,cond_false]
  by_cases h1:k≤256
  ·rw[decide_eq_true h1,cond_true]
   obtain⟨i1,h1,v1,e1,c1,q1,q2⟩:=rA n h hc
   rw[e1,Option.bind_some]
   dsimp only
   rw[hk,cond_true]
   exact⟨_,_,_,rfl,c1, .inr (Cj q1 (by omega))⟩
  ·rw[decide_eq_false h1,cond_false]
   obtain⟨i1,h1,v1,e1,c1,p1,q1⟩:=rA n h hc
   rw[e1,Option.bind_some]
   dsimp only
   obtain⟨i2,h2,v2,e2,c2,p2,q2⟩:=rA n h1 c1
   rw[e2,Option.bind_some]
   dsimp only
   obtain⟨i3,h3,v3,e3,c3,p3,q3⟩:=rA n h2 c2
   rw[e3,Option.bind_some]
   dsimp only
   obtain⟨i4,h4,v4,e4,c4,p4,q4⟩:=rA n h3 c3
   rw[e4,Option.bind_some]
   dsimp only
   rw[hk,cond_true]
   have w1:IntKind.i64.wrap (v1*16777216)=v1*16777216:=ao (by omega) (by omega)
   have w2:IntKind.i64.wrap (v2*65536)=v2*65536:=ao (by omega) (by omega)
   have w3:IntKind.i64.wrap (v3*256)=v3*256:=ao (by omega) (by omega)
   have w4:IntKind.i64.wrap (v1*16777216+v2*65536)=v1*16777216+v2*65536:=ao (by omega) (by omega)
   have w5:IntKind.i64.wrap (v1*16777216+v2*65536+v3*256)=v1*16777216+v2*65536+v3*256:=ao (by omega) (by omega)
   have w6:IntKind.i64.wrap (v1*16777216+v2*65536+v3*256+v4)=v1*16777216+v2*65536+v3*256+v4:=ao (by omega) (by omega)
   rw[w1,w2,w3,w4,w5,w6]
   exact⟨_,_,_,rfl,c4, .inr (Cj (by omega) (by omega))⟩
theorem qK (n:Nat){b:List Int}{i:Int}(h k:Int) (hc:Cu b i):∃i' h' v,cZ n (b,i,h,k)=some (b,i',h',v)∧Cu b i':=by
 unfold cZ
 dsimp only
 obtain⟨i1,h1,v1,e1,c1,_⟩:=dA n h k hc
 rw[e1,Option.bind_some]
 exact⟨_,_,_,rfl,c1⟩
theorem uA (n:Nat){b:List Int}{i:Int}(h:Int) (l:List Int) (hl:l≠[]) (hc:Cu b i):∃i' h' v,eR n (b,i,h,l)=some (b,i',h',v)∧Cu b i'∧v∈l:=by
 unfold eR
 dsimp only
 obtain⟨i1,h1,v1,e1,c1,hb⟩:=dA n h (l.length:Int) hc
 have hpos:0<l.length:=List.length_pos_iff.2 hl
 rw[e1,Option.bind_some]
 dsimp only
 have hv:0≤v1∧v1<(l.length:Int):=by
  rcases hb with⟨q,_⟩|q
  ·omega
  ·exact q
 have e:v1=((v1.toNat:Nat):Int):=by omega
 have hin:ah v1 l.length=true:=by rw[e];exact ax (by omega)
 rw[hin,cond_true]
 refine⟨_,_,_,rfl,c1,?_⟩
 rw[List.getD_eq_getElem?_getD,List.getElem?_eq_getElem (by omega),Option.getD_some]
 exact List.getElem_mem _
theorem tZ (n:Nat){b:List Int}{i:Int}(h:Int){k:Int}(hk:k≤4294967296) (hc:Cu b i):∃i' h' v,fh n (b,i,h,k)=some (b,i',h',v)∧Cu b i'∧UA k v:=by
 unfold fh
 dsimp only
 by_cases h6:k>6
 ·rw[decide_eq_true h6,cond_true]
  obtain⟨i1,h1,v1,e1,c1⟩:=qK n h 2 hc
  rw[e1,Option.bind_some]
  dsimp only
  cases v1 with
  |true =>
   rw[cond_true]
   obtain⟨i2,h2,v2,e2,c2,b2⟩:=dA n h1 6 c1
   rw[e2,Option.bind_some]
   dsimp only
   have hv:0≤v2∧v2<6:=by
    rcases b2 with⟨q,_⟩|q
    ·omega
    ·exact q
   rw[ao (n:=k-1) (by omega) (by omega),ao (n:=k-1-v2) (by omega) (by omega)]
   exact⟨_,_,_,rfl,c2, .inr ⟨by omega,by omega⟩⟩
  |false =>
   rw[cond_false]
   obtain⟨i2,h2,v2,e2,c2,b2⟩:=dA n h1 k c1
   rw[e2,Option.bind_some]
   exact⟨_,_,_,rfl,c2,b2⟩
 ·rw[decide_eq_false h6,cond_false]
  obtain⟨i2,h2,v2,e2,c2,b2⟩:=dA n h k hc
  rw[e2,Option.bind_some]
  exact⟨_,_,_,rfl,c2,b2⟩
theorem FA (n:Nat) (k:Int):∃v,aY n k=some v:=by
 unfold aY
 cases(k==1)<;>cases(k==5)<;>cases(k==7)<;>cases(k==2)<;>cases(k==3)<;>cases(k==4)<;>cases(k==6)<;>cases(k==8)<;>exact⟨_,rfl⟩
theorem tv (n:Nat){b:List Int}{i:Int}(h:Int){k:Int}(hk:k≤4294967296) (hc:Cu b i):∃i' h' kd x y,ep n (b,i,h,k)=some (b,i',h',kd,x,y)∧Cu b i':=by
 unfold ep
 dsimp only
 cases(k==0)with
 |true =>
  rw[cond_true]
  obtain⟨i1,h1,v1,e1,c1,_⟩:=uA n h [(0:Int),(1:Int),(5:Int),(6:Int),(50:Int),(51:Int),(62:Int),(90:Int),(91:Int),(100:Int),(101:Int),(102:Int),(199:Int)] (by simp) hc
  rw[e1,Option.bind_some]
  exact⟨_,_,_,_,_,rfl,c1⟩
 |false =>
  rw[cond_false]
  obtain⟨i1,h1,v1,e1,c1⟩:=qK n h 4 hc
  rw[e1,Option.bind_some]
  dsimp only
  cases v1 with
  |true =>
   rw[cond_true]
   obtain⟨i2,h2,v2,e2,c2,_⟩:=uA n h1 [(0:Int),(1:Int),(5:Int),(6:Int),(50:Int),(51:Int),(62:Int),(90:Int),(91:Int),(100:Int),(101:Int),(102:Int),(199:Int)] (by simp) c1
   rw[e2,Option.bind_some]
   exact⟨_,_,_,_,_,rfl,c2⟩
  |false =>
   rw[cond_false]
   obtain⟨i2,h2,v2,e2,c2,_⟩:=tZ n h1 (k:=7) (by decide) c1
   rw[e2,Option.bind_some]
   dsimp only
   obtain⟨i3,h3,v3,e3,c3,_⟩:=tZ n h2 hk c2
   rw[e3,Option.bind_some]
   dsimp only
   obtain⟨u,hu⟩:=FA n (IntKind.i64.wrap ((2:Int)+v2))
   rw[hu,Option.bind_some]
   cases(u==2)with
   |true =>
    rw[cond_true]
    obtain⟨i4,h4,v4,e4,c4,_⟩:=tZ n h3 hk c3
    rw[e4,Option.bind_some]
    exact⟨_,_,_,_,_,rfl,c4⟩
   |false=>exact⟨_,_,_,_,_,rfl,c3⟩
theorem vB{xs:List ae}(hp:aw xs=true) (kd a b:Int):∃ys t,ch N0 (xs,kd,a,b)=some (ys,t)∧aw ys=true∧ys.length≤xs.length+1∧xs.length≤ys.length:=by
 rw[dh hp]
 cases h:jj xs kd a b with
 |none=>exact⟨xs, -1,rfl,hp,by omega,by omega⟩
 |some r =>
  obtain⟨⟨g1,_,zs,g2⟩,_⟩:=vC hp (show jj xs kd a b=some (r.1,r.2)from h)
  refine⟨r.1,r.2,rfl,g1,?_,by rw[g2];simp⟩
  have h:qr xs (mg kd a b)=some r:=h
  unfold qr at h
  cases q:dm N0 ((mg kd a b).1,(mg kd a b).2.1,(mg kd a b).2.2,(xs.length:Int))with
  |false=>rw[q]at h;cases h
  |true =>
   rw[q,cond_true]at h
   cases hf:gZ xs (mg kd a b)with
   |some j=>rw[hf]at h;obtain rfl:=Option.some.inj h;simp
   |none =>
    rw[hf]at h
    dsimp only at h
    by_cases hq:500≤xs.length
    ·rw[if_pos hq]at h;cases h
    ·rw[if_neg hq]at h;obtain rfl:=Option.some.inj h;simp
theorem pK{b:List Int}:∀(m:Nat) (i h:Int) (l0 xs:List ae) (k j:Nat),Cu b i→aw xs=true→k<m+j→j≤k→k≤1000 →
  ∃i' h' ys,b6 N0 m (b,i,h,l0,xs,(k:Int),(j:Int))=some (b,i',h',l0,ys)∧Cu b i'∧aw ys=true∧ys.length≤xs.length+(k-j)
 |0,i,h,l0,xs,k,j,hc,hp,hm,hj,hk=>by omega
 |m+1,i,h,l0,xs,k,j,hc,hp,hm,hj,hk=>by
  unfold b6
  dsimp only
  by_cases hq:j<k
  ·rw[decide_eq_true (show(j:Int)<(k:Int)by omega),cond_true]
   unfold it
   dsimp only
   have hl:=ap hp
   obtain⟨i1,h1,kd,x,y,e1,c1⟩:=tv N0 h (k:=(xs.length:Int)) (by omega) hc
   rw[e1,Option.bind_some]
   dsimp only
   obtain⟨ys,t,e2,p2,l2,_⟩:=vB hp kd x y
   rw[e2,Option.bind_some,Option.bind_some]
   dsimp only
   rw[ao (n:=(j:Int)+1) (by omega) (by omega),show(j:Int)+1=((j+1:Nat):Int)by omega]
   obtain⟨i3,h3,zs,e3,c3,p3,l3⟩:=pK m i1 h1 l0 ys k (j+1) c1 p2 (by omega) (by omega) hk
   exact⟨i3,h3,zs,e3,c3,p3,by omega⟩
  ·rw[decide_eq_false (show ¬(j:Int)<(k:Int)by omega),cond_false]
   exact⟨i,h,xs,rfl,hc,hp,by omega⟩
theorem wE:aw []=true:=by
 unfold aw
 rfl
theorem AD{b:List Int}{i:Int}(h:Int){k:Int}(h0:0≤k) (hk:k≤100) (hc:Cu b i):∃i' h' xs,fG N0 (b,i,h,k)=some (b,i',h',xs)∧Cu b i'∧aw xs=true∧(xs.length:Int)≤k:=by
 unfold fG
 dsimp only
 rw[ao (n:=k+1) (by omega) (by omega)]
 obtain⟨i1,h1,v1,e1,c1,b1⟩:=dA N0 h (k+1) hc
 rw[e1,Option.bind_some]
 dsimp only
 have hv:0≤v1∧v1≤k:=by
  rcases b1 with⟨q,_⟩|q
  ·omega
  ·omega
 obtain⟨v,rfl⟩:=Int.eq_ofNat_of_zero_le hv.1
 have:=n0
 obtain⟨i2,h2,ys,e2,c2,p2,l2⟩:=pK N0 i1 h1 [] [] v 0 c1 wE (by omega) (Nat.zero_le _) (by omega)
 rw[show((0:Nat):Int)=(0:Int)from rfl]at e2
 rw[e2,Option.bind_some]
 exact⟨_,_,_,rfl,c2,p2,by simp at l2;show(ys.length:Int)≤k;omega⟩
theorem z6{b:List Int}(hb:b.length≤4294967296):∀(m:Nat) (h:Int) (j:Nat),4001<m+j→j≤4000→∃h',dQ N0 m (b,h,(j:Int))=some (b,h')
 |0,h,j,hm,hj=>by omega
 |m+1,h,j,hm,hj=>by
  unfold dQ
  dsimp only
  by_cases h1:j<b.length
  ·rw[decide_eq_true (show(j:Int)<(b.length:Int)by omega),cond_true]
   by_cases h2:j<4000
   ·rw[decide_eq_true (show(j:Int)<4000 by omega),cond_true,ax h1,cond_true,ao (n:=(j:Int)+1) (by omega) (by omega),show(j:Int)+1=((j+1:Nat):Int)by omega]
    exact z6 hb m _ (j+1) (by omega) (by omega)
   ·rw[decide_eq_false (show ¬(j:Int)<4000 by omega),cond_false]
    exact⟨_,rfl⟩
  ·rw[decide_eq_false (show ¬(j:Int)<(b.length:Int)by omega),cond_false]
   exact⟨_,rfl⟩
theorem J4{b:List Int}(hb:b.length≤4294967296):∃h,ld N0 b=some (false,b,(0:Int),h)∧Cu b 0:=by
 unfold ld
 have:=n0
 obtain⟨h',e⟩:=z6 hb N0 (IntKind.i64.wrap ((12241:Int)+(b.length:Int))) 0 (by omega) (by omega)
 rw[show((0:Nat):Int)=(0:Int)from rfl]at e
 rw[e,Option.bind_some]
 exact⟨_,rfl,by decide,hb⟩
end AM
end Go.Proofs.YtcflmfpnmjlhdaaGreatDoor
