/- Small laws on whole numbers that wrap, on strings as lists of bytes, and on answers that may be none. No condition. And what follows it: see the remarks. -/
import Derived.Test.YtobpcllkonomlaaGreatDoorAW4
import Derived.Lib.ItoaNum
import Derived.Lib.IndexMore
import Derived.Laws.BitsLemmas
import Derived.Test.YtobpcllkonomlaaGreatDoorAALd
import Derived.Test.YtobpcllkonomlaaGreatDoorAP1
import Derived.Lib.AtoiAllCases
namespace Go.Proofs.YtobpcllkonomlaaGreatDoor
namespace AM
open Go
set_option linter.unusedSimpArgs false
set_option linter.unusedVariables false
theorem CF{a b:ByteArray}(h:a.size+b.size≤4611686018427387904):lF a b=true:=decide_eq_true h
theorem CG (a:ByteArray):fi a a=true:=decide_eq_true rfl
theorem P5{s:ByteArray}{i:Nat}(h:i<s.data.toList.length):bt s (i:Int)=((s.data.toList[i]).toNat:Int):=by
 unfold bt
 rw[Int.toNat_natCast,List.getD_eq_getElem?_getD,List.getElem?_eq_getElem h];rfl
end AM
end Go.Proofs.YtobpcllkonomlaaGreatDoor
namespace Go.Proofs.YtobpcllkonomlaaGreatDoor
namespace AM
open Go
set_option linter.unusedVariables false
set_option linter.unusedSimpArgs false
abbrev N0:Nat:=1000000000000000000000000000000
theorem ao{n:Int}(h1:-9223372036854775808≤n) (h2:n≤9223372036854775807):IntKind.i64.wrap n=n:=by
 rw[IntKind.wrap_i64];omega
theorem vP {α:Type}{l:List α}{i:Nat}(h:i<l.length) (d:α):l.getD i d=l[i]:=by
 rw[List.getD_eq_getElem?_getD,List.getElem?_eq_getElem h];rfl
theorem aH{i n:Nat}(h:i<n):bH (i:Int) n=true:=by
 unfold bH
 exact decide_eq_true ⟨Int.natCast_nonneg _,by omega⟩
theorem dI{i n:Nat}(hi:i<n) (hn:n≤4294967296):IntKind.i64.wrap ((i:Int)+(1:Int))=((i+1:Nat):Int):=by
 rw[ao (by omega) (by omega)];omega
theorem pV:∀(t:Ty),t.hasSl=false→∀x:t.den,t.eqv x x=true
 | .int _,_,x=>by simp[Ty.eqv]
 | .bool,_,x=>by simp[Ty.eqv]
 | .str,_,x=>decide_eq_true rfl
 | .sl _,h,_=>by cases h
 | .pr a b,h,x=>by
  have h:(a.hasSl || b.hasSl)=false:=h
  rw[Bool.or_eq_false_iff]at h
  show(a.eqv x.1 x.1&&b.eqv x.2 x.2)=true
  rw[pV a h.1,pV b h.2];rfl
theorem yA{kt:Ty}{k:kt.den}{m:List (kt.den×Int)}{j:Nat}{v:Int}(h:bL kt k m 0=some (j,v)):j<m.length:=by
 obtain⟨_,h2⟩:=l5 h
 exact(List.getElem?_eq_some_iff.1 h2).1
theorem BC {α:Type}{y:Int}{k:α}{c:Int}:∀{m:List (α×Int)}{j:Nat},j<m.length→vn y (m.set j (k,c)) j=m.set j (k,y)
 |[],_,h=>by simp at h
 |p::r,0,_=>rfl
 |p::r,j+1,h=>by
  show p::vn y (r.set j (k,c)) j=p::r.set j (k,y)
  rw[BC (by simpa using h)]
theorem yw {α:Type}{y:Int}{k:α}{c:Int}:∀{m:List (α×Int)},vn y (m++[(k,c)]) m.length=m++[(k,y)]
 |[]=>rfl
 |p::r=>by
  show p::vn y (r++[(k,c)]) r.length=p::(r++[(k,y)])
  rw[yw]
theorem Fo{kt:Ty}{k:kt.den}{c y:Int}{m:List (kt.den×Int)}:Fp (rK kt k m) y (lL kt k c m)=lL kt k y m:=by
 unfold Fp rK lL
 cases h:bL kt k m 0 with
 |some p =>
  obtain⟨j,v⟩:=p
  dsimp only
  rw[Int.toNat_natCast]
  exact BC (yA h)
 |none =>
  dsimp only
  rw[Int.toNat_natCast]
  exact yw
theorem Jz{kt:Ty}{k:kt.den}{c:Int}{m:List (kt.den×Int)}:bH (rK kt k m) (lL kt k c m).length=true:=by
 unfold rK lL
 cases h:bL kt k m 0 with
 |some p =>
  obtain⟨j,v⟩:=p
  dsimp only
  rw[List.length_set]
  exact aH (yA h)
 |none =>
  dsimp only
  rw[List.length_append]
  exact aH (by simp)
theorem sT{kt:Ty}{k k':kt.den}{x:Int}(hne:kt.eqv k' k=false):∀{m:List (kt.den×Int)}{i j:Nat}{v:Int},bL kt k m i=some (j,v)→bL kt k' (m.set (j-i) (k,x)) i=bL kt k' m i
 |[],_,_,_,h=>by cases h
 |p::r,i,j,v,h=>by
  unfold bL at h
  cases q:kt.eqv k p.1 with
  |true =>
   rw[q]at h
   obtain⟨rfl,rfl⟩:=Prod.mk.inj (Option.some.inj h)
   rw[Nat.sub_self,List.set_cons_zero]
   have:=xd kt q
   unfold bL
   rw[hne, ←this,hne]
   rfl
  |false =>
   rw[q]at h
   have h:bL kt k r (i+1)=some (j,v):=h
   obtain⟨h1,_⟩:=l5 h
   rw[show j-i=(j-(i+1))+1 by omega,List.set_cons_succ]
   unfold bL
   rw[sT hne h]
theorem rf{kt:Ty}{k k':kt.den}{x:Int}(hne:kt.eqv k' k=false):∀{m:List (kt.den×Int)}{i:Nat},bL kt k' (m++[(k,x)]) i=bL kt k' m i
 |[],i=>by
  show bL kt k' [(k,x)] i=_
  unfold bL
  rw[hne];rfl
 |p::r,i=>by
  show bL kt k' (p::(r++[(k,x)])) i=_
  unfold bL
  rw[rf hne]
theorem zY{kt:Ty}{k k':kt.den}{x:Int}{m:List (kt.den×Int)}(hne:kt.eqv k' k=false):gg kt k' (lL kt k x m)=gg kt k' m:=by
 unfold gg lL
 cases h:bL kt k m 0 with
 |some p =>
  obtain⟨j,v⟩:=p
  have:=sT (x:=x) hne h
  rw[Nat.sub_zero]at this
  simp only[this]
 |none=>simp only[rf hne]
abbrev af:=Int×(Int×Int)
abbrev kN:Ty := .pr (.int .i64) (.pr (.int .i64) (.int .i64))
theorem jg (n:Nat) (a b c:Int):aU n (a,b,c)=some (decide (a≥b)&&decide (a≤c)):=by
 unfold aU
 cases decide (a≥b)<;>rfl
theorem KU (n:Nat) (a b c:Int):dX n (a,b,c)=some (decide (a≥b)&&decide (a≤c)):=jg n a b c
theorem xh (n:Nat) (x:Int):∃v,ee n x=some v:=by
 unfold ee
 simp only[cond_eq_ite]
 repeat' split
 all_goals exact⟨_,rfl⟩
theorem Bw (n:Nat) (x:Int×Int×Int×Int):∃v,bM n x=some v:=by
 unfold bM
 obtain⟨v,hv⟩:=xh n x.1
 rw[hv]
 simp only[Option.bind_some,jg,cond_eq_ite]
 repeat' split
 all_goals exact⟨_,rfl⟩
def fJ (n:Nat) (x:Int×Int×Int×Int):Bool:=(bM n x).getD false
theorem ug (n:Nat) (x):bM n x=some (fJ n x):=by
 obtain⟨v,hv⟩:=Bw n x
 unfold fJ
 rw[hv];rfl
theorem A5 (n:Nat) (x):dQ n x=some (fJ n x):=ug n x
def c8 (n:Nat) (pre:List af):List af→Bool
 |[]=>true
 |k::r=>(!pre.contains k&&fJ n (k.1,k.2.1,k.2.2,(pre.length:Int)))&&c8 n (pre++[k]) r
theorem y0 (n:Nat){pre r:List af}{k:af}(hx:(pre++k::r).length≤4294967296):∀(m j:Nat),j≤pre.length→pre.length<m+j →
  ∃q:Nat,bm n m (pre++k::r,k.1,k.2.1,k.2.2,(j:Int))=some (Sum.inl (q:Int))∧q≤pre.length∧(q=pre.length↔k∉pre.drop j)
 |0,j,h1,h2=>by omega
 |m+1,j,h1,h2=>by
  have hlt:j<(pre++k::r).length:=by simp;omega
  have e0:bm n (m+1) (pre++k::r,k.1,k.2.1,k.2.2,(j:Int))=(cond (decide ((j:Int)<((pre++k::r).length:Int))) (cond (bH (j:Int) (pre++k::r).length) (cond (((pre++k::r).getD ((j:Int)).toNat ((0:Int),((0:Int),(0:Int)))).1==k.1&&(((pre++k::r).getD ((j:Int)).toNat ((0:Int),((0:Int),(0:Int)))).2.1==k.2.1&&(((pre++k::r).getD ((j:Int)).toNat ((0:Int),((0:Int),(0:Int)))).2.2==k.2.2&&true))) (some (Sum.inl (j:Int))) (bm n m (pre++k::r,k.1,k.2.1,k.2.2,IntKind.i64.wrap ((j:Int)+(1:Int))))) none) (some (Sum.inr ()))):=rfl
  rw[e0,decide_eq_true (by omega:(j:Int)<((pre++k::r).length:Int)),cond_true,aH hlt,cond_true,Int.toNat_natCast,vP hlt]
  have heq:∀p:af,(p.1==k.1&&(p.2.1==k.2.1&&(p.2.2==k.2.2&&true)))=decide (p=k):=by
   intro p
   obtain⟨p1,p2,p3⟩:=p
   obtain⟨k1,k2,k3⟩:=k
   rw[Bool.eq_iff_iff]
   simp
  rw[heq]
  rcases Nat.lt_or_ge j pre.length with q|q
  ·have hg:(pre++k::r)[j]=pre[j]:=List.getElem_append_left q
   rw[hg]
   have hd:pre.drop j=pre[j]::pre.drop (j+1):=List.drop_eq_getElem_cons q
   by_cases hk:pre[j]=k
   ·rw[decide_eq_true hk,cond_true]
    exact⟨j,rfl,by omega,by rw[hd,hk];simp;omega⟩
   ·rw[decide_eq_false hk,cond_false,dI hlt hx]
    obtain⟨z,g1,g2,g3⟩:=y0 n hx m (j+1) q (by omega)
    refine⟨z,g1,g2,g3.trans ?_⟩
    rw[hd,List.mem_cons]
    constructor
    ·intro h h2
     rcases h2 with h2|h2
     ·exact hk h2.symm
     ·exact h h2
    ·exact fun h h2=>h (.inr h2)
  ·have hj:j=pre.length:=by omega
   subst hj
   rw[show(pre++k::r)[pre.length]=k by simp,decide_eq_true rfl,cond_true]
   exact⟨pre.length,rfl,Nat.le_refl _,by simp⟩
theorem JP (n:Nat) (hn:4294967296<n){pre r:List af}{k:af}(hx:(pre++k::r).length≤4294967296):∃q:Int,dw n (pre++k::r,k.1,k.2.1,k.2.2)=some q∧(q != (pre.length:Int))=pre.contains k:=by
  have hlen : pre.length < n := by have : pre.length ≤ (pre ++ k :: r).length := by simp
                                   omega
  obtain⟨z,g1,g2,g3⟩:=y0 n hx n 0 (Nat.zero_le _) (by omega)
  refine⟨(z:Int),?_,?_⟩
  · show((bm n n (pre++k::r,k.1,k.2.1,k.2.2,((0:Nat):Int))).bind _)=_
    rw[g1];rfl
  · rw[List.drop_zero]at g3
    rw[Bool.eq_iff_iff]
    simp only[bne_iff_ne,ne_eq,List.contains_iff_mem]
    constructor
    · intro h
      exact Classical.byContradiction fun h2=>h (by rw[g3.2 h2])
    · intro h h2
      exact(g3.1 (by omega)) h
theorem qV (n:Nat) (hn:4294967296<n):∀(m:Nat) (pre r:List af),(pre++r).length≤4294967296→r.length<m→bW n m (pre++r,(pre.length:Int))=some (bif c8 n pre r then Sum.inr ()else Sum.inl false)
 |0,pre,r,hx,hm=>by omega
 |m+1,pre,[],hx,hm=>by
  show(cond (decide ((pre.length:Int)<((pre++[]).length:Int))) _ _)=_
  rw[decide_eq_false (by simp),cond_false];rfl
 |m+1,pre,k::r,hx,hm=>by
  have hlt:pre.length<(pre++k::r).length:=by simp
  have e0:bW n (m+1) (pre++k::r,(pre.length:Int))=(cond (decide ((pre.length:Int)<((pre++k::r).length:Int))) (cond (bH (pre.length:Int) (pre++k::r).length) ((dQ n (((pre++k::r).getD ((pre.length:Int)).toNat ((0:Int),((0:Int),(0:Int)))).1,((pre++k::r).getD ((pre.length:Int)).toNat ((0:Int),((0:Int),(0:Int)))).2.1,((pre++k::r).getD ((pre.length:Int)).toNat ((0:Int),((0:Int),(0:Int)))).2.2,(pre.length:Int))).bind fun r1=>(cond (!r1) (some (Sum.inl false)) (cond (bH (pre.length:Int) (pre++k::r).length) ((dw n (pre++k::r,((pre++k::r).getD ((pre.length:Int)).toNat ((0:Int),((0:Int),(0:Int)))).1,((pre++k::r).getD ((pre.length:Int)).toNat ((0:Int),((0:Int),(0:Int)))).2.1,((pre++k::r).getD ((pre.length:Int)).toNat ((0:Int),((0:Int),(0:Int)))).2.2)).bind fun r2=>(cond (r2 != (pre.length:Int)) (some (Sum.inl false)) (bW n m (pre++k::r,IntKind.i64.wrap ((pre.length:Int)+(1:Int)))))) none))) none) (some (Sum.inr ()))):=rfl
  obtain⟨q,g1,g2⟩:=JP n hn (pre:=pre) (r:=r) (k:=k) hx
  rw[e0,decide_eq_true (by omega:(pre.length:Int)<((pre++k::r).length:Int)),cond_true,aH hlt,cond_true,Int.toNat_natCast,vP hlt,show(pre++k::r)[pre.length]=k by simp,A5,g1]
  simp only[Option.bind_some,cond_true]
  rw[g2,dI hlt hx]
  have ih:=qV n hn m (pre++[k]) r (by simpa using hx) (by simp at hm;omega)
  rw[show pre++[k]++r=pre++k::r by simp,show(pre++[k]).length=pre.length+1 by simp]at ih
  rw[ih]
  rw[show c8 n pre (k::r)=((!pre.contains k&&fJ n (k.1,k.2.1,k.2.2,(pre.length:Int)))&&c8 n (pre++[k]) r)from rfl]
  cases fJ n (k.1,k.2.1,k.2.2,(pre.length:Int))<;>cases pre.contains k<;>cases c8 n (pre++[k]) r<;>rfl
theorem pj (n:Nat) (hn:4294967296<n){xs:List af}(hx:xs.length≤4294967296):dU n xs=some (decide (xs.length≤500)&&c8 n [] xs):=by
 unfold dU
 by_cases q:xs.length≤500
 ·rw[decide_eq_false (by omega:¬(xs.length:Int)>(500:Int)),cond_false,decide_eq_true q,Bool.true_and]
  have:=qV n hn n [] xs (by simpa using hx) (by omega)
  rw[List.nil_append,show(([]:List af).length:Int)=(0:Int)from rfl]at this
  rw[this]
  cases c8 n [] xs<;>rfl
 ·rw[decide_eq_true (by omega:(xs.length:Int)>(500:Int)),cond_true,decide_eq_false q];rfl
def WZ (kvs:List (af×Int)) (pre:List af):Prop:=∀k:af,gg kN k kvs=if k∈pre then 1 else 0
theorem OV{a b:af}:kN.eqv a b=decide (a=b):=by
 rw[Bool.eq_iff_iff,decide_eq_true_iff]
 exact⟨xd kN,fun h=>h▸pV kN rfl a⟩
theorem E8 (n:Nat) (kvs:List (af×Int)) (i a b c:Int) (xs:List af) (l j:Int):aA n (kvs,i,a,b,c,xs,l,j)=some (lL kN (a,b,c) (IntKind.i64.wrap (gg kN (a,b,c) kvs+(1:Int))) kvs,i,a,b,c,xs,l,j):=by
 unfold aA
 rw[Jz,cond_true,Fo]
theorem rn (n:Nat){xs:List af}(hx:xs.length≤4294967296):∀(m:Nat) (pre r:List af) (kvs:List (af×Int)),xs=pre++r→WZ kvs pre→r.length<m→b8 n m (kvs,xs,(xs.length:Int),(pre.length:Int))=some (bif c8 n pre r then Sum.inr ()else Sum.inl false)
 |0,pre,r,kvs,he,hc,hm=>by omega
 |m+1,pre,[],kvs,he,hc,hm=>by
  show(cond (decide ((pre.length:Int)<(xs.length:Int))) _ _)=_
  rw[decide_eq_false (by rw[he];simp),cond_false];rfl
 |m+1,pre,k::r,kvs,he,hc,hm=>by
  have hlt:pre.length<xs.length:=by rw[he];simp
  have hk:xs[pre.length]=k:=by simp[he]
  have e0:b8 n (m+1) (kvs,xs,(xs.length:Int),(pre.length:Int))=(cond (decide ((pre.length:Int)<(xs.length:Int))) (cond (bH (pre.length:Int) xs.length) ((aA n (kvs,(pre.length:Int),(xs.getD ((pre.length:Int)).toNat ((0:Int),((0:Int),(0:Int)))).1,(xs.getD ((pre.length:Int)).toNat ((0:Int),((0:Int),(0:Int)))).2.1,(xs.getD ((pre.length:Int)).toNat ((0:Int),((0:Int),(0:Int)))).2.2,xs,(xs.length:Int),(pre.length:Int))).bind fun g1=>(cond (decide ((gg kN (g1.2.2.1,(g1.2.2.2.1,g1.2.2.2.2.1)) g1.1)>(1:Int))) (some (Sum.inl false)) ((bM n (g1.2.2.1,g1.2.2.2.1,g1.2.2.2.2.1,g1.2.1)).bind fun r2=>(cond (!r2) (some (Sum.inl false)) (b8 n m (g1.1,g1.2.2.2.2.2.1,g1.2.2.2.2.2.2.1,(IntKind.i64.wrap (g1.2.2.2.2.2.2.2+(1:Int))))))))) none) (some (Sum.inr ()))):=rfl
  rw[e0,decide_eq_true (by omega:(pre.length:Int)<(xs.length:Int)),cond_true,aH hlt,cond_true,Int.toNat_natCast,vP hlt,hk,E8]
  simp only[Option.bind_some]
  have hself:kN.eqv (k.1,k.2.1,k.2.2) (k.1,k.2.1,k.2.2)=true:=pV kN rfl _
  have hke:((k.1,k.2.1,k.2.2):af)=k:=rfl
  rw[uj hself,ug,dI hlt hx]
  rw[show c8 n pre (k::r)=((!pre.contains k&&fJ n (k.1,k.2.1,k.2.2,(pre.length:Int)))&&c8 n (pre++[k]) r)from rfl]
  have hck:=hc k
  by_cases hin:k∈pre
  ·rw[if_pos hin]at hck
   have:pre.contains k=true:=by simpa using hin
   rw[this,show gg kN (k.1,k.2.1,k.2.2) kvs=1 from hck]
   rfl
  ·rw[if_neg hin]at hck
   have hcf:pre.contains k=false:=by simpa using hin
   rw[hcf,show gg kN (k.1,k.2.1,k.2.2) kvs=0 from hck]
   rw[show decide (IntKind.i64.wrap ((0:Int)+(1:Int))>(1:Int))=false from rfl,cond_false]
   have ih:=rn n hx m (pre++[k]) r (lL kN k (IntKind.i64.wrap ((0:Int)+(1:Int))) kvs) (by simpa using he) (by
    intro k'
    by_cases q:k'=k
    ·subst q
     rw[uj (pV kN rfl k')]
     simp;rfl
    ·rw[zY (by rw[OV];exact decide_eq_false q),hc k']
     simp[q]) (by simp at hm;omega)
   rw[show(pre++[k]).length=pre.length+1 by simp]at ih
   simp only[Option.bind_some]
   rw[show lL kN (k.1,k.2.1,k.2.2) (IntKind.i64.wrap ((0:Int)+(1:Int))) kvs=lL kN k (IntKind.i64.wrap ((0:Int)+(1:Int))) kvs from rfl,ih]
   cases fJ n (k.1,k.2.1,k.2.2,(pre.length:Int))<;>cases c8 n (pre++[k]) r<;>rfl
theorem mG (n:Nat) (hn:4294967296<n){xs:List af}(hx:xs.length≤4294967296):dD n xs=some (decide (xs.length≤500)&&c8 n [] xs):=by
 unfold dD
 by_cases q:xs.length≤500
 ·rw[decide_eq_false (by omega:¬(xs.length:Int)>(500:Int)),cond_false,decide_eq_true q,Bool.true_and]
  have:=rn n hx n [] xs [] rfl (fun k=>by simp[gg,bL]) (by omega)
  rw[show(([]:List af).length:Int)=(0:Int)from rfl]at this
  rw[this]
  cases c8 n [] xs<;>rfl
 ·rw[decide_eq_true (by omega:(xs.length:Int)>(500:Int)),cond_true,decide_eq_false q];rfl
def bQ (xs:List af) (v:Int):Bool:=decide (v≥0)&&decide (v≤(xs.length:Int)-1)
theorem rT (n:Nat){xs:List af}(hx:xs.length≤4294967296) (v:Int):eS n (xs,v)=some (bQ xs v):=by
 show((dX n (v,(0:Int),IntKind.i64.wrap ((xs.length:Int)-(1:Int)))).bind fun r1=>some r1)=_
 rw[ao (by omega) (by omega),KU];rfl
theorem lU (n:Nat){xs:List af}(hx:xs.length≤4294967296) (v:Int):cI n (xs,v)=some (xs,bQ xs v):=by
 show((aU n (v,(0:Int),IntKind.i64.wrap ((xs.length:Int)-(1:Int)))).bind fun r1=>some (xs,r1))=_
 rw[ao (by omega) (by omega),jg];rfl
theorem n0:4294967296<N0:=by decide
theorem Fv:maxLen=9223372036854775807:=by decide
def o9 (g:Nat→Bool):Nat→Nat→Bool
 |_,0=>true
 |i,k+1=>g i&&o9 g (i+1) k
theorem p7{g:Nat→Bool}:∀{k i:Nat},o9 g i k=true↔∀j,i≤j→j<i+k→g j=true
 |0,i=>⟨fun _ j h1 h2=>by omega,fun _=>rfl⟩
 |k+1,i=>by
  show(g i&&o9 g (i+1) k)=true↔_
  rw[Bool.and_eq_true,p7]
  constructor
  ·rintro ⟨h1,h2⟩ j g1 g2
   rcases Nat.eq_or_lt_of_le g1 with q|q
   ·subst q;exact h1
   ·exact h2 j q (by omega)
  ·exact fun h=>⟨h i (Nat.le_refl _) (by omega),fun j g1 g2=>h j (by omega) (by omega)⟩
def places (d:Nat→Bool) (n:Nat):List Nat:=(List.range n).filter d
abbrev vE:=Int×(Int×(Int×(Int×(Int×((List Int)×(Bool×(Bool×Int)))))))
abbrev qc:=Int×(Bool×Bool)
abbrev zI:vE:=((0:Int),((0:Int),((0:Int),((0:Int),((0:Int),([],(false,(false,(0:Int)))))))))
abbrev zC:qc:=((0:Int),(false,false))
theorem lR{X A B:Type}(L:Nat→X→Option (A⊕B)) (st:Nat→X) (g:Nat→Bool) (bad:A) (fin:B) (len:Nat)
  (step:∀m i,i<len→L (m+1) (st i)=bif g i then L m (st (i+1))else some (.inl bad)) (stop:∀m,L (m+1) (st len)=some (.inr fin)) :
  ∀m i,i≤len→len<m+i→L m (st i)=some (bif o9 g i (len-i)then .inr fin else .inl bad)
 |0,i,h1,h2=>by omega
 |m+1,i,h1,h2=>by
  rcases Nat.eq_or_lt_of_le h1 with q|q
  ·subst q
   rw[stop,Nat.sub_self];rfl
  ·rw[step m i q,show len-i=(len-(i+1))+1 by omega]
   show(bif g i then _ else _)=some (bif g i&&o9 g (i+1) (len-(i+1))then _ else _)
   cases g i with
   |false=>rfl
   |true=>exact lR L st g bad fin len step stop m (i+1) q (by omega)
theorem yh{i:Nat}(h:0<i) (hi:i≤4294967296):IntKind.i64.wrap ((i:Int)-(1:Int))=((i-1:Nat):Int):=by
 rw[ao (by omega) (by omega)];omega
theorem If (i n:Nat):decide ((i:Int)<(n:Int))=decide (i<n):=by
 rw[Bool.eq_iff_iff];simp
theorem z8{i n:Nat}(h:i<n):decide ((i:Int)<(n:Int))=true:=decide_eq_true (by omega)
theorem z9 (n:Nat):decide ((n:Int)<(n:Int))=false:=decide_eq_false (by omega)
def xp (l:List Int) (j:Nat):Bool:=decide (j=0) || decide (l.getD (j-1) 0<l.getD j 0)
def gr (xs:List af) (k:List Int) (j:Nat):Bool:=bQ xs (k.getD j 0)&&xp k j
theorem KV{i:Nat}(h:0<i):decide ((i:Int)>(0:Int))=true:=decide_eq_true (by omega)
theorem Fx (a b:Int):decide (a≤b) = !decide (b<a):=by
 rw[Bool.eq_iff_iff];simp
theorem FH (a b:Int):decide (a≥b) = !decide (a<b):=by
 rw[Bool.eq_iff_iff];simp
theorem xU{xs:List af}(hx:xs.length≤4294967296){k:List Int}(hk:k.length≤4294967296) (m i:Nat) (hi:i<k.length) :
  bf N0 (m+1) (k,xs,k,(k.length:Int),(i:Int))=bif gr xs k i then bf N0 m (k,xs,k,(k.length:Int),((i+1:Nat):Int))else some (.inl false):=by
 rw[bf]
 dsimp only
 rw[z8 hi,cond_true,aH hi,cond_true,lU N0 hx]
 simp only[Option.bind_some,Int.toNat_natCast,dI hi hk]
 unfold gr xp
 cases bQ xs (k.getD i 0)with
 |false=>rfl
 |true =>
  rcases Nat.eq_zero_or_pos i with q|q
  ·subst q;rfl
  ·rw[KV q,cond_true,yh q (by omega),aH (by omega),cond_true,Int.toNat_natCast,Fx,decide_eq_false (by omega:¬i=0)]
   cases decide (k.getD (i-1) 0<k.getD i 0)<;>rfl
theorem vp{xs:List af}(hx:xs.length≤4294967296){k:List Int}(hk:k.length≤4294967296) :
  gS N0 (xs,k)=some (o9 (gr xs k) 0 k.length&&(decide (k.length≤200)&&(decide (xs.length≤500)&&c8 N0 [] xs))):=by
 have:=lR (bf N0) (fun i=>(k,xs,k,(k.length:Int),(i:Int))) (gr xs k) false (k,xs) k.length (xU hx hk) (fun m=>by
  rw[bf];dsimp only;rw[z9];rfl) N0 0 (Nat.zero_le _) (by have:=n0;omega)
 rw[Nat.sub_zero]at this
 show((bf N0 N0 (k,xs,k,(k.length:Int),(0:Int))).bind _)=_
 rw[show bf N0 N0 (k,xs,k,(k.length:Int),(0:Int))=_ from this]
 cases o9 (gr xs k) 0 k.length with
 |false=>rfl
 |true =>
  show(cond (decide ((k.length:Int)≤(200:Int))) ((dD N0 xs).bind fun r5=>some r5) (some false))=_
  rw[mG N0 n0 hx]
  by_cases q:k.length≤200
  ·rw[decide_eq_true (by omega:(k.length:Int)≤(200:Int)),decide_eq_true q];rfl
  ·rw[decide_eq_false (by omega:¬(k.length:Int)≤(200:Int)),decide_eq_false q];rfl
theorem xM{xs:List af}(hx:xs.length≤4294967296){k:List Int}(hk:k.length≤4294967296) (m i:Nat) (hi:i<k.length) :
  bd N0 (m+1) (k,xs,(i:Int))=bif gr xs k i then bd N0 m (k,xs,((i+1:Nat):Int))else some (.inl false):=by
 rw[bd]
 dsimp only
 rw[z8 hi,cond_true,aH hi,cond_true,rT N0 hx]
 simp only[Option.bind_some,Int.toNat_natCast,dI hi hk]
 unfold gr xp
 cases bQ xs (k.getD i 0)with
 |false=>rfl
 |true =>
  rcases Nat.eq_zero_or_pos i with q|q
  ·subst q;rfl
  ·rw[KV q,cond_true,yh q (by omega),aH (by omega),cond_true,Int.toNat_natCast,FH,decide_eq_false (by omega:¬i=0)]
   cases decide (k.getD (i-1) 0<k.getD i 0)<;>rfl
theorem uX{xs:List af}(hx:xs.length≤4294967296){k:List Int}(hk:k.length≤4294967296) :
  fI N0 (xs,k)=some (o9 (gr xs k) 0 k.length&&(decide (k.length≤200)&&(decide (xs.length≤500)&&c8 N0 [] xs))):=by
 have:=lR (bd N0) (fun i=>(k,xs,(i:Int))) (gr xs k) false () k.length (xM hx hk) (fun m=>by
  rw[bd];dsimp only;rw[z9];rfl) N0 0 (Nat.zero_le _) (by have:=n0;omega)
 rw[Nat.sub_zero]at this
 have e:kD N0 (xs,k)=some (decide (k.length≤200)&&o9 (gr xs k) 0 k.length):=by
  show(cond (decide ((k.length:Int)>(200:Int))) (some false) ((bd N0 N0 (k,xs,(0:Int))).bind _))=_
  rw[show bd N0 N0 (k,xs,(0:Int))=_ from this]
  by_cases q:k.length≤200
  ·rw[decide_eq_false (by omega:¬(k.length:Int)>(200:Int)),decide_eq_true q]
   cases o9 (gr xs k) 0 k.length<;>rfl
  ·rw[decide_eq_true (by omega:(k.length:Int)>(200:Int)),decide_eq_false q];rfl
 show((dU N0 xs).bind fun r1=>(cond r1 ((kD N0 (xs,k)).bind fun r2=>(some r2)) (some false)))=_
 rw[pj N0 n0 hx,e]
 generalize (decide (xs.length≤500)&&c8 N0 [] xs)=P
 generalize o9 (gr xs k) 0 k.length=Q
 generalize decide (k.length≤200)=R
 cases P<;>cases Q<;>cases R<;>rfl
def yT (l:List Int) (v:Int):Bool := !o9 (fun j => !(l.getD j 0==v)) 0 l.length
theorem wQ{k:List Int}(hk:k.length≤4294967296) (v:Int):lH N0 (k,v)=some (yT k v):=by
 have:=lR (bo N0) (fun i=>(k,v,(i:Int))) (fun j => !(k.getD j 0==v)) true () k.length (fun m i hi=>by
  rw[bo];dsimp only
  rw[z8 hi,cond_true,aH hi,cond_true,Int.toNat_natCast,dI hi hk]
  cases(k.getD i 0==v)<;>rfl) (fun m=>by
  rw[bo];dsimp only;rw[z9];rfl) N0 0 (Nat.zero_le _) (by have:=n0;omega)
 rw[Nat.sub_zero]at this
 show((bo N0 N0 (k,v,(0:Int))).bind _)=_
 rw[show bo N0 N0 (k,v,(0:Int))=_ from this]
 unfold yT
 cases o9 (fun j => !(k.getD j 0==v)) 0 k.length<;>rfl
theorem yS{l:List Int}{v:Int}:yT l v=true↔∃j,j<l.length∧l.getD j 0=v:=by
 unfold yT
 rw[Bool.not_eq_true',Bool.eq_false_iff,ne_eq,p7]
 constructor
 ·intro h
  refine Classical.byContradiction fun h2=>h fun j _ hj=>?_
  have:¬l.getD j 0=v:=fun e=>h2 ⟨j,by omega,e⟩
  simpa using this
 ·rintro ⟨j,h1,h2⟩ h
  have:=h j (Nat.zero_le _) (by omega)
  rw[h2]at this
  simp at this
abbrev Uw (x:vE):List Int:=x.2.2.2.2.2.1
structure Small (xs:List af) (kn:List Int) (li:List vE) (gv sh:List Int) (lg:List qc):Prop where
 fx:xs.length≤4294967296
 fk:kn.length≤4294967296
 fl:li.length≤4294967296
 fg:gv.length≤4294967296
 fs:sh.length≤4294967296
 fo:lg.length≤4294967296
 fe:∀i,i<li.length→(Uw (li.getD i zI)).length≤4294967296
def ay (xs:List af):Bool:=decide (xs.length≤500)&&c8 N0 [] xs
section
variable{xs:List af}{kn:List Int}{li:List vE}{fr:Int}{gv sh:List Int}{lg:List qc}
def lk (lg:List qc) (j:Nat):Int:=(lg.getD j zC).1
end
section
variable{xs:List af}{kn:List Int}{li:List vE}{fr:Int}{gv sh:List Int}{lg:List qc}
end
section
variable{xs:List af}{kn:List Int}{li:List vE}{fr:Int}{gv sh:List Int}{lg:List qc}
end
section
variable{xs:List af}{kn:List Int}{li:List vE}{fr:Int}{gv sh:List Int}{lg:List qc}{k:Int}
end
abbrev cn:af:=((0:Int),((0:Int),(0:Int)))
def pf (xs:List af) (k:af):Nat→Nat→Option Nat
 |_,0=>none
 |i,m+1=>if xs.getD i cn=k then some i else pf xs k (i+1) m
abbrev rd (xs:List af) (k:af):Option Nat:=pf xs k 0 xs.length
theorem zQ{xs:List af}{k:af}:∀{m i j:Nat},pf xs k i m=some j→i≤j∧j<i+m∧xs.getD j cn=k
 |0,_,_,h=>by cases h
 |m+1,i,j,h=>by
  unfold pf at h
  by_cases hk:xs.getD i cn=k
  ·rw[if_pos hk]at h
   obtain rfl:=Option.some.inj h
   exact⟨Nat.le_refl _,by omega,hk⟩
  ·rw[if_neg hk]at h
   obtain⟨h1,h2,h3⟩:=zQ h
   exact⟨by omega,by omega,h3⟩
theorem DY{xs:List af}{k:af}:∀{m i:Nat},pf xs k i m=none→∀q,i≤q→q<i+m→xs.getD q cn≠k
 |0,i,_,q,h1,h2=>by omega
 |m+1,i,h,q,h1,h2=>by
  unfold pf at h
  by_cases hk:xs.getD i cn=k
  ·rw[if_pos hk]at h;cases h
  ·rw[if_neg hk]at h
   rcases Nat.eq_or_lt_of_le h1 with e|e
   ·subst e;exact hk
   ·exact DY h q e (by omega)
theorem Bv (p k:af):(p.1==k.1&&(p.2.1==k.2.1&&(p.2.2==k.2.2&&true)))=decide (p=k):=by
 obtain⟨p1,p2,p3⟩:=p
 obtain⟨k1,k2,k3⟩:=k
 rw[Bool.eq_iff_iff]
 simp
theorem Fn (p k:af):(k.1==p.1&&(k.2.1==p.2.1&&(k.2.2==p.2.2&&true)))=decide (p=k):=by
 rw[Bv k p,Bool.eq_iff_iff]
 simp[eq_comm]
theorem DX{xs:List af}{k:af}{i:Nat}(h:i<xs.length):pf xs k i (xs.length-i)=if xs.getD i cn=k then some i else pf xs k (i+1) (xs.length-(i+1)):=by
 have e:xs.length-i=(xs.length-(i+1))+1:=by omega
 rw[e];rfl
theorem GN{xs:List af}{k:af}{i:Nat}(h:xs.length≤i):pf xs k i (xs.length-i)=none:=by
 have e:xs.length-i=0:=by omega
 rw[e];rfl
theorem wV (n:Nat){xs:List af}(hx:xs.length≤4294967296) (k:af):∀(m i:Nat),i≤xs.length→xs.length<m+i→am n m (xs,k.1,k.2.1,k.2.2,(xs.length:Int),(i:Int)) =
  some (match pf xs k i (xs.length-i)with|some j=>Sum.inl (j:Int)|none=>Sum.inr ())
 |0,i,h1,h2=>by omega
 |m+1,i,h1,h2=>by
  have e0:am n (m+1) (xs,k.1,k.2.1,k.2.2,(xs.length:Int),(i:Int))=(cond (decide ((i:Int)<(xs.length:Int))) (cond (bH (i:Int) xs.length) (cond (k.1==(xs.getD ((i:Int)).toNat cn).1&&(k.2.1==(xs.getD ((i:Int)).toNat cn).2.1&&(k.2.2==(xs.getD ((i:Int)).toNat cn).2.2&&true))) (some (Sum.inl (i:Int))) (am n m (xs,k.1,k.2.1,k.2.2,(xs.length:Int),IntKind.i64.wrap ((i:Int)+(1:Int))))) none) (some (Sum.inr ()))):=rfl
  rw[e0,If]
  by_cases hlt:i<xs.length
  ·rw[decide_eq_true hlt,cond_true,aH hlt,cond_true,Int.toNat_natCast,dI hlt hx,Fn,DX hlt]
   by_cases hk:xs.getD i cn=k
   ·rw[decide_eq_true hk,cond_true,if_pos hk]
   ·rw[decide_eq_false hk,cond_false,if_neg hk,wV n hx k m (i+1) hlt (by omega)]
  ·rw[decide_eq_false hlt,cond_false,GN (by omega)]
theorem w9 (n:Nat){xs:List af}(hx:xs.length≤4294967296) (k:af):∀(m i:Nat),i≤xs.length→xs.length<m+i→bm n m (xs,k.1,k.2.1,k.2.2,(i:Int)) =
  some (match pf xs k i (xs.length-i)with|some j=>Sum.inl (j:Int)|none=>Sum.inr ())
 |0,i,h1,h2=>by omega
 |m+1,i,h1,h2=>by
  have e0:bm n (m+1) (xs,k.1,k.2.1,k.2.2,(i:Int))=(cond (decide ((i:Int)<(xs.length:Int))) (cond (bH (i:Int) xs.length) (cond ((xs.getD ((i:Int)).toNat cn).1==k.1&&((xs.getD ((i:Int)).toNat cn).2.1==k.2.1&&((xs.getD ((i:Int)).toNat cn).2.2==k.2.2&&true))) (some (Sum.inl (i:Int))) (bm n m (xs,k.1,k.2.1,k.2.2,IntKind.i64.wrap ((i:Int)+(1:Int))))) none) (some (Sum.inr ()))):=rfl
  rw[e0,If]
  by_cases hlt:i<xs.length
  ·rw[decide_eq_true hlt,cond_true,aH hlt,cond_true,Int.toNat_natCast,dI hlt hx,Bv,DX hlt]
   by_cases hk:xs.getD i cn=k
   ·rw[decide_eq_true hk,cond_true,if_pos hk]
   ·rw[decide_eq_false hk,cond_false,if_neg hk,w9 n hx k m (i+1) hlt (by omega)]
  ·rw[decide_eq_false hlt,cond_false,GN (by omega)]
def LH (xs:List af) (k:af):Int:=match rd xs k with
 |some j=>(j:Int)
 |none=>-1
theorem In{xs:List af}(hx:xs.length≤4294967296) (k:af):aR N0 (xs,k.1,k.2.1,k.2.2)=some (LH xs k):=by
 unfold aR
 dsimp only
 have h:=wV N0 hx k N0 0 (Nat.zero_le _) (by have:=n0;omega)
 rw[Nat.sub_zero]at h
 rw[show(0:Int)=((0:Nat):Int)from rfl,h]
 unfold LH rd
 cases pf xs k 0 xs.length<;>rfl
theorem FA{xs:List af}(hx:xs.length≤4294967296) (k:af):dw N0 (xs,k.1,k.2.1,k.2.2)=some (LH xs k):=by
 unfold dw
 dsimp only
 have h:=w9 N0 hx k N0 0 (Nat.zero_le _) (by have:=n0;omega)
 rw[Nat.sub_zero]at h
 rw[show(0:Int)=((0:Nat):Int)from rfl,h]
 unfold LH rd
 cases pf xs k 0 xs.length<;>rfl
theorem A3 {α:Type}{xs:List af}(h:xs.length≤500){k:α}:dN (xs.length+[k].length)=true:=by
 unfold dN
 rw[List.length_singleton]
 simp
 omega
theorem G6{c a b:Int}{i j:Nat}(hj:j≤4294967296) (hij:i≤j) (h:fJ N0 (c,a,b,(i:Int))=true):fJ N0 (c,a,b,(j:Int))=true:=by
 have wi:IntKind.i64.wrap ((i:Int)-(1:Int))=(i:Int)-1:=ao (by omega) (by omega)
 have wj:IntKind.i64.wrap ((j:Int)-(1:Int))=(j:Int)-1:=ao (by omega) (by omega)
 have up:∀v:Int,(decide (v≥0)&&decide (v≤(i:Int)-1))=true→(decide (v≥0)&&decide (v≤(j:Int)-1))=true:=fun v hv=>by
  rw[Bool.and_eq_true,decide_eq_true_iff,decide_eq_true_iff]at hv ⊢
  omega
 have ha:=up a
 have hb:=up b
 revert h
 unfold fJ bM
 dsimp only
 obtain⟨v,hv⟩:=xh N0 c
 rw[hv]
 simp only[Option.bind_some,jg,wi,wj]
 generalize (decide (a≥0)&&decide (a≤(i:Int)-1))=A1 at ha ⊢
 generalize (decide (a≥0)&&decide (a≤(j:Int)-1))=A2 at ha ⊢
 generalize (decide (b≥0)&&decide (b≤(i:Int)-1))=B1 at hb ⊢
 generalize (decide (b≥0)&&decide (b≤(j:Int)-1))=B2 at hb ⊢
 cases(v==(0:Int))
 ·cases(v==(1:Int))
  ·cases(v==(2:Int))
   ·exact id
   ·cases A1
    ·exact fun h=>Bool.noConfusion h
    ·cases B1
     ·exact fun h=>(by cases A2<;>exact Bool.noConfusion h)
     ·rw[ha rfl,hb rfl];exact id
  ·cases A1
   ·exact fun h=>Bool.noConfusion h
   ·rw[ha rfl];exact id
 ·exact id
theorem yo{n:Nat}:∀{r pre:List af},c8 n pre r=true→∀j,j<r.length→fJ n ((r.getD j cn).1,(r.getD j cn).2.1,(r.getD j cn).2.2,((pre.length+j:Nat):Int))=true
 |[],pre,_,j,hj=>absurd hj (Nat.not_lt_zero _)
 |k::r,pre,h,j,hj=>by
  have h:((!pre.contains k&&fJ n (k.1,k.2.1,k.2.2,(pre.length:Int)))&&c8 n (pre++[k]) r)=true:=h
  rw[Bool.and_eq_true,Bool.and_eq_true]at h
  match j with
  |0=>exact h.1.2
  |j+1 =>
   have:=yo h.2 j (by simpa using hj)
   rw[List.length_append]at this
   have e:pre.length+(j+1)=pre.length+[k].length+j:=by simp;omega
   rw[e]
   exact this
theorem wC{n:Nat}:∀{r pre s:List af},c8 n pre (r++s)=(c8 n pre r&&c8 n (pre++r) s)
 |[],pre,s=>by simp[c8]
 |k::r,pre,s=>by
  show((!pre.contains k&&fJ n (k.1,k.2.1,k.2.2,(pre.length:Int)))&&c8 n (pre++[k]) (r++s))=(((!pre.contains k&&fJ n (k.1,k.2.1,k.2.2,(pre.length:Int)))&&c8 n (pre++[k]) r)&&c8 n (pre++(k::r)) s)
  rw[wC]
  simp only[Bool.and_assoc,List.append_assoc,List.singleton_append]
theorem ax{xs:List af}(h:ay xs=true):xs.length≤500:=by
 unfold ay at h
 rw[Bool.and_eq_true,decide_eq_true_iff]at h
 exact h.1
theorem wq{xs:List af}(h:ay xs=true){j:Nat}(hj:j<xs.length):fJ N0 ((xs.getD j cn).1,(xs.getD j cn).2.1,(xs.getD j cn).2.2,(j:Int))=true:=by
 unfold ay at h
 rw[Bool.and_eq_true]at h
 have:=yo h.2 j hj
 simpa using this
theorem CT{xs:List af}(h:ay xs=true) (hl:xs.length<500){k:af}(hk:fJ N0 (k.1,k.2.1,k.2.2,(xs.length:Int))=true) (hn:rd xs k=none):ay (xs++[k])=true:=by
 unfold ay at h ⊢
 rw[Bool.and_eq_true]at h ⊢
 refine⟨decide_eq_true (by simp;omega),?_⟩
 rw[wC,h.2,Bool.true_and,List.nil_append]
 show((!xs.contains k&&fJ N0 (k.1,k.2.1,k.2.2,(xs.length:Int)))&&true)=true
 rw[hk,Bool.and_true,Bool.and_true,Bool.not_eq_true']
 rw[←Bool.not_eq_true]
 intro hc
 have hm:k∈xs:=by simpa using hc
 obtain⟨j,hj,e⟩:=List.mem_iff_getElem.1 hm
 refine DY hn j (Nat.zero_le _) (by omega) ?_
 rw[vP hj]
 exact e
def xw (xs:List af) (k:af):Option (List af×Int) :=
 bif fJ N0 (k.1,k.2.1,k.2.2,(xs.length:Int))then(match rd xs k with
  |some j=>some (xs,(j:Int))
  |none=>if 500≤xs.length then none else some (xs++[k],(xs.length:Int)))else none
def mU (kd a b:Int):af:=bif kd==8 then(kd,mn a b,mx a b)else(kd,a,b)
def d6 (xs:List af) (kd a b:Int):Option (List af×Int):=xw xs (mU kd a b)
def kI (xs:List af):Option (List af×Int)→List af×Int
 |some r=>r
 |none=>(xs, -1)
theorem zi{xs ys:List af}{k:af}{t:Int}(hp:ay xs=true) (h:xw xs k=some (ys,t)):ay ys=true∧0≤t∧t<(ys.length:Int)∧(∃zs,ys=xs++zs)∧ys.getD t.toNat cn=k:=by
 unfold xw at h
 cases hk:fJ N0 (k.1,k.2.1,k.2.2,(xs.length:Int))with
 |false=>rw[hk]at h;cases h
 |true =>
  rw[hk,cond_true]at h
  cases hf:rd xs k with
  |some j =>
   rw[hf]at h
   obtain⟨rfl,rfl⟩:=Prod.mk.inj (Option.some.inj h)
   obtain⟨h1,h2,h3⟩:=zQ hf
   exact⟨hp,by omega,by omega,⟨[],by simp⟩,by rw[Int.toNat_natCast];exact h3⟩
  |none =>
   rw[hf]at h
   dsimp only at h
   by_cases hl:500≤xs.length
   ·rw[if_pos hl]at h;cases h
   ·rw[if_neg hl]at h
    obtain⟨rfl,rfl⟩:=Prod.mk.inj (Option.some.inj h)
    exact⟨CT hp (by omega) hk hf,by omega,by simp;omega,⟨[k],rfl⟩,by rw[Int.toNat_natCast];simp[List.getD_eq_getElem?_getD]⟩
theorem wS{xs:List af}(hx:xs.length≤4294967296) (v:Int):eg N0 (xs,v)=some (xs,bQ xs v):=lU N0 hx v
theorem BV{xs:List af}(hx:xs.length≤500) (k:af):((bM N0 (k.1,k.2.1,k.2.2,((xs).length:Int))).bind fun r1=>(cond (!r1) (some (xs,(-1:Int))) ((di N0 (xs,k.1,k.2.1,k.2.2)).bind fun r2=>(cond (decide (r2.2≥(0:Int))) (some (r2.1,r2.2)) (cond (decide (((r2.1).length:Int)≥(500:Int))) (some (r2.1,(-1:Int))) ((cR N0 (r2.1,k.1,k.2.1,k.2.2)).bind fun g3=>(some (g3,(IntKind.i64.wrap (((g3).length:Int)-(1:Int)))))))))))
  = some (kI xs (xw xs k)):=by
 rw[ug,Option.bind_some]
 unfold xw
 cases fJ N0 (k.1,k.2.1,k.2.2,(xs.length:Int))with
 |false=>rfl
 |true =>
  rw[cond_true,Bool.not_true,cond_false]
  have e1:di N0 (xs,k.1,k.2.1,k.2.2)=some (xs,LH xs k):=by
   unfold di
   dsimp only
   rw[In (by omega)];rfl
  rw[e1,Option.bind_some]
  dsimp only
  unfold LH
  cases hf:rd xs k with
  |some j =>
   dsimp only
   rw[decide_eq_true (by omega:(j:Int)≥(0:Int)),cond_true];rfl
  |none =>
   dsimp only
   rw[decide_eq_false (by omega:¬((-1:Int)≥(0:Int))),cond_false]
   by_cases hl:500≤xs.length
   ·rw[decide_eq_true (by omega:(xs.length:Int)≥(500:Int)),cond_true,if_pos hl];rfl
   ·rw[decide_eq_false (by omega:¬((xs.length:Int)≥(500:Int))),cond_false,if_neg hl]
    have e2:cR N0 (xs,k.1,k.2.1,k.2.2)=some (xs++[k]):=by
     unfold cR
     dsimp only
     have:dN (xs.length+[(k.1,(k.2.1,k.2.2))].length)=true:=A3 hx
     rw[this];rfl
    rw[e2,Option.bind_some]
    have e3:IntKind.i64.wrap (((xs++[k]).length:Int)-(1:Int))=(xs.length:Int):=by
     have hl:(xs++[k]).length=xs.length+1:=by rw[List.length_append,List.length_singleton]
     rw[hl,ao (by omega) (by omega)]
     omega
    rw[e3];rfl
theorem ej{xs:List af}(hx:xs.length≤500) (kd a b:Int):cb N0 (xs,kd,a,b)=some (kI xs (d6 xs kd a b)):=by
 unfold cb d6 mU
 dsimp only
 cases hk:(kd==(8:Int))with
 |true=>rw[cond_true,cond_true];exact BV hx (kd,mn a b,mx a b)
 |false=>rw[cond_false,cond_false];exact BV hx (kd,a,b)
theorem pM{xs:List af}(hx:xs.length≤500) (c:Int):ct N0 (xs,c)=some (kI xs (d6 xs 1 c 0)):=by
 unfold ct
 dsimp only
 rw[ej hx];rfl
theorem v8{xs:List af}(hp:ay xs=true) (k:af):((dw N0 (xs,k.1,k.2.1,k.2.2)).bind fun r9=>(cond (decide (r9≥(0:Int))) (some (xs,r9)) ((dQ N0 (k.1,k.2.1,k.2.2,((xs).length:Int))).bind fun r10=>(cond (!r10) (some (xs,(-1:Int))) (cond (((xs).length:Int)==(500:Int)) (some (xs,(-1:Int))) ((cj N0 xs).bind fun r11=>(cond (dN ((r11).length+([(k.1,(k.2.1,k.2.2))]).length)) ((fj N0 (xs,[],(r11++[(k.1,(k.2.1,k.2.2))]))).bind fun g12=>(some (g12.1,g12.2))) none)))))))
  = some (kI xs (xw xs k)):=by
 have hx:=ax hp
 rw[FA (by omega),Option.bind_some]
 unfold LH xw
 cases hf:rd xs k with
 |some j =>
  obtain⟨h1,h2,h3⟩:=zQ hf
  have hj:j<xs.length:=by omega
  have hnd:=wq hp hj
  rw[h3]at hnd
  rw[G6 (by omega) (Nat.le_of_lt hj) hnd]
  dsimp only
  rw[decide_eq_true (by omega:(j:Int)≥(0:Int)),cond_true];rfl
 |none =>
  dsimp only
  rw[decide_eq_false (by omega:¬((-1:Int)≥(0:Int))),cond_false,A5,Option.bind_some]
  cases fJ N0 (k.1,k.2.1,k.2.2,(xs.length:Int))with
  |false=>rfl
  |true =>
   rw[cond_true,Bool.not_true,cond_false]
   by_cases hl:500≤xs.length
   ·have:((xs.length:Int)==(500:Int))=true:=by simp;omega
    rw[this,cond_true,if_pos hl];rfl
   ·have:((xs.length:Int)==(500:Int))=false:=by simp;omega
    rw[this,cond_false,if_neg hl]
    have e1:cj N0 xs=some xs:=by
     unfold cj
     have:dN (([]:List af).length+xs.length)=true:=by
      unfold dN
      simp
      omega
     rw[this];rfl
    rw[e1,Option.bind_some]
    have:dN (xs.length+[(k.1,(k.2.1,k.2.2))].length)=true:=A3 hx
    rw[this,cond_true];rfl
theorem c7{xs:List af}(hp:ay xs=true) (kd a b:Int):bN N0 (xs,kd,a,b)=some (kI xs (d6 xs kd a b)):=by
 unfold bN d6 mU mn mx
 dsimp only
 cases hk:(kd==(8:Int))with
 |true =>
  rw[cond_true,cond_true]
  by_cases hab:a>b
  ·rw[decide_eq_true hab,cond_true,if_pos (by omega:b<a),if_neg (by omega:¬b>a)]
   exact v8 hp (kd,b,a)
  ·rw[decide_eq_false hab,cond_false,if_neg (by omega:¬b<a)]
   have:(if b>a then b else a)=b:=by split<;>omega
   rw[this]
   exact v8 hp (kd,a,b)
 |false=>rw[cond_false,cond_false];exact v8 hp (kd,a,b)
theorem pm{xs:List af}(hp:ay xs=true) (c:Int):ci N0 (xs,c)=some (kI xs (d6 xs 1 c 0)):=by
 unfold ci
 dsimp only
 rw[c7 hp];rfl
def py (xs:List af) (a e:Int):Option (List af×Int) :=
 bif bQ xs a then(bif bQ xs e then(bif (xs.getD a.toNat cn).1==7 then d6 xs 8 e (xs.getD a.toNat cn).2.1 else none)else none)else none
theorem fC{xs:List af}{a:Int}(h:bQ xs a=true):bH a xs.length=true:=by
 unfold bQ at h
 rw[Bool.and_eq_true,decide_eq_true_iff,decide_eq_true_iff]at h
 have e:a=((a.toNat:Nat):Int):=by omega
 rw[e]
 exact aH (by omega)
theorem Ak{xs:List af}(hx:xs.length≤500) (a e:Int):gi N0 (xs,a,e)=some (kI xs (py xs a e)):=by
 unfold gi py
 dsimp only
 rw[wS (by omega),Option.bind_some]
 dsimp only
 cases ha:bQ xs a with
 |false=>rfl
 |true =>
  rw[Bool.not_true,cond_false,cond_true,wS (by omega),Option.bind_some]
  dsimp only
  cases bQ xs e with
  |false=>rfl
  |true =>
   rw[Bool.not_true,cond_false,cond_true,fC ha,cond_true,cond_true]
   show(cond (!((xs.getD a.toNat cn).1==(7:Int))) _ _)=_
   cases((xs.getD a.toNat cn).1==(7:Int))with
   |false=>rfl
   |true =>
    rw[Bool.not_true,cond_false,cond_true,ej hx];rfl
theorem zH{xs:List af}(hp:ay xs=true) (a e:Int):jt N0 (xs,a,e)=some (kI xs (py xs a e)):=by
 have hx:=ax hp
 unfold jt py
 dsimp only
 rw[rT N0 (by omega),Option.bind_some]
 cases ha:bQ xs a with
 |false=>rfl
 |true =>
  rw[Bool.not_true,cond_false,cond_true,rT N0 (by omega),Option.bind_some]
  cases bQ xs e with
  |false=>rfl
  |true =>
   rw[Bool.not_true,cond_false,cond_true,fC ha,cond_true,cond_true]
   show(cond (!((xs.getD a.toNat cn).1==(7:Int))) _ _)=_
   cases((xs.getD a.toNat cn).1==(7:Int))with
   |false=>rfl
   |true =>
    rw[Bool.not_true,cond_false,cond_true,c7 hp];rfl
inductive SS where
 |name (c:Int)
 |var (i:Int)
 |ask (i:Int)
 |un (k:Int) (p:SS)
 |bin (k:Int) (p q:SS)
 |exp (p q:SS)
def mk (env:List Int):SS→List af→Option (List af×Int)
 | .name c,xs=>d6 xs 1 c 0
 | .var i,xs=>bif decide (env.getD i.toNat 0<0)then none else some (xs,env.getD i.toNat 0)
 | .ask _,xs=>none
 | .un k p,xs=>(mk env p xs).bind fun r=>d6 r.1 k r.2 0
 | .bin k p q,xs=>(mk env p xs).bind fun r=>(mk env q r.1).bind fun s=>d6 s.1 k r.2 s.2
 | .exp p q,xs=>(mk env p xs).bind fun r=>(mk env q r.1).bind fun s=>py s.1 s.2 r.2
def Ct (xs ys:List af) (t:Int):Prop:=ay ys=true∧0≤t∧(∃zs,ys=xs++zs)
theorem DB{xs ys:List af}{kd a b t:Int}(hp:ay xs=true) (h:d6 xs kd a b=some (ys,t)):Ct xs ys t∧t<(ys.length:Int):=by
 obtain⟨h1,h2,h3,h4,_⟩:=zi hp h
 exact⟨⟨h1,h2,h4⟩,h3⟩
theorem Ct.trans{xs ys zs:List af}{t u:Int}(h1:Ct xs ys t) (h2:Ct ys zs u):Ct xs zs u:=by
 obtain⟨a1,a2,v,rfl⟩:=h1
 obtain⟨b1,b2,w,rfl⟩:=h2
 exact⟨b1,b2,v++w,by rw[List.append_assoc]⟩
theorem CO{xs ys:List af}{a e t:Int}(h:py xs a e=some (ys,t)):d6 xs 8 e (xs.getD a.toNat cn).2.1=some (ys,t):=by
 unfold py at h
 cases h1:bQ xs a with
 |false=>rw[h1]at h;cases h
 |true =>
  cases h2:bQ xs e with
  |false=>rw[h1,h2]at h;cases h
  |true =>
   cases h3:((xs.getD a.toNat cn).1==7)with
   |false=>rw[h1,h2,h3]at h;cases h
   |true=>rw[h1,h2,h3]at h;exact h
theorem jz{xs:List af}(hx:xs.length≤4294967296):bG N0 xs=some xs:=by
 unfold bG gm
 rw[decide_eq_true hx];rfl
theorem xi{xs:List af}(hx:xs.length≤4294967296):cj N0 xs=some xs:=by
 unfold cj
 have:dN (([]:List af).length+xs.length)=true:=by
  unfold dN
  simp
  omega
 rw[this];rfl
section
variable{xs:List af}{kn:List Int}{li:List vE}{fr:Int}{gv sh:List Int}{lg:List qc}{k:Int}
end
def M1 (env:List Int):Prop:=env.length=26∧∀i:Nat,env.getD i 0<0→env.getD i 0=-1
theorem Ji{env:List Int}{i:Nat}(h:i<env.length) (t:Int):(env.set i t).getD i 0=t:=by
 rw[List.getD_eq_getElem?_getD,List.getElem?_set_self h];rfl
theorem M1.set{env:List Int}(h:M1 env){i:Nat}(hi:i<env.length){t:Int}(ht:0≤t):M1 (env.set i t):=by
 refine⟨by rw[List.length_set];exact h.1,fun j hj=>?_⟩
 by_cases e:i=j
 ·subst e
  rw[Ji hi]at hj
  omega
 ·have e2:(env.set i t).getD j 0=env.getD j 0:=by rw[List.getD_eq_getElem?_getD,List.getD_eq_getElem?_getD,List.getElem?_set_ne e]
  rw[e2]at hj ⊢
  exact h.2 _ hj
abbrev nd (xs:List af) (t:Int):af:=xs.getD t.toNat cn
theorem An {α:Type}(pre r:List α) (a d:α):(pre++a::r).getD pre.length d=a:=by
 rw[List.getD_eq_getElem?_getD,List.getElem?_append_right (Nat.le_refl _),Nat.sub_self];rfl
theorem Da {α:Type}(pre r:List α) (a:α):bH (pre.length:Int) (pre++a::r).length=true:=aH (by simp)
theorem C6 {α:Type}(pre r:List α) (a:α):decide ((pre.length:Int)<((pre++a::r).length:Int))=true:=decide_eq_true (by simp;omega)
theorem C7 {α:Type}(pre:List α):decide ((pre.length:Int)<((pre++([]:List α)).length:Int))=false:=decide_eq_false (by simp)
theorem AC {α:Type}(pre r:List α) (a:α):pre++a::r=(pre++[a])++r:=by rw[List.append_assoc];rfl
theorem Ab {α:Type}(pre:List α) (a:α):((pre++[a]).length:Int)=(pre.length:Int)+1:=by rw[List.length_append,List.length_singleton];omega
theorem p5{v:List Int}(he:v.length≤4294967296):dS v=some v:=by
 unfold dS
 rw[decide_eq_true he];rfl
def zn (env e:List Int):Prop:=∀i:Nat,env.getD i 0≠-1→e.getD i 0=env.getD i 0
theorem zn.refl (env:List Int):zn env env:=fun _ _=>rfl
theorem zn.trans{a b c:List Int}(h1:zn a b) (h2:zn b c):zn a c:=fun i h=>(h2 i (by rw[h1 i h];exact h)).trans (h1 i h)
def dg (k:Nat):UInt8:=UInt8.ofNat (48+k)
def rk (u:Nat):List UInt8:=if u<10 then [dg u]else if u<100 then [dg (u / 10),dg (u % 10)]else [dg (u / 100),dg (u / 10 % 10),dg (u % 10)]
theorem Er{u:Nat}(h:u<1000):Lib.decDigits u=rk u:=by
 unfold rk dg
 by_cases h1:u<10
 ·rw[if_pos h1,Lib.decDigits,dif_pos h1]
 ·rw[if_neg h1,Lib.decDigits,dif_neg h1]
  by_cases h2:u<100
  ·rw[if_pos h2,Lib.decDigits,dif_pos (by omega)];rfl
  ·rw[if_neg h2,Lib.decDigits,dif_neg (by omega),Lib.decDigits,dif_pos (by omega)]
   rw[show u / 10 / 10=u / 100 by omega];rfl
theorem Ik{u:Nat}(h:u<1000):Lib.itoa (u:Int)=rk u:=by
 unfold Lib.itoa
 rw[if_neg (by omega),Int.toNat_natCast,Er h]
set_option maxRecDepth 100000 in
theorem qI:∀u:Fin 1000,Lib.atoiAll (rk u.val) = .ok (u.val:Int):=by decide +kernel
theorem Af (u:Nat):(rk u).length≤3:=by
 unfold rk
 split
 ·simp
 ·split<;>simp
def jp (c:UInt8):Bool:=decide (48≤c.toNat)&&decide (c.toNat≤57)
abbrev bs (T:ByteArray):List UInt8:=T.data.toList
theorem lb (T:ByteArray):(bs T).length=T.size:=by
 rw[bs,Array.length_toList];rfl
theorem a8{T:ByteArray}{a:Nat}{c:UInt8}{r:List UInt8}(h:(bs T).drop a=c::r):a<T.size∧bt T (a:Int)=(c.toNat:Int)∧(bs T).drop (a+1)=r:=by
 have hl:a<(bs T).length:=by
  refine Nat.lt_of_not_le fun q=>?_
  rw[List.drop_eq_nil_of_le q]at h
  cases h
 rw[List.drop_eq_getElem_cons hl]at h
 injection h with h1 h2
 refine⟨by rw[←lb];exact hl,?_,h2⟩
 rw[P5 hl,h1]
theorem nI{T:ByteArray}{a:Nat}(h:(bs T).drop a=[]):T.size≤a:=by
 rw[←lb]
 exact List.drop_eq_nil_iff.1 h
theorem cT{T:ByteArray}{a:Nat}{c:UInt8}{r:List UInt8}(h:(bs T).drop a=c::r) (k:Int) (M:ByteArray):cG N0 (T,(a:Int),k,M)=some (T,(a:Int),k,M,(c.toNat:Int)):=by
 obtain⟨h1,h2,_⟩:=a8 h
 unfold cG
 dsimp only
 rw[decide_eq_false (by omega:¬(a:Int)≥(T.size:Int)),cond_false,aH h1,cond_true,h2]
theorem Bk{T:ByteArray}{a:Nat}(h:(bs T).drop a=[]) (k:Int) (M:ByteArray):cG N0 (T,(a:Int),k,M)=some (T,(a:Int),k,M,(0:Int)):=by
 have h1:=nI h
 unfold cG
 dsimp only
 rw[decide_eq_true (by omega:(a:Int)≥(T.size:Int)),cond_true]
theorem Im (c:UInt8):gn N0 (c.toNat:Int)=some (jp c):=by
 unfold gn jp
 by_cases h:48≤c.toNat
 ·rw[decide_eq_true (by omega:(c.toNat:Int)≥48),decide_eq_true h,cond_true,Bool.true_and]
  congr 1
  by_cases h2:c.toNat≤57
  ·rw[decide_eq_true h2,decide_eq_true (by omega)]
  ·rw[decide_eq_false h2,decide_eq_false (by omega)]
 ·rw[decide_eq_false (by omega:¬(c.toNat:Int)≥48),decide_eq_false h];rfl
theorem za{T:ByteArray}(hT:T.size≤100000) (k most from_:Int) (M:ByteArray):∀(l:List UInt8) (a m:Nat),(bs T).drop a=l→a≤T.size→l.length<m→aM N0 m (T,(a:Int),k,M,most,from_)=some (T,((a+(l.takeWhile jp).length:Nat):Int),k,M,most,from_)
 |l,a,0,h,_,hm=>by omega
 |[],a,m+1,h,ha,hm=>by
  rw[aM];dsimp only
  rw[Bk h,Option.bind_some]
  dsimp only
  rw[show gn N0 (0:Int)=some false from rfl,Option.bind_some,cond_false];rfl
 |c::r,a,m+1,h,ha,hm=>by
  obtain⟨h1,h2,h3⟩:=a8 h
  rw[aM];dsimp only
  rw[cT h,Option.bind_some]
  dsimp only
  rw[Im,Option.bind_some]
  cases hc:jp c with
  |false =>
   rw[cond_false,List.takeWhile_cons_of_neg (by rw[hc];decide)];rfl
  |true =>
   have w:IntKind.i64.wrap ((a:Int)+1)=((a+1:Nat):Int):=by rw[ao (by omega) (by omega)];omega
   rw[cond_true,w,za hT k most from_ M r (a+1) m h3 (by omega) (by simp at hm;omega),List.takeWhile_cons_of_pos hc,List.length_cons]
   congr 4
   omega
theorem Gm{T:ByteArray}{a b:Nat}:(sub T (a:Int) (b:Int)).data.toList=((bs T).drop a).take (b-a):=by
 unfold sub
 rw[Int.toNat_natCast,Int.toNat_natCast,ByteArray.data_extract,Array.toList_extract,List.extract_eq_take_drop]
theorem CD (l:List UInt8):l.take (l.takeWhile jp).length=l.takeWhile jp:=(List.prefix_iff_eq_take.1 (List.takeWhile_prefix jp)).symm
def Ap (most:Nat) (L:List UInt8):Int:=match Lib.atoiAll L with
 | .ok v=>if L.length≤most∧Lib.itoa v=L then v else -1
 |_=>-1
def xW (L:List UInt8):Int:=Ap 9 L
theorem B5{T:ByteArray}(hT:T.size≤100000){most:Nat}(hm:most≤100){a:Nat}(ha:a≤T.size) (k:Int) (M:ByteArray):ch N0 (T,(a:Int),k,M,(most:Int))=some (T,((a+(((bs T).drop a).takeWhile jp).length:Nat):Int),k,M,Ap most (((bs T).drop a).takeWhile jp)):=by
 have hl:((bs T).drop a).length≤100000:=by rw[List.length_drop,lb];omega
 have hw:(((bs T).drop a).takeWhile jp).length≤((bs T).drop a).length:=(List.takeWhile_prefix jp).length_le
 unfold ch
 dsimp only
 rw[za hT k most (a:Int) M _ a N0 rfl ha (by have:=n0;omega),Option.bind_some]
 dsimp only
 have hr:AG (a:Int) ((a+(((bs T).drop a).takeWhile jp).length:Nat):Int) T.size=true:=by
  unfold AG
  rw[decide_eq_true_iff]
  rw[List.length_drop,lb]at hw
  omega
 rw[hr,cond_true]
 have hs:(sub T (a:Int) ((a+(((bs T).drop a).takeWhile jp).length:Nat):Int)).data.toList=((bs T).drop a).takeWhile jp:=by
  rw[Gm,Nat.add_sub_cancel_left,CD]
 generalize sub T (a:Int) ((a+(((bs T).drop a).takeWhile jp).length:Nat):Int)=s at hs ⊢
 have hz:s.size=(((bs T).drop a).takeWhile jp).length:=by rw[←hs,Array.length_toList];rfl
 generalize hL:((bs T).drop a).takeWhile jp=L at hs hz hw ⊢
 unfold pI Ap
 rw[if_pos (by omega),hs]
 cases he:Lib.atoiAll L with
 |ok v =>
  dsimp only
  rw[Option.bind_some]
  dsimp only
  rw[Bool.not_false,Bool.not_true,cond_false]
  by_cases h9:L.length≤most
  ·obtain⟨b1,b2⟩:=Lib.atoiAll_bounds he
   rw[decide_eq_false (by omega:¬(s.size:Int)>(most:Int)),cond_false]
   unfold pH
   rw[if_pos ⟨b1,b2⟩,Option.bind_some]
   have hq:fi (⟨(Lib.itoa v).toArray⟩:ByteArray) s=decide (Lib.itoa v=L):=by
    unfold fi
    rw[decide_eq_decide]
    constructor
    ·intro h
     rw[←hs, ←h]
    ·intro h
     apply ByteArray.ext
     apply Array.ext'
     rw[hs, ←h]
   rw[hq]
   by_cases h2:Lib.itoa v=L
   ·rw[decide_eq_true h2,if_pos ⟨h9,h2⟩];rfl
   ·rw[decide_eq_false h2,if_neg (fun q=>h2 q.2)];rfl
  ·rw[decide_eq_true (by omega:(s.size:Int)>(most:Int)),cond_true,if_neg (fun q=>h9 q.1)]
 |_=>rfl
theorem JQ{T:ByteArray}(hT:T.size≤100000){a:Nat}(ha:a≤T.size) (k:Int) (M:ByteArray):ch N0 (T,(a:Int),k,M,(9:Int))=some (T,((a+(((bs T).drop a).takeWhile jp).length:Nat):Int),k,M,xW (((bs T).drop a).takeWhile jp)):=B5 hT (most:=9) (by decide) ha k M
theorem It (L:List UInt8):(∃u:Nat,u<200∧L=rk u∧xW L=(u:Int))∨((∀u:Nat,u<200→L≠rk u)∧(decide (xW L≥0)&&decide (xW L≤199))=false):=by
 by_cases h:∃u:Nat,u<200∧L=rk u
 ·obtain⟨u,h1,rfl⟩:=h
  refine .inl ⟨u,h1,rfl,?_⟩
  unfold xW Ap
  rw[show Lib.atoiAll (rk u) = .ok (u:Int)from qI ⟨u,by omega⟩]
  dsimp only
  rw[if_pos ⟨by have:=Af u;omega,Ik (by omega)⟩]
 ·refine .inr ⟨fun u h1 h2=>h ⟨u,h1,h2⟩,?_⟩
  rw[Bool.and_eq_false_iff,decide_eq_false_iff_not,decide_eq_false_iff_not]
  refine Classical.byContradiction fun q=>?_
  have q1:xW L≥0:=Classical.byContradiction fun w=>q (.inl w)
  have q2:xW L≤199:=Classical.byContradiction fun w=>q (.inr w)
  unfold xW Ap at q1 q2
  cases he:Lib.atoiAll L with
  |ok v =>
   rw[he]at q1 q2
   dsimp only at q1 q2
   by_cases h2:L.length≤9∧Lib.itoa v=L
   ·rw[if_pos h2]at q1 q2
    obtain⟨u,rfl⟩:=Int.eq_ofNat_of_zero_le q1
    exact h ⟨u,by omega,by rw[←h2.2,Ik (by omega)]⟩
   ·rw[if_neg h2]at q1
    omega
  |_=>rw[he]at q1;exact absurd (show(-1:Int)≥0 from q1) (by decide)
def xK:Int→List UInt8→Int
 |x,[]=>x
 |x,c::r=>xK (10*x+(c.toNat:Int)-48) r
theorem oC{c:UInt8}:jp c=true↔48≤c.toNat∧c.toNat≤57:=by
 unfold jp
 rw[Bool.and_eq_true,decide_eq_true_iff,decide_eq_true_iff]
theorem yv{T:ByteArray}(hT:T.size≤100000) (f:Nat):∀(l:List UInt8) (a m:Nat) (x:Int),(bs T).drop a=l→a≤T.size→f≤a→a-f≤4→l.length<m→0≤x→x<10 ^ (a-f)→bU N0 m (T,(a:Int),(f:Int),x)=some (T,((a+((l.takeWhile jp).take (4-(a-f))).length:Nat):Int),(f:Int),xK x ((l.takeWhile jp).take (4-(a-f))))
 |l,a,0,x,h,_,_,_,hm,_,_=>by omega
 |[],a,m+1,x,h,ha,hf,hk,hm,hx,hx2=>by
  have h1:=nI h
  rw[bU];dsimp only
  rw[decide_eq_false (by omega:¬(a:Int)<(T.size:Int)),cond_false,List.takeWhile_nil,List.take_nil];rfl
 |c::r,a,m+1,x,h,ha,hf,hk,hm,hx,hx2=>by
  obtain⟨h1,h2,h3⟩:=a8 h
  rw[bU];dsimp only
  rw[decide_eq_true (by omega:(a:Int)<(T.size:Int)),cond_true,aH h1,h2]
  simp only[cond_true]
  have stop:jp c=false→((c::r).takeWhile jp)=[]:=fun q=>List.takeWhile_cons_of_neg (by rw[q];decide)
  by_cases g1:48≤c.toNat
  ·by_cases g2:c.toNat≤57
   ·have gc:jp c=true:=oC.2 ⟨g1,g2⟩
    have ws:IntKind.i64.wrap ((a:Int)-(f:Int))=((a-f:Nat):Int):=by rw[ao (by omega) (by omega)];omega
    rw[decide_eq_true (by omega:(c.toNat:Int)≥48),decide_eq_true (by omega:(c.toNat:Int)≤57),cond_true,cond_true,ws,List.takeWhile_cons_of_pos gc]
    by_cases g3:a-f<4
    ·have w1:IntKind.i64.wrap ((a:Int)+1)=((a+1:Nat):Int):=by rw[ao (by omega) (by omega)];omega
     have hb:x<10000:=by
      have q:(10:Int) ^ 0=1∧(10:Int) ^ 1=10∧(10:Int) ^ 2=100∧(10:Int) ^ 3=1000:=by decide
      have q2:a-f=0∨a-f=1∨a-f=2∨a-f=3:=by omega
      rcases q2 with e|e|e|e<;>rw[e]at hx2<;>omega
     have w2:IntKind.i64.wrap (10*x)=10*x:=ao (by omega) (by omega)
     have w3:IntKind.i64.wrap (c.toNat:Int)=(c.toNat:Int):=ao (by omega) (by omega)
     have w4:IntKind.i64.wrap (10*x+(c.toNat:Int))=10*x+(c.toNat:Int):=ao (by omega) (by omega)
     have w5:IntKind.i64.wrap (10*x+(c.toNat:Int)-48)=10*x+(c.toNat:Int)-48:=ao (by omega) (by omega)
     have e4:4-(a-f)=(4-(a+1-f))+1:=by omega
     have hp:(10:Int) ^ (a+1-f)=10*10 ^ (a-f):=by
      rw[show a+1-f=(a-f)+1 by omega,Int.pow_succ,Int.mul_comm]
     rw[decide_eq_true (by omega:((a-f:Nat):Int)<4),cond_true,w1,w2,w3,w4,w5,yv hT f r (a+1) m (10*x+(c.toNat:Int)-48) h3 (by omega) (by omega) (by omega) (by simp at hm;omega) (by omega) (by rw[hp];omega),e4,List.take_succ_cons,List.length_cons]
     congr 3
     omega
    ·rw[decide_eq_false (by omega:¬((a-f:Nat):Int)<4),cond_false,show 4-(a-f)=0 by omega]
     rfl
   ·rw[decide_eq_true (by omega:(c.toNat:Int)≥48),decide_eq_false (by omega:¬(c.toNat:Int)≤57),stop (by rw[←Bool.not_eq_true,oC];omega),List.take_nil];rfl
  ·rw[decide_eq_false (by omega:¬(c.toNat:Int)≥48),stop (by rw[←Bool.not_eq_true,oC];omega),List.take_nil];rfl
theorem iz{c:UInt8}(h:jp c=true):∃k:Nat,k<10∧c.toNat=48+k∧c=dg k:=by
 obtain⟨h1,h2⟩:=oC.1 h
 refine⟨c.toNat-48,by omega,by omega,?_⟩
 unfold dg
 rw[show 48+(c.toNat-48)=c.toNat by omega,UInt8.ofNat_toNat]
theorem Ef{u v:Nat}(hu:u<1000) (hv:v<1000) (h:rk u=rk v):u=v:=by
 have h1:=qI ⟨u,hu⟩
 have h2:=qI ⟨v,hv⟩
 dsimp only at h1 h2
 rw[h,h2]at h1
 injection h1 with h1
 omega
set_option maxRecDepth 100000 in
theorem Ee:∀u:Fin 200,2≤(rk u.val).length→(rk u.val).head?≠some (dg 0):=by decide +kernel
theorem KT:∀i:Fin 10,rk i.val=[dg i.val]:=by decide +kernel
theorem OR:∀i j:Fin 10,i.val≠0→rk (10*i.val+j.val)=[dg i.val,dg j.val]:=by decide +kernel
set_option maxRecDepth 100000 in
theorem KS:∀i j k:Fin 10,i.val≠0→rk (10*(10*i.val+j.val)+k.val)=[dg i.val,dg j.val,dg k.val]:=by decide +kernel
theorem Il (u:Nat):rk u≠[]:=by
 unfold rk
 split
 ·simp
 ·split<;>simp
theorem D6{T:ByteArray}(hT:T.size≤100000){a:Nat}(ha:a≤T.size):(∃u:Nat,u<200∧((bs T).drop a).takeWhile jp=rk u∧ji N0 (T,(a:Int))=some ((u:Int),((a+(rk u).length:Nat):Int),true)) ∨
  ((∀u:Nat,u<200→((bs T).drop a).takeWhile jp≠rk u)∧ji N0 (T,(a:Int))=some ((0:Int),(0:Int),false)):=by
 have hl:((bs T).drop a).length≤100000:=by rw[List.length_drop,lb];omega
 have h:=yv hT a _ a N0 0 rfl ha (Nat.le_refl _) (by omega) (by have:=n0;omega) (by omega) (by rw[Nat.sub_self];decide)
 rw[Nat.sub_self,Nat.sub_zero]at h
 unfold ji
 dsimp only
 rw[h,Option.bind_some]
 dsimp only
 have hall:∀c∈((bs T).drop a).takeWhile jp,jp c=true:=fun c hc=>by
  have:=List.all_eq_true.1 (List.all_takeWhile (p:=jp) (l:=(bs T).drop a)) c hc
  exact this
 have hhead:∀c r,((bs T).drop a).takeWhile jp=c::r→∃r',(bs T).drop a=c::r':=fun c r q=>by
  cases hd:(bs T).drop a with
  |nil=>rw[hd]at q;cases q
  |cons c' r' =>
   rw[hd]at q
   cases hc:jp c' with
   |false=>rw[List.takeWhile_cons_of_neg (by rw[hc];decide)]at q;cases q
   |true =>
    rw[List.takeWhile_cons_of_pos hc]at q
    injection q with q1 q2
    exact⟨r',by rw[q1]⟩
 have hlen:(((bs T).drop a).takeWhile jp).length≤T.size-a:=by
  have:=(List.takeWhile_prefix (l:=(bs T).drop a) jp).length_le
  rw[List.length_drop,lb]at this
  exact this
 generalize hD:((bs T).drop a).takeWhile jp=D at h hall hhead hlen ⊢
 match D,hall,hhead,hlen with
 |[],_,_,_ =>
  refine .inr ⟨fun u _ q=>Il u q.symm,?_⟩
  rw[show((a+(([]:List UInt8).take 4).length:Nat):Int)=(a:Int)from rfl,beq_self_eq_true,cond_true]
 |[c],hall,hhead,hlen =>
  obtain⟨i,i1,i2,rfl⟩:=iz (hall c (by simp))
  obtain⟨r',hr⟩:=hhead _ _ rfl
  obtain⟨b1,b2,_⟩:=a8 hr
  refine .inl ⟨i,by omega,(KT ⟨i,i1⟩).symm,?_⟩
  have e1:(([dg i]:List UInt8).take 4).length=1:=rfl
  have e2:xK 0 (([dg i]:List UInt8).take 4)=(i:Int):=by show 10*0+((dg i).toNat:Int)-48=_;omega
  have e3:IntKind.i64.wrap (((a+1:Nat):Int)-(a:Int))=1:=by rw[ao (by omega) (by omega)];omega
  rw[e1,e2,e3,show(((a+1:Nat):Int)==(a:Int))=false from by rw[beq_eq_false_iff_ne];omega,cond_false,aH b1,show(rk i).length=1 from by rw[KT ⟨i,i1⟩];rfl,decide_eq_false (by omega:¬(i:Int)≥200)]
  cases(bt T (a:Int)==48)<;>rfl
 |[c,d],hall,hhead,hlen =>
  obtain⟨i,i1,i2,rfl⟩:=iz (hall c (by simp))
  obtain⟨j,j1,j2,rfl⟩:=iz (hall d (by simp))
  obtain⟨r',hr⟩:=hhead _ _ rfl
  obtain⟨b1,b2,_⟩:=a8 hr
  have e1:(([dg i,dg j]:List UInt8).take 4).length=2:=rfl
  have e2:xK 0 (([dg i,dg j]:List UInt8).take 4)=((10*i+j:Nat):Int):=by show 10*(10*0+((dg i).toNat:Int)-48)+((dg j).toNat:Int)-48=_;omega
  have e3:IntKind.i64.wrap (((a+2:Nat):Int)-(a:Int))=2:=by rw[ao (by omega) (by omega)];omega
  rw[e1,e2,e3,show(((a+2:Nat):Int)==(a:Int))=false from by rw[beq_eq_false_iff_ne];omega,cond_false,aH b1,decide_eq_false (by omega:¬((10*i+j:Nat):Int)≥200)]
  by_cases h0:i=0
  ·subst h0
   refine .inr ⟨fun u hu q=>Ee ⟨u,hu⟩ (by rw[←q];simp) (by rw[←q];rfl),?_⟩
   rw[show(bt T (a:Int)==48)=true from by rw[beq_iff_eq,b2];omega];rfl
  ·have e:=OR ⟨i,i1⟩ ⟨j,j1⟩ h0
   dsimp only at e
   refine .inl ⟨10*i+j,by omega,e.symm,?_⟩
   rw[show(bt T (a:Int)==48)=false from by rw[beq_eq_false_iff_ne,b2];omega,e];rfl
 |[c,d,e],hall,hhead,hlen =>
  obtain⟨i,i1,i2,rfl⟩:=iz (hall c (by simp))
  obtain⟨j,j1,j2,rfl⟩:=iz (hall d (by simp))
  obtain⟨k,k1,k2,rfl⟩:=iz (hall e (by simp))
  obtain⟨r',hr⟩:=hhead _ _ rfl
  obtain⟨b1,b2,_⟩:=a8 hr
  have e1:(([dg i,dg j,dg k]:List UInt8).take 4).length=3:=rfl
  have e2:xK 0 (([dg i,dg j,dg k]:List UInt8).take 4)=((10*(10*i+j)+k:Nat):Int):=by show 10*(10*(10*0+((dg i).toNat:Int)-48)+((dg j).toNat:Int)-48)+((dg k).toNat:Int)-48=_;omega
  have e3:IntKind.i64.wrap (((a+3:Nat):Int)-(a:Int))=3:=by rw[ao (by omega) (by omega)];omega
  rw[e1,e2,e3,show(((a+3:Nat):Int)==(a:Int))=false from by rw[beq_eq_false_iff_ne];omega,cond_false,aH b1]
  by_cases h0:i=0
  ·subst h0
   refine .inr ⟨fun u hu q=>Ee ⟨u,hu⟩ (by rw[←q];simp) (by rw[←q];rfl),?_⟩
   rw[show(bt T (a:Int)==48)=true from by rw[beq_iff_eq,b2];omega];rfl
  ·have e:=KS ⟨i,i1⟩ ⟨j,j1⟩ ⟨k,k1⟩ h0
   dsimp only at e
   by_cases h2:10*(10*i+j)+k<200
   ·refine .inl ⟨10*(10*i+j)+k,h2,e.symm,?_⟩
    rw[show(bt T (a:Int)==48)=false from by rw[beq_eq_false_iff_ne,b2];omega,e,decide_eq_false (by omega:¬((10*(10*i+j)+k:Nat):Int)≥200)];rfl
   ·refine .inr ⟨fun u hu q=>?_,?_⟩
    ·rw[←e]at q
     have:=Ef (by omega) (by omega) q
     omega
    ·rw[show(bt T (a:Int)==48)=false from by rw[beq_eq_false_iff_ne,b2];omega,decide_eq_true (by omega:((10*(10*i+j)+k:Nat):Int)≥200)];rfl
 |c::d::e::f::r,hall,hhead,hlen =>
  refine .inr ⟨fun u hu q=>?_,?_⟩
  ·have:=Af u
   rw[←q]at this
   simp at this
  ·have e1:((c::d::e::f::r).take 4).length=4:=rfl
   simp only[List.length_cons]at hlen
   have e3:IntKind.i64.wrap (((a+4:Nat):Int)-(a:Int))=4:=by rw[ao (by omega) (by omega)];omega
   rw[e1,e3,show(((a+4:Nat):Int)==(a:Int))=false from by rw[beq_eq_false_iff_ne];omega];rfl
theorem Iq {α:Type}{l x:List α}{i:Nat}(h:i<l.length) (d:α):(l++x).getD i d=l.getD i d:=by
 rw[List.getD_eq_getElem?_getD,List.getD_eq_getElem?_getD,List.getElem?_append_left h]
theorem Br{S:ByteArray}(hS:S.size≤200) (b:Int):∀(l:List UInt8) (a m:Nat),(bs S).drop a=l→a≤S.size→l.length<m→bI N0 m (b,S,(a:Int))=some (bif l.any (fun c=>(c.toNat:Int)==b)then Sum.inl true else Sum.inr ())
 |l,a,0,h,_,hm=>by omega
 |[],a,m+1,h,ha,hm=>by
  have h1:=nI h
  rw[bI];dsimp only
  rw[decide_eq_false (by omega:¬(a:Int)<(S.size:Int)),cond_false];rfl
 |c::r,a,m+1,h,ha,hm=>by
  obtain⟨h1,h2,h3⟩:=a8 h
  rw[bI];dsimp only
  have w:IntKind.i64.wrap ((a:Int)+1)=((a+1:Nat):Int):=by rw[ao (by omega) (by omega)];omega
  rw[decide_eq_true (by omega:(a:Int)<(S.size:Int)),cond_true,aH h1,cond_true,h2,w,Br hS b r (a+1) m h3 (by omega) (by simp at hm;omega),List.any_cons]
  cases((c.toNat:Int)==b)<;>rfl
theorem l7{S:ByteArray}(hS:S.size≤200) (b:Int):aw N0 (b,S)=some ((bs S).any (fun c=>(c.toNat:Int)==b)):=by
 have h:=Br hS b (bs S) 0 N0 rfl (Nat.zero_le _) (by rw[lb];have:=n0;omega)
 unfold aw
 dsimp only
 rw[show((0:Nat):Int)=(0:Int)from rfl]at h
 rw[h,Option.bind_some]
 cases(bs S).any (fun c=>(c.toNat:Int)==b)<;>rfl
def rh (u:Nat):List UInt8:=if u<1000 then rk u else [dg (u / 1000),dg (u / 100 % 10),dg (u / 10 % 10),dg (u % 10)]
theorem KR{u:Nat}(h:u<10000):Lib.itoa (u:Int)=rh u:=by
 unfold rh
 by_cases h1:u<1000
 ·rw[if_pos h1,Ik h1]
 ·rw[if_neg h1]
  unfold Lib.itoa
  rw[if_neg (by omega),Int.toNat_natCast,Lib.decDigits,dif_neg (by omega),Er (by omega)]
  unfold rk dg
  rw[if_neg (by omega),if_neg (by omega),show u / 10 / 100=u / 1000 by omega,show u / 10 / 10=u / 100 by omega];rfl
theorem SE:∀{k:Nat},k<10→(dg k).toNat=48+k:=by
 have h:∀k:Fin 10,(dg k.val).toNat=48+k.val:=by decide +kernel
 exact fun{k} hk=>h ⟨k,hk⟩
theorem DT{k acc:Nat}(h:k<10) (ha:acc<1000000000) (r:List UInt8):Lib.parseUint10 acc (dg k::r)=Lib.parseUint10 (acc*10+k) r:=by
 rw[Lib.parseUint10,SE h,if_pos (by omega),if_neg (by omega),if_neg (by omega)]
 congr 1
 omega
theorem uP{u:Nat}(hu:u<10000):Lib.atoiAll (rh u) = .ok (u:Int):=by
 unfold rh
 by_cases h:u<1000
 ·rw[if_pos h];exact qI ⟨u,h⟩
 ·rw[if_neg h]
  have hd:=SE (k:=u / 1000) (by omega)
  unfold Lib.atoiAll
  dsimp only
  rw[hd,if_neg (by omega)]
  unfold Lib.parseMag
  rw[if_neg (by simp),DT (by omega) (by omega),DT (by omega) (by omega),DT (by omega) (by omega),DT (by omega) (by omega)]
  have e:(((0*10+u / 1000)*10+u / 100 % 10)*10+u / 10 % 10)*10+u % 10=u:=by omega
  rw[e]
  unfold Lib.parseUint10
  dsimp only
  rw[if_neg (by omega),if_neg (by omega),if_neg (by omega)]
theorem Ed (u:Nat):(rh u).length≤4:=by
 unfold rh
 split
 ·have:=Af u;omega
 ·simp
theorem L3 (u:Nat):rh u≠[]:=by
 unfold rh
 split
 ·exact Il u
 ·simp
theorem JK{u v:Nat}(hu:u<10000) (hv:v<10000) (h:rh u=rh v):u=v:=by
 have h1:=uP hu
 have h2:=uP hv
 rw[h,h2]at h1
 injection h1 with h1
 omega
theorem Dk{k:Nat}(h0:0<k) (h:k<10):dg k≠dg 0:=fun q=>by
 have:=congrArg UInt8.toNat q
 rw[SE h,SE (by decide)]at this
 omega
theorem Ae{u:Nat}(hu:u<10000) (h2:2≤(rh u).length):(rh u).head?≠some (dg 0):=by
 unfold rh at h2 ⊢
 by_cases h:u<1000
 ·rw[if_pos h]at h2 ⊢
  unfold rk at h2 ⊢
  by_cases h1:u<10
  ·rw[if_pos h1]at h2;simp at h2
  ·rw[if_neg h1]at h2 ⊢
   by_cases h3:u<100
   ·rw[if_pos h3]
    exact fun q=>Dk (by omega) (by omega) (Option.some.inj q)
   ·rw[if_neg h3]
    exact fun q=>Dk (by omega) (by omega) (Option.some.inj q)
 ·rw[if_neg h]
  exact fun q=>Dk (by omega) (by omega) (Option.some.inj q)
theorem OQ:∀i:Fin 10,rh i.val=[dg i.val]:=by decide +kernel
theorem OP:∀i j:Fin 10,i.val≠0→rh (10*i.val+j.val)=[dg i.val,dg j.val]:=by decide +kernel
theorem OO (i j k:Fin 10) (h:i.val≠0):rh (10*(10*i.val+j.val)+k.val)=[dg i.val,dg j.val,dg k.val]:=by
 unfold rh
 rw[if_pos (by omega)]
 exact KS i j k h
theorem ON (i j k l:Fin 10) (h:i.val≠0):rh (10*(10*(10*i.val+j.val)+k.val)+l.val)=[dg i.val,dg j.val,dg k.val,dg l.val]:=by
 unfold rh
 rw[if_neg (by omega),show(10*(10*(10*i.val+j.val)+k.val)+l.val) / 1000=i.val by omega,show(10*(10*(10*i.val+j.val)+k.val)+l.val) / 100 % 10=j.val by omega,show(10*(10*(10*i.val+j.val)+k.val)+l.val) / 10 % 10=k.val by omega,show(10*(10*(10*i.val+j.val)+k.val)+l.val) % 10=l.val by omega]
theorem Iu{L:List UInt8}(hall:∀c∈L,jp c=true):(∃u:Nat,u<10000∧L=rh u∧Ap 4 L=(u:Int))∨((∀u:Nat,u<10000→L≠rh u)∧Ap 4 L=-1):=by
 by_cases h:∃u:Nat,u<10000∧L=rh u
 ·obtain⟨u,h1,rfl⟩:=h
  refine .inl ⟨u,h1,rfl,?_⟩
  unfold Ap
  rw[show Lib.atoiAll (rh u) = .ok (u:Int)from uP (by omega)]
  dsimp only
  rw[if_pos ⟨Ed u,KR (by omega)⟩]
 ·refine .inr ⟨fun u h1 h2=>h ⟨u,h1,h2⟩,?_⟩
  unfold Ap
  cases he:Lib.atoiAll L with
  |ok v =>
   dsimp only
   rw[if_neg]
   rintro ⟨q1,q2⟩
   by_cases hv:0≤v
   ·obtain⟨u,rfl⟩:=Int.eq_ofNat_of_zero_le hv
    have hd:Lib.itoa (u:Int)=Lib.decDigits u:=Lib.itoa_nonneg u
    have hn:Lib.nDigits u≤4:=by rw[←Lib.decDigits_length, ←hd,q2];exact q1
    have hu:u<10000:=by
     have h3:=Lib.lt_pow_nDigits u
     have h4:10 ^ Lib.nDigits u≤10 ^ 4:=Nat.pow_le_pow_right (by decide) hn
     omega
    exact h ⟨u,hu,by rw[←q2,KR hu]⟩
   ·obtain⟨u,hu⟩:=Int.eq_ofNat_of_zero_le (show 0≤-v by omega)
    have hv2:v=-(u:Int):=by omega
    rw[hv2,Lib.itoa_neg u (by omega)]at q2
    have:=hall 45 (by rw[←q2];exact List.mem_cons_self ..)
    exact absurd this (by decide)
  |_=>rfl
theorem Bu{T:ByteArray}(hT:T.size≤100000) (f:Nat):∀(l:List UInt8) (a m:Nat) (x:Int),(bs T).drop a=l→a≤T.size→f≤a→a-f≤5→l.length<m→0≤x→x<10 ^ (a-f)→bV N0 m (T,(a:Int),(f:Int),x)=some (T,((a+((l.takeWhile jp).take (5-(a-f))).length:Nat):Int),(f:Int),xK x ((l.takeWhile jp).take (5-(a-f))))
 |l,a,0,x,h,_,_,_,hm,_,_=>by omega
 |[],a,m+1,x,h,ha,hf,hk,hm,hx,hx2=>by
  have h1:=nI h
  rw[bV];dsimp only
  rw[decide_eq_false (by omega:¬(a:Int)<(T.size:Int)),cond_false,List.takeWhile_nil,List.take_nil];rfl
 |c::r,a,m+1,x,h,ha,hf,hk,hm,hx,hx2=>by
  obtain⟨h1,h2,h3⟩:=a8 h
  rw[bV];dsimp only
  rw[decide_eq_true (by omega:(a:Int)<(T.size:Int)),cond_true,aH h1,h2]
  simp only[cond_true]
  have stop:jp c=false→((c::r).takeWhile jp)=[]:=fun q=>List.takeWhile_cons_of_neg (by rw[q];decide)
  by_cases g1:48≤c.toNat
  ·by_cases g2:c.toNat≤57
   ·have gc:jp c=true:=oC.2 ⟨g1,g2⟩
    have ws:IntKind.i64.wrap ((a:Int)-(f:Int))=((a-f:Nat):Int):=by rw[ao (by omega) (by omega)];omega
    rw[decide_eq_true (by omega:(c.toNat:Int)≥48),decide_eq_true (by omega:(c.toNat:Int)≤57),cond_true,cond_true,ws,List.takeWhile_cons_of_pos gc]
    by_cases g3:a-f<5
    ·have w1:IntKind.i64.wrap ((a:Int)+1)=((a+1:Nat):Int):=by rw[ao (by omega) (by omega)];omega
     have hb:x<100000:=by
      have q:(10:Int) ^ 0=1∧(10:Int) ^ 1=10∧(10:Int) ^ 2=100∧(10:Int) ^ 3=1000∧(10:Int) ^ 4=10000:=by decide
      have q2:a-f=0∨a-f=1∨a-f=2∨a-f=3∨a-f=4:=by omega
      rcases q2 with e|e|e|e|e<;>rw[e]at hx2<;>omega
     have w2:IntKind.i64.wrap (10*x)=10*x:=ao (by omega) (by omega)
     have w3:IntKind.i64.wrap (c.toNat:Int)=(c.toNat:Int):=ao (by omega) (by omega)
     have w4:IntKind.i64.wrap (10*x+(c.toNat:Int))=10*x+(c.toNat:Int):=ao (by omega) (by omega)
     have w5:IntKind.i64.wrap (10*x+(c.toNat:Int)-48)=10*x+(c.toNat:Int)-48:=ao (by omega) (by omega)
     have e4:5-(a-f)=(5-(a+1-f))+1:=by omega
     have hp:(10:Int) ^ (a+1-f)=10*10 ^ (a-f):=by
      rw[show a+1-f=(a-f)+1 by omega,Int.pow_succ,Int.mul_comm]
     rw[decide_eq_true (by omega:((a-f:Nat):Int)<5),cond_true,w1,w2,w3,w4,w5,Bu hT f r (a+1) m (10*x+(c.toNat:Int)-48) h3 (by omega) (by omega) (by omega) (by simp at hm;omega) (by omega) (by rw[hp];omega),e4,List.take_succ_cons,List.length_cons]
     congr 3
     omega
    ·rw[decide_eq_false (by omega:¬((a-f:Nat):Int)<5),cond_false,show 5-(a-f)=0 by omega]
     rfl
   ·rw[decide_eq_true (by omega:(c.toNat:Int)≥48),decide_eq_false (by omega:¬(c.toNat:Int)≤57),stop (by rw[←Bool.not_eq_true,oC];omega),List.take_nil];rfl
  ·rw[decide_eq_false (by omega:¬(c.toNat:Int)≥48),stop (by rw[←Bool.not_eq_true,oC];omega),List.take_nil];rfl
theorem G5{T:ByteArray}(hT:T.size≤100000){a:Nat}(ha:a≤T.size):(∃u:Nat,u<10000∧((bs T).drop a).takeWhile jp=rh u∧jk N0 (T,(a:Int))=some ((u:Int),((a+(rh u).length:Nat):Int),true)) ∨
  ((∀u:Nat,u<10000→((bs T).drop a).takeWhile jp≠rh u)∧jk N0 (T,(a:Int))=some ((0:Int),(0:Int),false)):=by
 have hl:((bs T).drop a).length≤100000:=by rw[List.length_drop,lb];omega
 have h:=Bu hT a _ a N0 0 rfl ha (Nat.le_refl _) (by omega) (by have:=n0;omega) (by omega) (by rw[Nat.sub_self];decide)
 rw[Nat.sub_self,Nat.sub_zero]at h
 unfold jk
 dsimp only
 rw[h,Option.bind_some]
 dsimp only
 have hall:∀c∈((bs T).drop a).takeWhile jp,jp c=true:=fun c hc=>by
  have:=List.all_eq_true.1 (List.all_takeWhile (p:=jp) (l:=(bs T).drop a)) c hc
  exact this
 have hhead:∀c r,((bs T).drop a).takeWhile jp=c::r→∃r',(bs T).drop a=c::r':=fun c r q=>by
  cases hd:(bs T).drop a with
  |nil=>rw[hd]at q;cases q
  |cons c' r' =>
   rw[hd]at q
   cases hc:jp c' with
   |false=>rw[List.takeWhile_cons_of_neg (by rw[hc];decide)]at q;cases q
   |true =>
    rw[List.takeWhile_cons_of_pos hc]at q
    injection q with q1 q2
    exact⟨r',by rw[q1]⟩
 have hlen:(((bs T).drop a).takeWhile jp).length≤T.size-a:=by
  have:=(List.takeWhile_prefix (l:=(bs T).drop a) jp).length_le
  rw[List.length_drop,lb]at this
  exact this
 generalize hD:((bs T).drop a).takeWhile jp=D at h hall hhead hlen ⊢
 match D,hall,hhead,hlen with
 |[],_,_,_ =>
  refine .inr ⟨fun u _ q=>L3 u q.symm,?_⟩
  rw[show((a+(([]:List UInt8).take 5).length:Nat):Int)=(a:Int)from rfl,beq_self_eq_true,cond_true]
 |[c],hall,hhead,hlen =>
  obtain⟨i,i1,i2,rfl⟩:=iz (hall c (by simp))
  obtain⟨r',hr⟩:=hhead _ _ rfl
  obtain⟨b1,b2,_⟩:=a8 hr
  have e1:(([dg i]:List UInt8).take 5).length=1:=rfl
  have e2:xK 0 (([dg i]:List UInt8).take 5)=((i:Nat):Int):=by show 10*0+((dg i).toNat:Int)-48=_;omega
  have e3:IntKind.i64.wrap (((a+1:Nat):Int)-(a:Int))=1:=by rw[ao (by omega) (by omega)];omega
  rw[e1,e2,e3,show(((a+1:Nat):Int)==(a:Int))=false from by rw[beq_eq_false_iff_ne];omega,cond_false,aH b1]
  have e:rh i=[dg i]:=OQ ⟨i,i1⟩
  refine .inl ⟨i,by omega,e.symm,?_⟩
  rw[e]
  cases(bt T (a:Int)==48)<;>rfl
 |[c,d],hall,hhead,hlen =>
  obtain⟨i,i1,i2,rfl⟩:=iz (hall c (by simp))
  obtain⟨j,j1,j2,rfl⟩:=iz (hall d (by simp))
  obtain⟨r',hr⟩:=hhead _ _ rfl
  obtain⟨b1,b2,_⟩:=a8 hr
  have e1:(([dg i,dg j]:List UInt8).take 5).length=2:=rfl
  have e2:xK 0 (([dg i,dg j]:List UInt8).take 5)=((10*i+j:Nat):Int):=by show 10*(10*0+((dg i).toNat:Int)-48)+((dg j).toNat:Int)-48=_;omega
  have e3:IntKind.i64.wrap (((a+2:Nat):Int)-(a:Int))=2:=by rw[ao (by omega) (by omega)];omega
  rw[e1,e2,e3,show(((a+2:Nat):Int)==(a:Int))=false from by rw[beq_eq_false_iff_ne];omega,cond_false,aH b1]
  by_cases h0:i=0
  ·subst h0
   refine .inr ⟨fun u hu q=>Ae hu (by rw[←q];simp) (by rw[←q];rfl),?_⟩
   rw[show(bt T (a:Int)==48)=true from by rw[beq_iff_eq,b2];omega];rfl
  ·have e:rh (10*i+j)=[dg i,dg j]:=OP ⟨i,i1⟩ ⟨j,j1⟩ h0
   refine .inl ⟨10*i+j,by omega,e.symm,?_⟩
   rw[show(bt T (a:Int)==48)=false from by rw[beq_eq_false_iff_ne,b2];omega,e];rfl
 |[c,d,e],hall,hhead,hlen =>
  obtain⟨i,i1,i2,rfl⟩:=iz (hall c (by simp))
  obtain⟨j,j1,j2,rfl⟩:=iz (hall d (by simp))
  obtain⟨k,k1,k2,rfl⟩:=iz (hall e (by simp))
  obtain⟨r',hr⟩:=hhead _ _ rfl
  obtain⟨b1,b2,_⟩:=a8 hr
  have e1:(([dg i,dg j,dg k]:List UInt8).take 5).length=3:=rfl
  have e2:xK 0 (([dg i,dg j,dg k]:List UInt8).take 5)=((10*(10*i+j)+k:Nat):Int):=by show 10*(10*(10*0+((dg i).toNat:Int)-48)+((dg j).toNat:Int)-48)+((dg k).toNat:Int)-48=_;omega
  have e3:IntKind.i64.wrap (((a+3:Nat):Int)-(a:Int))=3:=by rw[ao (by omega) (by omega)];omega
  rw[e1,e2,e3,show(((a+3:Nat):Int)==(a:Int))=false from by rw[beq_eq_false_iff_ne];omega,cond_false,aH b1]
  by_cases h0:i=0
  ·subst h0
   refine .inr ⟨fun u hu q=>Ae hu (by rw[←q];simp) (by rw[←q];rfl),?_⟩
   rw[show(bt T (a:Int)==48)=true from by rw[beq_iff_eq,b2];omega];rfl
  ·have e:rh (10*(10*i+j)+k)=[dg i,dg j,dg k]:=OO ⟨i,i1⟩ ⟨j,j1⟩ ⟨k,k1⟩ h0
   refine .inl ⟨10*(10*i+j)+k,by omega,e.symm,?_⟩
   rw[show(bt T (a:Int)==48)=false from by rw[beq_eq_false_iff_ne,b2];omega,e];rfl
 |[c,d,e,f],hall,hhead,hlen =>
  obtain⟨i,i1,i2,rfl⟩:=iz (hall c (by simp))
  obtain⟨j,j1,j2,rfl⟩:=iz (hall d (by simp))
  obtain⟨k,k1,k2,rfl⟩:=iz (hall e (by simp))
  obtain⟨l,l1,l2,rfl⟩:=iz (hall f (by simp))
  obtain⟨r',hr⟩:=hhead _ _ rfl
  obtain⟨b1,b2,_⟩:=a8 hr
  have e1:(([dg i,dg j,dg k,dg l]:List UInt8).take 5).length=4:=rfl
  have e2:xK 0 (([dg i,dg j,dg k,dg l]:List UInt8).take 5)=((10*(10*(10*i+j)+k)+l:Nat):Int):=by show 10*(10*(10*(10*0+((dg i).toNat:Int)-48)+((dg j).toNat:Int)-48)+((dg k).toNat:Int)-48)+((dg l).toNat:Int)-48=_;omega
  have e3:IntKind.i64.wrap (((a+4:Nat):Int)-(a:Int))=4:=by rw[ao (by omega) (by omega)];omega
  rw[e1,e2,e3,show(((a+4:Nat):Int)==(a:Int))=false from by rw[beq_eq_false_iff_ne];omega,cond_false,aH b1]
  by_cases h0:i=0
  ·subst h0
   refine .inr ⟨fun u hu q=>Ae hu (by rw[←q];simp) (by rw[←q];rfl),?_⟩
   rw[show(bt T (a:Int)==48)=true from by rw[beq_iff_eq,b2];omega];rfl
  ·have e:rh (10*(10*(10*i+j)+k)+l)=[dg i,dg j,dg k,dg l]:=ON ⟨i,i1⟩ ⟨j,j1⟩ ⟨k,k1⟩ ⟨l,l1⟩ h0
   refine .inl ⟨10*(10*(10*i+j)+k)+l,by omega,e.symm,?_⟩
   rw[show(bt T (a:Int)==48)=false from by rw[beq_eq_false_iff_ne,b2];omega,e];rfl
 |c::d::e::f::g::r,hall,hhead,hlen =>
  refine .inr ⟨fun u hu q=>?_,?_⟩
  ·have:=Ed u
   rw[←q]at this
   simp at this
  ·have e1:((c::d::e::f::g::r).take 5).length=5:=rfl
   simp only[List.length_cons]at hlen
   have e3:IntKind.i64.wrap (((a+5:Nat):Int)-(a:Int))=5:=by rw[ao (by omega) (by omega)];omega
   rw[e1,e3,show(((a+5:Nat):Int)==(a:Int))=false from by rw[beq_eq_false_iff_ne];omega];rfl
def RS:ByteArray:=⟨#[64,60,62,33,111,120]⟩
abbrev WY:=ByteArray×Int×Int×ByteArray×Bool×Bool×List Int×List af×Int
abbrev Uz:=List af×Int×Int×Int
def pg (kn:List Int) (xs:List af):Prop:=kn.length≤4294967296∧∀u,u<kn.length→bQ xs (kn.getD u 0)=true
inductive p9 (kn:List Int) (xs:List af):Int→Prop
 |know{t:Int}(u:Nat) (h:u<kn.length) (e:kn.getD u 0=t):p9 kn xs t
 |pub{t:Int}(h:bQ xs t=true) (k:(xs.getD t.toNat cn).1=1) (a:0≤(xs.getD t.toNat cn).2.1) (b:(xs.getD t.toNat cn).2.1≤49):p9 kn xs t
 |one{t:Int}(h:bQ xs t=true) (k:(xs.getD t.toNat cn).1=5∨(xs.getD t.toNat cn).1=7) (a:p9 kn xs (xs.getD t.toNat cn).2.1):p9 kn xs t
 |two{t:Int}(h:bQ xs t=true) (k:(xs.getD t.toNat cn).1=2∨(xs.getD t.toNat cn).1=3∨(xs.getD t.toNat cn).1=4∨(xs.getD t.toNat cn).1=6∨(xs.getD t.toNat cn).1=8) (a:p9 kn xs (xs.getD t.toNat cn).2.1) (b:p9 kn xs (xs.getD t.toNat cn).2.2):p9 kn xs t
 |share{t x p:Int}(h:bQ xs t=true) (hp:bQ xs p=true) (k:(xs.getD t.toNat cn).1=8) (kp:(xs.getD p.toNat cn).1=7) (e:((xs.getD t.toNat cn).2.1=x∧(xs.getD t.toNat cn).2.2=(xs.getD p.toNat cn).2.1)∨((xs.getD t.toNat cn).2.2=x∧(xs.getD t.toNat cn).2.1=(xs.getD p.toNat cn).2.1)) (a:p9 kn xs x) (b:p9 kn xs p):p9 kn xs t
 |left{p:Int}(h:bQ xs p=true) (k:(xs.getD p.toNat cn).1=2) (a:p9 kn xs p):p9 kn xs (xs.getD p.toNat cn).2.1
 |right{p:Int}(h:bQ xs p=true) (k:(xs.getD p.toNat cn).1=2) (a:p9 kn xs p):p9 kn xs (xs.getD p.toNat cn).2.2
 |sign{p:Int}(h:bQ xs p=true) (k:(xs.getD p.toNat cn).1=4) (a:p9 kn xs p):p9 kn xs (xs.getD p.toNat cn).2.1
 |open_{p:Int}(h:bQ xs p=true) (k:(xs.getD p.toNat cn).1=3) (a:p9 kn xs p) (b:p9 kn xs (xs.getD p.toNat cn).2.2):p9 kn xs (xs.getD p.toNat cn).2.1
theorem aV{xs:List af}{v:Int}:bQ xs v=true↔0≤v∧v<(xs.length:Int):=by
 unfold bQ
 rw[Bool.and_eq_true,decide_eq_true_iff,decide_eq_true_iff]
 omega
theorem fD{xs zs:List af}{v:Int}(h:bQ xs v=true):bQ (xs++zs) v=true:=by
 rw[aV]at h ⊢
 rw[List.length_append]
 omega
theorem ku{xs zs:List af}{v:Int}(h:bQ xs v=true):(xs++zs).getD v.toNat cn=xs.getD v.toNat cn:=by
 rw[aV]at h
 exact Iq (by omega) cn
theorem p9.mono{kn:List Int}{xs:List af}(zs:List af){t:Int}(h:p9 kn xs t):p9 kn (xs++zs) t:=by
 induction h with
 |know u h e=>exact .know u h e
 |pub h k a b=>rw[←ku (zs:=zs) h]at k a b;exact .pub (fD h) k a b
 |one h k a ih=>rw[←ku (zs:=zs) h]at k ih;exact .one (fD h) k ih
 |two h k a b ia ib=>rw[←ku (zs:=zs) h]at k ia ib;exact .two (fD h) k ia ib
 |share h hp k kp e a b ia ib=>rw[←ku (zs:=zs) h]at k e;rw[←ku (zs:=zs) hp]at kp e;exact .share (fD h) (fD hp) k kp e ia ib
 |left h k a ih=>rw[←ku (zs:=zs) h]at k ⊢;exact .left (fD h) k ih
 |right h k a ih=>rw[←ku (zs:=zs) h]at k ⊢;exact .right (fD h) k ih
 |sign h k a ih=>rw[←ku (zs:=zs) h]at k ⊢;exact .sign (fD h) k ih
 |open_ h k a b ia ib=>rw[←ku (zs:=zs) h]at k ib ⊢;exact .open_ (fD h) k ia ib
theorem pg.mono{kn:List Int}{xs:List af}(zs:List af) (h:pg kn xs):pg kn (xs++zs):=⟨h.1,fun u hu=>fD (h.2 u hu)⟩
theorem bE{xs ys:List af}{kd a b t:Int}(hp:ay xs=true) (h:d6 xs kd a b=some (ys,t)):ay ys=true∧0≤t∧t<(ys.length:Int)∧(∃zs,ys=xs++zs)∧ys.getD t.toNat cn=mU kd a b:=zi hp h
theorem vj{k a b:Int}{i:Nat}(hi:i≤4294967296) (h:fJ N0 (k,a,b,(i:Int))=true):(k=1∧0≤a∧a≤199)∨((k=5∨k=7)∧0≤a∧a<(i:Int))∨((k=2∨k=3∨k=4∨k=6∨k=8)∧0≤a∧a<(i:Int)∧0≤b∧b<(i:Int)):=by
 have w:IntKind.i64.wrap ((i:Int)-(1:Int))=(i:Int)-1:=ao (by omega) (by omega)
 have hr:∀v lo hi:Int,aU N0 (v,lo,hi)=some (decide (v≥lo)&&decide (v≤hi)):=fun v lo hi=>by
  unfold aU
  cases q:decide (v≥lo)<;>(simp[q])
 have hk:fJ N0 (k,a,b,(i:Int))=(bM N0 (k,a,b,(i:Int))).getD false:=rfl
 rw[hk]at h
 unfold bM at h
 dsimp only at h
 rw[w,hr,hr,hr]at h
 by_cases h1:k=1
 ·subst h1
  rw[show ee N0 1=some 0 from rfl]at h
  left
  cases q:(decide (a≥0)&&decide (a≤199))with
  |false=>simp only[Option.bind_some,beq_self_eq_true,cond_true,q]at h;cases h
  |true =>
   rw[Bool.and_eq_true,decide_eq_true_iff,decide_eq_true_iff]at q
   exact⟨rfl,q.1,q.2⟩
 by_cases h5:k=5∨k=7
 ·right;left
  have hc:ee N0 k=some 1:=by rcases h5 with rfl|rfl<;>rfl
  rw[hc]at h
  cases q:(decide (a≥0)&&decide (a≤(i:Int)-1))with
  |false=>simp only[Option.bind_some,show((1:Int)==0)=false from rfl,beq_self_eq_true,cond_true,cond_false,q]at h;cases h
  |true =>
   rw[Bool.and_eq_true,decide_eq_true_iff,decide_eq_true_iff]at q
   exact⟨h5,q.1,by omega⟩
 by_cases h2:k=2∨k=3∨k=4∨k=6∨k=8
 ·right;right
  have hc:ee N0 k=some 2:=by rcases h2 with rfl|rfl|rfl|rfl|rfl<;>rfl
  rw[hc]at h
  cases q:(decide (a≥0)&&decide (a≤(i:Int)-1))with
  |false=>simp only[Option.bind_some,show((2:Int)==0)=false from rfl,show((2:Int)==1)=false from rfl,beq_self_eq_true,cond_true,cond_false,q]at h;cases h
  |true =>
   cases q2:(decide (b≥0)&&decide (b≤(i:Int)-1))with
   |false=>simp only[Option.bind_some,show((2:Int)==0)=false from rfl,show((2:Int)==1)=false from rfl,beq_self_eq_true,cond_true,cond_false,q,q2]at h;cases h
   |true =>
    rw[Bool.and_eq_true,decide_eq_true_iff,decide_eq_true_iff]at q q2
    exact⟨h2,q.1,by omega,q2.1,by omega⟩
 exfalso
 have hc:∃c,ee N0 k=some c∧c≠0∧c≠1∧c≠2:=by
  unfold ee
  simp only[show(k==1)=false from by rw[beq_eq_false_iff_ne];exact h1,show(k==2)=false from by rw[beq_eq_false_iff_ne];omega,show(k==3)=false from by rw[beq_eq_false_iff_ne];omega,show(k==4)=false from by rw[beq_eq_false_iff_ne];omega,show(k==5)=false from by rw[beq_eq_false_iff_ne];omega,show(k==6)=false from by rw[beq_eq_false_iff_ne];omega,show(k==7)=false from by rw[beq_eq_false_iff_ne];omega,show(k==8)=false from by rw[beq_eq_false_iff_ne];omega,cond_false]
  exact⟨_,rfl,by decide,by decide,by decide⟩
 obtain⟨c,hc,c0,c1,c2⟩:=hc
 rw[hc]at h
 simp only[Option.bind_some,show(c==0)=false from by rw[beq_eq_false_iff_ne];exact c0,show(c==1)=false from by rw[beq_eq_false_iff_ne];exact c1,show(c==2)=false from by rw[beq_eq_false_iff_ne];exact c2,cond_false]at h
 cases h
theorem nv{m:List af}{p:Int}(hp:ay m=true) (h:bQ m p=true) (hk:(m.getD p.toNat cn).1=2∨(m.getD p.toNat cn).1=3∨(m.getD p.toNat cn).1=4∨(m.getD p.toNat cn).1=6∨(m.getD p.toNat cn).1=8):bQ m (m.getD p.toNat cn).2.1=true∧bQ m (m.getD p.toNat cn).2.2=true:=by
 have h2:=aV.1 h
 have hl:=ax hp
 have:=vj (by omega) (wq hp (j:=p.toNat) (by omega))
 rw[aV,aV]
 rcases this with⟨q,_⟩|⟨q,_⟩|⟨_,q1,q2,q3,q4⟩
 ·rw[q]at hk;omega
 ·rcases q with q|q<;>(rw[q]at hk;omega)
 ·omega
theorem Df{kn:List Int}{ys:List af}{p q t:Int}(ht:bQ ys t=true) (g:ys.getD t.toNat cn=mU 8 p q) (dp:p9 kn ys p) (dq:p9 kn ys q):p9 kn ys t:=by
 have hn:mU 8 p q=(8,(mn p q,mx p q)):=rfl
 rw[hn]at g
 refine .two ht (by rw[g];exact .inr (.inr (.inr (.inr rfl)))) ?_ ?_
 ·rw[g]
  show p9 kn ys (mn p q)
  unfold mn
  split<;>assumption
 ·rw[g]
  show p9 kn ys (mx p q)
  unfold mx
  split<;>assumption
theorem FN{kn:List Int}{m ys z:List af}{p q t:Int}(hm:ay m=true) (ht:bQ ys t=true) (g:ys.getD t.toNat cn=mU 8 p (m.getD q.toNat cn).2.1) (e:ys=m++z) (hk:(m.getD q.toNat cn).1=7) (hq:bQ m q=true) (dp:p9 kn m p) (dq:p9 kn m q):p9 kn ys t:=by
 subst e
 have eq:=ku (zs:=z) hq
 have hn:mU 8 p (m.getD q.toNat cn).2.1=(8,(mn p (m.getD q.toNat cn).2.1,mx p (m.getD q.toNat cn).2.1)):=rfl
 rw[hn]at g
 refine .share (x:=p) (p:=q) ht (fD hq) (by rw[g]) (by rw[eq];exact hk) ?_ (dp.mono z) (dq.mono z)
 rw[g,eq]
 show(mn p _=p∧mx p _=_)∨(mx p _=p∧mn p _=_)
 unfold mn mx
 split
 ·split
  ·omega
  ·exact .inr ⟨rfl,rfl⟩
 ·split
  ·exact .inl ⟨rfl,rfl⟩
  ·left;omega
def RB (T:ByteArray) (a:Nat) (kn:List Int) (xs:List af) (ri:Option WY) (rs:Option Uz):Prop :=
 (∃(a':Nat) (ys:List af) (t:Int),ri=some (T,(a':Int),(0:Int),RS,false,false,kn,ys,t)∧rs=some (ys,t,(a':Int),(0:Int))∧a<a'∧a'≤T.size∧ay ys=true∧bQ ys t=true∧(∃zs,ys=xs++zs)∧p9 kn ys t) ∨
 (∃(a':Nat) (c:Int) (m1 m2:List af),c≠0∧a'≤T.size∧ri=some (T,(a':Int),c,RS,false,false,kn,m1,(-1:Int))∧rs=some (m2,(-1:Int),(a':Int),c))
theorem t6{T:ByteArray}{a c:Int}(hc:c≠0) (kn:List Int) (xs:List af){j:Nat}(hj:0<j):ab N0 j (T,a,c,RS,false,false,kn,xs)=some (T,a,c,RS,false,false,kn,xs,(-1:Int)):=by
 obtain⟨i,rfl⟩:∃i,j=i+1:=⟨j-1,by omega⟩
 show ae N0 (ab N0 i) (T,a,c,RS,false,false,kn,xs)=_
 unfold ae
 dsimp only
 rw[show(c != 0)=true from by rw[bne_iff_ne];exact hc,cond_true]
theorem ql{T:ByteArray}{a k:Int}(h:k≠0) (M:ByteArray) (e:Int):aJ N0 (T,a,k,M,e)=some (T,a,k,M):=by
 unfold aJ
 dsimp only
 rw[show(k != 0)=true from by rw[bne_iff_ne];exact h];rfl
theorem sL{T:ByteArray}{a c:Int}(hc:c≠0) (kn:List Int) (xs:List af){j:Nat}(hj:0<j){e:Int}:aP N0 (ab N0 j) (T,a,c,RS,false,false,e,kn,xs)=some (T,a,c,RS,false,false,kn,xs,[(-1:Int),(-1:Int)]):=by
 unfold aP
 dsimp only
 simp only[t6 hc kn xs hj,ql hc,Option.bind_some]
theorem lQ{T:ByteArray}(hT:T.size≤100000){a:Nat}(ha:a≤T.size) (M:ByteArray) (e:Int):(aJ N0 (T,(a:Int),(0:Int),M,e)=some (T,((a+1:Nat):Int),(0:Int),M)∧aG N0 (T,(a:Int),e)=some (((a+1:Nat):Int),(0:Int))∧a+1≤T.size∧bt T (a:Int)=e) ∨
  (∃(b:Nat) (c:Int),c≠0∧b≤T.size∧aJ N0 (T,(a:Int),(0:Int),M,e)=some (T,(b:Int),c,M)∧aG N0 (T,(a:Int),e)=some ((b:Int),c)):=by
 have z0:((0:Int) != 0)=false:=rfl
 unfold aJ aG
 dsimp only
 cases hd:(bs T).drop a with
 |nil =>
  have h1:=nI hd
  have hz:decide ((a:Int)≥(T.size:Int))=true:=decide_eq_true (by omega)
  right
  refine⟨T.size,2,by decide,Nat.le_refl _,?_,?_⟩
  ·simp only[z0,hz,cond_true,cond_false,aa,beq_self_eq_true,Option.bind_some]
  ·rw[hz,cond_true]
 |cons c r =>
  obtain⟨h1,h2,h3⟩:=a8 hd
  have hz:decide ((a:Int)≥(T.size:Int))=false:=decide_eq_false (by omega)
  have hin:=aH h1
  have w1:IntKind.i64.wrap ((a:Int)+1)=((a+1:Nat):Int):=by rw[ao (by omega) (by omega)];omega
  by_cases he:bt T (a:Int)=e
  ·left
   have hb:(bt T (a:Int) != e)=false:=by rw[he];exact bne_self_eq_false' e
   refine⟨?_,?_,by omega,he⟩
   ·simp only[z0,hz,hin,hb,w1,cond_true,cond_false]
   ·simp only[hz,hin,hb,w1,cond_true,cond_false]
  ·right
   have hb:(bt T (a:Int) != e)=true:=by rw[bne_iff_ne];exact he
   refine⟨a,3,by decide,ha,?_,?_⟩
   ·simp only[z0,hz,hin,hb,cond_true,cond_false,aa,beq_self_eq_true,Option.bind_some]
   ·simp only[hz,hin,hb,cond_true,cond_false]
theorem j5{T:ByteArray}(hT:T.size≤100000){kn:List Int}{j1 j2:Nat}(hj:0<j1){n:Nat}(ih:∀(a:Nat) (xs:List af),T.size-a≤n→a≤T.size→ay xs=true→pg kn xs→RB T a kn xs (ab N0 j1 (T,(a:Int),(0:Int),RS,false,false,kn,xs)) (ag N0 j2 (xs,kn,T,(a:Int))))
  (e:Int){a:Nat}{xs:List af}(hn:T.size-a≤n) (ha:a≤T.size) (hp:ay xs=true) (hk:pg kn xs) :
  (∃(a':Nat) (ys:List af) (p q:Int),aP N0 (ab N0 j1) (T,(a:Int),(0:Int),RS,false,false,e,kn,xs)=some (T,(a':Int),(0:Int),RS,false,false,kn,ys,[p,q])∧cF N0 (ag N0 j2) (xs,kn,T,(a:Int),false,e)=some (ys,p,q,(a':Int),(0:Int)) ∧
   a<a'∧a'≤T.size∧ay ys=true∧bQ ys p=true∧bQ ys q=true∧(∃zs,ys=xs++zs)∧p9 kn ys p∧p9 kn ys q) ∨
  (∃(a':Nat) (c:Int) (m1:List af) (ps:List Int) (m2:List af) (x y:Int),c≠0∧a'≤T.size∧aP N0 (ab N0 j1) (T,(a:Int),(0:Int),RS,false,false,e,kn,xs)=some (T,(a':Int),c,RS,false,false,kn,m1,ps)∧cF N0 (ag N0 j2) (xs,kn,T,(a:Int),false,e)=some (m2,x,y,(a':Int),c)):=by
 unfold aP cF
 dsimp only
 simp only[cond_false,show((0:Int)==0)=true from rfl,cond_true]
 rcases ih a xs hn ha hp hk with⟨b,ys,p,r1,r2,r3,r4,r5,r6,⟨z,rfl⟩,r8⟩|⟨b,c,m1,m2,r0,r1,r2,r3⟩
 ·rw[r1,r2]
  simp only[Option.bind_some,show((0:Int)==0)=true from rfl,cond_true]
  rcases lQ hT r4 RS 44 with⟨t1,t2,t3,_⟩|⟨b2,c2,t0,t1,t2,t3⟩
  ·rw[t1,t2]
   simp only[Option.bind_some,show((0:Int)==0)=true from rfl,cond_true]
   rcases ih (b+1) (xs++z) (by omega) t3 r5 (hk.mono z)with⟨b',ys',q,s1,s2,s3,s4,s5,s6,⟨z',rfl⟩,s8⟩|⟨b',c,m1,m2,s0,s1,s2,s3⟩
   ·rw[s1,s2]
    simp only[Option.bind_some,show((0:Int)==0)=true from rfl,cond_true]
    rcases lQ hT s4 RS e with⟨u1,u2,u3,_⟩|⟨b2,c2,u0,u1,u2,u3⟩
    ·rw[u1,u2]
     exact .inl ⟨b'+1,_,p,q,rfl,rfl,by omega,u3,s5,fD r6,s6,⟨z++z',by rw[List.append_assoc]⟩,r8.mono z',s8⟩
    ·rw[u2,u3]
     exact .inr ⟨b2,c2,_,_,_,_,_,u0,u1,rfl,rfl⟩
   ·rw[s2,s3]
    simp only[Option.bind_some,ql s0,show(c==0)=false from by rw[beq_eq_false_iff_ne];exact s0,cond_false]
    exact .inr ⟨b',c,_,_,_,_,_,s0,s1,rfl,rfl⟩
  ·rw[t2,t3]
   simp only[Option.bind_some,t6 t0 kn (xs++z) hj,ql t0,show(c2==0)=false from by rw[beq_eq_false_iff_ne];exact t0,cond_false]
   exact .inr ⟨b2,c2,_,_,_,_,_,t0,t1,rfl,rfl⟩
 ·rw[r2,r3]
  simp only[Option.bind_some,ql r0,t6 r0 kn m1 hj,show(c==0)=false from by rw[beq_eq_false_iff_ne];exact r0,cond_false]
  exact .inr ⟨b,c,_,_,_,_,_,r0,r1,rfl,rfl⟩
theorem qh{T:ByteArray}{a b e:Int}{kn:List Int}{xs:List af}{rec_:List af×List Int×ByteArray×Int→Option Uz}(h:aG N0 (T,a,40)=some (b,0)):cF N0 rec_ (xs,kn,T,a,true,e)=cF N0 rec_ (xs,kn,T,b,false,e):=by
 unfold cF
 dsimp only
 rw[h]
 rfl
theorem qe{T:ByteArray}{a b e c:Int}{kn:List Int}{xs:List af}{rec_:List af×List Int×ByteArray×Int→Option Uz}(h:aG N0 (T,a,40)=some (b,c)) (hc:c≠0):cF N0 rec_ (xs,kn,T,a,true,e)=some (xs, -1, -1,b,c):=by
 unfold cF
 dsimp only
 rw[h,cond_true,Option.bind_some]
 dsimp only
 rw[show(c==0)=false from by rw[beq_eq_false_iff_ne];exact hc]
 rfl
theorem Jp (x:Int):iO N0 x=some (decide (x≥0)&&decide (x≤49)):=by
 unfold iO aU
 cases decide (x≥0)<;>cases decide (x≤49)<;>rfl
theorem Jo (x:Int):iH N0 x=some (decide (x≥0)&&decide (x≤49)):=by
 unfold iH dX
 cases decide (x≥0)<;>cases decide (x≤49)<;>rfl
theorem j6 (b:Int):aw N0 (b,RS)=some ((64==b) || ((60==b) || ((62==b) || ((33==b) || ((111==b) || (120==b)))))):=by
 rw[l7 (by decide)]
 show some ([64,60,62,33,111,120].any _)=_
 simp[List.any_cons,Bool.or_false]
theorem C3{T:ByteArray}(hT:T.size≤100000){a:Nat}(ha:a≤T.size) (M:ByteArray) (from_:Int):(∃u:Nat,u<200∧((bs T).drop a).takeWhile jp=rk u∧de N0 (T,(a:Int),(0:Int),M,from_)=some (T,((a+(rk u).length:Nat):Int),(0:Int),M,(u:Int))) ∨
  ((∀u:Nat,u<200→((bs T).drop a).takeWhile jp≠rk u)∧de N0 (T,(a:Int),(0:Int),M,from_)=some (T,from_,(4:Int),M,(-1:Int))):=by
 have h:=JQ hT ha (0:Int) M
 unfold de
 dsimp only
 rw[h,Option.bind_some]
 dsimp only
 rw[jg,Option.bind_some]
 rcases It (((bs T).drop a).takeWhile jp)with⟨u,h1,h2,h3⟩|⟨h1,h2⟩
 ·refine .inl ⟨u,h1,h2,?_⟩
  have:(decide (xW (((bs T).drop a).takeWhile jp)≥0)&&decide (xW (((bs T).drop a).takeWhile jp)≤199))=true:=by
   rw[h3,Bool.and_eq_true,decide_eq_true_iff,decide_eq_true_iff]
   omega
  rw[this,h3,h2];rfl
 ·refine .inr ⟨h1,?_⟩
  rw[h2];rfl
theorem DM{p:UInt8→Bool}:∀{l:List UInt8}{c:UInt8},c∈l.takeWhile p→p c=true
 |[],c,h=>by cases h
 |d::l,c,h=>by
  rw[List.takeWhile_cons]at h
  cases q:p d with
  |false=>rw[q]at h;cases h
  |true =>
   rw[q]at h
   rcases List.mem_cons.1 h with e|e
   ·rw[e];exact q
   ·exact DM e
theorem rQ (b:Int):aw N0 (b,(⟨#[64,36,63]⟩:ByteArray))=some ((64==b) || ((36==b) || (63==b))):=by
 rw[l7 (by decide)]
 show some ((64==b) || ((36==b) || ((63==b) || false)))=_
 rw[Bool.or_false]
theorem rP (b:Int):aw N0 (b,(⟨#[40,123,91]⟩:ByteArray))=some ((40==b) || ((123==b) || (91==b))):=by
 rw[l7 (by decide)]
 show some ((40==b) || ((123==b) || ((91==b) || false)))=_
 rw[Bool.or_false]
theorem rO (b:Int):aw N0 (b,(⟨#[35,94]⟩:ByteArray))=some ((35==b) || (94==b)):=by
 rw[l7 (by decide)]
 show some ((35==b) || ((94==b) || false))=_
 rw[Bool.or_false]
theorem rN (b:Int):aw N0 (b,(⟨#[60,62,33]⟩:ByteArray))=some ((60==b) || ((62==b) || (33==b))):=by
 rw[l7 (by decide)]
 show some ((60==b) || ((62==b) || ((33==b) || false)))=_
 rw[Bool.or_false]
theorem rM (b:Int):aw N0 (b,(⟨#[107,42]⟩:ByteArray))=some ((107==b) || (42==b)):=by
 rw[l7 (by decide)]
 show some ((107==b) || ((42==b) || false))=_
 rw[Bool.or_false]
theorem rL (b:Int):aw N0 (b,(⟨#[111,120]⟩:ByteArray))=some ((111==b) || (120==b)):=by
 rw[l7 (by decide)]
 show some ((111==b) || ((120==b) || false))=_
 rw[Bool.or_false]
theorem yd{T:ByteArray}{a:Nat}(h:(bs T).drop a=[]) (kn:List Int) (xs:List af){j1 j2:Nat}(h1:0<j1) (h2:0<j2):RB T a kn xs (ab N0 j1 (T,(a:Int),(0:Int),RS,false,false,kn,xs)) (ag N0 j2 (xs,kn,T,(a:Int))):=by
 obtain⟨i1,rfl⟩:∃i,j1=i+1:=⟨j1-1,by omega⟩
 obtain⟨i2,rfl⟩:∃i,j2=i+1:=⟨j2-1,by omega⟩
 have hs:=nI h
 have hd:decide ((a:Int)≥(T.size:Int))=true:=decide_eq_true (by omega)
 refine .inr ⟨T.size,2,xs,xs,by decide,Nat.le_refl _,?_,?_⟩
 ·show ae N0 (ab N0 i1) _=_
  unfold ae
  dsimp only
  rw[show((0:Int) != 0)=false from rfl,cond_false,Bk h,Option.bind_some]
  dsimp only
  rw[hd,cond_true];rfl
 ·show aj N0 (ag N0 i2) _=_
  unfold aj
  dsimp only
  rw[hd,cond_true]
section
variable{T:ByteArray}{a:Nat}{c:UInt8}{r:List UInt8}{kn:List Int}{xs:List af}{i1 i2 n:Nat}
theorem Gx (hT:T.size≤100000) (hd:(bs T).drop a=c::r) (hp:ay xs=true) (hk:pg kn xs) (hv:(c.toNat:Int)=64):RB T a kn xs (ab N0 (i1+1) (T,(a:Int),(0:Int),RS,false,false,kn,xs)) (ag N0 (i2+1) (xs,kn,T,(a:Int))):=by
 obtain⟨h1,h2,h3⟩:=a8 hd
 have z0:((0:Int) != 0)=false:=rfl
 have hz:decide ((a:Int)≥(T.size:Int))=false:=decide_eq_false (by omega)
 have hin:=aH h1
 have w1:IntKind.i64.wrap ((a:Int)+1)=((a+1:Nat):Int):=by rw[ao (by omega) (by omega)];omega
 rw[hv]at h2
 have pk:=cT hd 0 RS
 rw[hv]at pk
 have hl:=ax hp
 show RB T a kn xs (ae N0 (ab N0 i1) (T,(a:Int),(0:Int),RS,false,false,kn,xs)) (aj N0 (ag N0 i2) (xs,kn,T,(a:Int)))
 unfold ae aj
 simp only[z0,hz,pk,h2,hin,w1,rQ,rP,rO,rN,rM,rL,j6,Option.bind_some,Int.reduceBEq,Int.reduceBNe,Bool.or_true,Bool.or_false,Bool.true_or,Bool.false_or,Bool.or_self,cond_true,cond_false,d5,gI]
 have hfg:=B5 hT (most:=4) (by decide) (a:=a+1) h1 (0:Int) RS
 have e4:((4:Nat):Int)=(4:Int):=rfl
 rw[e4]at hfg
 have hall:∀c∈((bs T).drop (a+1)).takeWhile jp,jp c=true:=fun c hc=>DM hc
 rw[hfg]
 simp only[Option.bind_some,jg]
 have hkl:=hk.1
 have wk:IntKind.i64.wrap ((kn.length:Int)-1)=(kn.length:Int)-1:=ao (by omega) (by omega)
 rw[wk]
 rcases Iu hall with⟨u,u1,u2,u3⟩|⟨u1,u3⟩
 ·rcases G5 hT (a:=a+1) h1 with⟨u',v1,v2,v3⟩|⟨v1,v3⟩
  ·obtain rfl:u=u':=JK (by omega) (by omega) (u2.symm.trans v2)
   have hlen:a+1+(rh u).length≤T.size:=by
    have:=(List.takeWhile_prefix (l:=(bs T).drop (a+1)) jp).length_le
    rw[u2,List.length_drop,lb]at this
    omega
   by_cases hku:u<kn.length
   ·have hA:(decide ((u:Int)≥0)&&decide ((u:Int)≤(kn.length:Int)-1))=true:=by
     rw[Bool.and_eq_true,decide_eq_true_iff,decide_eq_true_iff];omega
    simp only[u3]
    simp only[v3,hA,u2,aH hku,(show decide ((u:Int)≥(kn.length:Int))=false from decide_eq_false (by omega)),ju,Int.toNat_natCast,Option.bind_some,Bool.not_true,cond_true,cond_false]
    refine .inl ⟨a+1+(rh u).length,xs,kn.getD u 0,rfl,rfl,by omega,hlen,hp,hk.2 u hku,⟨[],by simp⟩, .know u hku rfl⟩
   ·have hA:(decide ((u:Int)≥0)&&decide ((u:Int)≤(kn.length:Int)-1))=false:=by
     rw[Bool.and_eq_false_iff,decide_eq_false_iff_not,decide_eq_false_iff_not];omega
    simp only[u3,v3,hA,aa,(show decide ((u:Int)≥(kn.length:Int))=true from decide_eq_true (by omega)),Option.bind_some,Bool.not_false,Bool.not_true,beq_self_eq_true,cond_true,cond_false]
    exact .inr ⟨a,4,_,_,by decide,by omega,rfl,rfl⟩
  ·exact absurd u2 (v1 u u1)
 ·rcases G5 hT (a:=a+1) h1 with⟨u',v1,v2,v3⟩|⟨v1,v3⟩
  ·exact absurd v2 (u1 u' v1)
  ·have hA:(decide ((-1:Int)≥0)&&decide ((-1:Int)≤(kn.length:Int)-1))=false:=rfl
   simp only[u3,v3,hA,aa,Option.bind_some,Bool.not_false,beq_self_eq_true,cond_true,cond_false]
   exact .inr ⟨a,4,_,_,by decide,by omega,rfl,rfl⟩
theorem E5 (hT:T.size≤100000) (hd:(bs T).drop a=c::r) (hp:ay xs=true) (hk:pg kn xs) (hv:(c.toNat:Int)=110):RB T a kn xs (ab N0 (i1+1) (T,(a:Int),(0:Int),RS,false,false,kn,xs)) (ag N0 (i2+1) (xs,kn,T,(a:Int))):=by
 obtain⟨h1,h2,h3⟩:=a8 hd
 have z0:((0:Int) != 0)=false:=rfl
 have hz:decide ((a:Int)≥(T.size:Int))=false:=decide_eq_false (by omega)
 have hin:=aH h1
 have w1:IntKind.i64.wrap ((a:Int)+1)=((a+1:Nat):Int):=by rw[ao (by omega) (by omega)];omega
 rw[hv]at h2
 have pk:=cT hd 0 RS
 rw[hv]at pk
 have hl:=ax hp
 show RB T a kn xs (ae N0 (ab N0 i1) (T,(a:Int),(0:Int),RS,false,false,kn,xs)) (aj N0 (ag N0 i2) (xs,kn,T,(a:Int)))
 unfold ae aj
 simp only[z0,hz,pk,h2,hin,w1,rQ,rP,rO,rN,rM,rL,j6,Option.bind_some,Int.reduceBEq,Int.reduceBNe,Bool.or_true,Bool.or_false,Bool.true_or,Bool.false_or,Bool.or_self,cond_true,cond_false,d5,fV]
 rcases C3 hT (a:=a+1) h1 RS (a:Int)with⟨u,u1,u2,u3⟩|⟨u1,u3⟩
 ·rcases D6 hT (a:=a+1) h1 with⟨u',v1,v2,v3⟩|⟨v1,v3⟩
  ·obtain rfl:u=u':=Ef (by omega) (by omega) (u2.symm.trans v2)
   have hlen:a+1+(rk u).length≤T.size:=by
    have:=(List.takeWhile_prefix (l:=(bs T).drop (a+1)) jp).length_le
    rw[u2,List.length_drop,lb]at this
    omega
   simp only[u3,v3,z0,Jp,Jo,Option.bind_some,Bool.not_true,cond_false]
   cases hpu:(decide ((u:Int)≥0)&&decide ((u:Int)≤49))with
   |false =>
    simp only[hpu,aa,Option.bind_some,Bool.not_false,beq_self_eq_true,cond_true]
    exact .inr ⟨a,4,_,_,by decide,by omega,rfl,rfl⟩
   |true =>
    simp only[hpu,pM hl,pm hp,Option.bind_some,Bool.not_true,cond_false,aL]
    cases hA:d6 xs 1 (u:Int) 0 with
    |none =>
     simp only[kI,aa,Option.bind_some,beq_self_eq_true,show decide ((-1:Int)<0)=true from rfl,cond_true]
     exact .inr ⟨a+1+(rk u).length,5,_,_,by decide,hlen,rfl,rfl⟩
    |some p =>
     obtain⟨ys,t⟩:=p
     obtain⟨g1,g2,g3,g4,g5⟩:=bE hp hA
     rw[show kI xs (some (ys,t))=(ys,t)from rfl]
     dsimp only
     simp only[(show decide (t<(0:Int))=false from decide_eq_false (by omega)),Option.bind_some,cond_false]
     rw[Bool.and_eq_true,decide_eq_true_iff,decide_eq_true_iff]at hpu
     refine .inl ⟨a+1+(rk u).length,ys,t,rfl,rfl,by omega,hlen,g1,aV.2 ⟨g2,by omega⟩,g4,?_⟩
     exact .pub (aV.2 ⟨g2,by omega⟩) (by rw[g5];rfl) (by rw[g5];exact hpu.1) (by rw[g5];exact hpu.2)
  ·exact absurd u2 (v1 u u1)
 ·rcases D6 hT (a:=a+1) h1 with⟨u',v1,v2,v3⟩|⟨v1,v3⟩
  ·exact absurd v2 (u1 u' v1)
  ·simp only[u3,v3,Option.bind_some,Bool.not_false,Int.reduceBNe,cond_true]
   exact .inr ⟨a,4,_,_,by decide,by omega,rfl,rfl⟩
theorem GB (hT:T.size≤100000) (hd:(bs T).drop a=c::r) (hp:ay xs=true) (hk:pg kn xs) (hv:(c.toNat:Int)=40) (hi:0<i1) (ih:∀(a:Nat) (xs:List af),T.size-a≤n→a≤T.size→ay xs=true→pg kn xs→RB T a kn xs (ab N0 i1 (T,(a:Int),(0:Int),RS,false,false,kn,xs)) (ag N0 i2 (xs,kn,T,(a:Int)))) (hn:T.size-(a+1)≤n):RB T a kn xs (ab N0 (i1+1) (T,(a:Int),(0:Int),RS,false,false,kn,xs)) (ag N0 (i2+1) (xs,kn,T,(a:Int))):=by
 obtain⟨h1,h2,h3⟩:=a8 hd
 have z0:((0:Int) != 0)=false:=rfl
 have hz:decide ((a:Int)≥(T.size:Int))=false:=decide_eq_false (by omega)
 have hin:=aH h1
 have w1:IntKind.i64.wrap ((a:Int)+1)=((a+1:Nat):Int):=by rw[ao (by omega) (by omega)];omega
 rw[hv]at h2
 have pk:=cT hd 0 RS
 rw[hv]at pk
 have hl:=ax hp
 show RB T a kn xs (ae N0 (ab N0 i1) (T,(a:Int),(0:Int),RS,false,false,kn,xs)) (aj N0 (ag N0 i2) (xs,kn,T,(a:Int)))
 unfold ae aj
 have hkd:br N0 (T,(a:Int))=some ((2:Int),(1:Int),(41:Int)):=by
  unfold br
  simp only[hin,h2,Int.reduceBEq,cond_true,cond_false]
 have hc:fW N0 (40:Int)=some (41:Int):=rfl
 have hko:dV N0 (40:Int)=some (2:Int):=rfl
 simp only[z0,hz,pk,h2,hin,w1,rQ,rP,rO,rN,rM,rL,j6,Option.bind_some,Int.reduceBEq,Int.reduceBNe,Bool.or_true,Bool.or_false,Bool.true_or,Bool.false_or,Bool.or_self,cond_true,cond_false,hkd,hc,show decide ((2:Int)>0)=true from rfl,show decide ((41:Int)>0)=true from rfl,show((1:Int)==2)=false from rfl]
 rcases j5 hT hi ih 41 (a:=a+1) hn h1 hp hk with⟨b,m,p,q,q1,q2,q3,q4,q5,q6,q6',q7,q8,q9⟩|⟨b,c2,m1,ps,m2,x,y,q0,q1,q2,q3⟩
 ·rw[q1,q2]
  simp only[z0,aq,j6,Int.reduceBEq,Bool.or_false,Bool.or_self,cond_false,bF,aW,show decide ((([p,q]:List Int).length:Int)>(1:Int))=true from rfl,show bH (1:Int) ([p,q]:List Int).length=true from rfl,show bH (0:Int) ([p,q]:List Int).length=true from rfl,hko,ej (ax q5),c7 q5,show([p,q]:List Int).getD (1:Int).toNat 0=q from rfl,show([p,q]:List Int).getD (0:Int).toNat 0=p from rfl,Option.bind_some,cond_true,aL]
  cases hA:d6 m 2 p q with
  |none =>
   simp only[kI,aa,Option.bind_some,beq_self_eq_true,show decide ((-1:Int)<0)=true from rfl,cond_true]
   exact .inr ⟨b,5,_,_,by decide,q4,rfl,rfl⟩
  |some s =>
   obtain⟨ys,t⟩:=s
   obtain⟨g1,g2,g3,⟨z,g4⟩,g5⟩:=bE q5 hA
   rw[show kI m (some (ys,t))=(ys,t)from rfl]
   dsimp only
   simp only[(show decide (t<(0:Int))=false from decide_eq_false (by omega)),Option.bind_some,cond_false]
   obtain⟨z',q7'⟩:=q7
   refine .inl ⟨b,ys,t,rfl,rfl,by omega,q4,g1,aV.2 ⟨g2,by omega⟩,⟨z'++z,by rw[g4,q7',List.append_assoc]⟩,?_⟩
   have hne:mU 2 p q=(2,(p,q)):=rfl
   rw[hne]at g5
   exact .two (aV.2 ⟨g2,by omega⟩) (by rw[g5];simp only[Int.reduceEq,or_false,or_true,true_or,false_or]) (by rw[g5,g4];exact q8.mono _) (by rw[g5,g4];exact q9.mono _)
 ·rw[q2,q3]
  simp only[Option.bind_some,show(c2 != 0)=true from by rw[bne_iff_ne];exact q0,cond_true]
  exact .inr ⟨b,c2,_,_,q0,q1,rfl,rfl⟩
theorem E1 (hT:T.size≤100000) (hd:(bs T).drop a=c::r) (hp:ay xs=true) (hk:pg kn xs) (hv:(c.toNat:Int)=123) (hi:0<i1) (ih:∀(a:Nat) (xs:List af),T.size-a≤n→a≤T.size→ay xs=true→pg kn xs→RB T a kn xs (ab N0 i1 (T,(a:Int),(0:Int),RS,false,false,kn,xs)) (ag N0 i2 (xs,kn,T,(a:Int)))) (hn:T.size-(a+1)≤n):RB T a kn xs (ab N0 (i1+1) (T,(a:Int),(0:Int),RS,false,false,kn,xs)) (ag N0 (i2+1) (xs,kn,T,(a:Int))):=by
 obtain⟨h1,h2,h3⟩:=a8 hd
 have z0:((0:Int) != 0)=false:=rfl
 have hz:decide ((a:Int)≥(T.size:Int))=false:=decide_eq_false (by omega)
 have hin:=aH h1
 have w1:IntKind.i64.wrap ((a:Int)+1)=((a+1:Nat):Int):=by rw[ao (by omega) (by omega)];omega
 rw[hv]at h2
 have pk:=cT hd 0 RS
 rw[hv]at pk
 have hl:=ax hp
 show RB T a kn xs (ae N0 (ab N0 i1) (T,(a:Int),(0:Int),RS,false,false,kn,xs)) (aj N0 (ag N0 i2) (xs,kn,T,(a:Int)))
 unfold ae aj
 have hkd:br N0 (T,(a:Int))=some ((3:Int),(1:Int),(125:Int)):=by
  unfold br
  simp only[hin,h2,Int.reduceBEq,cond_true,cond_false]
 have hc:fW N0 (123:Int)=some (125:Int):=rfl
 have hko:dV N0 (123:Int)=some (3:Int):=rfl
 simp only[z0,hz,pk,h2,hin,w1,rQ,rP,rO,rN,rM,rL,j6,Option.bind_some,Int.reduceBEq,Int.reduceBNe,Bool.or_true,Bool.or_false,Bool.true_or,Bool.false_or,Bool.or_self,cond_true,cond_false,hkd,hc,show decide ((3:Int)>0)=true from rfl,show decide ((125:Int)>0)=true from rfl,show((1:Int)==2)=false from rfl]
 rcases j5 hT hi ih 125 (a:=a+1) hn h1 hp hk with⟨b,m,p,q,q1,q2,q3,q4,q5,q6,q6',q7,q8,q9⟩|⟨b,c2,m1,ps,m2,x,y,q0,q1,q2,q3⟩
 ·rw[q1,q2]
  simp only[z0,aq,j6,Int.reduceBEq,Bool.or_false,Bool.or_self,cond_false,bF,aW,show decide ((([p,q]:List Int).length:Int)>(1:Int))=true from rfl,show bH (1:Int) ([p,q]:List Int).length=true from rfl,show bH (0:Int) ([p,q]:List Int).length=true from rfl,hko,ej (ax q5),c7 q5,show([p,q]:List Int).getD (1:Int).toNat 0=q from rfl,show([p,q]:List Int).getD (0:Int).toNat 0=p from rfl,Option.bind_some,cond_true,aL]
  cases hA:d6 m 3 p q with
  |none =>
   simp only[kI,aa,Option.bind_some,beq_self_eq_true,show decide ((-1:Int)<0)=true from rfl,cond_true]
   exact .inr ⟨b,5,_,_,by decide,q4,rfl,rfl⟩
  |some s =>
   obtain⟨ys,t⟩:=s
   obtain⟨g1,g2,g3,⟨z,g4⟩,g5⟩:=bE q5 hA
   rw[show kI m (some (ys,t))=(ys,t)from rfl]
   dsimp only
   simp only[(show decide (t<(0:Int))=false from decide_eq_false (by omega)),Option.bind_some,cond_false]
   obtain⟨z',q7'⟩:=q7
   refine .inl ⟨b,ys,t,rfl,rfl,by omega,q4,g1,aV.2 ⟨g2,by omega⟩,⟨z'++z,by rw[g4,q7',List.append_assoc]⟩,?_⟩
   have hne:mU 3 p q=(3,(p,q)):=rfl
   rw[hne]at g5
   exact .two (aV.2 ⟨g2,by omega⟩) (by rw[g5];simp only[Int.reduceEq,or_false,or_true,true_or,false_or]) (by rw[g5,g4];exact q8.mono _) (by rw[g5,g4];exact q9.mono _)
 ·rw[q2,q3]
  simp only[Option.bind_some,show(c2 != 0)=true from by rw[bne_iff_ne];exact q0,cond_true]
  exact .inr ⟨b,c2,_,_,q0,q1,rfl,rfl⟩
theorem Gw (hT:T.size≤100000) (hd:(bs T).drop a=c::r) (hp:ay xs=true) (hk:pg kn xs) (hv:(c.toNat:Int)=91) (hi:0<i1) (ih:∀(a:Nat) (xs:List af),T.size-a≤n→a≤T.size→ay xs=true→pg kn xs→RB T a kn xs (ab N0 i1 (T,(a:Int),(0:Int),RS,false,false,kn,xs)) (ag N0 i2 (xs,kn,T,(a:Int)))) (hn:T.size-(a+1)≤n):RB T a kn xs (ab N0 (i1+1) (T,(a:Int),(0:Int),RS,false,false,kn,xs)) (ag N0 (i2+1) (xs,kn,T,(a:Int))):=by
 obtain⟨h1,h2,h3⟩:=a8 hd
 have z0:((0:Int) != 0)=false:=rfl
 have hz:decide ((a:Int)≥(T.size:Int))=false:=decide_eq_false (by omega)
 have hin:=aH h1
 have w1:IntKind.i64.wrap ((a:Int)+1)=((a+1:Nat):Int):=by rw[ao (by omega) (by omega)];omega
 rw[hv]at h2
 have pk:=cT hd 0 RS
 rw[hv]at pk
 have hl:=ax hp
 show RB T a kn xs (ae N0 (ab N0 i1) (T,(a:Int),(0:Int),RS,false,false,kn,xs)) (aj N0 (ag N0 i2) (xs,kn,T,(a:Int)))
 unfold ae aj
 have hkd:br N0 (T,(a:Int))=some ((4:Int),(1:Int),(93:Int)):=by
  unfold br
  simp only[hin,h2,Int.reduceBEq,cond_true,cond_false]
 have hc:fW N0 (91:Int)=some (93:Int):=rfl
 have hko:dV N0 (91:Int)=some (4:Int):=rfl
 simp only[z0,hz,pk,h2,hin,w1,rQ,rP,rO,rN,rM,rL,j6,Option.bind_some,Int.reduceBEq,Int.reduceBNe,Bool.or_true,Bool.or_false,Bool.true_or,Bool.false_or,Bool.or_self,cond_true,cond_false,hkd,hc,show decide ((4:Int)>0)=true from rfl,show decide ((93:Int)>0)=true from rfl,show((1:Int)==2)=false from rfl]
 rcases j5 hT hi ih 93 (a:=a+1) hn h1 hp hk with⟨b,m,p,q,q1,q2,q3,q4,q5,q6,q6',q7,q8,q9⟩|⟨b,c2,m1,ps,m2,x,y,q0,q1,q2,q3⟩
 ·rw[q1,q2]
  simp only[z0,aq,j6,Int.reduceBEq,Bool.or_false,Bool.or_self,cond_false,bF,aW,show decide ((([p,q]:List Int).length:Int)>(1:Int))=true from rfl,show bH (1:Int) ([p,q]:List Int).length=true from rfl,show bH (0:Int) ([p,q]:List Int).length=true from rfl,hko,ej (ax q5),c7 q5,show([p,q]:List Int).getD (1:Int).toNat 0=q from rfl,show([p,q]:List Int).getD (0:Int).toNat 0=p from rfl,Option.bind_some,cond_true,aL]
  cases hA:d6 m 4 p q with
  |none =>
   simp only[kI,aa,Option.bind_some,beq_self_eq_true,show decide ((-1:Int)<0)=true from rfl,cond_true]
   exact .inr ⟨b,5,_,_,by decide,q4,rfl,rfl⟩
  |some s =>
   obtain⟨ys,t⟩:=s
   obtain⟨g1,g2,g3,⟨z,g4⟩,g5⟩:=bE q5 hA
   rw[show kI m (some (ys,t))=(ys,t)from rfl]
   dsimp only
   simp only[(show decide (t<(0:Int))=false from decide_eq_false (by omega)),Option.bind_some,cond_false]
   obtain⟨z',q7'⟩:=q7
   refine .inl ⟨b,ys,t,rfl,rfl,by omega,q4,g1,aV.2 ⟨g2,by omega⟩,⟨z'++z,by rw[g4,q7',List.append_assoc]⟩,?_⟩
   have hne:mU 4 p q=(4,(p,q)):=rfl
   rw[hne]at g5
   exact .two (aV.2 ⟨g2,by omega⟩) (by rw[g5];simp only[Int.reduceEq,or_false,or_true,true_or,false_or]) (by rw[g5,g4];exact q8.mono _) (by rw[g5,g4];exact q9.mono _)
 ·rw[q2,q3]
  simp only[Option.bind_some,show(c2 != 0)=true from by rw[bne_iff_ne];exact q0,cond_true]
  exact .inr ⟨b,c2,_,_,q0,q1,rfl,rfl⟩
theorem GC (hT:T.size≤100000) (hd:(bs T).drop a=c::r) (hp:ay xs=true) (hk:pg kn xs) (hv:(c.toNat:Int)=35) (hi:0<i1) (ih:∀(a:Nat) (xs:List af),T.size-a≤n→a≤T.size→ay xs=true→pg kn xs→RB T a kn xs (ab N0 i1 (T,(a:Int),(0:Int),RS,false,false,kn,xs)) (ag N0 i2 (xs,kn,T,(a:Int)))) (hn:T.size-(a+1)≤n):RB T a kn xs (ab N0 (i1+1) (T,(a:Int),(0:Int),RS,false,false,kn,xs)) (ag N0 (i2+1) (xs,kn,T,(a:Int))):=by
 obtain⟨h1,h2,h3⟩:=a8 hd
 have z0:((0:Int) != 0)=false:=rfl
 have hz:decide ((a:Int)≥(T.size:Int))=false:=decide_eq_false (by omega)
 have hin:=aH h1
 have w1:IntKind.i64.wrap ((a:Int)+1)=((a+1:Nat):Int):=by rw[ao (by omega) (by omega)];omega
 rw[hv]at h2
 have pk:=cT hd 0 RS
 rw[hv]at pk
 have hl:=ax hp
 show RB T a kn xs (ae N0 (ab N0 i1) (T,(a:Int),(0:Int),RS,false,false,kn,xs)) (aj N0 (ag N0 i2) (xs,kn,T,(a:Int)))
 unfold ae aj
 have hkd:br N0 (T,(a:Int))=some ((5:Int),(1:Int),(0:Int)):=by
  unfold br
  simp only[hin,h2,Int.reduceBEq,cond_true,cond_false]
 have hko:dV N0 (35:Int)=some (5:Int):=rfl
 simp only[z0,hz,pk,h2,hin,w1,rQ,rP,rO,rN,rM,rL,j6,Option.bind_some,Int.reduceBEq,Int.reduceBNe,Bool.or_true,Bool.or_false,Bool.true_or,Bool.false_or,Bool.or_self,cond_true,cond_false,hkd,show decide ((5:Int)>0)=true from rfl,show decide ((0:Int)>0)=false from rfl]
 rcases ih (a+1) xs hn h1 hp hk with⟨b,m,p,q1,q2,q3,q4,q5,q6,q7,q8⟩|⟨b,c2,m1,m2,q0,q1,q2,q3⟩
 ·rw[q1,q2]
  simp only[z0,aq,j6,Int.reduceBEq,Bool.or_false,Bool.or_self,cond_false,bF,aW,show decide ((([p]:List Int).length:Int)>(1:Int))=false from rfl,show bH (0:Int) ([p]:List Int).length=true from rfl,hko,ej (ax q5),c7 q5,show([p]:List Int).getD (0:Int).toNat 0=p from rfl,Option.bind_some,cond_true,aL]
  cases hA:d6 m 5 p 0 with
  |none =>
   simp only[kI,aa,Option.bind_some,beq_self_eq_true,show decide ((-1:Int)<0)=true from rfl,cond_true]
   exact .inr ⟨b,5,_,_,by decide,q4,rfl,rfl⟩
  |some s =>
   obtain⟨ys,t⟩:=s
   obtain⟨g1,g2,g3,⟨z,g4⟩,g5⟩:=bE q5 hA
   rw[show kI m (some (ys,t))=(ys,t)from rfl]
   dsimp only
   simp only[(show decide (t<(0:Int))=false from decide_eq_false (by omega)),Option.bind_some,cond_false]
   obtain⟨z',q7'⟩:=q7
   refine .inl ⟨b,ys,t,rfl,rfl,by omega,q4,g1,aV.2 ⟨g2,by omega⟩,⟨z'++z,by rw[g4,q7',List.append_assoc]⟩,?_⟩
   have hne:mU 5 p 0=(5,(p,0)):=rfl
   rw[hne]at g5
   exact .one (aV.2 ⟨g2,by omega⟩) (by rw[g5];simp only[Int.reduceEq,or_false,or_true,true_or,false_or]) (by rw[g5,g4];exact q8.mono _)
 ·rw[q2,q3]
  simp only[Option.bind_some,show(c2 != 0)=true from by rw[bne_iff_ne];exact q0,cond_true]
  exact .inr ⟨b,c2,_,_,q0,q1,rfl,rfl⟩
theorem Gv (hT:T.size≤100000) (hd:(bs T).drop a=c::r) (hp:ay xs=true) (hk:pg kn xs) (hv:(c.toNat:Int)=94) (hi:0<i1) (ih:∀(a:Nat) (xs:List af),T.size-a≤n→a≤T.size→ay xs=true→pg kn xs→RB T a kn xs (ab N0 i1 (T,(a:Int),(0:Int),RS,false,false,kn,xs)) (ag N0 i2 (xs,kn,T,(a:Int)))) (hn:T.size-(a+1)≤n):RB T a kn xs (ab N0 (i1+1) (T,(a:Int),(0:Int),RS,false,false,kn,xs)) (ag N0 (i2+1) (xs,kn,T,(a:Int))):=by
 obtain⟨h1,h2,h3⟩:=a8 hd
 have z0:((0:Int) != 0)=false:=rfl
 have hz:decide ((a:Int)≥(T.size:Int))=false:=decide_eq_false (by omega)
 have hin:=aH h1
 have w1:IntKind.i64.wrap ((a:Int)+1)=((a+1:Nat):Int):=by rw[ao (by omega) (by omega)];omega
 rw[hv]at h2
 have pk:=cT hd 0 RS
 rw[hv]at pk
 have hl:=ax hp
 show RB T a kn xs (ae N0 (ab N0 i1) (T,(a:Int),(0:Int),RS,false,false,kn,xs)) (aj N0 (ag N0 i2) (xs,kn,T,(a:Int)))
 unfold ae aj
 have hkd:br N0 (T,(a:Int))=some ((7:Int),(1:Int),(0:Int)):=by
  unfold br
  simp only[hin,h2,Int.reduceBEq,cond_true,cond_false]
 have hko:dV N0 (94:Int)=some (7:Int):=rfl
 simp only[z0,hz,pk,h2,hin,w1,rQ,rP,rO,rN,rM,rL,j6,Option.bind_some,Int.reduceBEq,Int.reduceBNe,Bool.or_true,Bool.or_false,Bool.true_or,Bool.false_or,Bool.or_self,cond_true,cond_false,hkd,show decide ((7:Int)>0)=true from rfl,show decide ((0:Int)>0)=false from rfl]
 rcases ih (a+1) xs hn h1 hp hk with⟨b,m,p,q1,q2,q3,q4,q5,q6,q7,q8⟩|⟨b,c2,m1,m2,q0,q1,q2,q3⟩
 ·rw[q1,q2]
  simp only[z0,aq,j6,Int.reduceBEq,Bool.or_false,Bool.or_self,cond_false,bF,aW,show decide ((([p]:List Int).length:Int)>(1:Int))=false from rfl,show bH (0:Int) ([p]:List Int).length=true from rfl,hko,ej (ax q5),c7 q5,show([p]:List Int).getD (0:Int).toNat 0=p from rfl,Option.bind_some,cond_true,aL]
  cases hA:d6 m 7 p 0 with
  |none =>
   simp only[kI,aa,Option.bind_some,beq_self_eq_true,show decide ((-1:Int)<0)=true from rfl,cond_true]
   exact .inr ⟨b,5,_,_,by decide,q4,rfl,rfl⟩
  |some s =>
   obtain⟨ys,t⟩:=s
   obtain⟨g1,g2,g3,⟨z,g4⟩,g5⟩:=bE q5 hA
   rw[show kI m (some (ys,t))=(ys,t)from rfl]
   dsimp only
   simp only[(show decide (t<(0:Int))=false from decide_eq_false (by omega)),Option.bind_some,cond_false]
   obtain⟨z',q7'⟩:=q7
   refine .inl ⟨b,ys,t,rfl,rfl,by omega,q4,g1,aV.2 ⟨g2,by omega⟩,⟨z'++z,by rw[g4,q7',List.append_assoc]⟩,?_⟩
   have hne:mU 7 p 0=(7,(p,0)):=rfl
   rw[hne]at g5
   exact .one (aV.2 ⟨g2,by omega⟩) (by rw[g5];simp only[Int.reduceEq,or_false,or_true,true_or,false_or]) (by rw[g5,g4];exact q8.mono _)
 ·rw[q2,q3]
  simp only[Option.bind_some,show(c2 != 0)=true from by rw[bne_iff_ne];exact q0,cond_true]
  exact .inr ⟨b,c2,_,_,q0,q1,rfl,rfl⟩
theorem Gz (hT:T.size≤100000) (hd:(bs T).drop a=c::r) (hp:ay xs=true) (hk:pg kn xs) (hv:(c.toNat:Int)=60) (hi:0<i1) (ih:∀(a:Nat) (xs:List af),T.size-a≤n→a≤T.size→ay xs=true→pg kn xs→RB T a kn xs (ab N0 i1 (T,(a:Int),(0:Int),RS,false,false,kn,xs)) (ag N0 i2 (xs,kn,T,(a:Int)))) (hn:T.size-(a+1)≤n):RB T a kn xs (ab N0 (i1+1) (T,(a:Int),(0:Int),RS,false,false,kn,xs)) (ag N0 (i2+1) (xs,kn,T,(a:Int))):=by
 obtain⟨h1,h2,h3⟩:=a8 hd
 have z0:((0:Int) != 0)=false:=rfl
 have hz:decide ((a:Int)≥(T.size:Int))=false:=decide_eq_false (by omega)
 have hin:=aH h1
 have w1:IntKind.i64.wrap ((a:Int)+1)=((a+1:Nat):Int):=by rw[ao (by omega) (by omega)];omega
 rw[hv]at h2
 have pk:=cT hd 0 RS
 rw[hv]at pk
 have hl:=ax hp
 show RB T a kn xs (ae N0 (ab N0 i1) (T,(a:Int),(0:Int),RS,false,false,kn,xs)) (aj N0 (ag N0 i2) (xs,kn,T,(a:Int)))
 unfold ae aj
 simp only[z0,hz,pk,h2,hin,w1,rQ,rP,rO,rN,rM,rL,j6,Option.bind_some,Int.reduceBEq,Int.reduceBNe,Bool.or_true,Bool.or_false,Bool.true_or,Bool.false_or,Bool.or_self,cond_true,cond_false]
 rcases ih (a+1) xs hn h1 hp hk with⟨b,m,p,q1,q2,q3,q4,q5,q6,q7,q8⟩|⟨b,c2,m1,m2,q0,q1,q2,q3⟩
 ·rw[q1,q2]
  have hib:=fC q6
  simp only[z0,hib,aq,j6,Int.reduceBEq,Bool.or_false,Bool.false_or,Bool.true_or,Bool.or_true,Bool.or_self,cond_false,bZ,bz,dT,show bH (0:Int) ([p]:List Int).length=true from rfl,show([p]:List Int).getD (0:Int).toNat 0=p from rfl,Option.bind_some,cond_true]
  cases hq:((m.getD p.toNat cn).1==(2:Int))with
  |false =>
   simp only[hq,aa,Option.bind_some,beq_self_eq_true,show decide ((-1:Int)<0)=true from rfl,cond_true,cond_false]
   exact .inr ⟨b,7,_,_,by decide,q4,rfl,rfl⟩
  |true =>
   have hk2:(m.getD p.toNat cn).1=2:=by simpa using hq
   obtain⟨o1,o2⟩:=nv q5 q6 (by rw[hk2];decide)
   simp only[hq,Option.bind_some,cond_true,cond_false,(show decide ((m.getD p.toNat cn).2.1<(0:Int))=false from decide_eq_false (by have:=aV.1 o1;omega))]
   refine .inl ⟨b,m,_,rfl,rfl,by omega,q4,q5,o1,q7, .left q6 hk2 q8⟩
 ·rw[q2,q3]
  simp only[Option.bind_some,show(c2 != 0)=true from by rw[bne_iff_ne];exact q0,cond_true]
  exact .inr ⟨b,c2,_,_,q0,q1,rfl,rfl⟩
theorem Gy (hT:T.size≤100000) (hd:(bs T).drop a=c::r) (hp:ay xs=true) (hk:pg kn xs) (hv:(c.toNat:Int)=62) (hi:0<i1) (ih:∀(a:Nat) (xs:List af),T.size-a≤n→a≤T.size→ay xs=true→pg kn xs→RB T a kn xs (ab N0 i1 (T,(a:Int),(0:Int),RS,false,false,kn,xs)) (ag N0 i2 (xs,kn,T,(a:Int)))) (hn:T.size-(a+1)≤n):RB T a kn xs (ab N0 (i1+1) (T,(a:Int),(0:Int),RS,false,false,kn,xs)) (ag N0 (i2+1) (xs,kn,T,(a:Int))):=by
 obtain⟨h1,h2,h3⟩:=a8 hd
 have z0:((0:Int) != 0)=false:=rfl
 have hz:decide ((a:Int)≥(T.size:Int))=false:=decide_eq_false (by omega)
 have hin:=aH h1
 have w1:IntKind.i64.wrap ((a:Int)+1)=((a+1:Nat):Int):=by rw[ao (by omega) (by omega)];omega
 rw[hv]at h2
 have pk:=cT hd 0 RS
 rw[hv]at pk
 have hl:=ax hp
 show RB T a kn xs (ae N0 (ab N0 i1) (T,(a:Int),(0:Int),RS,false,false,kn,xs)) (aj N0 (ag N0 i2) (xs,kn,T,(a:Int)))
 unfold ae aj
 simp only[z0,hz,pk,h2,hin,w1,rQ,rP,rO,rN,rM,rL,j6,Option.bind_some,Int.reduceBEq,Int.reduceBNe,Bool.or_true,Bool.or_false,Bool.true_or,Bool.false_or,Bool.or_self,cond_true,cond_false]
 rcases ih (a+1) xs hn h1 hp hk with⟨b,m,p,q1,q2,q3,q4,q5,q6,q7,q8⟩|⟨b,c2,m1,m2,q0,q1,q2,q3⟩
 ·rw[q1,q2]
  have hib:=fC q6
  simp only[z0,hib,aq,j6,Int.reduceBEq,Bool.or_false,Bool.false_or,Bool.true_or,Bool.or_true,Bool.or_self,cond_false,bZ,bz,dT,show bH (0:Int) ([p]:List Int).length=true from rfl,show([p]:List Int).getD (0:Int).toNat 0=p from rfl,Option.bind_some,cond_true]
  cases hq:((m.getD p.toNat cn).1==(2:Int))with
  |false =>
   simp only[hq,aa,Option.bind_some,beq_self_eq_true,show decide ((-1:Int)<0)=true from rfl,cond_true,cond_false]
   exact .inr ⟨b,7,_,_,by decide,q4,rfl,rfl⟩
  |true =>
   have hk2:(m.getD p.toNat cn).1=2:=by simpa using hq
   obtain⟨o1,o2⟩:=nv q5 q6 (by rw[hk2];decide)
   simp only[hq,Option.bind_some,cond_true,cond_false,(show decide ((m.getD p.toNat cn).2.2<(0:Int))=false from decide_eq_false (by have:=aV.1 o2;omega))]
   refine .inl ⟨b,m,_,rfl,rfl,by omega,q4,q5,o2,q7, .right q6 hk2 q8⟩
 ·rw[q2,q3]
  simp only[Option.bind_some,show(c2 != 0)=true from by rw[bne_iff_ne];exact q0,cond_true]
  exact .inr ⟨b,c2,_,_,q0,q1,rfl,rfl⟩
theorem GD (hT:T.size≤100000) (hd:(bs T).drop a=c::r) (hp:ay xs=true) (hk:pg kn xs) (hv:(c.toNat:Int)=33) (hi:0<i1) (ih:∀(a:Nat) (xs:List af),T.size-a≤n→a≤T.size→ay xs=true→pg kn xs→RB T a kn xs (ab N0 i1 (T,(a:Int),(0:Int),RS,false,false,kn,xs)) (ag N0 i2 (xs,kn,T,(a:Int)))) (hn:T.size-(a+1)≤n):RB T a kn xs (ab N0 (i1+1) (T,(a:Int),(0:Int),RS,false,false,kn,xs)) (ag N0 (i2+1) (xs,kn,T,(a:Int))):=by
 obtain⟨h1,h2,h3⟩:=a8 hd
 have z0:((0:Int) != 0)=false:=rfl
 have hz:decide ((a:Int)≥(T.size:Int))=false:=decide_eq_false (by omega)
 have hin:=aH h1
 have w1:IntKind.i64.wrap ((a:Int)+1)=((a+1:Nat):Int):=by rw[ao (by omega) (by omega)];omega
 rw[hv]at h2
 have pk:=cT hd 0 RS
 rw[hv]at pk
 have hl:=ax hp
 show RB T a kn xs (ae N0 (ab N0 i1) (T,(a:Int),(0:Int),RS,false,false,kn,xs)) (aj N0 (ag N0 i2) (xs,kn,T,(a:Int)))
 unfold ae aj
 simp only[z0,hz,pk,h2,hin,w1,rQ,rP,rO,rN,rM,rL,j6,Option.bind_some,Int.reduceBEq,Int.reduceBNe,Bool.or_true,Bool.or_false,Bool.true_or,Bool.false_or,Bool.or_self,cond_true,cond_false]
 rcases ih (a+1) xs hn h1 hp hk with⟨b,m,p,q1,q2,q3,q4,q5,q6,q7,q8⟩|⟨b,c2,m1,m2,q0,q1,q2,q3⟩
 ·rw[q1,q2]
  have hib:=fC q6
  simp only[z0,hib,aq,j6,Int.reduceBEq,Bool.or_false,Bool.false_or,Bool.true_or,Bool.or_true,Bool.or_self,cond_false,bZ,bz,dT,show bH (0:Int) ([p]:List Int).length=true from rfl,show([p]:List Int).getD (0:Int).toNat 0=p from rfl,Option.bind_some,cond_true]
  cases hq:((m.getD p.toNat cn).1==(4:Int))with
  |false =>
   simp only[hq,aa,Option.bind_some,beq_self_eq_true,show decide ((-1:Int)<0)=true from rfl,cond_true,cond_false]
   exact .inr ⟨b,7,_,_,by decide,q4,rfl,rfl⟩
  |true =>
   have hk2:(m.getD p.toNat cn).1=4:=by simpa using hq
   obtain⟨o1,o2⟩:=nv q5 q6 (by rw[hk2];decide)
   simp only[hq,Option.bind_some,cond_true,cond_false,(show decide ((m.getD p.toNat cn).2.1<(0:Int))=false from decide_eq_false (by have:=aV.1 o1;omega))]
   refine .inl ⟨b,m,_,rfl,rfl,by omega,q4,q5,o1,q7, .sign q6 hk2 q8⟩
 ·rw[q2,q3]
  simp only[Option.bind_some,show(c2 != 0)=true from by rw[bne_iff_ne];exact q0,cond_true]
  exact .inr ⟨b,c2,_,_,q0,q1,rfl,rfl⟩
theorem E6 (hT:T.size≤100000) (hd:(bs T).drop a=c::r) (hp:ay xs=true) (hk:pg kn xs) (hv:(c.toNat:Int)=107) (hi:0<i1) (ih:∀(a:Nat) (xs:List af),T.size-a≤n→a≤T.size→ay xs=true→pg kn xs→RB T a kn xs (ab N0 i1 (T,(a:Int),(0:Int),RS,false,false,kn,xs)) (ag N0 i2 (xs,kn,T,(a:Int)))) (hn:T.size-(a+1)≤n):RB T a kn xs (ab N0 (i1+1) (T,(a:Int),(0:Int),RS,false,false,kn,xs)) (ag N0 (i2+1) (xs,kn,T,(a:Int))):=by
 obtain⟨h1,h2,h3⟩:=a8 hd
 have z0:((0:Int) != 0)=false:=rfl
 have hz:decide ((a:Int)≥(T.size:Int))=false:=decide_eq_false (by omega)
 have hin:=aH h1
 have w1:IntKind.i64.wrap ((a:Int)+1)=((a+1:Nat):Int):=by rw[ao (by omega) (by omega)];omega
 rw[hv]at h2
 have pk:=cT hd 0 RS
 rw[hv]at pk
 have hl:=ax hp
 show RB T a kn xs (ae N0 (ab N0 i1) (T,(a:Int),(0:Int),RS,false,false,kn,xs)) (aj N0 (ag N0 i2) (xs,kn,T,(a:Int)))
 unfold ae aj
 have hkd:br N0 (T,(a:Int))=some ((6:Int),(2:Int),(41:Int)):=by
  unfold br
  simp only[hin,h2,Int.reduceBEq,cond_true,cond_false]
 have hko:dV N0 (107:Int)=some (6:Int):=rfl
 simp only[z0,hz,pk,h2,hin,w1,rQ,rP,rO,rN,rM,rL,j6,Option.bind_some,Int.reduceBEq,Int.reduceBNe,Bool.or_true,Bool.or_false,Bool.true_or,Bool.false_or,Bool.or_self,cond_true,cond_false,hkd,show decide ((6:Int)>0)=true from rfl,show decide ((41:Int)>0)=true from rfl,show((2:Int)==2)=true from rfl]
 rcases lQ hT (a:=a+1) h1 RS 40 with⟨t1,t2,t3,t4⟩|⟨b0,c0,t0,t1,t2,t3⟩
 ·rw[t1]
  simp only[Option.bind_some]
  rw[qh t2]
  rcases j5 hT hi ih 41 (a:=a+2) (by omega) t3 hp hk with⟨b,m,p,q,q1,q2,q3,q4,q5,q6,q6',q7,q8,q9⟩|⟨b,c2,m1,ps,m2,x,y,q0,q1,q2,q3⟩
  ·rw[q1,q2]
   simp only[z0,aq,j6,Int.reduceBEq,Bool.or_false,Bool.or_self,cond_false,bF,aW,show decide ((([p,q]:List Int).length:Int)>(1:Int))=true from rfl,show bH (1:Int) ([p,q]:List Int).length=true from rfl,show bH (0:Int) ([p,q]:List Int).length=true from rfl,hko,ej (ax q5),c7 q5,show([p,q]:List Int).getD (1:Int).toNat 0=q from rfl,show([p,q]:List Int).getD (0:Int).toNat 0=p from rfl,Option.bind_some,cond_true,aL]
   cases hA:d6 m 6 p q with
   |none =>
    simp only[kI,aa,Option.bind_some,beq_self_eq_true,show decide ((-1:Int)<0)=true from rfl,cond_true]
    exact .inr ⟨b,5,_,_,by decide,q4,rfl,rfl⟩
   |some s =>
    obtain⟨ys,t⟩:=s
    obtain⟨g1,g2,g3,⟨z,g4⟩,g5⟩:=bE q5 hA
    rw[show kI m (some (ys,t))=(ys,t)from rfl]
    dsimp only
    simp only[(show decide (t<(0:Int))=false from decide_eq_false (by omega)),Option.bind_some,cond_false]
    obtain⟨z',q7'⟩:=q7
    refine .inl ⟨b,ys,t,rfl,rfl,by omega,q4,g1,aV.2 ⟨g2,by omega⟩,⟨z'++z,by rw[g4,q7',List.append_assoc]⟩,?_⟩
    have hne:mU 6 p q=(6,(p,q)):=rfl
    rw[hne]at g5
    exact .two (aV.2 ⟨g2,by omega⟩) (by rw[g5];simp only[Int.reduceEq,or_false,or_true,true_or,false_or]) (by rw[g5,g4];exact q8.mono _) (by rw[g5,g4];exact q9.mono _)
  ·rw[q2,q3]
   simp only[Option.bind_some,show(c2 != 0)=true from by rw[bne_iff_ne];exact q0,cond_true]
   exact .inr ⟨b,c2,_,_,q0,q1,rfl,rfl⟩
 ·rw[t2]
  simp only[Option.bind_some]
  rw[qe t3 t0,sL t0 kn xs hi]
  simp only[Option.bind_some,show(c0 != 0)=true from by rw[bne_iff_ne];exact t0,cond_true]
  exact .inr ⟨b0,c0,_,_,t0,t1,rfl,rfl⟩
theorem GA (hT:T.size≤100000) (hd:(bs T).drop a=c::r) (hp:ay xs=true) (hk:pg kn xs) (hv:(c.toNat:Int)=42) (hi:0<i1) (ih:∀(a:Nat) (xs:List af),T.size-a≤n→a≤T.size→ay xs=true→pg kn xs→RB T a kn xs (ab N0 i1 (T,(a:Int),(0:Int),RS,false,false,kn,xs)) (ag N0 i2 (xs,kn,T,(a:Int)))) (hn:T.size-(a+1)≤n):RB T a kn xs (ab N0 (i1+1) (T,(a:Int),(0:Int),RS,false,false,kn,xs)) (ag N0 (i2+1) (xs,kn,T,(a:Int))):=by
 obtain⟨h1,h2,h3⟩:=a8 hd
 have z0:((0:Int) != 0)=false:=rfl
 have hz:decide ((a:Int)≥(T.size:Int))=false:=decide_eq_false (by omega)
 have hin:=aH h1
 have w1:IntKind.i64.wrap ((a:Int)+1)=((a+1:Nat):Int):=by rw[ao (by omega) (by omega)];omega
 rw[hv]at h2
 have pk:=cT hd 0 RS
 rw[hv]at pk
 have hl:=ax hp
 show RB T a kn xs (ae N0 (ab N0 i1) (T,(a:Int),(0:Int),RS,false,false,kn,xs)) (aj N0 (ag N0 i2) (xs,kn,T,(a:Int)))
 unfold ae aj
 have hkd:br N0 (T,(a:Int))=some ((8:Int),(2:Int),(41:Int)):=by
  unfold br
  simp only[hin,h2,Int.reduceBEq,cond_true,cond_false]
 have hko:dV N0 (42:Int)=some (8:Int):=rfl
 simp only[z0,hz,pk,h2,hin,w1,rQ,rP,rO,rN,rM,rL,j6,Option.bind_some,Int.reduceBEq,Int.reduceBNe,Bool.or_true,Bool.or_false,Bool.true_or,Bool.false_or,Bool.or_self,cond_true,cond_false,hkd,show decide ((8:Int)>0)=true from rfl,show decide ((41:Int)>0)=true from rfl,show((2:Int)==2)=true from rfl]
 rcases lQ hT (a:=a+1) h1 RS 40 with⟨t1,t2,t3,t4⟩|⟨b0,c0,t0,t1,t2,t3⟩
 ·rw[t1]
  simp only[Option.bind_some]
  rw[qh t2]
  rcases j5 hT hi ih 41 (a:=a+2) (by omega) t3 hp hk with⟨b,m,p,q,q1,q2,q3,q4,q5,q6,q6',q7,q8,q9⟩|⟨b,c2,m1,ps,m2,x,y,q0,q1,q2,q3⟩
  ·rw[q1,q2]
   simp only[z0,aq,j6,Int.reduceBEq,Bool.or_false,Bool.or_self,cond_false,bF,aW,show decide ((([p,q]:List Int).length:Int)>(1:Int))=true from rfl,show bH (1:Int) ([p,q]:List Int).length=true from rfl,show bH (0:Int) ([p,q]:List Int).length=true from rfl,hko,ej (ax q5),c7 q5,show([p,q]:List Int).getD (1:Int).toNat 0=q from rfl,show([p,q]:List Int).getD (0:Int).toNat 0=p from rfl,Option.bind_some,cond_true,aL]
   cases hA:d6 m 8 p q with
   |none =>
    simp only[kI,aa,Option.bind_some,beq_self_eq_true,show decide ((-1:Int)<0)=true from rfl,cond_true]
    exact .inr ⟨b,5,_,_,by decide,q4,rfl,rfl⟩
   |some s =>
    obtain⟨ys,t⟩:=s
    obtain⟨g1,g2,g3,⟨z,g4⟩,g5⟩:=bE q5 hA
    rw[show kI m (some (ys,t))=(ys,t)from rfl]
    dsimp only
    simp only[(show decide (t<(0:Int))=false from decide_eq_false (by omega)),Option.bind_some,cond_false]
    obtain⟨z',q7'⟩:=q7
    refine .inl ⟨b,ys,t,rfl,rfl,by omega,q4,g1,aV.2 ⟨g2,by omega⟩,⟨z'++z,by rw[g4,q7',List.append_assoc]⟩,?_⟩
    exact Df (aV.2 ⟨g2,by omega⟩) g5 (by rw[g4];exact q8.mono _) (by rw[g4];exact q9.mono _)
  ·rw[q2,q3]
   simp only[Option.bind_some,show(c2 != 0)=true from by rw[bne_iff_ne];exact q0,cond_true]
   exact .inr ⟨b,c2,_,_,q0,q1,rfl,rfl⟩
 ·rw[t2]
  simp only[Option.bind_some]
  rw[qe t3 t0,sL t0 kn xs hi]
  simp only[Option.bind_some,show(c0 != 0)=true from by rw[bne_iff_ne];exact t0,cond_true]
  exact .inr ⟨b0,c0,_,_,t0,t1,rfl,rfl⟩
theorem E3 (hT:T.size≤100000) (hd:(bs T).drop a=c::r) (hp:ay xs=true) (hk:pg kn xs) (hv:(c.toNat:Int)=111) (hi:0<i1) (ih:∀(a:Nat) (xs:List af),T.size-a≤n→a≤T.size→ay xs=true→pg kn xs→RB T a kn xs (ab N0 i1 (T,(a:Int),(0:Int),RS,false,false,kn,xs)) (ag N0 i2 (xs,kn,T,(a:Int)))) (hn:T.size-(a+1)≤n):RB T a kn xs (ab N0 (i1+1) (T,(a:Int),(0:Int),RS,false,false,kn,xs)) (ag N0 (i2+1) (xs,kn,T,(a:Int))):=by
 obtain⟨h1,h2,h3⟩:=a8 hd
 have z0:((0:Int) != 0)=false:=rfl
 have hz:decide ((a:Int)≥(T.size:Int))=false:=decide_eq_false (by omega)
 have hin:=aH h1
 have w1:IntKind.i64.wrap ((a:Int)+1)=((a+1:Nat):Int):=by rw[ao (by omega) (by omega)];omega
 rw[hv]at h2
 have pk:=cT hd 0 RS
 rw[hv]at pk
 have hl:=ax hp
 show RB T a kn xs (ae N0 (ab N0 i1) (T,(a:Int),(0:Int),RS,false,false,kn,xs)) (aj N0 (ag N0 i2) (xs,kn,T,(a:Int)))
 unfold ae aj
 simp only[z0,hz,pk,h2,hin,w1,rQ,rP,rO,rN,rM,rL,j6,Option.bind_some,Int.reduceBEq,Int.reduceBNe,Bool.or_true,Bool.or_false,Bool.true_or,Bool.false_or,Bool.or_self,cond_true,cond_false]
 rcases lQ hT (a:=a+1) h1 RS 40 with⟨t1,t2,t3,t4⟩|⟨b0,c0,t0,t1,t2,t3⟩
 ·rw[t1]
  simp only[Option.bind_some]
  rw[qh t2]
  rcases j5 hT hi ih 41 (a:=a+2) (by omega) t3 hp hk with⟨b,m,p,q,q1,q2,q3,q4,q5,q6,q6',q7,q8,q9⟩|⟨b,c2,m1,ps,m2,x,y,q0,q1,q2,q3⟩
  ·rw[q1,q2]
   have hib:=fC q6
   simp only[z0,hib,aq,j6,Int.reduceBEq,Bool.or_false,Bool.false_or,Bool.true_or,Bool.or_true,Bool.or_self,cond_false,bZ,bz,gZ,iZ,show bH (1:Int) ([p,q]:List Int).length=true from rfl,show bH (0:Int) ([p,q]:List Int).length=true from rfl,show([p,q]:List Int).getD (1:Int).toNat 0=q from rfl,show([p,q]:List Int).getD (0:Int).toNat 0=p from rfl,Option.bind_some,cond_true]
   cases hq:((m.getD p.toNat cn).1==(3:Int))with
   |false =>
    have hq2:((m.getD p.toNat cn).1 != (3:Int))=true:=by rw[bne,hq];rfl
    simp only[hq,hq2,aa,Option.bind_some,beq_self_eq_true,cond_true,cond_false]
    exact .inr ⟨b,7,_,_,by decide,q4,rfl,rfl⟩
   |true =>
    have hk2:(m.getD p.toNat cn).1=3:=by simpa using hq
    have hq2:((m.getD p.toNat cn).1 != (3:Int))=false:=by rw[bne,hq];rfl
    obtain⟨o1,o2⟩:=nv q5 q6 (by rw[hk2];decide)
    cases he:((m.getD p.toNat cn).2.2==q)with
    |false =>
     have he2:((m.getD p.toNat cn).2.2 != q)=true:=by rw[bne,he];rfl
     simp only[hq,hq2,he,he2,aa,Option.bind_some,beq_self_eq_true,cond_true,cond_false]
     exact .inr ⟨b,7,_,_,by decide,q4,rfl,rfl⟩
    |true =>
     have he3:(m.getD p.toNat cn).2.2=q:=by simpa using he
     have he2:((m.getD p.toNat cn).2.2 != q)=false:=by rw[bne,he];rfl
     simp only[hq,hq2,he,he2,Option.bind_some,cond_true,cond_false]
     refine .inl ⟨b,m,_,rfl,rfl,by omega,q4,q5,o1,q7, .open_ q6 hk2 q8 (by rw[he3];exact q9)⟩
  ·rw[q2,q3]
   simp only[Option.bind_some,show(c2 != 0)=true from by rw[bne_iff_ne];exact q0,cond_true]
   exact .inr ⟨b,c2,_,_,q0,q1,rfl,rfl⟩
 ·rw[t2]
  simp only[Option.bind_some]
  rw[qe t3 t0,sL t0 kn xs hi]
  simp only[Option.bind_some,show(c0 != 0)=true from by rw[bne_iff_ne];exact t0,cond_true]
  exact .inr ⟨b0,c0,_,_,t0,t1,rfl,rfl⟩
theorem E2 (hT:T.size≤100000) (hd:(bs T).drop a=c::r) (hp:ay xs=true) (hk:pg kn xs) (hv:(c.toNat:Int)=120) (hi:0<i1) (ih:∀(a:Nat) (xs:List af),T.size-a≤n→a≤T.size→ay xs=true→pg kn xs→RB T a kn xs (ab N0 i1 (T,(a:Int),(0:Int),RS,false,false,kn,xs)) (ag N0 i2 (xs,kn,T,(a:Int)))) (hn:T.size-(a+1)≤n):RB T a kn xs (ab N0 (i1+1) (T,(a:Int),(0:Int),RS,false,false,kn,xs)) (ag N0 (i2+1) (xs,kn,T,(a:Int))):=by
 obtain⟨h1,h2,h3⟩:=a8 hd
 have z0:((0:Int) != 0)=false:=rfl
 have hz:decide ((a:Int)≥(T.size:Int))=false:=decide_eq_false (by omega)
 have hin:=aH h1
 have w1:IntKind.i64.wrap ((a:Int)+1)=((a+1:Nat):Int):=by rw[ao (by omega) (by omega)];omega
 rw[hv]at h2
 have pk:=cT hd 0 RS
 rw[hv]at pk
 have hl:=ax hp
 show RB T a kn xs (ae N0 (ab N0 i1) (T,(a:Int),(0:Int),RS,false,false,kn,xs)) (aj N0 (ag N0 i2) (xs,kn,T,(a:Int)))
 unfold ae aj
 simp only[z0,hz,pk,h2,hin,w1,rQ,rP,rO,rN,rM,rL,j6,Option.bind_some,Int.reduceBEq,Int.reduceBNe,Bool.or_true,Bool.or_false,Bool.true_or,Bool.false_or,Bool.or_self,cond_true,cond_false]
 rcases lQ hT (a:=a+1) h1 RS 40 with⟨t1,t2,t3,t4⟩|⟨b0,c0,t0,t1,t2,t3⟩
 ·rw[t1]
  simp only[Option.bind_some]
  rw[qh t2]
  rcases j5 hT hi ih 41 (a:=a+2) (by omega) t3 hp hk with⟨b,m,p,q,q1,q2,q3,q4,q5,q6,q6',q7,q8,q9⟩|⟨b,c2,m1,ps,m2,x,y,q0,q1,q2,q3⟩
  ·rw[q1,q2]
   have hib:=fC q6
   have hib':=fC q6'
   simp only[z0,hib,hib',aq,j6,Int.reduceBEq,Bool.or_false,Bool.false_or,Bool.true_or,Bool.or_true,Bool.or_self,cond_false,bZ,bz,ah,gZ,show bH (1:Int) ([p,q]:List Int).length=true from rfl,show bH (0:Int) ([p,q]:List Int).length=true from rfl,show([p,q]:List Int).getD (1:Int).toNat 0=q from rfl,show([p,q]:List Int).getD (0:Int).toNat 0=p from rfl,Ak (ax q5),zH q5,Option.bind_some,cond_true]
   cases hq:((m.getD q.toNat cn).1==(7:Int))with
   |false =>
    have hq2:((m.getD q.toNat cn).1 != (7:Int))=true:=by rw[bne,hq];rfl
    simp only[hq,hq2,aa,Option.bind_some,beq_self_eq_true,cond_true,cond_false]
    exact .inr ⟨b,7,_,_,by decide,q4,rfl,rfl⟩
   |true =>
    have hk2:(m.getD q.toNat cn).1=7:=by simpa using hq
    have hq2:((m.getD q.toNat cn).1 != (7:Int))=false:=by rw[bne,hq];rfl
    simp only[hq,hq2,Option.bind_some,cond_true,cond_false,aL]
    cases hA:py m q p with
    |none =>
     simp only[kI,aa,Option.bind_some,beq_self_eq_true,show decide ((-1:Int)<0)=true from rfl,cond_true]
     exact .inr ⟨b,5,_,_,by decide,q4,rfl,rfl⟩
    |some s =>
     obtain⟨ys,t⟩:=s
     have hA2:=CO hA
     obtain⟨g1,g2,g3,⟨z,g4⟩,g5⟩:=bE q5 hA2
     rw[show kI m (some (ys,t))=(ys,t)from rfl]
     dsimp only
     simp only[(show decide (t<(0:Int))=false from decide_eq_false (by omega)),Option.bind_some,cond_false]
     obtain⟨z',q7'⟩:=q7
     refine .inl ⟨b,ys,t,rfl,rfl,by omega,q4,g1,aV.2 ⟨g2,by omega⟩,⟨z'++z,by rw[g4,q7',List.append_assoc]⟩,?_⟩
     exact FN q5 (aV.2 ⟨g2,by omega⟩) g5 g4 hk2 q6' q8 q9
  ·rw[q2,q3]
   simp only[Option.bind_some,show(c2 != 0)=true from by rw[bne_iff_ne];exact q0,cond_true]
   exact .inr ⟨b,c2,_,_,q0,q1,rfl,rfl⟩
 ·rw[t2]
  simp only[Option.bind_some]
  rw[qe t3 t0,sL t0 kn xs hi]
  simp only[Option.bind_some,show(c0 != 0)=true from by rw[bne_iff_ne];exact t0,cond_true]
  exact .inr ⟨b0,c0,_,_,t0,t1,rfl,rfl⟩
theorem CK (hT:T.size≤100000) (hd:(bs T).drop a=c::r) (hp:ay xs=true) (hk:pg kn xs) (k110:(c.toNat:Int)≠110) (k64:(c.toNat:Int)≠64) (k40:(c.toNat:Int)≠40) (k123:(c.toNat:Int)≠123) (k91:(c.toNat:Int)≠91) (k35:(c.toNat:Int)≠35) (k94:(c.toNat:Int)≠94) (k60:(c.toNat:Int)≠60) (k62:(c.toNat:Int)≠62) (k33:(c.toNat:Int)≠33) (k107:(c.toNat:Int)≠107) (k42:(c.toNat:Int)≠42) (k111:(c.toNat:Int)≠111) (k120:(c.toNat:Int)≠120):RB T a kn xs (ab N0 (i1+1) (T,(a:Int),(0:Int),RS,false,false,kn,xs)) (ag N0 (i2+1) (xs,kn,T,(a:Int))):=by
 obtain⟨h1,h2,h3⟩:=a8 hd
 have z0:((0:Int) != 0)=false:=rfl
 have hz:decide ((a:Int)≥(T.size:Int))=false:=decide_eq_false (by omega)
 have hin:=aH h1
 have w1:IntKind.i64.wrap ((a:Int)+1)=((a+1:Nat):Int):=by rw[ao (by omega) (by omega)];omega
 have pk:=cT hd 0 RS
 have hl:=ax hp
 show RB T a kn xs (ae N0 (ab N0 i1) (T,(a:Int),(0:Int),RS,false,false,kn,xs)) (aj N0 (ag N0 i2) (xs,kn,T,(a:Int)))
 unfold ae aj
 have e110:((110:Int)==(c.toNat:Int))=false:=by rw[beq_eq_false_iff_ne];omega
 have f110:((c.toNat:Int)==(110:Int))=false:=by rw[beq_eq_false_iff_ne];omega
 have e64:((64:Int)==(c.toNat:Int))=false:=by rw[beq_eq_false_iff_ne];omega
 have f64:((c.toNat:Int)==(64:Int))=false:=by rw[beq_eq_false_iff_ne];omega
 have e40:((40:Int)==(c.toNat:Int))=false:=by rw[beq_eq_false_iff_ne];omega
 have f40:((c.toNat:Int)==(40:Int))=false:=by rw[beq_eq_false_iff_ne];omega
 have e123:((123:Int)==(c.toNat:Int))=false:=by rw[beq_eq_false_iff_ne];omega
 have f123:((c.toNat:Int)==(123:Int))=false:=by rw[beq_eq_false_iff_ne];omega
 have e91:((91:Int)==(c.toNat:Int))=false:=by rw[beq_eq_false_iff_ne];omega
 have f91:((c.toNat:Int)==(91:Int))=false:=by rw[beq_eq_false_iff_ne];omega
 have e35:((35:Int)==(c.toNat:Int))=false:=by rw[beq_eq_false_iff_ne];omega
 have f35:((c.toNat:Int)==(35:Int))=false:=by rw[beq_eq_false_iff_ne];omega
 have e94:((94:Int)==(c.toNat:Int))=false:=by rw[beq_eq_false_iff_ne];omega
 have f94:((c.toNat:Int)==(94:Int))=false:=by rw[beq_eq_false_iff_ne];omega
 have e60:((60:Int)==(c.toNat:Int))=false:=by rw[beq_eq_false_iff_ne];omega
 have f60:((c.toNat:Int)==(60:Int))=false:=by rw[beq_eq_false_iff_ne];omega
 have e62:((62:Int)==(c.toNat:Int))=false:=by rw[beq_eq_false_iff_ne];omega
 have f62:((c.toNat:Int)==(62:Int))=false:=by rw[beq_eq_false_iff_ne];omega
 have e33:((33:Int)==(c.toNat:Int))=false:=by rw[beq_eq_false_iff_ne];omega
 have f33:((c.toNat:Int)==(33:Int))=false:=by rw[beq_eq_false_iff_ne];omega
 have e107:((107:Int)==(c.toNat:Int))=false:=by rw[beq_eq_false_iff_ne];omega
 have f107:((c.toNat:Int)==(107:Int))=false:=by rw[beq_eq_false_iff_ne];omega
 have e42:((42:Int)==(c.toNat:Int))=false:=by rw[beq_eq_false_iff_ne];omega
 have f42:((c.toNat:Int)==(42:Int))=false:=by rw[beq_eq_false_iff_ne];omega
 have e111:((111:Int)==(c.toNat:Int))=false:=by rw[beq_eq_false_iff_ne];omega
 have f111:((c.toNat:Int)==(111:Int))=false:=by rw[beq_eq_false_iff_ne];omega
 have e120:((120:Int)==(c.toNat:Int))=false:=by rw[beq_eq_false_iff_ne];omega
 have f120:((c.toNat:Int)==(120:Int))=false:=by rw[beq_eq_false_iff_ne];omega
 have hkd:br N0 (T,(a:Int))=some ((0:Int),(0:Int),(0:Int)):=by
  unfold br
  simp only[hin,h2,e110,f110,e64,f64,e40,f40,e123,f123,e91,f91,e35,f35,e94,f94,e60,f60,e62,f62,e33,f33,e107,f107,e42,f42,e111,f111,e120,f120,cond_true,cond_false]
 refine .inr ⟨a,3,xs,xs,by decide,by omega,?_,?_⟩
 ·dsimp only
  simp only[z0,hz,pk,rQ,rP,rO,rN,rM,rL,j6,e110,f110,e64,f64,e40,f40,e123,f123,e91,f91,e35,f35,e94,f94,e60,f60,e62,f62,e33,f33,e107,f107,e42,f42,e111,f111,e120,f120,Option.bind_some,Bool.or_false,Bool.or_self,cond_false,aa,beq_self_eq_true,cond_true]
  cases((36:Int)==(c.toNat:Int))<;>cases((63:Int)==(c.toNat:Int))<;>rfl
 ·dsimp only
  simp only[hz,hin,h2,e110,f110,e64,f64,e40,f40,e123,f123,e91,f91,e35,f35,e94,f94,e60,f60,e62,f62,e33,f33,e107,f107,e42,f42,e111,f111,e120,f120,hkd,Option.bind_some,Int.reduceBEq,beq_self_eq_true,cond_true,cond_false,show decide ((0:Int)>0)=false from rfl]
  try rfl
end
theorem wd{T:ByteArray}(hT:T.size≤100000){kn:List Int}:∀(n a:Nat) (xs:List af) (j1 j2:Nat),T.size-a≤n→n<j1→n<j2→a≤T.size→ay xs=true→pg kn xs→RB T a kn xs (ab N0 j1 (T,(a:Int),(0:Int),RS,false,false,kn,xs)) (ag N0 j2 (xs,kn,T,(a:Int)))
 |0,a,xs,j1,j2,hn,h1,h2,ha,hp,hk=>yd (List.drop_eq_nil_of_le (by rw[lb];omega)) kn xs h1 h2
 |n+1,a,xs,j1,j2,hn,h1,h2,ha,hp,hk=>by
  obtain⟨i1,rfl⟩:∃i,j1=i+1:=⟨j1-1,by omega⟩
  obtain⟨i2,rfl⟩:∃i,j2=i+1:=⟨j2-1,by omega⟩
  cases hd:(bs T).drop a with
  |nil=>exact yd hd kn xs (by omega) (by omega)
  |cons c r =>
   have hs:=(a8 hd).1
   have ih:∀(a:Nat) (xs:List af),T.size-a≤n→a≤T.size→ay xs=true→pg kn xs→RB T a kn xs (ab N0 i1 (T,(a:Int),(0:Int),RS,false,false,kn,xs)) (ag N0 i2 (xs,kn,T,(a:Int))):=fun a xs q1 q2 q3 q4=>wd hT n a xs i1 i2 q1 (by omega) (by omega) q2 q3 q4
   have hi:0<i1:=by omega
   have hn':T.size-(a+1)≤n:=by omega
   by_cases h110:(c.toNat:Int)=110
   ·exact E5 hT hd hp hk h110
   by_cases h64:(c.toNat:Int)=64
   ·exact Gx hT hd hp hk h64
   by_cases h40:(c.toNat:Int)=40
   ·exact GB hT hd hp hk h40 hi ih hn'
   by_cases h123:(c.toNat:Int)=123
   ·exact E1 hT hd hp hk h123 hi ih hn'
   by_cases h91:(c.toNat:Int)=91
   ·exact Gw hT hd hp hk h91 hi ih hn'
   by_cases h35:(c.toNat:Int)=35
   ·exact GC hT hd hp hk h35 hi ih hn'
   by_cases h94:(c.toNat:Int)=94
   ·exact Gv hT hd hp hk h94 hi ih hn'
   by_cases h60:(c.toNat:Int)=60
   ·exact Gz hT hd hp hk h60 hi ih hn'
   by_cases h62:(c.toNat:Int)=62
   ·exact Gy hT hd hp hk h62 hi ih hn'
   by_cases h33:(c.toNat:Int)=33
   ·exact GD hT hd hp hk h33 hi ih hn'
   by_cases h107:(c.toNat:Int)=107
   ·exact E6 hT hd hp hk h107 hi ih hn'
   by_cases h42:(c.toNat:Int)=42
   ·exact GA hT hd hp hk h42 hi ih hn'
   by_cases h111:(c.toNat:Int)=111
   ·exact E3 hT hd hp hk h111 hi ih hn'
   by_cases h120:(c.toNat:Int)=120
   ·exact E2 hT hd hp hk h120 hi ih hn'
   exact CK hT hd hp hk h110 h64 h40 h123 h91 h35 h94 h60 h62 h33 h107 h42 h111 h120
def iM (xs:List af) (k:List Int):Bool:=o9 (gr xs k) 0 k.length&&(decide (k.length≤200)&&(decide (xs.length≤500)&&c8 N0 [] xs))
theorem lT{xs:List af}{k:List Int}:iM xs k=true↔(o9 (gr xs k) 0 k.length=true∧k.length≤200∧ay xs=true):=by
 unfold iM ay
 rw[Bool.and_eq_true,Bool.and_eq_true,decide_eq_true_iff]
theorem gR{xs:List af}{k:List Int}(h:iM xs k=true):ay xs=true:=(lT.1 h).2.2
theorem yK{xs:List af}{k:List Int}(h:iM xs k=true) (u:Nat) (hu:u<k.length):gr xs k u=true:=p7.1 (lT.1 h).1 u (Nat.zero_le _) (by omega)
theorem BR{xs:List af}{k:List Int}(h:iM xs k=true):pg k xs:=by
 refine⟨by have:=(lT.1 h).2.1;omega,fun u hu=>?_⟩
 have:=yK h u hu
 unfold gr at this
 exact(Bool.and_eq_true _ _▸this).1
theorem GI{T:ByteArray}(hT:T.size≤2000){kn:List Int}{xs:List af}(hp:ay xs=true) (hk:pg kn xs) :
  (∃ys t,cV N0 (T,(0:Int),(0:Int),RS,false,false,(2000:Int),kn,xs)=some (T,(T.size:Int),(0:Int),RS,false,false,kn,ys,t)∧ag N0 N0 (xs,kn,T,(0:Int))=some (ys,t,(T.size:Int),(0:Int))∧ay ys=true∧bQ ys t=true∧(∃zs,ys=xs++zs)∧p9 kn ys t) ∨
  (∃(b:Nat) (c:Int) (m1 m2:List af) (x y c':Int),c≠0∧cV N0 (T,(0:Int),(0:Int),RS,false,false,(2000:Int),kn,xs)=some (T,(b:Int),c,RS,false,false,kn,m1,x)∧ag N0 N0 (xs,kn,T,(0:Int))=some (m2,y,(b:Int),c')∧(c'=c∨(c'=0∧c=6∧b<T.size))):=by
 have hr:=wd (T:=T) (by omega) (kn:=kn) T.size 0 xs N0 N0 (by omega) (by have:=n0;omega) (by have:=n0;omega) (Nat.zero_le _) hp hk
 have h2:decide ((T.size:Int)>(2000:Int))=false:=decide_eq_false (by omega)
 unfold cV
 dsimp only
 rw[h2,cond_false]
 rcases hr with⟨b,ys,t,r1,r2,r3,r4,r5,r6,r7,r8⟩|⟨b,c,m1,m2,r0,r1,r2,r3⟩
 ·have r1':ab N0 N0 (T,(0:Int),(0:Int),RS,false,false,kn,xs)=_:=r1
  have r2':ag N0 N0 (xs,kn,T,(0:Int))=_:=r2
  rw[r1',r2']
  simp only[Option.bind_some,beq_self_eq_true,cond_true]
  by_cases hb:b<T.size
  ·right
   refine⟨b,6,ys,ys, -1,t,0,by decide,?_,rfl, .inr ⟨rfl,rfl,hb⟩⟩
   rw[decide_eq_true (show(b:Int)<(T.size:Int)by omega),cond_true]
   rfl
  ·left
   obtain rfl:b=T.size:=by omega
   refine⟨ys,t,?_,rfl,r5,r6,r7,r8⟩
   rw[decide_eq_false (show ¬(T.size:Int)<(T.size:Int)by omega),cond_false]
 ·have r2':ab N0 N0 (T,(0:Int),(0:Int),RS,false,false,kn,xs)=_:=r2
  have r3':ag N0 N0 (xs,kn,T,(0:Int))=_:=r3
  rw[r2',r3']
  right
  refine⟨b,c,m1,m2, -1, -1,c,r0,?_,rfl, .inl rfl⟩
  simp only[Option.bind_some,show(c==0)=false from by rw[beq_eq_false_iff_ne];exact r0,cond_false]
theorem A9{xs:List af}(hx:xs.length≤4294967296){kn:List Int}(hk:kn.length≤4294967296) (T:ByteArray) :
  ∃ys t b c,dC N0 (xs,kn,T)=some (ys,t,b,c)∧dy N0 (xs,kn,T)=some (ys,t,b,c)∧ys.length≤4294967296 ∧
   (ay xs=true→ay ys=true∧(∃zs,ys=xs++zs)∧(c≠0→ys=xs))∧(c=0→iM xs kn=true∧bQ ys t=true∧p9 kn ys t)∧(iM xs kn=false→c≠0):=by
 have kIx:=vp hx hk
 have kSx:=uX hx hk
 have pIx:=mG N0 n0 hx
 have pSx:=pj N0 n0 hx
 have cp:=jz hx
 have cs:=xi hx
 change gS N0 (xs,kn)=some (iM xs kn)at kIx
 change fI N0 (xs,kn)=some (iM xs kn)at kSx
 change dD N0 xs=some (ay xs)at pIx
 change dU N0 xs=some (ay xs)at pSx
 have eIx:cQ N0 xs=some (bif ay xs then xs else []):=by
  unfold cQ
  rw[pIx,Option.bind_some]
  cases ay xs with
  |false=>rfl
  |true=>simp only[Bool.not_true,cond_false,cp,Option.bind_some,cond_true]
 by_cases hT:T.size≤2000
 ·have h2:decide ((T.size:Int)>(2000:Int))=false:=decide_eq_false (by omega)
  cases hv:iM xs kn with
  |false =>
   rw[hv]at kIx kSx
   refine⟨bif ay xs then xs else [], -1,0,5,?_,?_,?_,?_,(fun q=>by cases q),(fun _=>by decide)⟩
   ·unfold dC
    simp only[h2,cond_false,kIx,Option.bind_some,Bool.not_false,cond_true,eIx]
   ·unfold dy
    simp only[pSx,Option.bind_some]
    cases ay xs with
    |false=>simp only[cond_false,h2,kSx,Option.bind_some,Bool.not_false,cond_true]
    |true=>simp only[cond_true,cs,h2,cond_false,kSx,Option.bind_some,Bool.not_false]
   ·cases ay xs with
    |false=>exact Nat.zero_le _
    |true=>exact hx
   ·intro q
    rw[q]
    exact⟨q,⟨[],by simp⟩,fun _=>rfl⟩
  |true =>
   rw[hv]at kIx kSx
   have hp:=gR hv
   rw[hp]at pIx pSx
   have hl:=ax hp
   rcases GI hT hp (BR hv)with⟨ys,t,r1,r2,r3,r4,r5,r6⟩|⟨b,c,m1,m2,x,y,c',r0,r1,r2,r3⟩
   ·have hl2:=ax r3
    refine⟨ys,t,T.size,0,?_,?_,by omega,fun _=>⟨r3,r5,fun q=>absurd rfl q⟩,fun _=>⟨rfl,r4,r6⟩,fun q=>by cases q⟩
    ·unfold dC
     have r1':cV N0 (T,(0:Int),(0:Int),(⟨#[64,60,62,33,111,120]⟩:ByteArray),false,false,(2000:Int),kn,xs)=_:=r1
     simp only[h2,cond_false,kIx,Option.bind_some,Bool.not_true,cp,r1',bne_self_eq_false]
    ·unfold dy
     simp only[pSx,Option.bind_some,cond_true,cs,h2,cond_false,kSx,Bool.not_true,r2,bne_self_eq_false,decide_eq_false (show ¬(T.size:Int)<(T.size:Int)by omega),xi (show ys.length≤4294967296 by omega)]
   ·refine⟨xs, -1,b,c,?_,?_,hx,fun q=>⟨q,⟨[],by simp⟩,fun _=>rfl⟩,fun q=>absurd q r0,fun q=>by cases q⟩
    ·unfold dC
     have r1':cV N0 (T,(0:Int),(0:Int),(⟨#[64,60,62,33,111,120]⟩:ByteArray),false,false,(2000:Int),kn,xs)=_:=r1
     simp only[h2,cond_false,kIx,Option.bind_some,Bool.not_true,cp,r1',show(c != 0)=true from by rw[bne_iff_ne];exact r0,cond_true,fZ]
    ·unfold dy
     simp only[pSx,Option.bind_some,cond_true,cs,h2,cond_false,kSx,Bool.not_true,r2]
     rcases r3 with rfl|⟨rfl,rfl,q⟩
     ·rw[show(c' != 0)=true from by rw[bne_iff_ne];exact r0,cond_true]
     ·simp only[bne_self_eq_false,cond_false,decide_eq_true (show(b:Int)<(T.size:Int)by omega),cond_true]
 ·have h2:decide ((T.size:Int)>(2000:Int))=true:=decide_eq_true (by omega)
  refine⟨bif ay xs then xs else [], -1,0,1,?_,?_,?_,?_,(fun q=>by cases q),(fun _=>by decide)⟩
  ·unfold dC
   simp only[h2,cond_true,Option.bind_some,eIx]
  ·unfold dy
   simp only[pSx,Option.bind_some]
   cases ay xs with
   |false=>simp only[cond_false,h2,cond_true]
   |true=>simp only[cond_true,cs,h2,Option.bind_some]
  ·cases ay xs with
   |false=>exact Nat.zero_le _
   |true=>exact hx
  ·intro q
   rw[q]
   exact⟨q,⟨[],by simp⟩,fun _=>rfl⟩
section
variable{xs ys:List af}{c t:Int}
theorem lZ (hx:xs.length≤500) (h:d6 xs 1 c 0=some (ys,t)):ct N0 (xs,c)=some (ys,t):=by rw[pM hx,h];rfl
theorem wF (hx:xs.length≤500) (h:d6 xs 1 c 0=none):ct N0 (xs,c)=some (xs, -1):=by rw[pM hx,h];rfl
theorem lY (hp:ay xs=true) (h:d6 xs 1 c 0=some (ys,t)):ci N0 (xs,c)=some (ys,t):=by rw[pm hp,h];rfl
theorem wE (hp:ay xs=true) (h:d6 xs 1 c 0=none):ci N0 (xs,c)=some (xs, -1):=by rw[pm hp,h];rfl
variable{k a b:Int}
theorem tS (hx:xs.length≤500) (h:d6 xs k a b=some (ys,t)):cb N0 (xs,k,a,b)=some (ys,t):=by rw[ej hx,h];rfl
theorem mf (hx:xs.length≤500) (h:d6 xs k a b=none):cb N0 (xs,k,a,b)=some (xs, -1):=by rw[ej hx,h];rfl
theorem tR (hp:ay xs=true) (h:d6 xs k a b=some (ys,t)):bN N0 (xs,k,a,b)=some (ys,t):=by rw[c7 hp,h];rfl
theorem xx (hp:ay xs=true) (h:d6 xs k a b=none):bN N0 (xs,k,a,b)=some (xs, -1):=by rw[c7 hp,h];rfl
theorem nJ (hp:ay xs=true) (hk:k=2∨k=3∨k=6) (h:a<0∨b<0):d6 xs k a b=none:=by
 cases hA:d6 xs k a b with
 |none=>rfl
 |some p =>
  obtain⟨ys,t⟩:=p
  obtain⟨g1,g2,g3,g4,g5⟩:=bE hp hA
  have hl:=ax g1
  have hn:=wq g1 (j:=t.toNat) (by omega)
  have hne:mU k a b=(k,(a,b)):=by
   unfold mU
   rw[show(k==8)=false from by rw[beq_eq_false_iff_ne];omega];rfl
  have hz:ys.getD t.toNat cn=(k,(a,b)):=g5.trans hne
  rcases vj (by omega) hn with⟨q,_⟩|⟨q,_⟩|⟨_,q1,q2,q3,q4⟩
  ·rw[hz]at q;dsimp only at q;omega
  ·rw[hz]at q;dsimp only at q;omega
  ·rw[hz]at q1 q3;dsimp only at q1 q3;omega
end
theorem rI{xs:List af}(hp:ay xs=true):cQ N0 xs=some xs:=by
 have hl:=ax hp
 have pIx:=mG N0 n0 (xs:=xs) (by omega)
 change dD N0 xs=some (ay xs)at pIx
 unfold cQ
 rw[pIx,hp,Option.bind_some,Bool.not_true,cond_false,jz (by omega),Option.bind_some]
def yb (xs:List af) (k s v:Int):Option (List af×Int) :=
 match d6 xs 1 (20+s) 0 with
 |none=>none
 |some (m1,a)=>match d6 m1 2 a v with
  |none=>none
  |some (m2,b)=>d6 m2 3 b k
theorem uY{xs ys:List af}{k s v t:Int}(hp:ay xs=true) (h:yb xs k s v=some (ys,t)):ay ys=true∧bQ ys t=true∧∃zs,ys=xs++zs:=by
 unfold yb at h
 cases h1:d6 xs 1 (20+s) 0 with
 |none=>rw[h1]at h;cases h
 |some p1 =>
  obtain⟨m1,a⟩:=p1
  rw[h1]at h
  dsimp only at h
  obtain⟨g1,g2,g3,⟨z1,g4⟩,g5⟩:=bE hp h1
  cases h2:d6 m1 2 a v with
  |none=>rw[h2]at h;cases h
  |some p2 =>
   obtain⟨m2,b⟩:=p2
   rw[h2]at h
   dsimp only at h
   obtain⟨e1,e2,e3,⟨z2,e4⟩,e5⟩:=bE g1 h2
   obtain⟨f1,f2,f3,⟨z3,f4⟩,f5⟩:=bE e1 h
   exact⟨f1,aV.2 ⟨f2,f3⟩,⟨z1++(z2++z3),by rw[f4,e4,g4];simp⟩⟩
theorem zK{xs:List af}{k t s v:Int}{d:Bool}(hp:ay xs=true) (hs:0≤s∧s≤20) :
  (∃ys u,yb xs k s v=some (ys,u)∧ei N0 (k,t,s,d,xs,v)=some (k,t,s,d,ys,u)∧fO N0 (xs,k,t,s,d,v)=some (ys,u)∧0≤u) ∨
  (∃m,yb xs k s v=none∧ei N0 (k,t,s,d,xs,v)=some (k,t,s,d,m, -1)∧fO N0 (xs,k,t,s,d,v)=some (xs, -1)):=by
 have hl:=ax hp
 have w1:IntKind.i64.wrap ((20:Int)+s)=20+s:=ao (by omega) (by omega)
 have hm1:decide ((-1:Int)<0)=true:=rfl
 unfold yb ei gJ fO
 dsimp only
 rw[w1]
 cases h1:d6 xs 1 (20+s) 0 with
 |none =>
  right
  have b1:=nJ (xs:=xs) (k:=2) (a:=-1) (b:=v) hp (by omega) (by omega)
  have b2:=nJ (xs:=xs) (k:=3) (a:=-1) (b:=k) hp (by omega) (by omega)
  refine⟨xs,rfl,?_,?_⟩
  ·simp only[wF hl h1,mf hl b1,mf hl b2,Option.bind_some]
  ·simp only[wE hp h1,Option.bind_some,hm1,cond_true]
 |some p1 =>
  obtain⟨m1,a⟩:=p1
  obtain⟨g1,g2,g3,⟨z1,g4⟩,g5⟩:=bE hp h1
  have hl1:=ax g1
  have ha:decide (a<(0:Int))=false:=decide_eq_false (by omega)
  dsimp only
  cases h2:d6 m1 2 a v with
  |none =>
   right
   have b2:=nJ (xs:=m1) (k:=3) (a:=-1) (b:=k) g1 (by omega) (by omega)
   refine⟨m1,rfl,?_,?_⟩
   ·simp only[lZ hl h1,mf hl1 h2,mf hl1 b2,Option.bind_some]
   ·simp only[lY hp h1,xx g1 h2,Option.bind_some,hm1,ha,cond_true,cond_false]
  |some p2 =>
   obtain⟨m2,b⟩:=p2
   obtain⟨e1,e2,e3,⟨z2,e4⟩,e5⟩:=bE g1 h2
   have hl2:=ax e1
   have hb:decide (b<(0:Int))=false:=decide_eq_false (by omega)
   dsimp only
   cases h3:d6 m2 3 b k with
   |none =>
    right
    refine⟨m2,rfl,?_,?_⟩
    ·simp only[lZ hl h1,tS hl1 h2,mf hl2 h3,Option.bind_some]
    ·simp only[lY hp h1,tR g1 h2,xx e1 h3,Option.bind_some,hm1,ha,hb,cond_true,cond_false]
   |some p3 =>
    obtain⟨m3,u⟩:=p3
    obtain⟨f1,f2,f3,⟨z3,f4⟩,f5⟩:=bE e1 h3
    have hu:decide (u<(0:Int))=false:=decide_eq_false (by omega)
    left
    refine⟨m3,u,rfl,?_,?_,f2⟩
    ·simp only[lZ hl h1,tS hl1 h2,tS hl2 h3,Option.bind_some]
    ·simp only[lY hp h1,tR g1 h2,tR e1 h3,Option.bind_some,ha,hb,hu,cond_false]
def yP (t:Int):Bool:=decide (t≥0)&&decide (t≤20)
theorem yO{t:Int}:yP t=true↔0≤t∧t≤20:=by
 unfold yP
 rw[Bool.and_eq_true,decide_eq_true_iff,decide_eq_true_iff]
def gH (xs:List af) (k t s:Int):Bool:=bQ xs k&&(yP t&&yP s)
theorem dJ{xs:List af}{k t s:Int}:gH xs k t s=true↔bQ xs k=true∧(0≤t∧t≤20)∧(0≤s∧s≤20):=by
 unfold gH
 rw[Bool.and_eq_true,Bool.and_eq_true,yO,yO]
theorem wO{xs:List af}(hx:xs.length≤4294967296) (k t s:Int) (d:Bool):fQ N0 (xs,k,t,s,d)=some (gH xs k t s):=by
 unfold fQ gH yP
 dsimp only
 simp only[rT N0 hx,KU,Option.bind_some]
 cases bQ xs k<;>cases(decide (t≥0)&&decide (t≤20))<;>rfl
theorem kJ{xs:List af}(hx:xs.length≤4294967296) (k t s:Int) (d:Bool):dW N0 (xs,k,t,s,d)=some (gH xs k t s&&ay xs):=by
 have pIx:=mG N0 n0 hx
 change dD N0 xs=some (ay xs)at pIx
 unfold dW gH yP
 dsimp only
 simp only[lU N0 hx,jg,pIx,Option.bind_some]
 cases bQ xs k<;>cases(decide (t≥0)&&decide (t≤20))<;>cases(decide (s≥0)&&decide (s≤20))<;>rfl
theorem AX{xs:List af}(hx:xs.length≤4294967296) (k t s:Int) (d:Bool):kG N0 (xs,k,t,s,d)=some (ay xs&&gH xs k t s):=by
 have pSx:=pj N0 n0 hx
 change dU N0 xs=some (ay xs)at pSx
 unfold kG
 dsimp only
 simp only[wO hx,pSx,Option.bind_some]
 cases ay xs<;>rfl
theorem E0{xs:List af}{k t s v:Int}{d:Bool}(hp:ay xs=true) (hk:gH xs k t s=true) :
  (∃ys u,gp N0 (xs,k,t,s,d,v)=some (ys,k,t,s+1,d,u)∧gW N0 (xs,k,t,s,d,v)=some (ys,k,t,s+1,d,u)∧ay ys=true∧bQ ys u=true∧s<20∧bQ xs v=true∧∃zs,ys=xs++zs) ∨
  (gp N0 (xs,k,t,s,d,v)=some (xs,k,t,s,d, -1)∧gW N0 (xs,k,t,s,d,v)=some (xs,k,t,s,d, -1)):=by
 have hl:=ax hp
 obtain⟨h1,h2,h3⟩:=dJ.1 hk
 have w1:IntKind.i64.wrap (s+(1:Int))=s+1:=ao (by omega) (by omega)
 have hm1:decide ((-1:Int)<0)=true:=rfl
 have oe:=rI hp
 have ht:=lU N0 (xs:=xs) (by omega) v
 have hh:=rT N0 (xs:=xs) (by omega) v
 have lk:=kJ (xs:=xs) (by omega) k t s d
 rw[hk,hp]at lk
 unfold gp gW
 dsimp only
 rw[ht,hh]
 cases hv:bQ xs v with
 |false =>
  right
  simp only[Option.bind_some,Bool.not_false,cond_true,bC,ca,oe,and_self]
 |true =>
  have hib:=fC hv
  simp only[Option.bind_some,Bool.not_true,cond_false,jj,hib,cond_true,dh,lk,Bool.and_self]
  generalize hN:((xs.getD v.toNat cn).1==(1:Int)&&((xs.getD v.toNat cn).2.1==(8:Int)&&((xs.getD v.toNat cn).2.2==(0:Int)&&true)))=nm
  cases nm with
  |true =>
   right
   simp only[cond_true,bC,ca,oe,Option.bind_some,and_true]
   cases d<;>cases(s==(20:Int))<;>rfl
  |false =>
   simp only[cond_false]
   cases d with
   |true =>
    right
    simp only[cond_true,bC,ca,oe,Option.bind_some,and_self]
   |false =>
    simp only[cond_false]
    cases hs:(s==(20:Int))with
    |true =>
     right
     simp only[cond_true,bC,ca,oe,Option.bind_some,and_self]
    |false =>
     have hs20:s≠20:=by rw[beq_eq_false_iff_ne]at hs;exact hs
     simp only[cond_false,jz (show xs.length≤4294967296 by omega),Option.bind_some]
     rcases zK (xs:=xs) (k:=k) (t:=t) (s:=s) (v:=v) (d:=false) hp h3 with⟨ys,u,q0,q1,q2,q3⟩|⟨m,q0,q1,q2⟩
     ·left
      obtain⟨f1,f2,f3⟩:=uY hp q0
      refine⟨ys,u,?_,?_,f1,f2,by omega,by first|rfl|trivial,f3⟩
      ·simp only[q1,Option.bind_some,decide_eq_false (show ¬u<0 by omega),(show decide (u<(0:Int))=false from decide_eq_false (by omega)),cond_false,iq,w1]
      ·simp only[q2,Option.bind_some,(show decide (u<(0:Int))=false from decide_eq_false (by omega)),cond_false,iX,w1]
     ·right
      refine⟨?_,?_⟩
      ·simp only[q1,Option.bind_some,hm1,cond_true,ir,jz (show xs.length≤4294967296 by omega)]
      ·simp only[q2,Option.bind_some,hm1,cond_true,iY]
theorem Dm{xs:List af}{k t s:Int}{d:Bool}(hp:ay xs=true) (hk:gH xs k t s=true) :
  (∃ys u,it N0 (xs,k,t,s,d)=some (ys,k,t,s,true,u)∧gk N0 (xs,k,t,s,d)=some (ys,k,t,s,true,u)∧ay ys=true∧bQ ys u=true∧∃zs,ys=xs++zs) ∨
  (it N0 (xs,k,t,s,d)=some (xs,k,t,s,d, -1)∧gk N0 (xs,k,t,s,d)=some (xs,k,t,s,d, -1)):=by
 have hl:=ax hp
 obtain⟨h1,h2,h3⟩:=dJ.1 hk
 have hm1:decide ((-1:Int)<0)=true:=rfl
 have oe:=rI hp
 have lk:=kJ (xs:=xs) (by omega) k t s d
 rw[hk,hp]at lk
 unfold it gk ko
 dsimp only
 rw[lk]
 cases d with
 |true =>
  right
  simp only[cond_true,dL,dY,oe,Option.bind_some,and_self]
 |false =>
  simp only[cond_false]
  cases hs:(s==(20:Int))with
  |true =>
   right
   simp only[cond_true,dL,dY,oe,Option.bind_some,and_self]
  |false =>
   simp only[cond_false,jz (show xs.length≤4294967296 by omega),Option.bind_some,Bool.and_self,Bool.not_true]
   cases hN:d6 xs 1 8 0 with
   |none =>
    right
    have b1:∀a,d6 xs 2 a (-1)=none:=fun a=>nJ hp (by omega) (by omega)
    refine⟨?_,?_⟩
    ·rcases zK (xs:=xs) (k:=k) (t:=t) (s:=s) (v:=-1) (d:=false) hp h3 with⟨ys,u,q0,q1,q2,q3⟩|⟨m,q0,q1,q2⟩
     ·exfalso
      unfold yb at q0
      cases z1:d6 xs 1 (20+s) 0 with
      |none=>rw[z1]at q0;cases q0
      |some p1 =>
       obtain⟨m1,a⟩:=p1
       rw[z1]at q0
       dsimp only at q0
       rw[nJ (bE hp z1).1 (by omega) (by omega)]at q0
       cases q0
     ·simp only[wF hl hN,q1,Option.bind_some,hm1,cond_true,gj,jz (show xs.length≤4294967296 by omega)]
    ·simp only[wE hp hN,Option.bind_some,hm1,cond_true,gY]
   |some p =>
    obtain⟨m0,v⟩:=p
    obtain⟨g1,g2,g3,⟨z1,g4⟩,g5⟩:=bE hp hN
    have hv0:decide (v<(0:Int))=false:=decide_eq_false (by omega)
    rcases zK (xs:=m0) (k:=k) (t:=t) (s:=s) (v:=v) (d:=false) g1 h3 with⟨ys,u,q0,q1,q2,q3⟩|⟨m,q0,q1,q2⟩
    ·left
     obtain⟨f1,f2,⟨z2,f3⟩⟩:=uY g1 q0
     refine⟨ys,u,?_,?_,f1,f2,⟨z1++z2,by rw[f3,g4];simp⟩⟩
     ·simp only[lZ hl hN,q1,Option.bind_some,(show decide (u<(0:Int))=false from decide_eq_false (by omega)),cond_false,jb]
     ·simp only[lY hp hN,q2,hv0,Option.bind_some,(show decide (u<(0:Int))=false from decide_eq_false (by omega)),cond_false,gC]
    ·right
     refine⟨?_,?_⟩
     ·simp only[lZ hl hN,q1,Option.bind_some,hm1,cond_true,gj,jz (show xs.length≤4294967296 by omega)]
     ·simp only[lY hp hN,q2,hv0,Option.bind_some,hm1,cond_true,cond_false,gX]
theorem x9{xs:List af}{k t s:Int}{d:Bool}(hp:ay xs=true) (hk:gH xs k t s=true) :
  (∃ys u,eV N0 (xs,k,t,s,d)=some (ys,u,t+1,0,false,true)∧fP N0 (xs,k,t,s,d)=some (ys,u,t+1,0,false,true)∧ay ys=true∧bQ ys u=true∧t<20∧∃zs,ys=xs++zs) ∨
  (eV N0 (xs,k,t,s,d)=some (xs,k,t,s,d,false)∧fP N0 (xs,k,t,s,d)=some (xs,k,t,s,d,false)):=by
 have hl:=ax hp
 obtain⟨h1,h2,h3⟩:=dJ.1 hk
 have w1:IntKind.i64.wrap (t+(1:Int))=t+1:=ao (by omega) (by omega)
 have hm1:decide ((-1:Int)<0)=true:=rfl
 have oe:=rI hp
 have lk:=kJ (xs:=xs) (by omega) k t s d
 rw[hk,hp]at lk
 unfold eV fP
 dsimp only
 rw[lk]
 cases d with
 |true =>
  right
  simp only[cond_true,dj,eI,oe,Option.bind_some,and_self]
 |false =>
  simp only[cond_false]
  cases hs:(t==(20:Int))with
  |true =>
   right
   simp only[cond_true,dj,eI,oe,Option.bind_some,and_self]
  |false =>
   have ht20:t≠20:=by rw[beq_eq_false_iff_ne]at hs;exact hs
   simp only[cond_false,jz (show xs.length≤4294967296 by omega),Option.bind_some,Bool.and_self,Bool.not_true,ip]
   cases hN:d6 xs 1 7 0 with
   |none =>
    right
    have b1:=nJ (xs:=xs) (k:=6) (a:=k) (b:=-1) hp (by omega) (by omega)
    refine⟨?_,?_⟩
    ·simp only[wF hl hN,mf hl b1,Option.bind_some,hm1,cond_true,fB,jz (show xs.length≤4294967296 by omega)]
    ·simp only[wE hp hN,Option.bind_some,hm1,cond_true,iW]
   |some p =>
    obtain⟨m0,v⟩:=p
    obtain⟨g1,g2,g3,⟨z1,g4⟩,g5⟩:=bE hp hN
    have hl0:=ax g1
    have hv0:decide (v<(0:Int))=false:=decide_eq_false (by omega)
    cases hA:d6 m0 6 k v with
    |none =>
     right
     refine⟨?_,?_⟩
     ·simp only[lZ hl hN,mf hl0 hA,Option.bind_some,hm1,cond_true,fB,jz (show xs.length≤4294967296 by omega)]
     ·simp only[lY hp hN,xx g1 hA,hv0,Option.bind_some,hm1,cond_true,cond_false,iV]
    |some p2 =>
     obtain⟨ys,u⟩:=p2
     obtain⟨f1,f2,f3,⟨z2,f4⟩,f5⟩:=bE g1 hA
     left
     refine⟨ys,u,?_,?_,f1,aV.2 ⟨f2,f3⟩,by omega,⟨z1++z2,by rw[f4,g4];simp⟩⟩
     ·simp only[lZ hl hN,tS hl0 hA,Option.bind_some,(show decide (u<(0:Int))=false from decide_eq_false (by omega)),cond_false,io,w1]
     ·simp only[lY hp hN,tR g1 hA,hv0,Option.bind_some,(show decide (u<(0:Int))=false from decide_eq_false (by omega)),cond_false,iU,w1]
theorem BY{xs:List af}(hp:ay xs=true){p:Int}(h:bQ xs p=true){k:Int}(hk:(xs.getD p.toNat cn).1=k) (h2:k=2∨k=3):bQ xs (xs.getD p.toNat cn).2.1=true∧bQ xs (xs.getD p.toNat cn).2.2=true:=nv hp h (by omega)
theorem xS{xs:List af}{k t s v:Int}{d:Bool}(hp:ay xs=true) (hk:gH xs k t s=true) :
  ∃s' d' u c,iN N0 (xs,k,t,s,d,v)=some (k,t,s',d',u,c)∧iG N0 (xs,k,t,s,d,v)=some (k,t,s',d',u,c)∧0≤s'∧s'≤20∧(0≤u→bQ xs u=true∧c=0):=by
 have hl:=ax hp
 obtain⟨h1,h2,h3⟩:=dJ.1 hk
 have ht:=lU N0 (xs:=xs) (by omega) v
 have hh:=rT N0 (xs:=xs) (by omega) v
 have lk:=kJ (xs:=xs) (by omega) k t s d
 have lk2:=AX (xs:=xs) (by omega) k t s d
 rw[hk,hp]at lk lk2
 unfold iN iG
 dsimp only
 simp only[ht,hh,lk,lk2,Option.bind_some,Bool.and_self,Bool.not_true,cond_false]
 cases hv:bQ xs v with
 |false =>
  exact⟨s,d, -1,4,rfl,rfl,h3.1,h3.2,fun q=>by omega⟩
 |true =>
  have hib:=fC hv
  simp only[Bool.not_true,cond_false,hib,cond_true,Option.bind_some,dh,gK,gD,jj]
  cases d with
  |true=>exact⟨s,true, -1,3,rfl,rfl,h3.1,h3.2,fun q=>by omega⟩
  |false =>
   simp only[cond_false]
   cases q3:((xs.getD v.toNat cn).1 != (3:Int))with
   |true=>exact⟨s,false, -1,1,rfl,rfl,h3.1,h3.2,fun q=>by omega⟩
   |false =>
    have e3:(xs.getD v.toNat cn).1=3:=by simpa using q3
    obtain⟨o1,o2⟩:=BY hp hv e3 (.inr rfl)
    have ib1:=fC o1
    simp only[cond_false]
    cases qk:((xs.getD v.toNat cn).2.2 != k)with
    |true=>exact⟨s,false, -1,1,rfl,rfl,h3.1,h3.2,fun q=>by omega⟩
    |false =>
     simp only[cond_false,ib1,cond_true]
     cases q2:((xs.getD ((xs.getD v.toNat cn).2.1).toNat cn).1 != (2:Int))with
     |true=>exact⟨s,false, -1,1,rfl,rfl,h3.1,h3.2,fun q=>by omega⟩
     |false =>
      have e2:(xs.getD ((xs.getD v.toNat cn).2.1).toNat cn).1=2:=by simpa using q2
      obtain⟨o3,o4⟩:=BY hp o1 e2 (.inl rfl)
      have ib3:=fC o3
      have ib4:=fC o4
      simp only[cond_false,ib3,ib4,cond_true,Option.bind_some]
      generalize hG:((xs.getD ((xs.getD ((xs.getD v.toNat cn).2.1).toNat cn).2.1).toNat cn).1==(1:Int)&&((xs.getD ((xs.getD ((xs.getD v.toNat cn).2.1).toNat cn).2.1).toNat cn).2.1==(IntKind.i64.wrap ((20:Int)+s))&&((xs.getD ((xs.getD ((xs.getD v.toNat cn).2.1).toNat cn).2.1).toNat cn).2.2==(0:Int)&&true)))=g
      generalize hE:((xs.getD ((xs.getD ((xs.getD v.toNat cn).2.1).toNat cn).2.2).toNat cn).1==(1:Int)&&((xs.getD ((xs.getD ((xs.getD v.toNat cn).2.1).toNat cn).2.2).toNat cn).2.1==(8:Int)&&((xs.getD ((xs.getD ((xs.getD v.toNat cn).2.1).toNat cn).2.2).toNat cn).2.2==(0:Int)&&true)))=e
      cases hs:(s==(20:Int))with
      |true =>
       refine⟨s,false, -1,2,rfl,?_,h3.1,h3.2,fun q=>by omega⟩
       cases g<;>rfl
      |false =>
       have hs20:s≠20:=by rw[beq_eq_false_iff_ne]at hs;exact hs
       have w1:IntKind.i64.wrap (s+(1:Int))=s+1:=ao (by omega) (by omega)
       cases g with
       |false=>exact⟨s,false, -1,2,rfl,rfl,h3.1,h3.2,fun q=>by omega⟩
       |true =>
        cases e with
        |true=>exact⟨s,true, -1,0,rfl,rfl,h3.1,h3.2,fun q=>by omega⟩
        |false =>
         refine⟨s+1,false,(xs.getD ((xs.getD v.toNat cn).2.1).toNat cn).2.2,0,?_,?_,by omega,by omega,fun _=>⟨o4,rfl⟩⟩
         ·simp only[Bool.not_true,cond_false,w1]
         ·simp only[Bool.not_true,cond_false,w1]
theorem pv {α:Type}{xs:List α}(h:xs.length≤1000000){k:α}:dN (xs.length+[k].length)=true:=by
 unfold dN
 simp
 omega
def oV (v:Int):Bool→List Int→List Int×Bool
 |b,[]=>([],b)
 |true,x::r=>(x::r,true)
 |false,x::r=>if v<x then(v::x::r,true)else(x::(oV v false r).1,(oV v false r).2)
theorem CQ (v:Int) (r:List Int):oV v true r=(r,true):=by cases r<;>rfl
theorem Bb (v:Int):∀(r pre out:List Int) (b:Bool) (m:Nat),r.length<m→pre.length+r.length≤1000→out.length+2*r.length≤100000→aQ N0 m (pre++r,v,out,b,(pre.length:Int))=some (v,out++(oV v b r).1,(oV v b r).2)
 |[],pre,out,b,m,hm,hl,ho=>by
  obtain⟨i,rfl⟩:∃i,m=i+1:=⟨m-1,by omega⟩
  rw[aQ]
  dsimp only
  rw[C7,cond_false]
  cases b<;>simp[oV]
 |x::r,pre,out,b,m,hm,hl,ho=>by
  obtain⟨i,rfl⟩:∃i,m=i+1:=⟨m-1,by omega⟩
  have hl':pre.length+(r.length+1)≤1000:=hl
  have hm':r.length+1<i+1:=hm
  have w:IntKind.i64.wrap ((pre.length:Int)+1)=((pre++[x]).length:Int):=by rw[ao (by omega) (by omega),Ab]
  have ho2:out.length+2*(r.length+1)≤100000:=ho
  have go:∀out' b',out'.length+2*r.length≤100000→aQ N0 i (pre++x::r,v,out',b',((pre++[x]).length:Int))=some (v,out'++(oV v b' r).1,(oV v b' r).2):=fun out' b' ho'=>by
   rw[AC]
   exact Bb v r (pre++[x]) out' b' i (by omega) (by simp;omega) ho'
  rw[aQ]
  dsimp only
  rw[C6,cond_true,Da,Int.toNat_natCast,An]
  simp only[cond_true,w]
  cases b with
  |true =>
   simp only[Bool.not_true,cond_false,pv (show out.length≤1000000 by omega),cond_true]
   rw[go _ _ (by simp;omega)]
   simp[oV,CQ]
  |false =>
   simp only[Bool.not_false,cond_true]
   by_cases hx:v<x
   ·simp only[decide_eq_true (show x>v from hx),cond_true,pv (show out.length≤1000000 by omega),pv (show(out++[v]).length≤1000000 by simp;omega)]
    rw[go _ _ (by simp;omega),oV,if_pos hx,CQ]
    simp
   ·simp only[decide_eq_false (show ¬x>v from hx),cond_false,cond_true,pv (show out.length≤1000000 by omega)]
    rw[go _ _ (by simp;omega),oV,if_neg hx]
    simp
theorem Bf (v:Int):∀{r:List Int},v∉r→(bif (oV v false r).2 then(oV v false r).1 else(oV v false r).1++[v])=oD v r
 |[],_=>rfl
 |x::r,h=>by
  rw[oV,oD]
  by_cases hx:v<x
  ·rw[if_pos hx,if_neg (by omega)];rfl
  ·have hne:v≠x:=fun q=>h (q▸List.mem_cons_self ..)
   rw[if_neg hx,if_pos (by omega), ←Bf v (fun q=>h (List.mem_cons_of_mem _ q))]
   dsimp only
   cases(oV v false r).2<;>rfl
theorem BU (v:Int):∀(r:List Int),(oD v r).length=r.length+1
 |[]=>rfl
 |x::r=>by
  rw[oD]
  split
  ·rw[List.length_cons,BU v r,List.length_cons]
  ·rfl
theorem wX{l:List Int}{v:Int}:yT l v=l.contains v:=by
 rw[Bool.eq_iff_iff,List.contains_iff_mem,yS,List.mem_iff_getElem]
 constructor
 ·rintro ⟨j,hj,e⟩
  exact⟨j,hj,by rw[←e];simp[List.getD_eq_getElem?_getD,hj]⟩
 ·rintro ⟨j,hj,e⟩
  exact⟨j,hj,by rw[←e];simp[List.getD_eq_getElem?_getD,hj]⟩
theorem Mh{l:List Int}(h:∀u,u<l.length→xp l u=true):l.Pairwise (·<·):=by
 rw[List.pairwise_iff_getElem]
 intro i j hi hj hij
 have step:∀k,i+1+k<l.length→l.getD i 0<l.getD (i+1+k) 0:=by
  intro k
  induction k with
  |zero =>
   intro hk
   have:=h (i+1) hk
   unfold xp at this
   rw[decide_eq_false (by omega:¬i+1=0),Bool.false_or,decide_eq_true_iff]at this
   exact this
  |succ k ih =>
   intro hk
   have h1:=ih (by omega)
   have:=h (i+1+(k+1)) hk
   unfold xp at this
   rw[decide_eq_false (by omega:¬i+1+(k+1)=0),Bool.false_or,decide_eq_true_iff]at this
   have e:i+1+(k+1)-1=i+1+k:=by omega
   rw[e]at this
   omega
 have:=step (j-(i+1)) (by omega)
 have e:i+1+(j-(i+1))=j:=by omega
 rw[e]at this
 have e1:l.getD i 0=l[i]:=by simp[List.getD_eq_getElem?_getD,hi]
 have e2:l.getD j 0=l[j]:=by simp[List.getD_eq_getElem?_getD,hj]
 rw[e1,e2]at this
 exact this
theorem s9{xs:List af}{k:List Int}(h:iM xs k=true):k.Pairwise (·<·):=Mh (fun u hu=>by
 have:=yK h u hu
 unfold gr at this
 exact(Bool.and_eq_true _ _▸this).2)
def pA (kn:List Int) (v:Int):List Int:=bif kn.contains v then kn else oD v kn
theorem Ba{xs:List af}{kn:List Int}(h:iM xs kn=true) (v:Int) :
  gO N0 (kn,v)=some (pA kn v)∧jn (kn,v)=some (bif decide ((pA kn v).length≤200)then(pA kn v,true)else(kn,false))∧(pA kn v).length≤201:=by
 have hl:=(lT.1 h).2.1
 have pw:=s9 h
 have pw':kn.Pairwise (·≤·):=pw.imp (fun q=>by omega)
 unfold pA gO jn
 dsimp only
 rw[wQ (by omega),Option.bind_some,wX,if_pos ⟨by omega,pw'⟩]
 have hlp:=Bb v kn [] [] (kn.contains v) N0 (by have:=n0;omega) (by simp;omega) (by simp;omega)
 have hlp':aQ N0 N0 (kn,v,([]:List Int),kn.contains v,(0:Int))=_:=hlp
 rw[hlp',Option.bind_some]
 dsimp only
 cases hc:kn.contains v with
 |true =>
  rw[CQ]
  refine⟨rfl,?_,by simpa using(by omega:kn.length≤201)⟩
  rw[if_pos rfl,cond_true,decide_eq_true hl];rfl
 |false =>
  have hnm:v∉kn:=fun q=>by rw[List.contains_iff_mem.2 q]at hc;cases hc
  have hi:=Bf v hnm
  have hil:=BU v kn
  rw[if_neg (by simp),cond_false]
  refine⟨?_,?_,by omega⟩
  ·cases hb:(oV v false kn).2 with
   |true =>
    rw[hb,cond_true]at hi
    rw[←hi];rfl
   |false =>
    rw[hb,cond_false]at hi
    have:(oV v false kn).1.length≤1000000:=by
     have:=congrArg List.length hi
     simp at this
     omega
    simp only[List.nil_append,Bool.not_false,cond_true,pv this,hi]
  ·by_cases q:200≤kn.length
   ·rw[if_pos q,decide_eq_false (by omega:¬(oD v kn).length≤200)];rfl
   ·rw[if_neg q,decide_eq_true (by omega:(oD v kn).length≤200)];rfl
def js (xs:List af) (l:List Int):Bool:=o9 (fun j=>bQ xs (l.getD j 0)) 0 l.length&&decide (l.length≤60)
theorem sH{xs:List af}(hx:xs.length≤4294967296){l:List Int}(hl:l.length≤4294967296):iF N0 (xs,l)=some (js xs l):=by
 have:=lR (bk N0) (fun i=>(l,xs,(i:Int))) (fun j=>bQ xs (l.getD j 0)) false l l.length (fun m i hi=>by
  rw[bk];dsimp only
  rw[z8 hi,cond_true,aH hi,cond_true,rT N0 hx,Option.bind_some,Int.toNat_natCast,dI hi hl]
  cases bQ xs (l.getD i 0)<;>rfl) (fun m=>by
  rw[bk];dsimp only;rw[z9];rfl) N0 0 (Nat.zero_le _) (by have:=n0;omega)
 rw[Nat.sub_zero]at this
 show((bk N0 N0 (l,xs,(0:Int))).bind _)=_
 rw[show bk N0 N0 (l,xs,(0:Int))=_ from this]
 unfold js
 cases o9 (fun j=>bQ xs (l.getD j 0)) 0 l.length with
 |false=>rfl
 |true =>
  have e:decide ((l.length:Int)≤(60:Int))=decide (l.length≤60):=by
   rw[Bool.eq_iff_iff,decide_eq_true_iff,decide_eq_true_iff];omega
  simp only[cond_true,Option.bind_some,e,Bool.true_and]
theorem tb{xs:List af}(hx:xs.length≤4294967296){l:List Int}(hl:l.length≤4294967296) (kn:List Int) (k t s:Int) (d:Bool) (k2 t2 s2:Int) (d2:Bool) (se go:List Int):dO N0 (xs,kn,k,t,s,d,k2,t2,s2,d2,se,go,l)=some (xs,kn,k,t,s,d,k2,t2,s2,d2,se,go,js xs l):=by
 have:=lR (aC N0) (fun i=>(xs,kn,k,t,s,d,k2,t2,s2,d2,se,go,l,l,(l.length:Int),(i:Int))) (fun j=>bQ xs (l.getD j 0)) (xs,kn,k,t,s,d,k2,t2,s2,d2,se,go,false) (xs,kn,k,t,s,d,k2,t2,s2,d2,se,go,l) l.length (fun m i hi=>by
  rw[aC];dsimp only
  rw[z8 hi,cond_true,aH hi,cond_true,lU N0 hx,Option.bind_some,Int.toNat_natCast,dI hi hl]
  cases bQ xs (l.getD i 0)<;>rfl) (fun m=>by
  rw[aC];dsimp only;rw[z9];rfl) N0 0 (Nat.zero_le _) (by have:=n0;omega)
 rw[Nat.sub_zero]at this
 show((aC N0 N0 (xs,kn,k,t,s,d,k2,t2,s2,d2,se,go,l,l,(l.length:Int),(0:Int))).bind _)=_
 rw[show aC N0 N0 (xs,kn,k,t,s,d,k2,t2,s2,d2,se,go,l,l,(l.length:Int),(0:Int))=_ from this]
 unfold js
 cases o9 (fun j=>bQ xs (l.getD j 0)) 0 l.length with
 |false=>rfl
 |true =>
  have e:decide ((l.length:Int)≤(60:Int))=decide (l.length≤60):=by
   rw[Bool.eq_iff_iff,decide_eq_true_iff,decide_eq_true_iff];omega
  simp only[cond_true,Option.bind_some,e,Bool.true_and]
def bT (xs:List af) (kn:List Int) (k t s k2 t2 s2:Int) (se go:List Int):Bool:=iM xs kn&&(gH xs k t s&&(gH xs k2 t2 s2&&(js xs se&&js xs go)))
section
variable{xs:List af}{kn:List Int}{k t s k2 t2 s2:Int}{d d2:Bool}{se go:List Int}
theorem iI (hx:xs.length≤4294967296) (hk:kn.length≤4294967296) (hs:se.length≤4294967296) (hg:go.length≤4294967296):cN N0 (xs,kn,k,t,s,d,k2,t2,s2,d2,se,go)=some (bT xs kn k t s k2 t2 s2 se go):=by
 have kSx:=uX hx hk
 change fI N0 (xs,kn)=some (iM xs kn)at kSx
 unfold cN bT
 dsimp only
 simp only[kSx,wO hx,sH hx hs,sH hx hg,Option.bind_some]
 cases iM xs kn<;>cases gH xs k t s<;>cases gH xs k2 t2 s2<;>cases js xs se<;>rfl
theorem mX (hx:xs.length≤4294967296) (hk:kn.length≤4294967296) (hs:se.length≤4294967296) (hg:go.length≤4294967296):dr N0 (xs,kn,k,t,s,d,k2,t2,s2,d2,se,go)=some (bT xs kn k t s k2 t2 s2 se go):=by
 have kIx:=vp hx hk
 change gS N0 (xs,kn)=some (iM xs kn)at kIx
 unfold dr bT
 dsimp only
 simp only[kIx,kJ hx,tb hx hs,tb hx hg,Option.bind_some]
 cases hv:iM xs kn with
 |false=>rfl
 |true =>
  rw[gR hv]
  cases gH xs k t s<;>cases gH xs k2 t2 s2<;>cases js xs se<;>rfl
theorem vq (hx:xs.length≤4294967296) (hk:kn.length≤4294967296) (hs:se.length≤4294967296) (hg:go.length≤4294967296):cW N0 (xs,kn,k,t,s,d,k2,t2,s2,d2,se,go)=some (xs,kn,k,t,s,d,k2,t2,s2,d2,se,go):=by
 unfold cW
 dsimp only
 simp only[jz hx,p5 hk,p5 hs,p5 hg,Option.bind_some]
theorem wg{l:List Int}(h:l.length≤4294967296):dN (([]:List Int).length+l.length)=true:=by
 unfold dN
 simp
 omega
theorem pn (hx:xs.length≤4294967296) (hk:kn.length≤4294967296) (hs:se.length≤4294967296) (hg:go.length≤4294967296):aZ N0 (xs,kn,k,t,s,d,k2,t2,s2,d2,se,go)=some (xs,kn,k,t,s,d,k2,t2,s2,d2,se,go):=by
 unfold aZ iT
 dsimp only
 simp only[xi hx,wg hk,wg hs,wg hg,Option.bind_some,cond_true,List.nil_append]
end
theorem qB{xs:List af}{k:List Int}(h:iM xs k=true):k.length≤200:=(lT.1 h).2.1
theorem nz{xs ys:List af}{v:Int}(h:bQ xs v=true) (e:∃zs,ys=xs++zs):bQ ys v=true:=by
 obtain⟨z,rfl⟩:=e
 exact fD h
theorem ii{xs ys:List af}{k t s:Int}(h:gH xs k t s=true) (e:∃zs,ys=xs++zs):gH ys k t s=true:=by
 obtain⟨h1,h2,h3⟩:=dJ.1 h
 exact dJ.2 ⟨nz h1 e,h2,h3⟩
theorem cg{xs:List af}{l:List Int}:js xs l=true↔(∀j,j<l.length→bQ xs (l.getD j 0)=true)∧l.length≤60:=by
 unfold js
 rw[Bool.and_eq_true,decide_eq_true_iff,p7]
 constructor
 ·rintro ⟨a,b⟩
  exact⟨fun j hj=>a j (Nat.zero_le _) (by omega),b⟩
 ·rintro ⟨a,b⟩
  exact⟨fun j _ hj=>a j (by omega),b⟩
theorem du{xs:List af}{kn:List Int}{k t s k2 t2 s2:Int}{se go:List Int}:bT xs kn k t s k2 t2 s2 se go=true↔iM xs kn=true∧gH xs k t s=true∧gH xs k2 t2 s2=true∧js xs se=true∧js xs go=true:=by
 unfold bT
 rw[Bool.and_eq_true,Bool.and_eq_true,Bool.and_eq_true,Bool.and_eq_true]
def Sw (xs:List af) (kn:List Int) (k t s k2 t2 s2:Int) (se go:List Int) (ys:List af) (kn':List Int) (k' t' s' k2' t2' s2':Int) (se' go':List Int):Prop :=
 ay ys=true∧(∃zs,ys=xs++zs)∧gH ys k' t' s'=true∧gH ys k2' t2' s2'=true ∧
 (kn'=kn∨∃u,kn'=pA kn u∧bQ ys u=true∧kn'.length≤200)∧(se'=se∨∃u,se'=se++[u]∧bQ ys u=true)∧(go'=go∨∃u,go'=go++[u]∧bQ ys u=true)
section
variable{xs:List af}{kn:List Int}{k t s k2 t2 s2:Int}{d d2:Bool}{se go:List Int}{act v:Int}{T:ByteArray}
def Gc (xs:List af) (kn:List Int) (k t s:Int) (d:Bool) (k2 t2 s2:Int) (d2:Bool) (se go:List Int) (ri rs:Option (List af×List Int×Int×Int×Int×Bool×Int×Int×Int×Bool×List Int×List Int×Bool)):Prop :=
 (∃ys kn' k' t' s' d' k2' t2' s2' d2' se' go',ri=some (ys,kn',k',t',s',d',k2',t2',s2',d2',se',go',true)∧rs=some (ys,kn',k',t',s',d',k2',t2',s2',d2',se',go',true)∧Sw xs kn k t s k2 t2 s2 se go ys kn' k' t' s' k2' t2' s2' se' go') ∨
 (∃y z:List af×List Int×Int×Int×Int×Bool×Int×Int×Int×Bool×List Int×List Int,ri=some (y.1,y.2.1,y.2.2.1,y.2.2.2.1,y.2.2.2.2.1,y.2.2.2.2.2.1,y.2.2.2.2.2.2.1,y.2.2.2.2.2.2.2.1,y.2.2.2.2.2.2.2.2.1,y.2.2.2.2.2.2.2.2.2.1,y.2.2.2.2.2.2.2.2.2.2.1,y.2.2.2.2.2.2.2.2.2.2.2,false)∧rs=some (z.1,z.2.1,z.2.2.1,z.2.2.2.1,z.2.2.2.2.1,z.2.2.2.2.2.1,z.2.2.2.2.2.2.1,z.2.2.2.2.2.2.2.1,z.2.2.2.2.2.2.2.2.1,z.2.2.2.2.2.2.2.2.2.1,z.2.2.2.2.2.2.2.2.2.2.1,z.2.2.2.2.2.2.2.2.2.2.2,false))
theorem FX (h:bT xs kn k t s k2 t2 s2 se go=true):Gc xs kn k t s d k2 t2 s2 d2 se go (fw N0 (xs,kn,k,t,s,d,k2,t2,s2,d2,se,go,v)) (cy N0 (xs,kn,k,t,s,d,k2,t2,s2,d2,se,go,(1:Int),v,T)):=by
 obtain⟨hk,h1,h2,h3,h4⟩:=du.1 h
 have hp:=gR hk
 have hl:=ax hp
 have hse:=(cg.1 h3).2
 have hgo:=(cg.1 h4).2
 have hm1:decide ((-1:Int)<0)=true:=rfl
 unfold fw ff fc cy
 dsimp only
 simp only[beq_self_eq_true,cond_true,pv (show se.length≤1000000 by omega)]
 rcases E0 (v:=v) (d:=d) hp h1 with⟨ys,u,q1,q2,q3,q4,q5,q6,q7⟩|⟨q1,q2⟩
 ·obtain⟨p1,p2,p3⟩:=Ba hk u
  have hu:=(aV.1 q4).1
  have hun:decide (u<(0:Int))=false:=decide_eq_false (by omega)
  simp only[q1,q2,Option.bind_some,cm,eM,gb,hun,cond_false,p1,p2]
  by_cases hc:(pA kn u).length≤200
  ·left
   have e:decide (((pA kn u).length:Int)≤(200:Int))=true:=decide_eq_true (by omega)
   refine⟨ys,pA kn u,k,t,s+1,d,k2,t2,s2,d2,se++[v],go,?_,?_,q3,q7,?_,ii h2 q7, .inr ⟨u,rfl,q4,hc⟩, .inr ⟨v,rfl,nz q6 q7⟩, .inl rfl⟩
   ·simp only[decide_eq_true hc,cond_true,Bool.not_true,cond_false,pv (show se.length≤1000000 by omega)]
   ·simp only[e]
   ·obtain⟨l1,l2,l3⟩:=dJ.1 h1
    exact dJ.2 ⟨nz l1 q7,l2,by omega,by omega⟩
  ·have e:decide (((pA kn u).length:Int)≤(200:Int))=false:=decide_eq_false (by omega)
   refine .inr ⟨(ys,kn,k,t,s+1,d,k2,t2,s2,d2,se,go),(ys,pA kn u,k,t,s+1,d,k2,t2,s2,d2,se++[v],go),?_,?_⟩
   ·simp only[decide_eq_false hc,cond_true,Bool.not_false,cond_false]
   ·simp only[e]
 ·refine .inr ⟨(xs,kn,k,t,s,d,k2,t2,s2,d2,se,go),(xs,kn,k,t,s,d,k2,t2,s2,d2,se++[v],go),?_,?_⟩
  ·simp only[q1,Option.bind_some,cm,hm1,cond_true,Bool.not_false]
  ·simp only[q2,Option.bind_some,eM,hm1,cond_true]
theorem IB (h:bT xs kn k t s k2 t2 s2 se go=true):Gc xs kn k t s d k2 t2 s2 d2 se go (cX N0 (xs,kn,k,t,s,d,k2,t2,s2,d2,se,go)) (cy N0 (xs,kn,k,t,s,d,k2,t2,s2,d2,se,go,(3:Int),v,T)):=by
 obtain⟨hk,h1,h2,h3,h4⟩:=du.1 h
 have hp:=gR hk
 have hl:=ax hp
 have hse:=(cg.1 h3).2
 have hgo:=(cg.1 h4).2
 have hm1:decide ((-1:Int)<0)=true:=rfl
 unfold cX fY fX cy
 dsimp only
 simp only[Int.reduceBEq,beq_self_eq_true,cond_true,cond_false]
 rcases Dm (d:=d) hp h1 with⟨ys,u,q1,q2,q3,q4,q7⟩|⟨q1,q2⟩
 ·obtain⟨p1,p2,p3⟩:=Ba hk u
  have hu:=(aV.1 q4).1
  have hun:decide (u<(0:Int))=false:=decide_eq_false (by omega)
  simp only[q1,q2,Option.bind_some,cm,eM,gb,hun,cond_false,p1,p2]
  by_cases hc:(pA kn u).length≤200
  ·left
   have e:decide (((pA kn u).length:Int)≤(200:Int))=true:=decide_eq_true (by omega)
   refine⟨ys,pA kn u,k,t,s,true,k2,t2,s2,d2,se,go,?_,?_,q3,q7,ii h1 q7,ii h2 q7, .inr ⟨u,rfl,q4,hc⟩, .inl rfl, .inl rfl⟩
   ·simp only[decide_eq_true hc,cond_true]
   ·simp only[e]
  ·have e:decide (((pA kn u).length:Int)≤(200:Int))=false:=decide_eq_false (by omega)
   refine .inr ⟨(ys,kn,k,t,s,true,k2,t2,s2,d2,se,go),(ys,pA kn u,k,t,s,true,k2,t2,s2,d2,se,go),?_,?_⟩
   ·simp only[decide_eq_false hc,cond_false]
   ·simp only[e]
 ·refine .inr ⟨(xs,kn,k,t,s,d,k2,t2,s2,d2,se,go),(xs,kn,k,t,s,d,k2,t2,s2,d2,se,go),?_,?_⟩
  ·simp only[q1,Option.bind_some,cm,hm1,cond_true]
  ·simp only[q2,Option.bind_some,eM,hm1,cond_true]
theorem FV (h:bT xs kn k t s k2 t2 s2 se go=true) (bb:Bool):Gc xs kn k t s d k2 t2 s2 d2 se go (cH N0 (xs,kn,k,t,s,d,k2,t2,s2,d2,se,go,bb)) (cy N0 (xs,kn,k,t,s,d,k2,t2,s2,d2,se,go,(2:Int),v,T)):=by
 obtain⟨hk,h1,h2,h3,h4⟩:=du.1 h
 have hp:=gR hk
 have hl:=ax hp
 have hse:=(cg.1 h3).2
 have hgo:=(cg.1 h4).2
 have hm1:decide ((-1:Int)<0)=true:=rfl
 unfold cH eY eX cy
 dsimp only
 simp only[Int.reduceBEq,beq_self_eq_true,cond_true,cond_false]
 have lf:=dJ.1 h1
 rcases x9 (d:=d) hp h1 with⟨ys,u,q1,q2,q3,q4,q5,q7⟩|⟨q1,q2⟩
 ·simp only[q1,q2,Option.bind_some]
  exact .inl ⟨ys,kn,u,t+1,0,false,k2,t2,s2,d2,se,go,rfl,rfl,q3,q7,(dJ.2 ⟨q4,by omega,by omega⟩),ii h2 q7, .inl rfl, .inl rfl, .inl rfl⟩
 ·simp only[q1,q2,Option.bind_some]
  exact .inr ⟨(xs,kn,k,t,s,d,k2,t2,s2,d2,se,go),(xs,kn,k,t,s,d,k2,t2,s2,d2,se,go),rfl,rfl⟩
theorem Cm (h:bT xs kn k t s k2 t2 s2 se go=true) (bb:Bool):Gc xs kn k t s d k2 t2 s2 d2 se go (b7 N0 (xs,kn,k,t,s,d,k2,t2,s2,d2,se,go,bb)) (cy N0 (xs,kn,k,t,s,d,k2,t2,s2,d2,se,go,(5:Int),v,T)):=by
 obtain⟨hk,h1,h2,h3,h4⟩:=du.1 h
 have hp:=gR hk
 have hl:=ax hp
 have hse:=(cg.1 h3).2
 have hgo:=(cg.1 h4).2
 have hm1:decide ((-1:Int)<0)=true:=rfl
 unfold b7 eA ez cy
 dsimp only
 simp only[Int.reduceBEq,beq_self_eq_true,cond_true,cond_false]
 have lf:=dJ.1 h2
 rcases x9 (d:=d2) hp h2 with⟨ys,u,q1,q2,q3,q4,q5,q7⟩|⟨q1,q2⟩
 ·simp only[q1,q2,Option.bind_some]
  exact .inl ⟨ys,kn,k,t,s,d,u,t2+1,0,false,se,go,rfl,rfl,q3,q7,ii h1 q7,(dJ.2 ⟨q4,by omega,by omega⟩), .inl rfl, .inl rfl, .inl rfl⟩
 ·simp only[q1,q2,Option.bind_some]
  exact .inr ⟨(xs,kn,k,t,s,d,k2,t2,s2,d2,se,go),(xs,kn,k,t,s,d,k2,t2,s2,d2,se,go),rfl,rfl⟩
theorem FW (h:bT xs kn k t s k2 t2 s2 se go=true):Gc xs kn k t s d k2 t2 s2 d2 se go (dZ N0 (xs,kn,k,t,s,d,k2,t2,s2,d2,se,go,T)) (cy N0 (xs,kn,k,t,s,d,k2,t2,s2,d2,se,go,(4:Int),v,T)):=by
 obtain⟨hk,h1,h2,h3,h4⟩:=du.1 h
 have hp:=gR hk
 have hl:=ax hp
 have hse:=(cg.1 h3).2
 have hgo:=(cg.1 h4).2
 have hm1:decide ((-1:Int)<0)=true:=rfl
 have hkl:=qB hk
 unfold dZ e9 e8 eZ cy
 dsimp only
 simp only[Int.reduceBEq,beq_self_eq_true,cond_true,cond_false]
 obtain⟨ys,u,b,c,r1,r2,r3,r4,r5,r6⟩:=A9 (xs:=xs) (by omega) (kn:=kn) (by omega) T
 simp only[r1,r2,Option.bind_some]
 cases hc:(c != (0:Int))with
 |true =>
  simp only[cond_true]
  exact .inr ⟨(xs,kn,k,t,s,d,k2,t2,s2,d2,se,go),(xs,kn,k,t,s,d,k2,t2,s2,d2,se,go),rfl,rfl⟩
 |false =>
  have hc0:c=0:=by simpa using hc
  obtain⟨_,f2,f3⟩:=r5 hc0
  obtain⟨f4,f5,_⟩:=r4 hp
  obtain⟨s',d',w,e,g1,g2,g3,g4,g5⟩:=xS (v:=u) (d:=d2) f4 (ii h2 f5)
  simp only[cond_false,g1,g2,Option.bind_some]
  have lf:=dJ.1 (ii h2 f5)
  have hk2:gH ys k2 t2 s'=true:=dJ.2 ⟨lf.1,lf.2.1,g3,g4⟩
  by_cases hw:0≤w
  ·obtain⟨w1,w2⟩:=g5 hw
   have hw':decide (w≥(0:Int))=true:=decide_eq_true hw
   subst w2
   simp only[hw',bne_self_eq_false,beq_self_eq_true,cond_true,cond_false,pv (show go.length≤1000000 by omega)]
   exact .inl ⟨ys,kn,k,t,s,d,k2,t2,s',d',se,go++[w],rfl,rfl,f4,f5,ii h1 f5,hk2, .inl rfl, .inl rfl, .inr ⟨w,rfl,w1⟩⟩
  ·have hw':decide (w≥(0:Int))=false:=decide_eq_false hw
   simp only[hw',cond_false]
   by_cases he:e=0
   ·subst he
    simp only[bne_self_eq_false,beq_self_eq_true,cond_false]
    exact .inl ⟨ys,kn,k,t,s,d,k2,t2,s',d',se,go,rfl,rfl,f4,f5,ii h1 f5,hk2, .inl rfl, .inl rfl, .inl rfl⟩
   ·simp only[show(e != (0:Int))=true from by rw[bne_iff_ne];exact he,show(e==(0:Int))=false from by rw[beq_eq_false_iff_ne];exact he,cond_true]
    exact .inr ⟨(xs,kn,k,t,s,d,k2,t2,s2,d2,se,go),(ys,kn,k,t,s,d,k2,t2,s',d',se,go),rfl,rfl⟩
def tT (act v:Int) (T:ByteArray):Bool:=(act==4&&v==0) || (fi T (⟨#[]⟩:ByteArray)&&(act==1 || ((act==2 || (act==3 || act==5))&&v==0)))
theorem F1:fm N0 (act,v,T)=some (tT act v T):=by
 unfold fm tT
 dsimp only
 by_cases a1:act=1
 ·subst a1;simp
 by_cases a4:act=4
 ·subst a4;simp[CG]
 by_cases a2:act=2
 ·subst a2;simp[Bool.and_comm]
 by_cases a3:act=3
 ·subst a3;simp[Bool.and_comm]
 by_cases a5:act=5
 ·subst a5;simp[Bool.and_comm]
 have n1:(act==(1:Int))=false:=by rw[beq_eq_false_iff_ne];exact a1
 have n2:(act==(2:Int))=false:=by rw[beq_eq_false_iff_ne];exact a2
 have n3:(act==(3:Int))=false:=by rw[beq_eq_false_iff_ne];exact a3
 have n4:(act==(4:Int))=false:=by rw[beq_eq_false_iff_ne];exact a4
 have n5:(act==(5:Int))=false:=by rw[beq_eq_false_iff_ne];exact a5
 simp only[n1,n2,n3,n4,n5,cond_false,Bool.false_and,Bool.or_false,Bool.and_false,Bool.false_or]
theorem JU (h:bT xs kn k t s k2 t2 s2 se go=true):(tT act v T=true∧Gc xs kn k t s d k2 t2 s2 d2 se go (fA N0 (xs,kn,k,t,s,d,k2,t2,s2,d2,se,go,act,v,T)) (cy N0 (xs,kn,k,t,s,d,k2,t2,s2,d2,se,go,act,v,T)))∨(tT act v T=false∧fA N0 (xs,kn,k,t,s,d,k2,t2,s2,d2,se,go,act,v,T)=some (xs,kn,k,t,s,d,k2,t2,s2,d2,se,go,false)):=by
 unfold fA
 dsimp only
 by_cases a1:act=1
 ·subst a1
  simp only[beq_self_eq_true,cond_true]
  cases hT:fi T (⟨#[]⟩:ByteArray)with
  |true =>
   left
   refine⟨by simp[tT,hT],?_⟩
   simp only[cond_true]
   rcases FX (v:=v) (T:=T) (d:=d) (d2:=d2) h with⟨ys,kn',k',t',s',d',k2',t2',s2',d2',se',go',q1,q2,q3⟩|⟨y,z,q1,q2⟩
   ·simp only[q1,Option.bind_some]
    exact .inl ⟨ys,kn',k',t',s',d',k2',t2',s2',d2',se',go',rfl,q2,q3⟩
   ·simp only[q1,Option.bind_some]
    exact .inr ⟨y,z,rfl,q2⟩
  |false =>
   right
   refine⟨by simp[tT,hT],?_⟩
   cases hv:(v != (0:Int))<;>simp[hv]
 by_cases a4:act=4
 ·subst a4
  simp only[Int.reduceBEq,cond_false,beq_self_eq_true,cond_true]
  cases hv:(v==(0:Int))with
  |true =>
   left
   refine⟨by simp[tT,hv],?_⟩
   simp only[cond_true]
   rcases FW (v:=v) (T:=T) (d:=d) (d2:=d2) h with⟨ys,kn',k',t',s',d',k2',t2',s2',d2',se',go',q1,q2,q3⟩|⟨y,z,q1,q2⟩
   ·simp only[q1,Option.bind_some]
    exact .inl ⟨ys,kn',k',t',s',d',k2',t2',s2',d2',se',go',rfl,q2,q3⟩
   ·simp only[q1,Option.bind_some]
    exact .inr ⟨y,z,rfl,q2⟩
  |false =>
   right
   refine⟨by simp[tT,hv],?_⟩
   simp only[cond_false,show(v != (0:Int))=true from by rw[bne,hv];rfl,cond_true]
 have n1:(act==(1:Int))=false:=by rw[beq_eq_false_iff_ne];exact a1
 have n4:(act==(4:Int))=false:=by rw[beq_eq_false_iff_ne];exact a4
 simp only[n1,n4,cond_false]
 cases hv:(v==(0:Int))with
 |false =>
  right
  have hv2:(v != (0:Int))=true:=by rw[bne,hv];rfl
  refine⟨by simp[tT,hv,n1],?_⟩
  simp only[hv2,cond_true]
 |true =>
  have hv2:(v != (0:Int))=false:=by rw[bne,hv];rfl
  simp only[hv2,cond_false]
  cases hT:fi T (⟨#[]⟩:ByteArray)with
  |false =>
   right
   refine⟨by simp[tT,hT,n4],?_⟩
   simp only[Bool.not_false,cond_true]
  |true =>
   simp only[Bool.not_true,cond_false]
   by_cases a2:act=2
   ·subst a2
    left
    refine⟨by simp[tT,hT,hv],?_⟩
    simp only[Int.reduceBEq,cond_false,beq_self_eq_true,cond_true]
    rcases FV (v:=v) (T:=T) (d:=d) (d2:=d2) h false with⟨ys,kn',k',t',s',d',k2',t2',s2',d2',se',go',q1,q2,q3⟩|⟨y,z,q1,q2⟩
    ·simp only[q1,Option.bind_some]
     exact .inl ⟨ys,kn',k',t',s',d',k2',t2',s2',d2',se',go',rfl,q2,q3⟩
    ·simp only[q1,Option.bind_some]
     exact .inr ⟨y,z,rfl,q2⟩
   by_cases a5:act=5
   ·subst a5
    left
    refine⟨by simp[tT,hT,hv],?_⟩
    simp only[Int.reduceBEq,cond_false,beq_self_eq_true,cond_true]
    rcases Cm (v:=v) (T:=T) (d:=d) (d2:=d2) h false with⟨ys,kn',k',t',s',d',k2',t2',s2',d2',se',go',q1,q2,q3⟩|⟨y,z,q1,q2⟩
    ·simp only[q1,Option.bind_some]
     exact .inl ⟨ys,kn',k',t',s',d',k2',t2',s2',d2',se',go',rfl,q2,q3⟩
    ·simp only[q1,Option.bind_some]
     exact .inr ⟨y,z,rfl,q2⟩
   by_cases a3:act=3
   ·subst a3
    left
    refine⟨by simp[tT,hT,hv],?_⟩
    simp only[Int.reduceBEq,cond_false,beq_self_eq_true,cond_true]
    rcases IB (v:=v) (T:=T) (d:=d) (d2:=d2) h  with⟨ys,kn',k',t',s',d',k2',t2',s2',d2',se',go',q1,q2,q3⟩|⟨y,z,q1,q2⟩
    ·simp only[q1,Option.bind_some]
     exact .inl ⟨ys,kn',k',t',s',d',k2',t2',s2',d2',se',go',rfl,q2,q3⟩
    ·simp only[q1,Option.bind_some]
     exact .inr ⟨y,z,rfl,q2⟩
   right
   have n2:(act==(2:Int))=false:=by rw[beq_eq_false_iff_ne];exact a2
   have n3:(act==(3:Int))=false:=by rw[beq_eq_false_iff_ne];exact a3
   have n5:(act==(5:Int))=false:=by rw[beq_eq_false_iff_ne];exact a5
   refine⟨by simp[tT,n1,n2,n3,n4,n5],?_⟩
   simp only[n2,n3,n5,cond_false]
end
theorem wT{v x:Int}:∀{r:List Int},x∈oD v r→x=v∨x∈r
 |[],h=>by rw[oD]at h;exact .inl (List.mem_singleton.1 h)
 |y::r,h=>by
  rw[oD]at h
  split at h
  ·rcases List.mem_cons.1 h with e|e
   ·exact .inr (e▸List.mem_cons_self ..)
   ·rcases wT e with e|e
    ·exact .inl e
    ·exact .inr (List.mem_cons_of_mem _ e)
  ·rcases List.mem_cons.1 h with e|e
   ·exact .inl e
   ·exact .inr e
theorem Eg{v:Int}:∀{r:List Int},v∉r→r.Pairwise (·<·)→(oD v r).Pairwise (·<·)
 |[],_,_=>by rw[oD];exact List.pairwise_singleton _ _
 |y::r,hv,h=>by
  have h':=List.pairwise_cons.1 h
  have hne:v≠y:=fun q=>hv (q▸List.mem_cons_self ..)
  rw[oD]
  split
  ·rename_i q
   refine List.pairwise_cons.2 ⟨fun x hx=>?_,Eg (fun q=>hv (List.mem_cons_of_mem _ q)) h'.2⟩
   rcases wT hx with e|e
   ·omega
   ·exact h'.1 x e
  ·rename_i q
   refine List.pairwise_cons.2 ⟨fun x hx=>?_,h⟩
   rcases List.mem_cons.1 hx with e|e
   ·omega
   ·have:=h'.1 x e;omega
theorem wP{xs:List af}{k:List Int}(hp:ay xs=true) (hl:k.length≤200) (pw:k.Pairwise (·<·)) (hm:∀v,v∈k→bQ xs v=true):iM xs k=true:=by
 refine lT.2 ⟨p7.2 (fun j _ hj=>?_),hl,hp⟩
 have hj':j<k.length:=by omega
 have e:k.getD j 0=k[j]:=by simp[List.getD_eq_getElem?_getD,hj']
 unfold gr xp
 rw[e,hm _ (List.getElem_mem hj'),Bool.true_and]
 rcases Nat.eq_zero_or_pos j with q|q
 ·subst q;rfl
 ·have hj2:j-1<k.length:=by omega
  have e2:k.getD (j-1) 0=k[j-1]:=by simp[List.getD_eq_getElem?_getD,hj2]
  rw[e2,decide_eq_true (List.pairwise_iff_getElem.1 pw (j-1) j hj2 hj' (by omega)),Bool.or_true]
theorem FC{xs:List af}{k:List Int}(h:iM xs k=true) (v:Int) (hv:v∈k):bQ xs v=true:=by
 obtain⟨j,hj,e⟩:=List.mem_iff_getElem.1 hv
 have:=(BR h).2 j hj
 have e1:k.getD j 0=k[j]:=by simp[List.getD_eq_getElem?_getD,hj]
 rw[e1,e]at this
 exact this
theorem vY{xs ys:List af}{l l':List Int}(h:js xs l=true) (e:∃zs,ys=xs++zs) (hl:l'=l∨∃u,l'=l++[u]∧bQ ys u=true) (h60:l'.length≤60):js ys l'=true:=by
 obtain⟨a,b⟩:=cg.1 h
 refine cg.2 ⟨fun j hj=>?_,h60⟩
 rcases hl with rfl|⟨u,rfl,hu⟩
 ·exact nz (a j hj) e
 ·by_cases q:j<l.length
  ·have:=nz (a j q) e
   rw[show(l++[u]).getD j 0=l.getD j 0 from by simp[List.getD_eq_getElem?_getD,List.getElem?_append_left q]];exact this
  ·have hj':j=l.length:=by simp at hj;omega
   subst hj'
   have:(l++[u]).getD l.length 0=u:=An l [] u 0
   rw[this];exact hu
section
variable{xs:List af}{kn:List Int}{k t s k2 t2 s2:Int}{d d2:Bool}{se go:List Int}{act v:Int}{T:ByteArray}
theorem Dl{ys:List af}{kn':List Int}{k' t' s' k2' t2' s2':Int}{se' go':List Int}(h:bT xs kn k t s k2 t2 s2 se go=true) (g:Sw xs kn k t s k2 t2 s2 se go ys kn' k' t' s' k2' t2' s2' se' go') (h1:se'.length≤60) (h2:go'.length≤60):bT ys kn' k' t' s' k2' t2' s2' se' go'=true:=by
 obtain⟨hk,_,_,h3,h4⟩:=du.1 h
 obtain⟨g1,g2,g3,g4,g5,g6,g7⟩:=g
 refine du.2 ⟨?_,g3,g4,vY h3 g2 g6 h1,vY h4 g2 g7 h2⟩
 have hkl:=qB hk
 have hm:∀v,v∈kn→bQ ys v=true:=fun v hv=>nz (FC hk v hv) g2
 rcases g5 with rfl|⟨u,rfl,hu,hl⟩
 ·exact wP g1 hkl (s9 hk) hm
 ·unfold pA at hl ⊢
  cases hc:kn.contains u with
  |true=>rw[hc]at hl;exact wP g1 hl (s9 hk) hm
  |false =>
   rw[hc]at hl
   have hnm:u∉kn:=fun q=>by rw[List.contains_iff_mem.2 q]at hc;cases hc
   refine wP g1 hl (Eg hnm (s9 hk)) (fun v hv=>?_)
   rcases wT hv with e|e
   ·exact e▸hu
   ·exact hm v e
theorem mT (hx:xs.length≤4294967296) (hk:kn.length≤4294967296) (hs:se.length≤4294967296) (hg:go.length≤4294967296) :
  ∃ys kn' k' t' s' d' k2' t2' s2' d2' se' go' ok,dt N0 (xs,kn,k,t,s,d,k2,t2,s2,d2,se,go,act,v,T)=some (ys,kn',k',t',s',d',k2',t2',s2',d2',se',go',ok)∧cr N0 (xs,kn,k,t,s,d,k2,t2,s2,d2,se,go,act,v,T)=some (ys,kn',k',t',s',d',k2',t2',s2',d2',se',go',ok)∧ys.length≤4294967296∧kn'.length≤4294967296∧se'.length≤4294967296∧go'.length≤4294967296 ∧
   (bT xs kn k t s k2 t2 s2 se go=true→bT ys kn' k' t' s' k2' t2' s2' se' go'=true∧(ok=false→(ys,kn',k',t',s',d',k2',t2',s2',d2',se',go')=(xs,kn,k,t,s,d,k2,t2,s2,d2,se,go))):=by
 have iS:=mX (k:=k) (t:=t) (s:=s) (d:=d) (k2:=k2) (t2:=t2) (s2:=s2) (d2:=d2) hx hk hs hg
 have sS:=iI (k:=k) (t:=t) (s:=s) (d:=d) (k2:=k2) (t2:=t2) (s2:=s2) (d2:=d2) hx hk hs hg
 have iC:=vq (k:=k) (t:=t) (s:=s) (d:=d) (k2:=k2) (t2:=t2) (s2:=s2) (d2:=d2) hx hk hs hg
 have sC:=pn (k:=k) (t:=t) (s:=s) (d:=d) (k2:=k2) (t2:=t2) (s2:=s2) (d2:=d2) hx hk hs hg
 cases hv:bT xs kn k t s k2 t2 s2 se go with
 |false =>
  rw[hv]at iS sS
  refine⟨[],[],0,0,0,false,0,0,0,false,[],[],false,?_,?_,by simp,by simp,by simp,by simp,(fun q=>by cases q)⟩
  ·unfold dt
   simp only[iS,Option.bind_some,Bool.not_false,cond_true]
  ·unfold cr
   simp only[sS,Option.bind_some,Bool.not_false,cond_true]
 |true =>
  rw[hv]at iS sS
  have hac:=F1 (act:=act) (v:=v) (T:=T)
  have same:(∃r:Bool,r=false):=⟨false,rfl⟩
  unfold dt cr
  dsimp only
  simp only[iS,sS,iC,hac,Option.bind_some,Bool.not_true,cond_false,ie]
  rcases JU (d:=d) (d2:=d2) (act:=act) (v:=v) (T:=T) hv with⟨a1,⟨ys,kn',k',t',s',d',k2',t2',s2',d2',se',go',q1,q2,q3⟩|⟨y,z,q1,q2⟩⟩|⟨a1,q1⟩
  ·have hp:=ax q3.1
   have hk2:kn'.length≤201:=by
    have:=qB (du.1 hv).1
    rcases q3.2.2.2.2.1 with e|⟨u,e,_,hl⟩
    ·rw[e];omega
    ·omega
   have hse2:se'.length≤61:=by
    have:=(cg.1 (du.1 hv).2.2.2.1).2
    rcases q3.2.2.2.2.2.1 with e|⟨u,e,_⟩
    ·rw[e];omega
    ·rw[e];simp;omega
   have hgo2:go'.length≤61:=by
    have:=(cg.1 (du.1 hv).2.2.2.2).2
    rcases q3.2.2.2.2.2.2 with e|⟨u,e,_⟩
    ·rw[e];omega
    ·rw[e];simp;omega
   have sC':=pn (xs:=ys) (kn:=kn') (k:=k') (t:=t') (s:=s') (d:=d') (k2:=k2') (t2:=t2') (s2:=s2') (d2:=d2') (se:=se') (go:=go') (by omega) (by omega) (by omega) (by omega)
   simp only[a1,sC,q1,q2,Option.bind_some,Bool.not_true,cond_false,il]
   by_cases c1:ys.length≤400
   ·by_cases c2:se'.length≤60
    ·by_cases c3:go'.length≤60
     ·refine⟨ys,kn',k',t',s',d',k2',t2',s2',d2',se',go',true,?_,?_,by omega,by omega,by omega,by omega,fun _=>⟨Dl hv q3 c2 c3,fun q=>by cases q⟩⟩
      ·simp only[(show decide ((ys.length:Int)≤(400:Int))=true from decide_eq_true (by omega)),(show decide ((se'.length:Int)≤(60:Int))=true from decide_eq_true (by omega)),(show decide ((go'.length:Int)≤(60:Int))=true from decide_eq_true (by omega)),cond_true,cond_false,Option.bind_some,Bool.not_true]
      ·simp only[(show decide ((ys.length:Int)>(400:Int))=false from decide_eq_false (by omega)),(show decide ((se'.length:Int)>(60:Int))=false from decide_eq_false (by omega)),(show decide ((go'.length:Int)>(60:Int))=false from decide_eq_false (by omega)),cond_true,cond_false,Option.bind_some,sC']
     ·refine⟨xs,kn,k,t,s,d,k2,t2,s2,d2,se,go,false,?_,?_,hx,hk,hs,hg,fun _=>⟨hv,fun _=>rfl⟩⟩
      ·simp only[(show decide ((ys.length:Int)≤(400:Int))=true from decide_eq_true (by omega)),(show decide ((se'.length:Int)≤(60:Int))=true from decide_eq_true (by omega)),(show decide ((go'.length:Int)≤(60:Int))=false from decide_eq_false (by omega)),cond_true,cond_false,Option.bind_some,Bool.not_false,iC]
      ·simp only[(show decide ((ys.length:Int)>(400:Int))=false from decide_eq_false (by omega)),(show decide ((se'.length:Int)>(60:Int))=false from decide_eq_false (by omega)),(show decide ((go'.length:Int)>(60:Int))=true from decide_eq_true (by omega)),cond_true,cond_false,Option.bind_some,sC]
    ·refine⟨xs,kn,k,t,s,d,k2,t2,s2,d2,se,go,false,?_,?_,hx,hk,hs,hg,fun _=>⟨hv,fun _=>rfl⟩⟩
     ·simp only[(show decide ((ys.length:Int)≤(400:Int))=true from decide_eq_true (by omega)),(show decide ((se'.length:Int)≤(60:Int))=false from decide_eq_false (by omega)),cond_true,cond_false,Option.bind_some,Bool.not_false,iC]
     ·simp only[(show decide ((ys.length:Int)>(400:Int))=false from decide_eq_false (by omega)),(show decide ((se'.length:Int)>(60:Int))=true from decide_eq_true (by omega)),cond_true,cond_false,Option.bind_some,sC]
   ·refine⟨xs,kn,k,t,s,d,k2,t2,s2,d2,se,go,false,?_,?_,hx,hk,hs,hg,fun _=>⟨hv,fun _=>rfl⟩⟩
    ·simp only[(show decide ((ys.length:Int)≤(400:Int))=false from decide_eq_false (by omega)),cond_true,cond_false,Option.bind_some,Bool.not_false,iC]
    ·simp only[(show decide ((ys.length:Int)>(400:Int))=true from decide_eq_true (by omega)),cond_true,cond_false,Option.bind_some,sC]
  ·simp only[a1,sC,q1,q2,Option.bind_some,Bool.not_true,Bool.not_false,cond_false,cond_true]
   exact⟨xs,kn,k,t,s,d,k2,t2,s2,d2,se,go,false,rfl,rfl,hx,hk,hs,hg,fun _=>⟨hv,fun _=>rfl⟩⟩
  ·simp only[a1,sC,iC,q1,Option.bind_some,Bool.not_true,Bool.not_false,cond_false,cond_true]
   exact⟨xs,kn,k,t,s,d,k2,t2,s2,d2,se,go,false,rfl,rfl,hx,hk,hs,hg,fun _=>⟨hv,fun _=>rfl⟩⟩
end
abbrev pc:=Int×Int×ByteArray
abbrev zA:pc:=((0:Int),((0:Int),(⟨#[]⟩:ByteArray)))
theorem mB{xs:List af}{kn:List Int}{k t s k2 t2 s2:Int}{se go:List Int}(h:bT xs kn k t s k2 t2 s2 se go=true):xs.length≤500∧kn.length≤200∧se.length≤60∧go.length≤60:=by
 obtain⟨h1,_,_,h3,h4⟩:=du.1 h
 exact⟨ax (gR h1),qB h1,(cg.1 h3).2,(cg.1 h4).2⟩
section
variable{xs:List af}{kn:List Int}{k t s k2 t2 s2:Int}{d d2:Bool}{se go:List Int}{l:List pc}
end
end AM
end Go.Proofs.YtobpcllkonomlaaGreatDoor
