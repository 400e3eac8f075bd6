/- Small laws on whole numbers that wrap, on strings as lists of bytes, and on answers that may be none. No condition. And what follows it: see the remarks. -/
import Derived.Test.YtobpcllkonomlabGreatDoorDW4
import Derived.Lib.ItoaNum
import Derived.Lib.IndexMore
import Derived.Laws.BitsLemmas
import Derived.Test.YtobpcllkonomlabGreatDoorDALd
import Derived.Test.YtobpcllkonomlabGreatDoorDP1
import Derived.Lib.AtoiAllCases
import Derived.Lib.AtoiAll
import Derived.Lib.Split
namespace Go.Proofs.YtobpcllkonomlabGreatDoor
namespace AM
open Go
set_option linter.unusedSimpArgs false
set_option linter.unusedVariables false
theorem nY{n:Int}(h1:-9223372036854775808≤n) (h2:n≤9223372036854775807):IntKind.i64.wrap n=n:=by
 rw[IntKind.wrap_i64];omega
theorem IK{n:Int}(h1:0≤n) (h2:n≤255):IntKind.u8.wrap n=n:=by
 have:IntKind.u8.wrap n=n % 256:=by rfl
 rw[this];omega
def ba (l:List UInt8):ByteArray:=⟨l.toArray⟩
theorem oT (s:ByteArray):ba s.data.toList=s:=by cases s;rfl
theorem d9 (a b:List UInt8):ba a++ba b=ba (a++b):=by
 apply ByteArray.ext
 simp[ba]
theorem cA (l:List UInt8):(ba l).size=l.length:=by simp[ba,ByteArray.size]
theorem NU{a b:List UInt8}(h:ba a=ba b):a=b:=by
 have:=congrArg (fun s:ByteArray=>s.data.toList) h
 simpa [ba]using this
theorem iM (l:List UInt8):(ba l).data.toList=l:=by simp[ba]
theorem nA (s:ByteArray):s.size=s.data.toList.length:=rfl
theorem bG{a b:ByteArray}(h:a.size+b.size≤4611686018427387904):ap a b=true:=decide_eq_true h
theorem cZ (a:ByteArray):aC a a=true:=decide_eq_true rfl
theorem nz{a b:ByteArray}:aC a b=true↔a=b:=⟨fun h=>of_decide_eq_true h,fun h=>decide_eq_true h⟩
theorem vU (a b:ByteArray):(a++b).size=a.size+b.size:=by
 rw[←oT a, ←oT b,d9,cA,cA,cA,List.length_append]
theorem MU{s:ByteArray}{i:Nat}(h:i<s.data.toList.length):bt s (i:Int)=((s.data.toList[i]).toNat:Int):=by
 unfold bt
 rw[Int.toNat_natCast,List.getD_eq_getElem?_getD,List.getElem?_eq_getElem h];rfl
theorem Pq{x:UInt8}{n:Nat}(hn:n<256):((x.toNat:Int)==(n:Int))=decide (x=UInt8.ofNat n):=by
 rw[Bool.eq_iff_iff]
 simp only[beq_iff_eq,decide_eq_true_eq]
 constructor
 ·intro h
  have:x.toNat=n:=by omega
  rw[←this];simp
 ·intro h
  rw[h]
  simp;omega
theorem yB (l:List UInt8) (c:UInt8):Lib.contains l [c]=l.contains c:=by
 unfold Lib.contains
 rw[Lib.index_one,Bool.eq_iff_iff]
 simp only[decide_eq_true_eq,List.contains_iff_mem]
 constructor
 ·intro h
  obtain⟨o,ho⟩:=Int.eq_ofNat_of_zero_le h
  have:=(Lib.indexByte_some ho).1
  exact List.mem_of_getElem? this
 ·intro h
  have hge:=Lib.indexByte_ge l c
  by_cases q:Lib.indexByte l c=-1
  ·obtain⟨i,hi⟩:=List.getElem?_of_mem h
   exact absurd hi (Lib.indexByte_none q i)
  ·omega
theorem CT (a b:Int):(a==b)=decide (a=b):=by rw[Bool.eq_iff_iff];simp
end AM
end Go.Proofs.YtobpcllkonomlabGreatDoor
namespace Go.Proofs.YtobpcllkonomlabGreatDoor
namespace AM
open Go
set_option linter.unusedVariables false
set_option linter.unusedSimpArgs false
abbrev N0:Nat:=1000000000000000000000000000000
theorem aw{n:Int}(h1:-9223372036854775808≤n) (h2:n≤9223372036854775807):IntKind.i64.wrap n=n:=by
 rw[IntKind.wrap_i64];omega
theorem jz {α:Type}{l:List α}{i:Nat}(h:i<l.length) (d:α):l.getD i d=l[i]:=by
 rw[List.getD_eq_getElem?_getD,List.getElem?_eq_getElem h];rfl
theorem aQ{i n:Nat}(h:i<n):aR (i:Int) n=true:=by
 unfold aR
 exact decide_eq_true ⟨Int.natCast_nonneg _,by omega⟩
theorem cF{i n:Nat}(hi:i<n) (hn:n≤4294967296):IntKind.i64.wrap ((i:Int)+(1:Int))=((i+1:Nat):Int):=by
 rw[aw (by omega) (by omega)];omega
theorem p6:∀(t:Ty),t.hasSl=false→∀x:t.den,t.eqv x x=true
 | .int _,_,x=>by simp[Ty.eqv]
 | .bool,_,x=>by simp[Ty.eqv]
 | .str,_,x=>decide_eq_true rfl
 | .sl _,h,_=>by cases h
 | .pr a b,h,x=>by
  have h:(a.hasSl || b.hasSl)=false:=h
  rw[Bool.or_eq_false_iff]at h
  show(a.eqv x.1 x.1&&b.eqv x.2 x.2)=true
  rw[p6 a h.1,p6 b h.2];rfl
theorem zn{kt:Ty}{k:kt.den}{m:List (kt.den×Int)}{j:Nat}{v:Int}(h:bQ kt k m 0=some (j,v)):j<m.length:=by
 obtain⟨_,h2⟩:=md h
 exact(List.getElem?_eq_some_iff.1 h2).1
theorem Cx {α:Type}{y:Int}{k:α}{c:Int}:∀{m:List (α×Int)}{j:Nat},j<m.length→vK y (m.set j (k,c)) j=m.set j (k,y)
 |[],_,h=>by simp at h
 |p::r,0,_=>rfl
 |p::r,j+1,h=>by
  show p::vK y (r.set j (k,c)) j=p::r.set j (k,y)
  rw[Cx (by simpa using h)]
theorem zg {α:Type}{y:Int}{k:α}{c:Int}:∀{m:List (α×Int)},vK y (m++[(k,c)]) m.length=m++[(k,y)]
 |[]=>rfl
 |p::r=>by
  show p::vK y (r++[(k,c)]) r.length=p::(r++[(k,y)])
  rw[zg]
theorem GA{kt:Ty}{k:kt.den}{c y:Int}{m:List (kt.den×Int)}:GB (rQ kt k m) y (lV kt k c m)=lV kt k y m:=by
 unfold GB rQ lV
 cases h:bQ kt k m 0 with
 |some p =>
  obtain⟨j,v⟩:=p
  dsimp only
  rw[Int.toNat_natCast]
  exact Cx (zn h)
 |none =>
  dsimp only
  rw[Int.toNat_natCast]
  exact zg
theorem Lj{kt:Ty}{k:kt.den}{c:Int}{m:List (kt.den×Int)}:aR (rQ kt k m) (lV kt k c m).length=true:=by
 unfold rQ lV
 cases h:bQ kt k m 0 with
 |some p =>
  obtain⟨j,v⟩:=p
  dsimp only
  rw[List.length_set]
  exact aQ (zn h)
 |none =>
  dsimp only
  rw[List.length_append]
  exact aQ (by simp)
theorem sU{kt:Ty}{k k':kt.den}{x:Int}(hne:kt.eqv k' k=false):∀{m:List (kt.den×Int)}{i j:Nat}{v:Int},bQ kt k m i=some (j,v)→bQ kt k' (m.set (j-i) (k,x)) i=bQ kt k' m i
 |[],_,_,_,h=>by cases h
 |p::r,i,j,v,h=>by
  unfold bQ at h
  cases q:kt.eqv k p.1 with
  |true =>
   rw[q]at h
   obtain⟨rfl,rfl⟩:=Prod.mk.inj (Option.some.inj h)
   rw[Nat.sub_self,List.set_cons_zero]
   have:=xN kt q
   unfold bQ
   rw[hne, ←this,hne]
   rfl
  |false =>
   rw[q]at h
   have h:bQ kt k r (i+1)=some (j,v):=h
   obtain⟨h1,_⟩:=md h
   rw[show j-i=(j-(i+1))+1 by omega,List.set_cons_succ]
   unfold bQ
   rw[sU hne h]
theorem ru{kt:Ty}{k k':kt.den}{x:Int}(hne:kt.eqv k' k=false):∀{m:List (kt.den×Int)}{i:Nat},bQ kt k' (m++[(k,x)]) i=bQ kt k' m i
 |[],i=>by
  show bQ kt k' [(k,x)] i=_
  unfold bQ
  rw[hne];rfl
 |p::r,i=>by
  show bQ kt k' (p::(r++[(k,x)])) i=_
  unfold bQ
  rw[ru hne]
theorem AN{kt:Ty}{k k':kt.den}{x:Int}{m:List (kt.den×Int)}(hne:kt.eqv k' k=false):fQ kt k' (lV kt k x m)=fQ kt k' m:=by
 unfold fQ lV
 cases h:bQ kt k m 0 with
 |some p =>
  obtain⟨j,v⟩:=p
  have:=sU (x:=x) hne h
  rw[Nat.sub_zero]at this
  simp only[this]
 |none=>simp only[ru hne]
abbrev ab:=Int×(Int×Int)
abbrev kN:Ty := .pr (.int .i64) (.pr (.int .i64) (.int .i64))
theorem eY (n:Nat) (a b c:Int):ax n (a,b,c)=some (decide (a≥b)&&decide (a≤c)):=by
 unfold ax
 cases decide (a≥b)<;>rfl
theorem pW (n:Nat) (a b c:Int):aS n (a,b,c)=some (decide (a≥b)&&decide (a≤c)):=eY n a b c
theorem xT (n:Nat) (x:Int):∃v,dr n x=some v:=by
 unfold dr
 simp only[cond_eq_ite]
 repeat' split
 all_goals exact⟨_,rfl⟩
theorem Cp (n:Nat) (x:Int×Int×Int×Int):∃v,b7 n x=some v:=by
 unfold b7
 obtain⟨v,hv⟩:=xT n x.1
 rw[hv]
 simp only[Option.bind_some,eY,cond_eq_ite]
 repeat' split
 all_goals exact⟨_,rfl⟩
def fE (n:Nat) (x:Int×Int×Int×Int):Bool:=(b7 n x).getD false
theorem ze (n:Nat) (x):b7 n x=some (fE n x):=by
 obtain⟨v,hv⟩:=Cp n x
 unfold fE
 rw[hv];rfl
theorem B3 (n:Nat) (x):dS n x=some (fE n x):=ze n x
def cp (n:Nat) (pre:List ab):List ab→Bool
 |[]=>true
 |k::r=>(!pre.contains k&&fE n (k.1,k.2.1,k.2.2,(pre.length:Int)))&&cp n (pre++[k]) r
theorem zW (n:Nat){pre r:List ab}{k:ab}(hx:(pre++k::r).length≤4294967296):∀(m j:Nat),j≤pre.length→pre.length<m+j →
  ∃q:Nat,bi n m (pre++k::r,k.1,k.2.1,k.2.2,(j:Int))=some (Sum.inl (q:Int))∧q≤pre.length∧(q=pre.length↔k∉pre.drop j)
 |0,j,h1,h2=>by omega
 |m+1,j,h1,h2=>by
  have hlt:j<(pre++k::r).length:=by simp;omega
  have e0:bi n (m+1) (pre++k::r,k.1,k.2.1,k.2.2,(j:Int))=(cond (decide ((j:Int)<((pre++k::r).length:Int))) (cond (aR (j:Int) (pre++k::r).length) (cond (((pre++k::r).getD ((j:Int)).toNat ((0:Int),((0:Int),(0:Int)))).1==k.1&&(((pre++k::r).getD ((j:Int)).toNat ((0:Int),((0:Int),(0:Int)))).2.1==k.2.1&&(((pre++k::r).getD ((j:Int)).toNat ((0:Int),((0:Int),(0:Int)))).2.2==k.2.2&&true))) (some (Sum.inl (j:Int))) (bi n m (pre++k::r,k.1,k.2.1,k.2.2,IntKind.i64.wrap ((j:Int)+(1:Int))))) none) (some (Sum.inr ()))):=rfl
  rw[e0,decide_eq_true (by omega:(j:Int)<((pre++k::r).length:Int)),cond_true,aQ hlt,cond_true,Int.toNat_natCast,jz hlt]
  have heq:∀p:ab,(p.1==k.1&&(p.2.1==k.2.1&&(p.2.2==k.2.2&&true)))=decide (p=k):=by
   intro p
   obtain⟨p1,p2,p3⟩:=p
   obtain⟨k1,k2,k3⟩:=k
   rw[Bool.eq_iff_iff]
   simp
  rw[heq]
  rcases Nat.lt_or_ge j pre.length with q|q
  ·have hg:(pre++k::r)[j]=pre[j]:=List.getElem_append_left q
   rw[hg]
   have hd:pre.drop j=pre[j]::pre.drop (j+1):=List.drop_eq_getElem_cons q
   by_cases hk:pre[j]=k
   ·rw[decide_eq_true hk,cond_true]
    exact⟨j,rfl,by omega,by rw[hd,hk];simp;omega⟩
   ·rw[decide_eq_false hk,cond_false,cF hlt hx]
    obtain⟨z,g1,g2,g3⟩:=zW n hx m (j+1) q (by omega)
    refine⟨z,g1,g2,g3.trans ?_⟩
    rw[hd,List.mem_cons]
    constructor
    ·intro h h2
     rcases h2 with h2|h2
     ·exact hk h2.symm
     ·exact h h2
    ·exact fun h h2=>h (.inr h2)
  ·have hj:j=pre.length:=by omega
   subst hj
   rw[show(pre++k::r)[pre.length]=k by simp,decide_eq_true rfl,cond_true]
   exact⟨pre.length,rfl,Nat.le_refl _,by simp⟩
theorem Lx (n:Nat) (hn:4294967296<n){pre r:List ab}{k:ab}(hx:(pre++k::r).length≤4294967296):∃q:Int,dy n (pre++k::r,k.1,k.2.1,k.2.2)=some q∧(q != (pre.length:Int))=pre.contains k:=by
  have hlen : pre.length < n := by have : pre.length ≤ (pre ++ k :: r).length := by simp
                                   omega
  obtain⟨z,g1,g2,g3⟩:=zW n hx n 0 (Nat.zero_le _) (by omega)
  refine⟨(z:Int),?_,?_⟩
  · show((bi n n (pre++k::r,k.1,k.2.1,k.2.2,((0:Nat):Int))).bind _)=_
    rw[g1];rfl
  · rw[List.drop_zero]at g3
    rw[Bool.eq_iff_iff]
    simp only[bne_iff_ne,ne_eq,List.contains_iff_mem]
    constructor
    · intro h
      exact Classical.byContradiction fun h2=>h (by rw[g3.2 h2])
    · intro h h2
      exact(g3.1 (by omega)) h
theorem rf (n:Nat) (hn:4294967296<n):∀(m:Nat) (pre r:List ab),(pre++r).length≤4294967296→r.length<m→ci n m (pre++r,(pre.length:Int))=some (bif cp n pre r then Sum.inr ()else Sum.inl false)
 |0,pre,r,hx,hm=>by omega
 |m+1,pre,[],hx,hm=>by
  show(cond (decide ((pre.length:Int)<((pre++[]).length:Int))) _ _)=_
  rw[decide_eq_false (by simp),cond_false];rfl
 |m+1,pre,k::r,hx,hm=>by
  have hlt:pre.length<(pre++k::r).length:=by simp
  have e0:ci n (m+1) (pre++k::r,(pre.length:Int))=(cond (decide ((pre.length:Int)<((pre++k::r).length:Int))) (cond (aR (pre.length:Int) (pre++k::r).length) ((dS n (((pre++k::r).getD ((pre.length:Int)).toNat ((0:Int),((0:Int),(0:Int)))).1,((pre++k::r).getD ((pre.length:Int)).toNat ((0:Int),((0:Int),(0:Int)))).2.1,((pre++k::r).getD ((pre.length:Int)).toNat ((0:Int),((0:Int),(0:Int)))).2.2,(pre.length:Int))).bind fun r1=>(cond (!r1) (some (Sum.inl false)) (cond (aR (pre.length:Int) (pre++k::r).length) ((dy n (pre++k::r,((pre++k::r).getD ((pre.length:Int)).toNat ((0:Int),((0:Int),(0:Int)))).1,((pre++k::r).getD ((pre.length:Int)).toNat ((0:Int),((0:Int),(0:Int)))).2.1,((pre++k::r).getD ((pre.length:Int)).toNat ((0:Int),((0:Int),(0:Int)))).2.2)).bind fun r2=>(cond (r2 != (pre.length:Int)) (some (Sum.inl false)) (ci n m (pre++k::r,IntKind.i64.wrap ((pre.length:Int)+(1:Int)))))) none))) none) (some (Sum.inr ()))):=rfl
  obtain⟨q,g1,g2⟩:=Lx n hn (pre:=pre) (r:=r) (k:=k) hx
  rw[e0,decide_eq_true (by omega:(pre.length:Int)<((pre++k::r).length:Int)),cond_true,aQ hlt,cond_true,Int.toNat_natCast,jz hlt,show(pre++k::r)[pre.length]=k by simp,B3,g1]
  simp only[Option.bind_some,cond_true]
  rw[g2,cF hlt hx]
  have ih:=rf n hn m (pre++[k]) r (by simpa using hx) (by simp at hm;omega)
  rw[show pre++[k]++r=pre++k::r by simp,show(pre++[k]).length=pre.length+1 by simp]at ih
  rw[ih]
  rw[show cp n pre (k::r)=((!pre.contains k&&fE n (k.1,k.2.1,k.2.2,(pre.length:Int)))&&cp n (pre++[k]) r)from rfl]
  cases fE n (k.1,k.2.1,k.2.2,(pre.length:Int))<;>cases pre.contains k<;>cases cp n (pre++[k]) r<;>rfl
theorem kS (n:Nat) (hn:4294967296<n){xs:List ab}(hx:xs.length≤4294967296):eM n xs=some (decide (xs.length≤500)&&cp n [] xs):=by
 unfold eM
 by_cases q:xs.length≤500
 ·rw[decide_eq_false (by omega:¬(xs.length:Int)>(500:Int)),cond_false,decide_eq_true q,Bool.true_and]
  have:=rf n hn n [] xs (by simpa using hx) (by omega)
  rw[List.nil_append,show(([]:List ab).length:Int)=(0:Int)from rfl]at this
  rw[this]
  cases cp n [] xs<;>rfl
 ·rw[decide_eq_true (by omega:(xs.length:Int)>(500:Int)),cond_true,decide_eq_false q];rfl
def Zg (kvs:List (ab×Int)) (pre:List ab):Prop:=∀k:ab,fQ kN k kvs=if k∈pre then 1 else 0
theorem Q5{a b:ab}:kN.eqv a b=decide (a=b):=by
 rw[Bool.eq_iff_iff,decide_eq_true_iff]
 exact⟨xN kN,fun h=>h▸p6 kN rfl a⟩
theorem Gh (n:Nat) (kvs:List (ab×Int)) (i a b c:Int) (xs:List ab) (l j:Int):az n (kvs,i,a,b,c,xs,l,j)=some (lV kN (a,b,c) (IntKind.i64.wrap (fQ kN (a,b,c) kvs+(1:Int))) kvs,i,a,b,c,xs,l,j):=by
 unfold az
 rw[Lj,cond_true,GA]
theorem rA (n:Nat){xs:List ab}(hx:xs.length≤4294967296):∀(m:Nat) (pre r:List ab) (kvs:List (ab×Int)),xs=pre++r→Zg kvs pre→r.length<m→cq n m (kvs,xs,(xs.length:Int),(pre.length:Int))=some (bif cp n pre r then Sum.inr ()else Sum.inl false)
 |0,pre,r,kvs,he,hc,hm=>by omega
 |m+1,pre,[],kvs,he,hc,hm=>by
  show(cond (decide ((pre.length:Int)<(xs.length:Int))) _ _)=_
  rw[decide_eq_false (by rw[he];simp),cond_false];rfl
 |m+1,pre,k::r,kvs,he,hc,hm=>by
  have hlt:pre.length<xs.length:=by rw[he];simp
  have hk:xs[pre.length]=k:=by simp[he]
  have e0:cq n (m+1) (kvs,xs,(xs.length:Int),(pre.length:Int))=(cond (decide ((pre.length:Int)<(xs.length:Int))) (cond (aR (pre.length:Int) xs.length) ((az n (kvs,(pre.length:Int),(xs.getD ((pre.length:Int)).toNat ((0:Int),((0:Int),(0:Int)))).1,(xs.getD ((pre.length:Int)).toNat ((0:Int),((0:Int),(0:Int)))).2.1,(xs.getD ((pre.length:Int)).toNat ((0:Int),((0:Int),(0:Int)))).2.2,xs,(xs.length:Int),(pre.length:Int))).bind fun g1=>(cond (decide ((fQ kN (g1.2.2.1,(g1.2.2.2.1,g1.2.2.2.2.1)) g1.1)>(1:Int))) (some (Sum.inl false)) ((b7 n (g1.2.2.1,g1.2.2.2.1,g1.2.2.2.2.1,g1.2.1)).bind fun r2=>(cond (!r2) (some (Sum.inl false)) (cq n m (g1.1,g1.2.2.2.2.2.1,g1.2.2.2.2.2.2.1,(IntKind.i64.wrap (g1.2.2.2.2.2.2.2+(1:Int))))))))) none) (some (Sum.inr ()))):=rfl
  rw[e0,decide_eq_true (by omega:(pre.length:Int)<(xs.length:Int)),cond_true,aQ hlt,cond_true,Int.toNat_natCast,jz hlt,hk,Gh]
  simp only[Option.bind_some]
  have hself:kN.eqv (k.1,k.2.1,k.2.2) (k.1,k.2.1,k.2.2)=true:=p6 kN rfl _
  have hke:((k.1,k.2.1,k.2.2):ab)=k:=rfl
  rw[uv hself,ze,cF hlt hx]
  rw[show cp n pre (k::r)=((!pre.contains k&&fE n (k.1,k.2.1,k.2.2,(pre.length:Int)))&&cp n (pre++[k]) r)from rfl]
  have hck:=hc k
  by_cases hin:k∈pre
  ·rw[if_pos hin]at hck
   have:pre.contains k=true:=by simpa using hin
   rw[this,show fQ kN (k.1,k.2.1,k.2.2) kvs=1 from hck]
   rfl
  ·rw[if_neg hin]at hck
   have hcf:pre.contains k=false:=by simpa using hin
   rw[hcf,show fQ kN (k.1,k.2.1,k.2.2) kvs=0 from hck]
   rw[show decide (IntKind.i64.wrap ((0:Int)+(1:Int))>(1:Int))=false from rfl,cond_false]
   have ih:=rA n hx m (pre++[k]) r (lV kN k (IntKind.i64.wrap ((0:Int)+(1:Int))) kvs) (by simpa using he) (by
    intro k'
    by_cases q:k'=k
    ·subst q
     rw[uv (p6 kN rfl k')]
     simp;rfl
    ·rw[AN (by rw[Q5];exact decide_eq_false q),hc k']
     simp[q]) (by simp at hm;omega)
   rw[show(pre++[k]).length=pre.length+1 by simp]at ih
   simp only[Option.bind_some]
   rw[show lV kN (k.1,k.2.1,k.2.2) (IntKind.i64.wrap ((0:Int)+(1:Int))) kvs=lV kN k (IntKind.i64.wrap ((0:Int)+(1:Int))) kvs from rfl,ih]
   cases fE n (k.1,k.2.1,k.2.2,(pre.length:Int))<;>cases cp n (pre++[k]) r<;>rfl
theorem CQ (n:Nat) (hn:4294967296<n){xs:List ab}(hx:xs.length≤4294967296):jc n xs=some (decide (xs.length≤500)&&cp n [] xs):=by
 unfold jc
 by_cases q:xs.length≤500
 ·rw[decide_eq_false (by omega:¬(xs.length:Int)>(500:Int)),cond_false,decide_eq_true q,Bool.true_and]
  have:=rA n hx n [] xs [] rfl (fun k=>by simp[fQ,bQ]) (by omega)
  rw[show(([]:List ab).length:Int)=(0:Int)from rfl]at this
  rw[this]
  cases cp n [] xs<;>rfl
 ·rw[decide_eq_true (by omega:(xs.length:Int)>(500:Int)),cond_true,decide_eq_false q];rfl
def cx (xs:List ab) (v:Int):Bool:=decide (v≥0)&&decide (v≤(xs.length:Int)-1)
theorem uH (n:Nat){xs:List ab}(hx:xs.length≤4294967296) (v:Int):ee n (xs,v)=some (cx xs v):=by
 show((aS n (v,(0:Int),IntKind.i64.wrap ((xs.length:Int)-(1:Int)))).bind fun r1=>some r1)=_
 rw[aw (by omega) (by omega),pW];rfl
theorem qM (n:Nat){xs:List ab}(hx:xs.length≤4294967296) (v:Int):dt n (xs,v)=some (xs,cx xs v):=by
 show((ax n (v,(0:Int),IntKind.i64.wrap ((xs.length:Int)-(1:Int)))).bind fun r1=>some (xs,r1))=_
 rw[aw (by omega) (by omega),eY];rfl
def dQ (xs:List ab):List Int→Bool
 |[]=>true
 |v::r=>(v == -1 || cx xs v)&&dQ xs r
theorem tm (n:Nat){xs:List ab}(hx:xs.length≤4294967296){env:List Int}(he:env.length≤4294967296):∀(m:Nat) (pre r:List Int),env=pre++r→r.length<m →
  bM n m (env,xs,env,(env.length:Int),(pre.length:Int))=some (bif dQ xs r then Sum.inr (env,xs)else Sum.inl false)
 |0,pre,r,h,hm=>by omega
 |m+1,pre,[],h,hm=>by
  show(cond (decide ((pre.length:Int)<(env.length:Int))) _ _)=_
  rw[decide_eq_false (by rw[h];simp),cond_false];rfl
 |m+1,pre,v::r,h,hm=>by
  have hlt:pre.length<env.length:=by rw[h];simp
  have hk:env[pre.length]=v:=by simp[h]
  have e0:bM n (m+1) (env,xs,env,(env.length:Int),(pre.length:Int))=(cond (decide ((pre.length:Int)<(env.length:Int))) (cond (aR (pre.length:Int) env.length) (cond ((env.getD ((pre.length:Int)).toNat (0:Int)) != (-1:Int)) ((dt n (xs,(env.getD ((pre.length:Int)).toNat (0:Int)))).bind fun r1=>(cond (!r1.2) (some (Sum.inl false)) (bM n m (env,r1.1,env,(env.length:Int),(IntKind.i64.wrap ((pre.length:Int)+(1:Int))))))) (bM n m (env,xs,env,(env.length:Int),(IntKind.i64.wrap ((pre.length:Int)+(1:Int)))))) none) (some (Sum.inr (env,xs)))):=rfl
  rw[e0,decide_eq_true (by omega:(pre.length:Int)<(env.length:Int)),cond_true,aQ hlt,cond_true,Int.toNat_natCast,jz hlt,hk,cF hlt he,qM n hx]
  have ih:=tm n hx he m (pre++[v]) r (by simpa using h) (by simp at hm;omega)
  rw[show(pre++[v]).length=pre.length+1 by simp]at ih
  simp only[Option.bind_some,ih]
  rw[show dQ xs (v::r)=((v == -1 || cx xs v)&&dQ xs r)from rfl,show(v != -1) = !(v == -1)from rfl]
  cases v == -1<;>cases cx xs v<;>cases dQ xs r<;>rfl
theorem rW (n:Nat) (hn:4294967296<n){xs:List ab}(hx:xs.length≤4294967296){env:List Int}(he:env.length≤4294967296) :
  oJ n (xs,env)=some (dQ xs env&&(decide (env.length=26)&&(decide (xs.length≤500)&&cp n [] xs))):=by
 have:=tm n hx he n [] env rfl (by omega)
 rw[show(([]:List Int).length:Int)=(0:Int)from rfl]at this
 show((bM n n (env,xs,env,(env.length:Int),(0:Int))).bind _)=_
 rw[this]
 cases dQ xs env with
 |false=>rfl
 |true =>
  show(cond ((env.length:Int)==(26:Int)) ((jc n xs).bind fun r5=>some r5) (some false))=_
  rw[CQ n hn hx]
  by_cases q:env.length=26
  ·rw[show((env.length:Int)==(26:Int))=true by rw[q];rfl,decide_eq_true q];rfl
  ·rw[show((env.length:Int)==(26:Int))=false by simp;omega,decide_eq_false q];rfl
theorem sF (n:Nat){xs:List ab}(hx:xs.length≤4294967296){env:List Int}(he:env.length=26):∀(m:Nat) (pre r:List Int),env=pre++r→r.length<m →
  bx n m (env,xs,(pre.length:Int))=some (bif dQ xs r then Sum.inr ()else Sum.inl false)
 |0,pre,r,h,hm=>by omega
 |m+1,pre,[],h,hm=>by
  show(cond (decide ((pre.length:Int)<(26:Int))) _ _)=_
  have:pre.length=26:=by rw[h]at he;simpa using he
  rw[decide_eq_false (by omega),cond_false];rfl
 |m+1,pre,v::r,h,hm=>by
  have hlt:pre.length<env.length:=by rw[h];simp
  have hk:env[pre.length]=v:=by simp[h]
  have e0:bx n (m+1) (env,xs,(pre.length:Int))=(cond (decide ((pre.length:Int)<(26:Int))) (cond (aR (pre.length:Int) env.length) (cond ((env.getD ((pre.length:Int)).toNat (0:Int)) != (-1:Int)) (cond (aR (pre.length:Int) env.length) ((ee n (xs,(env.getD ((pre.length:Int)).toNat (0:Int)))).bind fun r1=>(cond (!r1) (some (Sum.inl false)) (bx n m (env,xs,(IntKind.i64.wrap ((pre.length:Int)+(1:Int))))))) none) (bx n m (env,xs,(IntKind.i64.wrap ((pre.length:Int)+(1:Int)))))) none) (some (Sum.inr ()))):=rfl
  rw[e0,decide_eq_true (by omega:(pre.length:Int)<(26:Int)),cond_true,aQ hlt,cond_true,cond_true,Int.toNat_natCast,jz hlt,hk,cF hlt (by omega),uH n hx]
  have ih:=sF n hx he m (pre++[v]) r (by simpa using h) (by simp at hm;omega)
  rw[show(pre++[v]).length=pre.length+1 by simp]at ih
  simp only[Option.bind_some,ih]
  rw[show dQ xs (v::r)=((v == -1 || cx xs v)&&dQ xs r)from rfl,show(v != -1) = !(v == -1)from rfl]
  cases v == -1<;>cases cx xs v<;>cases dQ xs r<;>rfl
theorem Dx (n:Nat) (hn:4294967296<n){xs:List ab}(hx:xs.length≤4294967296){env:List Int}:mL n (xs,env)=some (decide (env.length=26)&&dQ xs env):=by
 show(cond ((env.length:Int) != (26:Int)) (some false) ((bx n n (env,xs,(0:Int))).bind _))=_
 by_cases q:env.length=26
 ·have:=sF n hx q n [] env rfl (by omega)
  rw[show(([]:List Int).length:Int)=(0:Int)from rfl]at this
  rw[show((env.length:Int) != (26:Int))=false by rw[q];rfl,cond_false,this,decide_eq_true q]
  cases dQ xs env<;>rfl
 ·rw[show((env.length:Int) != (26:Int))=true by simp;omega,decide_eq_false q];rfl
theorem K0{w p:Int}{L:Nat}(h1:(eQ N0 (w,p)).map (fun r=>(r.1.length,r.2))=some (L,true)) (h2:(cM N0 (w,p)).map List.length=some L) (h3:cL N0 (w,p)=some true) (h4:L≤20) :
  ∃a b,eQ N0 (w,p)=some (a,true)∧cM N0 (w,p)=some b∧a.length=b.length∧a.length≤20∧cL N0 (w,p)=some true:=by
 cases e1:eQ N0 (w,p)with
 |none=>rw[e1]at h1;cases h1
 |some r =>
  cases e2:cM N0 (w,p)with
  |none=>rw[e2]at h2;cases h2
  |some b =>
   rw[e1]at h1
   rw[e2]at h2
   obtain⟨g1,g2⟩:=Prod.mk.inj (Option.some.inj h1)
   have g3:b.length=L:=Option.some.inj h2
   obtain⟨a,t⟩:=r
   have g2:t=true:=g2
   subst g2
   exact⟨a,b,rfl,rfl,by rw[g3];exact g1,by have:a.length=L:=g1;omega,h3⟩
theorem K1 (w p:Int) (hw:w=1∨w=2∨w=3) (hp:p=0∨p=1):∃a b,eQ N0 (w,p)=some (a,true)∧cM N0 (w,p)=some b∧a.length=b.length∧a.length≤20∧cL N0 (w,p)=some true:=by
 rcases hw with rfl|rfl|rfl<;>rcases hp with rfl|rfl
 all_goals exact K0 (L:=5) (by kernel_rfl) (by kernel_rfl) (by kernel_rfl) (by omega)
theorem BZ (w p:Int) (h:¬((w=1∨w=2∨w=3)∧(p=0∨p=1))):eQ N0 (w,p)=some ([],false)∧cL N0 (w,p)=some false:=by
 constructor
 ·have e1:fW N0 (w,p)=some (⟨#[]⟩:ByteArray):=by
   unfold fW
   simp only[eY,Option.bind_some]
   by_cases h1:decide (w≥1)&&decide (w≤3)
   ·rw[h1]
    have h2:(decide (p≥0)&&decide (p≤1))=false:=by
     rw[Bool.eq_false_iff]
     intro h2
     simp at h1 h2
     omega
    rw[h2];rfl
   ·rw[Bool.not_eq_true]at h1
    rw[h1];rfl
  show((fW N0 (w,p)).bind _)=_
  rw[e1]
  show((gF N0 (⟨#[]⟩:ByteArray)).bind fun r2=>some (r2.1,r2.2))=_
  rw[show gF N0 (⟨#[]⟩:ByteArray)=some ([],false)by kernel_rfl];rfl
 ·have e1:dW N0 (w,p)=some (⟨#[]⟩:ByteArray):=by
   unfold dW
   have q:∀a b:Int,(w==a)=decide (w=a):=fun a b=>rfl
   by_cases w1:w=1
   ·subst w1
    have p0:(p==0)=false:=by simp;omega
    have p1:(p==1)=false:=by simp;omega
    simp only[p0,p1];rfl
   ·by_cases w2:w=2
    ·subst w2
     have p0:(p==0)=false:=by simp;omega
     have p1:(p==1)=false:=by simp;omega
     simp only[p0,p1];rfl
    ·by_cases w3:w=3
     ·subst w3
      have p0:(p==0)=false:=by simp;omega
      have p1:(p==1)=false:=by simp;omega
      simp only[p0,p1];rfl
     ·have e1:(w==1)=false:=by simpa using w1
      have e2:(w==2)=false:=by simpa using w2
      have e3:(w==3)=false:=by simpa using w3
      simp only[e1,e2,e3];rfl
  show((dW N0 (w,p)).bind fun r1=>some (!aC r1 (⟨#[]⟩:ByteArray)))=_
  rw[e1]
  show some (!aC (⟨#[]⟩:ByteArray) (⟨#[]⟩:ByteArray))=_
  rw[show aC (⟨#[]⟩:ByteArray) (⟨#[]⟩:ByteArray)=true from decide_eq_true rfl];rfl
theorem t3 (n:Nat) (x:Int):jw n x=some (decide (x≥0)&&decide (x≤4)):=by
 show((ax n (x,(0:Int),(4:Int))).bind fun r=>some r)=_
 rw[eY];rfl
theorem Ip (n:Nat) (x:Int):bg n x=some (decide (x≥0)&&decide (x≤4)):=t3 n x
theorem n0:4294967296<N0:=by decide
def Fv (n:Nat) (x:List ab×Int×Int×Int×Int×Int×List Int×Bool×Bool×Int):Option Bool:=(eM n x.1).bind fun r1=>(cond r1 ((fI n (x.1,x.2.1,x.2.2.1,x.2.2.2.1,x.2.2.2.2.1,x.2.2.2.2.2.1,x.2.2.2.2.2.2.1,x.2.2.2.2.2.2.2.1,x.2.2.2.2.2.2.2.2.1,x.2.2.2.2.2.2.2.2.2)).bind fun r2=>(some r2)) (some false))
theorem Eb{xs:List ab}(hx:xs.length≤4294967296){w p a b at_:Int}{env:List Int}(he:env.length≤4294967296){dn dd:Bool}{key:Int} :
  ∃v,fF N0 (xs,w,p,a,b,at_,env,dn,dd,key)=some v∧Fv N0 (xs,w,p,a,b,at_,env,dn,dd,key)=some v:=by
 unfold fF Fv fI
 simp only[kS N0 n0 hx,rW N0 n0 hx he,Dx N0 n0 hx,t3,Ip,Option.bind_some]
 by_cases hr:(w=1∨w=2∨w=3)∧(p=0∨p=1)
 ·obtain⟨ra,rb,r1,r2,r3,r4,r5⟩:=K1 w p hr.1 hr.2
  rw[r1,r2,r5]
  simp only[Option.bind_some,eY,pW,qM N0 hx,uH N0 hx, ←r3,aw (show -9223372036854775808≤(ra.length:Int)-1 by omega) (show(ra.length:Int)-1≤9223372036854775807 by omega)]
  generalize (decide (a≥0)&&decide (a≤4))=A
  generalize (decide (b≥0)&&decide (b≤4))=B
  generalize (a==b)=C
  generalize dQ xs env=D
  generalize decide (env.length=26)=F
  generalize (decide (xs.length≤500)&&cp N0 [] xs)=G
  generalize cx xs key=H
  generalize (key == -1)=K
  have hq:(at_==(ra.length:Int))=true→(decide (at_≥0)&&decide (at_≤(ra.length:Int)))=true:=by
   intro h
   have:at_=(ra.length:Int):=by simpa using h
   simp;omega
  have hq2:(at_==(ra.length:Int))=false→(decide (at_≥0)&&decide (at_≤(ra.length:Int)-1))=(decide (at_≥0)&&decide (at_≤(ra.length:Int))):=by
   intro h
   have:at_≠(ra.length:Int):=by simpa using h
   congr 1
   rw[Bool.eq_iff_iff];simp;omega
  have hq3:(at_==(ra.length:Int))=true→(decide (at_≥0)&&decide (at_≤(ra.length:Int)-1))=false:=by
   intro h
   have:at_=(ra.length:Int):=by simpa using h
   rw[Bool.and_eq_false_iff];right;simp;omega
  revert hq hq2 hq3
  generalize (at_==(ra.length:Int))=M
  generalize (decide (at_≥0)&&decide (at_≤(ra.length:Int)))=R
  generalize (decide (at_≥0)&&decide (at_≤(ra.length:Int)-1))=R2
  intro hq hq2 hq3
  cases M
  ·have:=hq2 rfl
   subst this
   refine⟨A&&(B&&(!C&&(D&&(F&&(G&&(R2&&(!dn&&K))))))),?_,?_⟩<;>clear hq hq2 hq3<;>revert A B C D F G H K R2 dn dd<;>decide
  ·have h1:=hq rfl
   have h2:=hq3 rfl
   subst h1;subst h2
   refine⟨A&&(B&&(!C&&(D&&(F&&(G&&(dn&&(!dd&&H))))))),?_,?_⟩<;>clear hq hq2 hq3<;>revert A B C D F G H K dn dd<;>decide
 ·obtain⟨r1,r2⟩:=BZ w p hr
  rw[r1,r2]
  refine⟨false,rfl,?_⟩
  cases(decide (xs.length≤500)&&cp N0 [] xs)<;>rfl
def dI (g:Nat→Bool):Nat→Nat→Bool
 |_,0=>true
 |i,k+1=>g i&&dI g (i+1) k
theorem eR{g:Nat→Bool}:∀{k i:Nat},dI g i k=true↔∀j,i≤j→j<i+k→g j=true
 |0,i=>⟨fun _ j h1 h2=>by omega,fun _=>rfl⟩
 |k+1,i=>by
  show(g i&&dI g (i+1) k)=true↔_
  rw[Bool.and_eq_true,eR]
  constructor
  ·rintro ⟨h1,h2⟩ j g1 g2
   rcases Nat.eq_or_lt_of_le g1 with q|q
   ·subst q;exact h1
   ·exact h2 j q (by omega)
  ·exact fun h=>⟨h i (Nat.le_refl _) (by omega),fun j g1 g2=>h j (by omega) (by omega)⟩
theorem qG {α:Type} [DecidableEq α]:∀{l m:List α},l.Nodup→(∀x∈l,x∈m)→l.length≤m.length
 |[],m,_,_=>Nat.zero_le _
 |a::l,m,hn,hs=>by
  have ha:=hs a (List.mem_cons_self ..)
  have hn':=List.nodup_cons.1 hn
  have:=qG (l:=l) (m:=m.erase a) hn'.2 (fun x hx=>(List.mem_erase_of_ne (fun(e:x=a)=>hn'.1 (e▸hx))).2 (hs x (List.mem_cons_of_mem _ hx)))
  rw[List.length_erase_of_mem ha]at this
  have:0<m.length:=List.length_pos_of_mem ha
  simp;omega
theorem D3 {α:Type} [DecidableEq α]{l m:List α}(hl:l.Nodup) (hm:m.Nodup) (hs:∀x∈l,x∈m):(∀x∈m,x∈l)↔l.length=m.length:=by
 constructor
 ·exact fun h=>Nat.le_antisymm (qG hl hs) (qG hm h)
 ·intro h x hx
  exact Classical.byContradiction fun hn=>by
   have:=qG (l:=x::l) (m:=m) (List.nodup_cons.2 ⟨hn,hl⟩) (fun y hy=>by
    rcases List.mem_cons.1 hy with q|q
    ·exact q▸hx
    ·exact hs y q)
   simp at this;omega
def places (d:Nat→Bool) (n:Nat):List Nat:=(List.range n).filter d
theorem AD (d:Nat→Bool) (n:Nat):(places d n).Nodup:=List.nodup_range.filter _
theorem rR{d:Nat→Bool}{n i:Nat}:i∈places d n↔i<n∧d i=true:=by
 unfold places
 rw[List.mem_filter,List.mem_range]
theorem Cc (d:Nat→Bool) (n:Nat):(places d (n+1)).length=(places d n).length+(bif d n then 1 else 0):=by
 unfold places
 rw[List.range_succ,List.filter_append,List.length_append]
 cases h:d n<;>simp[h]
theorem JR (done:Nat→Bool) (n:Nat) (L:List Int) (hnd:L.Nodup) (hin:∀k∈L, ∃i:Nat,k=(i:Int)∧i<n∧done i=true):(∀i:Nat,i<n→done i=true→(i:Int)∈L)↔L.length=(places done n).length:=by
 have hm:((places done n).map Int.ofNat).Nodup:=List.pairwise_map.2 ((AD done n).imp fun hne e=>hne (Int.ofNat.inj e))
 have:=D3 hnd hm (fun k hk=>by
  obtain⟨i,rfl,h1,h2⟩:=hin k hk
  exact List.mem_map.2 ⟨i,rR.2 ⟨h1,h2⟩,rfl⟩)
 rw[List.length_map]at this
 rw[←this]
 constructor
 ·intro h x hx
  obtain⟨i,hi,rfl⟩:=List.mem_map.1 hx
  have:=rR.1 hi
  exact h i this.1 this.2
 ·intro h i h1 h2
  exact h _ (List.mem_map.2 ⟨i,rR.2 ⟨h1,h2⟩,rfl⟩)
theorem D2{L:List Int}:L.Nodup↔∀i,i<L.length→∀j,j<i→L.getD j 0≠L.getD i 0:=by
 rw[List.Nodup,List.pairwise_iff_getElem]
 constructor
 ·intro h i hi j hj
  rw[jz hi,jz (by omega)]
  exact h j i (by omega) hi hj
 ·intro h i j hi hj hij
  have:=h j hj i hij
  rw[jz hi,jz hj]at this
  exact this
abbrev cQ:=Int×(Int×(Int×(Int×(Int×((List Int)×(Bool×(Bool×Int)))))))
abbrev cB:=Int×(Bool×Bool)
abbrev zI:cQ:=((0:Int),((0:Int),((0:Int),((0:Int),((0:Int),([],(false,(false,(0:Int)))))))))
abbrev zC:cB:=((0:Int),(false,false))
theorem j9{X A B:Type}(L:Nat→X→Option (A⊕B)) (st:Nat→X) (g:Nat→Bool) (bad:A) (fin:B) (len:Nat)
  (step:∀m i,i<len→L (m+1) (st i)=bif g i then L m (st (i+1))else some (.inl bad)) (stop:∀m,L (m+1) (st len)=some (.inr fin)) :
  ∀m i,i≤len→len<m+i→L m (st i)=some (bif dI g i (len-i)then .inr fin else .inl bad)
 |0,i,h1,h2=>by omega
 |m+1,i,h1,h2=>by
  rcases Nat.eq_or_lt_of_le h1 with q|q
  ·subst q
   rw[stop,Nat.sub_self];rfl
  ·rw[step m i q,show len-i=(len-(i+1))+1 by omega]
   show(bif g i then _ else _)=some (bif g i&&dI g (i+1) (len-(i+1))then _ else _)
   cases g i with
   |false=>rfl
   |true=>exact j9 L st g bad fin len step stop m (i+1) q (by omega)
theorem yS{i:Nat}(h:0<i) (hi:i≤4294967296):IntKind.i64.wrap ((i:Int)-(1:Int))=((i-1:Nat):Int):=by
 rw[aw (by omega) (by omega)];omega
theorem NF (i n:Nat):decide ((i:Int)<(n:Int))=decide (i<n):=by
 rw[Bool.eq_iff_iff];simp
theorem xr{i n:Nat}(h:i<n):decide ((i:Int)<(n:Int))=true:=decide_eq_true (by omega)
theorem GM (n:Nat):decide ((n:Int)<(n:Int))=false:=decide_eq_false (by omega)
def jK (l:List Int) (j:Nat):Bool:=decide (j=0) || decide (l.getD (j-1) 0<l.getD j 0)
def mg (xs:List ab) (k:List Int) (j:Nat):Bool:=cx xs (k.getD j 0)&&jK k j
theorem MN{i:Nat}(h:0<i):decide ((i:Int)>(0:Int))=true:=decide_eq_true (by omega)
theorem zO (a b:Int):decide (a≥b) = !decide (a<b):=by
 rw[Bool.eq_iff_iff];simp
theorem yo{xs:List ab}(hx:xs.length≤4294967296){k:List Int}(hk:k.length≤4294967296) (m i:Nat) (hi:i<k.length) :
  bb N0 (m+1) (k,xs,(i:Int))=bif mg xs k i then bb N0 m (k,xs,((i+1:Nat):Int))else some (.inl false):=by
 rw[bb]
 dsimp only
 rw[xr hi,cond_true,aQ hi,cond_true,uH N0 hx]
 simp only[Option.bind_some,Int.toNat_natCast,cF hi hk]
 unfold mg jK
 cases cx xs (k.getD i 0)with
 |false=>rfl
 |true =>
  rcases Nat.eq_zero_or_pos i with q|q
  ·subst q;rfl
  ·rw[MN q,cond_true,yS q (by omega),aQ (by omega),cond_true,Int.toNat_natCast,zO,decide_eq_false (by omega:¬i=0)]
   cases decide (k.getD (i-1) 0<k.getD i 0)<;>rfl
theorem vC{xs:List ab}(hx:xs.length≤4294967296){k:List Int}(hk:k.length≤4294967296) :
  iX N0 (xs,k)=some (dI (mg xs k) 0 k.length&&(decide (k.length≤200)&&(decide (xs.length≤500)&&cp N0 [] xs))):=by
 have:=j9 (bb N0) (fun i=>(k,xs,(i:Int))) (mg xs k) false () k.length (yo hx hk) (fun m=>by
  rw[bb];dsimp only;rw[GM];rfl) N0 0 (Nat.zero_le _) (by have:=n0;omega)
 rw[Nat.sub_zero]at this
 have e:kP N0 (xs,k)=some (decide (k.length≤200)&&dI (mg xs k) 0 k.length):=by
  show(cond (decide ((k.length:Int)>(200:Int))) (some false) ((bb N0 N0 (k,xs,(0:Int))).bind _))=_
  rw[show bb N0 N0 (k,xs,(0:Int))=_ from this]
  by_cases q:k.length≤200
  ·rw[decide_eq_false (by omega:¬(k.length:Int)>(200:Int)),decide_eq_true q]
   cases dI (mg xs k) 0 k.length<;>rfl
  ·rw[decide_eq_true (by omega:(k.length:Int)>(200:Int)),decide_eq_false q];rfl
 show((eM N0 xs).bind fun r1=>(cond r1 ((kP N0 (xs,k)).bind fun r2=>(some r2)) (some false)))=_
 rw[kS N0 n0 hx,e]
 generalize (decide (xs.length≤500)&&cp N0 [] xs)=P
 generalize dI (mg xs k) 0 k.length=Q
 generalize decide (k.length≤200)=R
 cases P<;>cases Q<;>cases R<;>rfl
def yi (lo hi v:Int):Bool:=decide (v≥lo)&&decide (v≤hi)
theorem In{k:List Int}(hk:k.length≤4294967296) (lo hi:Int) (m i:Nat) (hl:i<k.length) :
  bc N0 (m+1) (k,lo,hi,(i:Int))=bif yi lo hi (k.getD i 0)&&jK k i then bc N0 m (k,lo,hi,((i+1:Nat):Int))else some (.inl false):=by
 rw[bc]
 dsimp only
 rw[xr hl,cond_true,aQ hl,cond_true,pW]
 simp only[Option.bind_some,Int.toNat_natCast,cF hl hk]
 rw[show(decide (k.getD i 0≥lo)&&decide (k.getD i 0≤hi))=yi lo hi (k.getD i 0)from rfl]
 unfold jK
 cases yi lo hi (k.getD i 0)with
 |false=>rfl
 |true =>
  rcases Nat.eq_zero_or_pos i with q|q
  ·subst q;rfl
  ·rw[MN q,cond_true,yS q (by omega),aQ (by omega),cond_true,Int.toNat_natCast,zO,decide_eq_false (by omega:¬i=0)]
   cases decide (k.getD (i-1) 0<k.getD i 0)<;>rfl
theorem wR{k:List Int}(hk:k.length≤4294967296) (lo hi:Int):kQ N0 (k,lo,hi)=some (dI (fun j=>yi lo hi (k.getD j 0)&&jK k j) 0 k.length):=by
 have:=j9 (bc N0) (fun i=>(k,lo,hi,(i:Int))) (fun j=>yi lo hi (k.getD j 0)&&jK k j) false () k.length (In hk lo hi) (fun m=>by
  rw[bc];dsimp only;rw[GM];rfl) N0 0 (Nat.zero_le _) (by have:=n0;omega)
 rw[Nat.sub_zero]at this
 show((bc N0 N0 (k,lo,hi,(0:Int))).bind _)=_
 rw[show bc N0 N0 (k,lo,hi,(0:Int))=_ from this]
 cases dI (fun j=>yi lo hi (k.getD j 0)&&jK k j) 0 k.length<;>rfl
def pY (l:List Int) (v:Int):Bool := !dI (fun j => !(l.getD j 0==v)) 0 l.length
theorem ko{k:List Int}(hk:k.length≤4294967296) (v:Int):dU N0 (k,v)=some (pY k v):=by
 have:=j9 (bp N0) (fun i=>(k,v,(i:Int))) (fun j => !(k.getD j 0==v)) true () k.length (fun m i hi=>by
  rw[bp];dsimp only
  rw[xr hi,cond_true,aQ hi,cond_true,Int.toNat_natCast,cF hi hk]
  cases(k.getD i 0==v)<;>rfl) (fun m=>by
  rw[bp];dsimp only;rw[GM];rfl) N0 0 (Nat.zero_le _) (by have:=n0;omega)
 rw[Nat.sub_zero]at this
 show((bp N0 N0 (k,v,(0:Int))).bind _)=_
 rw[show bp N0 N0 (k,v,(0:Int))=_ from this]
 unfold pY
 cases dI (fun j => !(k.getD j 0==v)) 0 k.length<;>rfl
theorem uJ{l:List Int}{v:Int}:pY l v=true↔∃j,j<l.length∧l.getD j 0=v:=by
 unfold pY
 rw[Bool.not_eq_true',Bool.eq_false_iff,ne_eq,eR]
 constructor
 ·intro h
  refine Classical.byContradiction fun h2=>h fun j _ hj=>?_
  have:¬l.getD j 0=v:=fun e=>h2 ⟨j,by omega,e⟩
  simpa using this
 ·rintro ⟨j,h1,h2⟩ h
  have:=h j (Nat.zero_le _) (by omega)
  rw[h2]at this
  simp at this
abbrev Bg (x:cQ):List Int:=x.2.2.2.2.2.1
def dn (x:cQ):Bool:=x.2.2.2.2.2.2.1
structure Small (xs:List ab) (kn:List Int) (li:List cQ) (gv sh:List Int) (lg:List cB):Prop where
 fx:xs.length≤4294967296
 fk:kn.length≤4294967296
 fl:li.length≤4294967296
 fg:gv.length≤4294967296
 fs:sh.length≤4294967296
 fo:lg.length≤4294967296
 fe:∀i,i<li.length→(Bg (li.getD i zI)).length≤4294967296
def j7 (xs:List ab) (x:cQ):Bool:=(fF N0 (xs,x.1,x.2.1,x.2.2.1,x.2.2.2.1,x.2.2.2.2.1,x.2.2.2.2.2.1,x.2.2.2.2.2.2.1,x.2.2.2.2.2.2.2.1,x.2.2.2.2.2.2.2.2)).getD false
theorem uF{xs:List ab}(hx:xs.length≤4294967296){x:cQ}(he:(Bg x).length≤4294967296) :
  fF N0 (xs,x.1,x.2.1,x.2.2.1,x.2.2.2.1,x.2.2.2.2.1,x.2.2.2.2.2.1,x.2.2.2.2.2.2.1,x.2.2.2.2.2.2.2.1,x.2.2.2.2.2.2.2.2)=some (j7 xs x) ∧
  Fv N0 (xs,x.1,x.2.1,x.2.2.1,x.2.2.2.1,x.2.2.2.2.1,x.2.2.2.2.2.1,x.2.2.2.2.2.2.1,x.2.2.2.2.2.2.2.1,x.2.2.2.2.2.2.2.2)=some (j7 xs x):=by
 obtain⟨v,h1,h2⟩:=Eb hx (w:=x.1) (p:=x.2.1) (a:=x.2.2.1) (b:=x.2.2.2.1) (at_:=x.2.2.2.2.1) (env:=x.2.2.2.2.2.1) he (dn:=x.2.2.2.2.2.2.1) (dd:=x.2.2.2.2.2.2.2.1) (key:=x.2.2.2.2.2.2.2.2)
 unfold j7
 rw[h1]
 exact⟨rfl,h2⟩
def aM (xs:List ab):Bool:=decide (xs.length≤500)&&cp N0 [] xs
theorem NI{xs:List ab}(hx:xs.length≤4294967296){x:cQ}(he:(Bg x).length≤4294967296) (hP:aM xs=true) :
  fI N0 (xs,x.1,x.2.1,x.2.2.1,x.2.2.2.1,x.2.2.2.2.1,x.2.2.2.2.2.1,x.2.2.2.2.2.2.1,x.2.2.2.2.2.2.2.1,x.2.2.2.2.2.2.2.2)=some (j7 xs x):=by
 have h2:=(uF hx he).2
 have hP:(decide (xs.length≤500)&&cp N0 [] xs)=true:=hP
 rw[Fv]at h2
 dsimp only at h2
 rw[kS N0 n0 hx,hP]at h2
 simp only[Option.bind_some,cond_true]at h2
 cases hq:fI N0 (xs,x.1,x.2.1,x.2.2.1,x.2.2.2.1,x.2.2.2.2.1,x.2.2.2.2.2.1,x.2.2.2.2.2.2.1,x.2.2.2.2.2.2.2.1,x.2.2.2.2.2.2.2.2)with
 |none=>rw[hq]at h2;cases h2
 |some v=>rw[hq]at h2;exact h2
def zH (n:Int) (k:Int):Bool:=decide (k≥0)&&decide (k≤n-1)
def vP (li:List cQ) (k:Int):Bool:=zH (li.length:Int) k&&dn (li.getD k.toNat zI)
theorem G1{li:List cQ}{k:Int}(h:zH (li.length:Int) k=true):aR k li.length=true:=by
 unfold zH at h
 simp at h
 exact decide_eq_true ⟨by omega,by omega⟩
section
variable{xs:List ab}{kn:List Int}{li:List cQ}{fr:Int}{gv sh:List Int}{lg:List cB}
def lk (lg:List cB) (j:Nat):Int:=(lg.getD j zC).1
def Ba (li:List cQ) (lg:List cB) (i:Nat):Bool:=vP li (lk lg i)&&dI (fun j => !(lk lg j==lk lg i)) 0 i
def If (lg:List cB) (k:Int):Nat→Nat
 |0=>0
 |i+1=>If lg k i+(if lk lg i=k then 1 else 0)
theorem zZ (lg:List cB) (k:Int):∀i,If lg k i=0↔∀j,j<i→lk lg j≠k
 |0=>⟨fun _ j h=>by omega,fun _=>rfl⟩
 |i+1=>by
  show If lg k i+(if lk lg i=k then 1 else 0)=0↔_
  have ih:=zZ lg k i
  by_cases q:lk lg i=k
  ·rw[if_pos q]
   exact⟨fun h=>by omega,fun h=>absurd q (h i (by omega))⟩
  ·rw[if_neg q,Nat.add_zero,ih]
   constructor
   ·intro h j hj
    rcases Nat.lt_or_ge j i with z|z
    ·exact h j z
    ·have:j=i:=by omega
     subst this;exact q
   ·exact fun h j hj=>h j (by omega)
def A3 (li:List cQ) (lg:List cB) (i:Nat):Bool := !dn (li.getD i zI) || !(((If lg (i:Int) lg.length:Nat):Int)==(0:Int))
def xE (xs:List ab) (li:List cQ):Bool:=dI (fun i=>j7 xs (li.getD i zI)) 0 li.length
def Br (gv:List Int):Bool:=dI (fun i=>yi 0 4 (gv.getD i 0)) 0 gv.length
def Ax (li:List cQ) (sh:List Int):Bool:=dI (fun i=>vP li (sh.getD i 0)) 0 sh.length
def xB (xs:List ab) (kn:List Int):Bool:=dI (mg xs kn) 0 kn.length&&(decide (kn.length≤200)&&aM xs)
def BE (li:List cQ) (i:Nat):Bool:=dn (li.getD i zI)
def KJ (xs:List ab) (li:List cQ) (sh:List Int) (i:Nat):Bool:=j7 xs (li.getD i zI)&&(!pY sh (i:Int) || BE li i)
theorem Gq (d:Nat→Bool) (n:Nat):(places d n).length≤n:=by
 unfold places
 exact Nat.le_trans (List.length_filter_le _ _) (by simp)
theorem Pw (hs:Small xs kn li gv sh lg) (hP:aM xs=true):aY N0 N0 (xs,kn,li,fr,gv,sh,lg,(li.length:Int),(0:Int),(0:Int)) =
  some (bif dI (KJ xs li sh) 0 li.length then .inr (xs,kn,li,fr,gv,sh,lg,(li.length:Int),((places (BE li) li.length).length:Int))else .inl false):=by
 have h:=j9 (aY N0) (fun i=>(xs,kn,li,fr,gv,sh,lg,(li.length:Int),((places (BE li) i).length:Int),(i:Int))) (KJ xs li sh) false (xs,kn,li,fr,gv,sh,lg,(li.length:Int),((places (BE li) li.length).length:Int)) li.length (fun m i hi=>by
  rw[aY];dsimp only
  rw[xr hi,cond_true,aQ hi,cond_true]
  simp only[Int.toNat_natCast,cF hi hs.fl]
  rw[NI hs.fx (hs.fe i hi) hP,ko hs.fs]
  simp only[Option.bind_some,cond_true]
  have hpl:=Gq (BE li) i
  have hli:=hs.fl
  rw[Cc,show(li.getD i zI).2.2.2.2.2.2.1=BE li i from rfl,cF (i:=(places (BE li) i).length) (n:=i+1) (by omega) (by omega)]
  unfold KJ
  cases j7 xs (li.getD i zI)with
  |false=>rfl
  |true =>
   cases pY sh (i:Int)<;>cases BE li i<;>rfl) (fun m=>by
  rw[aY];dsimp only;rw[GM];rfl) N0 0 (Nat.zero_le _) (by have:=n0;have:=hs.fl;omega)
 rw[Nat.sub_zero]at h
 exact h
theorem Ng (hg:lg.length≤4294967296){N D k:Int}{i:Nat}(hi:i<lg.length):bo N0 N0 (xs,kn,li,fr,gv,sh,lg,N,D,(i:Int),k,(0:Int)) =
  some (bif dI (fun j => !(lk lg j==k)) 0 i then .inr (xs,kn,li,fr,gv,sh,lg,N,D,(i:Int))else .inl false):=by
 have h:=j9 (bo N0) (fun j=>(xs,kn,li,fr,gv,sh,lg,N,D,(i:Int),k,(j:Int))) (fun j => !(lk lg j==k)) false (xs,kn,li,fr,gv,sh,lg,N,D,(i:Int)) i (fun m j hj=>by
  rw[bo];dsimp only
  rw[xr hj,cond_true,aQ (by omega:j<lg.length),cond_true]
  simp only[Int.toNat_natCast,cF (by omega:j<lg.length) hg]
  rw[show(lg.getD j zC).1=lk lg j from rfl]
  cases(lk lg j==k)<;>rfl) (fun m=>by
  rw[bo];dsimp only;rw[GM];rfl) N0 0 (Nat.zero_le _) (by have:=n0;omega)
 rw[Nat.sub_zero]at h
 exact h
theorem Nh (hl:li.length≤4294967296) (hg:lg.length≤4294967296){D:Int}:aT N0 N0 (xs,kn,li,fr,gv,sh,lg,(li.length:Int),D,(0:Int)) =
  some (bif dI (Ba li lg) 0 lg.length then .inr (xs,kn,li,fr,gv,sh,lg,D)else .inl false):=by
 have h:=j9 (aT N0) (fun i=>(xs,kn,li,fr,gv,sh,lg,(li.length:Int),D,(i:Int))) (Ba li lg) false (xs,kn,li,fr,gv,sh,lg,D) lg.length (fun m i hi=>by
  rw[aT];dsimp only
  rw[xr hi,cond_true,aQ hi,cond_true,aw (show -9223372036854775808≤(li.length:Int)-1 by omega) (show(li.length:Int)-1≤9223372036854775807 by omega),pW]
  simp only[Option.bind_some,Int.toNat_natCast]
  rw[show(decide ((lg.getD i zC).1≥0)&&decide ((lg.getD i zC).1≤(li.length:Int)-1))=zH (li.length:Int) (lk lg i)from rfl,show(lg.getD i zC).1=lk lg i from rfl]
  unfold Ba vP
  cases hq:zH (li.length:Int) (lk lg i)with
  |false=>rfl
  |true =>
   rw[G1 hq,Ng hg hi]
   unfold dn
   cases(li.getD (lk lg i).toNat zI).2.2.2.2.2.2.1 with
   |false=>rfl
   |true =>
    cases dI (fun j => !(lk lg j==lk lg i)) 0 i with
    |false=>rfl
    |true =>
     show aT N0 m (xs,kn,li,fr,gv,sh,lg,(li.length:Int),D,IntKind.i64.wrap ((i:Int)+(1:Int)))=_
     rw[cF hi hg];rfl) (fun m=>by
  rw[aT];dsimp only;rw[GM];rfl) N0 0 (Nat.zero_le _) (by have:=n0;omega)
 rw[Nat.sub_zero]at h
 exact h
theorem Aw (hs:Small xs kn li gv sh lg):fJ N0 (xs,kn,li,fr,gv,sh,lg)=some (xB xs kn&&(decide (li.length≤8)&&(yi 0 8 fr&&(dI (fun j=>yi 0 4 (gv.getD j 0)&&jK gv j) 0 gv.length&&(dI (fun j=>yi 0 ((li.length:Int)-1) (sh.getD j 0)&&jK sh j) 0 sh.length&&(dI (KJ xs li sh) 0 li.length&&(dI (Ba li lg) 0 lg.length&&((lg.length:Int)==((places (BE li) li.length).length:Int))))))))):=by
 have hli:=hs.fl
 rw[fJ]
 dsimp only
 rw[vC hs.fx hs.fk,pW,wR hs.fg,aw (show -9223372036854775808≤(li.length:Int)-1 by omega) (show(li.length:Int)-1≤9223372036854775807 by omega),wR hs.fs]
 simp only[Option.bind_some]
 rw[show(dI (mg xs kn) 0 kn.length&&(decide (kn.length≤200)&&(decide (xs.length≤500)&&cp N0 [] xs)))=xB xs kn from rfl,
  show(decide (fr≥0)&&decide (fr≤8))=yi 0 8 fr from rfl]
 cases hk:xB xs kn with
 |false=>rfl
 |true =>
  have hP:aM xs=true:=by
   unfold xB at hk
   rw[Bool.and_eq_true,Bool.and_eq_true]at hk
   exact hk.2.2
  rw[Pw hs hP]
  by_cases q:li.length≤8
  ·rw[decide_eq_false (by omega:¬(li.length:Int)>(8:Int)),decide_eq_true q]
   cases yi 0 8 fr with
   |false=>rfl
   |true =>
    cases dI (fun j=>yi 0 4 (gv.getD j 0)&&jK gv j) 0 gv.length with
    |false=>rfl
    |true =>
     cases dI (fun j=>yi 0 ((li.length:Int)-1) (sh.getD j 0)&&jK sh j) 0 sh.length with
     |false=>rfl
     |true =>
      cases dI (KJ xs li sh) 0 li.length with
      |false=>rfl
      |true =>
       show((aT N0 N0 (xs,kn,li,fr,gv,sh,lg,(li.length:Int),((places (BE li) li.length).length:Int),(0:Int))).bind _)=_
       rw[Nh hs.fl hs.fo]
       cases dI (Ba li lg) 0 lg.length<;>rfl
  ·rw[decide_eq_true (by omega:(li.length:Int)>(8:Int)),decide_eq_false q];rfl
end
theorem Dg (a b:Nat→Bool) (i k:Nat):dI (fun j=>a j&&b j) i k=(dI a i k&&dI b i k):=by
 rw[Bool.eq_iff_iff,Bool.and_eq_true,eR,eR,eR]
 constructor
 ·intro h
  refine⟨fun j h1 h2=>?_,fun j h1 h2=>?_⟩
  ·have:=h j h1 h2
   rw[Bool.and_eq_true]at this;exact this.1
  ·have:=h j h1 h2
   rw[Bool.and_eq_true]at this;exact this.2
 ·rintro ⟨h1,h2⟩ j h3 h4
  rw[Bool.and_eq_true]
  exact⟨h1 j h3 h4,h2 j h3 h4⟩
section
variable{xs:List ab}{kn:List Int}{li:List cQ}{fr:Int}{gv sh:List Int}{lg:List cB}
theorem Dz:(xE xs li&&Ax li sh)=(dI (fun j=>yi 0 ((li.length:Int)-1) (sh.getD j 0)) 0 sh.length&&dI (KJ xs li sh) 0 li.length):=by
 unfold xE Ax
 rw[Bool.eq_iff_iff,Bool.and_eq_true,Bool.and_eq_true,eR,eR,eR,eR]
 constructor
 ·rintro ⟨h1,h2⟩
  refine⟨fun j h3 h4=>?_,fun i h3 h4=>?_⟩
  ·have:=h2 j h3 h4
   unfold vP at this
   rw[Bool.and_eq_true]at this
   exact this.1
  ·unfold KJ
   rw[Bool.and_eq_true]
   refine⟨h1 i h3 h4,?_⟩
   cases hh:pY sh (i:Int)with
   |false=>rfl
   |true =>
    obtain⟨j,h5,h6⟩:=uJ.1 hh
    have:=h2 j (Nat.zero_le _) (by omega)
    unfold vP at this
    rw[Bool.and_eq_true,h6,Int.toNat_natCast]at this
    show(false || BE li i)=true
    rw[Bool.false_or];exact this.2
 ·rintro ⟨h1,h2⟩
  refine⟨fun i h3 h4=>?_,fun j h3 h4=>?_⟩
  ·have:=h2 i h3 h4
   unfold KJ at this
   rw[Bool.and_eq_true]at this
   exact this.1
  ·have hr:=h1 j h3 h4
   unfold vP
   rw[Bool.and_eq_true]
   refine⟨hr,?_⟩
   have hr':=hr
   unfold yi at hr'
   rw[Bool.and_eq_true,decide_eq_true_iff,decide_eq_true_iff]at hr'
   obtain⟨i,hi⟩:=Int.eq_ofNat_of_zero_le hr'.1
   rw[hi]at hr' ⊢
   rw[Int.toNat_natCast]
   have:=h2 i (Nat.zero_le _) (by omega)
   unfold KJ at this
   rw[Bool.and_eq_true]at this
   have hh:pY sh (i:Int)=true:=uJ.2 ⟨j,by omega,hi⟩
   have h3:=this.2
   rw[hh]at h3
   exact h3
theorem JQ (h:dI (Ba li lg) 0 lg.length=true):dI (A3 li lg) 0 li.length=((lg.length:Int)==((places (BE li) li.length).length:Int)):=by
 rw[eR]at h
 have hg:∀i,i<lg.length→vP li (lk lg i)=true∧∀j,j<i→lk lg j≠lk lg i:=fun i hi=>by
  have:=h i (Nat.zero_le _) (by omega)
  unfold Ba at this
  rw[Bool.and_eq_true,eR]at this
  refine⟨this.1,fun j hj e=>?_⟩
  have:=this.2 j (Nat.zero_le _) (by omega)
  rw[e]at this
  simp at this
 have hL:((List.range lg.length).map (lk lg)).length=lg.length:=by simp
 have hnd:((List.range lg.length).map (lk lg)).Nodup:=by
  rw[D2,hL]
  intro i hi j hj
  have e:∀k,k<lg.length→((List.range lg.length).map (lk lg)).getD k 0=lk lg k:=fun k hk=>by
   rw[jz (by rw[hL];exact hk)];simp
  rw[e i hi,e j (by omega)]
  exact(hg i hi).2 j hj
 have hin:∀k∈(List.range lg.length).map (lk lg), ∃i:Nat,k=(i:Int)∧i<li.length∧BE li i=true:=by
  intro k hk
  obtain⟨j,hj,rfl⟩:=List.mem_map.1 hk
  have:=(hg j (List.mem_range.1 hj)).1
  unfold vP zH at this
  rw[Bool.and_eq_true,Bool.and_eq_true,decide_eq_true_iff,decide_eq_true_iff]at this
  obtain⟨⟨h1,h2⟩,h3⟩:=this
  obtain⟨i,hi⟩:=Int.eq_ofNat_of_zero_le h1
  rw[hi]at h2 h3
  rw[Int.toNat_natCast]at h3
  exact⟨i,hi,by omega,h3⟩
 have key:=JR (BE li) li.length _ hnd hin
 rw[hL]at key
 rw[Bool.eq_iff_iff,eR,beq_iff_eq]
 have hmem:∀i:Nat,(i:Int)∈(List.range lg.length).map (lk lg)↔If lg (i:Int) lg.length≠0:=by
  intro i
  rw[Ne,zZ,List.mem_map]
  constructor
  ·rintro ⟨j,h1,h2⟩ h3
   exact h3 j (List.mem_range.1 h1) h2
  ·intro h1
   refine Classical.byContradiction fun h2=>h1 fun j hj e=>h2 ⟨j,List.mem_range.2 hj,e⟩
 have e1:((lg.length:Int)=((places (BE li) li.length).length:Int))↔lg.length=(places (BE li) li.length).length:=by omega
 rw[e1, ←key]
 constructor
 ·intro h1 i h2 h3
  have:=h1 i (Nat.zero_le _) (by omega)
  rw[hmem]
  unfold A3 at this
  rw[show dn (li.getD i zI)=BE li i from rfl,h3]at this
  intro h4
  rw[h4]at this
  exact absurd this (by decide)
 ·intro h1 i _ h2
  unfold A3
  cases h3:dn (li.getD i zI)with
  |false=>rfl
  |true =>
   have:=(hmem i).1 (h1 i (by omega) h3)
   show(false || !(((If lg (i:Int) lg.length:Nat):Int)==(0:Int)))=true
   rw[Bool.false_or,Bool.not_eq_true',beq_eq_false_iff_ne]
   omega
def jg (xs:List ab) (kn:List Int) (li:List cQ) (fr:Int) (gv sh:List Int) (lg:List cB):Bool :=
 xB xs kn&&(decide (li.length≤8)&&(yi 0 8 fr&&(dI (jK gv) 0 gv.length&&(dI (jK sh) 0 sh.length&&(xE xs li&&(Br gv&&(Ax li sh&&(dI (Ba li lg) 0 lg.length&&dI (A3 li lg) 0 li.length))))))))
theorem wI (hs:Small xs kn li gv sh lg):fJ N0 (xs,kn,li,fr,gv,sh,lg)=some (jg xs kn li fr gv sh lg):=by
 refine(Aw hs).trans (congrArg some ?_)
 unfold jg
 have e1:dI (fun j=>yi 0 4 (gv.getD j 0)&&jK gv j) 0 gv.length=(Br gv&&dI (jK gv) 0 gv.length):=Dg _ _ _ _
 have e2:dI (fun j=>yi 0 ((li.length:Int)-1) (sh.getD j 0)&&jK sh j) 0 sh.length=(dI (fun j=>yi 0 ((li.length:Int)-1) (sh.getD j 0)) 0 sh.length&&dI (jK sh) 0 sh.length):=Dg _ _ _ _
 have e3:=Dz (xs:=xs) (li:=li) (sh:=sh)
 rw[e1,e2]
 cases hl:dI (Ba li lg) 0 lg.length with
 |true =>
  rw[JQ hl]
  revert e3
  generalize dI (fun j=>yi 0 ((li.length:Int)-1) (sh.getD j 0)) 0 sh.length=A
  generalize dI (KJ xs li sh) 0 li.length=B
  generalize xE xs li=C
  generalize Ax li sh=D
  generalize Br gv=E
  generalize dI (jK gv) 0 gv.length=F
  generalize dI (jK sh) 0 sh.length=G
  generalize ((lg.length:Int)==((places (BE li) li.length).length:Int))=H
  generalize xB xs kn=K
  generalize decide (li.length≤8)=M
  generalize yi 0 8 fr=R
  intro e3
  have:(A&&B)=(C&&D):=e3.symm
  cases A<;>cases B<;>cases C<;>cases D<;>simp_all<;>(cases E<;>cases F<;>cases G<;>rfl)
 |false =>
  simp only[Bool.false_and,Bool.and_false]
end
section
variable{xs:List ab}{kn:List Int}{li:List cQ}{fr:Int}{gv sh:List Int}{lg:List cB}
end
section
variable{xs:List ab}{kn:List Int}{li:List cQ}{fr:Int}{gv sh:List Int}{lg:List cB}{k:Int}
end
abbrev nX:ab:=((0:Int),((0:Int),(0:Int)))
def pf (xs:List ab) (k:ab):Nat→Nat→Option Nat
 |_,0=>none
 |i,m+1=>if xs.getD i nX=k then some i else pf xs k (i+1) m
abbrev vH (xs:List ab) (k:ab):Option Nat:=pf xs k 0 xs.length
theorem AF{xs:List ab}{k:ab}:∀{m i j:Nat},pf xs k i m=some j→i≤j∧j<i+m∧xs.getD j nX=k
 |0,_,_,h=>by cases h
 |m+1,i,j,h=>by
  unfold pf at h
  by_cases hk:xs.getD i nX=k
  ·rw[if_pos hk]at h
   obtain rfl:=Option.some.inj h
   exact⟨Nat.le_refl _,by omega,hk⟩
  ·rw[if_neg hk]at h
   obtain⟨h1,h2,h3⟩:=AF h
   exact⟨by omega,by omega,h3⟩
theorem E5{xs:List ab}{k:ab}:∀{m i:Nat},pf xs k i m=none→∀q,i≤q→q<i+m→xs.getD q nX≠k
 |0,i,_,q,h1,h2=>by omega
 |m+1,i,h,q,h1,h2=>by
  unfold pf at h
  by_cases hk:xs.getD i nX=k
  ·rw[if_pos hk]at h;cases h
  ·rw[if_neg hk]at h
   rcases Nat.eq_or_lt_of_le h1 with e|e
   ·subst e;exact hk
   ·exact E5 h q e (by omega)
theorem JF (p k:ab):(p.1==k.1&&(p.2.1==k.2.1&&(p.2.2==k.2.2&&true)))=decide (p=k):=by
 obtain⟨p1,p2,p3⟩:=p
 obtain⟨k1,k2,k3⟩:=k
 rw[Bool.eq_iff_iff]
 simp
theorem K9{xs:List ab}{k:ab}{i:Nat}(h:i<xs.length):pf xs k i (xs.length-i)=if xs.getD i nX=k then some i else pf xs k (i+1) (xs.length-(i+1)):=by
 have e:xs.length-i=(xs.length-(i+1))+1:=by omega
 rw[e];rfl
theorem Nv{xs:List ab}{k:ab}{i:Nat}(h:xs.length≤i):pf xs k i (xs.length-i)=none:=by
 have e:xs.length-i=0:=by omega
 rw[e];rfl
theorem xJ (n:Nat){xs:List ab}(hx:xs.length≤4294967296) (k:ab):∀(m i:Nat),i≤xs.length→xs.length<m+i→bi n m (xs,k.1,k.2.1,k.2.2,(i:Int)) =
  some (match pf xs k i (xs.length-i)with|some j=>Sum.inl (j:Int)|none=>Sum.inr ())
 |0,i,h1,h2=>by omega
 |m+1,i,h1,h2=>by
  have e0:bi n (m+1) (xs,k.1,k.2.1,k.2.2,(i:Int))=(cond (decide ((i:Int)<(xs.length:Int))) (cond (aR (i:Int) xs.length) (cond ((xs.getD ((i:Int)).toNat nX).1==k.1&&((xs.getD ((i:Int)).toNat nX).2.1==k.2.1&&((xs.getD ((i:Int)).toNat nX).2.2==k.2.2&&true))) (some (Sum.inl (i:Int))) (bi n m (xs,k.1,k.2.1,k.2.2,IntKind.i64.wrap ((i:Int)+(1:Int))))) none) (some (Sum.inr ()))):=rfl
  rw[e0,NF]
  by_cases hlt:i<xs.length
  ·rw[decide_eq_true hlt,cond_true,aQ hlt,cond_true,Int.toNat_natCast,cF hlt hx,JF,K9 hlt]
   by_cases hk:xs.getD i nX=k
   ·rw[decide_eq_true hk,cond_true,if_pos hk]
   ·rw[decide_eq_false hk,cond_false,if_neg hk,xJ n hx k m (i+1) hlt (by omega)]
  ·rw[decide_eq_false hlt,cond_false,Nv (by omega)]
def Wu (xs:List ab) (k:ab):Int:=match vH xs k with
 |some j=>(j:Int)
 |none=>-1
theorem GV{xs:List ab}(hx:xs.length≤4294967296) (k:ab):dy N0 (xs,k.1,k.2.1,k.2.2)=some (Wu xs k):=by
 unfold dy
 dsimp only
 have h:=xJ N0 hx k N0 0 (Nat.zero_le _) (by have:=n0;omega)
 rw[Nat.sub_zero]at h
 rw[show(0:Int)=((0:Nat):Int)from rfl,h]
 unfold Wu vH
 cases pf xs k 0 xs.length<;>rfl
theorem Ja {α:Type}{xs:List ab}(h:xs.length≤500){k:α}:aO (xs.length+[k].length)=true:=by
 unfold aO
 rw[List.length_singleton]
 simp
 omega
theorem JG{c a b:Int}{i j:Nat}(hj:j≤4294967296) (hij:i≤j) (h:fE N0 (c,a,b,(i:Int))=true):fE N0 (c,a,b,(j:Int))=true:=by
 have wi:IntKind.i64.wrap ((i:Int)-(1:Int))=(i:Int)-1:=aw (by omega) (by omega)
 have wj:IntKind.i64.wrap ((j:Int)-(1:Int))=(j:Int)-1:=aw (by omega) (by omega)
 have up:∀v:Int,(decide (v≥0)&&decide (v≤(i:Int)-1))=true→(decide (v≥0)&&decide (v≤(j:Int)-1))=true:=fun v hv=>by
  rw[Bool.and_eq_true,decide_eq_true_iff,decide_eq_true_iff]at hv ⊢
  omega
 have ha:=up a
 have hb:=up b
 revert h
 unfold fE b7
 dsimp only
 obtain⟨v,hv⟩:=xT N0 c
 rw[hv]
 simp only[Option.bind_some,eY,wi,wj]
 generalize (decide (a≥0)&&decide (a≤(i:Int)-1))=A1 at ha ⊢
 generalize (decide (a≥0)&&decide (a≤(j:Int)-1))=A2 at ha ⊢
 generalize (decide (b≥0)&&decide (b≤(i:Int)-1))=B1 at hb ⊢
 generalize (decide (b≥0)&&decide (b≤(j:Int)-1))=B2 at hb ⊢
 cases(v==(0:Int))
 ·cases(v==(1:Int))
  ·cases(v==(2:Int))
   ·exact id
   ·cases A1
    ·exact fun h=>Bool.noConfusion h
    ·cases B1
     ·exact fun h=>(by cases A2<;>exact Bool.noConfusion h)
     ·rw[ha rfl,hb rfl];exact id
  ·cases A1
   ·exact fun h=>Bool.noConfusion h
   ·rw[ha rfl];exact id
 ·exact id
theorem y0{n:Nat}:∀{r pre:List ab},cp n pre r=true→∀j,j<r.length→fE n ((r.getD j nX).1,(r.getD j nX).2.1,(r.getD j nX).2.2,((pre.length+j:Nat):Int))=true
 |[],pre,_,j,hj=>absurd hj (Nat.not_lt_zero _)
 |k::r,pre,h,j,hj=>by
  have h:((!pre.contains k&&fE n (k.1,k.2.1,k.2.2,(pre.length:Int)))&&cp n (pre++[k]) r)=true:=h
  rw[Bool.and_eq_true,Bool.and_eq_true]at h
  match j with
  |0=>exact h.1.2
  |j+1 =>
   have:=y0 h.2 j (by simpa using hj)
   rw[List.length_append]at this
   have e:pre.length+(j+1)=pre.length+[k].length+j:=by simp;omega
   rw[e]
   exact this
theorem xg{n:Nat}:∀{r pre s:List ab},cp n pre (r++s)=(cp n pre r&&cp n (pre++r) s)
 |[],pre,s=>by simp[cp]
 |k::r,pre,s=>by
  show((!pre.contains k&&fE n (k.1,k.2.1,k.2.2,(pre.length:Int)))&&cp n (pre++[k]) (r++s))=(((!pre.contains k&&fE n (k.1,k.2.1,k.2.2,(pre.length:Int)))&&cp n (pre++[k]) r)&&cp n (pre++(k::r)) s)
  rw[xg]
  simp only[Bool.and_assoc,List.append_assoc,List.singleton_append]
theorem cW{xs:List ab}(h:aM xs=true):xs.length≤500:=by
 unfold aM at h
 rw[Bool.and_eq_true,decide_eq_true_iff]at h
 exact h.1
theorem wZ{xs:List ab}(h:aM xs=true){j:Nat}(hj:j<xs.length):fE N0 ((xs.getD j nX).1,(xs.getD j nX).2.1,(xs.getD j nX).2.2,(j:Int))=true:=by
 unfold aM at h
 rw[Bool.and_eq_true]at h
 have:=y0 h.2 j hj
 simpa using this
theorem DN{xs:List ab}(h:aM xs=true) (hl:xs.length<500){k:ab}(hk:fE N0 (k.1,k.2.1,k.2.2,(xs.length:Int))=true) (hn:vH xs k=none):aM (xs++[k])=true:=by
 unfold aM at h ⊢
 rw[Bool.and_eq_true]at h ⊢
 refine⟨decide_eq_true (by simp;omega),?_⟩
 rw[xg,h.2,Bool.true_and,List.nil_append]
 show((!xs.contains k&&fE N0 (k.1,k.2.1,k.2.2,(xs.length:Int)))&&true)=true
 rw[hk,Bool.and_true,Bool.and_true,Bool.not_eq_true']
 rw[←Bool.not_eq_true]
 intro hc
 have hm:k∈xs:=by simpa using hc
 obtain⟨j,hj,e⟩:=List.mem_iff_getElem.1 hm
 refine E5 hn j (Nat.zero_le _) (by omega) ?_
 rw[jz hj]
 exact e
def Bv (xs:List ab) (k:ab):Option (List ab×Int) :=
 bif fE N0 (k.1,k.2.1,k.2.2,(xs.length:Int))then(match vH xs k with
  |some j=>some (xs,(j:Int))
  |none=>if 500≤xs.length then none else some (xs++[k],(xs.length:Int)))else none
def QY (kd a b:Int):ab:=bif kd==8 then(kd,mn a b,mx a b)else(kd,a,b)
def iz (xs:List ab) (kd a b:Int):Option (List ab×Int):=Bv xs (QY kd a b)
def mZ (xs:List ab):Option (List ab×Int)→List ab×Int
 |some r=>r
 |none=>(xs, -1)
theorem Ir{xs ys:List ab}{k:ab}{t:Int}(hp:aM xs=true) (h:Bv xs k=some (ys,t)):aM ys=true∧0≤t∧t<(ys.length:Int)∧(∃zs,ys=xs++zs)∧ys.getD t.toNat nX=k:=by
 unfold Bv at h
 cases hk:fE N0 (k.1,k.2.1,k.2.2,(xs.length:Int))with
 |false=>rw[hk]at h;cases h
 |true =>
  rw[hk,cond_true]at h
  cases hf:vH xs k with
  |some j =>
   rw[hf]at h
   obtain⟨rfl,rfl⟩:=Prod.mk.inj (Option.some.inj h)
   obtain⟨h1,h2,h3⟩:=AF hf
   exact⟨hp,by omega,by omega,⟨[],by simp⟩,by rw[Int.toNat_natCast];exact h3⟩
  |none =>
   rw[hf]at h
   dsimp only at h
   by_cases hl:500≤xs.length
   ·rw[if_pos hl]at h;cases h
   ·rw[if_neg hl]at h
    obtain⟨rfl,rfl⟩:=Prod.mk.inj (Option.some.inj h)
    exact⟨DN hp (by omega) hk hf,by omega,by simp;omega,⟨[k],rfl⟩,by rw[Int.toNat_natCast];simp[List.getD_eq_getElem?_getD]⟩
theorem wS{xs:List ab}(hp:aM xs=true) (k:ab):((dy N0 (xs,k.1,k.2.1,k.2.2)).bind fun r9=>(cond (decide (r9≥(0:Int))) (some (xs,r9)) ((dS N0 (k.1,k.2.1,k.2.2,((xs).length:Int))).bind fun r10=>(cond (!r10) (some (xs,(-1:Int))) (cond (((xs).length:Int)==(500:Int)) (some (xs,(-1:Int))) ((aZ N0 xs).bind fun r11=>(cond (aO ((r11).length+([(k.1,(k.2.1,k.2.2))]).length)) ((fh N0 (xs,[],(r11++[(k.1,(k.2.1,k.2.2))]))).bind fun g12=>(some (g12.1,g12.2))) none)))))))
  = some (mZ xs (Bv xs k)):=by
 have hx:=cW hp
 rw[GV (by omega),Option.bind_some]
 unfold Wu Bv
 cases hf:vH xs k with
 |some j =>
  obtain⟨h1,h2,h3⟩:=AF hf
  have hj:j<xs.length:=by omega
  have hnd:=wZ hp hj
  rw[h3]at hnd
  rw[JG (by omega) (Nat.le_of_lt hj) hnd]
  dsimp only
  rw[decide_eq_true (by omega:(j:Int)≥(0:Int)),cond_true];rfl
 |none =>
  dsimp only
  rw[decide_eq_false (by omega:¬((-1:Int)≥(0:Int))),cond_false,B3,Option.bind_some]
  cases fE N0 (k.1,k.2.1,k.2.2,(xs.length:Int))with
  |false=>rfl
  |true =>
   rw[cond_true,Bool.not_true,cond_false]
   by_cases hl:500≤xs.length
   ·have:((xs.length:Int)==(500:Int))=true:=by simp;omega
    rw[this,cond_true,if_pos hl];rfl
   ·have:((xs.length:Int)==(500:Int))=false:=by simp;omega
    rw[this,cond_false,if_neg hl]
    have e1:aZ N0 xs=some xs:=by
     unfold aZ
     have:aO (([]:List ab).length+xs.length)=true:=by
      unfold aO
      simp
      omega
     rw[this];rfl
    rw[e1,Option.bind_some]
    have:aO (xs.length+[(k.1,(k.2.1,k.2.2))].length)=true:=Ja hx
    rw[this,cond_true];rfl
theorem gt{xs:List ab}(hp:aM xs=true) (kd a b:Int):aX N0 (xs,kd,a,b)=some (mZ xs (iz xs kd a b)):=by
 unfold aX iz QY mn mx
 dsimp only
 cases hk:(kd==(8:Int))with
 |true =>
  rw[cond_true,cond_true]
  by_cases hab:a>b
  ·rw[decide_eq_true hab,cond_true,if_pos (by omega:b<a),if_neg (by omega:¬b>a)]
   exact wS hp (kd,b,a)
  ·rw[decide_eq_false hab,cond_false,if_neg (by omega:¬b<a)]
   have:(if b>a then b else a)=b:=by split<;>omega
   rw[this]
   exact wS hp (kd,a,b)
 |false=>rw[cond_false,cond_false];exact wS hp (kd,a,b)
theorem iY{xs:List ab}(hp:aM xs=true) (c:Int):bO N0 (xs,c)=some (mZ xs (iz xs 1 c 0)):=by
 unfold bO
 dsimp only
 rw[gt hp];rfl
def pH (xs:List ab) (a e:Int):Option (List ab×Int) :=
 bif cx xs a then(bif cx xs e then(bif (xs.getD a.toNat nX).1==7 then iz xs 8 e (xs.getD a.toNat nX).2.1 else none)else none)else none
theorem pX{xs:List ab}{a:Int}(h:cx xs a=true):aR a xs.length=true:=by
 unfold cx at h
 rw[Bool.and_eq_true,decide_eq_true_iff,decide_eq_true_iff]at h
 have e:a=((a.toNat:Nat):Int):=by omega
 rw[e]
 exact aQ (by omega)
theorem sE{xs:List ab}(hp:aM xs=true) (a e:Int):dw N0 (xs,a,e)=some (mZ xs (pH xs a e)):=by
 have hx:=cW hp
 unfold dw pH
 dsimp only
 rw[uH N0 (by omega),Option.bind_some]
 cases ha:cx xs a with
 |false=>rfl
 |true =>
  rw[Bool.not_true,cond_false,cond_true,uH N0 (by omega),Option.bind_some]
  cases cx xs e with
  |false=>rfl
  |true =>
   rw[Bool.not_true,cond_false,cond_true,pX ha,cond_true,cond_true]
   show(cond (!((xs.getD a.toNat nX).1==(7:Int))) _ _)=_
   cases((xs.getD a.toNat nX).1==(7:Int))with
   |false=>rfl
   |true =>
    rw[Bool.not_true,cond_false,cond_true,gt hp];rfl
inductive mD where
 |name (c:Int)
 |var (i:Int)
 |ask (i:Int)
 |un (k:Int) (p:mD)
 |bin (k:Int) (p q:mD)
 |exp (p q:mD)
def mD.asks:mD→Bool
 | .ask _=>true
 | .un _ p=>p.asks
 | .bin _ p q=>p.asks || q.asks
 | .exp p q=>p.asks || q.asks
 |_=>false
def mk (env:List Int):mD→List ab→Option (List ab×Int)
 | .name c,xs=>iz xs 1 c 0
 | .var i,xs=>bif decide (env.getD i.toNat 0<0)then none else some (xs,env.getD i.toNat 0)
 | .ask _,xs=>none
 | .un k p,xs=>(mk env p xs).bind fun r=>iz r.1 k r.2 0
 | .bin k p q,xs=>(mk env p xs).bind fun r=>(mk env q r.1).bind fun s=>iz s.1 k r.2 s.2
 | .exp p q,xs=>(mk env p xs).bind fun r=>(mk env q r.1).bind fun s=>pH s.1 s.2 r.2
theorem qH{env:List Int}:∀{p:mD}(xs:List ab),p.asks=true→mk env p xs=none
 | .name c,xs,h=>by cases h
 | .var i,xs,h=>by cases h
 | .ask _,xs,_=>rfl
 | .un k p,xs,h=>by
  show(mk env p xs).bind _=none
  rw[qH xs (show p.asks=true from h)];rfl
 | .bin k p q,xs,h=>by
  have h:(p.asks || q.asks)=true:=h
  show(mk env p xs).bind _=none
  cases hp:p.asks with
  |true=>rw[qH xs hp];rfl
  |false =>
   rw[hp,Bool.false_or]at h
   cases mk env p xs with
   |none=>rfl
   |some r=>show(mk env q r.1).bind _=none;rw[qH r.1 h];rfl
 | .exp p q,xs,h=>by
  have h:(p.asks || q.asks)=true:=h
  show(mk env p xs).bind _=none
  cases hp:p.asks with
  |true=>rw[qH xs hp];rfl
  |false =>
   rw[hp,Bool.false_or]at h
   cases mk env p xs with
   |none=>rfl
   |some r=>show(mk env q r.1).bind _=none;rw[qH r.1 h];rfl
def Ah (xs ys:List ab) (t:Int):Prop:=aM ys=true∧0≤t∧(∃zs,ys=xs++zs)
theorem dP{xs ys:List ab}{kd a b t:Int}(hp:aM xs=true) (h:iz xs kd a b=some (ys,t)):Ah xs ys t∧t<(ys.length:Int):=by
 obtain⟨h1,h2,h3,h4,_⟩:=Ir hp h
 exact⟨⟨h1,h2,h4⟩,h3⟩
theorem Ah.trans{xs ys zs:List ab}{t u:Int}(h1:Ah xs ys t) (h2:Ah ys zs u):Ah xs zs u:=by
 obtain⟨a1,a2,v,rfl⟩:=h1
 obtain⟨b1,b2,w,rfl⟩:=h2
 exact⟨b1,b2,v++w,by rw[List.append_assoc]⟩
theorem ou{xs ys:List ab}{a e t:Int}(h:pH xs a e=some (ys,t)):iz xs 8 e (xs.getD a.toNat nX).2.1=some (ys,t):=by
 unfold pH at h
 cases h1:cx xs a with
 |false=>rw[h1]at h;cases h
 |true =>
  cases h2:cx xs e with
  |false=>rw[h1,h2]at h;cases h
  |true =>
   cases h3:((xs.getD a.toNat nX).1==7)with
   |false=>rw[h1,h2,h3]at h;cases h
   |true=>rw[h1,h2,h3]at h;exact h
theorem dF{env:List Int}:∀{p:mD}{xs ys:List ab}{t:Int},aM xs=true→mk env p xs=some (ys,t)→Ah xs ys t
 | .name c,xs,ys,t,hp,h=>(dP hp h).1
 | .var i,xs,ys,t,hp,h=>by
  have h:(bif decide (env.getD i.toNat 0<0)then none else some (xs,env.getD i.toNat 0))=some (ys,t):=h
  by_cases hn:env.getD i.toNat 0<0
  ·rw[decide_eq_true hn]at h;cases h
  ·rw[decide_eq_false hn]at h
   obtain⟨rfl,rfl⟩:=Prod.mk.inj (Option.some.inj h)
   exact⟨hp,by omega,[],by simp⟩
 | .ask _,xs,ys,t,hp,h=>by cases h
 | .un k p,xs,ys,t,hp,h=>by
  obtain⟨r,h1,h2⟩:=Option.bind_eq_some_iff.1 (show(mk env p xs).bind _=some (ys,t)from h)
  have g1:=dF hp (show mk env p xs=some (r.1,r.2)from h1)
  exact g1.trans (dP g1.1 h2).1
 | .bin k p q,xs,ys,t,hp,h=>by
  obtain⟨r,h1,h2⟩:=Option.bind_eq_some_iff.1 (show(mk env p xs).bind _=some (ys,t)from h)
  have g1:=dF hp (show mk env p xs=some (r.1,r.2)from h1)
  obtain⟨s,h3,h4⟩:=Option.bind_eq_some_iff.1 h2
  have g2:=dF g1.1 (show mk env q r.1=some (s.1,s.2)from h3)
  exact(g1.trans g2).trans (dP g2.1 h4).1
 | .exp p q,xs,ys,t,hp,h=>by
  obtain⟨r,h1,h2⟩:=Option.bind_eq_some_iff.1 (show(mk env p xs).bind _=some (ys,t)from h)
  have g1:=dF hp (show mk env p xs=some (r.1,r.2)from h1)
  obtain⟨s,h3,h4⟩:=Option.bind_eq_some_iff.1 h2
  have g2:=dF g1.1 (show mk env q r.1=some (s.1,s.2)from h3)
  exact(g1.trans g2).trans (dP g2.1 (ou h4)).1
abbrev fT:=Int×(Int×List Int)
abbrev fw:=Int×(Int×(Int×Bool))
abbrev zP:fT:=((0:Int),((0:Int),[]))
abbrev zS:fw:=((0:Int),((0:Int),((0:Int),false)))
def zA (s:Int):Int:=if s=40 then 2 else if s=123 then 3 else if s=91 then 4 else if s=35 then 5 else if s=107 then 6 else if s=94 then 7 else if s=42 then 8 else 0
def Fr (x:fT) (y:fw):Option mD :=
 bif x.1==110 then(bif y.1==1&&(x.2.1==y.2.1 && !y.2.2.2)then some (.name x.2.1)else none)
 else bif x.1==36 then(bif (y.1==9&&(x.2.1==y.2.1 && !y.2.2.2))&&(decide (0≤x.2.1)&&decide (x.2.1<26))then some (.var x.2.1)else none)
 else bif x.1==63 then(bif (y.1==9&&(x.2.1==y.2.1&&y.2.2.2))&&(decide (0≤x.2.1)&&decide (x.2.1<26))then some (.ask x.2.1)else none)
 else none
def uD (s:Int):Bool:=s==110 || (s==36 || s==63)
def DX (x:fT) (y:fw) (P:mD):Option mD :=
 bif !uD x.1&&(!(x.1==120)&&((zA x.1==y.1)&&((y.1==5 || y.1==7)&&(y.2.2.2==P.asks))))then some (.un y.1 P)else none
def KQ (x:fT) (y:fw) (P Q:mD):Option mD :=
 bif !uD x.1&&(y.2.2.2==(P.asks || Q.asks))then(bif x.1==120 then(bif y.1==10 then some (.exp P Q)else none)else(bif (zA x.1==y.1)&&(y.1==2 || (y.1==3 || (y.1==4 || (y.1==6 || y.1==8))))then some (.bin y.1 P Q)else none))else none
def mF (l1:List fT) (l2:List fw):Nat→Int→Int→Option mD
 |0,_,_=>none
 |k+1,a,b=>bif aR a l1.length&&aR b l2.length then(match(l1.getD a.toNat zP).2.2 with
   |[]=>Fr (l1.getD a.toNat zP) (l2.getD b.toNat zS)
   |[p]=>(mF l1 l2 k p (l2.getD b.toNat zS).2.1).bind fun P=>DX (l1.getD a.toNat zP) (l2.getD b.toNat zS) P
   |[p,q]=>(mF l1 l2 k p (l2.getD b.toNat zS).2.1).bind fun P=>(mF l1 l2 k q (l2.getD b.toNat zS).2.2.1).bind fun Q=>KQ (l1.getD a.toNat zP) (l2.getD b.toNat zS) P Q
   |_=>none)else none
theorem pU{x:fT}{y:fw}{P:mD}(h:Fr x y=some P) :
  ((x.1==110)=true∧y.1=1∧y.2.1=x.2.1∧y.2.2.2=false∧P = .name x.2.1) ∨
  ((x.1==110)=false∧(x.1==36)=true∧y.1=9∧y.2.1=x.2.1∧y.2.2.2=false∧0≤x.2.1∧x.2.1<26∧P = .var x.2.1) ∨
  ((x.1==110)=false∧(x.1==36)=false∧(x.1==63)=true∧y.1=9∧y.2.1=x.2.1∧y.2.2.2=true∧0≤x.2.1∧x.2.1<26∧P = .ask x.2.1):=by
 unfold Fr at h
 cases h1:(x.1==110)with
 |true =>
  rw[h1,cond_true]at h
  cases hc:(y.1==1&&(x.2.1==y.2.1 && !y.2.2.2))with
  |false=>rw[hc]at h;cases h
  |true =>
   rw[hc]at h
   simp only[Bool.and_eq_true,beq_iff_eq,Bool.not_eq_true']at hc
   exact .inl ⟨rfl,hc.1,hc.2.1.symm,hc.2.2,(Option.some.inj h).symm⟩
 |false =>
  rw[h1,cond_false]at h
  cases h2:(x.1==36)with
  |true =>
   rw[h2,cond_true]at h
   cases hc:((y.1==9&&(x.2.1==y.2.1 && !y.2.2.2))&&(decide (0≤x.2.1)&&decide (x.2.1<26)))with
   |false=>rw[hc]at h;cases h
   |true =>
    rw[hc]at h
    simp only[Bool.and_eq_true,beq_iff_eq,Bool.not_eq_true',decide_eq_true_iff]at hc
    exact .inr (.inl ⟨rfl,rfl,hc.1.1,hc.1.2.1.symm,hc.1.2.2,hc.2.1,hc.2.2,(Option.some.inj h).symm⟩)
  |false =>
   rw[h2,cond_false]at h
   cases h3:(x.1==63)with
   |false=>rw[h3]at h;cases h
   |true =>
    rw[h3,cond_true]at h
    cases hc:((y.1==9&&(x.2.1==y.2.1&&y.2.2.2))&&(decide (0≤x.2.1)&&decide (x.2.1<26)))with
    |false=>rw[hc]at h;cases h
    |true =>
     rw[hc]at h
     simp only[Bool.and_eq_true,beq_iff_eq,decide_eq_true_iff]at hc
     exact .inr (.inr ⟨rfl,rfl,rfl,hc.1.1,hc.1.2.1.symm,hc.1.2.2,hc.2.1,hc.2.2,(Option.some.inj h).symm⟩)
theorem zF{s:Int}(h:(!uD s)=true):(s==110)=false∧(s==36)=false∧(s==63)=false:=by
 unfold uD at h
 simpa using h
theorem oz{x:fT}{y:fw}{P R:mD}(h:DX x y P=some R) :
  ((x.1==110)=false∧(x.1==36)=false∧(x.1==63)=false)∧(x.1==120)=false∧zA x.1=y.1∧(y.1=5∨y.1=7)∧y.2.2.2=P.asks∧R = .un y.1 P:=by
 unfold DX at h
 cases hc:(!uD x.1&&(!(x.1==120)&&((zA x.1==y.1)&&((y.1==5 || y.1==7)&&(y.2.2.2==P.asks)))))with
 |false=>rw[hc]at h;cases h
 |true =>
  rw[hc]at h
  rw[Bool.and_eq_true]at hc
  have h2:=hc.2
  simp only[Bool.and_eq_true,Bool.not_eq_true',beq_iff_eq,Bool.or_eq_true]at h2
  exact⟨zF hc.1,h2.1,h2.2.1,h2.2.2.1,h2.2.2.2,(Option.some.inj h).symm⟩
theorem rF{x:fT}{y:fw}{P Q R:mD}(h:KQ x y P Q=some R) :
  ((x.1==110)=false∧(x.1==36)=false∧(x.1==63)=false)∧y.2.2.2=(P.asks || Q.asks) ∧
  (((x.1==120)=true∧y.1=10∧R = .exp P Q)∨((x.1==120)=false∧zA x.1=y.1∧(y.1=2∨y.1=3∨y.1=4∨y.1=6∨y.1=8)∧R = .bin y.1 P Q)):=by
 unfold KQ at h
 cases hc:(!uD x.1&&(y.2.2.2==(P.asks || Q.asks)))with
 |false=>rw[hc]at h;cases h
 |true =>
  rw[hc,cond_true]at h
  rw[Bool.and_eq_true]at hc
  refine⟨zF hc.1,by simpa using hc.2,?_⟩
  cases h1:(x.1==120)with
  |true =>
   rw[h1,cond_true]at h
   cases h2:(y.1==10)with
   |false=>rw[h2]at h;cases h
   |true=>rw[h2]at h;exact .inl ⟨rfl,by simpa using h2,(Option.some.inj h).symm⟩
  |false =>
   rw[h1,cond_false]at h
   cases h2:((zA x.1==y.1)&&(y.1==2 || (y.1==3 || (y.1==4 || (y.1==6 || y.1==8)))))with
   |false=>rw[h2]at h;cases h
   |true =>
    rw[h2]at h
    simp only[Bool.and_eq_true,beq_iff_eq,Bool.or_eq_true]at h2
    exact .inr ⟨rfl,h2.1,h2.2,(Option.some.inj h).symm⟩
theorem Bt{xs:List ab}{kd a b:Int}(hp:aM xs=true):∀r,iz xs kd a b=some r→0≤r.2:=fun r h=>(dP hp (show _=some (r.1,r.2)from h)).1.2.1
theorem Gi{xs:List ab}{a e:Int}(hp:aM xs=true):∀r,pH xs a e=some r→0≤r.2:=fun r h=>(dP hp (ou (show _=some (r.1,r.2)from h))).1.2.1
theorem qQ{l1:List fT}{l2:List fw}{k:Nat}{a b:Int}{P:mD}(h:mF l1 l2 (k+1) a b=some P) :
    aR a l1.length=true∧aR b l2.length=true ∧
    (((l1.getD a.toNat zP).2.2=[]∧Fr (l1.getD a.toNat zP) (l2.getD b.toNat zS)=some P) ∨
     (∃p Q,(l1.getD a.toNat zP).2.2=[p]∧mF l1 l2 k p (l2.getD b.toNat zS).2.1=some Q∧DX (l1.getD a.toNat zP) (l2.getD b.toNat zS) Q=some P) ∨
     (∃p q Q R,(l1.getD a.toNat zP).2.2=[p,q]∧mF l1 l2 k p (l2.getD b.toNat zS).2.1=some Q∧mF l1 l2 k q (l2.getD b.toNat zS).2.2.1=some R∧KQ (l1.getD a.toNat zP) (l2.getD b.toNat zS) Q R=some P)):=by
  unfold mF at h
  cases hb:(aR a l1.length&&aR b l2.length)with
  |false=>rw[hb]at h;cases h
  |true =>
    rw[hb,cond_true]at h
    rw[Bool.and_eq_true]at hb
    refine⟨hb.1,hb.2,?_⟩
    split at h
    · rename_i e;exact .inl ⟨e,h⟩
    · rename_i p e
      obtain⟨Q,h1,h2⟩:=Option.bind_eq_some_iff.1 h
      exact .inr (.inl ⟨p,Q,e,h1,h2⟩)
    · rename_i p q e
      obtain⟨Q,h1,h2⟩:=Option.bind_eq_some_iff.1 h
      obtain⟨R,h3,h4⟩:=Option.bind_eq_some_iff.1 h2
      exact .inr (.inr ⟨p,q,Q,R,e,h1,h3,h4⟩)
    · cases h
theorem xO{env:List Int}(he:env.length=26){i:Int}(h0:0≤i) (h1:i<26):aR i env.length=true:=by
 have e:i=((i.toNat:Nat):Int):=by omega
 rw[e]
 exact aQ (by omega)
theorem JN{env:List Int}(xs:List ab) (i:Int):(match mk env (.var i) xs with
  |some s=>(xs,env.getD i.toNat 0)=s
  |none=>env.getD i.toNat 0<0):=by
 by_cases hn:env.getD i.toNat 0<0
 ·have:mk env (.var i) xs=none:=by
   show(bif decide (env.getD i.toNat 0<0)then none else some (xs,env.getD i.toNat 0))=none
   rw[decide_eq_true hn];rfl
  rw[this];exact hn
 ·have:mk env (.var i) xs=some (xs,env.getD i.toNat 0):=by
   show(bif decide (env.getD i.toNat 0<0)then none else some (xs,env.getD i.toNat 0))=_
   rw[decide_eq_false hn];rfl
  rw[this]
abbrev Ko:=List ab×Int
def rD (res:Option Ko) (m:Option (List ab×Int)):Prop:=∃ys t,res=some (ys,t)∧(match m with
 |some s=>(ys,t)=s
 |none=>t=-1)
theorem qJ{xs:List ab}{m:Option (List ab×Int)}(h:∀r,m=some r→0≤r.2):rD (some ((mZ xs m).1,(mZ xs m).2)) m:=by
 refine⟨_,_,rfl,?_⟩
 cases m with
 |none=>rfl
 |some s=>rfl
theorem Ll{env:List Int}(hv:∀i:Nat,env.getD i 0<0→env.getD i 0=-1) (xs:List ab) (i:Int):(match mk env (.var i) xs with
  |some s=>(xs,env.getD i.toNat 0)=s
  |none=>env.getD i.toNat 0=-1):=by
 have h:=JN (env:=env) xs i
 cases q:mk env (.var i) xs with
 |none=>rw[q]at h;exact hv _ h
 |some s=>rw[q]at h;exact h
theorem Cf (n:Nat) (y:fw):bL n (y.1,y.2.1,y.2.2.1,y.2.2.2)=cond (y.1==(9:Int)) (some (0:Int)) (cond (y.1==(10:Int)) (some (2:Int)) ((jl n y.1).bind fun r1=>(some r1))):=rfl
theorem pB{l1:List fT}{l2:List fw}{env:List Int}(he:env.length=26) (hv:∀i:Nat,env.getD i 0<0→env.getD i 0=-1):∀(k:Nat) (a b:Int) (P:mD) (xs:List ab) (j:Nat),mF l1 l2 k a b=some P→k≤j→aM xs=true→rD (bP N0 j (xs,env,l2,b)) (mk env P xs)
 |0,a,b,P,xs,j,h,_,_=>by cases h
 |k+1,a,b,P,xs,0,h,hj,_=>by omega
 |k+1,a,b,P,xs,j+1,h,hj,hp=>by
  have hx:=cW hp
  obtain⟨_,hb,hc⟩:=qQ h
  have e0:bP N0 (j+1) (xs,env,l2,b)=cond (aR b l2.length) (cond (l2.getD b.toNat zS).2.2.2 (some (xs,(-1:Int))) (cond ((l2.getD b.toNat zS).1==(9:Int)) ((dN N0 (bP N0 j) (env,xs,[],(l2.getD b.toNat zS).1,(l2.getD b.toNat zS).2.1,(l2.getD b.toNat zS).2.2.1,(l2.getD b.toNat zS).2.2.2)).bind fun g1=>(some (g1.1,g1.2))) (cond ((l2.getD b.toNat zS).1==(1:Int)) ((bO N0 (xs,(l2.getD b.toNat zS).2.1)).bind fun r2=>(some (r2.1,r2.2))) ((bP N0 j (xs,env,l2,(l2.getD b.toNat zS).2.1)).bind fun r3=>(cond (decide (r3.2<(0:Int))) (some (xs,(-1:Int))) ((bL N0 ((l2.getD b.toNat zS).1,(l2.getD b.toNat zS).2.1,(l2.getD b.toNat zS).2.2.1,(l2.getD b.toNat zS).2.2.2)).bind fun r4=>(cond (r4==(1:Int)) ((aX N0 (r3.1,(l2.getD b.toNat zS).1,r3.2,(0:Int))).bind fun r5=>(some (r5.1,r5.2))) ((bP N0 j (r3.1,env,l2,(l2.getD b.toNat zS).2.2.1)).bind fun r6=>(cond (decide (r6.2<(0:Int))) (some (xs,(-1:Int))) (cond ((l2.getD b.toNat zS).1==(10:Int)) ((dw N0 (r6.1,r6.2,r3.2)).bind fun r7=>(some (r7.1,r7.2))) ((aX N0 (r6.1,(l2.getD b.toNat zS).1,r3.2,r6.2)).bind fun r8=>(some (r8.1,r8.2))))))))))))) none:=rfl
  rw[e0,hb,cond_true]
  have fin2:∀(z:Option Ko),(l2.getD b.toNat zS).2.2.2=P.asks→(P.asks=false→rD z (mk env P xs))→rD (cond (l2.getD b.toNat zS).2.2.2 (some (xs,(-1:Int))) z) (mk env P xs):=fun z q1 q2=>by
   rw[q1]
   cases hA:P.asks with
   |true =>
    rw[cond_true,qH xs hA]
    exact⟨xs, -1,rfl,rfl⟩
   |false=>rw[cond_false];exact q2 hA
  rcases hc with⟨hps,hl⟩|⟨p,Q,hps,h1,h2⟩|⟨p,q,Q,R,hps,h1,h2,h3⟩
  ·rcases pU hl with⟨c1,c2,c3,c4,rfl⟩|⟨_,c1,c2,c3,c4,c6,c7,rfl⟩|⟨_,_,c1,c2,c3,c4,c6,c7,rfl⟩
   ·rw[c4,c2,c3,cond_false]
    show rD ((bO N0 (xs,(l1.getD a.toNat zP).2.1)).bind fun r2=>(some (r2.1,r2.2))) _
    rw[iY hp,Option.bind_some]
    exact qJ (Bt hp)
   ·rw[c4,c2,c3,cond_false]
    show rD ((dN N0 (bP N0 j) (env,xs,[],_,(l1.getD a.toNat zP).2.1,_,_)).bind fun g1=>(some (g1.1,g1.2))) _
    unfold dN
    dsimp only
    rw[xO he c6 c7,cond_true,Option.bind_some]
    exact⟨_,_,rfl,Ll hv xs _⟩
   ·rw[c4,cond_true]
    exact⟨xs, -1,rfl,rfl⟩
  ·obtain⟨_,c4,c5,c6,c7,rfl⟩:=oz h2
   refine fin2 _ c7 fun hA=>?_
   have n9:((l2.getD b.toNat zS).1==(9:Int))=false:=by rw[beq_eq_false_iff_ne];omega
   have n1:((l2.getD b.toNat zS).1==(1:Int))=false:=by rw[beq_eq_false_iff_ne];omega
   have hpt:bL N0 ((l2.getD b.toNat zS).1,(l2.getD b.toNat zS).2.1,(l2.getD b.toNat zS).2.2.1,(l2.getD b.toNat zS).2.2.2)=some 1:=by
    rw[Cf]
    rcases c6 with e|e<;>rw[e]<;>rfl
   rw[n9,n1,cond_false,cond_false]
   obtain⟨ys,t,g1,g2⟩:=pB he hv k p _ Q xs j h1 (by omega) hp
   rw[g1,Option.bind_some]
   dsimp only
   show rD _ ((mk env Q xs).bind fun r=>iz r.1 (l2.getD b.toNat zS).1 r.2 0)
   cases hm:mk env Q xs with
   |none =>
    rw[hm]at g2
    have g2:t=-1:=g2
    rw[decide_eq_true (by omega:t<0),cond_true]
    exact⟨xs, -1,rfl,rfl⟩
   |some s =>
    rw[hm]at g2
    have g2:(ys,t)=s:=g2
    subst g2
    have gr:=dF hp hm
    rw[decide_eq_false (by have:=gr.2.1;omega),cond_false,hpt,Option.bind_some,Option.bind_some]
    show rD ((aX N0 (ys,(l2.getD b.toNat zS).1,t,(0:Int))).bind fun r5=>(some (r5.1,r5.2))) _
    rw[gt gr.1,Option.bind_some]
    exact qJ (Bt gr.1)
  ·obtain⟨_,c4,c5⟩:=rF h3
   have hasks:P.asks=(Q.asks || R.asks):=by
    rcases c5 with⟨_,_,rfl⟩|⟨_,_,_,rfl⟩<;>rfl
   refine fin2 _ (c4.trans hasks.symm) fun hA=>?_
   have n9:((l2.getD b.toNat zS).1==(9:Int))=false:=by
    rw[beq_eq_false_iff_ne]
    rcases c5 with⟨_,e,_⟩|⟨_,_,e,_⟩<;>omega
   have n1:((l2.getD b.toNat zS).1==(1:Int))=false:=by
    rw[beq_eq_false_iff_ne]
    rcases c5 with⟨_,e,_⟩|⟨_,_,e,_⟩<;>omega
   have hpt:bL N0 ((l2.getD b.toNat zS).1,(l2.getD b.toNat zS).2.1,(l2.getD b.toNat zS).2.2.1,(l2.getD b.toNat zS).2.2.2)=some 2:=by
    rw[Cf]
    rcases c5 with⟨_,e,_⟩|⟨_,_,e,_⟩
    ·rw[e];rfl
    ·rcases e with e|e|e|e|e<;>rw[e]<;>rfl
   rw[n9,n1,cond_false,cond_false]
   have hmk:(mk env Q xs=none→mk env P xs=none)∧(∀s,mk env Q xs=some s→mk env R s.1=none→mk env P xs=none):=by
    rcases c5 with⟨_,_,rfl⟩|⟨_,_,_,rfl⟩
    ·exact⟨fun e=>by show(mk env Q xs).bind _=none;rw[e];rfl,fun s e1 e2=>by show(mk env Q xs).bind _=none;rw[e1];show(mk env R s.1).bind _=none;rw[e2];rfl⟩
    ·exact⟨fun e=>by show(mk env Q xs).bind _=none;rw[e];rfl,fun s e1 e2=>by show(mk env Q xs).bind _=none;rw[e1];show(mk env R s.1).bind _=none;rw[e2];rfl⟩
   obtain⟨ys,t,g1,g2⟩:=pB he hv k p _ Q xs j h1 (by omega) hp
   rw[g1,Option.bind_some]
   dsimp only
   cases hm:mk env Q xs with
   |none =>
    rw[hm]at g2
    have g2:t=-1:=g2
    rw[decide_eq_true (by omega:t<0),cond_true,hmk.1 hm]
    exact⟨xs, -1,rfl,rfl⟩
   |some s =>
    rw[hm]at g2
    have g2:(ys,t)=s:=g2
    subst g2
    have gr:=dF hp hm
    rw[decide_eq_false (by have:=gr.2.1;omega),cond_false,hpt,Option.bind_some]
    show rD ((bP N0 j (ys,env,l2,(l2.getD b.toNat zS).2.2.1)).bind fun r6=>(cond (decide (r6.2<(0:Int))) (some (xs,(-1:Int))) (cond ((l2.getD b.toNat zS).1==(10:Int)) ((dw N0 (r6.1,r6.2,t)).bind fun r7=>(some (r7.1,r7.2))) ((aX N0 (r6.1,(l2.getD b.toNat zS).1,t,r6.2)).bind fun r8=>(some (r8.1,r8.2)))))) _
    obtain⟨zs,u,g3,g4⟩:=pB he hv k q _ R ys j h2 (by omega) gr.1
    rw[g3,Option.bind_some]
    dsimp only
    cases hm2:mk env R ys with
    |none =>
     rw[hm2]at g4
     have g4:u=-1:=g4
     rw[decide_eq_true (by omega:u<0),cond_true,hmk.2 _ hm hm2]
     exact⟨xs, -1,rfl,rfl⟩
    |some s2 =>
     rw[hm2]at g4
     have g4:(zs,u)=s2:=g4
     subst g4
     have gr2:=dF gr.1 hm2
     rw[decide_eq_false (by have:=gr2.2.1;omega),cond_false]
     rcases c5 with⟨d1,d2,rfl⟩|⟨d1,d2,d3,rfl⟩
     ·rw[d2]
      show rD ((dw N0 (zs,u,t)).bind fun r7=>(some (r7.1,r7.2))) _
      rw[sE gr2.1,Option.bind_some]
      have e:mk env (.exp Q R) xs=pH zs u t:=by
       show(mk env Q xs).bind _=_
       rw[hm]
       show(mk env R ys).bind _=_
       rw[hm2];rfl
      rw[e]
      exact qJ (Gi gr2.1)
     ·have n10:((l2.getD b.toNat zS).1==(10:Int))=false:=by rw[beq_eq_false_iff_ne];omega
      rw[n10,cond_false,gt gr2.1,Option.bind_some]
      have e:mk env (.bin (l2.getD b.toNat zS).1 Q R) xs=iz zs (l2.getD b.toNat zS).1 t u:=by
       show(mk env Q xs).bind _=_
       rw[hm]
       show(mk env R ys).bind _=_
       rw[hm2];rfl
      rw[e]
      exact qJ (Bt gr2.1)
theorem GJ {α β:Type}(f:α→β) (c:Bool) (a b:Option α):Option.map f (cond c a b)=cond c (Option.map f a) (Option.map f b):=by cases c<;>rfl
theorem GK {α β γ:Type}(f:β→γ) (x:Option α) (g:α→Option β):Option.map f (x.bind g)=x.bind fun a=>Option.map f (g a):=by cases x<;>rfl
theorem Ik {α β γ:Type}(f:α→β) (x:Option α) (g:β→Option γ):(Option.map f x).bind g=x.bind fun a=>g (f a):=by cases x<;>rfl
theorem Ev {α β:Type}(f:α→Option β) (c:Bool) (a b:Option α):(cond c a b).bind f=cond c (a.bind f) (b.bind f):=by cases c<;>rfl
theorem yK {α β:Type}(f:α→β) (a:α):Option.map f (some a)=some (f a):=rfl
theorem Gy {α β:Type}(f:α→β):Option.map f (none:Option α)=none:=rfl
theorem m8 (n:Nat):∀(k:Nat) (xs:List ab) (env:List Int) (l:List fw) (b:Int),ch n k (xs,env,l,b)=(bP n k (xs,env,l,b)).map (fun r=>(env,r.1,r.2))
 |0,xs,env,l,b=>rfl
 |k+1,xs,env,l,b=>by
  have ih:=m8 n k
  show gZ n (ch n k) (xs,env,l,b)=(js n (bP n k) (xs,env,l,b)).map _
  simp only[gZ,js,fZ,dN,ih,GJ,GK,Ik,yK,Gy,Ev,Option.bind_some,Option.bind_none]
def pE (w p:Int):List (Int×ByteArray):=(cM N0 (w,p)).getD []
theorem qr{w p:Int}(hw:w=1∨w=2∨w=3) (hp:p=0∨p=1):eQ N0 (w,p)=some (pE w p,true)∧cM N0 (w,p)=some (pE w p)∧(pE w p).length=5:=by
 rcases hw with rfl|rfl|rfl<;>rcases hp with rfl|rfl
 all_goals exact⟨by kernel_rfl,by kernel_rfl,by kernel_rfl⟩
def vY (T:ByteArray) (P:mD):Prop:=∃b l1 l2 k,eg N0 T=some (b,true,l1)∧dT N0 T=some (l2,true)∧k≤N0∧mF l1 l2 k ((l1.length:Int)-1) ((l2.length:Int)-1)=some P∧l1.length≤4294967296∧l2.length≤4294967296
def La (T:ByteArray) (f:mD→Bool):Bool:=match eg N0 T,dT N0 T with
 |some r,some q=>r.2.1&&(q.2&&((match mF r.2.2 q.1 40 ((r.2.2.length:Int)-1) ((q.1.length:Int)-1)with|some P=>f P|none=>false)&&(Nat.ble r.2.2.length 300&&Nat.ble q.1.length 300)))
 |_,_=>false
theorem E7{T:ByteArray}{f:mD→Bool}(h:La T f=true):∃P,vY T P∧f P=true:=by
 unfold La at h
 split at h
 ·rename_i r q e1 e2
  rw[Bool.and_eq_true,Bool.and_eq_true,Bool.and_eq_true,Bool.and_eq_true]at h
  obtain⟨h1,h2,h3,h4,h5⟩:=h
  obtain⟨b,o,l1⟩:=r
  obtain⟨l2,o2⟩:=q
  have h1:o=true:=h1
  have h2:o2=true:=h2
  subst h1;subst h2
  split at h3
  ·rename_i P e3
   exact⟨P,⟨b,l1,l2,40,e1,e2,by decide,e3,Nat.le_trans (show l1.length≤300 from Nat.le_of_ble_eq_true h4) (by decide),Nat.le_trans (show l2.length≤300 from Nat.le_of_ble_eq_true h5) (by decide)⟩,h3⟩
  ·cases h3
 ·cases h
def SO (a:Int×ByteArray):Bool:=a.1==1&&(a.2.size==1&&(decide (97≤bt a.2 0)&&decide (bt a.2 0≤122))) || (a.1==3&&La a.2 (fun _=>true) || ((a.1==2 || a.1==4)&&La a.2 (fun P => !P.asks)))
def Ml (w p:Int):Bool:=(pE w p).all SO&&(List.range 5).all (fun i=>(((pE w p).getD i ((0:Int),(⟨#[]⟩:ByteArray))).1==4)==Nat.beq i 4)
theorem Gf{w p:Int}(hw:w=1∨w=2∨w=3) (hp:p=0∨p=1):Ml w p=true:=by
 rcases hw with rfl|rfl|rfl<;>rcases hp with rfl|rfl
 all_goals kernel_rfl
theorem sR (h:some false=some true):False:=by cases h
structure KB (xs:List ab) (x:cQ):Prop where
 way:x.1=1∨x.1=2∨x.1=3
 side:x.2.1=0∨x.2.1=1
 me:0≤x.2.2.1∧x.2.2.1≤4
 peer:0≤x.2.2.2.1∧x.2.2.2.1≤4
 ne:x.2.2.1≠x.2.2.2.1
 env:dQ xs (Bg x)=true
 len:(Bg x).length=26
 pool:aM xs=true
 at0:0≤x.2.2.2.2.1∧x.2.2.2.2.1≤5
 done:dn x=(x.2.2.2.2.1==5)
 live:dn x=true→x.2.2.2.2.2.2.2.1=false
 key:dn x=true→cx xs x.2.2.2.2.2.2.2.2=true
 no:dn x=false→x.2.2.2.2.2.2.2.2=-1
theorem A5{xs:List ab}(hx:xs.length≤4294967296){x:cQ}(he:(Bg x).length≤4294967296) (h:j7 xs x=true):KB xs x:=by
 have h1:=(uF hx he).1
 rw[h]at h1
 obtain⟨w,p,a,b,at_,env,d,dd,key⟩:=x
 dsimp only at h1
 unfold fF at h1
 simp only[rW N0 n0 hx (show env.length≤4294967296 from he),t3,Option.bind_some]at h1
 by_cases hr:(w=1∨w=2∨w=3)∧(p=0∨p=1)
 ·obtain⟨r1,r2,r3⟩:=qr hr.1 hr.2
  rw[r1]at h1
  simp only[Option.bind_some,eY,qM N0 hx,r3,Bool.not_true,cond_false]at h1
  cases ha:(decide (a≥0)&&decide (a≤4))with
  |false=>rw[ha]at h1;exact(sR h1).elim
  |true =>
   cases hb:(decide (b≥0)&&decide (b≤4))with
   |false=>rw[ha,hb]at h1;exact(sR h1).elim
   |true =>
    cases hab:(a==b)with
    |true=>rw[ha,hb,hab]at h1;exact(sR h1).elim
    |false =>
     cases h2:(dQ xs env&&(decide (env.length=26)&&(decide (xs.length≤500)&&cp N0 [] xs)))with
     |false=>rw[ha,hb,hab,h2]at h1;exact(sR h1).elim
     |true =>
      cases h3:(decide (at_≥0)&&decide (at_≤((5:Nat):Int)))with
      |false=>rw[ha,hb,hab,h2,h3]at h1;exact(sR h1).elim
      |true =>
       rw[ha,hb,hab,h2,h3]at h1
       simp only[Bool.not_true,cond_false]at h1
       rw[Bool.and_eq_true,decide_eq_true_iff,decide_eq_true_iff]at ha hb h3
       rw[Bool.and_eq_true,Bool.and_eq_true]at h2
       have h5:(at_==((5:Nat):Int))=(at_==5):=rfl
       rw[h5]at h1
       cases h4:((at_==5) != d)with
       |true=>rw[h4]at h1;exact(sR h1).elim
       |false =>
        rw[h4,cond_false]at h1
        have h6:d=(at_==5):=by
         rw[bne_eq_false_iff_eq]at h4
         exact h4.symm
        refine⟨hr.1,hr.2,⟨ha.1,ha.2⟩,⟨hb.1,hb.2⟩,by simpa using hab,h2.1,of_decide_eq_true h2.2.1,h2.2.2,⟨h3.1,h3.2⟩,h6,fun hd=>?_,fun hd=>?_,fun hd=>?_⟩
        ·have hd:d=true:=hd
         subst hd
         show dd=false
         cases dd with
         |false=>rfl
         |true=>exact(sR h1).elim
        ·have hd:d=true:=hd
         subst hd
         cases dd with
         |false=>exact Option.some.inj h1
         |true=>exact(sR h1).elim
        ·have hd:d=false:=hd
         subst hd
         have:(key == -1)=true:=Option.some.inj h1
         exact by simpa using this
 ·rw[(BZ w p hr).1]at h1
  exact(sR h1).elim
theorem qd{xs:List ab}:∀{env:List Int},dQ xs env=true→∀i:Nat,env.getD i 0<0→env.getD i 0=-1
 |[],_,i,h=>by simp at h
 |v::r,hb,i,h=>by
  have hb:((v == -1 || cx xs v)&&dQ xs r)=true:=hb
  rw[Bool.and_eq_true,Bool.or_eq_true]at hb
  match i with
  |0 =>
   have h:v<0:=h
   rcases hb.1 with q|q
   ·exact by simpa using q
   ·unfold cx at q
    simp at q
    omega
  |i+1=>exact qd hb.2 i h
theorem tU{xs:List ab}(hx:xs.length≤4294967296):aZ N0 xs=some xs:=by
 unfold aZ
 have:aO (([]:List ab).length+xs.length)=true:=by
  unfold aO
  simp
  omega
 rw[this];rfl
theorem D9{T:ByteArray}{P:mD}(hT:vY T P){xs:List ab}(hp:aM xs=true){env:List Int}(he:env.length=26) (hv:dQ xs env=true):∃l2 ys t,dT N0 T=some (l2,true)∧l2.length≤4294967296∧bP N0 N0 (xs,env,l2,(l2.length:Int)-1)=some (ys,t)∧(match mk env P xs with
  |some s=>(ys,t)=s
  |none=>t=-1):=by
 obtain⟨b,l1,l2,k,e1,e2,hk,hd,hl1,hl2⟩:=hT
 obtain⟨ys,t,g1,g2⟩:=pB he (qd hv) k _ _ P xs N0 hd hk hp
 exact⟨l2,ys,t,e2,hl2,g1,g2⟩
theorem EW{w p:Int}(hw:w=1∨w=2∨w=3) (hp:p=0∨p=1){i:Nat}(hi:i<5) (a:Int×ByteArray) (ha:a=(pE w p).getD i ((0:Int),(⟨#[]⟩:ByteArray))) :
  (a.1=4↔i=4)∧((a.1=1∧a.2.size=1∧97≤bt a.2 0∧bt a.2 0≤122)∨(a.1=3∧∃P,vY a.2 P)∨((a.1=2∨a.1=4)∧∃P,vY a.2 P∧P.asks=false)):=by
 have hb:=Gf hw hp
 obtain⟨_,_,hl⟩:=qr hw hp
 unfold Ml at hb
 rw[Bool.and_eq_true]at hb
 have h2:=List.all_eq_true.1 hb.2 i (List.mem_range.2 hi)
 rw[←ha]at h2
 have hm:a∈pE w p:=by
  rw[ha,List.getD_eq_getElem?_getD,List.getElem?_eq_getElem (by omega)]
  exact List.getElem_mem _
 have h1:=List.all_eq_true.1 hb.1 a hm
 refine⟨?_,?_⟩
 ·have h2:(a.1==4)=Nat.beq i 4:=by simpa using h2
  constructor
  ·intro h
   rw[h]at h2
   exact Nat.eq_of_beq_eq_true h2.symm
  ·intro h
   rw[h]at h2
   have:(a.1==4)=true:=h2
   exact by simpa using this
 ·unfold SO at h1
  rw[Bool.or_eq_true,Bool.or_eq_true,Bool.and_eq_true,Bool.and_eq_true,Bool.and_eq_true,Bool.and_eq_true,Bool.and_eq_true,Bool.or_eq_true]at h1
  rcases h1 with⟨h1,h3,h4,h5⟩|⟨h1,h3⟩|⟨h1,h3⟩
  ·exact .inl ⟨by simpa using h1,by simpa using h3,of_decide_eq_true h4,of_decide_eq_true h5⟩
  ·obtain⟨P,hP,_⟩:=E7 h3
   exact .inr (.inl ⟨by simpa using h1,P,hP⟩)
  ·obtain⟨P,hP,hA⟩:=E7 h3
   exact .inr (.inr ⟨by simpa using h1,P,hP,by simpa using hA⟩)
section
variable{xs:List ab}{kn:List Int}{li:List cQ}{fr:Int}{gv sh:List Int}{lg:List cB}{k:Int}
theorem Dp (hw:jg xs kn li fr gv sh lg=true){i:Nat}(hi:i<li.length):j7 xs (li.getD i zI)=true:=by
 unfold jg at hw
 rw[Bool.and_eq_true,Bool.and_eq_true,Bool.and_eq_true,Bool.and_eq_true,Bool.and_eq_true,Bool.and_eq_true]at hw
 have h:=hw.2.2.2.2.2.1
 unfold xE at h
 exact eR.1 h i (Nat.zero_le _) (by omega)
theorem Dq (hs:Small xs kn li gv sh lg) (hw:jg xs kn li fr gv sh lg=true){i:Nat}(hi:i<li.length):KB xs (li.getD i zI):=A5 hs.fx (hs.fe i hi) (Dp hw hi)
theorem ei{xs:List ab}{t:Int}:cx xs t=true↔0≤t∧t<(xs.length:Int):=by
 unfold cx
 rw[Bool.and_eq_true,decide_eq_true_iff,decide_eq_true_iff]
 omega
end
def yE (env:List Int):Prop:=env.length=26∧∀i:Nat,env.getD i 0<0→env.getD i 0=-1
theorem ES{env:List Int}{i:Nat}(h:i<env.length) (t:Int):(env.set i t).getD i 0=t:=by
 rw[List.getD_eq_getElem?_getD,List.getElem?_set_self h];rfl
theorem yE.set{env:List Int}(h:yE env){i:Nat}(hi:i<env.length){t:Int}(ht:0≤t):yE (env.set i t):=by
 refine⟨by rw[List.length_set];exact h.1,fun j hj=>?_⟩
 by_cases e:i=j
 ·subst e
  rw[ES hi]at hj
  omega
 ·have e2:(env.set i t).getD j 0=env.getD j 0:=by rw[List.getD_eq_getElem?_getD,List.getD_eq_getElem?_getD,List.getElem?_set_ne e]
  rw[e2]at hj ⊢
  exact h.2 _ hj
theorem gV{xs zs:List ab}{t:Int}(h:cx xs t=true):cx (xs++zs) t=true:=by
 rw[ei]at h ⊢
 rw[List.length_append]
 omega
def GF (env:List Int) (P:mD) (xs:List ab) (t:Int):Option (List Int×List ab):=(mk env P xs).bind fun r=>bif r.2==t then some (env,r.1)else none
abbrev nd (xs:List ab) (t:Int):ab:=xs.getD t.toNat nX
def dk:mD→List Int→List ab→Int→Option (List Int×List ab)
 | .ask i,env,xs,t=>bif decide (env.getD i.toNat 0<0)then some (env.set i.toNat t,xs)else bif env.getD i.toNat 0==t then some (env,xs)else none
 | .bin k p q,env,xs,t=>bif k==2 then(bif (nd xs t).1==2 then(dk p env xs (nd xs t).2.1).bind fun r=>dk q r.1 r.2 (nd xs t).2.2 else none)
   else bif k==3 || k==4 then(bif (nd xs t).1==k then(dk q env xs (nd xs t).2.2).bind fun r=>dk p r.1 r.2 (nd xs t).2.1 else none)
   else GF env (.bin k p q) xs t
 | .name c,env,xs,t=>GF env (.name c) xs t
 | .var i,env,xs,t=>GF env (.var i) xs t
 | .un k p,env,xs,t=>GF env (.un k p) xs t
 | .exp p q,env,xs,t=>GF env (.exp p q) xs t
theorem pO{env e:List Int}{P:mD}{xs ys:List ab}{t:Int}(hE:yE env) (hp:aM xs=true) (h:GF env P xs t=some (e,ys)):yE e∧aM ys=true∧∃zs,ys=xs++zs:=by
 obtain⟨r,h1,h2⟩:=Option.bind_eq_some_iff.1 (show(mk env P xs).bind _=some (e,ys)from h)
 have g:=dF hp (show mk env P xs=some (r.1,r.2)from h1)
 cases hc:(r.2==t)with
 |false=>rw[hc]at h2;cases h2
 |true =>
  rw[hc]at h2
  obtain⟨rfl,rfl⟩:=Prod.mk.inj (Option.some.inj h2)
  exact⟨hE,g.1,g.2.2⟩
theorem Ea{xs:List ab}{t:Int}(hp:aM xs=true) (ht:cx xs t=true) (hk:(nd xs t).1=2∨(nd xs t).1=3∨(nd xs t).1=4):cx xs (nd xs t).2.1=true∧cx xs (nd xs t).2.2=true:=by
 have hl:=cW hp
 rw[ei]at ht
 have h:=wZ hp (j:=t.toNat) (by omega)
 have hd:(xs.getD t.toNat nX)=nd xs t:=rfl
 rw[hd]at h
 generalize nd xs t=X at h hk
 have hc:dr N0 X.1=some 2:=by rcases hk with e|e|e<;>rw[e]<;>rfl
 rw[show((t.toNat:Nat):Int)=t from by omega]at h
 unfold fE b7 at h
 dsimp only at h
 rw[hc,aw (by omega) (by omega)]at h
 simp only[Option.bind_some,eY]at h
 have c0:((2:Int)==(0:Int))=false:=by decide
 have c1:((2:Int)==(1:Int))=false:=by decide
 have c2:((2:Int)==(2:Int))=true:=by decide
 rw[c0,c1,c2,cond_false,cond_false,cond_true]at h
 cases h1:(decide (X.2.1≥0)&&decide (X.2.1≤t-1))with
 |false=>rw[h1]at h;cases h
 |true =>
  cases h2:(decide (X.2.2≥0)&&decide (X.2.2≤t-1))with
  |false=>rw[h1,h2]at h;cases h
  |true =>
   rw[Bool.and_eq_true,decide_eq_true_iff,decide_eq_true_iff]at h1 h2
   rw[ei,ei]
   omega
theorem dX:∀{P:mD}{env e:List Int}{xs ys:List ab}{t:Int},yE env→aM xs=true→cx xs t=true→dk P env xs t=some (e,ys)→yE e∧aM ys=true∧∃zs,ys=xs++zs
 | .name c,env,e,xs,ys,t,hE,hp,ht,h=>pO hE hp h
 | .var i,env,e,xs,ys,t,hE,hp,ht,h=>pO hE hp h
 | .un k p,env,e,xs,ys,t,hE,hp,ht,h=>pO hE hp h
 | .exp p q,env,e,xs,ys,t,hE,hp,ht,h=>pO hE hp h
 | .ask i,env,e,xs,ys,t,hE,hp,ht,h=>by
  have h:(bif decide (env.getD i.toNat 0<0)then some (env.set i.toNat t,xs)else bif env.getD i.toNat 0==t then some (env,xs)else none)=some (e,ys):=h
  by_cases hn:env.getD i.toNat 0<0
  ·rw[decide_eq_true hn]at h
   obtain⟨rfl,rfl⟩:=Prod.mk.inj (Option.some.inj h)
   have hi:i.toNat<env.length:=by
    refine Nat.lt_of_not_le fun q=>?_
    rw[List.getD_eq_getElem?_getD,List.getElem?_eq_none q]at hn
    exact absurd hn (by decide)
   exact⟨hE.set hi (ei.1 ht).1,hp,[],by simp⟩
  ·rw[decide_eq_false hn]at h
   cases hc:(env.getD i.toNat 0==t)with
   |false=>rw[hc]at h;cases h
   |true =>
    rw[hc]at h
    obtain⟨rfl,rfl⟩:=Prod.mk.inj (Option.some.inj h)
    exact⟨hE,hp,[],by simp⟩
 | .bin k p q,env,e,xs,ys,t,hE,hp,ht,h=>by
  have h:(bif k==2 then(bif (nd xs t).1==2 then(dk p env xs (nd xs t).2.1).bind fun r=>dk q r.1 r.2 (nd xs t).2.2 else none)
   else bif k==3 || k==4 then(bif (nd xs t).1==k then(dk q env xs (nd xs t).2.2).bind fun r=>dk p r.1 r.2 (nd xs t).2.1 else none)
   else GF env (.bin k p q) xs t)=some (e,ys):=h
  cases h2:(k==2)with
  |true =>
   rw[h2,cond_true]at h
   cases h3:((nd xs t).1==2)with
   |false=>rw[h3]at h;cases h
   |true =>
    rw[h3,cond_true]at h
    obtain⟨k1,k2⟩:=Ea hp ht (.inl (by simpa using h3))
    obtain⟨r,h4,h5⟩:=Option.bind_eq_some_iff.1 h
    obtain⟨g1,g2,w,g3⟩:=dX hE hp k1 (show _=some (r.1,r.2)from h4)
    obtain⟨g4,g5,v,g6⟩:=dX g1 g2 (by rw[g3];exact gV k2) h5
    exact⟨g4,g5,w++v,by rw[g6,g3,List.append_assoc]⟩
  |false =>
   rw[h2,cond_false]at h
   cases h3:(k==3 || k==4)with
   |false=>rw[h3,cond_false]at h;exact pO hE hp h
   |true =>
    rw[h3,cond_true]at h
    cases h6:((nd xs t).1==k)with
    |false=>rw[h6]at h;cases h
    |true =>
     rw[h6,cond_true]at h
     have h7:(nd xs t).1=k:=by simpa using h6
     have h8:k=3∨k=4:=by simpa using h3
     obtain⟨k1,k2⟩:=Ea hp ht (by rw[h7];exact .inr h8)
     obtain⟨r,h4,h5⟩:=Option.bind_eq_some_iff.1 h
     obtain⟨g1,g2,w,g3⟩:=dX hE hp k2 (show _=some (r.1,r.2)from h4)
     obtain⟨g4,g5,v,g6⟩:=dX g1 g2 (by rw[g3];exact gV k1) h5
     exact⟨g4,g5,w++v,by rw[g6,g3,List.append_assoc]⟩
def vv (res:Option (List Int×List ab×Bool)) (m:Option (List Int×List ab)):Prop:=∃e ys c,res=some (e,ys,c)∧(match m with
 |some s=>(e,ys)=s∧c=true
 |none=>c=false)
theorem Lp{l1:List fT}{l2:List fw}{env:List Int}{xs:List ab}{k:Nat}{a b t:Int}{P:mD}(he:yE env) (hd:mF l1 l2 k a b=some P) (hk:k≤N0) (hp:aM xs=true) (ht:0≤t) :
  vv ((ch N0 N0 (xs,env,l2,b)).bind fun r16=>(cond (r16.2.2==t) (some (r16.1,r16.2.1,(decide (r16.2.2≥(0:Int))))) (some (r16.1,r16.2.1,false)))) (GF env P xs t):=by
 obtain⟨ys,u,g1,g2⟩:=pB he.1 he.2 k a b P xs N0 hd hk hp
 rw[m8,g1,yK,Option.bind_some]
 dsimp only
 unfold GF
 cases hm:mk env P xs with
 |none =>
  rw[hm]at g2
  have g2:u=-1:=g2
  have:(u==t)=false:=by rw[beq_eq_false_iff_ne];omega
  rw[this,cond_false]
  exact⟨_,_,_,rfl,rfl⟩
 |some s =>
  rw[hm]at g2
  have g2:(ys,u)=s:=g2
  subst g2
  have gr:=dF hp hm
  rw[Option.bind_some]
  dsimp only
  cases(u==t)with
  |true=>exact⟨_,_,_,rfl,rfl,decide_eq_true gr.2.1⟩
  |false=>exact⟨_,_,_,rfl,rfl⟩
theorem kg{l1:List fT}{l2:List fw}:∀(k:Nat) (a b:Int) (P:mD) (env:List Int) (xs:List ab) (t:Int) (j:Nat),mF l1 l2 k a b=some P→k≤j→k≤N0→yE env→aM xs=true→cx xs t=true→vv (bC N0 j (xs,env,l2,b,t)) (dk P env xs t)
 |0,a,b,P,env,xs,t,j,h,_,_,_,_,_=>by cases h
 |k+1,a,b,P,env,xs,t,0,h,hj,_,_,_,_=>by omega
 |k+1,a,b,P,env,xs,t,j+1,h,hj,hn,hE,hp,ht=>by
  have hx:=cW hp
  obtain⟨t0,t1⟩:=ei.1 ht
  obtain⟨_,hb,hc⟩:=qQ h
  have mb:=Lp (t:=t) hE h hn hp t0
  have e0:bC N0 (j+1) (xs,env,l2,b,t)=iO N0 (bC N0 j) (xs,env,l2,b,t):=rfl
  rw[e0]
  unfold iO dZ
  dsimp only
  rw[hb,pX ht]
  simp only[cond_true]
  rcases hc with⟨hps,hl⟩|⟨p,Q,hps,h1,h2⟩|⟨p,q,Q,R,hps,h1,h2,h3⟩
  ·rcases pU hl with⟨c1,c2,c3,c4,rfl⟩|⟨_,c1,c2,c3,c4,c6,c7,rfl⟩|⟨_,_,c1,c2,c3,c4,c6,c7,rfl⟩
   ·rw[c2]
    exact mb
   ·rw[c2,c4,c3,xO hE.1 c6 c7]
    refine⟨env,xs,(env.getD (l1.getD a.toNat zP).2.1.toNat 0==t),rfl,?_⟩
    show match GF env (.var (l1.getD a.toNat zP).2.1) xs t with
     |some s=>(env,xs)=s∧(env.getD (l1.getD a.toNat zP).2.1.toNat 0==t)=true
     |none=>(env.getD (l1.getD a.toNat zP).2.1.toNat 0==t)=false
    have hv:=JN (env:=env) xs (l1.getD a.toNat zP).2.1
    unfold GF
    cases hm:mk env (.var (l1.getD a.toNat zP).2.1) xs with
    |none =>
     rw[hm]at hv
     have hv:env.getD (l1.getD a.toNat zP).2.1.toNat 0<0:=hv
     show(_==t)=false
     rw[beq_eq_false_iff_ne];omega
    |some s =>
     rw[hm]at hv
     have hv:(xs,env.getD (l1.getD a.toNat zP).2.1.toNat 0)=s:=hv
     subst hv
     rw[Option.bind_some]
     dsimp only
     cases(env.getD (l1.getD a.toNat zP).2.1.toNat 0==t)with
     |true=>exact⟨rfl,rfl⟩
     |false=>rfl
   ·rw[c2,c4,c3]
    have hi:aR (l1.getD a.toNat zP).2.1 (env.set (l1.getD a.toNat zP).2.1.toNat t).length=true:=by rw[List.length_set];exact xO hE.1 c6 c7
    rw[xO hE.1 c6 c7,hi,ES (i:=(l1.getD a.toNat zP).2.1.toNat) (by have:=hE.1;omega)]
    show vv _ (bif decide (env.getD (l1.getD a.toNat zP).2.1.toNat 0<0)then some (env.set (l1.getD a.toNat zP).2.1.toNat t,xs)else bif env.getD (l1.getD a.toNat zP).2.1.toNat 0==t then some (env,xs)else none)
    by_cases hneg:env.getD (l1.getD a.toNat zP).2.1.toNat 0<0
    ·rw[decide_eq_true hneg]
     exact⟨_,_,_,rfl,rfl,by simp⟩
    ·rw[decide_eq_false hneg]
     cases hq:(env.getD (l1.getD a.toNat zP).2.1.toNat 0==t)with
     |true=>exact⟨_,_,_,rfl,rfl,rfl⟩
     |false=>exact⟨_,_,_,rfl,rfl⟩
  ·obtain⟨_,c4,c5,c6,c7,rfl⟩:=oz h2
   rcases c6 with e|e
   ·rw[e]at mb ⊢
    exact mb
   ·rw[e]at mb ⊢
    exact mb
  ·obtain⟨_,c4,c5⟩:=rF h3
   rcases c5 with⟨d1,d2,rfl⟩|⟨d1,d2,d3,rfl⟩
   ·rw[d2]
    exact mb
   ·rcases d3 with d3|d3|d3|d3|d3
    ·rw[d3]
     show vv (cond ((nd xs t).1 != 2) (some (env,xs,false)) ((bC N0 j (xs,env,l2,(l2.getD b.toNat zS).2.1,(nd xs t).2.1)).bind fun r4=>(cond (!r4.2.2) (some (r4.1,xs,false)) ((bC N0 j (r4.2.1,r4.1,l2,(l2.getD b.toNat zS).2.2.1,(nd xs t).2.2)).bind fun r5=>(some (r5.1,r5.2.1,r5.2.2)))))) (bif (nd xs t).1==2 then(dk Q env xs (nd xs t).2.1).bind fun r=>dk R r.1 r.2 (nd xs t).2.2 else none)
     rw[show((nd xs t).1 != 2) = !((nd xs t).1==2)from rfl]
     cases hkd:((nd xs t).1==2)with
     |false=>exact⟨_,_,_,rfl,rfl⟩
     |true =>
      obtain⟨k1,k2⟩:=Ea hp ht (.inl (by simpa using hkd))
      obtain⟨e,ys,c,g1,g2⟩:=kg k p _ Q env xs (nd xs t).2.1 j h1 (by omega) (by omega) hE hp k1
      rw[Bool.not_true,cond_false,cond_true,g1,Option.bind_some]
      dsimp only
      cases hm:dk Q env xs (nd xs t).2.1 with
      |none =>
       rw[hm]at g2
       have g2:c=false:=g2
       subst g2
       exact⟨_,_,_,rfl,rfl⟩
      |some s =>
       rw[hm]at g2
       obtain⟨g2,g3⟩:=(g2:(e,ys)=s∧c=true)
       subst g2;subst g3
       obtain⟨f1,f2,w,f3⟩:=dX hE hp k1 hm
       obtain⟨e2,zs,c2,g4,g5⟩:=kg k q _ R e ys (nd xs t).2.2 j h2 (by omega) (by omega) f1 f2 (by rw[f3];exact gV k2)
       rw[Bool.not_true,cond_false,g4]
       exact⟨_,_,_,rfl,g5⟩
    ·rw[d3]
     show vv (cond ((nd xs t).1 != 3) (some (env,xs,false)) ((bC N0 j (xs,env,l2,(l2.getD b.toNat zS).2.2.1,(nd xs t).2.2)).bind fun r4=>(cond (!r4.2.2) (some (r4.1,xs,false)) ((bC N0 j (r4.2.1,r4.1,l2,(l2.getD b.toNat zS).2.1,(nd xs t).2.1)).bind fun r5=>(some (r5.1,r5.2.1,r5.2.2)))))) (bif (nd xs t).1==3 then(dk R env xs (nd xs t).2.2).bind fun r=>dk Q r.1 r.2 (nd xs t).2.1 else none)
     rw[show((nd xs t).1 != 3) = !((nd xs t).1==3)from rfl]
     cases hkd:((nd xs t).1==3)with
     |false=>exact⟨_,_,_,rfl,rfl⟩
     |true =>
      obtain⟨k1,k2⟩:=Ea hp ht (by
       have:(nd xs t).1=3:=by simpa using hkd
       rw[this];decide)
      obtain⟨e,ys,c,g1,g2⟩:=kg k q _ R env xs (nd xs t).2.2 j h2 (by omega) (by omega) hE hp k2
      rw[Bool.not_true,cond_false,cond_true,g1,Option.bind_some]
      dsimp only
      cases hm:dk R env xs (nd xs t).2.2 with
      |none =>
       rw[hm]at g2
       have g2:c=false:=g2
       subst g2
       exact⟨_,_,_,rfl,rfl⟩
      |some s =>
       rw[hm]at g2
       obtain⟨g2,g3⟩:=(g2:(e,ys)=s∧c=true)
       subst g2;subst g3
       obtain⟨f1,f2,w,f3⟩:=dX hE hp k2 hm
       obtain⟨e2,zs,c2,g4,g5⟩:=kg k p _ Q e ys (nd xs t).2.1 j h1 (by omega) (by omega) f1 f2 (by rw[f3];exact gV k1)
       rw[Bool.not_true,cond_false,g4]
       exact⟨_,_,_,rfl,g5⟩
    ·rw[d3]
     show vv (cond ((nd xs t).1 != 4) (some (env,xs,false)) ((bC N0 j (xs,env,l2,(l2.getD b.toNat zS).2.2.1,(nd xs t).2.2)).bind fun r4=>(cond (!r4.2.2) (some (r4.1,xs,false)) ((bC N0 j (r4.2.1,r4.1,l2,(l2.getD b.toNat zS).2.1,(nd xs t).2.1)).bind fun r5=>(some (r5.1,r5.2.1,r5.2.2)))))) (bif (nd xs t).1==4 then(dk R env xs (nd xs t).2.2).bind fun r=>dk Q r.1 r.2 (nd xs t).2.1 else none)
     rw[show((nd xs t).1 != 4) = !((nd xs t).1==4)from rfl]
     cases hkd:((nd xs t).1==4)with
     |false=>exact⟨_,_,_,rfl,rfl⟩
     |true =>
      obtain⟨k1,k2⟩:=Ea hp ht (by
       have:(nd xs t).1=4:=by simpa using hkd
       rw[this];decide)
      obtain⟨e,ys,c,g1,g2⟩:=kg k q _ R env xs (nd xs t).2.2 j h2 (by omega) (by omega) hE hp k2
      rw[Bool.not_true,cond_false,cond_true,g1,Option.bind_some]
      dsimp only
      cases hm:dk R env xs (nd xs t).2.2 with
      |none =>
       rw[hm]at g2
       have g2:c=false:=g2
       subst g2
       exact⟨_,_,_,rfl,rfl⟩
      |some s =>
       rw[hm]at g2
       obtain⟨g2,g3⟩:=(g2:(e,ys)=s∧c=true)
       subst g2;subst g3
       obtain⟨f1,f2,w,f3⟩:=dX hE hp k2 hm
       obtain⟨e2,zs,c2,g4,g5⟩:=kg k p _ Q e ys (nd xs t).2.1 j h1 (by omega) (by omega) f1 f2 (by rw[f3];exact gV k1)
       rw[Bool.not_true,cond_false,g4]
       exact⟨_,_,_,rfl,g5⟩
    ·rw[d3]at mb ⊢
     exact mb
    ·rw[d3]at mb ⊢
     exact mb
theorem Fz {α:Type}(pre r:List α) (a d:α):(pre++a::r).getD pre.length d=a:=by
 rw[List.getD_eq_getElem?_getD,List.getElem?_append_right (Nat.le_refl _),Nat.sub_self];rfl
theorem NM {α:Type}(pre r:List α) (a:α):aR (pre.length:Int) (pre++a::r).length=true:=aQ (by simp)
theorem NE {α:Type}(pre r:List α) (a:α):decide ((pre.length:Int)<((pre++a::r).length:Int))=true:=decide_eq_true (by simp;omega)
theorem NG {α:Type}(pre:List α):decide ((pre.length:Int)<((pre++([]:List α)).length:Int))=false:=decide_eq_false (by simp)
theorem LG {α:Type}(pre r:List α) (a:α):pre++a::r=(pre++[a])++r:=by rw[List.append_assoc];rfl
theorem s6 {α:Type}(pre:List α) (a:α):((pre++[a]).length:Int)=(pre.length:Int)+1:=by rw[List.length_append,List.length_singleton];omega
theorem D7{w p a b at_:Int}{env:List Int}{d dd:Bool}{key:Int}(he:env.length≤4294967296):jq N0 (w,p,a,b,at_,env,d,dd,key)=some (w,p,a,b,at_,env,d,dd,key):=by
 unfold jq
 dsimp only
 have:aO (([]:List Int).length+env.length)=true:=by
  unfold aO
  simp
  omega
 rw[this];rfl
theorem D8{T:ByteArray}{P:mD}(hT:vY T P){xs:List ab}(hp:aM xs=true){env:List Int}(he:env.length=26) (hv:dQ xs env=true){t:Int}(ht:cx xs t=true) :
  ∃l2 e ys c,dT N0 T=some (l2,true)∧jr N0 (xs,env,l2,t)=some (ys,e,c)∧(match dk P env xs t with
   |some s=>(e,ys)=s∧c=true
   |none=>c=false):=by
 obtain⟨b,l1,l2,k,e1,e2,hk,hd,hl1,hl2⟩:=hT
 obtain⟨e,ys,c,g1,g2⟩:=kg k _ _ P env xs t N0 hd hk hk ⟨he,qd hv⟩ hp ht
 refine⟨l2,e,ys,c,e2,?_,g2⟩
 unfold jr
 dsimp only
 have:aO (([]:List Int).length+env.length)=true:=by
  unfold aO
  simp
  omega
 rw[this,cond_true,List.nil_append,aw (by omega) (by omega),g1];rfl
theorem kq{xs zs:List ab}:∀{env:List Int},dQ xs env=true→dQ (xs++zs) env=true
 |[],_=>rfl
 |v::r,h=>by
  have h:((v == -1 || cx xs v)&&dQ xs r)=true:=h
  show((v == -1 || cx (xs++zs) v)&&dQ (xs++zs) r)=true
  rw[Bool.and_eq_true,Bool.or_eq_true]at h ⊢
  exact⟨h.1.imp id gV,kq h.2⟩
theorem qc{xs:List ab}{t:Int}(ht:cx xs t=true):∀{env:List Int}(i:Nat),dQ xs env=true→dQ xs (env.set i t)=true
 |[],i,_=>rfl
 |v::r,0,h=>by
  have h:((v == -1 || cx xs v)&&dQ xs r)=true:=h
  show((t == -1 || cx xs t)&&dQ xs r)=true
  rw[Bool.and_eq_true]at h
  rw[ht,h.2,Bool.or_true];rfl
 |v::r,i+1,h=>by
  have h:((v == -1 || cx xs v)&&dQ xs r)=true:=h
  show((v == -1 || cx xs v)&&dQ xs (r.set i t))=true
  rw[Bool.and_eq_true]at h
  rw[h.1,qc ht i h.2];rfl
abbrev XJ:=List ab×Int×Int×Int×Int×Int×List Int×Bool×Bool×Int×List Int×Int
def WQ:(XJ⊕(Int×List ab×Int×Int×Int×Int×Int×List Int×Bool×Bool×Int×List ab×Int×Int×Int×Int×Int×List Int×Bool×Bool×Int×List Int))→XJ
 | .inl a=>a
 | .inr b=>(b.2.1,b.2.2.1,b.2.2.2.1,b.2.2.2.2.1,b.2.2.2.2.2.1,b.2.2.2.2.2.2.1,b.2.2.2.2.2.2.2.1,b.2.2.2.2.2.2.2.2.1,b.2.2.2.2.2.2.2.2.2.1,b.2.2.2.2.2.2.2.2.2.2.1,b.2.2.2.2.2.2.2.2.2.2.2.2.2.2.2.2.2.2.2.2.2,b.1)
theorem XY{x:Int}(h0:97≤x) (h1:x≤122):IntKind.u8.wrap (x-97)=x-97∧IntKind.i64.wrap (IntKind.i64.wrap x-97)=x-97:=by
 have h:x=97∨x=98∨x=99∨x=100∨x=101∨x=102∨x=103∨x=104∨x=105∨x=106∨x=107∨x=108∨x=109∨x=110∨x=111∨x=112∨x=113∨x=114∨x=115∨x=116∨x=117∨x=118∨x=119∨x=120∨x=121∨x=122:=by omega
 rcases h with h|h|h|h|h|h|h|h|h|h|h|h|h|h|h|h|h|h|h|h|h|h|h|h|h|h<;>subst h<;>exact⟨by decide,by decide⟩
theorem Y7:∃m,N0=m+1:=⟨N0-1,by have:=n0;omega⟩
theorem FE{xs:List ab}:∀{env:List Int},dQ xs env=true→∀i:Nat,0≤env.getD i 0→i<env.length→cx xs (env.getD i 0)=true
 |[],_,i,_,h=>absurd h (Nat.not_lt_zero _)
 |v::r,hb,i,h0,hl=>by
  have hb:((v == -1 || cx xs v)&&dQ xs r)=true:=hb
  rw[Bool.and_eq_true,Bool.or_eq_true]at hb
  match i with
  |0 =>
   rcases hb.1 with q|q
   ·have q:v=-1:=by simpa using q
    have h0:0≤v:=h0
    omega
   ·exact q
  |i+1=>exact FE hb.2 i h0 (by simpa using hl)
def mD.Fine:mD→Prop
 | .name _=>True
 | .var i=>0≤i∧i<26
 | .ask i=>0≤i∧i<26
 | .un _ p=>p.Fine
 | .bin _ p q=>p.Fine∧q.Fine
 | .exp p q=>p.Fine∧q.Fine
theorem l6{l1:List fT}{l2:List fw}:∀{k:Nat}{a b:Int}{P:mD},mF l1 l2 k a b=some P→P.Fine
 |0,a,b,P,h=>by cases h
 |k+1,a,b,P,h=>by
  obtain⟨_,_,hc⟩:=qQ h
  rcases hc with⟨_,hl⟩|⟨p,Q,_,h1,h2⟩|⟨p,q,Q,R,_,h1,h2,h3⟩
  ·rcases pU hl with⟨_,_,_,_,rfl⟩|⟨_,_,_,_,_,c6,c7,rfl⟩|⟨_,_,_,_,_,_,c6,c7,rfl⟩
   ·exact trivial
   ·exact⟨c6,c7⟩
   ·exact⟨c6,c7⟩
  ·obtain⟨_,_,_,_,_,rfl⟩:=oz h2
   exact(show Q.Fine from l6 h1)
  ·obtain⟨_,_,c5⟩:=rF h3
   rcases c5 with⟨_,_,rfl⟩|⟨_,_,_,rfl⟩
   ·exact⟨l6 h1,l6 h2⟩
   ·exact⟨l6 h1,l6 h2⟩
theorem vY.fine{T:ByteArray}{P:mD}(h:vY T P):P.Fine:=by
 obtain⟨_,_,_,_,_,_,_,hd,_⟩:=h
 exact l6 hd
theorem MK{env:List Int}:∀{P:mD}{xs ys:List ab}{t:Int},P.Fine→aM xs=true→env.length=26→dQ xs env=true→mk env P xs=some (ys,t)→cx ys t=true
 | .name c,xs,ys,t,_,hp,_,_,h=>by
  obtain⟨g,g2⟩:=dP hp h
  exact ei.2 ⟨g.2.1,g2⟩
 | .var i,xs,ys,t,hf,hp,he,hv,h=>by
  have h:(bif decide (env.getD i.toNat 0<0)then none else some (xs,env.getD i.toNat 0))=some (ys,t):=h
  by_cases hn:env.getD i.toNat 0<0
  ·rw[decide_eq_true hn]at h;cases h
  ·rw[decide_eq_false hn]at h
   obtain⟨rfl,rfl⟩:=Prod.mk.inj (Option.some.inj h)
   obtain⟨f1,f2⟩:=hf
   exact FE hv _ (by omega) (by omega)
 | .ask i,xs,ys,t,_,_,_,_,h=>by cases h
 | .un k p,xs,ys,t,hf,hp,he,hv,h=>by
  obtain⟨r,h1,h2⟩:=Option.bind_eq_some_iff.1 (show(mk env p xs).bind _=some (ys,t)from h)
  have g1:=dF hp (show mk env p xs=some (r.1,r.2)from h1)
  obtain⟨g,g2⟩:=dP g1.1 h2
  exact ei.2 ⟨g.2.1,g2⟩
 | .bin k p q,xs,ys,t,hf,hp,he,hv,h=>by
  obtain⟨r,h1,h2⟩:=Option.bind_eq_some_iff.1 (show(mk env p xs).bind _=some (ys,t)from h)
  have g1:=dF hp (show mk env p xs=some (r.1,r.2)from h1)
  obtain⟨s,h3,h4⟩:=Option.bind_eq_some_iff.1 h2
  have g2:=dF g1.1 (show mk env q r.1=some (s.1,s.2)from h3)
  obtain⟨g,g3⟩:=dP g2.1 h4
  exact ei.2 ⟨g.2.1,g3⟩
 | .exp p q,xs,ys,t,hf,hp,he,hv,h=>by
  obtain⟨r,h1,h2⟩:=Option.bind_eq_some_iff.1 (show(mk env p xs).bind _=some (ys,t)from h)
  have g1:=dF hp (show mk env p xs=some (r.1,r.2)from h1)
  obtain⟨s,h3,h4⟩:=Option.bind_eq_some_iff.1 h2
  have g2:=dF g1.1 (show mk env q r.1=some (s.1,s.2)from h3)
  obtain⟨g,g3⟩:=dP g2.1 (ou h4)
  exact ei.2 ⟨g.2.1,g3⟩
def rE (env e:List Int):Prop:=∀i:Nat,env.getD i 0≠-1→e.getD i 0=env.getD i 0
theorem rE.refl (env:List Int):rE env env:=fun _ _=>rfl
theorem rE.trans{a b c:List Int}(h1:rE a b) (h2:rE b c):rE a c:=fun i h=>(h2 i (by rw[h1 i h];exact h)).trans (h1 i h)
theorem pN{env e:List Int}{P:mD}{xs ys:List ab}{t:Int}(hp:aM xs=true) (hv:dQ xs env=true) (h:GF env P xs t=some (e,ys)):dQ ys e=true∧rE env e:=by
 obtain⟨r,h1,h2⟩:=Option.bind_eq_some_iff.1 (show(mk env P xs).bind _=some (e,ys)from h)
 obtain⟨_,_,zs,hz⟩:=dF hp (show mk env P xs=some (r.1,r.2)from h1)
 cases hc:(r.2==t)with
 |false=>rw[hc]at h2;cases h2
 |true =>
  rw[hc]at h2
  obtain⟨rfl,rfl⟩:=Prod.mk.inj (Option.some.inj h2)
  exact⟨by rw[hz];exact kq hv,rE.refl _⟩
theorem kT:∀{P:mD}{env e:List Int}{xs ys:List ab}{t:Int},yE env→dQ xs env=true→aM xs=true→cx xs t=true→dk P env xs t=some (e,ys)→dQ ys e=true∧rE env e
 | .name c,env,e,xs,ys,t,hE,hv,hp,ht,h=>pN hp hv h
 | .var i,env,e,xs,ys,t,hE,hv,hp,ht,h=>pN hp hv h
 | .un k p,env,e,xs,ys,t,hE,hv,hp,ht,h=>pN hp hv h
 | .exp p q,env,e,xs,ys,t,hE,hv,hp,ht,h=>pN hp hv h
 | .ask i,env,e,xs,ys,t,hE,hv,hp,ht,h=>by
  have h:(bif decide (env.getD i.toNat 0<0)then some (env.set i.toNat t,xs)else bif env.getD i.toNat 0==t then some (env,xs)else none)=some (e,ys):=h
  by_cases hn:env.getD i.toNat 0<0
  ·rw[decide_eq_true hn]at h
   obtain⟨rfl,rfl⟩:=Prod.mk.inj (Option.some.inj h)
   refine⟨qc ht _ hv,fun j hj=>?_⟩
   have hij:i.toNat≠j:=fun q=>by
    rw[←q]at hj
    exact hj (hE.2 _ hn)
   rw[List.getD_eq_getElem?_getD,List.getD_eq_getElem?_getD,List.getElem?_set_ne hij]
  ·rw[decide_eq_false hn]at h
   cases hc:(env.getD i.toNat 0==t)with
   |false=>rw[hc]at h;cases h
   |true =>
    rw[hc]at h
    obtain⟨rfl,rfl⟩:=Prod.mk.inj (Option.some.inj h)
    exact⟨hv,rE.refl _⟩
 | .bin k p q,env,e,xs,ys,t,hE,hv,hp,ht,h=>by
  have h:(bif k==2 then(bif (nd xs t).1==2 then(dk p env xs (nd xs t).2.1).bind fun r=>dk q r.1 r.2 (nd xs t).2.2 else none)
   else bif k==3 || k==4 then(bif (nd xs t).1==k then(dk q env xs (nd xs t).2.2).bind fun r=>dk p r.1 r.2 (nd xs t).2.1 else none)
   else GF env (.bin k p q) xs t)=some (e,ys):=h
  cases h2:(k==2)with
  |true =>
   rw[h2,cond_true]at h
   cases h3:((nd xs t).1==2)with
   |false=>rw[h3]at h;cases h
   |true =>
    rw[h3,cond_true]at h
    obtain⟨k1,k2⟩:=Ea hp ht (.inl (by simpa using h3))
    obtain⟨r,h4,h5⟩:=Option.bind_eq_some_iff.1 h
    have h4:dk p env xs (nd xs t).2.1=some (r.1,r.2):=h4
    obtain⟨g1,g2,w,g3⟩:=dX hE hp k1 h4
    obtain⟨m1,m2⟩:=kT hE hv hp k1 h4
    obtain⟨m3,m4⟩:=kT g1 m1 g2 (by rw[g3];exact gV k2) h5
    exact⟨m3,m2.trans m4⟩
  |false =>
   rw[h2,cond_false]at h
   cases h3:(k==3 || k==4)with
   |false=>rw[h3,cond_false]at h;exact pN hp hv h
   |true =>
    rw[h3,cond_true]at h
    cases h6:((nd xs t).1==k)with
    |false=>rw[h6]at h;cases h
    |true =>
     rw[h6,cond_true]at h
     have h7:(nd xs t).1=k:=by simpa using h6
     have h8:k=3∨k=4:=by simpa using h3
     obtain⟨k1,k2⟩:=Ea hp ht (by rw[h7];exact .inr h8)
     obtain⟨r,h4,h5⟩:=Option.bind_eq_some_iff.1 h
     have h4:dk q env xs (nd xs t).2.2=some (r.1,r.2):=h4
     obtain⟨g1,g2,w,g3⟩:=dX hE hp k2 h4
     obtain⟨m1,m2⟩:=kT hE hv hp k2 h4
     obtain⟨m3,m4⟩:=kT g1 m1 g2 (by rw[g3];exact gV k1) h5
     exact⟨m3,m2.trans m4⟩
theorem oI{xs:List ab}{w p a b at_:Int}{env:List Int}{d dd:Bool}{key:Int}(hw:w=1∨w=2∨w=3) (hs:p=0∨p=1) (ha:0≤a∧a≤4) (hb:0≤b∧b≤4) (hab:a≠b) (hp:aM xs=true) (he:env.length=26) (hv:dQ xs env=true)
  (h0:0≤at_∧at_≤5) (hd:d=(at_==5)) (h1:d=true→dd=false∧cx xs key=true) (h2:d=false→key=-1):j7 xs (w,p,a,b,at_,env,d,dd,key)=true:=by
 have hx:=cW hp
 have h:=(uF (xs:=xs) (by omega) (x:=(w,p,a,b,at_,env,d,dd,key)) (show env.length≤4294967296 by omega)).1
 dsimp only at h
 unfold fF at h
 obtain⟨r1,r2,r3⟩:=qr hw hs
 have hP:(decide (xs.length≤500)&&cp N0 [] xs)=true:=hp
 have k1:(decide (a≥0)&&decide (a≤4))=true:=by simp;omega
 have k2:(decide (b≥0)&&decide (b≤4))=true:=by simp;omega
 have k3:(a==b)=false:=by simpa using hab
 have k4:(decide (at_≥0)&&decide (at_≤((5:Nat):Int)))=true:=by simp;omega
 have k5:((at_==((5:Nat):Int)) != d)=false:=by
  rw[show(at_==((5:Nat):Int))=(at_==5)from rfl, ←hd]
  cases d<;>rfl
 simp only[rW N0 n0 (show xs.length≤4294967296 by omega) (show env.length≤4294967296 by omega),t3,Option.bind_some,r1,eY,qM N0 (show xs.length≤4294967296 by omega),r3,Bool.not_true,cond_false,k1,k2,k3,hv,decide_eq_true he,hP,Bool.and_true,k4,k5]at h
 cases d with
 |true =>
  obtain⟨q1,q2⟩:=h1 rfl
  subst q1
  simp only[q2,cond_true,cond_false]at h
  exact(Option.some.inj h).symm
 |false =>
  have q:=h2 rfl
  subst q
  simp only[cond_false]at h
  exact(Option.some.inj h).symm
structure qj (xs:List ab) (at_ key:Int) (out:List Int) (ys:List ab) (at':Int) (env':List Int) (d' dd':Bool) (key':Int) (out':List Int):Prop where
 pool:aM ys=true
 len:env'.length=26
 few:out'.length≤5
 env:dQ ys env'=true
 grows:∃zs,ys=xs++zs
 on:at_≤at'
 most:at'≤5
 done:d'=(at'==5)
 key1:d'=true→dd'=false∧cx ys key'=true
 key0:d'=false→key'=key
 sent:∀v∈out',v∈out∨cx ys v=true
theorem qj.stay{xs:List ab}{at_ key:Int}{out env:List Int}{dd:Bool}(h0:at_<5) (hp:aM xs=true) (he:env.length=26) (hv:dQ xs env=true) (ho:out.length≤5):qj xs at_ key out xs at_ env false dd key out :=
 ⟨hp,he,ho,hv,⟨[],by simp⟩,Int.le_refl _,by omega,by rw[eq_comm,beq_eq_false_iff_ne];omega,fun q=>(by cases q),fun _=>rfl,fun v h => .inl h⟩
theorem qj.go{xs zs ys:List ab}{at_ at' key key2:Int}{out out2 env' out':List Int}{d' dd':Bool}{key':Int}(h:qj zs (at_+1) key2 out2 ys at' env' d' dd' key' out') (g:∃us,zs=xs++us) (hk:key2=key∨at_=4) (ho:∀v∈out2,v∈out∨cx zs v=true):qj xs at_ key out ys at' env' d' dd' key' out':=by
 obtain⟨us,rfl⟩:=g
 obtain⟨vs,hvs⟩:=h.grows
 refine⟨h.pool,h.len,h.few,h.env,⟨us++vs,by rw[hvs,List.append_assoc]⟩,by have:=h.on;omega,h.most,h.done,h.key1,fun q=>?_,fun v hv=>?_⟩
 ·rcases hk with e|e
  ·rw[←e];exact h.key0 q
  ·have q1:=h.done
   rw[q,show at'=5 by have:=h.on;have:=h.most;omega]at q1
   cases q1
 ·rcases h.sent v hv with q|q
  ·rcases ho v q with q|q
   ·exact .inl q
   ·exact .inr (by rw[hvs];exact gV q)
  ·exact .inr q
def dg (k:Nat):UInt8:=UInt8.ofNat (48+k)
def Pn (u:Nat):List UInt8:=if u<10 then [dg u]else if u<100 then [dg (u / 10),dg (u % 10)]else [dg (u / 100),dg (u / 10 % 10),dg (u % 10)]
theorem LB{u:Nat}(h:u<1000):Lib.decDigits u=Pn u:=by
 unfold Pn dg
 by_cases h1:u<10
 ·rw[if_pos h1,Lib.decDigits,dif_pos h1]
 ·rw[if_neg h1,Lib.decDigits,dif_neg h1]
  by_cases h2:u<100
  ·rw[if_pos h2,Lib.decDigits,dif_pos (by omega)];rfl
  ·rw[if_neg h2,Lib.decDigits,dif_neg (by omega),Lib.decDigits,dif_pos (by omega)]
   rw[show u / 10 / 10=u / 100 by omega];rfl
theorem JX{u:Nat}(h:u<1000):Lib.itoa (u:Int)=Pn u:=by
 unfold Lib.itoa
 rw[if_neg (by omega),Int.toNat_natCast,LB h]
set_option maxRecDepth 100000 in
theorem Im:∀u:Fin 1000,Lib.atoiAll (Pn u.val) = .ok (u.val:Int):=by decide +kernel
abbrev bs (T:ByteArray):List UInt8:=T.data.toList
def MS:ByteArray:=⟨#[36,63,120]⟩
theorem Kn (a:Int):0≤bits .and .i64 a 255∧bits .and .i64 a 255≤255:=by
 have h:((BitVec.ofInt 64 a) &&& (BitVec.ofInt 64 255)).toNat≤255:=by
  rw[BitVec.toNat_and]
  exact Nat.and_le_right
 have e:bits .and .i64 a 255=IntKind.i64.wrap (((BitVec.ofInt 64 a) &&& (BitVec.ofInt 64 255)).toNat:Int):=rfl
 rw[e,aw (by omega) (by omega)]
 omega
def Cu (b:List Int) (i:Int):Prop:=0≤i∧b.length≤4294967296
theorem tV (n:Nat){b:List Int}{i:Int}(h:Int) (hc:Cu b i):∃i' h' v,eJ n (b,i,h)=some (b,i',h',v)∧Cu b i'∧0≤v∧v≤255:=by
 obtain⟨h0,h1⟩:=hc
 unfold eJ
 dsimp only
 rw[decide_eq_true (show(0:Int)≤33 by decide),decide_eq_true (show(0:Int)≤45 by decide),cond_true,cond_true]
 by_cases hl:i<(b.length:Int)
 ·have e:i=((i.toNat:Nat):Int):=by omega
  have hin:aR i b.length=true:=by rw[e];exact aQ (by omega)
  rw[decide_eq_true hl,hin,cond_true,cond_true,aw (n:=i+1) (by omega) (by omega)]
  exact⟨_,_,_,rfl,⟨by omega,h1⟩,Kn _⟩
 ·rw[decide_eq_false hl,cond_false]
  exact⟨_,_,_,rfl,⟨h0,h1⟩,Kn _⟩
theorem EO{x k:Int}(hx:0≤x) (hk:0<k):0≤x.tmod k∧x.tmod k<k:=by
 rw[Int.tmod_eq_emod_of_nonneg hx]
 exact⟨Int.emod_nonneg _ (by omega),Int.emod_lt_of_pos _ hk⟩
def Zh (k v:Int):Prop:=(k≤0∧v=0)∨(0≤v∧v<k)
theorem ct (n:Nat){b:List Int}{i:Int}(h k:Int) (hc:Cu b i):∃i' h' v,aj n (b,i,h,k)=some (b,i',h',v)∧Cu b i'∧Zh k v:=by
 unfold aj
 dsimp only
 by_cases h0:k≤0
 ·rw[decide_eq_true h0,cond_true]
  exact⟨_,_,_,rfl,hc, .inl ⟨h0,rfl⟩⟩
 ·have hk:(k != 0)=true:=by rw[bne_iff_ne];omega
  rw[decide_eq_false h0,cond_false]
  by_cases h1:k≤256
  ·rw[decide_eq_true h1,cond_true]
   obtain⟨i1,h1,v1,e1,c1,q1,q2⟩:=tV n h hc
   rw[e1,Option.bind_some]
   dsimp only
   rw[hk,cond_true]
   exact⟨_,_,_,rfl,c1, .inr (EO q1 (by omega))⟩
  ·rw[decide_eq_false h1,cond_false]
   obtain⟨i1,h1,v1,e1,c1,p1,q1⟩:=tV n h hc
   rw[e1,Option.bind_some]
   dsimp only
   obtain⟨i2,h2,v2,e2,c2,p2,q2⟩:=tV n h1 c1
   rw[e2,Option.bind_some]
   dsimp only
   obtain⟨i3,h3,v3,e3,c3,p3,q3⟩:=tV n h2 c2
   rw[e3,Option.bind_some]
   dsimp only
   obtain⟨i4,h4,v4,e4,c4,p4,q4⟩:=tV n h3 c3
   rw[e4,Option.bind_some]
   dsimp only
   rw[hk,cond_true]
   have w1:IntKind.i64.wrap (v1*16777216)=v1*16777216:=aw (by omega) (by omega)
   have w2:IntKind.i64.wrap (v2*65536)=v2*65536:=aw (by omega) (by omega)
   have w3:IntKind.i64.wrap (v3*256)=v3*256:=aw (by omega) (by omega)
   have w4:IntKind.i64.wrap (v1*16777216+v2*65536)=v1*16777216+v2*65536:=aw (by omega) (by omega)
   have w5:IntKind.i64.wrap (v1*16777216+v2*65536+v3*256)=v1*16777216+v2*65536+v3*256:=aw (by omega) (by omega)
   have w6:IntKind.i64.wrap (v1*16777216+v2*65536+v3*256+v4)=v1*16777216+v2*65536+v3*256+v4:=aw (by omega) (by omega)
   rw[w1,w2,w3,w4,w5,w6]
   exact⟨_,_,_,rfl,c4, .inr (EO (by omega) (by omega))⟩
theorem wB (n:Nat){b:List Int}{i:Int}(h k:Int) (hc:Cu b i):∃i' h' v,bY n (b,i,h,k)=some (b,i',h',v)∧Cu b i':=by
 unfold bY
 dsimp only
 obtain⟨i1,h1,v1,e1,c1,_⟩:=ct n h k hc
 rw[e1,Option.bind_some]
 exact⟨_,_,_,rfl,c1⟩
theorem w8 (n:Nat){b:List Int}{i:Int}(h:Int) (l:List Int) (hl:l≠[]) (hc:Cu b i):∃i' h' v,ff n (b,i,h,l)=some (b,i',h',v)∧Cu b i'∧v∈l:=by
 unfold ff
 dsimp only
 obtain⟨i1,h1,v1,e1,c1,hb⟩:=ct n h (l.length:Int) hc
 have hpos:0<l.length:=List.length_pos_iff.2 hl
 rw[e1,Option.bind_some]
 dsimp only
 have hv:0≤v1∧v1<(l.length:Int):=by
  rcases hb with⟨q,_⟩|q
  ·omega
  ·exact q
 have e:v1=((v1.toNat:Nat):Int):=by omega
 have hin:aR v1 l.length=true:=by rw[e];exact aQ (by omega)
 rw[hin,cond_true]
 refine⟨_,_,_,rfl,c1,?_⟩
 rw[List.getD_eq_getElem?_getD,List.getElem?_eq_getElem (by omega),Option.getD_some]
 exact List.getElem_mem _
theorem Ct{b:List Int}(hb:b.length≤4294967296):∀(m:Nat) (h:Int) (j:Nat),4001<m+j→j≤4000→∃h',cX N0 m (b,h,(j:Int))=some (b,h')
 |0,h,j,hm,hj=>by omega
 |m+1,h,j,hm,hj=>by
  unfold cX
  dsimp only
  by_cases h1:j<b.length
  ·rw[decide_eq_true (show(j:Int)<(b.length:Int)by omega),cond_true]
   by_cases h2:j<4000
   ·rw[decide_eq_true (show(j:Int)<4000 by omega),cond_true,aQ h1,cond_true,aw (n:=(j:Int)+1) (by omega) (by omega),show(j:Int)+1=((j+1:Nat):Int)by omega]
    exact Ct hb m _ (j+1) (by omega) (by omega)
   ·rw[decide_eq_false (show ¬(j:Int)<4000 by omega),cond_false]
    exact⟨_,rfl⟩
  ·rw[decide_eq_false (show ¬(j:Int)<(b.length:Int)by omega),cond_false]
   exact⟨_,rfl⟩
theorem JJ{b:List Int}(hb:b.length≤4294967296):∃h,kb N0 b=some (false,b,(0:Int),h)∧Cu b 0:=by
 unfold kb
 have:=n0
 obtain⟨h',e⟩:=Ct hb N0 (IntKind.i64.wrap ((12241:Int)+(b.length:Int))) 0 (by omega) (by omega)
 rw[show((0:Nat):Int)=(0:Int)from rfl]at e
 rw[e,Option.bind_some]
 exact⟨_,rfl,by decide,hb⟩
theorem Fx{a:Int}{n m:Nat}(h:aR a n=true) (hm:n≤m):aR a m=true:=by
 unfold aR at h ⊢
 simp at h ⊢
 omega
theorem Fw{a:Int}{n:Nat}(h:aR a n=true):0≤a∧a.toNat<n:=by
 unfold aR at h
 simp at h
 omega
theorem CY {α:Type}{l x:List α}{i:Nat}(h:i<l.length) (d:α):(l++x).getD i d=l.getD i d:=by
 rw[List.getD_eq_getElem?_getD,List.getD_eq_getElem?_getD,List.getElem?_append_left h]
theorem qR{l1 x1:List fT}{l2 x2:List fw}:∀{k k':Nat}{a b:Int}{P:mD},mF l1 l2 k a b=some P→k≤k'→mF (l1++x1) (l2++x2) k' a b=some P
 |0,k',a,b,P,h,_=>by cases h
 |k+1,0,a,b,P,h,hk=>by omega
 |k+1,k'+1,a,b,P,h,hk=>by
  obtain⟨h1,h2,hc⟩:=qQ h
  have g1:=(Fw h1).2
  have g2:=(Fw h2).2
  unfold mF
  rw[Fx h1 (by simp),Fx h2 (by simp),Bool.and_true,cond_true,CY g1,CY g2]
  rcases hc with⟨hps,hl⟩|⟨p,Q,hps,q1,q2⟩|⟨p,q,Q,R,hps,q1,q2,q3⟩
  ·rw[hps];exact hl
  ·rw[hps]
   dsimp only
   rw[qR q1 (by omega),Option.bind_some]
   exact q2
  ·rw[hps]
   dsimp only
   rw[qR q1 (by omega),Option.bind_some,qR q2 (by omega),Option.bind_some]
   exact q3
theorem Fs {α:Type}(l:List α) (x d:α):(l++[x]).getD (((l++[x]).length:Int)-1).toNat d=x∧aR (((l++[x]).length:Int)-1) (l++[x]).length=true:=by
 have e:(((l++[x]).length:Int)-1).toNat=l.length:=by rw[s6];omega
 have e2:((l++[x]).length:Int)-1=(l.length:Int):=by rw[s6];omega
 refine⟨by rw[e];exact Fz l [] x d,?_⟩
 rw[e2]
 exact aQ (by simp)
theorem J9{l1:List fT}{l2:List fw}{k:Nat}{s c p kd A B:Int}{P Q:mD}{u:Bool}(h:mF l1 l2 k p A=some Q) (h2:DX (s,(c,[p])) (kd,(A,(B,u))) Q=some P) :
  mF (l1++[(s,(c,[p]))]) (l2++[(kd,(A,(B,u)))]) (k+1) (((l1++[(s,(c,[p]))]).length:Int)-1) (((l2++[(kd,(A,(B,u)))]).length:Int)-1)=some P:=by
 obtain⟨a1,a2⟩:=Fs l1 (s,(c,[p])) zP
 obtain⟨b1,b2⟩:=Fs l2 (kd,(A,(B,u))) zS
 unfold mF
 rw[a2,b2,a1,b1]
 dsimp only
 rw[Bool.and_true,cond_true,qR h (Nat.le_refl _),Option.bind_some]
 exact h2
abbrev Ze:=ByteArray×Int×Int×ByteArray×Bool×Bool×Bool×List fT×Int
abbrev Zf:=List fw×Int×Int×Bool
def mD.lets:mD→List Int
 | .ask i=>[i]
 | .un _ p=>p.lets
 | .bin _ p q=>p.lets++q.lets
 | .exp p q=>p.lets++q.lets
 |_=>[]
def xx (l:List fT):List Int:=l.flatMap fun x=>bif x.1==63 then [x.2.1]else []
def xw (l:List fw):List Int:=l.flatMap fun y=>bif y.1==9&&y.2.2.2 then [y.2.1]else []
theorem GR (a b:List fT):xx (a++b)=xx a++xx b:=List.flatMap_append
theorem GP (a b:List fw):xw (a++b)=xw a++xw b:=List.flatMap_append
theorem GQ (x:fT):xx [x]=bif x.1==63 then [x.2.1]else []:=by show _++[]=_;rw[List.append_nil]
theorem GO (y:fw):xw [y]=bif y.1==9&&y.2.2.2 then [y.2.1]else []:=by show _++[]=_;rw[List.append_nil]
theorem Gw{x:fT}{y:fw}{P Q:mD}(h:DX x y Q=some P):xx [x]=[]∧xw [y]=[]∧P.lets=Q.lets:=by
 rw[GQ,GO]
 obtain⟨⟨_,_,c3⟩,_,_,c4,_,rfl⟩:=oz h
 rw[c3,show(y.1==9)=false from by rw[beq_eq_false_iff_ne];omega]
 exact⟨rfl,rfl,rfl⟩
def SN (T:ByteArray) (i:Nat):List Int:=bif bt T (i:Int)==63 then [bt T ((i:Int)+1)-97]else []
def DB (T:ByteArray) (a b:Nat):List Int:=(List.range' a (b-a)).flatMap (SN T)
theorem I6{T:ByteArray}{a b c:Nat}(h1:a≤b) (h2:b≤c):DB T a c=DB T a b++DB T b c:=by
 unfold DB
 rw[←List.flatMap_append]
 congr 1
 have:=List.range'_append (s:=a) (m:=b-a) (n:=c-b) (step:=1)
 rw[show a+1*(b-a)=b by omega,show b-a+(c-b)=c-a by omega]at this
 exact this.symm
def VZ (T:ByteArray) (a:Nat) (l1:List fT) (l2:List fw) (ri:Option Ze) (rs:Option Zf):Prop :=
 (∃(a':Nat) (l1':List fT) (l2':List fw) (k:Nat) (P:mD),ri=some (T,(a':Int),(0:Int),MS,false,false,false,l1',(l1'.length:Int)-1)∧rs=some (l2',(l2'.length:Int)-1,(a':Int),true)∧a<a'∧a'≤T.size∧l1'.length=l2'.length∧l1'.length+a≤l1.length+a' ∧
  (∃x,l1'=l1++x∧xx x=P.lets∧DB T a a'=P.lets)∧(∃y,l2'=l2++y∧xw y=P.lets)∧k+a≤a'∧mF l1' l2' k ((l1'.length:Int)-1) ((l2'.length:Int)-1)=some P) ∨
 (∃a2 c l1' v l2',ri=some (T,a2,c,MS,false,false,false,l1',v)∧c≠0∧rs=some (l2',(0:Int),(0:Int),false))
theorem JZ {α:Type}(l:List α) (x:α):(((l++[x]).length:Int)-1)=(l.length:Int):=by rw[s6];omega
theorem VZ.one{T:ByteArray}{a b:Nat}{l1 m1:List fT}{l2 m2:List fw}{s kd:Int}{k:Nat}{P Q:mD}(h1:a<b) (h2:b≤T.size) (hl:m1.length=m2.length) (hb:m1.length+a<l1.length+b){f:Nat}(hf:a≤f) (hfb:f≤b) (hsc:DB T a f=[]) (g1:∃x,m1=l1++x∧xx x=Q.lets∧DB T f b=Q.lets) (g2:∃y,m2=l2++y∧xw y=Q.lets) (hk:k+a<b)
  (hd:mF m1 m2 k ((m1.length:Int)-1) ((m2.length:Int)-1)=some Q) (hp:DX (s,(0,[(m1.length:Int)-1])) (kd,((m2.length:Int)-1,(0,Q.asks))) Q=some P) :
  VZ T a l1 l2 (some (T,(b:Int),(0:Int),MS,false,false,false,m1++[(s,(0,[(m1.length:Int)-1]))],((m1++[(s,(0,[(m1.length:Int)-1]))]).length:Int)-1)) (some (m2++[(kd,((m2.length:Int)-1,(0,Q.asks)))],(m2.length:Int),(b:Int),true)):=by
 obtain⟨x,rfl,gx,gs⟩:=g1
 obtain⟨y,rfl,gy⟩:=g2
 obtain⟨e1,e2,e3⟩:=Gw hp
 exact .inl ⟨b,_,_,k+1,P,rfl,by rw[JZ],h1,h2,by simp at hl ⊢;omega,by rw[List.length_append,List.length_singleton];omega,⟨_,List.append_assoc ..,by rw[GR,gx,e1,e3,List.append_nil],by rw[I6 hf hfb,hsc,gs,e3,List.nil_append]⟩,⟨_,List.append_assoc ..,by rw[GP,gy,e2,e3,List.append_nil]⟩,by omega,J9 hd hp⟩
section
variable{T:ByteArray}{a:Nat}{c:UInt8}{r:List UInt8}{l1:List fT}{l2:List fw}{i1 i2 n:Nat}
end
section
variable{T:ByteArray}{a:Nat}{c:UInt8}{r:List UInt8}{l1:List fT}{l2:List fw}{i1 i2 n:Nat}
end
def mD.plain:mD→mD
 | .ask i => .var i
 | .un k p => .un k p.plain
 | .bin k p q => .bin k p.plain q.plain
 | .exp p q => .exp p.plain q.plain
 |p=>p
theorem JK{xs:List ab}{ys:List ab}{t:Int}{a:Int}(hp:aM xs=true) (h0:0≤a) (h1:a≤199):fE N0 (1,a,0,(xs.length:Int))=true:=by
 have hr:∀v lo hi:Int,ax N0 (v,lo,hi)=some (decide (v≥lo)&&decide (v≤hi)):=fun v lo hi=>by
  unfold ax
  cases q:decide (v≥lo)<;>(simp[q])
 show(b7 N0 (1,a,0,(xs.length:Int))).getD false=true
 unfold b7
 dsimp only
 rw[hr,show dr N0 1=some 0 from rfl]
 simp only[Option.bind_some,beq_self_eq_true,cond_true,decide_eq_true h0,decide_eq_true h1,Bool.and_self]
 rfl
theorem DD {α:Type}{xs:List α}(h:xs.length≤1000){k:α}:aO (xs.length+[k].length)=true:=by
 unfold aO;rw[List.length_singleton];exact decide_eq_true (by omega)
theorem vO:∀(m:Nat) (l:List Int),l.length≤26→26<m+l.length→∃e,cm N0 m (l,(l.length:Int))=some e∧e.length=26∧((∀v∈l,v=-1)→∀v∈e,v=-1)
 |0,l,h,hm=>by omega
 |m+1,l,h,hm=>by
  unfold cm
  dsimp only
  by_cases hq:l.length<26
  ·rw[decide_eq_true (show(l.length:Int)<26 by omega),cond_true,DD (by omega),cond_true,aw (n:=(l.length:Int)+1) (by omega) (by omega), ←s6 l (-1)]
   obtain⟨e,e1,e2,e3⟩:=vO m (l++[-1]) (by simp;omega) (by simp;omega)
   refine⟨e,e1,e2,fun hl=>e3 fun v hv=>?_⟩
   rcases List.mem_append.1 hv with q|q
   ·exact hl v q
   ·exact List.mem_singleton.1 q
  ·rw[decide_eq_false (show ¬(l.length:Int)<26 by omega),cond_false]
   exact⟨l,rfl,by omega,fun h=>h⟩
theorem Ib:∃e,kR N0 ()=some e∧e.length=26∧∀v∈e,v=-1:=by
 unfold kR
 have:=n0
 obtain⟨e,e1,e2,e3⟩:=vO N0 [] (by simp) (by omega)
 have e1:cm N0 N0 (([]:List Int),(0:Int))=some e:=e1
 rw[e1,Option.bind_some]
 exact⟨e,rfl,e2,e3 (fun v hv=>by cases hv)⟩
theorem cI (a b:ByteArray):(a++b).size=a.size+b.size:=ByteArray.size_append
theorem og (l:List Int):(gc l).size=l.length:=by
 show(l.map _).toArray.size=_
 rw[List.size_toArray,List.length_map]
theorem wO (s:ByteArray) (l h:Int):(sub s l h).size≤s.size:=by
 unfold sub
 rw[ByteArray.size_extract]
 omega
theorem zd:∀(k m:Nat) (x:Int) (s:ByteArray),0≤x→x≤1000000→x<10 ^ k→k<m→s.size+k≤1000→∃r,bm N0 m (x,s)=some r∧r.size≤s.size+k
 |_,0,x,s,_,_,_,h,_=>by omega
 |0,m+1,x,s,h0,hx,h1,hm,hs=>by
  unfold bm
  dsimp only
  rw[decide_eq_false (show ¬x>0 by have:(10:Int) ^ 0=1:=rfl;omega),cond_false]
  exact⟨s,rfl,by omega⟩
 |k+1,m+1,x,s,h0,hx,h1,hm,hs=>by
  unfold bm
  dsimp only
  by_cases hq:x>0
  ·rw[decide_eq_true hq,cond_true,show((10:Int) != 0)=true from rfl,cond_true,bG (by rw[og,List.length_singleton];omega),cond_true,cond_true]
   have hd:x.tdiv 10=x / 10:=Int.tdiv_eq_ediv_of_nonneg h0
   have h2:x / 10<10 ^ k:=by
    rw[Int.pow_succ]at h1
    omega
   rw[hd,aw (n:=x / 10) (by omega) (by omega)]
   obtain⟨r,e1,e2⟩:=zd k m (x / 10) (gc [(IntKind.u8.wrap (IntKind.i64.wrap ((48:Int)+(x.tmod (10:Int)))))]++s) (by omega) (by omega) h2 (by omega) (by rw[cI,og,List.length_singleton];omega)
   exact⟨r,e1,by rw[cI,og,List.length_singleton]at e2;omega⟩
  ·rw[decide_eq_false hq,cond_false]
   exact⟨s,rfl,by omega⟩
theorem F9{xs:List ab}{w p a b at_:Int}{env:List Int}{d dd:Bool}{key t:Int}(hx:xs.length≤4294967296) (he:env.length≤4294967296) (h:j7 xs (w,p,a,b,at_,env,d,dd,key)=true) :
  ∃ys at' e d' dd' ok,cK N0 (xs,w,p,a,b,at_,env,d,dd,key,t)=some (ys,w,p,a,b,at',e,d',dd',key,ok)∧j7 ys (w,p,a,b,at',e,d',dd',key)=true∧e.length=26∧aM ys=true∧∃zs,ys=xs++zs:=by
 have hg:=A5 hx (x:=(w,p,a,b,at_,env,d,dd,key)) he h
 have g1:w=1∨w=2∨w=3:=hg.way
 have g2:p=0∨p=1:=hg.side
 have g3:dQ xs env=true:=hg.env
 have g4:env.length=26:=hg.len
 have g5:0≤at_∧at_≤5:=hg.at0
 have g6:d=(at_==5):=hg.done
 have hp:=hg.pool
 obtain⟨r1,r2,r3⟩:=qr g1 g2
 have no:cK N0 (xs,w,p,a,b,at_,env,d,dd,key,t)=some (xs,w,p,a,b,at_,env,d,dd,key,false) →
   ∃ys at' e d' dd' ok,cK N0 (xs,w,p,a,b,at_,env,d,dd,key,t)=some (ys,w,p,a,b,at',e,d',dd',key,ok)∧j7 ys (w,p,a,b,at',e,d',dd',key)=true∧e.length=26∧aM ys=true∧∃zs,ys=xs++zs:=fun q=>⟨_,_,_,_,_,_,q,h,g4,hp,[],by simp⟩
 cases d with
 |true =>
  refine no ?_
  unfold cK cJ
  simp only[Option.bind_some,Bool.not_true,cond_false,cond_true]
 |false =>
  cases dd with
  |true =>
   refine no ?_
   unfold cK cJ
   simp only[Option.bind_some,Bool.not_true,cond_false,cond_true]
  |false =>
   have a5:at_≠5:=fun q=>by rw[q]at g6;exact absurd g6 (by decide)
   have hin:aR at_ 5=true:=by
    have e:at_=((at_.toNat:Nat):Int):=by omega
    rw[e];exact aQ (by omega)
   obtain⟨hA,hact⟩:=EW g1 g2 (i:=at_.toNat) (by omega) _ rfl
   have hh:=uH N0 hx t
   revert hA hact
   generalize hAA:(pE w p).getD at_.toNat ((0:Int),(⟨#[]⟩:ByteArray))=A
   intro hA hact
   cases hk:(A.1 != 3)with
   |true =>
    refine no ?_
    unfold cK cJ eG iG
    simp only[hh,Option.bind_some,Bool.not_true,cond_false,cond_true,r2,r3,hin,hAA,hk]
    cases cx xs t<;>simp only[Bool.not_true,Bool.not_false,cond_false,cond_true,Option.bind_some,r2,r3,hin,hAA,hk]
   |false =>
    have hk3:A.1=3:=by simpa using hk
    have hT:∃P,vY A.2 P:=by
     rcases hact with⟨h,_⟩|⟨_,h⟩|⟨h,_⟩
     ·omega
     ·exact h
     ·omega
    obtain⟨P,hP⟩:=hT
    cases ht:cx xs t with
    |false =>
     refine no ?_
     unfold cK cJ
     simp only[hh,ht,Option.bind_some,Bool.not_true,Bool.not_false,cond_false,cond_true]
    |true =>
     rw[ht]at hh
     obtain⟨l2,e,ys,c,q1,q2,q3⟩:=D8 hP hp g4 g3 ht
     cases hM:dk P env xs t with
     |none =>
      rw[hM]at q3
      have q3:c=false:=q3
      subst q3
      refine no ?_
      unfold cK eG iF
      simp only[hh,r2,r3,hin,hAA,hk,q1,q2,Option.bind_some,Bool.not_true,Bool.not_false,cond_false,cond_true]
     |some s =>
      rw[hM]at q3
      obtain⟨q3,q4⟩:=(q3:(e,ys)=s∧c=true)
      subst q3;subst q4
      obtain⟨f1,f2,f3⟩:=dX ⟨g4,qd g3⟩ hp ht hM
      obtain⟨f4,f5⟩:=kT ⟨g4,qd g3⟩ g3 hp ht hM
      have n4:at_.toNat≠4:=fun q=>by have:=hA.2 q;omega
      have wa:IntKind.i64.wrap (at_+(1:Int))=at_+1:=aw (by omega) (by omega)
      refine⟨ys,at_+1,e,false,false,true,?_,oI g1 g2 hg.me hg.peer hg.ne f2 f1.1 f4 ⟨by omega,by omega⟩ (by rw[eq_comm,beq_eq_false_iff_ne];omega) (fun q=>by cases q) (fun _=>hg.no rfl),f1.1,f2,f3⟩
      unfold cK eG gM
      simp only[hh,r2,r3,hin,hAA,hk,q1,q2,wa,Option.bind_some,Bool.not_true,Bool.not_false,cond_false,cond_true]
theorem JL{xs:List ab}(hp:aM xs=true) (hl:xs.length<490){v:Int}(h0:0≤v) (h1:v≤199):∃ys t,bO N0 (xs,v)=some (ys,t)∧iz xs 1 v 0=some (ys,t)∧ys.length≤xs.length+1:=by
 have hn:=JK (ys:=[]) (t:=0) hp h0 h1
 have ha:∃ys t,iz xs 1 v 0=some (ys,t)∧ys.length≤xs.length+1:=by
  show ∃ys t,Bv xs (1,v,0)=some (ys,t)∧_
  unfold Bv
  dsimp only
  rw[hn,cond_true]
  cases hf:vH xs (1,v,0)with
  |some j=>exact⟨_,_,rfl,by omega⟩
  |none =>
   dsimp only
   rw[if_neg (by omega)]
   exact⟨_,_,rfl,by simp⟩
 obtain⟨ys,t,e,l⟩:=ha
 refine⟨ys,t,?_,e,l⟩
 unfold bO
 dsimp only
 rw[gt hp,e];rfl
theorem Gk{i:Nat}{t:Int}(h0:0≤t) (h1:t<(i:Int)) (hi:i≤4294967296):fE N0 (7,t,0,(i:Int))=true:=by
 have w:IntKind.i64.wrap ((i:Int)-(1:Int))=(i:Int)-1:=aw (by omega) (by omega)
 have hr:∀v lo hi:Int,ax N0 (v,lo,hi)=some (decide (v≥lo)&&decide (v≤hi)):=fun v lo hi=>by
  unfold ax
  cases q:decide (v≥lo)<;>(simp[q])
 show(b7 N0 (7,t,0,(i:Int))).getD false=true
 unfold b7
 dsimp only
 rw[w,hr,hr,hr,show dr N0 7=some 1 from rfl]
 simp only[Option.bind_some,show((1:Int)==0)=false from rfl,beq_self_eq_true,cond_true,cond_false,decide_eq_true (show t≥0 by omega),decide_eq_true (show t≤(i:Int)-1 by omega),Bool.and_self]
 rfl
theorem Gl{xs:List ab}(hp:aM xs=true) (hl:xs.length<490){t:Int}(ht:cx xs t=true):∃ys u,aX N0 (xs,(7:Int),t,(0:Int))=some (ys,u)∧iz xs 7 t 0=some (ys,u)∧ys.length≤xs.length+1:=by
 rw[ei]at ht
 have hn:=Gk ht.1 ht.2 (by omega)
 have ha:∃ys t',iz xs 7 t 0=some (ys,t')∧ys.length≤xs.length+1:=by
  show ∃ys t',Bv xs (7,t,0)=some (ys,t')∧_
  unfold Bv
  dsimp only
  rw[hn,cond_true]
  cases hf:vH xs (7,t,0)with
  |some j=>exact⟨_,_,rfl,by omega⟩
  |none =>
   dsimp only
   rw[if_neg (by omega)]
   exact⟨_,_,rfl,by simp⟩
 obtain⟨ys,u,e,l⟩:=ha
 refine⟨ys,u,?_,e,l⟩
 rw[gt hp,e];rfl
def wb:List Int:=[(109:Int),(112:Int),(115:Int),(113:Int),(107:Int),(116:Int),(117:Int)]
theorem Lr:∀j:Nat,j<7→97≤wb.getD j 0∧wb.getD j 0≤122:=by decide
theorem lh{xs ys:List ab}{kd a b t:Int}(hp:aM xs=true) (h:iz xs kd a b=some (ys,t)):aM ys=true∧cx ys t=true∧∃zs,ys=xs++zs:=by
 obtain⟨⟨g1,g2,g3⟩,g4⟩:=dP hp h
 exact⟨g1,ei.2 ⟨g2,g4⟩,g3⟩
theorem m7{xs0:List ab}{w p a b:Int}{ns:List Int}(hns:ns.length=7) (hin:∀j:Nat,j<7→0≤ns.getD j 0∧ns.getD j 0≤199):∀(m j:Nat) (xs:List ab) (env:List Int),j≤7→7<m+j→aM xs=true→xs.length+2*(7-j)≤480→env.length=26→dQ xs env=true →
  ∃ys e,br N0 m (xs0,[],(0:Int),(0:Int),(0:Int),(0:Int),(0:Int),[],false,false,(0:Int),w,p,a,b,(0:Int),env,false,false,(-1:Int),ns,wb,xs,(j:Int))=some (Sum.inr ([],(0:Int),(0:Int),(0:Int),(0:Int),(0:Int),[],false,false,(0:Int),w,p,a,b,(0:Int),e,false,false,(-1:Int),ys))∧aM ys=true∧ys.length≤xs.length+2*(7-j)∧e.length=26∧dQ ys e=true∧∃zs,ys=xs++zs
 |0,j,xs,env,hj,hm,_,_,_,_=>by omega
 |m+1,j,xs,env,hj,hm,hp,hl,he,hv=>by
  unfold br
  dsimp only
  by_cases hq:j<7
  ·obtain⟨n1,n2⟩:=hin j hq
   obtain⟨l1,l2⟩:=Lr j hq
   have hll:wb.length=7:=rfl
   have hi2:aR (j:Int) wb.length=true:=aQ (by omega)
   have wj:IntKind.i64.wrap ((j:Int)+1)=((j+1:Nat):Int):=by rw[aw (by omega) (by omega)];omega
   have hw:=(XY l1 l2).2
   have hie:aR (wb.getD j 0-97) env.length=true:=by
    rw[show wb.getD j 0-97=(((wb.getD j 0-97).toNat:Nat):Int)by omega]
    exact aQ (by omega)
   obtain⟨ys,t,e1,e2,e3⟩:=JL hp (by omega) n1 n2
   obtain⟨p1,h1,zs,hz⟩:=lh hp e2
   have hv1:dQ ys env=true:=by rw[hz];exact kq hv
   have t0:=(ei.1 h1).1
   rw[decide_eq_true (show(j:Int)<(ns.length:Int)by omega),cond_true]
   unfold gQ
   dsimp only
   rw[aQ (show j<ns.length by omega),cond_true,Int.toNat_natCast,e1,Option.bind_some,Option.bind_some]
   dsimp only
   rw[decide_eq_true (show t≥0 by omega),cond_true,hi2,cond_true,Int.toNat_natCast,hw,hie,wj]
   cases(wb.getD j 0==117)with
   |true =>
    obtain⟨us,u,f1,f2,f3⟩:=Gl p1 (by omega) h1
    obtain⟨p2,h2,ws,hw2⟩:=lh p1 f2
    have u0:=(ei.1 h2).1
    have hv2:dQ us env=true:=by rw[hw2];exact kq hv1
    rw[cond_true,f1,Option.bind_some]
    dsimp only
    rw[decide_eq_false (show ¬u<0 by omega),cond_false,cond_true,cond_true]
    obtain⟨vs,e,k1,k2,k3,k4,k5,ks,k6⟩:=m7 hns hin m (j+1) us (env.set (wb.getD j 0-97).toNat u) (by omega) (by omega) p2 (by omega) (by rw[List.length_set];exact he) (qc h2 _ hv2)
    exact⟨vs,e,k1,k2,by omega,k4,k5,zs++(ws++ks),by rw[k6,hw2,hz,List.append_assoc,List.append_assoc]⟩
   |false =>
    rw[cond_false,decide_eq_false (show ¬t<0 by omega),cond_false,cond_true,cond_true]
    obtain⟨vs,e,k1,k2,k3,k4,k5,ks,k6⟩:=m7 hns hin m (j+1) ys (env.set (wb.getD j 0-97).toNat t) (by omega) (by omega) p1 (by omega) (by rw[List.length_set];exact he) (qc h1 _ hv1)
    exact⟨vs,e,k1,k2,by omega,k4,k5,zs++ks,by rw[k6,hz,List.append_assoc]⟩
  ·rw[decide_eq_false (show ¬(j:Int)<(ns.length:Int)by omega),cond_false]
   exact⟨xs,env,rfl,hp,by omega,he,hv,[],by simp⟩
theorem C5{xs:List ab}:∀{e:List Int},(∀v∈e,v=-1)→dQ xs e=true
 |[],_=>rfl
 |v::e,h=>by
  show((v == -1 || cx xs v)&&dQ xs e)=true
  rw[h v (List.mem_cons_self ..),C5 (fun u hu=>h u (List.mem_cons_of_mem _ hu))]
  rfl
theorem B0{w p:Int}(hw:w=1∨w=2∨w=3) (hp:p=0∨p=1):cL N0 (w,p)=some true:=by
 rcases hw with rfl|rfl|rfl<;>rcases hp with rfl|rfl
 all_goals kernel_rfl
theorem kr{a:Int}(h0:0≤a) (h1:a≤4):bg N0 a=some true:=by
 unfold bg
 rw[pW,decide_eq_true (show a≥0 by omega),decide_eq_true h1];rfl
theorem rS{a:Int}(h0:0≤a) (h1:a≤4):fK N0 a=some (50+a):=by
 unfold fK
 rw[kr h0 h1,Option.bind_some,Bool.not_true,cond_false,aw (by omega) (by omega)]
theorem lS{a:Int}(h0:0≤a) (h1:a≤4):dA N0 a=some (90+a):=by
 unfold dA
 rw[kr h0 h1,Option.bind_some,Bool.not_true,cond_false,aw (by omega) (by omega)]
theorem sH{a b:Int}(h0:0≤a) (h1:a≤4) (g0:0≤b) (g1:b≤4) (hab:a≠b):∃v,fj N0 (a,b)=some v∧0≤v∧v≤199:=by
 unfold fj eU oc
 dsimp only
 rw[kr h0 h1,kr g0 g1,show(a==b)=false from by rw[beq_eq_false_iff_ne];exact hab]
 simp only[Option.bind_some,Bool.not_true,cond_false]
 cases decide (a<b)with
 |true =>
  simp only[cond_true,Option.bind_some]
  cases decide (a>b)with
  |true=>simp only[cond_true,Option.bind_some];rw[aw (n:=5*a) (by omega) (by omega),aw (n:=60+5*a) (by omega) (by omega),aw (by omega) (by omega)];exact⟨_,rfl,by omega,by omega⟩
  |false=>simp only[cond_false,Option.bind_some];rw[aw (n:=5*a) (by omega) (by omega),aw (n:=60+5*a) (by omega) (by omega),aw (by omega) (by omega)];exact⟨_,rfl,by omega,by omega⟩
 |false =>
  simp only[cond_false,Option.bind_some]
  cases decide (a>b)with
  |true=>simp only[cond_true,Option.bind_some];rw[aw (n:=5*b) (by omega) (by omega),aw (n:=60+5*b) (by omega) (by omega),aw (by omega) (by omega)];exact⟨_,rfl,by omega,by omega⟩
  |false=>simp only[cond_false,Option.bind_some];rw[aw (n:=5*b) (by omega) (by omega),aw (n:=60+5*b) (by omega) (by omega),aw (by omega) (by omega)];exact⟨_,rfl,by omega,by omega⟩
theorem Li{xs:List ab}(hp:aM xs=true) (hl:xs.length≤400){w p a b:Int}(hw:w=1∨w=2∨w=3) (hs:p=0∨p=1) (a0:0≤a) (a1:a≤4) (b0:0≤b) (b1:b≤4) (hab:a≠b) :
  ∃ys e,jt N0 (xs,w,p,a,b)=some (ys,w,p,a,b,(0:Int),e,false,false,(-1:Int),true)∧ys.length≤xs.length+14∧e.length=26∧(∃zs,ys=xs++zs)∧j7 ys (w,p,a,b,0,e,false,false, -1)=true:=by
 have hN:=n0
 have pS:=kS N0 n0 (xs:=xs) (by omega)
 have hP:(decide (xs.length≤500)&&cp N0 [] xs)=true:=hp
 rw[hP]at pS
 obtain⟨e0,q1,q2,q3⟩:=Ib
 obtain⟨s,s1,s2,s3⟩:=sH a0 a1 b0 b1 hab
 unfold jt
 dsimp only
 rw[pS]
 simp only[B0 hw hs,kr a0 a1,kr b0 b1,show(a==b)=false from by rw[beq_eq_false_iff_ne];exact hab,q1,rS a0 a1,rS b0 b1,s1,lS a0 a1,lS b0 b1,Option.bind_some,Bool.not_true,cond_false]
 obtain⟨ys,e,k1,k2,k3,k4,k5,k6⟩:=m7 (xs0:=xs) (w:=w) (p:=p) (a:=a) (b:=b) (ns:=[a,b,50+a,50+b,s,90+a,90+b]) rfl (fun j hj=>by
  match j,hj with
  |0,_=>exact⟨a0,(show a≤199 by omega)⟩
  |1,_=>exact⟨b0,(show b≤199 by omega)⟩
  |2,_=>exact⟨(show 0≤50+a by omega),(show 50+a≤199 by omega)⟩
  |3,_=>exact⟨(show 0≤50+b by omega),(show 50+b≤199 by omega)⟩
  |4,_=>exact⟨s2,s3⟩
  |5,_=>exact⟨(show 0≤90+a by omega),(show 90+a≤199 by omega)⟩
  |6,_=>exact⟨(show 0≤90+b by omega),(show 90+b≤199 by omega)⟩
  |n+7,h=>omega) N0 0 xs e0 (by omega) (by omega) hp (by omega) q2 (C5 q3)
 rw[show((0:Nat):Int)=(0:Int)from rfl]at k1
 unfold wb at k1
 rw[k1,Option.bind_some]
 dsimp only
 unfold gP
 dsimp only
 have hyl:=cW k2
 rw[tU (xs:=ys) (by omega),Option.bind_some,Option.bind_some]
 exact⟨ys,e,rfl,by omega,k4,k6,oI hw hs ⟨a0,a1⟩ ⟨b0,b1⟩ hab k2 k4 k5 (by omega) rfl (fun q=>by cases q) (fun _=>rfl)⟩
def Bb (n:Int):Int:=(fm N0 n).getD 0
theorem G4 (n:Int):fm N0 n=some (Bb n):=by
 unfold Bb fm
 rw[pW]
 simp only[Option.bind_some]
 cases(decide (n≥0)&&decide (n≤99))<;>rfl
structure M3 (xs:List ab) (at_ key:Int) (out:List Int) (rs:Option (XJ⊕(Int×List ab×Int×Int×Int×Int×Int×List Int×Bool×Bool×Int×List ab×Int×Int×Int×Int×Int×List Int×Bool×Bool×Int×List Int))) (w p a b:Int):Prop where
 ex:∃es ys at' env' d' dd' key' out' nx,rs=some es∧WQ es=(ys,w,p,a,b,at',env',d',dd',key',out',nx)∧qj xs at_ key out ys at' env' d' dd' key' out'
theorem tu{w p a b:Int}(hw:w=1∨w=2∨w=3) (hs:p=0∨p=1):∀(k:Nat) (at_:Int) (env:List Int) (key nx:Int) (xs:List ab) (out:List Int) (m2:Nat),at_+(k:Int)=5→0≤at_→aM xs=true→env.length=26→dQ xs env=true→(at_=5→cx xs key=true)→out.length+k≤5→k<m2 →
  M3 xs at_ key out (aq N0 m2 (nx,xs,w,p,a,b,at_,env,(at_==5),false,key,[],(0:Int),(0:Int),(0:Int),(0:Int),(0:Int),[],false,false,(0:Int),out,pE w p)) w p a b
 |k,at_,env,key,nx,xs,out,0,h0,h1,hp,he,hv,hky,ho,hm2=>by omega
 |0,at_,env,key,nx,xs,out,m2+1,h0,h1,hp,he,hv,hky,ho,hm2=>by
  have e5:at_=5:=by omega
  subst e5
  have hl:=cW hp
  refine⟨_,xs,5,env,true,false,key,out,nx,rfl,rfl,hp,he,by omega,hv,⟨[],by simp⟩,Int.le_refl _,Int.le_refl _,rfl,fun _=>⟨rfl,hky rfl⟩,fun q=>(by cases q),fun v h => .inl h⟩
 |k+1,at_,env,key,nx,xs,out,m2+1,h0,h1,hp,he,hv,hky,ho,hm2=>by
  have hl:=cW hp
  have c5:(at_==5)=false:=by rw[beq_eq_false_iff_ne];omega
  have hin:aR at_ 5=true:=by
   have e:at_=((at_.toNat:Nat):Int):=by omega
   rw[e];exact aQ (by omega)
  obtain⟨_,_,r3⟩:=qr hw hs
  obtain⟨hA,hact⟩:=EW hw hs (i:=at_.toNat) (by omega) _ rfl
  have w1:IntKind.i64.wrap (at_+1)=at_+1:=aw (by omega) (by omega)
  have rm:∀t:Int,aO (out.length+[t].length)=true:=fun t=>by
   unfold aO
   rw[List.length_singleton]
   simp
   omega
  revert hA hact
  generalize hAA:(pE w p).getD at_.toNat ((0:Int),(⟨#[]⟩:ByteArray))=A
  intro hA hact
  rw[c5]
  rcases hact with⟨k1,s1,s2,s3⟩|⟨k1,_⟩|⟨k1,P,hP,hAs⟩
  ·have k1':(A.1==1)=true:=by rw[k1];rfl
   have k3':(A.1==3)=false:=by rw[k1];rfl
   have k4':(A.1==4)=false:=by rw[k1];rfl
   have k2':(A.1==2)=false:=by rw[k1];rfl
   have n4:at_.toNat≠4:=fun q=>by have:=hA.2 q;omega
   have c6:(at_+1==5)=false:=by rw[beq_eq_false_iff_ne];omega
   have f2:=G4 nx
   have nS:=iY hp (Bb nx)
   cases hq:iz xs 1 (Bb nx) 0 with
   |none =>
    rw[hq]at nS
    refine⟨.inl (xs,w,p,a,b,at_,env,false,true,key,out,nx),xs,at_,env,false,true,key,out,nx,?_,rfl,qj.stay (by omega) hp he hv (by omega)⟩
    rw[aq];dsimp only
    simp only[gm,dz,fi,r3,hin,hAA,k1',k2',k3',k4',f2,nS,mZ,Bool.not_false,Bool.not_true,cond_true,cond_false,Option.bind_some,show decide ((-1:Int)<0)=true from rfl,show decide ((-1:Int)≥0)=false from rfl]
   |some s =>
    obtain⟨ys,t⟩:=s
    rw[hq]at nS
    obtain⟨⟨g1,g2,zs,g3⟩,g4⟩:=dP hp hq
    have tb:cx ys t=true:=ei.2 ⟨g2,g4⟩
    obtain⟨u1,u2⟩:=XY s2 s3
    have ib:aR (bt A.2 0-97) env.length=true:=xO he (by omega) (by omega)
    have sz:aR (0:Int) A.2.size=true:=by rw[s1];rfl
    have tn:decide (t<0)=false:=decide_eq_false (by omega)
    have tp:decide (t≥0)=true:=decide_eq_true (by omega)
    have ih:=tu (a:=a) (b:=b) hw hs k (at_+1) (env.set (bt A.2 0-97).toNat t) key (IntKind.i64.wrap (nx+1)) ys out m2 (by omega) (by omega) g1 (by rw[List.length_set];exact he) (qc tb _ (by rw[g3];exact kq hv)) (fun q=>by omega) (by omega) (by omega)
    rw[c6]at ih
    obtain⟨es,zs2,at',env',d',dd',key',out',nx',q2,q4,q5⟩:=ih
    refine⟨es,zs2,at',env',d',dd',key',out',nx',?_,q4,q5.go ⟨zs,g3⟩ (.inl rfl) (fun v h => .inl h)⟩
    rw[aq];dsimp only
    simp only[gm,dz,fi,r3,hin,hAA,k1',k2',k3',k4',f2,nS,mZ,Bool.not_false,Bool.not_true,cond_true,cond_false,Option.bind_some,tn,tp,sz,u2,ib,w1,q2]
  ·have k1':(A.1==1)=false:=by rw[k1];rfl
   have k3':(A.1==3)=true:=by rw[k1];rfl
   refine⟨.inl (xs,w,p,a,b,at_,env,false,false,key,out,nx),xs,at_,env,false,false,key,out,nx,?_,rfl,qj.stay (by omega) hp he hv (by omega)⟩
   rw[aq];dsimp only
   simp only[fi,r3,hin,hAA,k1',k3',Bool.not_false,Bool.not_true,cond_true,cond_false,Option.bind_some]
  ·have k1':(A.1==1)=false:=by rcases k1 with e|e<;>rw[e]<;>rfl
   have k3':(A.1==3)=false:=by rcases k1 with e|e<;>rw[e]<;>rfl
   obtain⟨l2,ys,t,e1,e2,e3,e4⟩:=D9 hP hp he hv
   have w2:IntKind.i64.wrap ((l2.length:Int)-1)=(l2.length:Int)-1:=aw (by omega) (by omega)
   have mo:ch N0 N0 (xs,env,l2,(l2.length:Int)-1)=some (env,ys,t):=by
    rw[m8,e3];rfl
   cases hq:mk env P xs with
   |none =>
    rw[hq]at e4
    have e4:t=-1:=e4
    subst e4
    refine⟨.inl (xs,w,p,a,b,at_,env,false,true,key,out,nx),xs,at_,env,false,true,key,out,nx,?_,rfl,qj.stay (by omega) hp he hv (by omega)⟩
    rw[aq];dsimp only
    simp only[dz,r3,hin,hAA,k1',k3',e1,w2,mo,Bool.not_false,Bool.not_true,cond_true,cond_false,Option.bind_some,show decide ((-1:Int)<0)=true from rfl]
   |some s =>
    rw[hq]at e4
    have e4:(ys,t)=s:=e4
    subst e4
    obtain⟨g1,g2,zs,g3⟩:=dF hp hq
    have tn:decide (t<0)=false:=decide_eq_false (by omega)
    have tp:decide (t≥0)=true:=decide_eq_true (by omega)
    have hv':dQ ys env=true:=by rw[g3];exact kq hv
    rcases k1 with k1|k1
    ·have k4':(A.1==4)=false:=by rw[k1];rfl
     have k2':(A.1==2)=true:=by rw[k1];rfl
     have n4:at_.toNat≠4:=fun q=>by have:=hA.2 q;omega
     have c6:(at_+1==5)=false:=by rw[beq_eq_false_iff_ne];omega
     have ih:=tu (a:=a) (b:=b) hw hs k (at_+1) env key nx ys (out++[t]) m2 (by omega) (by omega) g1 he hv' (fun q=>by omega) (by rw[List.length_append,List.length_singleton];omega) (by omega)
     rw[c6]at ih
     obtain⟨es,zs2,at',env',d',dd',key',out',nx',q2,q4,q5⟩:=ih
     refine⟨es,zs2,at',env',d',dd',key',out',nx',?_,q4,q5.go ⟨zs,g3⟩ (.inl rfl) (fun v h=>(List.mem_append.1 h).imp id (fun h=>by rw[List.mem_singleton.1 h];exact MK hP.fine hp he hv hq))⟩
     rw[aq];dsimp only
     simp only[r3,hin,hAA,k1',k2',k3',k4',e1,w2,mo,Bool.not_false,Bool.not_true,cond_true,cond_false,Option.bind_some,tn,tp,w1,rm t,q2]
    ·have k4':(A.1==4)=true:=by rw[k1];rfl
     have k2':(A.1==2)=false:=by rw[k1];rfl
     have n4:at_.toNat=4:=hA.1 k1
     have c6:(at_+1==5)=true:=by rw[beq_iff_eq];omega
     have ih:=tu (a:=a) (b:=b) hw hs k (at_+1) env t nx ys out m2 (by omega) (by omega) g1 he hv' (fun _=>MK hP.fine hp he hv hq) (by omega) (by omega)
     rw[c6]at ih
     obtain⟨es,zs2,at',env',d',dd',key',out',nx',q2,q4,q5⟩:=ih
     refine⟨es,zs2,at',env',d',dd',key',out',nx',?_,q4,q5.go ⟨zs,g3⟩ (.inr (by omega)) (fun v h => .inl h)⟩
     rw[aq];dsimp only
     simp only[r3,hin,hAA,k1',k2',k3',k4',e1,w2,mo,Bool.not_false,Bool.not_true,cond_true,cond_false,Option.bind_some,tn,w1,q2]
theorem JV{xs:List ab}{w p a b at_:Int}{env:List Int}{d dd:Bool}{key nx:Int}(hx:xs.length≤4294967296) (he:env.length≤4294967296) (hv:j7 xs (w,p,a,b,at_,env,d,dd,key)=true) :
  ∃ys at' env' d' dd' key' out' nx',ke N0 (xs,w,p,a,b,at_,env,d,dd,key,nx)=some (ys,w,p,a,b,at',env',d',dd',key',out',nx')∧j7 ys (w,p,a,b,at',env',d',dd',key')=true∧qj xs at_ key [] ys at' env' d' dd' key' out':=by
 have hg:=A5 hx (x:=(w,p,a,b,at_,env,d,dd,key)) he hv
 have g1:w=1∨w=2∨w=3:=hg.way
 have g2:p=0∨p=1:=hg.side
 have g3:dQ xs env=true:=hg.env
 have g4:env.length=26:=hg.len
 have g5:0≤at_∧at_≤5:=hg.at0
 have g6:d=(at_==5):=hg.done
 have hp:=hg.pool
 obtain⟨r1,r2,r3⟩:=qr g1 g2
 have cl:=D7 (w:=w) (p:=p) (a:=a) (b:=b) (at_:=at_) (d:=d) (dd:=dd) (key:=key) he
 have hsz:=cW hp
 have ends:M3 xs at_ key [] (aq N0 N0 (nx,xs,w,p,a,b,at_,env,d,dd,key,[],(0:Int),(0:Int),(0:Int),(0:Int),(0:Int),[],false,false,(0:Int),[],pE w p)) w p a b:=by
  cases dd with
  |true =>
   have hd:d=false:=by
    cases d with
    |false=>rfl
    |true=>exact absurd (show true=false from hg.live rfl) (by decide)
   subst hd
   obtain⟨m,hm⟩:=Y7
   refine⟨.inr (nx,xs,w,p,a,b,at_,env,false,true,key,[],(0:Int),(0:Int),(0:Int),(0:Int),(0:Int),[],false,false,(0:Int),[]),xs,at_,env,false,true,key,[],nx,?_,rfl,qj.stay (by have:at_≠5:=fun q=>(by rw[q]at g6;cases g6);omega) hp g4 g3 (by simp)⟩
   rw[show aq N0 N0=aq N0 (m+1)from congrArg _ hm,aq];rfl
  |false =>
   have h:=tu (a:=a) (b:=b) g1 g2 (5-at_).toNat at_ env key nx xs [] N0 (by omega) g5.1 hp g4 g3 (fun q=>hg.key (by show d=true;rw[g6,q];rfl)) (by simp;omega) (by have:=n0;omega)
   rw[←g6]at h
   exact h
 obtain⟨es,ys,at',env',d',dd',key',out',nx',q2,q4,st⟩:=ends
 have go2:ke N0 (xs,w,p,a,b,at_,env,d,dd,key,nx)=some (ys,w,p,a,b,at',env',d',dd',key',out',nx'):=by
  unfold ke jp
  simp only[cl,r2,Option.bind_some,q2]
  cases es with
  |inl x =>
   simp only[WQ]at q4
   subst q4;rfl
  |inr x =>
   simp only[WQ,Prod.mk.injEq]at q4
   obtain⟨z1,z2,z3,z4,z5,z6,z7,z8,z9,z10,z11,z12⟩:=q4
   simp only[z1,z2,z3,z4,z5,z6,z7,z8,z9,z10,z11,z12,Option.bind_some]
 have hno:d=false→key=-1:=fun q=>hg.no q
 exact⟨ys,at',env',d',dd',key',out',nx',go2,oI g1 g2 hg.me hg.peer hg.ne st.pool st.len st.env ⟨by have:=st.on;omega,st.most⟩ st.done st.key1 (fun q=>(st.key0 q).trans (hno (by
   rw[g6,beq_eq_false_iff_ne]
   have:=st.done
   rw[q,eq_comm,beq_eq_false_iff_ne]at this
   have:=st.on
   have:=st.most
   omega))),st⟩
end AM
end Go.Proofs.YtobpcllkonomlabGreatDoor
namespace Go.Proofs.YtobpcllkonomlabGreatDoor
namespace AM
open Go
set_option linter.unusedSimpArgs false
set_option linter.unusedVariables false
theorem vQ (u:Nat) (h:10≤u):Lib.decDigits u=Lib.decDigits (u / 10)++[UInt8.ofNat (48+u % 10)]:=by
 rw[Lib.decDigits,dif_neg (by omega)]
theorem oQ (u:Nat) (h:u<10):Lib.decDigits u=[UInt8.ofNat (48+u)]:=by
 rw[Lib.decDigits,dif_pos h]
theorem CM (n m u:Nat) (out:ByteArray) (h0:0<u) (h1:u≤9223372036854775807) (hs:out.size≤1000) :
  bm n (m+1) ((u:Int),out)=bm n m (((u / 10:Nat):Int),ba [UInt8.ofNat (48+u % 10)]++out):=by
 have e1:((u:Int)).tmod 10=((u % 10:Nat):Int):=by rw[Int.tmod_eq_emod_of_nonneg (by omega)];omega
 have e2:((u:Int)).tdiv 10=((u / 10:Nat):Int):=by rw[Int.tdiv_eq_ediv_of_nonneg (by omega)];omega
 have e3:IntKind.i64.wrap ((48:Int)+((u % 10:Nat):Int))=((48+u % 10:Nat):Int):=by rw[nY (by omega) (by omega)];omega
 have e4:IntKind.u8.wrap (((48+u % 10:Nat)):Int)=((48+u % 10:Nat):Int):=IK (by omega) (by omega)
 have e5:gc [(((48+u % 10:Nat)):Int)]=ba [UInt8.ofNat (48+u % 10)]:=rfl
 have e6:IntKind.i64.wrap (((u / 10:Nat)):Int)=((u / 10:Nat):Int):=nY (by omega) (by omega)
 have e7:(decide ((u:Int)>(0:Int)))=true:=decide_eq_true (by omega)
 have e8:ap (ba [UInt8.ofNat (48+u % 10)]) out=true:=bG (by rw[cA];simp;omega)
 simp only[bm]
 rw[e1,e2,e3,e4,e5,e6,e7,e8]
 rfl
theorem xz (n:Nat):∀(k u m:Nat) (out:ByteArray),0<u→u<10 ^ k→k<m→out.size+k≤1000→u≤9223372036854775807 →
  bm n m ((u:Int),out)=some (ba (Lib.decDigits u)++out)
 |0,u,_,_,h0,h1,_,_,_=>by simp at h1;omega
 |k+1,u,0,_,_,_,h,_,_=>by omega
 |k+1,u,m+1,out,h0,h1,hm,hs,hu=>by
  rw[CM n m u out h0 hu (by omega)]
  rcases Nat.lt_or_ge u 10 with q|q
  ·obtain⟨m',rfl⟩:∃m',m=m'+1:=⟨m-1,by omega⟩
   rw[show u / 10=0 by omega,oQ u q,show u % 10=u by omega]
   rfl
  ·have hp:u / 10<10 ^ k:=by rw[Nat.pow_succ]at h1;omega
   rw[xz n k (u / 10) m _ (by omega) hp (by omega) (by rw[vU,cA];simp;omega) (by omega)]
   rw[vQ u q, ←d9]
   congr 1
   rw[←oT out,d9,d9,d9,d9,List.append_assoc]
theorem td (n:Nat) (x:Int) (h0:0≤x) (h1:x≤9223372036854775807) (hn:20≤n):aW n x=some (ba (Lib.itoa x)):=by
 unfold aW Lib.itoa
 rw[if_neg (by omega)]
 obtain⟨u,rfl⟩:=Int.eq_ofNat_of_zero_le h0
 rw[Int.toNat_natCast]
 rcases Nat.eq_zero_or_pos u with rfl|hu
 ·rw[oQ 0 (by omega)];rfl
 ·rw[decide_eq_false (by omega:¬(u:Int)≤0)]
  show(bm n n ((u:Int),_)).bind _=_
  rw[xz n 19 u n _ hu (by omega) (by omega) (by show(0:Nat)+19≤1000;omega) (by omega)]
  show some (ba (Lib.decDigits u)++ba [])=_
  rw[d9,List.append_nil]
theorem AW (x:Int) (h0:-9223372036854775808≤x) (h1:x≤9223372036854775807):kV x=some (ba (Lib.itoa x)):=by
 unfold kV;rw[if_pos ⟨h0,h1⟩];rfl
theorem xS:∀(k u:Nat),u<10 ^ k→(Lib.decDigits u).length≤k+1
 |0,u,h=>by rw[oQ u (by simp at h;omega)];simp
 |k+1,u,h=>by
  rcases Nat.lt_or_ge u 10 with q|q
  ·rw[oQ u q];simp
  ·rw[vQ u q,List.length_append]
   have:=xS k (u / 10) (by rw[Nat.pow_succ]at h;omega)
   simp;omega
theorem c9{x:Int}(h0:0≤x) (h1:x≤999):(Lib.itoa x).length≤4:=by
 unfold Lib.itoa
 rw[if_neg (by omega)]
 exact xS 3 _ (by omega)
theorem Fd (n:Nat) (k a b c d:Int) (t:ByteArray) (ht:t.size≤2000):∀(j m i:Nat),i+j=t.size→j<m →
  bH n m (k,a,b,c,d,t,(i:Int))=if(10:UInt8)∈t.data.toList.drop i then some (Sum.inl (⟨#[]⟩,false))else some (Sum.inr (k,a,b,c,d,t))
 |0,0,_,_,h=>by omega
 |j+1,0,_,_,h=>by omega
 |0,m+1,i,h,_=>by
  have hd:t.data.toList.drop i=[]:=List.drop_eq_nil_of_le (by rw[←nA];omega)
  rw[hd,if_neg (by simp)]
  simp only[bH]
  rw[decide_eq_false (by omega:¬(i:Int)<(t.size:Int))]
  rfl
 |j+1,m+1,i,h,hm=>by
  have hi:i<t.data.toList.length:=by rw[←nA];omega
  have hd:t.data.toList.drop i=t.data.toList[i]::t.data.toList.drop (i+1):=List.drop_eq_getElem_cons hi
  have ih:=Fd n k a b c d t ht j m (i+1) (by omega) (by omega)
  simp only[bH]
  rw[decide_eq_true (by omega:(i:Int)<(t.size:Int)),show aR (i:Int) t.size=true from decide_eq_true (by omega),MU hi,show((10:Int))=((10:Nat):Int)from rfl,Pq (by omega),nY (by omega) (by omega),hd]
  simp only[cond_true,List.mem_cons]
  by_cases q:t.data.toList[i]=UInt8.ofNat 10
  ·rw[decide_eq_true q,if_pos (.inl q.symm)];rfl
  ·rw[decide_eq_false q]
   simp only[cond_false]
   rw[show(i:Int)+1=((i+1:Nat):Int)by omega,ih]
   by_cases q2:(10:UInt8)∈t.data.toList.drop (i+1)
   ·rw[if_pos q2,if_pos (.inr q2)]
   ·rw[if_neg q2,if_neg (fun h=>h.elim (fun h=>q h.symm) q2)]
def body (k a b c d:Int) (t:ByteArray):List UInt8 :=
 if k=1 then [115,116,97,114,116]++[32]++Lib.itoa a++[32]++Lib.itoa b++[32]++Lib.itoa c++[32]++Lib.itoa d
 else if k=2 then [116,97,107,101]++[32]++Lib.itoa a++[32]++t.data.toList
 else if k=3 then [103,105,118,101]++[32]++Lib.itoa a
 else [115,104,111,119]++[32]++Lib.itoa a
def oM (k a b c d:Int) (t:ByteArray):Bool :=
 if k=1 then decide (t=⟨#[]⟩)else if k=2 then decide (b=0∧c=0∧d=0)else if k=3∨k=4 then decide (b=0∧c=0∧d=0∧t=⟨#[]⟩)else false
theorem Ef (n:Nat) (k a b c d:Int) (t:ByteArray):eK n (k,a,b,c,d,t)=some (oM k a b c d t):=by
 unfold eK oM
 simp only[beq_self_eq_true,Bool.true_and,Bool.and_true,cZ]
 by_cases h1:k=1
 ·rw[if_pos h1,beq_iff_eq.2 h1];rfl
 ·rw[if_neg h1,beq_eq_false_iff_ne.2 h1]
  by_cases h2:k=2
  ·rw[if_pos h2,beq_iff_eq.2 h2]
   simp only[cond_false,cond_true,Option.some.injEq]
   rw[Bool.eq_iff_iff];simp
  ·rw[if_neg h2,beq_eq_false_iff_ne.2 h2]
   by_cases h3:k=3
   ·rw[if_pos (.inl h3),beq_iff_eq.2 h3]
    simp only[cond_false,cond_true,Option.some.injEq]
    rw[Bool.eq_iff_iff];simp[nz]
   ·by_cases h4:k=4
    ·rw[if_pos (.inr h4),beq_eq_false_iff_ne.2 h3,beq_iff_eq.2 h4]
     simp only[cond_false,cond_true,Option.some.injEq]
     rw[Bool.eq_iff_iff];simp[nz]
    ·rw[if_neg (by omega),beq_eq_false_iff_ne.2 h3,beq_eq_false_iff_ne.2 h4];rfl
theorem Eg (n:Nat) (k a b c d:Int) (t:ByteArray):kY n (k,a,b,c,d,t)=some (oM k a b c d t):=by
 unfold kY oM
 have three:(cond (b==(0:Int)) (cond (c==(0:Int)) (some (d==(0:Int))) (some false)) (some false))=some (decide (b=0∧c=0∧d=0)):=by
  by_cases hb:b=0<;>by_cases hc:c=0<;>by_cases hd:d=0<;>simp[CT,hb,hc,hd]
 have four:(cond (b==(0:Int)) (cond (c==(0:Int)) (cond (d==(0:Int)) (some (aC t (⟨#[]⟩:ByteArray))) (some false)) (some false)) (some false))=some (decide (b=0∧c=0∧d=0∧t=⟨#[]⟩)):=by
  by_cases hb:b=0<;>by_cases hc:c=0<;>by_cases hd:d=0<;>simp[CT,hb,hc,hd,aC]
 simp only[three,four]
 by_cases h1:k=1
 ·rw[if_pos h1,beq_iff_eq.2 h1];rfl
 ·rw[if_neg h1,beq_eq_false_iff_ne.2 h1]
  by_cases h2:k=2
  ·rw[if_pos h2,beq_iff_eq.2 h2];rfl
  ·rw[if_neg h2,beq_eq_false_iff_ne.2 h2]
   by_cases h3:k=3
   ·rw[if_pos (.inl h3),beq_iff_eq.2 h3];rfl
   ·by_cases h4:k=4
    ·rw[if_pos (.inr h4),beq_eq_false_iff_ne.2 h3,beq_iff_eq.2 h4];rfl
    ·rw[if_neg (by omega),beq_eq_false_iff_ne.2 h3,beq_eq_false_iff_ne.2 h4];rfl
theorem mQ{k a b c d:Int}{t:ByteArray}(h:oM k a b c d t=true):(k=1∧t=⟨#[]⟩)∨(k=2∧b=0∧c=0∧d=0)∨(k=3∧b=0∧c=0∧d=0∧t=⟨#[]⟩)∨(k=4∧b=0∧c=0∧d=0∧t=⟨#[]⟩):=by
 unfold oM at h
 split at h
 ·rename_i q;exact .inl ⟨q,of_decide_eq_true h⟩
 ·split at h
  ·rename_i q;exact .inr (.inl ⟨q,of_decide_eq_true h⟩)
  ·split at h
   ·rename_i q
    rcases q with q|q
    ·exact .inr (.inr (.inl ⟨q,of_decide_eq_true h⟩))
    ·exact .inr (.inr (.inr ⟨q,of_decide_eq_true h⟩))
   ·cases h
def qV (x:Int):Bool:=decide (0≤x∧x≤999)
theorem NN (n:Nat) (x:Int):aS n (x,0,999)=some (qV x):=by
 unfold aS qV
 by_cases h:x≥0<;>by_cases h2:x≤999<;>simp[h,h2]
theorem Ec (n:Nat) (x:Int):ax n (x,0,999)=some (qV x):=by
 unfold ax qV
 by_cases h:x≥0<;>by_cases h2:x≤999<;>simp[h,h2]
def A6 (k a b c d:Int) (t:ByteArray):Bool:=oM k a b c d t&&(decide (t.size≤2000)&&((qV a&&(qV b&&(qV c&&qV d))) && !(t.data.toList.contains 10)))
def dO (k a b c d:Int) (t:ByteArray):ByteArray×Bool:=if A6 k a b c d t=true then(ba (body k a b c d t),true)else(⟨#[]⟩,false)
theorem iw (n:Nat) (hn:3000≤n) (k a b c d:Int) (t:ByteArray):aH n (k,a,b,c,d,t)=some (dO k a b c d t):=by
 unfold aH dO A6
 simp only[Ef,NN,Option.bind_some]
 cases hf:oM k a b c d t with
 |false=>rfl
 |true =>
  by_cases hs:t.size≤2000
  ·rw[decide_eq_true hs,decide_eq_false (by omega:¬((t.size:Int)>2000))]
   cases ha:qV a with
   |false=>rfl
   |true =>
    cases hb:qV b with
    |false=>rfl
    |true =>
     cases hc:qV c with
     |false=>rfl
     |true =>
      cases hd:qV d with
      |false=>rfl
      |true =>
       have ra:=of_decide_eq_true ha
       have rb:=of_decide_eq_true hb
       have rc:=of_decide_eq_true hc
       have rd:=of_decide_eq_true hd
       have hl:=Fd n k a b c d t hs t.size n 0 (by omega) (by omega)
       rw[show((0:Nat):Int)=(0:Int)from rfl]at hl
       simp only[Bool.not_true,cond_false,Bool.and_true,Bool.true_and,Bool.true_and]
       rw[hl]
       rw[List.drop_zero]
       by_cases q:(10:UInt8)∈t.data.toList
       ·rw[if_pos q,if_neg (by simpa using q)];rfl
       ·rw[if_neg q,if_pos (by simpa using q)]
        have na:=td n a ra.1 (by omega) (by omega)
        have nb:=td n b rb.1 (by omega) (by omega)
        have nc:=td n c rc.1 (by omega) (by omega)
        have nd:=td n d rd.1 (by omega) (by omega)
        have la:=c9 ra.1 ra.2
        have lb:=c9 rb.1 rb.2
        have lc:=c9 rc.1 rc.2
        have ld:=c9 rd.1 rd.2
        have w1:(⟨#[32]⟩:ByteArray)=ba [32]:=rfl
        have word:∀wd:List UInt8,wd.length=4∨wd.length=5→ce n k=some (ba wd)→(k=1→wd=[115,116,97,114,116])→(k=2→wd=[116,97,107,101])→(k=3→wd=[103,105,118,101])→(k=4→wd=[115,104,111,119])→(k=1∨k=2∨k=3∨k=4)→(ce n k).bind (fun r9=>(cond (ap r9 (⟨#[32]⟩:ByteArray)) ((aW n a).bind fun r10=>(cond (ap (r9++(⟨#[32]⟩:ByteArray)) r10) (cond (k==(1:Int)) (cond (ap ((r9++(⟨#[32]⟩:ByteArray))++r10) (⟨#[32]⟩:ByteArray)) ((aW n b).bind fun r11=>(cond (ap (((r9++(⟨#[32]⟩:ByteArray))++r10)++(⟨#[32]⟩:ByteArray)) r11) (cond (ap ((((r9++(⟨#[32]⟩:ByteArray))++r10)++(⟨#[32]⟩:ByteArray))++r11) (⟨#[32]⟩:ByteArray)) ((aW n c).bind fun r12=>(cond (ap (((((r9++(⟨#[32]⟩:ByteArray))++r10)++(⟨#[32]⟩:ByteArray))++r11)++(⟨#[32]⟩:ByteArray)) r12) (cond (ap ((((((r9++(⟨#[32]⟩:ByteArray))++r10)++(⟨#[32]⟩:ByteArray))++r11)++(⟨#[32]⟩:ByteArray))++r12) (⟨#[32]⟩:ByteArray)) ((aW n d).bind fun r13=>(cond (ap (((((((r9++(⟨#[32]⟩:ByteArray))++r10)++(⟨#[32]⟩:ByteArray))++r11)++(⟨#[32]⟩:ByteArray))++r12)++(⟨#[32]⟩:ByteArray)) r13) (some (((((((((r9++(⟨#[32]⟩:ByteArray))++r10)++(⟨#[32]⟩:ByteArray))++r11)++(⟨#[32]⟩:ByteArray))++r12)++(⟨#[32]⟩:ByteArray))++r13),true)) none)) none) none)) none) none)) none) (cond (k==(2:Int)) (cond (ap ((r9++(⟨#[32]⟩:ByteArray))++r10) (⟨#[32]⟩:ByteArray)) (cond (ap (((r9++(⟨#[32]⟩:ByteArray))++r10)++(⟨#[32]⟩:ByteArray)) t) (some (((((r9++(⟨#[32]⟩:ByteArray))++r10)++(⟨#[32]⟩:ByteArray))++t),true)) none) none) (some (((r9++(⟨#[32]⟩:ByteArray))++r10),true)))) none)) none))=some (ba (body k a b c d t),true):=by
         intro wd hw hk k1 k2 k3 k4 hor
         have hst:=nA t
         rw[hk]
         simp only[Option.bind_some,na,nb,nc,nd,w1,d9]
         rw[←oT t]
         simp only[d9]
         have aO:∀x y:List UInt8,x.length+y.length≤3000→ap (ba x) (ba y)=true:=fun x y h=>bG (by rw[cA,cA];omega)
         rw[aO wd [32] (by simp;omega)]
         simp only[cond_true]
         rw[aO _ (Lib.itoa a) (by simp;omega)]
         simp only[cond_true]
         unfold body
         by_cases h1:k=1
         ·rw[if_pos h1,CT,decide_eq_true h1, ←k1 h1]
          simp only[cond_true]
          rw[aO _ [32] (by simp;omega),aO _ (Lib.itoa b) (by simp;omega),aO _ [32] (by simp;omega),aO _ (Lib.itoa c) (by simp;omega),aO _ [32] (by simp;omega),aO _ (Lib.itoa d) (by simp;omega)]
          rfl
         ·rw[if_neg h1,CT,decide_eq_false h1]
          simp only[cond_false]
          by_cases h2:k=2
          ·rw[if_pos h2,CT,decide_eq_true h2, ←k2 h2]
           simp only[cond_true]
           rw[aO _ [32] (by simp;omega),aO _ t.data.toList (by simp only[List.length_append,List.length_cons,List.length_nil];omega)]
           simp only[cond_true,iM]
          ·rw[if_neg h2,CT,decide_eq_false h2]
           simp only[cond_false]
           by_cases h3:k=3
           ·rw[if_pos h3, ←k3 h3]
           ·rw[if_neg h3, ←k4 (by omega)]
        rcases mQ hf with h|h|h|h
        ·obtain⟨rfl,h⟩:=h
         exact word [115,116,97,114,116] (.inr rfl) rfl (fun _=>rfl) (fun h=>by omega) (fun h=>by omega) (fun h=>by omega) (.inl rfl)
        ·obtain⟨rfl,h⟩:=h
         exact word [116,97,107,101] (.inl rfl) rfl (fun h=>by omega) (fun _=>rfl) (fun h=>by omega) (fun h=>by omega) (.inr (.inl rfl))
        ·obtain⟨rfl,h⟩:=h
         exact word [103,105,118,101] (.inl rfl) rfl (fun h=>by omega) (fun h=>by omega) (fun _=>rfl) (fun h=>by omega) (.inr (.inr (.inl rfl)))
        ·obtain⟨rfl,h⟩:=h
         exact word [115,104,111,119] (.inl rfl) rfl (fun h=>by omega) (fun h=>by omega) (fun h=>by omega) (fun _=>rfl) (.inr (.inr (.inr rfl)))
  ·rw[decide_eq_false hs,decide_eq_true (by omega:((t.size:Int)>2000))]
   rfl
def rO (xs:List Int):List UInt8:=xs.flatMap fun x=>32::Lib.itoa x
theorem zb (n:Nat) (k a b c d:Int) (t:ByteArray) (xs:List Int) (hx:xs.length≤4):∀(j m i:Nat) (l:List UInt8),i+j=xs.length→j<m→l.length+5*j≤100 →
  bv n m (k,a,b,c,d,t,ba l,xs,(xs.length:Int),(i:Int))=bif (xs.drop i).all qV then some (Sum.inr (k,a,b,c,d,t,ba (l++rO (xs.drop i))))else some (Sum.inl (⟨#[]⟩,false))
 |0,0,_,_,_,h,_=>by omega
 |j+1,0,_,_,_,h,_=>by omega
 |0,m+1,i,l,h,_,_=>by
  have hd:xs.drop i=[]:=List.drop_eq_nil_of_le (by omega)
  rw[hd]
  simp only[bv]
  rw[decide_eq_false (by omega:¬(i:Int)<(xs.length:Int))]
  simp[rO]
 |j+1,m+1,i,l,h,hm,hl=>by
  have hi:i<xs.length:=by omega
  have hd:xs.drop i=xs[i]::xs.drop (i+1):=List.drop_eq_getElem_cons hi
  have hg:xs.getD (i:Int).toNat 0=xs[i]:=by rw[Int.toNat_natCast,List.getD_eq_getElem?_getD,List.getElem?_eq_getElem hi];rfl
  simp only[bv]
  rw[decide_eq_true (by omega:(i:Int)<(xs.length:Int)),show aR (i:Int) xs.length=true from decide_eq_true (by omega),hg,Ec,hd]
  simp only[cond_true,Option.bind_some,List.all_cons]
  rcases Bool.eq_false_or_eq_true (qV xs[i])with q|q
  case inr=>rw[q];rfl
  case inl =>
   have r:=of_decide_eq_true q
   rw[q]
   have hlen:=c9 r.1 r.2
   rw[AW _ (by omega) (by omega)]
   simp only[Bool.not_true,cond_false,Option.bind_some,Bool.true_and]
   rw[show(⟨#[32]⟩:ByteArray)=ba [32]from rfl,d9]
   rw[bG (by rw[cA,cA];simp;omega),bG (by rw[cA,cA];simp;omega),d9,nY (by omega) (by omega),show(i:Int)+1=((i+1:Nat):Int)by omega]
   simp only[cond_true]
   rw[zb n k a b c d t xs hx j m (i+1) (l++([32]++Lib.itoa xs[i])) (by omega) (by omega) (by simp;omega)]
   have:l++([32]++Lib.itoa xs[i])++rO (xs.drop (i+1))=l++rO (xs[i]::xs.drop (i+1)):=by simp only[rO,List.flatMap_cons,List.append_assoc,List.cons_append,List.nil_append]
   rw[this]
theorem kU (n:Nat) (hn:3000≤n) (k a b c d:Int) (t:ByteArray):cY n (k,a,b,c,d,t)=some (dO k a b c d t):=by
 unfold cY dO A6
 simp only[Eg,Option.bind_some]
 cases hf:oM k a b c d t with
 |false=>rfl
 |true =>
  by_cases hs:t.size≤2000
  ·rw[decide_eq_true hs,decide_eq_false (by omega:¬((t.size:Int)>2000))]
   have hc:gT (t,(⟨#[10]⟩:ByteArray))=some (t.data.toList.contains 10):=by
    unfold gT
    rw[if_pos (by show t.size<_;omega)]
    exact congrArg some (yB _ 10)
   simp only[Bool.not_true,cond_false,Bool.true_and]
   rw[hc]
   simp only[Option.bind_some]
   cases hq:t.data.toList.contains 10 with
   |true=>simp
   |false =>
    simp only[cond_false,Bool.not_false,Bool.and_true]
    have z:qV 0=true:=rfl
    have hst:=nA t
    have go:∀(wd:List UInt8) (xs:List Int),wd.length≤5→xs.length≤4→d8 n (k,a,b,c,d,t)=some (ba wd,xs)→(qV a&&(qV b&&(qV c&&qV d)))=xs.all qV→(xs.all qV=true→(if k=2 then wd++rO xs++[32]++t.data.toList else wd++rO xs)=body k a b c d t) →
      (d8 n (k,a,b,c,d,t)).bind (fun r3=>((bv n n (k,a,b,c,d,t,r3.1,r3.2,((r3.2).length:Int),(0:Int))).bind fun e6=>(match e6 with|Sum.inl a7=>(some (a7.1,a7.2))|Sum.inr b8=>(cond (b8.1==(2:Int)) (cond (ap (⟨#[32]⟩:ByteArray) b8.2.2.2.2.2.1) (cond (ap b8.2.2.2.2.2.2 ((⟨#[32]⟩:ByteArray)++b8.2.2.2.2.2.1)) (some ((b8.2.2.2.2.2.2++((⟨#[32]⟩:ByteArray)++b8.2.2.2.2.2.1)),true)) none) none) (some (b8.2.2.2.2.2.2,true)))))) =
      some (if(qV a&&(qV b&&(qV c&&qV d)))=true then(ba (body k a b c d t),true)else(⟨#[]⟩,false)):=by
     intro wd xs hw hx he hall hb
     rw[he]
     simp only[Option.bind_some]
     have hl:=zb n k a b c d t xs hx xs.length n 0 wd (by omega) (by omega) (by omega)
     rw[show((0:Nat):Int)=(0:Int)from rfl]at hl
     rw[hl,List.drop_zero,hall]
     cases qa:xs.all qV with
     |false=>rfl
     |true =>
      have hb:=hb qa
      have hnl:(rO xs).length≤20:=by
       have:∀l:List Int,l.all qV=true→(rO l).length≤5*l.length:=by
        intro l
        induction l with
        |nil=>intro _;simp[rO]
        |cons x l ih =>
         intro h
         rw[List.all_cons,Bool.and_eq_true]at h
         have r:=of_decide_eq_true h.1
         have:=c9 r.1 r.2
         have:=ih h.2
         simp[rO]at *
         omega
       have:=this xs qa
       omega
      simp only[if_pos,Option.bind_some,cond_true]
      by_cases h2:k=2
      ·rw[if_pos h2]at hb
       rw[CT,decide_eq_true h2]
       simp only[cond_true]
       rw[show(⟨#[32]⟩:ByteArray)=ba [32]from rfl]
       rw[bG (by rw[cA];simp;omega),bG (by rw[vU,cA,cA];simp;omega)]
       simp only[cond_true]
       rw[←hb]
       congr 2
       rw[←oT t,d9,d9,iM]
       simp
      ·rw[if_neg h2]at hb
       rw[CT,decide_eq_false h2, ←hb]
       rfl
    rcases mQ hf with h|h|h|h
    ·obtain⟨rfl,h⟩:=h
     exact go [115,116,97,114,116] [a,b,c,d] (by simp) (by simp) rfl (by simp) (fun _=>by simp[body,rO])
    ·obtain⟨rfl,rfl,rfl,rfl⟩:=h
     exact go [116,97,107,101] [a] (by simp) (by simp) rfl (by simp[z]) (fun _=>by simp[body,rO])
    ·obtain⟨rfl,rfl,rfl,rfl,h⟩:=h
     exact go [103,105,118,101] [a] (by simp) (by simp) rfl (by simp[z]) (fun _=>by simp[body,rO])
    ·obtain⟨rfl,rfl,rfl,rfl,h⟩:=h
     exact go [115,104,111,119] [a] (by simp) (by simp) rfl (by simp[z]) (fun _=>by simp[body,rO])
  ·rw[decide_eq_false hs,decide_eq_true (by omega:((t.size:Int)>2000))]
   rfl
end AM
end Go.Proofs.YtobpcllkonomlabGreatDoor
namespace Go.Proofs.YtobpcllkonomlabGreatDoor
namespace AM
open Go
set_option linter.unusedVariables false
set_option linter.unusedSimpArgs false
theorem tl:∀{a r:List UInt8},(32:UInt8)∉a→Lib.index (a++32::r) [32]=(a.length:Int)
 |[],r,_=>by
  unfold Lib.index
  rfl
 |b::a,r,h=>by
  have hb:¬(32:UInt8)=b:=fun e=>h (e▸List.mem_cons_self ..)
  have ih:=tl (a:=a) (r:=r) (fun q=>h (List.mem_cons_of_mem _ q))
  show Lib.index (b::(a++32::r)) [32]=_
  unfold Lib.index
  rw[ih]
  have hp:List.isPrefixOf [(32:UInt8)] (b::(a++32::r))=false:=by
   show((32:UInt8)==b&&_)=false
   rw[beq_eq_false_iff_ne.2 hb];rfl
  rw[hp]
  have hn:(((a.length:Nat):Int) == -1)=false:=by rw[beq_eq_false_iff_ne];omega
  rw[hn]
  simp
theorem CP:∀{a:List UInt8},(32:UInt8)∉a→Lib.index a [32]=-1
 |[],_=>rfl
 |b::a,h=>by
  have hb:¬(32:UInt8)=b:=fun e=>h (e▸List.mem_cons_self ..)
  have ih:=CP (a:=a) (fun q=>h (List.mem_cons_of_mem _ q))
  unfold Lib.index
  rw[ih]
  have hp:List.isPrefixOf [(32:UInt8)] (b::a)=false:=by
   show((32:UInt8)==b&&_)=false
   rw[beq_eq_false_iff_ne.2 hb];rfl
  rw[hp]
  rfl
theorem NT{a r:List UInt8}(h:(32:UInt8)∉a):Lib.cut (a++32::r) [32]=(a,r,true):=by
 unfold Lib.cut
 rw[tl h,if_pos (by omega),Int.toNat_natCast]
 congr 1
 ·simp
 ·congr 1
  have e:a++32::r=(a++[32])++r:=by simp
  rw[e]
  exact List.drop_left' (by simp)
def bh:List (List UInt8)→List UInt8
 |[]=>[]
 |[w]=>w
 |w::v::ws=>w++32::bh (v::ws)
theorem FI (a r:List UInt8):(a++32::r).drop (a.length+1)=r:=by
 have e:a++32::r=(a++[32])++r:=by simp
 rw[e]
 exact List.drop_left' (by simp)
theorem xU:∀(ws:List (List UInt8)) (w:List UInt8) (fuel:Nat),(∀v∈w::ws,(32:UInt8)∉v)→ws.length<fuel→Lib.countFrom [32] fuel (bh (w::ws))=ws.length
 |_,w,0,_,h=>by omega
 |[],w,fuel+1,h,_=>by
  show Lib.countFrom [32] (fuel+1) w=0
  unfold Lib.countFrom
  rw[CP (h w (List.mem_cons_self ..))]
  rfl
 |v::ws,w,fuel+1,h,hf=>by
  have ih:=xU ws v fuel (fun x hx=>h x (List.mem_cons_of_mem _ hx)) (by simp at hf;omega)
  show Lib.countFrom [32] (fuel+1) (w++32::bh (v::ws))=_
  unfold Lib.countFrom
  rw[tl (h w (List.mem_cons_self ..))]
  have hn:(((w.length:Nat):Int) == -1)=false:=by rw[beq_eq_false_iff_ne];omega
  rw[hn,Int.toNat_natCast]
  show 1+Lib.countFrom [32] fuel ((w++32::bh (v::ws)).drop (w.length+1))=_
  rw[FI,ih]
  simp;omega
theorem vB:∀(ws:List (List UInt8)) (w:List UInt8),(∀v∈w::ws,(32:UInt8)∉v)→Lib.splitK [32] 0 ws.length (bh (w::ws))=w::ws
 |[],w,_=>rfl
 |v::ws,w,h=>by
  have ih:=vB ws v (fun x hx=>h x (List.mem_cons_of_mem _ hx))
  show Lib.splitK [32] 0 (ws.length+1) (w++32::bh (v::ws))=_
  unfold Lib.splitK
  rw[tl (h w (List.mem_cons_self ..))]
  have hn:(((w.length:Nat):Int) == -1)=false:=by rw[beq_eq_false_iff_ne];omega
  rw[hn,Int.toNat_natCast]
  show(w++32::bh (v::ws)).take (w.length+0)::Lib.splitK [32] 0 ws.length ((w++32::bh (v::ws)).drop (w.length+1))=_
  rw[FI,ih]
  simp
theorem CK:∀(ws:List (List UInt8)) (w:List UInt8),ws.length≤(bh (w::ws)).length
 |[],w=>Nat.zero_le _
 |v::ws,w=>by
  have:=CK ws v
  show ws.length+1≤(w++32::bh (v::ws)).length
  simp;omega
theorem Dw (w:List UInt8) (ws:List (List UInt8)) (h:∀v∈w::ws,(32:UInt8)∉v):Lib.split (bh (w::ws)) [32]=w::ws:=by
 unfold Lib.split Lib.count
 rw[xU ws w _ h (by have:=CK ws w;omega)]
 exact vB ws w h
set_option maxRecDepth 100000 in
set_option maxRecDepth 100000 in
theorem Gx:∀u:Fin 1000,((Pn u.val).contains (32:UInt8))=false:=by decide +kernel
theorem Ey{n:Int}(h0:0≤n) (h1:n≤999):Lib.atoiAll (Lib.itoa n) = .ok n:=by
 obtain⟨u,rfl⟩:=Int.eq_ofNat_of_zero_le h0
 rw[JX (by omega)]
 exact Im ⟨u,by omega⟩
theorem oC{n:Int}(h0:0≤n) (h1:n≤999):(32:UInt8)∉Lib.itoa n:=by
 obtain⟨u,rfl⟩:=Int.eq_ofNat_of_zero_le h0
 rw[JX (by omega)]
 have:=Gx ⟨u,by omega⟩
 intro h
 rw[List.contains_iff_mem.2 h]at this
 cases this
abbrev eS:List UInt8:=[115,116,97,114,116]
abbrev j4:List UInt8:=[116,97,107,101]
abbrev j6:List UInt8:=[103,105,118,101]
abbrev j5:List UInt8:=[115,104,111,119]
theorem De{w:ByteArray}(hw:w.size≤281474976710656):mf w=match Lib.atoiAll w.data.toList with | .ok v=>some (v,false) | .range=>some (Lib.atoiSat w.data.toList,true)|_=>some (0,true):=by
 unfold mf
 rw[if_pos hw]
 cases Lib.atoiAll w.data.toList<;>rfl
theorem AR (n:Nat){w:ByteArray}(hw:w.size≤281474976710656):∃v b,bT n w=some (v,b):=by
 unfold bT
 rw[De hw]
 cases h:Lib.atoiAll w.data.toList with
 |ok v =>
  obtain⟨h1,h2⟩:=Lib.atoiAll_bounds h
  simp only[Option.bind_some,Bool.not_false,Bool.not_true,cond_false,AW v h1 h2,Ec]
  cases aC (ba (Lib.itoa v)) w with
  |false=>exact⟨_,_,rfl⟩
  |true=>cases qV v<;>exact⟨_,_,rfl⟩
 |_=>exact⟨_,_,rfl⟩
theorem fL (n:Nat){x:Int}(h0:0≤x) (h1:x≤999):bT n (ba (Lib.itoa x))=some (x,true):=by
 have hl:=c9 h0 h1
 unfold bT
 rw[De (by rw[cA];omega),iM,Ey h0 h1]
 simp only[Option.bind_some,Bool.not_false,Bool.not_true,cond_false,AW x (by omega) (by omega),Ec,cZ]
 have:qV x=true:=decide_eq_true ⟨h0,h1⟩
 rw[this];rfl
def kw (w:ByteArray):Int:=bif aC (ba eS) w then 1 else bif aC (ba j4) w then 2 else bif aC (ba j6) w then 3 else bif aC (ba j5) w then 4 else 0
theorem th (n:Nat) (hn:10≤n) (w:ByteArray):fS n w=some (kw w):=by
 obtain⟨m,rfl⟩:∃m,n=m+5:=⟨n-5,by omega⟩
 have r1:ay (m+5) (m+5) (w,1)=bif aC (ba eS) w then some (Sum.inl 1)else ay (m+5) (m+4) (w,2):=by kernel_rfl
 have r2:ay (m+5) (m+4) (w,2)=bif aC (ba j4) w then some (Sum.inl 2)else ay (m+5) (m+3) (w,3):=by kernel_rfl
 have r3:ay (m+5) (m+3) (w,3)=bif aC (ba j6) w then some (Sum.inl 3)else ay (m+5) (m+2) (w,4):=by kernel_rfl
 have r4:ay (m+5) (m+2) (w,4)=bif aC (ba j5) w then some (Sum.inl 4)else ay (m+5) (m+1) (w,5):=by kernel_rfl
 have r5:ay (m+5) (m+1) (w,5)=some (Sum.inr ()):=by kernel_rfl
 unfold fS kw
 rw[r1,r2,r3,r4,r5]
 cases aC (ba eS) w<;>cases aC (ba j4) w<;>cases aC (ba j6) w<;>cases aC (ba j5) w<;>rfl
theorem kW (n m:Nat){T:ByteArray}{k A B C D:Int}{t:ByteArray}{ws:List ByteArray}{len:Nat}{j:Nat}(hj:j<len) (hl:ws.length=len) (h4:len≤4){v:Int}{b:Bool}(h:bT n (ws.getD j (⟨#[]⟩:ByteArray))=some (v,b)) :
  am n (m+1) (T,(0:Int),(0:Int),(0:Int),(0:Int),(0:Int),(⟨#[]⟩:ByteArray),k,A,B,C,D,t,false,false,false,false,ws,(len:Int),(j:Int)) =
  am n m (T,(0:Int),(0:Int),(0:Int),(0:Int),(0:Int),(⟨#[]⟩:ByteArray),k,(if j=0 then v else A),(if j=1 then v else B),(if j=2 then v else C),(if j=3 then v else D),t,false,false,false,false,ws,(len:Int),((j+1:Nat):Int)):=by
 have hd:decide ((j:Int)<(len:Int))=true:=decide_eq_true (by omega)
 have hi:aR (j:Int) ws.length=true:=decide_eq_true (by omega)
 rw[am]
 dsimp only
 rw[hd,cond_true,hi,cond_true,Int.toNat_natCast]
 unfold fN
 dsimp only
 rw[h]
 have hc:j=0∨j=1∨j=2∨j=3:=by omega
 rcases hc with rfl|rfl|rfl|rfl<;>rfl
theorem tf (n m:Nat){T:ByteArray}{k A B C D:Int}{t:ByteArray}{ws:List ByteArray}{len:Nat} :
  am n (m+1) (T,(0:Int),(0:Int),(0:Int),(0:Int),(0:Int),(⟨#[]⟩:ByteArray),k,A,B,C,D,t,false,false,false,false,ws,(len:Int),(len:Int)) =
  some (T,(0:Int),(0:Int),(0:Int),(0:Int),(0:Int),(⟨#[]⟩:ByteArray),k,A,B,C,D,t):=by
 rw[am]
 dsimp only
 rw[decide_eq_false (Int.lt_irrefl _),cond_false]
theorem xA (n:Nat){T:ByteArray}{k:Int}{t:ByteArray}{ws:List ByteArray}{len:Nat}(hl:ws.length=len) (h4:len≤4) (hs:∀w∈ws,w.size≤281474976710656):∀(m j:Nat) (A B C D:Int),j≤len→len<m+j →
  ∃A' B' C' D',am n m (T,(0:Int),(0:Int),(0:Int),(0:Int),(0:Int),(⟨#[]⟩:ByteArray),k,A,B,C,D,t,false,false,false,false,ws,(len:Int),(j:Int))=some (T,(0:Int),(0:Int),(0:Int),(0:Int),(0:Int),(⟨#[]⟩:ByteArray),k,A',B',C',D',t)
 |0,j,A,B,C,D,hj,hm=>by omega
 |m+1,j,A,B,C,D,hj,hm=>by
  by_cases hq:j<len
  ·have hw:ws.getD j (⟨#[]⟩:ByteArray)∈ws:=by
    rw[List.getD_eq_getElem?_getD,List.getElem?_eq_getElem (by omega),Option.getD_some]
    exact List.getElem_mem _
   obtain⟨v,b,h⟩:=AR n (hs _ hw)
   rw[kW n m hq hl h4 h]
   exact xA n hl h4 hs m (j+1) _ _ _ _ (by omega) (by omega)
  ·obtain rfl:j=len:=by omega
   exact⟨_,_,_,_,tf n m⟩
def t5 (T:ByteArray) (v:Int×Int×Int×Int×Int×ByteArray×Bool):Prop:=v=((0:Int),(0:Int),(0:Int),(0:Int),(0:Int),(⟨#[]⟩:ByteArray),false)∨∃k a b c d t,v=(k,a,b,c,d,t,true)∧dO k a b c d t=(T,true)
theorem yO (T:ByteArray) (k a b c d:Int) (t:ByteArray):∃v,(bif (!(dO k a b c d t).2)then some ((0:Int),(0:Int),(0:Int),(0:Int),(0:Int),(⟨#[]⟩:ByteArray),false)else bif (!aC (dO k a b c d t).1 T)then some ((0:Int),(0:Int),(0:Int),(0:Int),(0:Int),(⟨#[]⟩:ByteArray),false)else some (k,a,b,c,d,t,true))=some v∧t5 T v:=by
 cases h:(dO k a b c d t).2 with
 |false=>exact⟨_,rfl, .inl rfl⟩
 |true =>
  cases h2:aC (dO k a b c d t).1 T with
  |false=>exact⟨_,rfl, .inl rfl⟩
  |true=>exact⟨_,rfl, .inr ⟨k,a,b,c,d,t,rfl,Prod.ext (nz.1 h2) h⟩⟩
theorem FJ (l sep:List UInt8):(Lib.cut l sep).1.length≤l.length∧(Lib.cut l sep).2.1.length≤l.length:=by
 unfold Lib.cut
 split
 ·exact⟨by simp;omega,by simp⟩
 ·exact⟨Nat.le_refl _,Nat.zero_le _⟩
theorem yU (sep:ByteArray):∀(k:Nat) (s:ByteArray), ∀p∈Lib.splitB sep 0 k s,p.size≤s.size
 |0,s,p,hp=>by rw[List.mem_singleton.1 hp];exact Nat.le_refl _
 |k+1,s,p,hp=>by
  unfold Lib.splitB at hp
  split at hp
  ·rw[List.mem_singleton.1 hp];exact Nat.le_refl _
  ·rcases List.mem_cons.1 hp with rfl|hp
   ·rw[ByteArray.size_extract];omega
   ·have:=yU sep k _ p hp
    rw[ByteArray.size_extract]at this
    omega
theorem yV (n:Nat) (hn:3000≤n) (T:ByteArray) (hT:T.size≤1048576):∃v,cr n T=some v∧t5 T v:=by
 unfold cr
 have c1:iL (T,(⟨#[32]⟩:ByteArray))=some (ba (Lib.cut T.data.toList [32]).1,ba (Lib.cut T.data.toList [32]).2.1,(Lib.cut T.data.toList [32]).2.2):=by
  unfold iL
  rw[if_pos (by show T.size<_;omega)]
  rfl
 have hl:=FJ T.data.toList [32]
 have hTl:T.data.toList.length=T.size:=rfl
 rw[c1,Option.bind_some]
 dsimp only
 rw[th n (by omega),Option.bind_some]
 generalize kw (ba (Lib.cut T.data.toList [32]).1)=k
 have hr:(ba (Lib.cut T.data.toList [32]).2.1).size≤1048576:=by rw[cA];omega
 generalize ba (Lib.cut T.data.toList [32]).2.1=R at hr ⊢
 cases(k==2)with
 |true =>
  have c2:iL (R,(⟨#[32]⟩:ByteArray))=some (ba (Lib.cut R.data.toList [32]).1,ba (Lib.cut R.data.toList [32]).2.1,(Lib.cut R.data.toList [32]).2.2):=by
   unfold iL
   rw[if_pos (by show R.size<_;omega)]
   rfl
  have hl2:=FJ R.data.toList [32]
  have hRl:R.data.toList.length=R.size:=rfl
  rw[cond_true,c2,Option.bind_some]
  dsimp only
  have hw:(ba (Lib.cut R.data.toList [32]).1).size≤281474976710656:=by rw[cA];omega
  generalize ba (Lib.cut R.data.toList [32]).1=w at hw ⊢
  have hrng:l4 0 (mn (([w].length:Nat):Int) (4:Int)) ([w]).length=true:=rfl
  have hsl:sl [w] 0 (mn (([w].length:Nat):Int) (4:Int))=[w]:=rfl
  rw[hrng,cond_true,hsl]
  obtain⟨A,B,C,D,e⟩:=xA n (T:=T) (k:=k) (t:=ba (Lib.cut R.data.toList [32]).2.1) (ws:=[w]) (len:=1) rfl (by omega) (fun x hx=>by rw[List.mem_singleton.1 hx];exact hw) n 0 0 0 0 0 (by omega) (by omega)
  have e:am n n (T,(0:Int),(0:Int),(0:Int),(0:Int),(0:Int),(⟨#[]⟩:ByteArray),k,(0:Int),(0:Int),(0:Int),(0:Int),ba (Lib.cut R.data.toList [32]).2.1,false,false,false,false,[w],((([w].length:Nat)):Int),(0:Int))=_:=e
  rw[e,Option.bind_some]
  dsimp only
  rw[kU n hn,Option.bind_some]
  exact yO T _ _ _ _ _ _
 |false =>
  have c2:i9 (R,(⟨#[32]⟩:ByteArray))=some (Lib.splitB (⟨#[32]⟩:ByteArray) 0 (Lib.countB R (⟨#[32]⟩:ByteArray)) R):=by
   unfold i9
   rw[if_pos ⟨by show R.size<_;omega,by show 1≤(⟨#[32]⟩:ByteArray).size;decide⟩]
  have hp:=yU (⟨#[32]⟩:ByteArray) (Lib.countB R (⟨#[32]⟩:ByteArray)) R
  rw[cond_false,c2,Option.bind_some]
  generalize Lib.splitB (⟨#[32]⟩:ByteArray) 0 (Lib.countB R (⟨#[32]⟩:ByteArray)) R=ps at hp ⊢
  have hmn:mn ((ps.length:Nat):Int) (4:Int)=((min ps.length 4:Nat):Int):=by
   unfold mn
   split<;>omega
  rw[hmn]
  have hrng:l4 0 ((min ps.length 4:Nat):Int) ps.length=true:=decide_eq_true (by omega)
  have hsl:sl ps 0 ((min ps.length 4:Nat):Int)=ps.take 4:=by
   show(ps.take (((min ps.length 4:Nat):Int)).toNat).drop 0=_
   rw[List.drop_zero,Int.toNat_natCast]
   by_cases q:ps.length≤4
   ·rw[List.take_of_length_le (by omega),List.take_of_length_le q]
   ·rw[show min ps.length 4=4 by omega]
  rw[hrng,cond_true,hsl]
  obtain⟨A,B,C,D,e⟩:=xA n (T:=T) (k:=k) (t:=(⟨#[]⟩:ByteArray)) (ws:=ps.take 4) (len:=(ps.take 4).length) rfl (by rw[List.length_take];omega) (fun x hx=>by have:=hp x (List.mem_of_mem_take hx);omega) n 0 0 0 0 0 (by omega) (by rw[List.length_take];omega)
  rw[show((0:Nat):Int)=(0:Int)from rfl]at e
  rw[e,Option.bind_some]
  dsimp only
  rw[kU n hn,Option.bind_some]
  exact yO T _ _ _ _ _ _
theorem qh{w r:List UInt8}(h:(32:UInt8)∉w) (hs:(w++32::r).length≤1048576):iL (ba (w++32::r),(⟨#[32]⟩:ByteArray))=some (ba w,ba r,true):=by
 unfold iL
 rw[if_pos (by show(ba _).size<_;rw[cA];omega)]
 show some (ba (Lib.cut (ba (w++32::r)).data.toList [32]).1,ba (Lib.cut (ba (w++32::r)).data.toList [32]).2.1,(Lib.cut (ba (w++32::r)).data.toList [32]).2.2)=_
 rw[iM,NT h]
theorem py{w:List UInt8}{ws:List (List UInt8)}(h:∀v∈w::ws,(32:UInt8)∉v) (hs:(bh (w::ws)).length≤1048576):i9 (ba (bh (w::ws)),(⟨#[32]⟩:ByteArray))=some ((w::ws).map ba):=by
 unfold i9
 rw[if_pos ⟨by show(ba _).size<_;rw[cA];omega,by show 1≤(⟨#[32]⟩:ByteArray).size;decide⟩]
 have hd:=Lib.splitB_data (⟨#[32]⟩:ByteArray) 0 (Lib.countB (ba (bh (w::ws))) (⟨#[32]⟩:ByteArray)) (ba (bh (w::ws)))
 have hc:Lib.countB (ba (bh (w::ws))) (⟨#[32]⟩:ByteArray)=Lib.count (bh (w::ws)) [32]:=by
  show Lib.count (ba (bh (w::ws))).data.toList [32]=_
  rw[iM]
 have hj:=Dw w ws h
 unfold Lib.split at hj
 rw[hc,iM]at hd
 have hd:(Lib.splitB (⟨#[32]⟩:ByteArray) 0 (Lib.count (bh (w::ws)) [32]) (ba (bh (w::ws)))).map (·.data.toList)=w::ws:=hd.trans hj
 have this:(ba∘fun s:ByteArray=>s.data.toList)=id:=funext fun s=>oT s
 have e:Lib.splitB (⟨#[32]⟩:ByteArray) 0 (Lib.count (bh (w::ws)) [32]) (ba (bh (w::ws)))=(w::ws).map ba:=by
  refine Eq.trans ?_ (congrArg (List.map ba) hd)
  rw[List.map_map,this,List.map_id]
 show some (Lib.splitB (⟨#[32]⟩:ByteArray) 0 (Lib.countB (ba (bh (w::ws))) (⟨#[32]⟩:ByteArray)) (ba (bh (w::ws))))=_
 rw[hc,e]
theorem qv{T:ByteArray}{k a b c d:Int}{t:ByteArray}(h:dO k a b c d t=(T,true)):(bif (!(dO k a b c d t).2)then some ((0:Int),(0:Int),(0:Int),(0:Int),(0:Int),(⟨#[]⟩:ByteArray),false)else bif (!aC (dO k a b c d t).1 T)then some ((0:Int),(0:Int),(0:Int),(0:Int),(0:Int),(⟨#[]⟩:ByteArray),false)else some (k,a,b,c,d,t,true))=some (k,a,b,c,d,t,true):=by
 rw[h]
 dsimp only
 rw[cZ]
 rfl
theorem zv{T:ByteArray}{k a b c d:Int}{t:ByteArray}(h:dO k a b c d t=(T,true)):A6 k a b c d t=true∧T=ba (body k a b c d t):=by
 unfold dO at h
 cases q:A6 k a b c d t with
 |false=>rw[q,if_neg (by simp)]at h;cases h
 |true=>rw[q,if_pos rfl]at h;exact⟨rfl,(congrArg Prod.fst h).symm⟩
theorem ia{x:Int}(h:qV x=true):0≤x∧x≤999:=of_decide_eq_true h
theorem xZ (n:Nat) (hn:3000≤n){T:ByteArray}{k a b c d:Int}{t:ByteArray}(h:dO k a b c d t=(T,true)):cr n T=some (k,a,b,c,d,t,true):=by
 obtain⟨hg,rfl⟩:=zv h
 have hg0:=hg
 unfold A6 at hg
 rw[Bool.and_eq_true,Bool.and_eq_true,Bool.and_eq_true,Bool.and_eq_true,Bool.and_eq_true,Bool.and_eq_true]at hg
 obtain⟨hf,hts,⟨ha,hb,hc,hd⟩,_⟩:=hg
 have hts:t.size≤2000:=of_decide_eq_true hts
 obtain⟨a0,a1⟩:=ia ha
 obtain⟨b0,b1⟩:=ia hb
 obtain⟨c0,c1⟩:=ia hc
 obtain⟨d0,d1⟩:=ia hd
 have la:=c9 a0 a1
 have lb:=c9 b0 b1
 have lc:=c9 c0 c1
 have ld:=c9 d0 d1
 have na:=oC a0 a1
 obtain⟨m,rfl⟩:∃m,n=m+5:=⟨n-5,by omega⟩
 unfold cr
 rcases mQ hf with⟨rfl,rfl⟩|⟨rfl,rfl,rfl,rfl⟩|⟨rfl,rfl,rfl,rfl,rfl⟩|⟨rfl,rfl,rfl,rfl,rfl⟩
 ·have eT:body 1 a b c d (⟨#[]⟩:ByteArray)=eS++32::bh [Lib.itoa a,Lib.itoa b,Lib.itoa c,Lib.itoa d]:=by
   unfold body bh
   simp[bh]
  have hj:(bh [Lib.itoa a,Lib.itoa b,Lib.itoa c,Lib.itoa d]).length≤30:=by simp[bh];omega
  have hw:∀v∈[Lib.itoa a,Lib.itoa b,Lib.itoa c,Lib.itoa d],(32:UInt8)∉v:=fun v hv=>by
   simp at hv
   rcases hv with rfl|rfl|rfl|rfl
   ·exact na
   ·exact oC b0 b1
   ·exact oC c0 c1
   ·exact oC d0 d1
  rw[eT]at h ⊢
  rw[qh (by decide) (by simp only[List.length_append,List.length_cons,List.length_nil];omega),Option.bind_some]
  dsimp only
  rw[th _ (by omega),Option.bind_some,show kw (ba eS)=1 from rfl,show((1:Int)==2)=false from rfl,cond_false,py hw (by omega),Option.bind_some]
  have hrng:l4 0 (mn ((([Lib.itoa a,Lib.itoa b,Lib.itoa c,Lib.itoa d].map ba).length:Nat):Int) (4:Int)) ([Lib.itoa a,Lib.itoa b,Lib.itoa c,Lib.itoa d].map ba).length=true:=rfl
  have hsl:sl ([Lib.itoa a,Lib.itoa b,Lib.itoa c,Lib.itoa d].map ba) 0 (mn ((([Lib.itoa a,Lib.itoa b,Lib.itoa c,Lib.itoa d].map ba).length:Nat):Int) (4:Int))=[ba (Lib.itoa a),ba (Lib.itoa b),ba (Lib.itoa c),ba (Lib.itoa d)]:=rfl
  rw[hrng,cond_true,hsl]
  have s0:=kW (m+5) (m+4) (T:=ba (eS++32::bh [Lib.itoa a,Lib.itoa b,Lib.itoa c,Lib.itoa d])) (k:=1) (A:=0) (B:=0) (C:=0) (D:=0) (t:=(⟨#[]⟩:ByteArray)) (ws:=[ba (Lib.itoa a),ba (Lib.itoa b),ba (Lib.itoa c),ba (Lib.itoa d)]) (len:=4) (j:=0) (by omega) rfl (by omega) (fL _ a0 a1)
  have s1:=kW (m+5) (m+3) (T:=ba (eS++32::bh [Lib.itoa a,Lib.itoa b,Lib.itoa c,Lib.itoa d])) (k:=1) (A:=a) (B:=0) (C:=0) (D:=0) (t:=(⟨#[]⟩:ByteArray)) (ws:=[ba (Lib.itoa a),ba (Lib.itoa b),ba (Lib.itoa c),ba (Lib.itoa d)]) (len:=4) (j:=1) (by omega) rfl (by omega) (fL _ b0 b1)
  have s2:=kW (m+5) (m+2) (T:=ba (eS++32::bh [Lib.itoa a,Lib.itoa b,Lib.itoa c,Lib.itoa d])) (k:=1) (A:=a) (B:=b) (C:=0) (D:=0) (t:=(⟨#[]⟩:ByteArray)) (ws:=[ba (Lib.itoa a),ba (Lib.itoa b),ba (Lib.itoa c),ba (Lib.itoa d)]) (len:=4) (j:=2) (by omega) rfl (by omega) (fL _ c0 c1)
  have s3:=kW (m+5) (m+1) (T:=ba (eS++32::bh [Lib.itoa a,Lib.itoa b,Lib.itoa c,Lib.itoa d])) (k:=1) (A:=a) (B:=b) (C:=c) (D:=0) (t:=(⟨#[]⟩:ByteArray)) (ws:=[ba (Lib.itoa a),ba (Lib.itoa b),ba (Lib.itoa c),ba (Lib.itoa d)]) (len:=4) (j:=3) (by omega) rfl (by omega) (fL _ d0 d1)
  have s4:=tf (m+5) m (T:=ba (eS++32::bh [Lib.itoa a,Lib.itoa b,Lib.itoa c,Lib.itoa d])) (k:=1) (A:=a) (B:=b) (C:=c) (D:=d) (t:=(⟨#[]⟩:ByteArray)) (ws:=[ba (Lib.itoa a),ba (Lib.itoa b),ba (Lib.itoa c),ba (Lib.itoa d)]) (len:=4)
  have e:=s0.trans (s1.trans (s2.trans (s3.trans s4)))
  have e:am (m+5) (m+5) (ba (eS++32::bh [Lib.itoa a,Lib.itoa b,Lib.itoa c,Lib.itoa d]),(0:Int),(0:Int),(0:Int),(0:Int),(0:Int),(⟨#[]⟩:ByteArray),(1:Int),(0:Int),(0:Int),(0:Int),(0:Int),(⟨#[]⟩:ByteArray),false,false,false,false,[ba (Lib.itoa a),ba (Lib.itoa b),ba (Lib.itoa c),ba (Lib.itoa d)],((([ba (Lib.itoa a),ba (Lib.itoa b),ba (Lib.itoa c),ba (Lib.itoa d)]:List ByteArray).length:Nat):Int),(0:Int))=_:=e
  rw[e,Option.bind_some]
  dsimp only
  rw[kU _ hn,Option.bind_some]
  exact qv h
 ·have eT:body 2 a 0 0 0 t=j4++32::(Lib.itoa a++32::t.data.toList):=by
   unfold body
   simp
  have htl:t.data.toList.length=t.size:=rfl
  rw[eT]at h ⊢
  rw[qh (by decide) (by simp;omega),Option.bind_some]
  dsimp only
  rw[th _ (by omega),Option.bind_some,show kw (ba j4)=2 from rfl,show((2:Int)==2)=true from rfl,cond_true,qh na (by simp;omega),Option.bind_some]
  dsimp only
  rw[oT t]
  have hrng:l4 0 (mn ((([ba (Lib.itoa a)]:List ByteArray).length:Nat):Int) (4:Int)) ([ba (Lib.itoa a)]:List ByteArray).length=true:=rfl
  have hsl:sl [ba (Lib.itoa a)] 0 (mn ((([ba (Lib.itoa a)]:List ByteArray).length:Nat):Int) (4:Int))=[ba (Lib.itoa a)]:=rfl
  rw[hrng,cond_true,hsl]
  have s0:=kW (m+5) (m+4) (T:=ba (j4++32::(Lib.itoa a++32::t.data.toList))) (k:=2) (A:=0) (B:=0) (C:=0) (D:=0) (t:=t) (ws:=[ba (Lib.itoa a)]) (len:=1) (j:=0) (by omega) rfl (by omega) (fL _ a0 a1)
  have s4:=tf (m+5) (m+3) (T:=ba (j4++32::(Lib.itoa a++32::t.data.toList))) (k:=2) (A:=a) (B:=0) (C:=0) (D:=0) (t:=t) (ws:=[ba (Lib.itoa a)]) (len:=1)
  have e:=s0.trans s4
  have e:am (m+5) (m+5) (ba (j4++32::(Lib.itoa a++32::t.data.toList)),(0:Int),(0:Int),(0:Int),(0:Int),(0:Int),(⟨#[]⟩:ByteArray),(2:Int),(0:Int),(0:Int),(0:Int),(0:Int),t,false,false,false,false,[ba (Lib.itoa a)],((([ba (Lib.itoa a)]:List ByteArray).length:Nat):Int),(0:Int))=_:=e
  rw[e,Option.bind_some]
  dsimp only
  rw[kU _ hn,Option.bind_some]
  exact qv h
 ·have eT:body 3 a 0 0 0 (⟨#[]⟩:ByteArray)=j6++32::bh [Lib.itoa a]:=by
   unfold body
   simp[bh]
  rw[eT]at h ⊢
  rw[qh (by decide) (by simp[bh];omega),Option.bind_some]
  dsimp only
  rw[th _ (by omega),Option.bind_some,show kw (ba j6)=3 from rfl,show((3:Int)==2)=false from rfl,cond_false,py (fun v hv=>by rw[List.mem_singleton.1 hv];exact na) (by simp[bh];omega),Option.bind_some]
  have hrng:l4 0 (mn ((([Lib.itoa a].map ba).length:Nat):Int) (4:Int)) ([Lib.itoa a].map ba).length=true:=rfl
  have hsl:sl ([Lib.itoa a].map ba) 0 (mn ((([Lib.itoa a].map ba).length:Nat):Int) (4:Int))=[ba (Lib.itoa a)]:=rfl
  rw[hrng,cond_true,hsl]
  have s0:=kW (m+5) (m+4) (T:=ba (j6++32::bh [Lib.itoa a])) (k:=3) (A:=0) (B:=0) (C:=0) (D:=0) (t:=(⟨#[]⟩:ByteArray)) (ws:=[ba (Lib.itoa a)]) (len:=1) (j:=0) (by omega) rfl (by omega) (fL _ a0 a1)
  have s4:=tf (m+5) (m+3) (T:=ba (j6++32::bh [Lib.itoa a])) (k:=3) (A:=a) (B:=0) (C:=0) (D:=0) (t:=(⟨#[]⟩:ByteArray)) (ws:=[ba (Lib.itoa a)]) (len:=1)
  have e:=s0.trans s4
  have e:am (m+5) (m+5) (ba (j6++32::bh [Lib.itoa a]),(0:Int),(0:Int),(0:Int),(0:Int),(0:Int),(⟨#[]⟩:ByteArray),(3:Int),(0:Int),(0:Int),(0:Int),(0:Int),(⟨#[]⟩:ByteArray),false,false,false,false,[ba (Lib.itoa a)],((([ba (Lib.itoa a)]:List ByteArray).length:Nat):Int),(0:Int))=_:=e
  rw[e,Option.bind_some]
  dsimp only
  rw[kU _ hn,Option.bind_some]
  exact qv h
 ·have eT:body 4 a 0 0 0 (⟨#[]⟩:ByteArray)=j5++32::bh [Lib.itoa a]:=by
   unfold body
   simp[bh]
  rw[eT]at h ⊢
  rw[qh (by decide) (by simp[bh];omega),Option.bind_some]
  dsimp only
  rw[th _ (by omega),Option.bind_some,show kw (ba j5)=4 from rfl,show((4:Int)==2)=false from rfl,cond_false,py (fun v hv=>by rw[List.mem_singleton.1 hv];exact na) (by simp[bh];omega),Option.bind_some]
  have hrng:l4 0 (mn ((([Lib.itoa a].map ba).length:Nat):Int) (4:Int)) ([Lib.itoa a].map ba).length=true:=rfl
  have hsl:sl ([Lib.itoa a].map ba) 0 (mn ((([Lib.itoa a].map ba).length:Nat):Int) (4:Int))=[ba (Lib.itoa a)]:=rfl
  rw[hrng,cond_true,hsl]
  have s0:=kW (m+5) (m+4) (T:=ba (j5++32::bh [Lib.itoa a])) (k:=4) (A:=0) (B:=0) (C:=0) (D:=0) (t:=(⟨#[]⟩:ByteArray)) (ws:=[ba (Lib.itoa a)]) (len:=1) (j:=0) (by omega) rfl (by omega) (fL _ a0 a1)
  have s4:=tf (m+5) (m+3) (T:=ba (j5++32::bh [Lib.itoa a])) (k:=4) (A:=a) (B:=0) (C:=0) (D:=0) (t:=(⟨#[]⟩:ByteArray)) (ws:=[ba (Lib.itoa a)]) (len:=1)
  have e:=s0.trans s4
  have e:am (m+5) (m+5) (ba (j5++32::bh [Lib.itoa a]),(0:Int),(0:Int),(0:Int),(0:Int),(0:Int),(⟨#[]⟩:ByteArray),(4:Int),(0:Int),(0:Int),(0:Int),(0:Int),(⟨#[]⟩:ByteArray),false,false,false,false,[ba (Lib.itoa a)],((([ba (Lib.itoa a)]:List ByteArray).length:Nat):Int),(0:Int))=_:=e
  rw[e,Option.bind_some]
  dsimp only
  rw[kU _ hn,Option.bind_some]
  exact qv h
end AM
end Go.Proofs.YtobpcllkonomlabGreatDoor
