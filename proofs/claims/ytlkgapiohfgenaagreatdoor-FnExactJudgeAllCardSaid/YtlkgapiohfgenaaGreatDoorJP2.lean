/- Small laws on whole numbers that wrap, on strings as lists of bytes, and on answers that may be none. No condition. And what follows it: see the remarks. -/
import Derived.Test.YtlkgapiohfgenaaGreatDoorJW4
import Derived.Lib.ItoaNum
import Derived.Lib.IndexMore
import Derived.Laws.BitsLemmas
import Derived.Test.YtlkgapiohfgenaaGreatDoorJALd
import Derived.Test.YtlkgapiohfgenaaGreatDoorJP1
import Derived.Test.YtlkgapiohfgenaaGreatDoorRows
import Derived.Test.YtlkgapiohfgenaaGreatDoorJALo
import Derived.ProofKit
import Derived.OpenShut
import Derived.Deep.DeepHandedRow
import Derived.Shelf.Vars
import Derived.Stop.LaidErr
import Derived.LaidLaws
import Derived.Lib.SlicesCompact
namespace Go.Proofs.YtlkgapiohfgenaaGreatDoor
namespace AM
open Go
set_option linter.unusedSimpArgs false
set_option linter.unusedVariables false
end AM
end Go.Proofs.YtlkgapiohfgenaaGreatDoor
namespace Go.Proofs.YtlkgapiohfgenaaGreatDoor
namespace AM
open Go
set_option linter.unusedVariables false
set_option linter.unusedSimpArgs false
abbrev N0:Nat:=1000000000000000000000000000000
theorem cC{n:Int}(h1:-9223372036854775808≤n) (h2:n≤9223372036854775807):IntKind.i64.wrap n=n:=by
 rw[IntKind.wrap_i64];omega
theorem fc {α:Type}{l:List α}{i:Nat}(h:i<l.length) (d:α):l.getD i d=l[i]:=by
 rw[List.getD_eq_getElem?_getD,List.getElem?_eq_getElem h];rfl
theorem ax{i n:Nat}(h:i<n):aY (i:Int) n=true:=by
 unfold aY
 exact decide_eq_true ⟨Int.natCast_nonneg _,by omega⟩
theorem ap{i n:Nat}(hi:i<n) (hn:n≤4294967296):IntKind.i64.wrap ((i:Int)+(1:Int))=((i+1:Nat):Int):=by
 rw[cC (by omega) (by omega)];omega
theorem xi {α:Type}{xs ys:List α}{i:Nat}(hi:i<xs.length) (hl:ys.length=xs.length) (h:∀j,j<i→ys[j]?=xs[j]?):(ys.set i xs[i]).length=xs.length∧∀j,j<i+1→(ys.set i xs[i])[j]?=xs[j]?:=by
 refine⟨by simp[hl],fun j hj=>?_⟩
 rw[List.getElem?_set]
 by_cases q:i=j
 ·subst q
  rw[if_pos rfl,if_pos (by omega),List.getElem?_eq_getElem hi]
 ·rw[if_neg q];exact h j (by omega)
theorem qC {α:Type}{xs ys:List α}{i:Nat}(hi:xs.length≤i) (hl:ys.length=xs.length) (h:∀j,j<i→ys[j]?=xs[j]?):ys=xs:=by
 apply List.ext_getElem?
 intro j
 rcases Nat.lt_or_ge j i with q|q
 ·exact h j q
 ·rw[List.getElem?_eq_none (by omega),List.getElem?_eq_none (by omega)]
theorem su (n:Nat){xs:List (Int×Int×Int)}(hx:xs.length≤4294967296):∀(m i:Nat) (ys:List (Int×Int×Int)),i≤xs.length→ys.length=xs.length→(∀j,j<i→ys[j]?=xs[j]?)→xs.length<m+i→cy n m (xs,ys,(i:Int))=some xs
 |0,i,ys,hi,hl,h,hm=>by omega
 |m+1,i,ys,hi,hl,h,hm=>by
  show(cond (decide ((i:Int)<(xs.length:Int))) _ _)=_
  by_cases q:i<xs.length
  ·rw[decide_eq_true (by omega:(i:Int)<(xs.length:Int)),cond_true]
   show(cond (aY (i:Int) xs.length) _ none)=_
   rw[ax q,cond_true]
   show(cond (aY (i:Int) ys.length) (cy n m (xs,ys.set ((i:Int)).toNat (xs.getD ((i:Int)).toNat ((0:Int),((0:Int),(0:Int)))),IntKind.i64.wrap ((i:Int)+(1:Int)))) none)=_
   rw[ax (by omega),cond_true,ap q hx,Int.toNat_natCast,fc q]
   obtain⟨h1,h2⟩:=xi q hl h
   exact su n hx m (i+1) _ q h1 h2 (by omega)
  ·rw[decide_eq_false (by omega:¬(i:Int)<(xs.length:Int)),cond_false]
   rw[qC (by omega) hl h]
theorem uV (n:Nat){xs:List Int}(hx:xs.length≤4294967296):∀(m i:Nat) (ys:List Int),i≤xs.length→ys.length=xs.length→(∀j,j<i→ys[j]?=xs[j]?)→xs.length<m+i→cQ n m (xs,ys,(i:Int))=some xs
 |0,i,ys,hi,hl,h,hm=>by omega
 |m+1,i,ys,hi,hl,h,hm=>by
  show(cond (decide ((i:Int)<(xs.length:Int))) _ _)=_
  by_cases q:i<xs.length
  ·rw[decide_eq_true (by omega:(i:Int)<(xs.length:Int)),cond_true]
   show(cond (aY (i:Int) xs.length) (cond (aY (i:Int) ys.length) (cQ n m (xs,ys.set ((i:Int)).toNat (xs.getD ((i:Int)).toNat (0:Int)),IntKind.i64.wrap ((i:Int)+(1:Int)))) none) none)=_
   rw[ax q,ax (by omega),cond_true,cond_true,ap q hx,Int.toNat_natCast,fc q]
   obtain⟨h1,h2⟩:=xi q hl h
   exact uV n hx m (i+1) _ q h1 h2 (by omega)
  ·rw[decide_eq_false (by omega:¬(i:Int)<(xs.length:Int)),cond_false]
   rw[qC (by omega) hl h]
theorem Cl (n:Nat) (hn:4294967296<n){xs:List (Int×Int×Int)}(hx:xs.length≤4294967296):it n xs=some xs:=by
 unfold it
 rw[decide_eq_true (by omega:0≤(xs.length:Int)∧(xs.length:Int)≤(xs.length:Int)∧(xs.length:Int)≤4294967296),cond_true]
 have:=su n hx n 0 (List.replicate ((xs.length:Int)).toNat ((0:Int),((0:Int),(0:Int)))) (Nat.zero_le _) (by simp) (fun j hj=>by omega) (by omega)
 rw[show((0:Nat):Int)=(0:Int)from rfl]at this
 rw[this];rfl
theorem qh (n:Nat) (hn:4294967296<n){xs:List Int}(hx:xs.length≤4294967296):dZ n xs=some xs:=by
 unfold dZ
 rw[decide_eq_true (by omega:0≤(xs.length:Int)∧(xs.length:Int)≤(xs.length:Int)∧(xs.length:Int)≤4294967296),cond_true]
 have:=uV n hx n 0 (List.replicate ((xs.length:Int)).toNat (0:Int)) (Nat.zero_le _) (by simp) (fun j hj=>by omega) (by omega)
 rw[show((0:Nat):Int)=(0:Int)from rfl]at this
 rw[this];rfl
theorem EB (n:Nat) (hn:4294967296<n){xs:List (Int×Int×Int)}(hx:xs.length≤4294967296):lj n xs=some xs:=by
 unfold lj
 rw[Cl n hn hx];rfl
theorem x6 (n:Nat) (hn:4294967296<n){a b c d e:Int}{v:List Int}{f g:Bool}{k:Int}(hx:v.length≤4294967296):m8 n (a,b,c,d,e,v,f,g,k)=some (a,b,c,d,e,v,f,g,k):=by
 show((dZ n v).bind fun r1=>some (a,b,c,d,e,r1,f,g,k))=_
 rw[qh n hn hx];rfl
theorem tz (n:Nat){xs:List (Int×Int×Int)}(hx:xs.length≤4294967296):∀(m i:Nat),i≤xs.length→xs.length<m+i→cA n m (xs,xs,(i:Int))=some (Sum.inr ())
 |0,i,hi,hm=>by omega
 |m+1,i,hi,hm=>by
  show(cond (decide ((i:Int)<(xs.length:Int))) _ _)=_
  by_cases q:i<xs.length
  ·rw[decide_eq_true (by omega:(i:Int)<(xs.length:Int)),cond_true]
   show(cond (aY (i:Int) xs.length) (cond (aY (i:Int) xs.length) ((jj n _).bind fun r1=>(cond (!r1) (some (Sum.inl false)) (cA n m (xs,xs,IntKind.i64.wrap ((i:Int)+(1:Int)))))) none) none)=_
   rw[ax q,cond_true,cond_true]
   generalize xs.getD ((i:Int)).toNat ((0:Int),((0:Int),(0:Int)))=p
   have:jj n (p.1,p.2.1,p.2.2,p.1,p.2.1,p.2.2)=some true:=by simp[jj]
   rw[this,ap q hx]
   exact tz n hx m (i+1) q (by omega)
  ·rw[decide_eq_false (by omega:¬(i:Int)<(xs.length:Int)),cond_false]
theorem p6 (n:Nat){xs:List Int}(hx:xs.length≤4294967296):∀(m i:Nat),i≤xs.length→xs.length<m+i→cR n m (xs,xs,(i:Int))=some (Sum.inr ())
 |0,i,hi,hm=>by omega
 |m+1,i,hi,hm=>by
  show(cond (decide ((i:Int)<(xs.length:Int))) _ _)=_
  by_cases q:i<xs.length
  ·rw[decide_eq_true (by omega:(i:Int)<(xs.length:Int)),cond_true]
   show(cond (aY (i:Int) xs.length) (cond (aY (i:Int) xs.length) (cond (xs.getD ((i:Int)).toNat (0:Int) != xs.getD ((i:Int)).toNat (0:Int)) (some (Sum.inl false)) (cR n m (xs,xs,IntKind.i64.wrap ((i:Int)+(1:Int))))) none) none)=_
   rw[ax q,cond_true,cond_true,bne_self_eq_false,cond_false,ap q hx]
   exact p6 n hx m (i+1) q (by omega)
  ·rw[decide_eq_false (by omega:¬(i:Int)<(xs.length:Int)),cond_false]
theorem BS (n:Nat) (hn:4294967296<n){xs:List (Int×Int×Int)}(hx:xs.length≤4294967296):lq n (xs,xs)=some true:=by
 unfold lq l7
 have:=tz n hx n 0 (Nat.zero_le _) (by omega)
 rw[show((0:Nat):Int)=(0:Int)from rfl]at this
 simp only[bne_self_eq_false,cond_false,this];rfl
theorem BT (n:Nat) (hn:4294967296<n){a b c d e:Int}{v:List Int}{f g:Bool}{k:Int}(hx:v.length≤4294967296):ls n (a,b,c,d,e,v,f,g,k,a,b,c,d,e,v,f,g,k)=some true:=by
 have h2:d5 n (v,v)=some true:=by
  unfold d5
  have:=p6 n hx n 0 (Nat.zero_le _) (by omega)
  rw[show((0:Nat):Int)=(0:Int)from rfl]at this
  simp only[bne_self_eq_false,cond_false,this];rfl
 unfold ls
 simp only[bne_self_eq_false,cond_false,h2,Option.bind_some,Bool.not_true]
theorem nU:∀(t:Ty),t.hasSl=false→∀x:t.den,t.eqv x x=true
 | .int _,_,x=>by simp[Ty.eqv]
 | .bool,_,x=>by simp[Ty.eqv]
 | .str,_,x=>decide_eq_true rfl
 | .sl _,h,_=>by cases h
 | .pr a b,h,x=>by
  have h:(a.hasSl || b.hasSl)=false:=h
  rw[Bool.or_eq_false_iff]at h
  show(a.eqv x.1 x.1&&b.eqv x.2 x.2)=true
  rw[nU a h.1,nU b h.2];rfl
theorem yt{kt:Ty}{k:kt.den}{m:List (kt.den×Int)}{j:Nat}{v:Int}(h:cj kt k m 0=some (j,v)):j<m.length:=by
 obtain⟨_,h2⟩:=mz h
 exact(List.getElem?_eq_some_iff.1 h2).1
theorem Bq {α:Type}{y:Int}{k:α}{c:Int}:∀{m:List (α×Int)}{j:Nat},j<m.length→u7 y (m.set j (k,c)) j=m.set j (k,y)
 |[],_,h=>by simp at h
 |p::r,0,_=>rfl
 |p::r,j+1,h=>by
  show p::u7 y (r.set j (k,c)) j=p::r.set j (k,y)
  rw[Bq (by simpa using h)]
theorem yo {α:Type}{y:Int}{k:α}{c:Int}:∀{m:List (α×Int)},u7 y (m++[(k,c)]) m.length=m++[(k,y)]
 |[]=>rfl
 |p::r=>by
  show p::u7 y (r++[(k,c)]) r.length=p::(r++[(k,y)])
  rw[yo]
theorem E0{kt:Ty}{k:kt.den}{c y:Int}{m:List (kt.den×Int)}:E1 (rP kt k m) y (kg kt k c m)=kg kt k y m:=by
 unfold E1 rP kg
 cases h:cj kt k m 0 with
 |some p =>
  obtain⟨j,v⟩:=p
  dsimp only
  rw[Int.toNat_natCast]
  exact Bq (yt h)
 |none =>
  dsimp only
  rw[Int.toNat_natCast]
  exact yo
theorem Jm{kt:Ty}{k:kt.den}{c:Int}{m:List (kt.den×Int)}:aY (rP kt k m) (kg kt k c m).length=true:=by
 unfold rP kg
 cases h:cj kt k m 0 with
 |some p =>
  obtain⟨j,v⟩:=p
  dsimp only
  rw[List.length_set]
  exact ax (yt h)
 |none =>
  dsimp only
  rw[List.length_append]
  exact ax (by simp)
theorem sS{kt:Ty}{k k':kt.den}{x:Int}(hne:kt.eqv k' k=false):∀{m:List (kt.den×Int)}{i j:Nat}{v:Int},cj kt k m i=some (j,v)→cj kt k' (m.set (j-i) (k,x)) i=cj kt k' m i
 |[],_,_,_,h=>by cases h
 |p::r,i,j,v,h=>by
  unfold cj at h
  cases q:kt.eqv k p.1 with
  |true =>
   rw[q]at h
   obtain⟨rfl,rfl⟩:=Prod.mk.inj (Option.some.inj h)
   rw[Nat.sub_self,List.set_cons_zero]
   have:=ur kt q
   unfold cj
   rw[hne, ←this,hne]
   rfl
  |false =>
   rw[q]at h
   have h:cj kt k r (i+1)=some (j,v):=h
   obtain⟨h1,_⟩:=mz h
   rw[show j-i=(j-(i+1))+1 by omega,List.set_cons_succ]
   unfold cj
   rw[sS hne h]
theorem rh{kt:Ty}{k k':kt.den}{x:Int}(hne:kt.eqv k' k=false):∀{m:List (kt.den×Int)}{i:Nat},cj kt k' (m++[(k,x)]) i=cj kt k' m i
 |[],i=>by
  show cj kt k' [(k,x)] i=_
  unfold cj
  rw[hne];rfl
 |p::r,i=>by
  show cj kt k' (p::(r++[(k,x)])) i=_
  unfold cj
  rw[rh hne]
theorem sR{kt:Ty}{k k':kt.den}{x:Int}{m:List (kt.den×Int)}(hne:kt.eqv k' k=false):eg kt k' (kg kt k x m)=eg kt k' m:=by
 unfold eg kg
 cases h:cj kt k m 0 with
 |some p =>
  obtain⟨j,v⟩:=p
  have:=sS (x:=x) hne h
  rw[Nat.sub_zero]at this
  simp only[this]
 |none=>simp only[rh hne]
abbrev ac:=Int×(Int×Int)
abbrev kN:Ty := .pr (.int .i64) (.pr (.int .i64) (.int .i64))
theorem eE (n:Nat) (a b c:Int):aQ n (a,b,c)=some (decide (a≥b)&&decide (a≤c)):=by
 unfold aQ
 cases decide (a≥b)<;>rfl
theorem wZ (n:Nat) (a b c:Int):cr n (a,b,c)=some (decide (a≥b)&&decide (a≤c)):=eE n a b c
theorem xh (n:Nat) (x:Int):∃v,ce n x=some v:=by
 unfold ce
 simp only[cond_eq_ite]
 repeat' split
 all_goals exact⟨_,rfl⟩
theorem Bl (n:Nat) (x:Int×Int×Int×Int):∃v,cL n x=some v:=by
 unfold cL
 obtain⟨v,hv⟩:=xh n x.1
 rw[hv]
 simp only[Option.bind_some,eE,cond_eq_ite]
 repeat' split
 all_goals exact⟨_,rfl⟩
def gF (n:Nat) (x:Int×Int×Int×Int):Bool:=(cL n x).getD false
theorem tV (n:Nat) (x):cL n x=some (gF n x):=by
 obtain⟨v,hv⟩:=Bl n x
 unfold gF
 rw[hv];rfl
theorem AY (n:Nat) (x):dU n x=some (gF n x):=tV n x
def cF (n:Nat) (pre:List ac):List ac→Bool
 |[]=>true
 |k::r=>(!pre.contains k&&gF n (k.1,k.2.1,k.2.2,(pre.length:Int)))&&cF n (pre++[k]) r
theorem yO (n:Nat){pre r:List ac}{k:ac}(hx:(pre++k::r).length≤4294967296):∀(m j:Nat),j≤pre.length→pre.length<m+j →
  ∃q:Nat,bC n m (pre++k::r,k.1,k.2.1,k.2.2,(j:Int))=some (Sum.inl (q:Int))∧q≤pre.length∧(q=pre.length↔k∉pre.drop j)
 |0,j,h1,h2=>by omega
 |m+1,j,h1,h2=>by
  have hlt:j<(pre++k::r).length:=by simp;omega
  have e0:bC n (m+1) (pre++k::r,k.1,k.2.1,k.2.2,(j:Int))=(cond (decide ((j:Int)<((pre++k::r).length:Int))) (cond (aY (j:Int) (pre++k::r).length) (cond (((pre++k::r).getD ((j:Int)).toNat ((0:Int),((0:Int),(0:Int)))).1==k.1&&(((pre++k::r).getD ((j:Int)).toNat ((0:Int),((0:Int),(0:Int)))).2.1==k.2.1&&(((pre++k::r).getD ((j:Int)).toNat ((0:Int),((0:Int),(0:Int)))).2.2==k.2.2&&true))) (some (Sum.inl (j:Int))) (bC n m (pre++k::r,k.1,k.2.1,k.2.2,IntKind.i64.wrap ((j:Int)+(1:Int))))) none) (some (Sum.inr ()))):=rfl
  rw[e0,decide_eq_true (by omega:(j:Int)<((pre++k::r).length:Int)),cond_true,ax hlt,cond_true,Int.toNat_natCast,fc hlt]
  have heq:∀p:ac,(p.1==k.1&&(p.2.1==k.2.1&&(p.2.2==k.2.2&&true)))=decide (p=k):=by
   intro p
   obtain⟨p1,p2,p3⟩:=p
   obtain⟨k1,k2,k3⟩:=k
   rw[Bool.eq_iff_iff]
   simp
  rw[heq]
  rcases Nat.lt_or_ge j pre.length with q|q
  ·have hg:(pre++k::r)[j]=pre[j]:=List.getElem_append_left q
   rw[hg]
   have hd:pre.drop j=pre[j]::pre.drop (j+1):=List.drop_eq_getElem_cons q
   by_cases hk:pre[j]=k
   ·rw[decide_eq_true hk,cond_true]
    exact⟨j,rfl,by omega,by rw[hd,hk];simp;omega⟩
   ·rw[decide_eq_false hk,cond_false,ap hlt hx]
    obtain⟨z,g1,g2,g3⟩:=yO n hx m (j+1) q (by omega)
    refine⟨z,g1,g2,g3.trans ?_⟩
    rw[hd,List.mem_cons]
    constructor
    ·intro h h2
     rcases h2 with h2|h2
     ·exact hk h2.symm
     ·exact h h2
    ·exact fun h h2=>h (.inr h2)
  ·have hj:j=pre.length:=by omega
   subst hj
   rw[show(pre++k::r)[pre.length]=k by simp,decide_eq_true rfl,cond_true]
   exact⟨pre.length,rfl,Nat.le_refl _,by simp⟩
theorem Jy (n:Nat) (hn:4294967296<n){pre r:List ac}{k:ac}(hx:(pre++k::r).length≤4294967296):∃q:Int,dm n (pre++k::r,k.1,k.2.1,k.2.2)=some q∧(q != (pre.length:Int))=pre.contains k:=by
  have hlen : pre.length < n := by have : pre.length ≤ (pre ++ k :: r).length := by simp
                                   omega
  obtain⟨z,g1,g2,g3⟩:=yO n hx n 0 (Nat.zero_le _) (by omega)
  refine⟨(z:Int),?_,?_⟩
  · show((bC n n (pre++k::r,k.1,k.2.1,k.2.2,((0:Nat):Int))).bind _)=_
    rw[g1];rfl
  · rw[List.drop_zero]at g3
    rw[Bool.eq_iff_iff]
    simp only[bne_iff_ne,ne_eq,List.contains_iff_mem]
    constructor
    · intro h
      exact Classical.byContradiction fun h2=>h (by rw[g3.2 h2])
    · intro h h2
      exact(g3.1 (by omega)) h
theorem qY (n:Nat) (hn:4294967296<n):∀(m:Nat) (pre r:List ac),(pre++r).length≤4294967296→r.length<m→ct n m (pre++r,(pre.length:Int))=some (bif cF n pre r then Sum.inr ()else Sum.inl false)
 |0,pre,r,hx,hm=>by omega
 |m+1,pre,[],hx,hm=>by
  show(cond (decide ((pre.length:Int)<((pre++[]).length:Int))) _ _)=_
  rw[decide_eq_false (by simp),cond_false];rfl
 |m+1,pre,k::r,hx,hm=>by
  have hlt:pre.length<(pre++k::r).length:=by simp
  have e0:ct n (m+1) (pre++k::r,(pre.length:Int))=(cond (decide ((pre.length:Int)<((pre++k::r).length:Int))) (cond (aY (pre.length:Int) (pre++k::r).length) ((dU n (((pre++k::r).getD ((pre.length:Int)).toNat ((0:Int),((0:Int),(0:Int)))).1,((pre++k::r).getD ((pre.length:Int)).toNat ((0:Int),((0:Int),(0:Int)))).2.1,((pre++k::r).getD ((pre.length:Int)).toNat ((0:Int),((0:Int),(0:Int)))).2.2,(pre.length:Int))).bind fun r1=>(cond (!r1) (some (Sum.inl false)) (cond (aY (pre.length:Int) (pre++k::r).length) ((dm n (pre++k::r,((pre++k::r).getD ((pre.length:Int)).toNat ((0:Int),((0:Int),(0:Int)))).1,((pre++k::r).getD ((pre.length:Int)).toNat ((0:Int),((0:Int),(0:Int)))).2.1,((pre++k::r).getD ((pre.length:Int)).toNat ((0:Int),((0:Int),(0:Int)))).2.2)).bind fun r2=>(cond (r2 != (pre.length:Int)) (some (Sum.inl false)) (ct n m (pre++k::r,IntKind.i64.wrap ((pre.length:Int)+(1:Int)))))) none))) none) (some (Sum.inr ()))):=rfl
  obtain⟨q,g1,g2⟩:=Jy n hn (pre:=pre) (r:=r) (k:=k) hx
  rw[e0,decide_eq_true (by omega:(pre.length:Int)<((pre++k::r).length:Int)),cond_true,ax hlt,cond_true,Int.toNat_natCast,fc hlt,show(pre++k::r)[pre.length]=k by simp,AY,g1]
  simp only[Option.bind_some,cond_true]
  rw[g2,ap hlt hx]
  have ih:=qY n hn m (pre++[k]) r (by simpa using hx) (by simp at hm;omega)
  rw[show pre++[k]++r=pre++k::r by simp,show(pre++[k]).length=pre.length+1 by simp]at ih
  rw[ih]
  rw[show cF n pre (k::r)=((!pre.contains k&&gF n (k.1,k.2.1,k.2.2,(pre.length:Int)))&&cF n (pre++[k]) r)from rfl]
  cases gF n (k.1,k.2.1,k.2.2,(pre.length:Int))<;>cases pre.contains k<;>cases cF n (pre++[k]) r<;>rfl
theorem py (n:Nat) (hn:4294967296<n){xs:List ac}(hx:xs.length≤4294967296):gS n xs=some (decide (xs.length≤500)&&cF n [] xs):=by
 unfold gS
 by_cases q:xs.length≤500
 ·rw[decide_eq_false (by omega:¬(xs.length:Int)>(500:Int)),cond_false,decide_eq_true q,Bool.true_and]
  have:=qY n hn n [] xs (by simpa using hx) (by omega)
  rw[List.nil_append,show(([]:List ac).length:Int)=(0:Int)from rfl]at this
  rw[this]
  cases cF n [] xs<;>rfl
 ·rw[decide_eq_true (by omega:(xs.length:Int)>(500:Int)),cond_true,decide_eq_false q];rfl
def YB (kvs:List (ac×Int)) (pre:List ac):Prop:=∀k:ac,eg kN k kvs=if k∈pre then 1 else 0
theorem NJ{a b:ac}:kN.eqv a b=decide (a=b):=by
 rw[Bool.eq_iff_iff,decide_eq_true_iff]
 exact⟨ur kN,fun h=>h▸nU kN rfl a⟩
theorem EL (n:Nat) (kvs:List (ac×Int)) (i a b c:Int) (xs:List ac) (l j:Int):az n (kvs,i,a,b,c,xs,l,j)=some (kg kN (a,b,c) (IntKind.i64.wrap (eg kN (a,b,c) kvs+(1:Int))) kvs,i,a,b,c,xs,l,j):=by
 unfold az
 rw[Jm,cond_true,E0]
theorem ru (n:Nat){xs:List ac}(hx:xs.length≤4294967296):∀(m:Nat) (pre r:List ac) (kvs:List (ac×Int)),xs=pre++r→YB kvs pre→r.length<m→cw n m (kvs,xs,(xs.length:Int),(pre.length:Int))=some (bif cF n pre r then Sum.inr ()else Sum.inl false)
 |0,pre,r,kvs,he,hc,hm=>by omega
 |m+1,pre,[],kvs,he,hc,hm=>by
  show(cond (decide ((pre.length:Int)<(xs.length:Int))) _ _)=_
  rw[decide_eq_false (by rw[he];simp),cond_false];rfl
 |m+1,pre,k::r,kvs,he,hc,hm=>by
  have hlt:pre.length<xs.length:=by rw[he];simp
  have hk:xs[pre.length]=k:=by simp[he]
  have e0:cw n (m+1) (kvs,xs,(xs.length:Int),(pre.length:Int))=(cond (decide ((pre.length:Int)<(xs.length:Int))) (cond (aY (pre.length:Int) xs.length) ((az n (kvs,(pre.length:Int),(xs.getD ((pre.length:Int)).toNat ((0:Int),((0:Int),(0:Int)))).1,(xs.getD ((pre.length:Int)).toNat ((0:Int),((0:Int),(0:Int)))).2.1,(xs.getD ((pre.length:Int)).toNat ((0:Int),((0:Int),(0:Int)))).2.2,xs,(xs.length:Int),(pre.length:Int))).bind fun g1=>(cond (decide ((eg kN (g1.2.2.1,(g1.2.2.2.1,g1.2.2.2.2.1)) g1.1)>(1:Int))) (some (Sum.inl false)) ((cL n (g1.2.2.1,g1.2.2.2.1,g1.2.2.2.2.1,g1.2.1)).bind fun r2=>(cond (!r2) (some (Sum.inl false)) (cw n m (g1.1,g1.2.2.2.2.2.1,g1.2.2.2.2.2.2.1,(IntKind.i64.wrap (g1.2.2.2.2.2.2.2+(1:Int))))))))) none) (some (Sum.inr ()))):=rfl
  rw[e0,decide_eq_true (by omega:(pre.length:Int)<(xs.length:Int)),cond_true,ax hlt,cond_true,Int.toNat_natCast,fc hlt,hk,EL]
  simp only[Option.bind_some]
  have hself:kN.eqv (k.1,k.2.1,k.2.2) (k.1,k.2.1,k.2.2)=true:=nU kN rfl _
  have hke:((k.1,k.2.1,k.2.2):ac)=k:=rfl
  rw[qq hself,tV,ap hlt hx]
  rw[show cF n pre (k::r)=((!pre.contains k&&gF n (k.1,k.2.1,k.2.2,(pre.length:Int)))&&cF n (pre++[k]) r)from rfl]
  have hck:=hc k
  by_cases hin:k∈pre
  ·rw[if_pos hin]at hck
   have:pre.contains k=true:=by simpa using hin
   rw[this,show eg kN (k.1,k.2.1,k.2.2) kvs=1 from hck]
   rfl
  ·rw[if_neg hin]at hck
   have hcf:pre.contains k=false:=by simpa using hin
   rw[hcf,show eg kN (k.1,k.2.1,k.2.2) kvs=0 from hck]
   rw[show decide (IntKind.i64.wrap ((0:Int)+(1:Int))>(1:Int))=false from rfl,cond_false]
   have ih:=ru n hx m (pre++[k]) r (kg kN k (IntKind.i64.wrap ((0:Int)+(1:Int))) kvs) (by simpa using he) (by
    intro k'
    by_cases q:k'=k
    ·subst q
     rw[qq (nU kN rfl k')]
     simp;rfl
    ·rw[sR (by rw[NJ];exact decide_eq_false q),hc k']
     simp[q]) (by simp at hm;omega)
   rw[show(pre++[k]).length=pre.length+1 by simp]at ih
   simp only[Option.bind_some]
   rw[show kg kN (k.1,k.2.1,k.2.2) (IntKind.i64.wrap ((0:Int)+(1:Int))) kvs=kg kN k (IntKind.i64.wrap ((0:Int)+(1:Int))) kvs from rfl,ih]
   cases gF n (k.1,k.2.1,k.2.2,(pre.length:Int))<;>cases cF n (pre++[k]) r<;>rfl
theorem pR (n:Nat) (hn:4294967296<n){xs:List ac}(hx:xs.length≤4294967296):d9 n xs=some (decide (xs.length≤500)&&cF n [] xs):=by
 unfold d9
 by_cases q:xs.length≤500
 ·rw[decide_eq_false (by omega:¬(xs.length:Int)>(500:Int)),cond_false,decide_eq_true q,Bool.true_and]
  have:=ru n hx n [] xs [] rfl (fun k=>by simp[eg,cj]) (by omega)
  rw[show(([]:List ac).length:Int)=(0:Int)from rfl]at this
  rw[this]
  cases cF n [] xs<;>rfl
 ·rw[decide_eq_true (by omega:(xs.length:Int)>(500:Int)),cond_true,decide_eq_false q];rfl
def gM (xs:List ac) (v:Int):Bool:=decide (v≥0)&&decide (v≤(xs.length:Int)-1)
theorem w6 (n:Nat){xs:List ac}(hx:xs.length≤4294967296) (v:Int):fh n (xs,v)=some (gM xs v):=by
 show((cr n (v,(0:Int),IntKind.i64.wrap ((xs.length:Int)-(1:Int)))).bind fun r1=>some r1)=_
 rw[cC (by omega) (by omega),wZ];rfl
theorem mi (n:Nat){xs:List ac}(hx:xs.length≤4294967296) (v:Int):cH n (xs,v)=some (xs,gM xs v):=by
 show((aQ n (v,(0:Int),IntKind.i64.wrap ((xs.length:Int)-(1:Int)))).bind fun r1=>some (xs,r1))=_
 rw[cC (by omega) (by omega),eE];rfl
def nZ (xs:List ac):List Int→Bool
 |[]=>true
 |v::r=>(v == -1 || gM xs v)&&nZ xs r
theorem s7 (n:Nat){xs:List ac}(hx:xs.length≤4294967296){env:List Int}(he:env.length≤4294967296):∀(m:Nat) (pre r:List Int),env=pre++r→r.length<m →
  cd n m (env,xs,env,(env.length:Int),(pre.length:Int))=some (bif nZ xs r then Sum.inr (env,xs)else Sum.inl false)
 |0,pre,r,h,hm=>by omega
 |m+1,pre,[],h,hm=>by
  show(cond (decide ((pre.length:Int)<(env.length:Int))) _ _)=_
  rw[decide_eq_false (by rw[h];simp),cond_false];rfl
 |m+1,pre,v::r,h,hm=>by
  have hlt:pre.length<env.length:=by rw[h];simp
  have hk:env[pre.length]=v:=by simp[h]
  have e0:cd n (m+1) (env,xs,env,(env.length:Int),(pre.length:Int))=(cond (decide ((pre.length:Int)<(env.length:Int))) (cond (aY (pre.length:Int) env.length) (cond ((env.getD ((pre.length:Int)).toNat (0:Int)) != (-1:Int)) ((cH n (xs,(env.getD ((pre.length:Int)).toNat (0:Int)))).bind fun r1=>(cond (!r1.2) (some (Sum.inl false)) (cd n m (env,r1.1,env,(env.length:Int),(IntKind.i64.wrap ((pre.length:Int)+(1:Int))))))) (cd n m (env,xs,env,(env.length:Int),(IntKind.i64.wrap ((pre.length:Int)+(1:Int)))))) none) (some (Sum.inr (env,xs)))):=rfl
  rw[e0,decide_eq_true (by omega:(pre.length:Int)<(env.length:Int)),cond_true,ax hlt,cond_true,Int.toNat_natCast,fc hlt,hk,ap hlt he,mi n hx]
  have ih:=s7 n hx he m (pre++[v]) r (by simpa using h) (by simp at hm;omega)
  rw[show(pre++[v]).length=pre.length+1 by simp]at ih
  simp only[Option.bind_some,ih]
  rw[show nZ xs (v::r)=((v == -1 || gM xs v)&&nZ xs r)from rfl,show(v != -1) = !(v == -1)from rfl]
  cases v == -1<;>cases gM xs v<;>cases nZ xs r<;>rfl
theorem rV (n:Nat) (hn:4294967296<n){xs:List ac}(hx:xs.length≤4294967296){env:List Int}(he:env.length≤4294967296) :
  kB n (xs,env)=some (nZ xs env&&(decide (env.length=26)&&(decide (xs.length≤500)&&cF n [] xs))):=by
 have:=s7 n hx he n [] env rfl (by omega)
 rw[show(([]:List Int).length:Int)=(0:Int)from rfl]at this
 show((cd n n (env,xs,env,(env.length:Int),(0:Int))).bind _)=_
 rw[this]
 cases nZ xs env with
 |false=>rfl
 |true =>
  show(cond ((env.length:Int)==(26:Int)) ((d9 n xs).bind fun r5=>some r5) (some false))=_
  rw[pR n hn hx]
  by_cases q:env.length=26
  ·rw[show((env.length:Int)==(26:Int))=true by rw[q];rfl,decide_eq_true q];rfl
  ·rw[show((env.length:Int)==(26:Int))=false by simp;omega,decide_eq_false q];rfl
theorem sE (n:Nat){xs:List ac}(hx:xs.length≤4294967296){env:List Int}(he:env.length=26):∀(m:Nat) (pre r:List Int),env=pre++r→r.length<m →
  bK n m (env,xs,(pre.length:Int))=some (bif nZ xs r then Sum.inr ()else Sum.inl false)
 |0,pre,r,h,hm=>by omega
 |m+1,pre,[],h,hm=>by
  show(cond (decide ((pre.length:Int)<(26:Int))) _ _)=_
  have:pre.length=26:=by rw[h]at he;simpa using he
  rw[decide_eq_false (by omega),cond_false];rfl
 |m+1,pre,v::r,h,hm=>by
  have hlt:pre.length<env.length:=by rw[h];simp
  have hk:env[pre.length]=v:=by simp[h]
  have e0:bK n (m+1) (env,xs,(pre.length:Int))=(cond (decide ((pre.length:Int)<(26:Int))) (cond (aY (pre.length:Int) env.length) (cond ((env.getD ((pre.length:Int)).toNat (0:Int)) != (-1:Int)) (cond (aY (pre.length:Int) env.length) ((fh n (xs,(env.getD ((pre.length:Int)).toNat (0:Int)))).bind fun r1=>(cond (!r1) (some (Sum.inl false)) (bK n m (env,xs,(IntKind.i64.wrap ((pre.length:Int)+(1:Int))))))) none) (bK n m (env,xs,(IntKind.i64.wrap ((pre.length:Int)+(1:Int)))))) none) (some (Sum.inr ()))):=rfl
  rw[e0,decide_eq_true (by omega:(pre.length:Int)<(26:Int)),cond_true,ax hlt,cond_true,cond_true,Int.toNat_natCast,fc hlt,hk,ap hlt (by omega),w6 n hx]
  have ih:=sE n hx he m (pre++[v]) r (by simpa using h) (by simp at hm;omega)
  rw[show(pre++[v]).length=pre.length+1 by simp]at ih
  simp only[Option.bind_some,ih]
  rw[show nZ xs (v::r)=((v == -1 || gM xs v)&&nZ xs r)from rfl,show(v != -1) = !(v == -1)from rfl]
  cases v == -1<;>cases gM xs v<;>cases nZ xs r<;>rfl
theorem Cp (n:Nat) (hn:4294967296<n){xs:List ac}(hx:xs.length≤4294967296){env:List Int}:mX n (xs,env)=some (decide (env.length=26)&&nZ xs env):=by
 show(cond ((env.length:Int) != (26:Int)) (some false) ((bK n n (env,xs,(0:Int))).bind _))=_
 by_cases q:env.length=26
 ·have:=sE n hx q n [] env rfl (by omega)
  rw[show(([]:List Int).length:Int)=(0:Int)from rfl]at this
  rw[show((env.length:Int) != (26:Int))=false by rw[q];rfl,cond_false,this,decide_eq_true q]
  cases nZ xs env<;>rfl
 ·rw[show((env.length:Int) != (26:Int))=true by simp;omega,decide_eq_false q];rfl
theorem I4{w p:Int}{L:Nat}(h1:(d6 N0 (w,p)).map (fun r=>(r.1.length,r.2))=some (L,true)) (h2:(de N0 (w,p)).map List.length=some L) (h3:fU N0 (w,p)=some true) (h4:L≤20) :
  ∃a b,d6 N0 (w,p)=some (a,true)∧de N0 (w,p)=some b∧a.length=b.length∧a.length≤20∧fU N0 (w,p)=some true:=by
 cases e1:d6 N0 (w,p)with
 |none=>rw[e1]at h1;cases h1
 |some r =>
  cases e2:de N0 (w,p)with
  |none=>rw[e2]at h2;cases h2
  |some b =>
   rw[e1]at h1
   rw[e2]at h2
   obtain⟨g1,g2⟩:=Prod.mk.inj (Option.some.inj h1)
   have g3:b.length=L:=Option.some.inj h2
   obtain⟨a,t⟩:=r
   have g2:t=true:=g2
   subst g2
   exact⟨a,b,rfl,rfl,by rw[g3];exact g1,by have:a.length=L:=g1;omega,h3⟩
theorem I5 (w p:Int) (hw:w=1∨w=2∨w=3) (hp:p=0∨p=1):∃a b,d6 N0 (w,p)=some (a,true)∧de N0 (w,p)=some b∧a.length=b.length∧a.length≤20∧fU N0 (w,p)=some true:=by
 rcases hw with rfl|rfl|rfl<;>rcases hp with rfl|rfl
 all_goals exact I4 (L:=5) (by kernel_rfl) (by kernel_rfl) (by kernel_rfl) (by omega)
theorem AX (w p:Int) (h:¬((w=1∨w=2∨w=3)∧(p=0∨p=1))):d6 N0 (w,p)=some ([],false)∧fU N0 (w,p)=some false:=by
 constructor
 ·have e1:gm N0 (w,p)=some (⟨#[]⟩:ByteArray):=by
   unfold gm
   simp only[eE,Option.bind_some]
   by_cases h1:decide (w≥1)&&decide (w≤3)
   ·rw[h1]
    have h2:(decide (p≥0)&&decide (p≤1))=false:=by
     rw[Bool.eq_false_iff]
     intro h2
     simp at h1 h2
     omega
    rw[h2];rfl
   ·rw[Bool.not_eq_true]at h1
    rw[h1];rfl
  show((gm N0 (w,p)).bind _)=_
  rw[e1]
  show((gZ N0 (⟨#[]⟩:ByteArray)).bind fun r2=>some (r2.1,r2.2))=_
  rw[show gZ N0 (⟨#[]⟩:ByteArray)=some ([],false)by kernel_rfl];rfl
 ·have e1:fi N0 (w,p)=some (⟨#[]⟩:ByteArray):=by
   unfold fi
   have q:∀a b:Int,(w==a)=decide (w=a):=fun a b=>rfl
   by_cases w1:w=1
   ·subst w1
    have p0:(p==0)=false:=by simp;omega
    have p1:(p==1)=false:=by simp;omega
    simp only[p0,p1];rfl
   ·by_cases w2:w=2
    ·subst w2
     have p0:(p==0)=false:=by simp;omega
     have p1:(p==1)=false:=by simp;omega
     simp only[p0,p1];rfl
    ·by_cases w3:w=3
     ·subst w3
      have p0:(p==0)=false:=by simp;omega
      have p1:(p==1)=false:=by simp;omega
      simp only[p0,p1];rfl
     ·have e1:(w==1)=false:=by simpa using w1
      have e2:(w==2)=false:=by simpa using w2
      have e3:(w==3)=false:=by simpa using w3
      simp only[e1,e2,e3];rfl
  show((fi N0 (w,p)).bind fun r1=>some (!jr r1 (⟨#[]⟩:ByteArray)))=_
  rw[e1]
  show some (!jr (⟨#[]⟩:ByteArray) (⟨#[]⟩:ByteArray))=_
  rw[show jr (⟨#[]⟩:ByteArray) (⟨#[]⟩:ByteArray)=true from decide_eq_true rfl];rfl
theorem tH (n:Nat) (x:Int):iv n x=some (decide (x≥0)&&decide (x≤4)):=by
 show((aQ n (x,(0:Int),(4:Int))).bind fun r=>some r)=_
 rw[eE];rfl
theorem FF (n:Nat) (x:Int):jt n x=some (decide (x≥0)&&decide (x≤4)):=tH n x
theorem n0:4294967296<N0:=by decide
def DU (n:Nat) (x:List ac×Int×Int×Int×Int×Int×List Int×Bool×Bool×Int):Option Bool:=(gS n x.1).bind fun r1=>(cond r1 ((fV n (x.1,x.2.1,x.2.2.1,x.2.2.2.1,x.2.2.2.2.1,x.2.2.2.2.2.1,x.2.2.2.2.2.2.1,x.2.2.2.2.2.2.2.1,x.2.2.2.2.2.2.2.2.1,x.2.2.2.2.2.2.2.2.2)).bind fun r2=>(some r2)) (some false))
theorem CW{xs:List ac}(hx:xs.length≤4294967296){w p a b at_:Int}{env:List Int}(he:env.length≤4294967296){dn dd:Bool}{key:Int} :
  ∃v,fT N0 (xs,w,p,a,b,at_,env,dn,dd,key)=some v∧DU N0 (xs,w,p,a,b,at_,env,dn,dd,key)=some v:=by
 unfold fT DU fV
 simp only[py N0 n0 hx,rV N0 n0 hx he,Cp N0 n0 hx,tH,FF,Option.bind_some]
 by_cases hr:(w=1∨w=2∨w=3)∧(p=0∨p=1)
 ·obtain⟨ra,rb,r1,r2,r3,r4,r5⟩:=I5 w p hr.1 hr.2
  rw[r1,r2,r5]
  simp only[Option.bind_some,eE,wZ,mi N0 hx,w6 N0 hx, ←r3,cC (show -9223372036854775808≤(ra.length:Int)-1 by omega) (show(ra.length:Int)-1≤9223372036854775807 by omega)]
  generalize (decide (a≥0)&&decide (a≤4))=A
  generalize (decide (b≥0)&&decide (b≤4))=B
  generalize (a==b)=C
  generalize nZ xs env=D
  generalize decide (env.length=26)=F
  generalize (decide (xs.length≤500)&&cF N0 [] xs)=G
  generalize gM xs key=H
  generalize (key == -1)=K
  have hq:(at_==(ra.length:Int))=true→(decide (at_≥0)&&decide (at_≤(ra.length:Int)))=true:=by
   intro h
   have:at_=(ra.length:Int):=by simpa using h
   simp;omega
  have hq2:(at_==(ra.length:Int))=false→(decide (at_≥0)&&decide (at_≤(ra.length:Int)-1))=(decide (at_≥0)&&decide (at_≤(ra.length:Int))):=by
   intro h
   have:at_≠(ra.length:Int):=by simpa using h
   congr 1
   rw[Bool.eq_iff_iff];simp;omega
  have hq3:(at_==(ra.length:Int))=true→(decide (at_≥0)&&decide (at_≤(ra.length:Int)-1))=false:=by
   intro h
   have:at_=(ra.length:Int):=by simpa using h
   rw[Bool.and_eq_false_iff];right;simp;omega
  revert hq hq2 hq3
  generalize (at_==(ra.length:Int))=M
  generalize (decide (at_≥0)&&decide (at_≤(ra.length:Int)))=R
  generalize (decide (at_≥0)&&decide (at_≤(ra.length:Int)-1))=R2
  intro hq hq2 hq3
  cases M
  ·have:=hq2 rfl
   subst this
   refine⟨A&&(B&&(!C&&(D&&(F&&(G&&(R2&&(!dn&&K))))))),?_,?_⟩<;>clear hq hq2 hq3<;>revert A B C D F G H K R2 dn dd<;>decide
  ·have h1:=hq rfl
   have h2:=hq3 rfl
   subst h1;subst h2
   refine⟨A&&(B&&(!C&&(D&&(F&&(G&&(dn&&(!dd&&H))))))),?_,?_⟩<;>clear hq hq2 hq3<;>revert A B C D F G H K dn dd<;>decide
 ·obtain⟨r1,r2⟩:=AX w p hr
  rw[r1,r2]
  refine⟨false,rfl,?_⟩
  cases(decide (xs.length≤500)&&cF N0 [] xs)<;>rfl
theorem ED (n:Nat){xs:List ac}(hx:xs.length≤9223372036854775807):ll n (xs,(1048576:Int))=some (if xs.length≤1048576 then(1048576:Int)-(xs.length:Int)else -1):=by
 unfold ll l6
 simp only[cC (show -9223372036854775808≤(1048576:Int)-(xs.length:Int)by omega) (show(1048576:Int)-(xs.length:Int)≤9223372036854775807 by omega)]
 by_cases q:xs.length≤1048576
 ·rw[if_pos q,decide_eq_false (by omega:¬(1048576:Int)-(xs.length:Int)<(0:Int))]
  simp only[cond_false,Option.bind_some]
  rw[decide_eq_false (by omega:¬(1048576:Int)-(xs.length:Int)<(0:Int))];rfl
 ·rw[if_neg q,decide_eq_true (by omega:(1048576:Int)-(xs.length:Int)<(0:Int))];rfl
theorem EE (n:Nat){w p a b at_:Int}{env:List Int}{dn dd:Bool}{key r:Int}(hr:0≤r∧r≤1048576) (he:env.length≤9223372036854775807):lm n (w,p,a,b,at_,env,dn,dd,key,r)=some (if(env.length:Int)≤r then r-(env.length:Int)else -1):=by
 unfold lm eV
 simp only[cC (show -9223372036854775808≤r-(env.length:Int)by omega) (show r-(env.length:Int)≤9223372036854775807 by omega)]
 by_cases q:(env.length:Int)≤r
 ·rw[if_pos q,decide_eq_false (by omega:¬r-(env.length:Int)<(0:Int))]
  simp only[cond_false,Option.bind_some]
  rw[decide_eq_false (by omega:¬r-(env.length:Int)<(0:Int))];rfl
 ·rw[if_neg q,decide_eq_true (by omega:r-(env.length:Int)<(0:Int))];rfl
theorem kx:maxLen=9223372036854775807:=by decide
def bA (g:Nat→Bool):Nat→Nat→Bool
 |_,0=>true
 |i,k+1=>g i&&bA g (i+1) k
theorem cK{g:Nat→Bool}:∀{k i:Nat},bA g i k=true↔∀j,i≤j→j<i+k→g j=true
 |0,i=>⟨fun _ j h1 h2=>by omega,fun _=>rfl⟩
 |k+1,i=>by
  show(g i&&bA g (i+1) k)=true↔_
  rw[Bool.and_eq_true,cK]
  constructor
  ·rintro ⟨h1,h2⟩ j g1 g2
   rcases Nat.eq_or_lt_of_le g1 with q|q
   ·subst q;exact h1
   ·exact h2 j q (by omega)
  ·exact fun h=>⟨h i (Nat.le_refl _) (by omega),fun j g1 g2=>h j (by omega) (by omega)⟩
theorem qp {α:Type} [DecidableEq α]:∀{l m:List α},l.Nodup→(∀x∈l,x∈m)→l.length≤m.length
 |[],m,_,_=>Nat.zero_le _
 |a::l,m,hn,hs=>by
  have ha:=hs a (List.mem_cons_self ..)
  have hn':=List.nodup_cons.1 hn
  have:=qp (l:=l) (m:=m.erase a) hn'.2 (fun x hx=>(List.mem_erase_of_ne (fun(e:x=a)=>hn'.1 (e▸hx))).2 (hs x (List.mem_cons_of_mem _ hx)))
  rw[List.length_erase_of_mem ha]at this
  have:0<m.length:=List.length_pos_of_mem ha
  simp;omega
theorem CO {α:Type} [DecidableEq α]{l m:List α}(hl:l.Nodup) (hm:m.Nodup) (hs:∀x∈l,x∈m):(∀x∈m,x∈l)↔l.length=m.length:=by
 constructor
 ·exact fun h=>Nat.le_antisymm (qp hl hs) (qp hm h)
 ·intro h x hx
  exact Classical.byContradiction fun hn=>by
   have:=qp (l:=x::l) (m:=m) (List.nodup_cons.2 ⟨hn,hl⟩) (fun y hy=>by
    rcases List.mem_cons.1 hy with q|q
    ·exact q▸hx
    ·exact hs y q)
   simp at this;omega
def places (d:Nat→Bool) (n:Nat):List Nat:=(List.range n).filter d
theorem zF (d:Nat→Bool) (n:Nat):(places d n).Nodup:=List.nodup_range.filter _
theorem rQ{d:Nat→Bool}{n i:Nat}:i∈places d n↔i<n∧d i=true:=by
 unfold places
 rw[List.mem_filter,List.mem_range]
theorem Ba (d:Nat→Bool) (n:Nat):(places d (n+1)).length=(places d n).length+(bif d n then 1 else 0):=by
 unfold places
 rw[List.range_succ,List.filter_append,List.length_append]
 cases h:d n<;>simp[h]
theorem GJ (done:Nat→Bool) (n:Nat) (L:List Int) (hnd:L.Nodup) (hin:∀k∈L, ∃i:Nat,k=(i:Int)∧i<n∧done i=true):(∀i:Nat,i<n→done i=true→(i:Int)∈L)↔L.length=(places done n).length:=by
 have hm:((places done n).map Int.ofNat).Nodup:=List.pairwise_map.2 ((zF done n).imp fun hne e=>hne (Int.ofNat.inj e))
 have:=CO hnd hm (fun k hk=>by
  obtain⟨i,rfl,h1,h2⟩:=hin k hk
  exact List.mem_map.2 ⟨i,rQ.2 ⟨h1,h2⟩,rfl⟩)
 rw[List.length_map]at this
 rw[←this]
 constructor
 ·intro h x hx
  obtain⟨i,hi,rfl⟩:=List.mem_map.1 hx
  have:=rQ.1 hi
  exact h i this.1 this.2
 ·intro h i h1 h2
  exact h _ (List.mem_map.2 ⟨i,rQ.2 ⟨h1,h2⟩,rfl⟩)
theorem CN{L:List Int}:L.Nodup↔∀i,i<L.length→∀j,j<i→L.getD j 0≠L.getD i 0:=by
 rw[List.Nodup,List.pairwise_iff_getElem]
 constructor
 ·intro h i hi j hj
  rw[fc hi,fc (by omega)]
  exact h j i (by omega) hi hj
 ·intro h i j hi hj hij
  have:=h j hj i hij
  rw[fc hi,fc hj]at this
  exact this
abbrev cg:=Int×(Int×(Int×(Int×(Int×((List Int)×(Bool×(Bool×Int)))))))
abbrev bU:=Int×(Bool×Bool)
abbrev zI:cg:=((0:Int),((0:Int),((0:Int),((0:Int),((0:Int),([],(false,(false,(0:Int)))))))))
abbrev zC:bU:=((0:Int),(false,false))
theorem bE{X A B:Type}(L:Nat→X→Option (A⊕B)) (st:Nat→X) (g:Nat→Bool) (bad:A) (fin:B) (len:Nat)
  (step:∀m i,i<len→L (m+1) (st i)=bif g i then L m (st (i+1))else some (.inl bad)) (stop:∀m,L (m+1) (st len)=some (.inr fin)) :
  ∀m i,i≤len→len<m+i→L m (st i)=some (bif bA g i (len-i)then .inr fin else .inl bad)
 |0,i,h1,h2=>by omega
 |m+1,i,h1,h2=>by
  rcases Nat.eq_or_lt_of_le h1 with q|q
  ·subst q
   rw[stop,Nat.sub_self];rfl
  ·rw[step m i q,show len-i=(len-(i+1))+1 by omega]
   show(bif g i then _ else _)=some (bif g i&&bA g (i+1) (len-(i+1))then _ else _)
   cases g i with
   |false=>rfl
   |true=>exact bE L st g bad fin len step stop m (i+1) q (by omega)
theorem ql{i:Nat}(h:0<i) (hi:i≤4294967296):IntKind.i64.wrap ((i:Int)-(1:Int))=((i-1:Nat):Int):=by
 rw[cC (by omega) (by omega)];omega
theorem GE (i n:Nat):decide ((i:Int)<(n:Int))=decide (i<n):=by
 rw[Bool.eq_iff_iff];simp
theorem gV{i n:Nat}(h:i<n):decide ((i:Int)<(n:Int))=true:=decide_eq_true (by omega)
theorem gW (n:Nat):decide ((n:Int)<(n:Int))=false:=decide_eq_false (by omega)
def dO (l:List Int) (j:Nat):Bool:=decide (j=0) || decide (l.getD (j-1) 0<l.getD j 0)
def gY (xs:List ac) (k:List Int) (j:Nat):Bool:=gM xs (k.getD j 0)&&dO k j
theorem GT{i:Nat}(h:0<i):decide ((i:Int)>(0:Int))=true:=decide_eq_true (by omega)
theorem yA (a b:Int):decide (a≤b) = !decide (b<a):=by
 rw[Bool.eq_iff_iff];simp
theorem yJ (a b:Int):decide (a≥b) = !decide (a<b):=by
 rw[Bool.eq_iff_iff];simp
theorem xP{xs:List ac}(hx:xs.length≤4294967296){k:List Int}(hk:k.length≤4294967296) (m i:Nat) (hi:i<k.length) :
  br N0 (m+1) (k,xs,k,(k.length:Int),(i:Int))=bif gY xs k i then br N0 m (k,xs,k,(k.length:Int),((i+1:Nat):Int))else some (.inl false):=by
 rw[br]
 dsimp only
 rw[gV hi,cond_true,ax hi,cond_true,mi N0 hx]
 simp only[Option.bind_some,Int.toNat_natCast,ap hi hk]
 unfold gY dO
 cases gM xs (k.getD i 0)with
 |false=>rfl
 |true =>
  rcases Nat.eq_zero_or_pos i with q|q
  ·subst q;rfl
  ·rw[GT q,cond_true,ql q (by omega),ax (by omega),cond_true,Int.toNat_natCast,yA,decide_eq_false (by omega:¬i=0)]
   cases decide (k.getD (i-1) 0<k.getD i 0)<;>rfl
theorem BG{xs:List ac}(hx:xs.length≤4294967296){k:List Int}(hk:k.length≤4294967296) :
  ni N0 (xs,k)=some (bA (gY xs k) 0 k.length&&(decide (k.length≤200)&&(decide (xs.length≤500)&&cF N0 [] xs))):=by
 have:=bE (br N0) (fun i=>(k,xs,k,(k.length:Int),(i:Int))) (gY xs k) false (k,xs) k.length (xP hx hk) (fun m=>by
  rw[br];dsimp only;rw[gW];rfl) N0 0 (Nat.zero_le _) (by have:=n0;omega)
 rw[Nat.sub_zero]at this
 show((br N0 N0 (k,xs,k,(k.length:Int),(0:Int))).bind _)=_
 rw[show br N0 N0 (k,xs,k,(k.length:Int),(0:Int))=_ from this]
 cases bA (gY xs k) 0 k.length with
 |false=>rfl
 |true =>
  show(cond (decide ((k.length:Int)≤(200:Int))) ((d9 N0 xs).bind fun r5=>some r5) (some false))=_
  rw[pR N0 n0 hx]
  by_cases q:k.length≤200
  ·rw[decide_eq_true (by omega:(k.length:Int)≤(200:Int)),decide_eq_true q];rfl
  ·rw[decide_eq_false (by omega:¬(k.length:Int)≤(200:Int)),decide_eq_false q];rfl
theorem xF{xs:List ac}(hx:xs.length≤4294967296){k:List Int}(hk:k.length≤4294967296) (m i:Nat) (hi:i<k.length) :
  bn N0 (m+1) (k,xs,(i:Int))=bif gY xs k i then bn N0 m (k,xs,((i+1:Nat):Int))else some (.inl false):=by
 rw[bn]
 dsimp only
 rw[gV hi,cond_true,ax hi,cond_true,w6 N0 hx]
 simp only[Option.bind_some,Int.toNat_natCast,ap hi hk]
 unfold gY dO
 cases gM xs (k.getD i 0)with
 |false=>rfl
 |true =>
  rcases Nat.eq_zero_or_pos i with q|q
  ·subst q;rfl
  ·rw[GT q,cond_true,ql q (by omega),ax (by omega),cond_true,Int.toNat_natCast,yJ,decide_eq_false (by omega:¬i=0)]
   cases decide (k.getD (i-1) 0<k.getD i 0)<;>rfl
theorem AR{xs:List ac}(hx:xs.length≤4294967296){k:List Int}(hk:k.length≤4294967296) :
  mY N0 (xs,k)=some (bA (gY xs k) 0 k.length&&(decide (k.length≤200)&&(decide (xs.length≤500)&&cF N0 [] xs))):=by
 have:=bE (bn N0) (fun i=>(k,xs,(i:Int))) (gY xs k) false () k.length (xF hx hk) (fun m=>by
  rw[bn];dsimp only;rw[gW];rfl) N0 0 (Nat.zero_le _) (by have:=n0;omega)
 rw[Nat.sub_zero]at this
 have e:ld N0 (xs,k)=some (decide (k.length≤200)&&bA (gY xs k) 0 k.length):=by
  show(cond (decide ((k.length:Int)>(200:Int))) (some false) ((bn N0 N0 (k,xs,(0:Int))).bind _))=_
  rw[show bn N0 N0 (k,xs,(0:Int))=_ from this]
  by_cases q:k.length≤200
  ·rw[decide_eq_false (by omega:¬(k.length:Int)>(200:Int)),decide_eq_true q]
   cases bA (gY xs k) 0 k.length<;>rfl
  ·rw[decide_eq_true (by omega:(k.length:Int)>(200:Int)),decide_eq_false q];rfl
 show((gS N0 xs).bind fun r1=>(cond r1 ((ld N0 (xs,k)).bind fun r2=>(some r2)) (some false)))=_
 rw[py N0 n0 hx,e]
 generalize (decide (xs.length≤500)&&cF N0 [] xs)=P
 generalize bA (gY xs k) 0 k.length=Q
 generalize decide (k.length≤200)=R
 cases P<;>cases Q<;>cases R<;>rfl
theorem Ig{k:List Int}(hk:k.length≤4294967296) (m i:Nat) (h0:0<i) (hi:i<k.length) :
  ay N0 (m+1) (k,(i:Int))=bif dO k i then ay N0 m (k,((i+1:Nat):Int))else some (.inl false):=by
 rw[ay]
 dsimp only
 rw[gV hi,cond_true,ax hi,cond_true,ql h0 (by omega),ax (by omega),cond_true,Int.toNat_natCast,Int.toNat_natCast,ap hi hk,yA]
 unfold dO
 rw[decide_eq_false (by omega:¬i=0)]
 cases decide (k.getD (i-1) 0<k.getD i 0)<;>rfl
theorem w4{k:List Int}(hk:k.length≤4294967296):fI N0 k=some (bA (dO k) 0 k.length):=by
 have h0:∀m,ay N0 (m+1) (k,(k.length:Int))=some (.inr ()):=fun m=>by
  rw[ay];dsimp only;rw[gW];rfl
 show((ay N0 N0 (k,(1:Int))).bind _)=_
 rcases Nat.eq_zero_or_pos k.length with q|q
 ·have:k=[]:=List.eq_nil_of_length_eq_zero q
  subst this
  rfl
 ·have:=bE (ay N0) (fun i=>(k,((i+1:Nat):Int))) (fun i=>dO k (i+1)) false () (k.length-1) (fun m i hi=>Ig hk m (i+1) (Nat.succ_pos i) (by omega)) (fun m=>by
   rw[show k.length-1+1=k.length by omega];exact h0 m) N0 0 (Nat.zero_le _) (by have:=n0;omega)
  rw[show ay N0 N0 (k,(1:Int))=_ from this]
  have e:bA (fun i=>dO k (i+1)) 0 (k.length-1-0)=bA (dO k) 0 k.length:=by
   rw[Bool.eq_iff_iff,cK,cK]
   constructor
   ·intro h j h1 h2
    rcases Nat.eq_zero_or_pos j with z|z
    ·subst z;rfl
    ·have:=h (j-1) (Nat.zero_le _) (by omega)
     rw[show j-1+1=j by omega]at this
     exact this
   ·intro h j h1 h2
    exact h (j+1) (Nat.zero_le _) (by omega)
  rw[e]
  cases bA (dO k) 0 k.length<;>rfl
def s5 (lo hi v:Int):Bool:=decide (v≥lo)&&decide (v≤hi)
theorem FD{k:List Int}(hk:k.length≤4294967296) (lo hi:Int) (m i:Nat) (hl:i<k.length) :
  bo N0 (m+1) (k,lo,hi,(i:Int))=bif s5 lo hi (k.getD i 0)&&dO k i then bo N0 m (k,lo,hi,((i+1:Nat):Int))else some (.inl false):=by
 rw[bo]
 dsimp only
 rw[gV hl,cond_true,ax hl,cond_true,wZ]
 simp only[Option.bind_some,Int.toNat_natCast,ap hl hk]
 rw[show(decide (k.getD i 0≥lo)&&decide (k.getD i 0≤hi))=s5 lo hi (k.getD i 0)from rfl]
 unfold dO
 cases s5 lo hi (k.getD i 0)with
 |false=>rfl
 |true =>
  rcases Nat.eq_zero_or_pos i with q|q
  ·subst q;rfl
  ·rw[GT q,cond_true,ql q (by omega),ax (by omega),cond_true,Int.toNat_natCast,yJ,decide_eq_false (by omega:¬i=0)]
   cases decide (k.getD (i-1) 0<k.getD i 0)<;>rfl
theorem wb{k:List Int}(hk:k.length≤4294967296) (lo hi:Int):lf N0 (k,lo,hi)=some (bA (fun j=>s5 lo hi (k.getD j 0)&&dO k j) 0 k.length):=by
 have:=bE (bo N0) (fun i=>(k,lo,hi,(i:Int))) (fun j=>s5 lo hi (k.getD j 0)&&dO k j) false () k.length (FD hk lo hi) (fun m=>by
  rw[bo];dsimp only;rw[gW];rfl) N0 0 (Nat.zero_le _) (by have:=n0;omega)
 rw[Nat.sub_zero]at this
 show((bo N0 N0 (k,lo,hi,(0:Int))).bind _)=_
 rw[show bo N0 N0 (k,lo,hi,(0:Int))=_ from this]
 cases bA (fun j=>s5 lo hi (k.getD j 0)&&dO k j) 0 k.length<;>rfl
def gg (l:List Int) (v:Int):Bool := !bA (fun j => !(l.getD j 0==v)) 0 l.length
theorem mA{k:List Int}(hk:k.length≤4294967296) (v:Int):dV N0 (k,v)=some (gg k v):=by
 have:=bE (bH N0) (fun i=>(k,v,(i:Int))) (fun j => !(k.getD j 0==v)) true () k.length (fun m i hi=>by
  rw[bH];dsimp only
  rw[gV hi,cond_true,ax hi,cond_true,Int.toNat_natCast,ap hi hk]
  cases(k.getD i 0==v)<;>rfl) (fun m=>by
  rw[bH];dsimp only;rw[gW];rfl) N0 0 (Nat.zero_le _) (by have:=n0;omega)
 rw[Nat.sub_zero]at this
 show((bH N0 N0 (k,v,(0:Int))).bind _)=_
 rw[show bH N0 N0 (k,v,(0:Int))=_ from this]
 unfold gg
 cases bA (fun j => !(k.getD j 0==v)) 0 k.length<;>rfl
theorem ug{l:List Int}{v:Int}:gg l v=true↔∃j,j<l.length∧l.getD j 0=v:=by
 unfold gg
 rw[Bool.not_eq_true',Bool.eq_false_iff,ne_eq,cK]
 constructor
 ·intro h
  refine Classical.byContradiction fun h2=>h fun j _ hj=>?_
  have:¬l.getD j 0=v:=fun e=>h2 ⟨j,by omega,e⟩
  simpa using this
 ·rintro ⟨j,h1,h2⟩ h
  have:=h j (Nat.zero_le _) (by omega)
  rw[h2]at this
  simp at this
abbrev kI:Ty := .int .i64
abbrev nH (x:cg):List Int:=x.2.2.2.2.2.1
def dn (x:cg):Bool:=x.2.2.2.2.2.2.1
structure Small (xs:List ac) (kn:List Int) (li:List cg) (gv sh:List Int) (lg:List bU):Prop where
 fx:xs.length≤4294967296
 fk:kn.length≤4294967296
 fl:li.length≤4294967296
 fg:gv.length≤4294967296
 fs:sh.length≤4294967296
 fo:lg.length≤4294967296
 fe:∀i,i<li.length→(nH (li.getD i zI)).length≤4294967296
def oX (xs:List ac) (x:cg):Bool:=(fT N0 (xs,x.1,x.2.1,x.2.2.1,x.2.2.2.1,x.2.2.2.2.1,x.2.2.2.2.2.1,x.2.2.2.2.2.2.1,x.2.2.2.2.2.2.2.1,x.2.2.2.2.2.2.2.2)).getD false
theorem uc{xs:List ac}(hx:xs.length≤4294967296){x:cg}(he:(nH x).length≤4294967296) :
  fT N0 (xs,x.1,x.2.1,x.2.2.1,x.2.2.2.1,x.2.2.2.2.1,x.2.2.2.2.2.1,x.2.2.2.2.2.2.1,x.2.2.2.2.2.2.2.1,x.2.2.2.2.2.2.2.2)=some (oX xs x) ∧
  DU N0 (xs,x.1,x.2.1,x.2.2.1,x.2.2.2.1,x.2.2.2.2.1,x.2.2.2.2.2.1,x.2.2.2.2.2.2.1,x.2.2.2.2.2.2.2.1,x.2.2.2.2.2.2.2.2)=some (oX xs x):=by
 obtain⟨v,h1,h2⟩:=CW hx (w:=x.1) (p:=x.2.1) (a:=x.2.2.1) (b:=x.2.2.2.1) (at_:=x.2.2.2.2.1) (env:=x.2.2.2.2.2.1) he (dn:=x.2.2.2.2.2.2.1) (dd:=x.2.2.2.2.2.2.2.1) (key:=x.2.2.2.2.2.2.2.2)
 unfold oX
 rw[h1]
 exact⟨rfl,h2⟩
def cJ (xs:List ac):Bool:=decide (xs.length≤500)&&cF N0 [] xs
theorem Li{xs:List ac}(hx:xs.length≤4294967296){x:cg}(he:(nH x).length≤4294967296) (hP:cJ xs=true) :
  fV N0 (xs,x.1,x.2.1,x.2.2.1,x.2.2.2.1,x.2.2.2.2.1,x.2.2.2.2.2.1,x.2.2.2.2.2.2.1,x.2.2.2.2.2.2.2.1,x.2.2.2.2.2.2.2.2)=some (oX xs x):=by
 have h2:=(uc hx he).2
 have hP:(decide (xs.length≤500)&&cF N0 [] xs)=true:=hP
 rw[DU]at h2
 dsimp only at h2
 rw[py N0 n0 hx,hP]at h2
 simp only[Option.bind_some,cond_true]at h2
 cases hq:fV N0 (xs,x.1,x.2.1,x.2.2.1,x.2.2.2.1,x.2.2.2.2.1,x.2.2.2.2.2.1,x.2.2.2.2.2.2.1,x.2.2.2.2.2.2.2.1,x.2.2.2.2.2.2.2.2)with
 |none=>rw[hq]at h2;cases h2
 |some v=>rw[hq]at h2;exact h2
def eL (n:Int) (k:Int):Bool:=decide (k≥0)&&decide (k≤n-1)
def gK (li:List cg) (k:Int):Bool:=eL (li.length:Int) k&&dn (li.getD k.toNat zI)
theorem ei{li:List cg}{k:Int}(h:eL (li.length:Int) k=true):aY k li.length=true:=by
 unfold eL at h
 simp at h
 exact decide_eq_true ⟨by omega,by omega⟩
section
variable{xs:List ac}{kn:List Int}{li:List cg}{fr:Int}{gv sh:List Int}{lg:List bU}
theorem Fl (hl:li.length≤4294967296) (k:Int):eX N0 (xs,kn,li,fr,gv,sh,lg,k)=some (xs,kn,li,fr,gv,sh,lg,eL (li.length:Int) k):=by
 rw[eX]
 dsimp only
 rw[cC (by omega) (by omega),eE];rfl
theorem t8 (hl:li.length≤4294967296) (k:Int):di N0 (xs,kn,li,fr,gv,sh,lg,k)=some (xs,kn,li,fr,gv,sh,lg,gK li k):=by
 rw[di]
 dsimp only
 rw[Fl hl]
 simp only[Option.bind_some]
 unfold gK
 cases h:eL (li.length:Int) k with
 |false=>rfl
 |true =>
  rw[ei h];rfl
def lk (lg:List bU) (j:Nat):Int:=(lg.getD j zC).1
def qL (li:List cg) (lg:List bU) (i:Nat):Bool:=gK li (lk lg i)&&bA (fun j => !(lk lg j==lk lg i)) 0 i
def t4 (lg:List bU):Nat→List (Int×Int)
 |0=>[]
 |i+1=>kg kI (lk lg i) (IntKind.i64.wrap (eg kI (lk lg i) (t4 lg i)+(1:Int))) (t4 lg i)
def sm (lg:List bU) (k:Int):Nat→Nat
 |0=>0
 |i+1=>sm lg k i+(if lk lg i=k then 1 else 0)
theorem Ai (lg:List bU) (k:Int):∀i,sm lg k i≤i
 |0=>Nat.le_refl _
 |i+1=>by
  have:=Ai lg k i
  show sm lg k i+(if lk lg i=k then 1 else 0)≤i+1
  split<;>omega
theorem wP (lg:List bU) (k:Int):∀i,i≤4294967296→eg kI k (t4 lg i)=(sm lg k i:Int)
 |0,_=>rfl
 |i+1,h=>by
  have ih:=fun k=>wP lg k i (by omega)
  show eg kI k (kg kI (lk lg i) (IntKind.i64.wrap (eg kI (lk lg i) (t4 lg i)+(1:Int))) (t4 lg i))=((sm lg k i+(if lk lg i=k then 1 else 0):Nat):Int)
  by_cases q:lk lg i=k
  ·subst q
   rw[qq (nU kI rfl _),wP lg _ i (by omega),if_pos rfl]
   have:=Ai lg (lk lg i) i
   rw[cC (by omega) (by omega)];omega
  ·have hne:kI.eqv k (lk lg i)=false:=by
    rw[Bool.eq_false_iff]
    exact fun h=>q (ur kI h).symm
   rw[sR hne,wP lg k i (by omega),if_neg q,Nat.add_zero]
theorem uM (lg:List bU) (k:Int):∀i,sm lg k i=0↔∀j,j<i→lk lg j≠k
 |0=>⟨fun _ j h=>by omega,fun _=>rfl⟩
 |i+1=>by
  show sm lg k i+(if lk lg i=k then 1 else 0)=0↔_
  have ih:=uM lg k i
  by_cases q:lk lg i=k
  ·rw[if_pos q]
   exact⟨fun h=>by omega,fun h=>absurd q (h i (by omega))⟩
  ·rw[if_neg q,Nat.add_zero,ih]
   constructor
   ·intro h j hj
    rcases Nat.lt_or_ge j i with z|z
    ·exact h j z
    ·have:j=i:=by omega
     subst this;exact q
   ·exact fun h j hj=>h j (by omega)
theorem GH (hg:lg.length≤4294967296){i:Nat}(hi:i<lg.length):decide (eg kI (lk lg i) (t4 lg (i+1))>(1:Int)) = !bA (fun j => !(lk lg j==lk lg i)) 0 i:=by
 rw[wP lg _ (i+1) (by omega),show sm lg (lk lg i) (i+1)=sm lg (lk lg i) i+1 from by show _+(if _ then 1 else 0)=_;rw[if_pos rfl]]
 have hc:=Ai lg (lk lg i) i
 rw[Bool.eq_iff_iff,decide_eq_true_iff,Bool.not_eq_true',Bool.eq_false_iff,ne_eq,cK]
 have hz:=uM lg (lk lg i) i
 constructor
 ·intro h h2
  have:sm lg (lk lg i) i=0:=hz.2 fun j hj e=>by
   have:=h2 j (Nat.zero_le _) (by omega)
   rw[e]at this
   simp at this
  omega
 ·intro h
  have:sm lg (lk lg i) i≠0:=fun e=>h fun j _ hj=>by
   have:=hz.1 e j (by omega)
   simpa using this
  omega
def oH (li:List cg) (lg:List bU) (i:Nat):Bool := !dn (li.getD i zI) || !(((sm lg (i:Int) lg.length:Nat):Int)==(0:Int))
theorem GK (hl:li.length≤4294967296) (hg:lg.length≤4294967296):ep N0 (xs,kn,li,fr,gv,sh,lg)=some (xs,kn,li,fr,gv,sh,lg,bA (qL li lg) 0 lg.length&&bA (oH li lg) 0 li.length):=by
 have h1:=bE (aU N0) (fun i=>(xs,kn,li,fr,gv,sh,lg,t4 lg i,lg,(lg.length:Int),(i:Int))) (qL li lg) (xs,kn,li,fr,gv,sh,lg,false) (xs,kn,li,fr,gv,sh,lg,t4 lg lg.length) lg.length (fun m i hi=>by
  rw[aU];dsimp only
  rw[gV hi,cond_true,ax hi,cond_true,t8 hl]
  simp only[Option.bind_some,Int.toNat_natCast,ap hi hg]
  show(cond (!gK li (lk lg i)) (some (Sum.inl (xs,kn,li,fr,gv,sh,lg,false))) (cond (decide (eg kI (lk lg i) (t4 lg (i+1))>(1:Int))) (some (Sum.inl (xs,kn,li,fr,gv,sh,lg,false))) (aU N0 m (xs,kn,li,fr,gv,sh,lg,t4 lg (i+1),lg,(lg.length:Int),((i+1:Nat):Int)))))=_
  rw[GH hg hi]
  unfold qL
  cases gK li (lk lg i)with
  |false=>rfl
  |true =>
   cases bA (fun j => !(lk lg j==lk lg i)) 0 i<;>rfl) (fun m=>by
  rw[aU];dsimp only;rw[gW];rfl) N0 0 (Nat.zero_le _) (by have:=n0;omega)
 have h2:=bE (aF N0) (fun i=>(xs,kn,li,fr,gv,sh,lg,t4 lg lg.length,li,(li.length:Int),(i:Int))) (oH li lg) (xs,kn,li,fr,gv,sh,lg,false) (xs,kn,li,fr,gv,sh,lg) li.length (fun m i hi=>by
  rw[aF];dsimp only
  rw[gV hi,cond_true,ax hi,cond_true]
  simp only[Int.toNat_natCast,ap hi hl]
  rw[wP lg (i:Int) lg.length hg]
  unfold oH dn
  cases(li.getD i zI).2.2.2.2.2.2.1 with
  |false=>rfl
  |true=>cases(((sm lg (i:Int) lg.length:Nat):Int)==(0:Int))<;>rfl) (fun m=>by
  rw[aF];dsimp only;rw[gW];rfl) N0 0 (Nat.zero_le _) (by have:=n0;omega)
 rw[Nat.sub_zero]at h1 h2
 rw[ep]
 dsimp only
 rw[show aU N0 N0 (xs,kn,li,fr,gv,sh,lg,[],lg,(lg.length:Int),(0:Int))=_ from h1]
 cases bA (qL li lg) 0 lg.length with
 |false=>rfl
 |true =>
  show((aF N0 N0 (xs,kn,li,fr,gv,sh,lg,t4 lg lg.length,li,(li.length:Int),(0:Int))).bind _)=_
  rw[show aF N0 N0 (xs,kn,li,fr,gv,sh,lg,t4 lg lg.length,li,(li.length:Int),(0:Int))=_ from h2]
  cases bA (oH li lg) 0 li.length<;>rfl
def pP (xs:List ac) (li:List cg):Bool:=bA (fun i=>oX xs (li.getD i zI)) 0 li.length
def qF (gv:List Int):Bool:=bA (fun i=>s5 0 4 (gv.getD i 0)) 0 gv.length
def pA (li:List cg) (sh:List Int):Bool:=bA (fun i=>gK li (sh.getD i 0)) 0 sh.length
def rn (xs:List ac) (kn:List Int):Bool:=bA (gY xs kn) 0 kn.length&&(decide (kn.length≤200)&&cJ xs)
theorem zY (hs:Small xs kn li gv sh lg):eY N0 (xs,kn,li,fr,gv,sh,lg)=some (rn xs kn&&(decide (li.length≤8)&&(s5 0 8 fr&&(bA (dO gv) 0 gv.length&&(bA (dO sh) 0 sh.length&&(pP xs li&&(qF gv&&(pA li sh&&(bA (qL li lg) 0 lg.length&&bA (oH li lg) 0 li.length))))))))):=by
 have h1:=bE (bX N0) (fun i=>(xs,kn,li,fr,gv,sh,lg,li,(li.length:Int),(i:Int))) (fun i=>oX xs (li.getD i zI)) false (xs,kn,li,fr,gv,sh,lg) li.length (fun m i hi=>by
  rw[bX];dsimp only
  rw[gV hi,cond_true,ax hi,cond_true]
  simp only[Int.toNat_natCast,ap hi hs.fl]
  rw[(uc hs.fx (hs.fe i hi)).1]
  simp only[Option.bind_some]
  cases oX xs (li.getD i zI)<;>rfl) (fun m=>by
  rw[bX];dsimp only;rw[gW];rfl) N0 0 (Nat.zero_le _) (by have:=n0;have:=hs.fl;omega)
 have h2:=bE (bz N0) (fun i=>(xs,kn,li,fr,gv,sh,lg,gv,(gv.length:Int),(i:Int))) (fun i=>s5 0 4 (gv.getD i 0)) false (xs,kn,li,fr,gv,sh,lg) gv.length (fun m i hi=>by
  rw[bz];dsimp only
  rw[gV hi,cond_true,ax hi,cond_true,tH]
  simp only[Option.bind_some,Int.toNat_natCast,ap hi hs.fg]
  rw[show(decide (gv.getD i 0≥0)&&decide (gv.getD i 0≤4))=s5 0 4 (gv.getD i 0)from rfl]
  cases s5 0 4 (gv.getD i 0)<;>rfl) (fun m=>by
  rw[bz];dsimp only;rw[gW];rfl) N0 0 (Nat.zero_le _) (by have:=n0;have:=hs.fg;omega)
 have h3:=bE (bx N0) (fun i=>(xs,kn,li,fr,gv,sh,lg,sh,(sh.length:Int),(i:Int))) (fun i=>gK li (sh.getD i 0)) false (xs,kn,li,fr,gv,sh,lg) sh.length (fun m i hi=>by
  rw[bx];dsimp only
  rw[gV hi,cond_true,ax hi,cond_true,t8 hs.fl]
  simp only[Option.bind_some,Int.toNat_natCast,ap hi hs.fs]
  cases gK li (sh.getD i 0)<;>rfl) (fun m=>by
  rw[bx];dsimp only;rw[gW];rfl) N0 0 (Nat.zero_le _) (by have:=n0;have:=hs.fs;omega)
 rw[Nat.sub_zero]at h1 h2 h3
 rw[eY]
 dsimp only
 rw[BG hs.fx hs.fk,eE,w4 hs.fg,w4 hs.fs,
  show bX N0 N0 (xs,kn,li,fr,gv,sh,lg,li,(li.length:Int),(0:Int))=_ from h1]
 simp only[Option.bind_some]
 rw[show(bA (gY xs kn) 0 kn.length&&(decide (kn.length≤200)&&(decide (xs.length≤500)&&cF N0 [] xs)))=rn xs kn from rfl,
  show(decide (fr≥0)&&decide (fr≤8))=s5 0 8 fr from rfl,show bA (fun i=>oX xs (li.getD i zI)) 0 li.length=pP xs li from rfl]
 cases rn xs kn with
 |false=>rfl
 |true =>
  by_cases q:li.length≤8
  ·rw[decide_eq_false (by omega:¬(li.length:Int)>(8:Int)),decide_eq_true q]
   cases s5 0 8 fr with
   |false=>rfl
   |true =>
    cases bA (dO gv) 0 gv.length with
    |false=>rfl
    |true =>
     cases bA (dO sh) 0 sh.length with
     |false=>rfl
     |true =>
      cases pP xs li with
      |false=>rfl
      |true =>
       show((bz N0 N0 (xs,kn,li,fr,gv,sh,lg,gv,(gv.length:Int),(0:Int))).bind _)=_
       rw[show bz N0 N0 (xs,kn,li,fr,gv,sh,lg,gv,(gv.length:Int),(0:Int))=_ from h2,show bA (fun i=>s5 0 4 (gv.getD i 0)) 0 gv.length=qF gv from rfl]
       cases qF gv with
       |false=>rfl
       |true =>
        show((bx N0 N0 (xs,kn,li,fr,gv,sh,lg,sh,(sh.length:Int),(0:Int))).bind _)=_
        rw[show bx N0 N0 (xs,kn,li,fr,gv,sh,lg,sh,(sh.length:Int),(0:Int))=_ from h3,show bA (fun i=>gK li (sh.getD i 0)) 0 sh.length=pA li sh from rfl]
        cases pA li sh with
        |false=>rfl
        |true =>
         show((ep N0 (xs,kn,li,fr,gv,sh,lg)).bind _)=_
         rw[GK hs.fl hs.fo];rfl
  ·rw[decide_eq_true (by omega:(li.length:Int)>(8:Int)),decide_eq_false q];rfl
def Az (li:List cg) (i:Nat):Bool:=dn (li.getD i zI)
def IJ (xs:List ac) (li:List cg) (sh:List Int) (i:Nat):Bool:=oX xs (li.getD i zI)&&(!gg sh (i:Int) || Az li i)
theorem EO (d:Nat→Bool) (n:Nat):(places d n).length≤n:=by
 unfold places
 exact Nat.le_trans (List.length_filter_le _ _) (by simp)
theorem MD (hs:Small xs kn li gv sh lg) (hP:cJ xs=true):bk N0 N0 (xs,kn,li,fr,gv,sh,lg,(li.length:Int),(0:Int),(0:Int)) =
  some (bif bA (IJ xs li sh) 0 li.length then .inr (xs,kn,li,fr,gv,sh,lg,(li.length:Int),((places (Az li) li.length).length:Int))else .inl false):=by
 have h:=bE (bk N0) (fun i=>(xs,kn,li,fr,gv,sh,lg,(li.length:Int),((places (Az li) i).length:Int),(i:Int))) (IJ xs li sh) false (xs,kn,li,fr,gv,sh,lg,(li.length:Int),((places (Az li) li.length).length:Int)) li.length (fun m i hi=>by
  rw[bk];dsimp only
  rw[gV hi,cond_true,ax hi,cond_true]
  simp only[Int.toNat_natCast,ap hi hs.fl]
  rw[Li hs.fx (hs.fe i hi) hP,mA hs.fs]
  simp only[Option.bind_some,cond_true]
  have hpl:=EO (Az li) i
  have hli:=hs.fl
  rw[Ba,show(li.getD i zI).2.2.2.2.2.2.1=Az li i from rfl,ap (i:=(places (Az li) i).length) (n:=i+1) (by omega) (by omega)]
  unfold IJ
  cases oX xs (li.getD i zI)with
  |false=>rfl
  |true =>
   cases gg sh (i:Int)<;>cases Az li i<;>rfl) (fun m=>by
  rw[bk];dsimp only;rw[gW];rfl) N0 0 (Nat.zero_le _) (by have:=n0;have:=hs.fl;omega)
 rw[Nat.sub_zero]at h
 exact h
theorem KL (hg:lg.length≤4294967296){N D k:Int}{i:Nat}(hi:i<lg.length):bG N0 N0 (xs,kn,li,fr,gv,sh,lg,N,D,(i:Int),k,(0:Int)) =
  some (bif bA (fun j => !(lk lg j==k)) 0 i then .inr (xs,kn,li,fr,gv,sh,lg,N,D,(i:Int))else .inl false):=by
 have h:=bE (bG N0) (fun j=>(xs,kn,li,fr,gv,sh,lg,N,D,(i:Int),k,(j:Int))) (fun j => !(lk lg j==k)) false (xs,kn,li,fr,gv,sh,lg,N,D,(i:Int)) i (fun m j hj=>by
  rw[bG];dsimp only
  rw[gV hj,cond_true,ax (by omega:j<lg.length),cond_true]
  simp only[Int.toNat_natCast,ap (by omega:j<lg.length) hg]
  rw[show(lg.getD j zC).1=lk lg j from rfl]
  cases(lk lg j==k)<;>rfl) (fun m=>by
  rw[bG];dsimp only;rw[gW];rfl) N0 0 (Nat.zero_le _) (by have:=n0;omega)
 rw[Nat.sub_zero]at h
 exact h
theorem KM (hl:li.length≤4294967296) (hg:lg.length≤4294967296){D:Int}:bh N0 N0 (xs,kn,li,fr,gv,sh,lg,(li.length:Int),D,(0:Int)) =
  some (bif bA (qL li lg) 0 lg.length then .inr (xs,kn,li,fr,gv,sh,lg,D)else .inl false):=by
 have h:=bE (bh N0) (fun i=>(xs,kn,li,fr,gv,sh,lg,(li.length:Int),D,(i:Int))) (qL li lg) false (xs,kn,li,fr,gv,sh,lg,D) lg.length (fun m i hi=>by
  rw[bh];dsimp only
  rw[gV hi,cond_true,ax hi,cond_true,cC (show -9223372036854775808≤(li.length:Int)-1 by omega) (show(li.length:Int)-1≤9223372036854775807 by omega),wZ]
  simp only[Option.bind_some,Int.toNat_natCast]
  rw[show(decide ((lg.getD i zC).1≥0)&&decide ((lg.getD i zC).1≤(li.length:Int)-1))=eL (li.length:Int) (lk lg i)from rfl,show(lg.getD i zC).1=lk lg i from rfl]
  unfold qL gK
  cases hq:eL (li.length:Int) (lk lg i)with
  |false=>rfl
  |true =>
   rw[ei hq,KL hg hi]
   unfold dn
   cases(li.getD (lk lg i).toNat zI).2.2.2.2.2.2.1 with
   |false=>rfl
   |true =>
    cases bA (fun j => !(lk lg j==lk lg i)) 0 i with
    |false=>rfl
    |true =>
     show bh N0 m (xs,kn,li,fr,gv,sh,lg,(li.length:Int),D,IntKind.i64.wrap ((i:Int)+(1:Int)))=_
     rw[ap hi hg];rfl) (fun m=>by
  rw[bh];dsimp only;rw[gW];rfl) N0 0 (Nat.zero_le _) (by have:=n0;omega)
 rw[Nat.sub_zero]at h
 exact h
theorem zp (hs:Small xs kn li gv sh lg):eT N0 (xs,kn,li,fr,gv,sh,lg)=some (rn xs kn&&(decide (li.length≤8)&&(s5 0 8 fr&&(bA (fun j=>s5 0 4 (gv.getD j 0)&&dO gv j) 0 gv.length&&(bA (fun j=>s5 0 ((li.length:Int)-1) (sh.getD j 0)&&dO sh j) 0 sh.length&&(bA (IJ xs li sh) 0 li.length&&(bA (qL li lg) 0 lg.length&&((lg.length:Int)==((places (Az li) li.length).length:Int))))))))):=by
 have hli:=hs.fl
 rw[eT]
 dsimp only
 rw[AR hs.fx hs.fk,wZ,wb hs.fg,cC (show -9223372036854775808≤(li.length:Int)-1 by omega) (show(li.length:Int)-1≤9223372036854775807 by omega),wb hs.fs]
 simp only[Option.bind_some]
 rw[show(bA (gY xs kn) 0 kn.length&&(decide (kn.length≤200)&&(decide (xs.length≤500)&&cF N0 [] xs)))=rn xs kn from rfl,
  show(decide (fr≥0)&&decide (fr≤8))=s5 0 8 fr from rfl]
 cases hk:rn xs kn with
 |false=>rfl
 |true =>
  have hP:cJ xs=true:=by
   unfold rn at hk
   rw[Bool.and_eq_true,Bool.and_eq_true]at hk
   exact hk.2.2
  rw[MD hs hP]
  by_cases q:li.length≤8
  ·rw[decide_eq_false (by omega:¬(li.length:Int)>(8:Int)),decide_eq_true q]
   cases s5 0 8 fr with
   |false=>rfl
   |true =>
    cases bA (fun j=>s5 0 4 (gv.getD j 0)&&dO gv j) 0 gv.length with
    |false=>rfl
    |true =>
     cases bA (fun j=>s5 0 ((li.length:Int)-1) (sh.getD j 0)&&dO sh j) 0 sh.length with
     |false=>rfl
     |true =>
      cases bA (IJ xs li sh) 0 li.length with
      |false=>rfl
      |true =>
       show((bh N0 N0 (xs,kn,li,fr,gv,sh,lg,(li.length:Int),((places (Az li) li.length).length:Int),(0:Int))).bind _)=_
       rw[KM hs.fl hs.fo]
       cases bA (qL li lg) 0 lg.length<;>rfl
  ·rw[decide_eq_true (by omega:(li.length:Int)>(8:Int)),decide_eq_false q];rfl
end
theorem B8 (a b:Nat→Bool) (i k:Nat):bA (fun j=>a j&&b j) i k=(bA a i k&&bA b i k):=by
 rw[Bool.eq_iff_iff,Bool.and_eq_true,cK,cK,cK]
 constructor
 ·intro h
  refine⟨fun j h1 h2=>?_,fun j h1 h2=>?_⟩
  ·have:=h j h1 h2
   rw[Bool.and_eq_true]at this;exact this.1
  ·have:=h j h1 h2
   rw[Bool.and_eq_true]at this;exact this.2
 ·rintro ⟨h1,h2⟩ j h3 h4
  rw[Bool.and_eq_true]
  exact⟨h1 j h3 h4,h2 j h3 h4⟩
section
variable{xs:List ac}{kn:List Int}{li:List cg}{fr:Int}{gv sh:List Int}{lg:List bU}
theorem Cs:(pP xs li&&pA li sh)=(bA (fun j=>s5 0 ((li.length:Int)-1) (sh.getD j 0)) 0 sh.length&&bA (IJ xs li sh) 0 li.length):=by
 unfold pP pA
 rw[Bool.eq_iff_iff,Bool.and_eq_true,Bool.and_eq_true,cK,cK,cK,cK]
 constructor
 ·rintro ⟨h1,h2⟩
  refine⟨fun j h3 h4=>?_,fun i h3 h4=>?_⟩
  ·have:=h2 j h3 h4
   unfold gK at this
   rw[Bool.and_eq_true]at this
   exact this.1
  ·unfold IJ
   rw[Bool.and_eq_true]
   refine⟨h1 i h3 h4,?_⟩
   cases hh:gg sh (i:Int)with
   |false=>rfl
   |true =>
    obtain⟨j,h5,h6⟩:=ug.1 hh
    have:=h2 j (Nat.zero_le _) (by omega)
    unfold gK at this
    rw[Bool.and_eq_true,h6,Int.toNat_natCast]at this
    show(false || Az li i)=true
    rw[Bool.false_or];exact this.2
 ·rintro ⟨h1,h2⟩
  refine⟨fun i h3 h4=>?_,fun j h3 h4=>?_⟩
  ·have:=h2 i h3 h4
   unfold IJ at this
   rw[Bool.and_eq_true]at this
   exact this.1
  ·have hr:=h1 j h3 h4
   unfold gK
   rw[Bool.and_eq_true]
   refine⟨hr,?_⟩
   have hr':=hr
   unfold s5 at hr'
   rw[Bool.and_eq_true,decide_eq_true_iff,decide_eq_true_iff]at hr'
   obtain⟨i,hi⟩:=Int.eq_ofNat_of_zero_le hr'.1
   rw[hi]at hr' ⊢
   rw[Int.toNat_natCast]
   have:=h2 i (Nat.zero_le _) (by omega)
   unfold IJ at this
   rw[Bool.and_eq_true]at this
   have hh:gg sh (i:Int)=true:=ug.2 ⟨j,by omega,hi⟩
   have h3:=this.2
   rw[hh]at h3
   exact h3
theorem GI (h:bA (qL li lg) 0 lg.length=true):bA (oH li lg) 0 li.length=((lg.length:Int)==((places (Az li) li.length).length:Int)):=by
 rw[cK]at h
 have hg:∀i,i<lg.length→gK li (lk lg i)=true∧∀j,j<i→lk lg j≠lk lg i:=fun i hi=>by
  have:=h i (Nat.zero_le _) (by omega)
  unfold qL at this
  rw[Bool.and_eq_true,cK]at this
  refine⟨this.1,fun j hj e=>?_⟩
  have:=this.2 j (Nat.zero_le _) (by omega)
  rw[e]at this
  simp at this
 have hL:((List.range lg.length).map (lk lg)).length=lg.length:=by simp
 have hnd:((List.range lg.length).map (lk lg)).Nodup:=by
  rw[CN,hL]
  intro i hi j hj
  have e:∀k,k<lg.length→((List.range lg.length).map (lk lg)).getD k 0=lk lg k:=fun k hk=>by
   rw[fc (by rw[hL];exact hk)];simp
  rw[e i hi,e j (by omega)]
  exact(hg i hi).2 j hj
 have hin:∀k∈(List.range lg.length).map (lk lg), ∃i:Nat,k=(i:Int)∧i<li.length∧Az li i=true:=by
  intro k hk
  obtain⟨j,hj,rfl⟩:=List.mem_map.1 hk
  have:=(hg j (List.mem_range.1 hj)).1
  unfold gK eL at this
  rw[Bool.and_eq_true,Bool.and_eq_true,decide_eq_true_iff,decide_eq_true_iff]at this
  obtain⟨⟨h1,h2⟩,h3⟩:=this
  obtain⟨i,hi⟩:=Int.eq_ofNat_of_zero_le h1
  rw[hi]at h2 h3
  rw[Int.toNat_natCast]at h3
  exact⟨i,hi,by omega,h3⟩
 have key:=GJ (Az li) li.length _ hnd hin
 rw[hL]at key
 rw[Bool.eq_iff_iff,cK,beq_iff_eq]
 have hmem:∀i:Nat,(i:Int)∈(List.range lg.length).map (lk lg)↔sm lg (i:Int) lg.length≠0:=by
  intro i
  rw[Ne,uM,List.mem_map]
  constructor
  ·rintro ⟨j,h1,h2⟩ h3
   exact h3 j (List.mem_range.1 h1) h2
  ·intro h1
   refine Classical.byContradiction fun h2=>h1 fun j hj e=>h2 ⟨j,List.mem_range.2 hj,e⟩
 have e1:((lg.length:Int)=((places (Az li) li.length).length:Int))↔lg.length=(places (Az li) li.length).length:=by omega
 rw[e1, ←key]
 constructor
 ·intro h1 i h2 h3
  have:=h1 i (Nat.zero_le _) (by omega)
  rw[hmem]
  unfold oH at this
  rw[show dn (li.getD i zI)=Az li i from rfl,h3]at this
  intro h4
  rw[h4]at this
  exact absurd this (by decide)
 ·intro h1 i _ h2
  unfold oH
  cases h3:dn (li.getD i zI)with
  |false=>rfl
  |true =>
   have:=(hmem i).1 (h1 i (by omega) h3)
   show(false || !(((sm lg (i:Int) lg.length:Nat):Int)==(0:Int)))=true
   rw[Bool.false_or,Bool.not_eq_true',beq_eq_false_iff_ne]
   omega
def ch (xs:List ac) (kn:List Int) (li:List cg) (fr:Int) (gv sh:List Int) (lg:List bU):Bool :=
 rn xs kn&&(decide (li.length≤8)&&(s5 0 8 fr&&(bA (dO gv) 0 gv.length&&(bA (dO sh) 0 sh.length&&(pP xs li&&(qF gv&&(pA li sh&&(bA (qL li lg) 0 lg.length&&bA (oH li lg) 0 li.length))))))))
theorem kp (hs:Small xs kn li gv sh lg):eY N0 (xs,kn,li,fr,gv,sh,lg)=some (ch xs kn li fr gv sh lg)∧eT N0 (xs,kn,li,fr,gv,sh,lg)=some (ch xs kn li fr gv sh lg):=by
 refine⟨zY hs,(zp hs).trans (congrArg some ?_)⟩
 unfold ch
 have e1:bA (fun j=>s5 0 4 (gv.getD j 0)&&dO gv j) 0 gv.length=(qF gv&&bA (dO gv) 0 gv.length):=B8 _ _ _ _
 have e2:bA (fun j=>s5 0 ((li.length:Int)-1) (sh.getD j 0)&&dO sh j) 0 sh.length=(bA (fun j=>s5 0 ((li.length:Int)-1) (sh.getD j 0)) 0 sh.length&&bA (dO sh) 0 sh.length):=B8 _ _ _ _
 have e3:=Cs (xs:=xs) (li:=li) (sh:=sh)
 rw[e1,e2]
 cases hl:bA (qL li lg) 0 lg.length with
 |true =>
  rw[GI hl]
  revert e3
  generalize bA (fun j=>s5 0 ((li.length:Int)-1) (sh.getD j 0)) 0 sh.length=A
  generalize bA (IJ xs li sh) 0 li.length=B
  generalize pP xs li=C
  generalize pA li sh=D
  generalize qF gv=E
  generalize bA (dO gv) 0 gv.length=F
  generalize bA (dO sh) 0 sh.length=G
  generalize ((lg.length:Int)==((places (Az li) li.length).length:Int))=H
  generalize rn xs kn=K
  generalize decide (li.length≤8)=M
  generalize s5 0 8 fr=R
  intro e3
  have:(A&&B)=(C&&D):=e3.symm
  cases A<;>cases B<;>cases C<;>cases D<;>simp_all<;>(cases E<;>cases F<;>cases G<;>rfl)
 |false =>
  simp only[Bool.false_and,Bool.and_false]
end
theorem tM (n:Nat){l:List Int}(hl:l.length≤9223372036854775807){r:Int}(h0:0≤r) (h1:r≤1048576):∃q,eV n (l,r)=some q∧(q<0∨(0≤q∧q≤1048576∧l.length≤1048576)):=by
 unfold eV
 simp only[cC (show -9223372036854775808≤r-(l.length:Int)by omega) (show r-(l.length:Int)≤9223372036854775807 by omega)]
 by_cases q:r-(l.length:Int)<0
 ·rw[decide_eq_true q];exact⟨-1,rfl, .inl (by omega)⟩
 ·rw[decide_eq_false q];exact⟨_,rfl, .inr (by omega)⟩
theorem AO (n:Nat){l:List bU}(hl:l.length≤9223372036854775807){r:Int}(h0:0≤r) (h1:r≤1048576):∃q,iQ n (l,r)=some q∧(q<0∨(0≤q∧q≤1048576∧l.length≤1048576)):=by
 unfold iQ
 simp only[cC (show -9223372036854775808≤r-(l.length:Int)by omega) (show r-(l.length:Int)≤9223372036854775807 by omega)]
 by_cases q:r-(l.length:Int)<0
 ·rw[decide_eq_true q];exact⟨-1,rfl, .inl (by omega)⟩
 ·rw[decide_eq_false q];exact⟨_,rfl, .inr (by omega)⟩
theorem sw (n:Nat){li:List cg}(hl:li.length≤1048576) (he:∀i,i<li.length→(nH (li.getD i zI)).length≤9223372036854775807):∀(m i:Nat) (r:Int),0≤r→r≤1048576→i≤li.length→li.length<m+i →
  (∃q,bd n m (li,r,(i:Int))=some (.inl q)∧q<0)∨(∃q,bd n m (li,r,(i:Int))=some (.inr q)∧0≤q∧q≤1048576∧∀j,i≤j→j<li.length→(nH (li.getD j zI)).length≤1048576)
 |0,i,r,_,_,h1,h2=>by omega
 |m+1,i,r,h0,h1,h2,h3=>by
  rcases Nat.eq_or_lt_of_le h2 with q|q
  ·subst q
   refine .inr ⟨r,?_,h0,h1,fun j _ _=>by omega⟩
   rw[bd];dsimp only;rw[gW];rfl
  ·have e:bd n (m+1) (li,r,(i:Int))=(bif decide ((if((nH (li.getD i zI)).length:Int)≤r then r-((nH (li.getD i zI)).length:Int)else -1)<0)then some (.inl (-1))else bd n m (li,(if((nH (li.getD i zI)).length:Int)≤r then r-((nH (li.getD i zI)).length:Int)else -1),((i+1:Nat):Int))):=by
    rw[bd];dsimp only
    rw[gV q,cond_true,ax q,cond_true]
    simp only[Int.toNat_natCast,ap q (by omega:li.length≤4294967296)]
    rw[EE n ⟨h0,h1⟩ (he i q)]
    rfl
   rw[e]
   by_cases hz:((nH (li.getD i zI)).length:Int)≤r
   ·rw[if_pos hz,decide_eq_false (by omega:¬r-((nH (li.getD i zI)).length:Int)<0),cond_false]
    rcases sw n hl he m (i+1) (r-((nH (li.getD i zI)).length:Int)) (by omega) (by omega) q (by omega)with g|⟨v,g1,g2,g3,g4⟩
    ·exact .inl g
    ·refine .inr ⟨v,g1,g2,g3,fun j h5 h6=>?_⟩
     rcases Nat.eq_or_lt_of_le h5 with z|z
     ·subst z;omega
     ·exact g4 j z h6
   ·rw[if_neg hz]
    exact .inl ⟨-1,rfl,by omega⟩
theorem Co{li:List cg}(hl:li.length≤9223372036854775807) (he:∀i,i<li.length→(nH (li.getD i zI)).length≤9223372036854775807){r:Int}(h0:0≤r) (h1:r≤1048576) :
  ∃q,jE N0 (li,r)=some q∧(q<0∨(0≤q∧q≤1048576∧li.length≤1048576∧∀j,j<li.length→(nH (li.getD j zI)).length≤1048576)):=by
 unfold jE
 simp only[cC (show -9223372036854775808≤r-(li.length:Int)by omega) (show r-(li.length:Int)≤9223372036854775807 by omega)]
 by_cases q:r-(li.length:Int)<0
 ·rw[decide_eq_true q];exact⟨-1,rfl, .inl (by omega)⟩
 ·rw[decide_eq_false q,cond_false]
  rcases sw N0 (by omega) he N0 0 (r-(li.length:Int)) (by omega) (by omega) (Nat.zero_le _) (by have:=n0;omega)with⟨v,g1,g2⟩|⟨v,g1,g2,g3,g4⟩
  ·rw[show bd N0 N0 (li,r-(li.length:Int),(0:Int))=_ from g1]
   exact⟨v,rfl, .inl g2⟩
  ·rw[show bd N0 N0 (li,r-(li.length:Int),(0:Int))=_ from g1]
   exact⟨v,rfl, .inr ⟨g2,g3,by omega,fun j hj=>g4 j (Nat.zero_le _) hj⟩⟩
structure VF (xs:List ac) (kn:List Int) (li:List cg) (gv sh:List Int) (lg:List bU):Prop where
 fx:xs.length≤9223372036854775807
 fk:kn.length≤9223372036854775807
 fl:li.length≤9223372036854775807
 fg:gv.length≤9223372036854775807
 fs:sh.length≤9223372036854775807
 fo:lg.length≤9223372036854775807
 fe:∀i,i<li.length→(nH (li.getD i zI)).length≤9223372036854775807
section
variable{xs:List ac}{kn:List Int}{li:List cg}{fr:Int}{gv sh:List Int}{lg:List bU}
theorem Cn (hb:VF xs kn li gv sh lg):∃q,jz N0 (xs,kn,li,fr,gv,sh,lg,(1048576:Int))=some q∧(q<0∨(0≤q∧Small xs kn li gv sh lg)):=by
 rw[jz];dsimp only
 rw[ED N0 hb.fx]
 simp only[Option.bind_some]
 by_cases q1:xs.length≤1048576
 ·rw[if_pos q1,decide_eq_false (by omega:¬(1048576:Int)-(xs.length:Int)<0),cond_false]
  obtain⟨a,ha,ha2⟩:=tM N0 hb.fk (r:=(1048576:Int)-(xs.length:Int)) (by omega) (by omega)
  rw[ha]
  rcases ha2 with ha2|⟨ha2,ha3,ha4⟩
  ·simp only[Option.bind_some]
   rw[decide_eq_true ha2];exact⟨-1,rfl, .inl (by omega)⟩
  ·simp only[Option.bind_some]
   rw[decide_eq_false (by omega:¬a<0),cond_false]
   obtain⟨b,hb1,hb2⟩:=Co hb.fl hb.fe ha2 ha3
   rw[hb1]
   rcases hb2 with hb2|⟨hb2,hb3,hb4,hb5⟩
   ·simp only[Option.bind_some]
    rw[decide_eq_true hb2];exact⟨-1,rfl, .inl (by omega)⟩
   ·simp only[Option.bind_some]
    rw[decide_eq_false (by omega:¬b<0),cond_false]
    obtain⟨c,hc1,hc2⟩:=tM N0 hb.fg hb2 hb3
    rw[hc1]
    rcases hc2 with hc2|⟨hc2,hc3,hc4⟩
    ·simp only[Option.bind_some]
     rw[decide_eq_true hc2];exact⟨-1,rfl, .inl (by omega)⟩
    ·simp only[Option.bind_some]
     rw[decide_eq_false (by omega:¬c<0),cond_false]
     obtain⟨d,hd1,hd2⟩:=tM N0 hb.fs hc2 hc3
     rw[hd1]
     rcases hd2 with hd2|⟨hd2,hd3,hd4⟩
     ·simp only[Option.bind_some]
      rw[decide_eq_true hd2];exact⟨-1,rfl, .inl (by omega)⟩
     ·simp only[Option.bind_some]
      rw[decide_eq_false (by omega:¬d<0),cond_false]
      obtain⟨e,he1,he2⟩:=AO N0 hb.fo hd2 hd3
      rw[he1]
      rcases he2 with he2|⟨he2,he3,he4⟩
      ·simp only[Option.bind_some]
       rw[decide_eq_true he2];exact⟨-1,rfl, .inl (by omega)⟩
      ·simp only[Option.bind_some]
       rw[decide_eq_false (by omega:¬e<0),cond_false]
       exact⟨e,rfl, .inr ⟨he2,by omega,by omega,by omega,by omega,by omega,by omega,fun i hi=>Nat.le_trans (hb5 i hi) (by omega)⟩⟩
 ·rw[if_neg q1]
  exact⟨-1,rfl, .inl (by omega)⟩
theorem rA {α:Type}(d:α){xs ys:List α}{i:Nat}(hi:i<xs.length) (hl:ys.length=xs.length) (h:∀j,j<i→ys[j]?=xs[j]?):(ys.set i (xs.getD i d)).length=xs.length∧∀j,j<i+1→(ys.set i (xs.getD i d))[j]?=xs[j]?:=by
 rw[fc hi];exact xi hi hl h
theorem sv{li:List cg}(hl:li.length≤4294967296) (he:∀i,i<li.length→(nH (li.getD i zI)).length≤4294967296):∀(m i:Nat) (ys:List cg),i≤li.length→ys.length=li.length→(∀j,j<i→ys[j]?=li[j]?)→li.length<m+i→bB N0 m (li,ys,(i:Int))=some li
 |0,i,ys,hi,hy,h,hm=>by omega
 |m+1,i,ys,hi,hy,h,hm=>by
  rcases Nat.eq_or_lt_of_le hi with q|q
  ·subst q
   rw[bB];dsimp only;rw[gW,cond_false,qC (Nat.le_refl _) hy h]
  ·have e:bB N0 (m+1) (li,ys,(i:Int))=bB N0 m (li,ys.set i (li.getD i zI),((i+1:Nat):Int)):=by
    rw[bB];dsimp only
    rw[gV q,cond_true,ax q,cond_true,Int.toNat_natCast]
    first|rw[x6 N0 n0 (he i q)]|rw[show kV=m8 from rfl,x6 N0 n0 (he i q)]
    simp only[Option.bind_some]
    rw[ax (by omega:i<ys.length),cond_true,ap q hl]
   obtain⟨h1,h2⟩:=rA zI q hy h
   rw[e]
   exact sv hl he m (i+1) _ q h1 h2 (by omega)
theorem Cm{li:List cg}(hl:li.length≤4294967296) (he:∀i,i<li.length→(nH (li.getD i zI)).length≤4294967296):jy N0 li=some li:=by
 unfold jy
 rw[decide_eq_true (by omega:0≤(li.length:Int)∧(li.length:Int)≤(li.length:Int)∧(li.length:Int)≤4294967296),cond_true]
 have:=sv hl he N0 0 (List.replicate ((li.length:Int)).toNat zI) (Nat.zero_le _) (by simp) (fun j hj=>by omega) (by have:=n0;omega)
 rw[show bB N0 N0 (li,List.replicate ((li.length:Int)).toNat zI,(0:Int))=_ from this];rfl
theorem qX{lg:List bU}(hl:lg.length≤4294967296):∀(m i:Nat) (ys:List bU),i≤lg.length→ys.length=lg.length→(∀j,j<i→ys[j]?=lg[j]?)→lg.length<m+i→bi N0 m (lg,ys,(i:Int))=some lg
 |0,i,ys,hi,hy,h,hm=>by omega
 |m+1,i,ys,hi,hy,h,hm=>by
  rcases Nat.eq_or_lt_of_le hi with q|q
  ·subst q
   rw[bi];dsimp only;rw[gW,cond_false,qC (Nat.le_refl _) hy h]
  ·have e:bi N0 (m+1) (lg,ys,(i:Int))=bi N0 m (lg,ys.set i (lg.getD i zC),((i+1:Nat):Int)):=by
    rw[bi];dsimp only
    rw[gV q,cond_true,ax q,cond_true,Int.toNat_natCast,show l5 N0 ((lg.getD i zC).1,(lg.getD i zC).2.1,(lg.getD i zC).2.2)=some (lg.getD i zC)from rfl]
    simp only[Option.bind_some]
    rw[ax (by omega:i<ys.length),cond_true,ap q hl]
   obtain⟨h1,h2⟩:=rA zC q hy h
   rw[e]
   exact qX hl m (i+1) _ q h1 h2 (by omega)
theorem AK{lg:List bU}(hl:lg.length≤4294967296):iP N0 lg=some lg:=by
 unfold iP
 rw[decide_eq_true (by omega:0≤(lg.length:Int)∧(lg.length:Int)≤(lg.length:Int)∧(lg.length:Int)≤4294967296),cond_true]
 have:=qX hl N0 0 (List.replicate ((lg.length:Int)).toNat zC) (Nat.zero_le _) (by simp) (fun j hj=>by omega) (by have:=n0;omega)
 rw[show bi N0 N0 (lg,List.replicate ((lg.length:Int)).toNat zC,(0:Int))=_ from this];rfl
theorem Ck (hs:Small xs kn li gv sh lg):fX N0 (xs,kn,li,fr,gv,sh,lg)=some (xs,kn,li,fr,gv,sh,lg):=by
 rw[fX];dsimp only
 rw[EB N0 n0 hs.fx,qh N0 n0 hs.fk,Cm hs.fl hs.fe,qh N0 n0 hs.fg,qh N0 n0 hs.fs,AK hs.fo];rfl
theorem pZ{l:List Int}(hl:l.length≤4294967296):d5 N0 (l,l)=some true:=by
 unfold d5
 have:=p6 N0 hl N0 0 (Nat.zero_le _) (by have:=n0;omega)
 rw[show((0:Nat):Int)=(0:Int)from rfl]at this
 simp only[bne_self_eq_false,cond_false,this];rfl
theorem Ag{li:List cg}(hl:li.length≤4294967296) (he:∀i,i<li.length→(nH (li.getD i zI)).length≤4294967296):jG N0 (li,li)=some true:=by
 have h:=bE (bV N0) (fun i=>(li,li,(i:Int))) (fun _=>true) false () li.length (fun m i hi=>by
  rw[bV];dsimp only
  rw[gV hi,cond_true,ax hi,cond_true,cond_true,Int.toNat_natCast,BT N0 n0 (he i hi)]
  simp only[Option.bind_some,ap hi hl];rfl) (fun m=>by
  rw[bV];dsimp only;rw[gW];rfl) N0 0 (Nat.zero_le _) (by have:=n0;omega)
 have ht:bA (fun _=>true) 0 (li.length-0)=true:=cK.2 fun _ _ _=>rfl
 rw[ht]at h
 unfold jG
 simp only[bne_self_eq_false,cond_false]
 rw[show bV N0 N0 (li,li,(0:Int))=_ from h];rfl
theorem Ah (x:bU):jH N0 (x.1,x.2.1,x.2.2,x.1,x.2.1,x.2.2)=some true:=by
 unfold jH
 simp only[bne_self_eq_false,cond_false]
theorem xR{lg:List bU}(hl:lg.length≤4294967296):iR N0 (lg,lg)=some true:=by
 have h:=bE (bI N0) (fun i=>(lg,lg,(i:Int))) (fun _=>true) false () lg.length (fun m i hi=>by
  rw[bI];dsimp only
  rw[gV hi,cond_true,ax hi,cond_true,cond_true,Int.toNat_natCast,Ah]
  simp only[Option.bind_some,ap hi hl];rfl) (fun m=>by
  rw[bI];dsimp only;rw[gW];rfl) N0 0 (Nat.zero_le _) (by have:=n0;omega)
 have ht:bA (fun _=>true) 0 (lg.length-0)=true:=cK.2 fun _ _ _=>rfl
 rw[ht]at h
 unfold iR
 simp only[bne_self_eq_false,cond_false]
 rw[show bI N0 N0 (lg,lg,(0:Int))=_ from h];rfl
theorem Af (hs:Small xs kn li gv sh lg):jF N0 (xs,kn,li,fr,gv,sh,lg,xs,kn,li,fr,gv,sh,lg)=some true:=by
 rw[jF];dsimp only
 rw[BS N0 n0 hs.fx,pZ hs.fk,Ag hs.fl hs.fe,pZ hs.fg,pZ hs.fs,xR hs.fo]
 simp only[Option.bind_some,Bool.not_true,cond_false,bne_self_eq_false]
end
theorem Lv{xs:List ac}{kn:List Int}{li:List cg}{gv sh:List Int}{lg:List bU}(h1:oT (.sl kN) xs) (h2:oT (.sl kI) kn) (h3:oT (.sl (.pr kI (.pr kI (.pr kI (.pr kI (.pr kI (.pr (.sl kI) (.pr .bool (.pr .bool kI))))))))) li) (h4:oT (.sl kI) gv) (h5:oT (.sl kI) sh) (h6:oT (.sl (.pr kI (.pr .bool .bool))) lg):VF xs kn li gv sh lg where
 fx:=kx▸h1.1
 fk:=kx▸h2.1
 fl:=kx▸h3.1
 fg:=kx▸h4.1
 fs:=kx▸h5.1
 fo:=kx▸h6.1
 fe:=fun i hi=>by
  have hm:li.getD i zI∈li:=by rw[fc hi];exact List.getElem_mem hi
  have:=h3.2 _ hm
  exact kx▸this.2.2.2.2.2.1.1
section
variable{xs:List ac}{kn:List Int}{li:List cg}{fr:Int}{gv sh:List Int}{lg:List bU}{k:Int}
theorem BY{l:List Int}(hl:l.length≤4294967296) (v:Int):bY N0 (l,v)=some (gg l v):=by
 have h:∀(m i:Nat),i≤l.length→l.length<m+i →
   (∃j:Nat,ak N0 m (l,v,(l.length:Int),(i:Int))=some (.inl (j:Int))∧bA (fun j => !(l.getD j 0==v)) i (l.length-i)=false) ∨
   (ak N0 m (l,v,(l.length:Int),(i:Int))=some (.inr ())∧bA (fun j => !(l.getD j 0==v)) i (l.length-i)=true):=by
  intro m
  induction m with
  |zero=>intro i h1 h2;omega
  |succ m ih =>
   intro i h1 h2
   rcases Nat.eq_or_lt_of_le h1 with q|q
   ·subst q
    refine .inr ⟨?_,?_⟩
    ·rw[ak];dsimp only;rw[gW];rfl
    ·rw[Nat.sub_self];rfl
   ·rw[ak]
    dsimp only
    rw[gV q,cond_true,ax q,cond_true,Int.toNat_natCast,ap q hl,show l.length-i=(l.length-(i+1))+1 by omega]
    show(∃j:Nat,_∧(!(l.getD i 0==v)&&bA (fun j => !(l.getD j 0==v)) (i+1) (l.length-(i+1)))=false)∨(_∧(!(l.getD i 0==v)&&bA (fun j => !(l.getD j 0==v)) (i+1) (l.length-(i+1)))=true)
    have hc:(v==l.getD i 0)=(l.getD i 0==v):=by
     rw[Bool.eq_iff_iff,beq_iff_eq,beq_iff_eq]
     exact⟨fun h=>h.symm,fun h=>h.symm⟩
    rw[hc]
    cases hq:(l.getD i 0==v)with
    |true=>exact .inl ⟨i,rfl,rfl⟩
    |false=>exact ih (i+1) q (by omega)
 rcases h N0 0 (Nat.zero_le _) (by have:=n0;omega)with⟨j,h1,h2⟩|⟨h1,h2⟩
 ·rw[bY];dsimp only
  rw[cU];dsimp only
  rw[show ak N0 N0 (l,v,(l.length:Int),(0:Int))=_ from h1]
  unfold gg
  rw[Nat.sub_zero]at h2
  rw[h2]
  show some (decide ((j:Int)≥0))=some true
  rw[decide_eq_true (by omega:(j:Int)≥0)]
 ·rw[bY];dsimp only
  rw[cU];dsimp only
  rw[show ak N0 N0 (l,v,(l.length:Int),(0:Int))=_ from h1]
  unfold gg
  rw[Nat.sub_zero]at h2
  rw[h2];rfl
theorem GU (hg:gv.length≤4294967296) (v:Int):eA N0 (xs,kn,li,fr,gv,sh,lg,v)=some (xs,kn,li,fr,gv,sh,lg,gg gv v):=by
 rw[eA];dsimp only
 rw[BY hg];rfl
def gn (lg:List bU) (k:Int):Nat→Nat→Option bU
 |_,0=>none
 |i,m+1=>bif lk lg i==k then some (lg.getD i zC)else gn lg k (i+1) m
def jV (lg:List bU) (k:Int):Option bU:=gn lg k 0 lg.length
theorem pS (hg:lg.length≤4294967296):∀(m i:Nat),i≤lg.length→lg.length<m+i→aO N0 m (xs,kn,li,fr,gv,sh,lg,k,(0:Int),false,false,lg,(lg.length:Int),(i:Int)) =
  some (match gn lg k i (lg.length-i)with|some c => .inl (xs,kn,li,fr,gv,sh,lg,c.1,c.2.1,c.2.2,true)|none => .inr (xs,kn,li,fr,gv,sh,lg,(0:Int),false,false))
 |0,i,h1,h2=>by omega
 |m+1,i,h1,h2=>by
  rcases Nat.eq_or_lt_of_le h1 with q|q
  ·subst q
   rw[aO];dsimp only;rw[gW,Nat.sub_self];rfl
  ·have ih:=pS hg m (i+1) q (by omega)
   rw[aO];dsimp only
   rw[gV q,cond_true,ax q,cond_true,Int.toNat_natCast,ap q hg,show lg.length-i=(lg.length-(i+1))+1 by omega,ih]
   show(cond (lk lg i==k) _ _)=some (match(bif lk lg i==k then some (lg.getD i zC)else gn lg k (i+1) (lg.length-(i+1)))with|some c=>_|none=>_)
   cases(lk lg i==k)<;>rfl
theorem z8 (hg:lg.length≤4294967296):eF N0 (xs,kn,li,fr,gv,sh,lg,k) =
  some (match jV lg k with|some c=>(xs,kn,li,fr,gv,sh,lg,c.1,c.2.1,c.2.2,true)|none=>(xs,kn,li,fr,gv,sh,lg,(0:Int),false,false,false)):=by
 have h:=pS (xs:=xs) (kn:=kn) (li:=li) (fr:=fr) (gv:=gv) (sh:=sh) (k:=k) hg N0 0 (Nat.zero_le _) (by have:=n0;omega)
 rw[Nat.sub_zero]at h
 rw[eF];dsimp only
 rw[show aO N0 N0 (xs,kn,li,fr,gv,sh,lg,k,(0:Int),false,false,lg,(lg.length:Int),(0:Int))=_ from h]
 unfold jV
 cases gn lg k 0 lg.length<;>rfl
theorem pz (hg:lg.length≤4294967296):∀(m i:Nat),i≤lg.length→lg.length<m+i→bF N0 m (k,xs,kn,li,fr,gv,sh,lg,(0:Int),false,false,(i:Int)) =
  some (match gn lg k i (lg.length-i)with|some c => .inl (c.1,c.2.1,c.2.2,true)|none => .inr ((0:Int),false,false))
 |0,i,h1,h2=>by omega
 |m+1,i,h1,h2=>by
  rcases Nat.eq_or_lt_of_le h1 with q|q
  ·subst q
   rw[bF];dsimp only;rw[gW,Nat.sub_self];rfl
  ·have ih:=pz hg m (i+1) q (by omega)
   rw[bF];dsimp only
   rw[gV q,cond_true,ax q,cond_true,cond_true,Int.toNat_natCast,ap q hg,show lg.length-i=(lg.length-(i+1))+1 by omega,ih]
   show(cond (lk lg i==k) _ _)=some (match(bif lk lg i==k then some (lg.getD i zC)else gn lg k (i+1) (lg.length-(i+1)))with|some c=>_|none=>_)
   cases(lk lg i==k)<;>rfl
theorem zu (hg:lg.length≤4294967296):iK N0 (xs,kn,li,fr,gv,sh,lg,k) =
  some (match jV lg k with|some c=>(c.1,c.2.1,c.2.2,true)|none=>((0:Int),false,false,false)):=by
 have h:=pz (xs:=xs) (kn:=kn) (li:=li) (fr:=fr) (gv:=gv) (sh:=sh) (k:=k) hg N0 0 (Nat.zero_le _) (by have:=n0;omega)
 rw[Nat.sub_zero]at h
 rw[iK];dsimp only
 rw[show bF N0 N0 (k,xs,kn,li,fr,gv,sh,lg,(0:Int),false,false,(0:Int))=_ from h]
 unfold jV
 cases gn lg k 0 lg.length<;>rfl
theorem oQ (lg:List bU) (k:Int):∀(m i:Nat){c:bU},gn lg k i m=some c→∃j,i≤j∧j<i+m∧lk lg j=k
 |0,i,c,h=>by cases h
 |m+1,i,c,h=>by
  unfold gn at h
  cases q:(lk lg i==k)with
  |true=>exact⟨i,Nat.le_refl _,by omega,beq_iff_eq.1 q⟩
  |false =>
   rw[q]at h
   obtain⟨j,h1,h2,h3⟩:=oQ lg k m (i+1) h
   exact⟨j,by omega,by omega,h3⟩
theorem pn (hw:ch xs kn li fr gv sh lg=true){c:bU}(hc:jV lg k=some c):eL (li.length:Int) k=true:=by
 obtain⟨j,_,h2,h3⟩:=oQ lg k _ 0 hc
 unfold ch at hw
 simp only[Bool.and_eq_true]at hw
 have hl:=hw.2.2.2.2.2.2.2.2.1
 rw[cK]at hl
 have:=hl j (Nat.zero_le _) h2
 unfold qL at this
 rw[Bool.and_eq_true]at this
 have:=this.1
 unfold gK at this
 rw[Bool.and_eq_true,h3]at this
 exact this.1
theorem uS (hw:ch xs kn li fr gv sh lg=true){j:Nat}(hj:j<sh.length):eL (li.length:Int) (sh.getD j 0)=true:=by
 unfold ch at hw
 simp only[Bool.and_eq_true]at hw
 have hl:=hw.2.2.2.2.2.2.2.1
 unfold pA at hl
 rw[cK]at hl
 have:=hl j (Nat.zero_le _) (by omega)
 unfold gK at this
 rw[Bool.and_eq_true]at this
 exact this.1
def gN (li:List cg) (lg:List bU) (k:Int):Bool:=match jV lg k with
 |some c => !c.2.1&&(((li.getD k.toNat zI).1 != (2:Int)) || !c.2.2)
 |none=>false
theorem jQ (hs:Small xs kn li gv sh lg) (hw:ch xs kn li fr gv sh lg=true):cu N0 (xs,kn,li,fr,gv,sh,lg,k)=some (xs,kn,li,fr,gv,sh,lg,gN li lg k):=by
 rw[cu];dsimp only
 rw[z8 hs.fo]
 simp only[Option.bind_some]
 unfold gN
 cases hc:jV lg k with
 |none=>rfl
 |some c =>
  have:=ei (pn hw hc)
  dsimp only
  rw[this]
  cases c.2.1<;>cases((li.getD k.toNat zI).1 != (2:Int))<;>cases c.2.2<;>rfl
theorem mr (hs:Small xs kn li gv sh lg) (hw:ch xs kn li fr gv sh lg=true):dp N0 (xs,kn,li,fr,gv,sh,lg,k)=some (gN li lg k):=by
 rw[dp];dsimp only
 rw[zu hs.fo]
 simp only[Option.bind_some]
 unfold gN
 cases hc:jV lg k with
 |none=>rfl
 |some c =>
  have:=ei (pn hw hc)
  dsimp only
  rw[this]
  cases c.2.1<;>cases((li.getD k.toNat zI).1 != (2:Int))<;>cases c.2.2<;>rfl
def wR (li:List cg) (k:Int):Int:=(li.getD k.toNat zI).2.2.2.2.2.2.2.2
def pK (li:List cg) (sh:List Int) (k:Int) (j:Nat):Bool := !(wR li (sh.getD j 0)==wR li k)
def mh (li:List cg) (sh:List Int) (k:Int):Bool:=gK li k && !bA (pK li sh k) 0 sh.length
theorem KV{j:Int}(h1:eL (li.length:Int) j=true) (h2:eL (li.length:Int) k=true):du N0 (j,false,k,xs,kn,li,fr,gv,sh,lg)=some (false,k,xs,kn,li,fr,gv,sh,lg,wR li j==wR li k):=by
 rw[du];dsimp only
 rw[ei h1,ei h2];rfl
theorem pQ (hs:Small xs kn li gv sh lg) (hw:ch xs kn li fr gv sh lg=true) (hk:eL (li.length:Int) k=true):∀(m i:Nat),i≤sh.length→sh.length<m+i →
  (∃j:Nat,ai N0 m (sh,false,(sh.length:Int),(i:Int),false,k,xs,kn,li,fr,gv,sh,lg)=some (.inl ((j:Int),false,k,xs,kn,li,fr,gv,sh,lg))∧bA (pK li sh k) i (sh.length-i)=false) ∨
  (ai N0 m (sh,false,(sh.length:Int),(i:Int),false,k,xs,kn,li,fr,gv,sh,lg)=some (.inr (false,k,xs,kn,li,fr,gv,sh,lg))∧bA (pK li sh k) i (sh.length-i)=true)
 |0,i,h1,h2=>by omega
 |m+1,i,h1,h2=>by
  rcases Nat.eq_or_lt_of_le h1 with q|q
  ·subst q
   refine .inr ⟨?_,?_⟩
   ·rw[ai];dsimp only;rw[gW];rfl
   ·rw[Nat.sub_self];rfl
  ·have ih:=pQ hs hw hk m (i+1) q (by omega)
   rw[ai]
   dsimp only
   rw[gV q,cond_true,ax q,cond_true,Int.toNat_natCast,ap q hs.fs,show sh.length-i=(sh.length-(i+1))+1 by omega,KV (uS hw q) hk]
   simp only[Option.bind_some]
   show(∃j:Nat,_∧(pK li sh k i&&bA (pK li sh k) (i+1) (sh.length-(i+1)))=false)∨(_∧(pK li sh k i&&bA (pK li sh k) (i+1) (sh.length-(i+1)))=true)
   unfold pK at ih ⊢
   cases hq:(wR li (sh.getD i 0)==wR li k)with
   |true=>exact .inl ⟨i,rfl,rfl⟩
   |false=>exact ih
theorem zZ (hs:Small xs kn li gv sh lg) (hw:ch xs kn li fr gv sh lg=true):dR N0 (xs,kn,li,fr,gv,sh,lg,k)=some (xs,kn,li,fr,gv,sh,lg,mh li sh k):=by
 rw[dR];dsimp only
 rw[t8 hs.fl]
 simp only[Option.bind_some]
 unfold mh
 cases hd:gK li k with
 |false=>rfl
 |true =>
  have hk:eL (li.length:Int) k=true:=by
   unfold gK at hd
   rw[Bool.and_eq_true]at hd
   exact hd.1
  rw[cond_true,cD];dsimp only
  rw[cW];dsimp only
  rcases pQ hs hw hk N0 0 (Nat.zero_le _) (by have:=n0;have:=hs.fs;omega)with⟨j,h1,h2⟩|⟨h1,h2⟩
  ·rw[show ai N0 N0 (sh,false,(sh.length:Int),(0:Int),false,k,xs,kn,li,fr,gv,sh,lg)=_ from h1]
   rw[Nat.sub_zero]at h2
   rw[h2]
   simp only[Option.bind_some]
   rw[decide_eq_true (by omega:(j:Int)≥0)];rfl
  ·rw[show ai N0 N0 (sh,false,(sh.length:Int),(0:Int),false,k,xs,kn,li,fr,gv,sh,lg)=_ from h1]
   rw[Nat.sub_zero]at h2
   rw[h2];rfl
theorem zq (hs:Small xs kn li gv sh lg) (hw:ch xs kn li fr gv sh lg=true):iJ N0 (xs,kn,li,fr,gv,sh,lg,k)=some (mh li sh k):=by
 have hli:=hs.fl
 rw[iJ];dsimp only
 rw[cC (show -9223372036854775808≤(li.length:Int)-1 by omega) (show(li.length:Int)-1≤9223372036854775807 by omega),wZ]
 simp only[Option.bind_some]
 rw[show(decide (k≥0)&&decide (k≤(li.length:Int)-1))=eL (li.length:Int) k from rfl]
 unfold mh gK
 cases hk:eL (li.length:Int) k with
 |false=>rfl
 |true =>
  rw[ei hk]
  unfold dn
  cases(li.getD k.toNat zI).2.2.2.2.2.2.1 with
  |false=>rfl
  |true =>
   have h:=bE (bv N0) (fun i=>(k,xs,kn,li,fr,gv,sh,lg,(i:Int))) (pK li sh k) true () sh.length (fun m i hi=>by
    rw[bv];dsimp only
    rw[gV hi,cond_true,ax hi,cond_true,Int.toNat_natCast,ap hi hs.fs,ei (uS hw hi),cond_true,ei hk,cond_true]
    unfold pK wR
    cases((li.getD (sh.getD i 0).toNat zI).2.2.2.2.2.2.2.2==(li.getD k.toNat zI).2.2.2.2.2.2.2.2)<;>rfl) (fun m=>by
    rw[bv];dsimp only;rw[gW];rfl) N0 0 (Nat.zero_le _) (by have:=n0;have:=hs.fs;omega)
   rw[Nat.sub_zero]at h
   show((bv N0 N0 (k,xs,kn,li,fr,gv,sh,lg,(0:Int))).bind _)=_
   rw[show bv N0 N0 (k,xs,kn,li,fr,gv,sh,lg,(0:Int))=_ from h]
   cases bA (pK li sh k) 0 sh.length<;>rfl
end
section
variable{xs:List ac}{kn:List Int}{li:List cg}{fr:Int}{gv sh:List Int}{lg:List bU}{k:Int}
end
def BZ (li:List cg) (lg:List bU) (i j:Nat):Bool :=
 gN li lg (i:Int)&&(gN li lg (j:Int)&&(((li.getD i zI).1==(li.getD j zI).1)&&(((li.getD i zI).2.1==(li.getD j zI).2.1)&&((li.getD i zI).2.2.2.2.2.2.2.2==(li.getD j zI).2.2.2.2.2.2.2.2))))
def nD (li:List cg) (lg:List bU) (i:Nat):Bool:=bA (fun j => !BZ li lg i j) 0 i
theorem F3{li:List cg}{i:Nat}(h:i≤li.length):(sl li 0 (i:Int)).length=i:=by
 unfold sl
 simp
 omega
theorem KN{li:List cg}{i j:Nat}(h:i≤li.length) (hj:j<i):(sl li 0 (i:Int)).getD j zI=li.getD j zI:=by
 unfold sl
 rw[List.getD_eq_getElem?_getD,List.getD_eq_getElem?_getD]
 congr 1
 simp[List.getElem?_take,hj]
section
variable{xs:List ac}{kn:List Int}{li:List cg}{fr:Int}{gv sh:List Int}{lg:List bU}{k:Int}
theorem Lj (hs:Small xs kn li gv sh lg) (hw:ch xs kn li fr gv sh lg=true){i:Nat}(hi:i<li.length) :
  aJ N0 N0 (xs,kn,li,fr,gv,sh,lg,(i:Int),(li.getD i zI).1,(li.getD i zI).2.1,(li.getD i zI).2.2.1,(li.getD i zI).2.2.2.1,(li.getD i zI).2.2.2.2.1,(li.getD i zI).2.2.2.2.2.1,(li.getD i zI).2.2.2.2.2.2.1,(li.getD i zI).2.2.2.2.2.2.2.1,(li.getD i zI).2.2.2.2.2.2.2.2,li,(li.length:Int),(i:Int),sl li 0 (i:Int),((sl li 0 (i:Int)).length:Int),(0:Int)) =
   some (bif nD li lg i then .inr (xs,kn,li,fr,gv,sh,lg,li,(li.length:Int),(i:Int))else .inl false):=by
 have hli:=hs.fl
 rw[F3 (Nat.le_of_lt hi)]
 have h:=bE (aJ N0) (fun j=>(xs,kn,li,fr,gv,sh,lg,(i:Int),(li.getD i zI).1,(li.getD i zI).2.1,(li.getD i zI).2.2.1,(li.getD i zI).2.2.2.1,(li.getD i zI).2.2.2.2.1,(li.getD i zI).2.2.2.2.2.1,(li.getD i zI).2.2.2.2.2.2.1,(li.getD i zI).2.2.2.2.2.2.2.1,(li.getD i zI).2.2.2.2.2.2.2.2,li,(li.length:Int),(i:Int),sl li 0 (i:Int),(i:Int),(j:Int))) (fun j => !BZ li lg i j) false (xs,kn,li,fr,gv,sh,lg,li,(li.length:Int),(i:Int)) i (fun m j hj=>by
  rw[aJ];dsimp only
  rw[gV hj,cond_true,F3 (Nat.le_of_lt hi),ax hj,cond_true,jQ hs hw]
  simp only[Option.bind_some,Int.toNat_natCast,ap (Nat.lt_trans hj hi) hli,jQ hs hw,KN (Nat.le_of_lt hi) hj]
  unfold BZ
  cases gN li lg (i:Int)<;>cases gN li lg (j:Int)<;>cases((li.getD i zI).1==(li.getD j zI).1)<;>cases((li.getD i zI).2.1==(li.getD j zI).2.1)<;>cases((li.getD i zI).2.2.2.2.2.2.2.2==(li.getD j zI).2.2.2.2.2.2.2.2)<;>rfl) (fun m=>by
  rw[aJ];dsimp only;rw[gW];rfl) N0 0 (Nat.zero_le _) (by have:=n0;omega)
 rw[Nat.sub_zero]at h
 exact h
theorem z7 (hs:Small xs kn li gv sh lg):ic N0 (xs,kn,li,fr,gv,sh,lg)=some (ch xs kn li fr gv sh lg&&bA (nD li lg) 0 li.length):=by
 have hli:=hs.fl
 rw[ic];dsimp only
 rw[(kp hs).1]
 simp only[Option.bind_some]
 cases hw:ch xs kn li fr gv sh lg with
 |false=>rfl
 |true =>
  have h:=bE (ba N0) (fun i=>(xs,kn,li,fr,gv,sh,lg,li,(li.length:Int),(i:Int))) (nD li lg) false () li.length (fun m i hi=>by
   rw[ba];dsimp only
   rw[gV hi,cond_true,ax hi,cond_true,show zB 0 (i:Int) li.length=true from decide_eq_true ⟨Int.le_refl _,by omega,by omega⟩,cond_true]
   simp only[Int.toNat_natCast]
   rw[Lj hs hw hi]
   cases nD li lg i with
   |false=>rfl
   |true =>
    show ba N0 m (xs,kn,li,fr,gv,sh,lg,li,(li.length:Int),IntKind.i64.wrap ((i:Int)+(1:Int)))=_
    rw[ap hi hli];rfl) (fun m=>by
   rw[ba];dsimp only;rw[gW];rfl) N0 0 (Nat.zero_le _) (by have:=n0;omega)
  rw[Nat.sub_zero]at h
  show((ba N0 N0 (xs,kn,li,fr,gv,sh,lg,li,(li.length:Int),(0:Int))).bind _)=_
  rw[show ba N0 N0 (xs,kn,li,fr,gv,sh,lg,li,(li.length:Int),(0:Int))=_ from h]
  cases bA (nD li lg) 0 li.length<;>rfl
theorem MC (hs:Small xs kn li gv sh lg) (hw:ch xs kn li fr gv sh lg=true){i:Nat}(hi:i<li.length) :
  aI N0 N0 (xs,kn,li,fr,gv,sh,lg,(i:Int),(0:Int))=some (bif nD li lg i then .inr (xs,kn,li,fr,gv,sh,lg,(i:Int))else .inl false):=by
 have hli:=hs.fl
 have h:=bE (aI N0) (fun j=>(xs,kn,li,fr,gv,sh,lg,(i:Int),(j:Int))) (fun j => !BZ li lg i j) false (xs,kn,li,fr,gv,sh,lg,(i:Int)) i (fun m j hj=>by
  rw[aI];dsimp only
  rw[gV hj,cond_true,gB];dsimp only
  rw[ax hi,cond_true,ax (Nat.lt_trans hj hi),cond_true]
  simp only[Option.bind_some,Int.toNat_natCast,ap (Nat.lt_trans hj hi) hli,mr hs hw]
  unfold BZ
  cases gN li lg (i:Int)<;>cases gN li lg (j:Int)<;>cases((li.getD i zI).1==(li.getD j zI).1)<;>cases((li.getD i zI).2.1==(li.getD j zI).2.1)<;>cases((li.getD i zI).2.2.2.2.2.2.2.2==(li.getD j zI).2.2.2.2.2.2.2.2)<;>rfl) (fun m=>by
  rw[aI];dsimp only;rw[gW];rfl) N0 0 (Nat.zero_le _) (by have:=n0;omega)
 rw[Nat.sub_zero]at h
 exact h
theorem zt (hs:Small xs kn li gv sh lg):gT N0 (xs,kn,li,fr,gv,sh,lg)=some (ch xs kn li fr gv sh lg&&bA (nD li lg) 0 li.length):=by
 have hli:=hs.fl
 rw[gT];dsimp only
 rw[(kp hs).2]
 simp only[Option.bind_some]
 cases hw:ch xs kn li fr gv sh lg with
 |false=>rfl
 |true =>
  have h:=bE (a0 N0) (fun i=>(xs,kn,li,fr,gv,sh,lg,(i:Int))) (nD li lg) false () li.length (fun m i hi=>by
   rw[a0];dsimp only
   rw[gV hi,cond_true,MC hs hw hi]
   cases nD li lg i with
   |false=>rfl
   |true =>
    show a0 N0 m (xs,kn,li,fr,gv,sh,lg,IntKind.i64.wrap ((i:Int)+(1:Int)))=_
    rw[ap hi hli];rfl) (fun m=>by
   rw[a0];dsimp only;rw[gW];rfl) N0 0 (Nat.zero_le _) (by have:=n0;omega)
  rw[Nat.sub_zero]at h
  show((a0 N0 N0 (xs,kn,li,fr,gv,sh,lg,(0:Int))).bind _)=_
  rw[show a0 N0 N0 (xs,kn,li,fr,gv,sh,lg,(0:Int))=_ from h]
  cases bA (nD li lg) 0 li.length<;>rfl
end
abbrev dK:ac:=((0:Int),((0:Int),(0:Int)))
def pf (xs:List ac) (k:ac):Nat→Nat→Option Nat
 |_,0=>none
 |i,m+1=>if xs.getD i dK=k then some i else pf xs k (i+1) m
abbrev my (xs:List ac) (k:ac):Option Nat:=pf xs k 0 xs.length
theorem vL{xs:List ac}{k:ac}:∀{m i j:Nat},pf xs k i m=some j→i≤j∧j<i+m∧xs.getD j dK=k
 |0,_,_,h=>by cases h
 |m+1,i,j,h=>by
  unfold pf at h
  by_cases hk:xs.getD i dK=k
  ·rw[if_pos hk]at h
   obtain rfl:=Option.some.inj h
   exact⟨Nat.le_refl _,by omega,hk⟩
  ·rw[if_neg hk]at h
   obtain⟨h1,h2,h3⟩:=vL h
   exact⟨by omega,by omega,h3⟩
theorem Dy{xs:List ac}{k:ac}:∀{m i:Nat},pf xs k i m=none→∀q,i≤q→q<i+m→xs.getD q dK≠k
 |0,i,_,q,h1,h2=>by omega
 |m+1,i,h,q,h1,h2=>by
  unfold pf at h
  by_cases hk:xs.getD i dK=k
  ·rw[if_pos hk]at h;cases h
  ·rw[if_neg hk]at h
   rcases Nat.eq_or_lt_of_le h1 with e|e
   ·subst e;exact hk
   ·exact Dy h q e (by omega)
theorem Bk (p k:ac):(p.1==k.1&&(p.2.1==k.2.1&&(p.2.2==k.2.2&&true)))=decide (p=k):=by
 obtain⟨p1,p2,p3⟩:=p
 obtain⟨k1,k2,k3⟩:=k
 rw[Bool.eq_iff_iff]
 simp
theorem EZ (p k:ac):(k.1==p.1&&(k.2.1==p.2.1&&(k.2.2==p.2.2&&true)))=decide (p=k):=by
 rw[Bk k p,Bool.eq_iff_iff]
 simp[eq_comm]
theorem Dx{xs:List ac}{k:ac}{i:Nat}(h:i<xs.length):pf xs k i (xs.length-i)=if xs.getD i dK=k then some i else pf xs k (i+1) (xs.length-(i+1)):=by
 have e:xs.length-i=(xs.length-(i+1))+1:=by omega
 rw[e];rfl
theorem Gg{xs:List ac}{k:ac}{i:Nat}(h:xs.length≤i):pf xs k i (xs.length-i)=none:=by
 have e:xs.length-i=0:=by omega
 rw[e];rfl
theorem wX (n:Nat){xs:List ac}(hx:xs.length≤4294967296) (k:ac):∀(m i:Nat),i≤xs.length→xs.length<m+i→ah n m (xs,k.1,k.2.1,k.2.2,(xs.length:Int),(i:Int)) =
  some (match pf xs k i (xs.length-i)with|some j=>Sum.inl (j:Int)|none=>Sum.inr ())
 |0,i,h1,h2=>by omega
 |m+1,i,h1,h2=>by
  have e0:ah n (m+1) (xs,k.1,k.2.1,k.2.2,(xs.length:Int),(i:Int))=(cond (decide ((i:Int)<(xs.length:Int))) (cond (aY (i:Int) xs.length) (cond (k.1==(xs.getD ((i:Int)).toNat dK).1&&(k.2.1==(xs.getD ((i:Int)).toNat dK).2.1&&(k.2.2==(xs.getD ((i:Int)).toNat dK).2.2&&true))) (some (Sum.inl (i:Int))) (ah n m (xs,k.1,k.2.1,k.2.2,(xs.length:Int),IntKind.i64.wrap ((i:Int)+(1:Int))))) none) (some (Sum.inr ()))):=rfl
  rw[e0,GE]
  by_cases hlt:i<xs.length
  ·rw[decide_eq_true hlt,cond_true,ax hlt,cond_true,Int.toNat_natCast,ap hlt hx,EZ,Dx hlt]
   by_cases hk:xs.getD i dK=k
   ·rw[decide_eq_true hk,cond_true,if_pos hk]
   ·rw[decide_eq_false hk,cond_false,if_neg hk,wX n hx k m (i+1) hlt (by omega)]
  ·rw[decide_eq_false hlt,cond_false,Gg (by omega)]
theorem xb (n:Nat){xs:List ac}(hx:xs.length≤4294967296) (k:ac):∀(m i:Nat),i≤xs.length→xs.length<m+i→bC n m (xs,k.1,k.2.1,k.2.2,(i:Int)) =
  some (match pf xs k i (xs.length-i)with|some j=>Sum.inl (j:Int)|none=>Sum.inr ())
 |0,i,h1,h2=>by omega
 |m+1,i,h1,h2=>by
  have e0:bC n (m+1) (xs,k.1,k.2.1,k.2.2,(i:Int))=(cond (decide ((i:Int)<(xs.length:Int))) (cond (aY (i:Int) xs.length) (cond ((xs.getD ((i:Int)).toNat dK).1==k.1&&((xs.getD ((i:Int)).toNat dK).2.1==k.2.1&&((xs.getD ((i:Int)).toNat dK).2.2==k.2.2&&true))) (some (Sum.inl (i:Int))) (bC n m (xs,k.1,k.2.1,k.2.2,IntKind.i64.wrap ((i:Int)+(1:Int))))) none) (some (Sum.inr ()))):=rfl
  rw[e0,GE]
  by_cases hlt:i<xs.length
  ·rw[decide_eq_true hlt,cond_true,ax hlt,cond_true,Int.toNat_natCast,ap hlt hx,Bk,Dx hlt]
   by_cases hk:xs.getD i dK=k
   ·rw[decide_eq_true hk,cond_true,if_pos hk]
   ·rw[decide_eq_false hk,cond_false,if_neg hk,xb n hx k m (i+1) hlt (by omega)]
  ·rw[decide_eq_false hlt,cond_false,Gg (by omega)]
def IK (xs:List ac) (k:ac):Int:=match my xs k with
 |some j=>(j:Int)
 |none=>-1
theorem BE{xs:List ac}(hx:xs.length≤4294967296) (k:ac):aZ N0 (xs,k.1,k.2.1,k.2.2)=some (IK xs k):=by
 unfold aZ
 dsimp only
 have h:=wX N0 hx k N0 0 (Nat.zero_le _) (by have:=n0;omega)
 rw[Nat.sub_zero]at h
 rw[show(0:Int)=((0:Nat):Int)from rfl,h]
 unfold IK my
 cases pf xs k 0 xs.length<;>rfl
theorem yC{xs:List ac}(hx:xs.length≤4294967296) (k:ac):dm N0 (xs,k.1,k.2.1,k.2.2)=some (IK xs k):=by
 unfold dm
 dsimp only
 have h:=xb N0 hx k N0 0 (Nat.zero_le _) (by have:=n0;omega)
 rw[Nat.sub_zero]at h
 rw[show(0:Int)=((0:Nat):Int)from rfl,h]
 unfold IK my
 cases pf xs k 0 xs.length<;>rfl
theorem AW {α:Type}{xs:List ac}(h:xs.length≤500){k:α}:co (xs.length+[k].length)=true:=by
 unfold co
 rw[List.length_singleton]
 simp
 omega
theorem Gy{c a b:Int}{i j:Nat}(hj:j≤4294967296) (hij:i≤j) (h:gF N0 (c,a,b,(i:Int))=true):gF N0 (c,a,b,(j:Int))=true:=by
 have wi:IntKind.i64.wrap ((i:Int)-(1:Int))=(i:Int)-1:=cC (by omega) (by omega)
 have wj:IntKind.i64.wrap ((j:Int)-(1:Int))=(j:Int)-1:=cC (by omega) (by omega)
 have up:∀v:Int,(decide (v≥0)&&decide (v≤(i:Int)-1))=true→(decide (v≥0)&&decide (v≤(j:Int)-1))=true:=fun v hv=>by
  rw[Bool.and_eq_true,decide_eq_true_iff,decide_eq_true_iff]at hv ⊢
  omega
 have ha:=up a
 have hb:=up b
 revert h
 unfold gF cL
 dsimp only
 obtain⟨v,hv⟩:=xh N0 c
 rw[hv]
 simp only[Option.bind_some,eE,wi,wj]
 generalize (decide (a≥0)&&decide (a≤(i:Int)-1))=A1 at ha ⊢
 generalize (decide (a≥0)&&decide (a≤(j:Int)-1))=A2 at ha ⊢
 generalize (decide (b≥0)&&decide (b≤(i:Int)-1))=B1 at hb ⊢
 generalize (decide (b≥0)&&decide (b≤(j:Int)-1))=B2 at hb ⊢
 cases(v==(0:Int))
 ·cases(v==(1:Int))
  ·cases(v==(2:Int))
   ·exact id
   ·cases A1
    ·exact fun h=>Bool.noConfusion h
    ·cases B1
     ·exact fun h=>(by cases A2<;>exact Bool.noConfusion h)
     ·rw[ha rfl,hb rfl];exact id
  ·cases A1
   ·exact fun h=>Bool.noConfusion h
   ·rw[ha rfl];exact id
 ·exact id
theorem yl{n:Nat}:∀{r pre:List ac},cF n pre r=true→∀j,j<r.length→gF n ((r.getD j dK).1,(r.getD j dK).2.1,(r.getD j dK).2.2,((pre.length+j:Nat):Int))=true
 |[],pre,_,j,hj=>absurd hj (Nat.not_lt_zero _)
 |k::r,pre,h,j,hj=>by
  have h:((!pre.contains k&&gF n (k.1,k.2.1,k.2.2,(pre.length:Int)))&&cF n (pre++[k]) r)=true:=h
  rw[Bool.and_eq_true,Bool.and_eq_true]at h
  match j with
  |0=>exact h.1.2
  |j+1 =>
   have:=yl h.2 j (by simpa using hj)
   rw[List.length_append]at this
   have e:pre.length+(j+1)=pre.length+[k].length+j:=by simp;omega
   rw[e]
   exact this
theorem wC{n:Nat}:∀{r pre s:List ac},cF n pre (r++s)=(cF n pre r&&cF n (pre++r) s)
 |[],pre,s=>by simp[cF]
 |k::r,pre,s=>by
  show((!pre.contains k&&gF n (k.1,k.2.1,k.2.2,(pre.length:Int)))&&cF n (pre++[k]) (r++s))=(((!pre.contains k&&gF n (k.1,k.2.1,k.2.2,(pre.length:Int)))&&cF n (pre++[k]) r)&&cF n (pre++(k::r)) s)
  rw[wC]
  simp only[Bool.and_assoc,List.append_assoc,List.singleton_append]
theorem cN{xs:List ac}(h:cJ xs=true):xs.length≤500:=by
 unfold cJ at h
 rw[Bool.and_eq_true,decide_eq_true_iff]at h
 exact h.1
theorem A9{xs:List ac}(h:cJ xs=true){j:Nat}(hj:j<xs.length):gF N0 ((xs.getD j dK).1,(xs.getD j dK).2.1,(xs.getD j dK).2.2,(j:Int))=true:=by
 unfold cJ at h
 rw[Bool.and_eq_true]at h
 have:=yl h.2 j hj
 simpa using this
theorem CC{xs:List ac}(h:cJ xs=true) (hl:xs.length<500){k:ac}(hk:gF N0 (k.1,k.2.1,k.2.2,(xs.length:Int))=true) (hn:my xs k=none):cJ (xs++[k])=true:=by
 unfold cJ at h ⊢
 rw[Bool.and_eq_true]at h ⊢
 refine⟨decide_eq_true (by simp;omega),?_⟩
 rw[wC,h.2,Bool.true_and,List.nil_append]
 show((!xs.contains k&&gF N0 (k.1,k.2.1,k.2.2,(xs.length:Int)))&&true)=true
 rw[hk,Bool.and_true,Bool.and_true,Bool.not_eq_true']
 rw[←Bool.not_eq_true]
 intro hc
 have hm:k∈xs:=by simpa using hc
 obtain⟨j,hj,e⟩:=List.mem_iff_getElem.1 hm
 refine Dy hn j (Nat.zero_le _) (by omega) ?_
 rw[fc hj]
 exact e
def Dl (xs:List ac) (k:ac):Option (List ac×Int) :=
 bif gF N0 (k.1,k.2.1,k.2.2,(xs.length:Int))then(match my xs k with
  |some j=>some (xs,(j:Int))
  |none=>if 500≤xs.length then none else some (xs++[k],(xs.length:Int)))else none
def Lb (kd a b:Int):ac:=bif kd==8 then(kd,mn a b,mx a b)else(kd,a,b)
def p9 (xs:List ac) (kd a b:Int):Option (List ac×Int):=Dl xs (Lb kd a b)
def qK (xs:List ac):Option (List ac×Int)→List ac×Int
 |some r=>r
 |none=>(xs, -1)
theorem FH{xs ys:List ac}{k:ac}{t:Int}(hp:cJ xs=true) (h:Dl xs k=some (ys,t)):cJ ys=true∧0≤t∧t<(ys.length:Int)∧(∃zs,ys=xs++zs)∧ys.getD t.toNat dK=k:=by
 unfold Dl at h
 cases hk:gF N0 (k.1,k.2.1,k.2.2,(xs.length:Int))with
 |false=>rw[hk]at h;cases h
 |true =>
  rw[hk,cond_true]at h
  cases hf:my xs k with
  |some j =>
   rw[hf]at h
   obtain⟨rfl,rfl⟩:=Prod.mk.inj (Option.some.inj h)
   obtain⟨h1,h2,h3⟩:=vL hf
   exact⟨hp,by omega,by omega,⟨[],by simp⟩,by rw[Int.toNat_natCast];exact h3⟩
  |none =>
   rw[hf]at h
   dsimp only at h
   by_cases hl:500≤xs.length
   ·rw[if_pos hl]at h;cases h
   ·rw[if_neg hl]at h
    obtain⟨rfl,rfl⟩:=Prod.mk.inj (Option.some.inj h)
    exact⟨CC hp (by omega) hk hf,by omega,by simp;omega,⟨[k],rfl⟩,by rw[Int.toNat_natCast];simp[List.getD_eq_getElem?_getD]⟩
theorem wT{xs:List ac}(hx:xs.length≤4294967296) (v:Int):eI N0 (xs,v)=some (xs,gM xs v):=mi N0 hx v
theorem BH{xs:List ac}(hx:xs.length≤500) (k:ac):((cL N0 (k.1,k.2.1,k.2.2,((xs).length:Int))).bind fun r1=>(cond (!r1) (some (xs,(-1:Int))) ((dz N0 (xs,k.1,k.2.1,k.2.2)).bind fun r2=>(cond (decide (r2.2≥(0:Int))) (some (r2.1,r2.2)) (cond (decide (((r2.1).length:Int)≥(500:Int))) (some (r2.1,(-1:Int))) ((dj N0 (r2.1,k.1,k.2.1,k.2.2)).bind fun g3=>(some (g3,(IntKind.i64.wrap (((g3).length:Int)-(1:Int)))))))))))
  = some (qK xs (Dl xs k)):=by
 rw[tV,Option.bind_some]
 unfold Dl
 cases gF N0 (k.1,k.2.1,k.2.2,(xs.length:Int))with
 |false=>rfl
 |true =>
  rw[cond_true,Bool.not_true,cond_false]
  have e1:dz N0 (xs,k.1,k.2.1,k.2.2)=some (xs,IK xs k):=by
   unfold dz
   dsimp only
   rw[BE (by omega)];rfl
  rw[e1,Option.bind_some]
  dsimp only
  unfold IK
  cases hf:my xs k with
  |some j =>
   dsimp only
   rw[decide_eq_true (by omega:(j:Int)≥(0:Int)),cond_true];rfl
  |none =>
   dsimp only
   rw[decide_eq_false (by omega:¬((-1:Int)≥(0:Int))),cond_false]
   by_cases hl:500≤xs.length
   ·rw[decide_eq_true (by omega:(xs.length:Int)≥(500:Int)),cond_true,if_pos hl];rfl
   ·rw[decide_eq_false (by omega:¬((xs.length:Int)≥(500:Int))),cond_false,if_neg hl]
    have e2:dj N0 (xs,k.1,k.2.1,k.2.2)=some (xs++[k]):=by
     unfold dj
     dsimp only
     have:co (xs.length+[(k.1,(k.2.1,k.2.2))].length)=true:=AW hx
     rw[this];rfl
    rw[e2,Option.bind_some]
    have e3:IntKind.i64.wrap (((xs++[k]).length:Int)-(1:Int))=(xs.length:Int):=by
     have hl:(xs++[k]).length=xs.length+1:=by rw[List.length_append,List.length_singleton]
     rw[hl,cC (by omega) (by omega)]
     omega
    rw[e3];rfl
theorem oG{xs:List ac}(hx:xs.length≤500) (kd a b:Int):d8 N0 (xs,kd,a,b)=some (qK xs (p9 xs kd a b)):=by
 unfold d8 p9 Lb
 dsimp only
 cases hk:(kd==(8:Int))with
 |true=>rw[cond_true,cond_true];exact BH hx (kd,mn a b,mx a b)
 |false=>rw[cond_false,cond_false];exact BH hx (kd,a,b)
theorem BF{xs:List ac}(hx:xs.length≤500) (c:Int):eH N0 (xs,c)=some (qK xs (p9 xs 1 c 0)):=by
 unfold eH
 dsimp only
 rw[oG hx];rfl
theorem wc{xs:List ac}(hp:cJ xs=true) (k:ac):((dm N0 (xs,k.1,k.2.1,k.2.2)).bind fun r9=>(cond (decide (r9≥(0:Int))) (some (xs,r9)) ((dU N0 (k.1,k.2.1,k.2.2,((xs).length:Int))).bind fun r10=>(cond (!r10) (some (xs,(-1:Int))) (cond (((xs).length:Int)==(500:Int)) (some (xs,(-1:Int))) ((fQ N0 xs).bind fun r11=>(cond (co ((r11).length+([(k.1,(k.2.1,k.2.2))]).length)) ((fu N0 (xs,[],(r11++[(k.1,(k.2.1,k.2.2))]))).bind fun g12=>(some (g12.1,g12.2))) none)))))))
  = some (qK xs (Dl xs k)):=by
 have hx:=cN hp
 rw[yC (by omega),Option.bind_some]
 unfold IK Dl
 cases hf:my xs k with
 |some j =>
  obtain⟨h1,h2,h3⟩:=vL hf
  have hj:j<xs.length:=by omega
  have hnd:=A9 hp hj
  rw[h3]at hnd
  rw[Gy (by omega) (Nat.le_of_lt hj) hnd]
  dsimp only
  rw[decide_eq_true (by omega:(j:Int)≥(0:Int)),cond_true];rfl
 |none =>
  dsimp only
  rw[decide_eq_false (by omega:¬((-1:Int)≥(0:Int))),cond_false,AY,Option.bind_some]
  cases gF N0 (k.1,k.2.1,k.2.2,(xs.length:Int))with
  |false=>rfl
  |true =>
   rw[cond_true,Bool.not_true,cond_false]
   by_cases hl:500≤xs.length
   ·have:((xs.length:Int)==(500:Int))=true:=by simp;omega
    rw[this,cond_true,if_pos hl];rfl
   ·have:((xs.length:Int)==(500:Int))=false:=by simp;omega
    rw[this,cond_false,if_neg hl]
    have e1:fQ N0 xs=some xs:=by
     unfold fQ
     have:co (([]:List ac).length+xs.length)=true:=by
      unfold co
      simp
      omega
     rw[this];rfl
    rw[e1,Option.bind_some]
    have:co (xs.length+[(k.1,(k.2.1,k.2.2))].length)=true:=AW hx
    rw[this,cond_true];rfl
theorem ol{xs:List ac}(hp:cJ xs=true) (kd a b:Int):dc N0 (xs,kd,a,b)=some (qK xs (p9 xs kd a b)):=by
 unfold dc p9 Lb mn mx
 dsimp only
 cases hk:(kd==(8:Int))with
 |true =>
  rw[cond_true,cond_true]
  by_cases hab:a>b
  ·rw[decide_eq_true hab,cond_true,if_pos (by omega:b<a),if_neg (by omega:¬b>a)]
   exact wc hp (kd,b,a)
  ·rw[decide_eq_false hab,cond_false,if_neg (by omega:¬b<a)]
   have:(if b>a then b else a)=b:=by split<;>omega
   rw[this]
   exact wc hp (kd,a,b)
 |false=>rw[cond_false,cond_false];exact wc hp (kd,a,b)
theorem AQ{xs:List ac}(hp:cJ xs=true) (c:Int):fP N0 (xs,c)=some (qK xs (p9 xs 1 c 0)):=by
 unfold fP
 dsimp only
 rw[ol hp];rfl
def nu (xs:List ac) (a e:Int):Option (List ac×Int) :=
 bif gM xs a then(bif gM xs e then(bif (xs.getD a.toNat dK).1==7 then p9 xs 8 e (xs.getD a.toNat dK).2.1 else none)else none)else none
theorem BK{xs:List ac}{a:Int}(h:gM xs a=true):aY a xs.length=true:=by
 unfold gM at h
 rw[Bool.and_eq_true,decide_eq_true_iff,decide_eq_true_iff]at h
 have e:a=((a.toNat:Nat):Int):=by omega
 rw[e]
 exact ax (by omega)
theorem z6{xs:List ac}(hx:xs.length≤500) (a e:Int):dP N0 (xs,a,e)=some (qK xs (nu xs a e)):=by
 unfold dP nu
 dsimp only
 rw[wT (by omega),Option.bind_some]
 dsimp only
 cases ha:gM xs a with
 |false=>rfl
 |true =>
  rw[Bool.not_true,cond_false,cond_true,wT (by omega),Option.bind_some]
  dsimp only
  cases gM xs e with
  |false=>rfl
  |true =>
   rw[Bool.not_true,cond_false,cond_true,BK ha,cond_true,cond_true]
   show(cond (!((xs.getD a.toNat dK).1==(7:Int))) _ _)=_
   cases((xs.getD a.toNat dK).1==(7:Int))with
   |false=>rfl
   |true =>
    rw[Bool.not_true,cond_false,cond_true,oG hx];rfl
theorem zr{xs:List ac}(hp:cJ xs=true) (a e:Int):dT N0 (xs,a,e)=some (qK xs (nu xs a e)):=by
 have hx:=cN hp
 unfold dT nu
 dsimp only
 rw[w6 N0 (by omega),Option.bind_some]
 cases ha:gM xs a with
 |false=>rfl
 |true =>
  rw[Bool.not_true,cond_false,cond_true,w6 N0 (by omega),Option.bind_some]
  cases gM xs e with
  |false=>rfl
  |true =>
   rw[Bool.not_true,cond_false,cond_true,BK ha,cond_true,cond_true]
   show(cond (!((xs.getD a.toNat dK).1==(7:Int))) _ _)=_
   cases((xs.getD a.toNat dK).1==(7:Int))with
   |false=>rfl
   |true =>
    rw[Bool.not_true,cond_false,cond_true,ol hp];rfl
inductive vu where
 |name (c:Int)
 |var (i:Int)
 |ask (i:Int)
 |un (k:Int) (p:vu)
 |bin (k:Int) (p q:vu)
 |exp (p q:vu)
def vu.asks:vu→Bool
 | .ask _=>true
 | .un _ p=>p.asks
 | .bin _ p q=>p.asks || q.asks
 | .exp p q=>p.asks || q.asks
 |_=>false
def mk (env:List Int):vu→List ac→Option (List ac×Int)
 | .name c,xs=>p9 xs 1 c 0
 | .var i,xs=>bif decide (env.getD i.toNat 0<0)then none else some (xs,env.getD i.toNat 0)
 | .ask _,xs=>none
 | .un k p,xs=>(mk env p xs).bind fun r=>p9 r.1 k r.2 0
 | .bin k p q,xs=>(mk env p xs).bind fun r=>(mk env q r.1).bind fun s=>p9 s.1 k r.2 s.2
 | .exp p q,xs=>(mk env p xs).bind fun r=>(mk env q r.1).bind fun s=>nu s.1 s.2 r.2
theorem oz{env:List Int}:∀{p:vu}(xs:List ac),p.asks=true→mk env p xs=none
 | .name c,xs,h=>by cases h
 | .var i,xs,h=>by cases h
 | .ask _,xs,_=>rfl
 | .un k p,xs,h=>by
  show(mk env p xs).bind _=none
  rw[oz xs (show p.asks=true from h)];rfl
 | .bin k p q,xs,h=>by
  have h:(p.asks || q.asks)=true:=h
  show(mk env p xs).bind _=none
  cases hp:p.asks with
  |true=>rw[oz xs hp];rfl
  |false =>
   rw[hp,Bool.false_or]at h
   cases mk env p xs with
   |none=>rfl
   |some r=>show(mk env q r.1).bind _=none;rw[oz r.1 h];rfl
 | .exp p q,xs,h=>by
  have h:(p.asks || q.asks)=true:=h
  show(mk env p xs).bind _=none
  cases hp:p.asks with
  |true=>rw[oz xs hp];rfl
  |false =>
   rw[hp,Bool.false_or]at h
   cases mk env p xs with
   |none=>rfl
   |some r=>show(mk env q r.1).bind _=none;rw[oz r.1 h];rfl
def y0 (xs ys:List ac) (t:Int):Prop:=cJ ys=true∧0≤t∧(∃zs,ys=xs++zs)
theorem kD{xs ys:List ac}{kd a b t:Int}(hp:cJ xs=true) (h:p9 xs kd a b=some (ys,t)):y0 xs ys t∧t<(ys.length:Int):=by
 obtain⟨h1,h2,h3,h4,_⟩:=FH hp h
 exact⟨⟨h1,h2,h4⟩,h3⟩
theorem y0.trans{xs ys zs:List ac}{t u:Int}(h1:y0 xs ys t) (h2:y0 ys zs u):y0 xs zs u:=by
 obtain⟨a1,a2,v,rfl⟩:=h1
 obtain⟨b1,b2,w,rfl⟩:=h2
 exact⟨b1,b2,v++w,by rw[List.append_assoc]⟩
theorem wo{xs ys:List ac}{a e t:Int}(h:nu xs a e=some (ys,t)):p9 xs 8 e (xs.getD a.toNat dK).2.1=some (ys,t):=by
 unfold nu at h
 cases h1:gM xs a with
 |false=>rw[h1]at h;cases h
 |true =>
  cases h2:gM xs e with
  |false=>rw[h1,h2]at h;cases h
  |true =>
   cases h3:((xs.getD a.toNat dK).1==7)with
   |false=>rw[h1,h2,h3]at h;cases h
   |true=>rw[h1,h2,h3]at h;exact h
theorem fD{env:List Int}:∀{p:vu}{xs ys:List ac}{t:Int},cJ xs=true→mk env p xs=some (ys,t)→y0 xs ys t
 | .name c,xs,ys,t,hp,h=>(kD hp h).1
 | .var i,xs,ys,t,hp,h=>by
  have h:(bif decide (env.getD i.toNat 0<0)then none else some (xs,env.getD i.toNat 0))=some (ys,t):=h
  by_cases hn:env.getD i.toNat 0<0
  ·rw[decide_eq_true hn]at h;cases h
  ·rw[decide_eq_false hn]at h
   obtain⟨rfl,rfl⟩:=Prod.mk.inj (Option.some.inj h)
   exact⟨hp,by omega,[],by simp⟩
 | .ask _,xs,ys,t,hp,h=>by cases h
 | .un k p,xs,ys,t,hp,h=>by
  obtain⟨r,h1,h2⟩:=Option.bind_eq_some_iff.1 (show(mk env p xs).bind _=some (ys,t)from h)
  have g1:=fD hp (show mk env p xs=some (r.1,r.2)from h1)
  exact g1.trans (kD g1.1 h2).1
 | .bin k p q,xs,ys,t,hp,h=>by
  obtain⟨r,h1,h2⟩:=Option.bind_eq_some_iff.1 (show(mk env p xs).bind _=some (ys,t)from h)
  have g1:=fD hp (show mk env p xs=some (r.1,r.2)from h1)
  obtain⟨s,h3,h4⟩:=Option.bind_eq_some_iff.1 h2
  have g2:=fD g1.1 (show mk env q r.1=some (s.1,s.2)from h3)
  exact(g1.trans g2).trans (kD g2.1 h4).1
 | .exp p q,xs,ys,t,hp,h=>by
  obtain⟨r,h1,h2⟩:=Option.bind_eq_some_iff.1 (show(mk env p xs).bind _=some (ys,t)from h)
  have g1:=fD hp (show mk env p xs=some (r.1,r.2)from h1)
  obtain⟨s,h3,h4⟩:=Option.bind_eq_some_iff.1 h2
  have g2:=fD g1.1 (show mk env q r.1=some (s.1,s.2)from h3)
  exact(g1.trans g2).trans (kD g2.1 (wo h4)).1
abbrev iz:=Int×(Int×List Int)
abbrev n5:=Int×(Int×(Int×Bool))
abbrev zP:iz:=((0:Int),((0:Int),[]))
abbrev zS:n5:=((0:Int),((0:Int),((0:Int),false)))
def oW (s:Int):Int:=if s=40 then 2 else if s=123 then 3 else if s=91 then 4 else if s=35 then 5 else if s=107 then 6 else if s=94 then 7 else if s=42 then 8 else 0
def DS (x:iz) (y:n5):Option vu :=
 bif x.1==110 then(bif y.1==1&&(x.2.1==y.2.1 && !y.2.2.2)then some (.name x.2.1)else none)
 else bif x.1==36 then(bif (y.1==9&&(x.2.1==y.2.1 && !y.2.2.2))&&(decide (0≤x.2.1)&&decide (x.2.1<26))then some (.var x.2.1)else none)
 else bif x.1==63 then(bif (y.1==9&&(x.2.1==y.2.1&&y.2.2.2))&&(decide (0≤x.2.1)&&decide (x.2.1<26))then some (.ask x.2.1)else none)
 else none
def t7 (s:Int):Bool:=s==110 || (s==36 || s==63)
def Jg (x:iz) (y:n5) (P:vu):Option vu :=
 bif !t7 x.1&&(!(x.1==120)&&((oW x.1==y.1)&&((y.1==5 || y.1==7)&&(y.2.2.2==P.asks))))then some (.un y.1 P)else none
def IR (x:iz) (y:n5) (P Q:vu):Option vu :=
 bif !t7 x.1&&(y.2.2.2==(P.asks || Q.asks))then(bif x.1==120 then(bif y.1==10 then some (.exp P Q)else none)else(bif (oW x.1==y.1)&&(y.1==2 || (y.1==3 || (y.1==4 || (y.1==6 || y.1==8))))then some (.bin y.1 P Q)else none))else none
def uL (l1:List iz) (l2:List n5):Nat→Int→Int→Option vu
 |0,_,_=>none
 |k+1,a,b=>bif aY a l1.length&&aY b l2.length then(match(l1.getD a.toNat zP).2.2 with
   |[]=>DS (l1.getD a.toNat zP) (l2.getD b.toNat zS)
   |[p]=>(uL l1 l2 k p (l2.getD b.toNat zS).2.1).bind fun P=>Jg (l1.getD a.toNat zP) (l2.getD b.toNat zS) P
   |[p,q]=>(uL l1 l2 k p (l2.getD b.toNat zS).2.1).bind fun P=>(uL l1 l2 k q (l2.getD b.toNat zS).2.2.1).bind fun Q=>IR (l1.getD a.toNat zP) (l2.getD b.toNat zS) P Q
   |_=>none)else none
theorem pN{x:iz}{y:n5}{P:vu}(h:DS x y=some P) :
  ((x.1==110)=true∧y.1=1∧y.2.1=x.2.1∧y.2.2.2=false∧P = .name x.2.1) ∨
  ((x.1==110)=false∧(x.1==36)=true∧y.1=9∧y.2.1=x.2.1∧y.2.2.2=false∧0≤x.2.1∧x.2.1<26∧P = .var x.2.1) ∨
  ((x.1==110)=false∧(x.1==36)=false∧(x.1==63)=true∧y.1=9∧y.2.1=x.2.1∧y.2.2.2=true∧0≤x.2.1∧x.2.1<26∧P = .ask x.2.1):=by
 unfold DS at h
 cases h1:(x.1==110)with
 |true =>
  rw[h1,cond_true]at h
  cases hc:(y.1==1&&(x.2.1==y.2.1 && !y.2.2.2))with
  |false=>rw[hc]at h;cases h
  |true =>
   rw[hc]at h
   simp only[Bool.and_eq_true,beq_iff_eq,Bool.not_eq_true']at hc
   exact .inl ⟨rfl,hc.1,hc.2.1.symm,hc.2.2,(Option.some.inj h).symm⟩
 |false =>
  rw[h1,cond_false]at h
  cases h2:(x.1==36)with
  |true =>
   rw[h2,cond_true]at h
   cases hc:((y.1==9&&(x.2.1==y.2.1 && !y.2.2.2))&&(decide (0≤x.2.1)&&decide (x.2.1<26)))with
   |false=>rw[hc]at h;cases h
   |true =>
    rw[hc]at h
    simp only[Bool.and_eq_true,beq_iff_eq,Bool.not_eq_true',decide_eq_true_iff]at hc
    exact .inr (.inl ⟨rfl,rfl,hc.1.1,hc.1.2.1.symm,hc.1.2.2,hc.2.1,hc.2.2,(Option.some.inj h).symm⟩)
  |false =>
   rw[h2,cond_false]at h
   cases h3:(x.1==63)with
   |false=>rw[h3]at h;cases h
   |true =>
    rw[h3,cond_true]at h
    cases hc:((y.1==9&&(x.2.1==y.2.1&&y.2.2.2))&&(decide (0≤x.2.1)&&decide (x.2.1<26)))with
    |false=>rw[hc]at h;cases h
    |true =>
     rw[hc]at h
     simp only[Bool.and_eq_true,beq_iff_eq,decide_eq_true_iff]at hc
     exact .inr (.inr ⟨rfl,rfl,rfl,hc.1.1,hc.1.2.1.symm,hc.1.2.2,hc.2.1,hc.2.2,(Option.some.inj h).symm⟩)
theorem yF{s:Int}(h:(!t7 s)=true):(s==110)=false∧(s==36)=false∧(s==63)=false:=by
 unfold t7 at h
 simpa using h
theorem rN{x:iz}{y:n5}{P R:vu}(h:Jg x y P=some R) :
  ((x.1==110)=false∧(x.1==36)=false∧(x.1==63)=false)∧(x.1==120)=false∧oW x.1=y.1∧(y.1=5∨y.1=7)∧y.2.2.2=P.asks∧R = .un y.1 P:=by
 unfold Jg at h
 cases hc:(!t7 x.1&&(!(x.1==120)&&((oW x.1==y.1)&&((y.1==5 || y.1==7)&&(y.2.2.2==P.asks)))))with
 |false=>rw[hc]at h;cases h
 |true =>
  rw[hc]at h
  rw[Bool.and_eq_true]at hc
  have h2:=hc.2
  simp only[Bool.and_eq_true,Bool.not_eq_true',beq_iff_eq,Bool.or_eq_true]at h2
  exact⟨yF hc.1,h2.1,h2.2.1,h2.2.2.1,h2.2.2.2,(Option.some.inj h).symm⟩
theorem rF{x:iz}{y:n5}{P Q R:vu}(h:IR x y P Q=some R) :
  ((x.1==110)=false∧(x.1==36)=false∧(x.1==63)=false)∧y.2.2.2=(P.asks || Q.asks) ∧
  (((x.1==120)=true∧y.1=10∧R = .exp P Q)∨((x.1==120)=false∧oW x.1=y.1∧(y.1=2∨y.1=3∨y.1=4∨y.1=6∨y.1=8)∧R = .bin y.1 P Q)):=by
 unfold IR at h
 cases hc:(!t7 x.1&&(y.2.2.2==(P.asks || Q.asks)))with
 |false=>rw[hc]at h;cases h
 |true =>
  rw[hc,cond_true]at h
  rw[Bool.and_eq_true]at hc
  refine⟨yF hc.1,by simpa using hc.2,?_⟩
  cases h1:(x.1==120)with
  |true =>
   rw[h1,cond_true]at h
   cases h2:(y.1==10)with
   |false=>rw[h2]at h;cases h
   |true=>rw[h2]at h;exact .inl ⟨rfl,by simpa using h2,(Option.some.inj h).symm⟩
  |false =>
   rw[h1,cond_false]at h
   cases h2:((oW x.1==y.1)&&(y.1==2 || (y.1==3 || (y.1==4 || (y.1==6 || y.1==8)))))with
   |false=>rw[h2]at h;cases h
   |true =>
    rw[h2]at h
    simp only[Bool.and_eq_true,beq_iff_eq,Bool.or_eq_true]at h2
    exact .inr ⟨rfl,h2.1,h2.2,(Option.some.inj h).symm⟩
theorem yD (n:Nat){s:Int}(h:oW s≠0):jm n s=some (oW s):=by
 unfold jm oW
 unfold oW at h
 by_cases h1:s=40
 ·subst h1;rfl
 by_cases h2:s=123
 ·subst h2;rfl
 by_cases h3:s=91
 ·subst h3;rfl
 by_cases h4:s=35
 ·subst h4;rfl
 by_cases h5:s=107
 ·subst h5;rfl
 by_cases h6:s=94
 ·subst h6;rfl
 by_cases h7:s=42
 ·subst h7;rfl
 ·rw[if_neg h1,if_neg h2,if_neg h3,if_neg h4,if_neg h5,if_neg h6,if_neg h7]at h
  exact absurd rfl h
abbrev O7:=List iz×List ac×List Int×Int
abbrev IA:=List iz×List ac×Int
theorem CS (n:Nat) (rec_:O7→Option IA) (m:Nat) (l:List iz) (xs:List ac) (env:List Int) (s c:Int) (ps:List Int) (u v p:Int) :
  aA n rec_ (m+2) (l,xs,env,s,c,ps,u,v,[p],(1:Int),(0:Int))=(rec_ (l,xs,env,p)).bind fun r2=>cond (decide (r2.2.2<(0:Int))) (some (Sum.inl (r2.1,r2.2.1,(-1:Int)))) (some (Sum.inr (r2.1,r2.2.1,s,c,ps,r2.2.2,v))):=by kernel_rfl
theorem CR (n:Nat) (rec_:O7→Option IA) (m:Nat) (l:List iz) (xs:List ac) (env:List Int) (s c:Int) (ps:List Int) (u v p q:Int) :
  aA n rec_ (m+3) (l,xs,env,s,c,ps,u,v,[p,q],(2:Int),(0:Int))=(rec_ (l,xs,env,p)).bind fun r2=>cond (decide (r2.2.2<(0:Int))) (some (Sum.inl (r2.1,r2.2.1,(-1:Int)))) ((rec_ (r2.1,r2.2.1,env,q)).bind fun r3=>cond (decide (r3.2.2<(0:Int))) (some (Sum.inl (r3.1,r3.2.1,(-1:Int)))) (some (Sum.inr (r3.1,r3.2.1,s,c,ps,r2.2.2,r3.2.2)))):=by kernel_rfl
def IB (l:List iz) (res:Option IA) (m:Option (List ac×Int)):Prop:=∃ys t,res=some (l,ys,t)∧(match m with
 |some s=>(ys,t)=s
 |none=>t<0)
theorem qv{l:List iz}{xs:List ac}{m:Option (List ac×Int)}(h:∀r,m=some r→0≤r.2):IB l (some (l,(qK xs m).1,(qK xs m).2)) m:=by
 refine⟨_,_,rfl,?_⟩
 cases m with
 |none=>show(-1:Int)<0;omega
 |some s=>rfl
theorem qG{xs:List ac}{kd a b:Int}(hp:cJ xs=true):∀r,p9 xs kd a b=some r→0≤r.2:=fun r h=>(kD hp (show _=some (r.1,r.2)from h)).1.2.1
theorem ya{xs:List ac}{a e:Int}(hp:cJ xs=true):∀r,nu xs a e=some r→0≤r.2:=fun r h=>(kD hp (wo (show _=some (r.1,r.2)from h))).1.2.1
theorem uK{l1:List iz}{l2:List n5}{k:Nat}{a b:Int}{P:vu}(h:uL l1 l2 (k+1) a b=some P) :
    aY a l1.length=true∧aY b l2.length=true ∧
    (((l1.getD a.toNat zP).2.2=[]∧DS (l1.getD a.toNat zP) (l2.getD b.toNat zS)=some P) ∨
     (∃p Q,(l1.getD a.toNat zP).2.2=[p]∧uL l1 l2 k p (l2.getD b.toNat zS).2.1=some Q∧Jg (l1.getD a.toNat zP) (l2.getD b.toNat zS) Q=some P) ∨
     (∃p q Q R,(l1.getD a.toNat zP).2.2=[p,q]∧uL l1 l2 k p (l2.getD b.toNat zS).2.1=some Q∧uL l1 l2 k q (l2.getD b.toNat zS).2.2.1=some R∧IR (l1.getD a.toNat zP) (l2.getD b.toNat zS) Q R=some P)):=by
  unfold uL at h
  cases hb:(aY a l1.length&&aY b l2.length)with
  |false=>rw[hb]at h;cases h
  |true =>
    rw[hb,cond_true]at h
    rw[Bool.and_eq_true]at hb
    refine⟨hb.1,hb.2,?_⟩
    split at h
    · rename_i e;exact .inl ⟨e,h⟩
    · rename_i p e
      obtain⟨Q,h1,h2⟩:=Option.bind_eq_some_iff.1 h
      exact .inr (.inl ⟨p,Q,e,h1,h2⟩)
    · rename_i p q e
      obtain⟨Q,h1,h2⟩:=Option.bind_eq_some_iff.1 h
      obtain⟨R,h3,h4⟩:=Option.bind_eq_some_iff.1 h2
      exact .inr (.inr ⟨p,q,Q,R,e,h1,h3,h4⟩)
    · cases h
theorem GZ{env:List Int}(he:env.length=26){i:Int}(h0:0≤i) (h1:i<26):aY i env.length=true:=by
 have e:i=((i.toNat:Nat):Int):=by omega
 rw[e]
 exact ax (by omega)
theorem GC{env:List Int}(xs:List ac) (i:Int):(match mk env (.var i) xs with
  |some s=>(xs,env.getD i.toNat 0)=s
  |none=>env.getD i.toNat 0<0):=by
 by_cases hn:env.getD i.toNat 0<0
 ·have:mk env (.var i) xs=none:=by
   show(bif decide (env.getD i.toNat 0<0)then none else some (xs,env.getD i.toNat 0))=none
   rw[decide_eq_true hn];rfl
  rw[this];exact hn
 ·have:mk env (.var i) xs=some (xs,env.getD i.toNat 0):=by
   show(bif decide (env.getD i.toNat 0<0)then none else some (xs,env.getD i.toNat 0))=_
   rw[decide_eq_false hn];rfl
  rw[this]
theorem s6{l1:List iz}{l2:List n5}{env:List Int}(he:env.length=26):∀(k:Nat) (a b:Int) (P:vu) (xs:List ac) (j:Nat),uL l1 l2 k a b=some P→k≤j→cJ xs=true→IB l1 (aw N0 j (l1,xs,env,a)) (mk env P xs)
 |0,a,b,P,xs,j,h,_,_=>by cases h
 |k+1,a,b,P,xs,0,h,hj,_=>by omega
 |k+1,a,b,P,xs,j+1,h,hj,hp=>by
  have hx:=cN hp
  obtain⟨hb,_,hc⟩:=uK h
  have e0:aw N0 (j+1) (l1,xs,env,a)=cond (aY a l1.length) (cond ((l1.getD a.toNat zP).1==(110:Int)) ((eH N0 (xs,(l1.getD a.toNat zP).2.1)).bind fun r1=>(some (l1,r1.1,r1.2))) (cond ((l1.getD a.toNat zP).1==(36:Int)) (cond (aY (l1.getD a.toNat zP).2.1 env.length) (some (l1,xs,env.getD (l1.getD a.toNat zP).2.1.toNat (0:Int))) none) (cond ((l1.getD a.toNat zP).1==(63:Int)) (some (l1,xs,(-1:Int))) ((aA N0 (aw N0 j) N0 (l1,xs,env,(l1.getD a.toNat zP).1,(l1.getD a.toNat zP).2.1,(l1.getD a.toNat zP).2.2,(0:Int),(0:Int),(l1.getD a.toNat zP).2.2,((l1.getD a.toNat zP).2.2.length:Int),(0:Int))).bind fun e3=>(match e3 with
   |Sum.inl a4=>(some (a4.1,a4.2.1,a4.2.2))
   |Sum.inr b5=>(cond (b5.2.2.1==(120:Int)) ((dP N0 (b5.2.1,b5.2.2.2.2.2.2,b5.2.2.2.2.2.1)).bind fun r6=>(some (b5.1,r6.1,r6.2))) ((cO N0 (aw N0 j) (b5.1,b5.2.1,b5.2.2.1,b5.2.2.2.1,b5.2.2.2.2.1,b5.2.2.2.2.2.1,b5.2.2.2.2.2.2)).bind fun g7=>(some (g7.1,g7.2.1,g7.2.2))))))))) none:=rfl
  rw[e0,hb,cond_true]
  rcases hc with⟨hps,hl⟩|⟨p,Q,hps,h1,h2⟩|⟨p,q,Q,R,hps,h1,h2,h3⟩
  ·rcases pN hl with⟨c1,_,_,_,rfl⟩|⟨c1,c2,_,_,_,c6,c7,rfl⟩|⟨c1,c2,c3,_,_,_,_,_,rfl⟩
   ·rw[c1,cond_true,BF hx,Option.bind_some]
    exact qv (qG hp)
   ·rw[c1,c2,cond_false,cond_true,GZ he c6 c7,cond_true]
    exact⟨_,_,rfl,GC xs _⟩
   ·rw[c1,c2,c3,cond_false,cond_false,cond_true]
    exact⟨_,_,rfl,by show(-1:Int)<0;omega⟩
  ·obtain⟨⟨c1,c2,c3⟩,c4,c5,c6,c7,rfl⟩:=rN h2
   rw[c1,c2,c3,cond_false,cond_false,cond_false,hps]
   have el:(([p]:List Int).length:Int)=1:=rfl
   rw[el]
   obtain⟨ys,t,g1,g2⟩:=s6 he k p _ Q xs j h1 (by omega) hp
   have lp:=CS N0 (aw N0 j) 999999999999999999999999999998 l1 xs env (l1.getD a.toNat zP).1 (l1.getD a.toNat zP).2.1 [p] 0 0 p
   rw[show(999999999999999999999999999998+2:Nat)=N0 from by kernel_rfl,g1,Option.bind_some]at lp
   rw[lp]
   dsimp only
   show IB l1 _ ((mk env Q xs).bind fun r=>p9 r.1 (l2.getD b.toNat zS).1 r.2 0)
   cases hm:mk env Q xs with
   |none =>
    rw[hm]at g2
    have g2:t<0:=g2
    rw[decide_eq_true g2,cond_true]
    exact⟨ys, -1,rfl,by show(-1:Int)<0;omega⟩
   |some s =>
    rw[hm]at g2
    have g2:(ys,t)=s:=g2
    subst g2
    have gr:=fD hp hm
    rw[decide_eq_false (by have:=gr.2.1;omega),cond_false,Option.bind_some,Option.bind_some]
    dsimp only
    have hk0:oW (l1.getD a.toNat zP).1≠0:=by rw[c5];omega
    rw[c4,cond_false]
    unfold cO
    dsimp only
    rw[yD N0 hk0,Option.bind_some,oG (cN gr.1),Option.bind_some,Option.bind_some,c5]
    exact qv (qG gr.1)
  ·obtain⟨⟨c1,c2,c3⟩,c4,c5⟩:=rF h3
   rw[c1,c2,c3,cond_false,cond_false,cond_false,hps]
   have el:(([p,q]:List Int).length:Int)=2:=rfl
   rw[el]
   obtain⟨ys,t,g1,g2⟩:=s6 he k p _ Q xs j h1 (by omega) hp
   have lp:=CR N0 (aw N0 j) 999999999999999999999999999997 l1 xs env (l1.getD a.toNat zP).1 (l1.getD a.toNat zP).2.1 [p,q] 0 0 p q
   rw[show(999999999999999999999999999997+3:Nat)=N0 from by kernel_rfl,g1,Option.bind_some]at lp
   rw[lp]
   dsimp only
   have hmk:∀u:Nat,(mk env Q xs=none→mk env P xs=none)∧(∀s,mk env Q xs=some s→mk env R s.1=none→mk env P xs=none):=by
    intro u
    rcases c5 with⟨_,_,rfl⟩|⟨_,_,_,rfl⟩
    ·exact⟨fun e=>by show(mk env Q xs).bind _=none;rw[e];rfl,fun s e1 e2=>by show(mk env Q xs).bind _=none;rw[e1];show(mk env R s.1).bind _=none;rw[e2];rfl⟩
    ·exact⟨fun e=>by show(mk env Q xs).bind _=none;rw[e];rfl,fun s e1 e2=>by show(mk env Q xs).bind _=none;rw[e1];show(mk env R s.1).bind _=none;rw[e2];rfl⟩
   cases hm:mk env Q xs with
   |none =>
    rw[hm]at g2
    have g2:t<0:=g2
    rw[decide_eq_true g2,cond_true,(hmk 0).1 hm]
    exact⟨ys, -1,rfl,by show(-1:Int)<0;omega⟩
   |some s =>
    rw[hm]at g2
    have g2:(ys,t)=s:=g2
    subst g2
    have gr:=fD hp hm
    obtain⟨zs,u,g3,g4⟩:=s6 he k q _ R ys j h2 (by omega) gr.1
    rw[decide_eq_false (by have:=gr.2.1;omega),cond_false,g3,Option.bind_some]
    dsimp only
    cases hm2:mk env R ys with
    |none =>
     rw[hm2]at g4
     have g4:u<0:=g4
     rw[decide_eq_true g4,cond_true,(hmk 0).2 _ hm hm2]
     exact⟨zs, -1,rfl,by show(-1:Int)<0;omega⟩
    |some s2 =>
     rw[hm2]at g4
     have g4:(zs,u)=s2:=g4
     subst g4
     have gr2:=fD gr.1 hm2
     rw[decide_eq_false (by have:=gr2.2.1;omega),cond_false,Option.bind_some]
     dsimp only
     rcases c5 with⟨d1,d2,rfl⟩|⟨d1,d2,d3,rfl⟩
     ·rw[d1,cond_true,z6 (cN gr2.1),Option.bind_some]
      have e:mk env (.exp Q R) xs=nu zs u t:=by
       show(mk env Q xs).bind _=_
       rw[hm]
       show(mk env R ys).bind _=_
       rw[hm2];rfl
      rw[e]
      exact qv (ya gr2.1)
     ·have hk0:oW (l1.getD a.toNat zP).1≠0:=by rw[d2];omega
      rw[d1,cond_false]
      unfold cO
      dsimp only
      rw[yD N0 hk0,Option.bind_some,oG (cN gr2.1),Option.bind_some,Option.bind_some,d2]
      have e:mk env (.bin (l2.getD b.toNat zS).1 Q R) xs=p9 zs (l2.getD b.toNat zS).1 t u:=by
       show(mk env Q xs).bind _=_
       rw[hm]
       show(mk env R ys).bind _=_
       rw[hm2];rfl
      rw[e]
      exact qv (qG gr2.1)
abbrev Kt:=List iz×Int×Int
abbrev ID:=List iz×Bool
theorem Fn (n:Nat) (rec_:Kt→Option ID) (m:Nat) (l:List iz) (s c v p:Int) (ps:List Int) :
  be n rec_ (m+2) (l,v,s,c,ps,[p],(1:Int),(0:Int))=(rec_ (l,p,v)).bind fun r1=>cond r1.2 (some (Sum.inl (r1.1,true))) (some (Sum.inr (r1.1,v,s,c,ps))):=by kernel_rfl
theorem Fm (n:Nat) (rec_:Kt→Option ID) (m:Nat) (l:List iz) (s c v p q:Int) (ps:List Int) :
  be n rec_ (m+3) (l,v,s,c,ps,[p,q],(2:Int),(0:Int))=(rec_ (l,p,v)).bind fun r1=>cond r1.2 (some (Sum.inl (r1.1,true))) ((rec_ (r1.1,q,v)).bind fun r2=>cond r2.2 (some (Sum.inl (r2.1,true))) (some (Sum.inr (r2.1,v,s,c,ps)))):=by kernel_rfl
theorem vS{l1:List iz}{l2:List n5}:∀(k:Nat) (a b:Int) (P:vu) (j:Nat),uL l1 l2 k a b=some P→k≤j→aD N0 j (l1,a,(63:Int))=some (l1,P.asks)
 |0,a,b,P,j,h,_=>by cases h
 |k+1,a,b,P,0,h,hj=>by omega
 |k+1,a,b,P,j+1,h,hj=>by
  obtain⟨hb,_,hc⟩:=uK h
  have e0:aD N0 (j+1) (l1,a,(63:Int))=cond (aY a l1.length) ((be N0 (aD N0 j) N0 (l1,(63:Int),(l1.getD a.toNat zP).1,(l1.getD a.toNat zP).2.1,(l1.getD a.toNat zP).2.2,(l1.getD a.toNat zP).2.2,((l1.getD a.toNat zP).2.2.length:Int),(0:Int))).bind fun e2=>(match e2 with
   |Sum.inl a3=>(some (a3.1,a3.2))
   |Sum.inr b4=>(some (b4.1,(b4.2.2.1==b4.2.1))))) none:=rfl
  rw[e0,hb,cond_true]
  rcases hc with⟨hps,hl⟩|⟨p,Q,hps,h1,h2⟩|⟨p,q,Q,R,hps,h1,h2,h3⟩
  ·rw[hps]
   have lp:be N0 (aD N0 j) N0 (l1,(63:Int),(l1.getD a.toNat zP).1,(l1.getD a.toNat zP).2.1,[],[],(([]:List Int).length:Int),(0:Int))=some (Sum.inr (l1,(63:Int),(l1.getD a.toNat zP).1,(l1.getD a.toNat zP).2.1,[])):=by
    rw[show N0=999999999999999999999999999999+1 from by kernel_rfl];rfl
   rw[lp,Option.bind_some]
   show some (l1,((l1.getD a.toNat zP).1==(63:Int)))=_
   rcases pN hl with⟨c1,_,_,_,rfl⟩|⟨c1,c2,_,_,_,c6,c7,rfl⟩|⟨c1,c2,c3,_,_,_,_,_,rfl⟩
   ·have:(l1.getD a.toNat zP).1=110:=by simpa using c1
    rw[this];rfl
   ·have:(l1.getD a.toNat zP).1=36:=by simpa using c2
    rw[this];rfl
   ·rw[c3];rfl
  ·obtain⟨⟨c1,c2,c3⟩,c4,c5,c6,c7,rfl⟩:=rN h2
   rw[hps]
   have lp:=Fn N0 (aD N0 j) 999999999999999999999999999998 l1 (l1.getD a.toNat zP).1 (l1.getD a.toNat zP).2.1 63 p [p]
   rw[show(999999999999999999999999999998+2:Nat)=N0 from by kernel_rfl,vS k p _ Q j h1 (by omega),Option.bind_some]at lp
   have el:(([p]:List Int).length:Int)=1:=rfl
   rw[el,lp]
   show(cond Q.asks (some (Sum.inl (l1,true))) (some (Sum.inr (l1,(63:Int),(l1.getD a.toNat zP).1,(l1.getD a.toNat zP).2.1,[p])))).bind _=some (l1,Q.asks)
   cases Q.asks with
   |true=>rfl
   |false=>rw[cond_false,Option.bind_some];dsimp only;rw[c3]
  ·obtain⟨⟨c1,c2,c3⟩,c4,c5⟩:=rF h3
   rw[hps]
   have lp:=Fm N0 (aD N0 j) 999999999999999999999999999997 l1 (l1.getD a.toNat zP).1 (l1.getD a.toNat zP).2.1 63 p q [p,q]
   rw[show(999999999999999999999999999997+3:Nat)=N0 from by kernel_rfl,vS k p _ Q j h1 (by omega),Option.bind_some]at lp
   dsimp only at lp
   rw[vS k q _ R j h2 (by omega),Option.bind_some]at lp
   have el:(([p,q]:List Int).length:Int)=2:=rfl
   rw[el,lp]
   have ha:P.asks=(Q.asks || R.asks):=by
    rcases c5 with⟨_,_,rfl⟩|⟨_,_,_,rfl⟩<;>rfl
   rw[ha]
   cases Q.asks with
   |true=>rfl
   |false =>
    rw[cond_false]
    cases R.asks with
    |true=>rfl
    |false=>rw[cond_false,Option.bind_some];dsimp only;rw[c3];rfl
abbrev Iq:=List ac×Int
def rC (res:Option Iq) (m:Option (List ac×Int)):Prop:=∃ys t,res=some (ys,t)∧(match m with
 |some s=>(ys,t)=s
 |none=>t=-1)
theorem qu{xs:List ac}{m:Option (List ac×Int)}(h:∀r,m=some r→0≤r.2):rC (some ((qK xs m).1,(qK xs m).2)) m:=by
 refine⟨_,_,rfl,?_⟩
 cases m with
 |none=>rfl
 |some s=>rfl
theorem Jo{env:List Int}(hv:∀i:Nat,env.getD i 0<0→env.getD i 0=-1) (xs:List ac) (i:Int):(match mk env (.var i) xs with
  |some s=>(xs,env.getD i.toNat 0)=s
  |none=>env.getD i.toNat 0=-1):=by
 have h:=GC (env:=env) xs i
 cases q:mk env (.var i) xs with
 |none=>rw[q]at h;exact hv _ h
 |some s=>rw[q]at h;exact h
theorem Bd (n:Nat) (y:n5):ca n (y.1,y.2.1,y.2.2.1,y.2.2.2)=cond (y.1==(9:Int)) (some (0:Int)) (cond (y.1==(10:Int)) (some (2:Int)) ((eS n y.1).bind fun r1=>(some r1))):=rfl
theorem sD{l1:List iz}{l2:List n5}{env:List Int}(he:env.length=26) (hv:∀i:Nat,env.getD i 0<0→env.getD i 0=-1):∀(k:Nat) (a b:Int) (P:vu) (xs:List ac) (j:Nat),uL l1 l2 k a b=some P→k≤j→cJ xs=true→rC (cm N0 j (xs,env,l2,b)) (mk env P xs)
 |0,a,b,P,xs,j,h,_,_=>by cases h
 |k+1,a,b,P,xs,0,h,hj,_=>by omega
 |k+1,a,b,P,xs,j+1,h,hj,hp=>by
  have hx:=cN hp
  obtain⟨_,hb,hc⟩:=uK h
  have e0:cm N0 (j+1) (xs,env,l2,b)=cond (aY b l2.length) (cond (l2.getD b.toNat zS).2.2.2 (some (xs,(-1:Int))) (cond ((l2.getD b.toNat zS).1==(9:Int)) ((eP N0 (cm N0 j) (env,xs,[],(l2.getD b.toNat zS).1,(l2.getD b.toNat zS).2.1,(l2.getD b.toNat zS).2.2.1,(l2.getD b.toNat zS).2.2.2)).bind fun g1=>(some (g1.1,g1.2))) (cond ((l2.getD b.toNat zS).1==(1:Int)) ((fP N0 (xs,(l2.getD b.toNat zS).2.1)).bind fun r2=>(some (r2.1,r2.2))) ((cm N0 j (xs,env,l2,(l2.getD b.toNat zS).2.1)).bind fun r3=>(cond (decide (r3.2<(0:Int))) (some (xs,(-1:Int))) ((ca N0 ((l2.getD b.toNat zS).1,(l2.getD b.toNat zS).2.1,(l2.getD b.toNat zS).2.2.1,(l2.getD b.toNat zS).2.2.2)).bind fun r4=>(cond (r4==(1:Int)) ((dc N0 (r3.1,(l2.getD b.toNat zS).1,r3.2,(0:Int))).bind fun r5=>(some (r5.1,r5.2))) ((cm N0 j (r3.1,env,l2,(l2.getD b.toNat zS).2.2.1)).bind fun r6=>(cond (decide (r6.2<(0:Int))) (some (xs,(-1:Int))) (cond ((l2.getD b.toNat zS).1==(10:Int)) ((dT N0 (r6.1,r6.2,r3.2)).bind fun r7=>(some (r7.1,r7.2))) ((dc N0 (r6.1,(l2.getD b.toNat zS).1,r3.2,r6.2)).bind fun r8=>(some (r8.1,r8.2))))))))))))) none:=rfl
  rw[e0,hb,cond_true]
  have fin2:∀(z:Option Iq),(l2.getD b.toNat zS).2.2.2=P.asks→(P.asks=false→rC z (mk env P xs))→rC (cond (l2.getD b.toNat zS).2.2.2 (some (xs,(-1:Int))) z) (mk env P xs):=fun z q1 q2=>by
   rw[q1]
   cases hA:P.asks with
   |true =>
    rw[cond_true,oz xs hA]
    exact⟨xs, -1,rfl,rfl⟩
   |false=>rw[cond_false];exact q2 hA
  rcases hc with⟨hps,hl⟩|⟨p,Q,hps,h1,h2⟩|⟨p,q,Q,R,hps,h1,h2,h3⟩
  ·rcases pN hl with⟨c1,c2,c3,c4,rfl⟩|⟨_,c1,c2,c3,c4,c6,c7,rfl⟩|⟨_,_,c1,c2,c3,c4,c6,c7,rfl⟩
   ·rw[c4,c2,c3,cond_false]
    show rC ((fP N0 (xs,(l1.getD a.toNat zP).2.1)).bind fun r2=>(some (r2.1,r2.2))) _
    rw[AQ hp,Option.bind_some]
    exact qu (qG hp)
   ·rw[c4,c2,c3,cond_false]
    show rC ((eP N0 (cm N0 j) (env,xs,[],_,(l1.getD a.toNat zP).2.1,_,_)).bind fun g1=>(some (g1.1,g1.2))) _
    unfold eP
    dsimp only
    rw[GZ he c6 c7,cond_true,Option.bind_some]
    exact⟨_,_,rfl,Jo hv xs _⟩
   ·rw[c4,cond_true]
    exact⟨xs, -1,rfl,rfl⟩
  ·obtain⟨_,c4,c5,c6,c7,rfl⟩:=rN h2
   refine fin2 _ c7 fun hA=>?_
   have n9:((l2.getD b.toNat zS).1==(9:Int))=false:=by rw[beq_eq_false_iff_ne];omega
   have n1:((l2.getD b.toNat zS).1==(1:Int))=false:=by rw[beq_eq_false_iff_ne];omega
   have hpt:ca N0 ((l2.getD b.toNat zS).1,(l2.getD b.toNat zS).2.1,(l2.getD b.toNat zS).2.2.1,(l2.getD b.toNat zS).2.2.2)=some 1:=by
    rw[Bd]
    rcases c6 with e|e<;>rw[e]<;>rfl
   rw[n9,n1,cond_false,cond_false]
   obtain⟨ys,t,g1,g2⟩:=sD he hv k p _ Q xs j h1 (by omega) hp
   rw[g1,Option.bind_some]
   dsimp only
   show rC _ ((mk env Q xs).bind fun r=>p9 r.1 (l2.getD b.toNat zS).1 r.2 0)
   cases hm:mk env Q xs with
   |none =>
    rw[hm]at g2
    have g2:t=-1:=g2
    rw[decide_eq_true (by omega:t<0),cond_true]
    exact⟨xs, -1,rfl,rfl⟩
   |some s =>
    rw[hm]at g2
    have g2:(ys,t)=s:=g2
    subst g2
    have gr:=fD hp hm
    rw[decide_eq_false (by have:=gr.2.1;omega),cond_false,hpt,Option.bind_some,Option.bind_some]
    show rC ((dc N0 (ys,(l2.getD b.toNat zS).1,t,(0:Int))).bind fun r5=>(some (r5.1,r5.2))) _
    rw[ol gr.1,Option.bind_some]
    exact qu (qG gr.1)
  ·obtain⟨_,c4,c5⟩:=rF h3
   have hasks:P.asks=(Q.asks || R.asks):=by
    rcases c5 with⟨_,_,rfl⟩|⟨_,_,_,rfl⟩<;>rfl
   refine fin2 _ (c4.trans hasks.symm) fun hA=>?_
   have n9:((l2.getD b.toNat zS).1==(9:Int))=false:=by
    rw[beq_eq_false_iff_ne]
    rcases c5 with⟨_,e,_⟩|⟨_,_,e,_⟩<;>omega
   have n1:((l2.getD b.toNat zS).1==(1:Int))=false:=by
    rw[beq_eq_false_iff_ne]
    rcases c5 with⟨_,e,_⟩|⟨_,_,e,_⟩<;>omega
   have hpt:ca N0 ((l2.getD b.toNat zS).1,(l2.getD b.toNat zS).2.1,(l2.getD b.toNat zS).2.2.1,(l2.getD b.toNat zS).2.2.2)=some 2:=by
    rw[Bd]
    rcases c5 with⟨_,e,_⟩|⟨_,_,e,_⟩
    ·rw[e];rfl
    ·rcases e with e|e|e|e|e<;>rw[e]<;>rfl
   rw[n9,n1,cond_false,cond_false]
   have hmk:(mk env Q xs=none→mk env P xs=none)∧(∀s,mk env Q xs=some s→mk env R s.1=none→mk env P xs=none):=by
    rcases c5 with⟨_,_,rfl⟩|⟨_,_,_,rfl⟩
    ·exact⟨fun e=>by show(mk env Q xs).bind _=none;rw[e];rfl,fun s e1 e2=>by show(mk env Q xs).bind _=none;rw[e1];show(mk env R s.1).bind _=none;rw[e2];rfl⟩
    ·exact⟨fun e=>by show(mk env Q xs).bind _=none;rw[e];rfl,fun s e1 e2=>by show(mk env Q xs).bind _=none;rw[e1];show(mk env R s.1).bind _=none;rw[e2];rfl⟩
   obtain⟨ys,t,g1,g2⟩:=sD he hv k p _ Q xs j h1 (by omega) hp
   rw[g1,Option.bind_some]
   dsimp only
   cases hm:mk env Q xs with
   |none =>
    rw[hm]at g2
    have g2:t=-1:=g2
    rw[decide_eq_true (by omega:t<0),cond_true,hmk.1 hm]
    exact⟨xs, -1,rfl,rfl⟩
   |some s =>
    rw[hm]at g2
    have g2:(ys,t)=s:=g2
    subst g2
    have gr:=fD hp hm
    rw[decide_eq_false (by have:=gr.2.1;omega),cond_false,hpt,Option.bind_some]
    show rC ((cm N0 j (ys,env,l2,(l2.getD b.toNat zS).2.2.1)).bind fun r6=>(cond (decide (r6.2<(0:Int))) (some (xs,(-1:Int))) (cond ((l2.getD b.toNat zS).1==(10:Int)) ((dT N0 (r6.1,r6.2,t)).bind fun r7=>(some (r7.1,r7.2))) ((dc N0 (r6.1,(l2.getD b.toNat zS).1,t,r6.2)).bind fun r8=>(some (r8.1,r8.2)))))) _
    obtain⟨zs,u,g3,g4⟩:=sD he hv k q _ R ys j h2 (by omega) gr.1
    rw[g3,Option.bind_some]
    dsimp only
    cases hm2:mk env R ys with
    |none =>
     rw[hm2]at g4
     have g4:u=-1:=g4
     rw[decide_eq_true (by omega:u<0),cond_true,hmk.2 _ hm hm2]
     exact⟨xs, -1,rfl,rfl⟩
    |some s2 =>
     rw[hm2]at g4
     have g4:(zs,u)=s2:=g4
     subst g4
     have gr2:=fD gr.1 hm2
     rw[decide_eq_false (by have:=gr2.2.1;omega),cond_false]
     rcases c5 with⟨d1,d2,rfl⟩|⟨d1,d2,d3,rfl⟩
     ·rw[d2]
      show rC ((dT N0 (zs,u,t)).bind fun r7=>(some (r7.1,r7.2))) _
      rw[zr gr2.1,Option.bind_some]
      have e:mk env (.exp Q R) xs=nu zs u t:=by
       show(mk env Q xs).bind _=_
       rw[hm]
       show(mk env R ys).bind _=_
       rw[hm2];rfl
      rw[e]
      exact qu (ya gr2.1)
     ·have n10:((l2.getD b.toNat zS).1==(10:Int))=false:=by rw[beq_eq_false_iff_ne];omega
      rw[n10,cond_false,ol gr2.1,Option.bind_some]
      have e:mk env (.bin (l2.getD b.toNat zS).1 Q R) xs=p9 zs (l2.getD b.toNat zS).1 t u:=by
       show(mk env Q xs).bind _=_
       rw[hm]
       show(mk env R ys).bind _=_
       rw[hm2];rfl
      rw[e]
      exact qu (qG gr2.1)
def uX (w p:Int):List (Int×ByteArray):=(de N0 (w,p)).getD []
theorem zA{w p:Int}(hw:w=1∨w=2∨w=3) (hp:p=0∨p=1):d6 N0 (w,p)=some (uX w p,true)∧de N0 (w,p)=some (uX w p)∧(uX w p).length=5:=by
 rcases hw with rfl|rfl|rfl<;>rcases hp with rfl|rfl
 all_goals exact⟨by kernel_rfl,by kernel_rfl,by kernel_rfl⟩
def yY (T:ByteArray) (P:vu):Prop:=∃b l1 l2 k,dh N0 T=some (b,true,l1)∧fW N0 T=some (l2,true)∧k≤N0∧uL l1 l2 k ((l1.length:Int)-1) ((l2.length:Int)-1)=some P∧l1.length≤4294967296∧l2.length≤4294967296
def Ja (T:ByteArray) (f:vu→Bool):Bool:=match dh N0 T,fW N0 T with
 |some r,some q=>r.2.1&&(q.2&&((match uL r.2.2 q.1 40 ((r.2.2.length:Int)-1) ((q.1.length:Int)-1)with|some P=>f P|none=>false)&&(Nat.ble r.2.2.length 300&&Nat.ble q.1.length 300)))
 |_,_=>false
theorem Dz{T:ByteArray}{f:vu→Bool}(h:Ja T f=true):∃P,yY T P∧f P=true:=by
 unfold Ja at h
 split at h
 ·rename_i r q e1 e2
  rw[Bool.and_eq_true,Bool.and_eq_true,Bool.and_eq_true,Bool.and_eq_true]at h
  obtain⟨h1,h2,h3,h4,h5⟩:=h
  obtain⟨b,o,l1⟩:=r
  obtain⟨l2,o2⟩:=q
  have h1:o=true:=h1
  have h2:o2=true:=h2
  subst h1;subst h2
  split at h3
  ·rename_i P e3
   exact⟨P,⟨b,l1,l2,40,e1,e2,by decide,e3,Nat.le_trans (show l1.length≤300 from Nat.le_of_ble_eq_true h4) (by decide),Nat.le_trans (show l2.length≤300 from Nat.le_of_ble_eq_true h5) (by decide)⟩,h3⟩
  ·cases h3
 ·cases h
def OK (a:Int×ByteArray):Bool:=a.1==1&&(a.2.size==1&&(decide (97≤bt a.2 0)&&decide (bt a.2 0≤122))) || (a.1==3&&Ja a.2 (fun _=>true) || ((a.1==2 || a.1==4)&&Ja a.2 (fun P => !P.asks)))
def JZ (w p:Int):Bool:=(uX w p).all OK&&(List.range 5).all (fun i=>(((uX w p).getD i ((0:Int),(⟨#[]⟩:ByteArray))).1==4)==Nat.beq i 4)
theorem EK{w p:Int}(hw:w=1∨w=2∨w=3) (hp:p=0∨p=1):JZ w p=true:=by
 rcases hw with rfl|rfl|rfl<;>rcases hp with rfl|rfl
 all_goals kernel_rfl
theorem sO (h:some false=some true):False:=by cases h
structure IE (xs:List ac) (x:cg):Prop where
 way:x.1=1∨x.1=2∨x.1=3
 side:x.2.1=0∨x.2.1=1
 me:0≤x.2.2.1∧x.2.2.1≤4
 peer:0≤x.2.2.2.1∧x.2.2.2.1≤4
 ne:x.2.2.1≠x.2.2.2.1
 env:nZ xs (nH x)=true
 len:(nH x).length=26
 pool:cJ xs=true
 at0:0≤x.2.2.2.2.1∧x.2.2.2.2.1≤5
 done:dn x=(x.2.2.2.2.1==5)
 live:dn x=true→x.2.2.2.2.2.2.2.1=false
 key:dn x=true→gM xs x.2.2.2.2.2.2.2.2=true
 no:dn x=false→x.2.2.2.2.2.2.2.2=-1
theorem Jv{xs:List ac}(hx:xs.length≤4294967296){x:cg}(he:(nH x).length≤4294967296) (h:oX xs x=true):IE xs x:=by
 have h1:=(uc hx he).1
 rw[h]at h1
 obtain⟨w,p,a,b,at_,env,d,dd,key⟩:=x
 dsimp only at h1
 unfold fT at h1
 simp only[rV N0 n0 hx (show env.length≤4294967296 from he),tH,Option.bind_some]at h1
 by_cases hr:(w=1∨w=2∨w=3)∧(p=0∨p=1)
 ·obtain⟨r1,r2,r3⟩:=zA hr.1 hr.2
  rw[r1]at h1
  simp only[Option.bind_some,eE,mi N0 hx,r3,Bool.not_true,cond_false]at h1
  cases ha:(decide (a≥0)&&decide (a≤4))with
  |false=>rw[ha]at h1;exact(sO h1).elim
  |true =>
   cases hb:(decide (b≥0)&&decide (b≤4))with
   |false=>rw[ha,hb]at h1;exact(sO h1).elim
   |true =>
    cases hab:(a==b)with
    |true=>rw[ha,hb,hab]at h1;exact(sO h1).elim
    |false =>
     cases h2:(nZ xs env&&(decide (env.length=26)&&(decide (xs.length≤500)&&cF N0 [] xs)))with
     |false=>rw[ha,hb,hab,h2]at h1;exact(sO h1).elim
     |true =>
      cases h3:(decide (at_≥0)&&decide (at_≤((5:Nat):Int)))with
      |false=>rw[ha,hb,hab,h2,h3]at h1;exact(sO h1).elim
      |true =>
       rw[ha,hb,hab,h2,h3]at h1
       simp only[Bool.not_true,cond_false]at h1
       rw[Bool.and_eq_true,decide_eq_true_iff,decide_eq_true_iff]at ha hb h3
       rw[Bool.and_eq_true,Bool.and_eq_true]at h2
       have h5:(at_==((5:Nat):Int))=(at_==5):=rfl
       rw[h5]at h1
       cases h4:((at_==5) != d)with
       |true=>rw[h4]at h1;exact(sO h1).elim
       |false =>
        rw[h4,cond_false]at h1
        have h6:d=(at_==5):=by
         rw[bne_eq_false_iff_eq]at h4
         exact h4.symm
        refine⟨hr.1,hr.2,⟨ha.1,ha.2⟩,⟨hb.1,hb.2⟩,by simpa using hab,h2.1,of_decide_eq_true h2.2.1,h2.2.2,⟨h3.1,h3.2⟩,h6,fun hd=>?_,fun hd=>?_,fun hd=>?_⟩
        ·have hd:d=true:=hd
         subst hd
         show dd=false
         cases dd with
         |false=>rfl
         |true=>exact(sO h1).elim
        ·have hd:d=true:=hd
         subst hd
         cases dd with
         |false=>exact Option.some.inj h1
         |true=>exact(sO h1).elim
        ·have hd:d=false:=hd
         subst hd
         have:(key == -1)=true:=Option.some.inj h1
         exact by simpa using this
 ·rw[(AX w p hr).1]at h1
  exact(sO h1).elim
theorem BV{xs:List ac}:∀{env:List Int},nZ xs env=true→∀i:Nat,env.getD i 0<0→env.getD i 0=-1
 |[],_,i,h=>by simp at h
 |v::r,hb,i,h=>by
  have hb:((v == -1 || gM xs v)&&nZ xs r)=true:=hb
  rw[Bool.and_eq_true,Bool.or_eq_true]at hb
  match i with
  |0 =>
   have h:v<0:=h
   rcases hb.1 with q|q
   ·exact by simpa using q
   ·unfold gM at q
    simp at q
    omega
  |i+1=>exact BV hb.2 i h
theorem D6{xs:List ac}(hx:xs.length≤4294967296):cb N0 xs=some xs:=by
 unfold cb gj
 rw[decide_eq_true hx];rfl
theorem CE{T:ByteArray}{P:vu}(hT:yY T P){xs:List ac}(hp:cJ xs=true){env:List Int}(he:env.length=26) (hv:nZ xs env=true):mc N0 (xs,env,T)=some (qK xs (mk env P xs)):=by
 obtain⟨b,l1,l2,k,e1,e2,hk,hd,hl1,hl2⟩:=hT
 have hx:=cN hp
 have hP:(decide (xs.length≤500)&&cF N0 [] xs)=true:=hp
 unfold mc
 dsimp only
 rw[pR N0 n0 (by omega),hP]
 simp only[Option.bind_some,Bool.not_true,cond_false,e1]
 rw[rV N0 n0 (by omega) (by omega),hv,decide_eq_true he,hP]
 simp only[Option.bind_some,Bool.and_true,Bool.not_true,cond_false]
 have ew:bQ N0 l1=some (l1,(l1.length:Int)-1):=by
  unfold bQ
  rw[cC (by omega) (by omega)]
 rw[ew]
 simp only[Option.bind_some]
 rw[vS k _ _ P N0 hd hk]
 simp only[Option.bind_some]
 cases hA:P.asks with
 |true=>rw[cond_true,D6 (by omega),oz xs hA];rfl
 |false =>
  rw[cond_false,D6 (by omega)]
  simp only[Option.bind_some,ew]
  obtain⟨ys,t,g1,g2⟩:=s6 he k _ _ P xs N0 hd hk hp
  rw[g1]
  simp only[Option.bind_some]
  cases hm:mk env P xs with
  |none =>
   rw[hm]at g2
   have g2:t<0:=g2
   rw[decide_eq_true g2,cond_true];rfl
  |some s =>
   rw[hm]at g2
   have g2:(ys,t)=s:=g2
   subst g2
   have gr:=fD hp hm
   rw[decide_eq_false (by have:=gr.2.1;omega),cond_false];rfl
theorem CU{T:ByteArray}{P:vu}(hT:yY T P){xs:List ac}(hp:cJ xs=true){env:List Int}(he:env.length=26) (hv:nZ xs env=true):∃l2 ys t,fW N0 T=some (l2,true)∧l2.length≤4294967296∧cm N0 N0 (xs,env,l2,(l2.length:Int)-1)=some (ys,t)∧(match mk env P xs with
  |some s=>(ys,t)=s
  |none=>t=-1):=by
 obtain⟨b,l1,l2,k,e1,e2,hk,hd,hl1,hl2⟩:=hT
 obtain⟨ys,t,g1,g2⟩:=sD he (BV hv) k _ _ P xs N0 hd hk hp
 exact⟨l2,ys,t,e2,hl2,g1,g2⟩
theorem I6{w p:Int}(hw:w=1∨w=2∨w=3) (hp:p=0∨p=1){i:Nat}(hi:i<5) (a:Int×ByteArray) (ha:a=(uX w p).getD i ((0:Int),(⟨#[]⟩:ByteArray))) :
  (a.1=4↔i=4)∧((a.1=1∧a.2.size=1∧97≤bt a.2 0∧bt a.2 0≤122)∨(a.1=3∧∃P,yY a.2 P)∨((a.1=2∨a.1=4)∧∃P,yY a.2 P∧P.asks=false)):=by
 have hb:=EK hw hp
 obtain⟨_,_,hl⟩:=zA hw hp
 unfold JZ at hb
 rw[Bool.and_eq_true]at hb
 have h2:=List.all_eq_true.1 hb.2 i (List.mem_range.2 hi)
 rw[←ha]at h2
 have hm:a∈uX w p:=by
  rw[ha,List.getD_eq_getElem?_getD,List.getElem?_eq_getElem (by omega)]
  exact List.getElem_mem _
 have h1:=List.all_eq_true.1 hb.1 a hm
 refine⟨?_,?_⟩
 ·have h2:(a.1==4)=Nat.beq i 4:=by simpa using h2
  constructor
  ·intro h
   rw[h]at h2
   exact Nat.eq_of_beq_eq_true h2.symm
  ·intro h
   rw[h]at h2
   have:(a.1==4)=true:=h2
   exact by simpa using this
 ·unfold OK at h1
  rw[Bool.or_eq_true,Bool.or_eq_true,Bool.and_eq_true,Bool.and_eq_true,Bool.and_eq_true,Bool.and_eq_true,Bool.and_eq_true,Bool.or_eq_true]at h1
  rcases h1 with⟨h1,h3,h4,h5⟩|⟨h1,h3⟩|⟨h1,h3⟩
  ·exact .inl ⟨by simpa using h1,by simpa using h3,of_decide_eq_true h4,of_decide_eq_true h5⟩
  ·obtain⟨P,hP,_⟩:=Dz h3
   exact .inr (.inl ⟨by simpa using h1,P,hP⟩)
  ·obtain⟨P,hP,hA⟩:=Dz h3
   exact .inr (.inr ⟨by simpa using h1,P,hP,by simpa using hA⟩)
section
variable{xs:List ac}{kn:List Int}{li:List cg}{fr:Int}{gv sh:List Int}{lg:List bU}{k:Int}
theorem Cf (hw:ch xs kn li fr gv sh lg=true){i:Nat}(hi:i<li.length):oX xs (li.getD i zI)=true:=by
 unfold ch at hw
 rw[Bool.and_eq_true,Bool.and_eq_true,Bool.and_eq_true,Bool.and_eq_true,Bool.and_eq_true,Bool.and_eq_true]at hw
 have h:=hw.2.2.2.2.2.1
 unfold pP at h
 exact cK.1 h i (Nat.zero_le _) (by omega)
theorem rE (hs:Small xs kn li gv sh lg) (hw:ch xs kn li fr gv sh lg=true){i:Nat}(hi:i<li.length):IE xs (li.getD i zI):=Jv hs.fx (hs.fe i hi) (Cf hw hi)
def jJ (xs:List ac) (li:List cg) (k:Int):Int:=(dD N0 (xs,[],li,0,[],[],[],k)).getD 0
theorem ud{n k:Int}(h:eL n k=true):0≤k∧k<n:=by
 unfold eL at h
 rw[Bool.and_eq_true,decide_eq_true_iff,decide_eq_true_iff]at h
 omega
theorem ta{xs:List ac}{t:Int}:gM xs t=true↔0≤t∧t<(xs.length:Int):=by
 unfold gM
 rw[Bool.and_eq_true,decide_eq_true_iff,decide_eq_true_iff]
 omega
theorem GP (hl:li.length≤4294967296) (hi:eL (li.length:Int) k=true) (hg:IE xs (li.getD k.toNat zI)) :
  (dD N0 (xs,kn,li,fr,gv,sh,lg,k)=some (jJ xs li k)∧cG N0 (xs,kn,li,fr,gv,sh,lg,k)=some (xs,kn,li,fr,gv,sh,lg,jJ xs li k))∧(jJ xs li k=-1∨gM xs (jJ xs li k)=true):=by
 have hx:=cN hg.pool
 obtain⟨k0,k1⟩:=ud hi
 have hb:=ei hi
 suffices h:∃v,(dD N0 (xs,kn,li,fr,gv,sh,lg,k)=some v∧cG N0 (xs,kn,li,fr,gv,sh,lg,k)=some (xs,kn,li,fr,gv,sh,lg,v))∧(v=-1∨gM xs v=true)by
  obtain⟨v,⟨h1,h2⟩,h3⟩:=h
  have:jJ xs li k=v:=by
   unfold jJ
   rw[show dD N0 (xs,[],li,0,[],[],[],k)=dD N0 (xs,kn,li,fr,gv,sh,lg,k)from rfl,h1];rfl
  rw[this]
  exact⟨⟨h1,h2⟩,h3⟩
 have hin:(decide (k≥0)&&decide (k≤IntKind.i64.wrap ((li.length:Int)-(1:Int))))=true:=by
  rw[cC (by omega) (by omega)]
  simp
  omega
 unfold dD cG ft
 simp only[wZ,hin,Option.bind_some,Bool.not_true,cond_false,hb,cond_true]
 have q1:=hg.way
 have q2:=hg.side
 have q3:=hg.env
 have q4:=hg.len
 have q5:=hg.key
 revert q1 q2 q3 q4 q5
 generalize li.getD k.toNat zI=X
 intro q1 q2 q3 q4 q5
 cases hd:X.2.2.2.2.2.2.1 with
 |true=>exact⟨_,⟨rfl,rfl⟩, .inr (q5 hd)⟩
 |false =>
  simp only[cond_false]
  obtain⟨r1,r2,r3⟩:=zA q1 q2
  rw[r1,r2]
  simp only[Option.bind_some,r3]
  rw[show IntKind.i64.wrap (((5:Nat):Int)-(1:Int))=4 by decide,show aY 4 5=true by decide]
  simp only[cond_true]
  obtain⟨hA,hact⟩:=I6 q1 q2 (i:=4) (by decide) _ rfl
  have hA:=hA.2 rfl
  rw[show((4:Int)).toNat=4 from rfl]
  revert hA hact
  generalize (uX X.1 X.2.1).getD 4 ((0:Int),(⟨#[]⟩:ByteArray))=A
  intro hact hA
  have hT:∃P,yY A.2 P:=by
   rcases hact with⟨h,_⟩|⟨_,h⟩|⟨_,P,h,_⟩
   ·rw[hA]at h;exact absurd h (by decide)
   ·exact h
   ·exact⟨P,h⟩
  obtain⟨P,hP⟩:=hT
  have e1:jM N0 (xs,X.2.2.2.2.2.1,A.2)=some (qK xs (mk X.2.2.2.2.2.1 P xs)):=CE hP hg.pool q4 q3
  obtain⟨l2,ys,t,e2,e3,e4,e5⟩:=CU hP hg.pool q4 q3
  rw[e1,e2]
  simp only[Option.bind_some]
  rw[cC (by omega) (by omega),e4]
  simp only[Option.bind_some,mi N0 (show xs.length≤4294967296 by omega)]
  have e4:True:=trivial
  cases hm:mk X.2.2.2.2.2.1 P xs with
  |none =>
   rw[hm]at e5
   have e5:t=-1:=e5
   subst e5
   rw[show(qK xs none).2=-1 from rfl,show gM xs (-1)=false by unfold gM;simp]
   rw[decide_eq_true (by omega:(-1:Int)<(xs.length:Int))]
   exact⟨-1,⟨rfl,rfl⟩, .inl rfl⟩
  |some s =>
   rw[hm]at e5
   have e5:(ys,t)=s:=e5
   subst e5
   have gr:=fD hg.pool hm
   have t0:=gr.2.1
   rw[show(qK xs (some (ys,t))).2=t from rfl]
   by_cases ht:t<(xs.length:Int)
   ·rw[decide_eq_true ht,ta.2 ⟨t0,ht⟩]
    exact⟨t,⟨rfl,rfl⟩, .inr (ta.2 ⟨t0,ht⟩)⟩
   ·have:gM xs t=false:=by
     rw[←Bool.not_eq_true,ta]
     omega
    rw[decide_eq_false ht,this]
    exact⟨-1,⟨rfl,rfl⟩, .inl rfl⟩
theorem rD (hs:Small xs kn li gv sh lg) (hw:ch xs kn li fr gv sh lg=true) (hi:eL (li.length:Int) k=true) :
  (dD N0 (xs,kn,li,fr,gv,sh,lg,k)=some (jJ xs li k)∧cG N0 (xs,kn,li,fr,gv,sh,lg,k)=some (xs,kn,li,fr,gv,sh,lg,jJ xs li k))∧(jJ xs li k=-1∨gM xs (jJ xs li k)=true) :=
 GP hs.fl hi (rE hs hw (by obtain⟨a,b⟩:=ud hi;omega))
def kj (d:Nat→Bool):Nat→Nat→List Int
 |_,0=>[]
 |i,m+1=>bif d i then(i:Int)::kj d (i+1) m else kj d (i+1) m
theorem u3{d e:Nat→Bool}:∀{m i:Nat},(∀j,i≤j→j<i+m→d j=e j)→kj d i m=kj e i m
 |0,_,_=>rfl
 |m+1,i,h=>by
  unfold kj
  rw[h i (Nat.le_refl _) (by omega),u3 (m:=m) (i:=i+1) (fun j h1 h2=>h j (by omega) (by omega))]
theorem wt{d:Nat→Bool}:∀{m i:Nat},(∀j,i≤j→j<i+m→d j=false)→kj d i m=[]
 |0,_,_=>rfl
 |m+1,i,h=>by
  unfold kj
  rw[h i (Nat.le_refl _) (by omega),cond_false,wt (m:=m) (i:=i+1) (fun j h1 h2=>h j (by omega) (by omega))]
def IL (xs:List ac) (li:List cg) (k:Int) (j:Nat):Bool :=
 let X:=li.getD k.toNat zI
 let Y:=li.getD j zI
 (Y.1==X.1)&&(!(Y.2.1==X.2.1)&&((Y.2.2.1==X.2.2.2.1)&&((Y.2.2.2.1==X.2.2.1)&&((jJ xs li (j:Int)==jJ xs li k)&&((X.2.1==0) || dn Y)))))
def pG (xs:List ac) (li:List cg) (k:Int):List Int:=bif decide (jJ xs li k<0)then []else kj (IL xs li k) 0 li.length
theorem Le {α:Type}{c1 c2 c3 c4 c5 c6 c7 c8 c9:Bool}{S T:α}:(cond c1 S (cond c2 S (cond c3 S (cond c4 S (cond c5 S (cond c6 (cond c7 S (cond c8 (cond c9 T S) S)) (cond c8 (cond c9 T S) S)))))))
  = cond (!c1&&(!c2&&(!c3&&(!c4&&(!c5&&((!c6 || !c7)&&(c8&&c9))))))) T S:=by
 cases c1<;>cases c2<;>cases c3<;>cases c4<;>cases c5<;>cases c6<;>cases c7<;>cases c8<;>cases c9<;>rfl
theorem Ld {α:Type}{c1 c2 c3 c4 c5 c6 c7:Bool}{S T:α}:(cond c1 (cond c2 (cond c3 (cond c4 (cond c5 (cond c6 T (cond c7 T S)) S) S) S) S) S)
  = cond (c1&&(c2&&(c3&&(c4&&(c5&&(c6 || c7)))))) T S:=by
 cases c1<;>cases c2<;>cases c3<;>cases c4<;>cases c5<;>cases c6<;>cases c7<;>rfl
def pI (xs:List ac) (li:List cg) (k:Int) (j:Nat):Bool :=
 let X:=li.getD k.toNat zI
 let Y:=li.getD j zI
 !((j:Int)==k)&&(!(Y.1 != X.1)&&(!(Y.2.1==X.2.1)&&(!(Y.2.2.1 != X.2.2.2.1)&&(!(Y.2.2.2.1 != X.2.2.1)&&((!(X.2.1==1) || !(!(dn Y)))&&((jJ xs li k != -1)&&(jJ xs li (j:Int)==jJ xs li k)))))))
theorem nA (hs:Small xs kn li gv sh lg) (hw:ch xs kn li fr gv sh lg=true) (X:cg) (hX:X=li.getD k.toNat zI):∀(m i:Nat) (out:List Int),i≤li.length→li.length<m+i→out.length≤i →
  ag N0 m (xs,kn,li,fr,gv,sh,lg,k,X.1,X.2.1,X.2.2.1,X.2.2.2.1,X.2.2.2.2.1,X.2.2.2.2.2.1,X.2.2.2.2.2.2.1,X.2.2.2.2.2.2.2.1,X.2.2.2.2.2.2.2.2,jJ xs li k,out,li,(li.length:Int),(i:Int))=some (xs,kn,li,fr,gv,sh,lg,out++kj (pI xs li k) i (li.length-i))
 |0,i,out,h1,h2,h3=>by omega
 |m+1,i,out,h1,h2,h3=>by
  have hl:=hs.fl
  rcases Nat.eq_or_lt_of_le h1 with q|q
  ·subst q
   rw[ag];dsimp only
   rw[gW,cond_false,Nat.sub_self]
   simp[kj]
  ·have hi:eL (li.length:Int) (i:Int)=true:=by
    unfold eL
    simp
    omega
   obtain⟨⟨_,kI⟩,_⟩:=rD (k:=(i:Int)) hs hw hi
   have hroom:co (out.length+[(i:Int)].length)=true:=by
    unfold co
    rw[List.length_singleton]
    simp
    omega
   have S:=nA hs hw X hX m (i+1) out q (by omega) (by omega)
   have T:=nA hs hw X hX m (i+1) (out++[(i:Int)]) q (by omega) (by rw[List.length_append,List.length_singleton];omega)
   rw[ag];dsimp only
   rw[gV q,cond_true,ax q,cond_true]
   simp only[Int.toNat_natCast,ap q hl,kI,Option.bind_some,hroom,cond_true,S,T]
   rw[Le]
   have e:li.length-i=(li.length-(i+1))+1:=by omega
   rw[e]
   have hp:kj (pI xs li k) i (li.length-(i+1)+1)=bif pI xs li k i then(i:Int)::kj (pI xs li k) (i+1) (li.length-(i+1))else kj (pI xs li k) (i+1) (li.length-(i+1)):=rfl
   rw[hp]
   have hc:pI xs li k i=(!((i:Int)==k)&&(!((li.getD i zI).1 != X.1)&&(!((li.getD i zI).2.1==X.2.1)&&(!((li.getD i zI).2.2.1 != X.2.2.2.1)&&(!((li.getD i zI).2.2.2.1 != X.2.2.1)&&((!(X.2.1==1) || !(!(li.getD i zI).2.2.2.2.2.2.1))&&((jJ xs li k != -1)&&(jJ xs li (i:Int)==jJ xs li k)))))))):=by
    rw[hX];rfl
   rw[←hc]
   cases pI xs li k i with
   |true=>rw[cond_true,cond_true,List.append_assoc];rfl
   |false=>rfl
theorem nq (hs:Small xs kn li gv sh lg) (hw:ch xs kn li fr gv sh lg=true) (X:cg) (hX:X=li.getD k.toNat zI):∀(m i:Nat) (out:List Int),i≤li.length→li.length<m+i→out.length≤i →
  au N0 m (xs,kn,li,fr,gv,sh,lg,out,jJ xs li k,X.1,X.2.1,X.2.2.1,X.2.2.2.1,X.2.2.2.2.1,X.2.2.2.2.2.1,X.2.2.2.2.2.2.1,X.2.2.2.2.2.2.2.1,X.2.2.2.2.2.2.2.2,(i:Int))=some (out++kj (IL xs li k) i (li.length-i))
 |0,i,out,h1,h2,h3=>by omega
 |m+1,i,out,h1,h2,h3=>by
  have hl:=hs.fl
  rcases Nat.eq_or_lt_of_le h1 with q|q
  ·subst q
   rw[au];dsimp only
   rw[gW,cond_false,Nat.sub_self]
   simp[kj]
  ·have hi:eL (li.length:Int) (i:Int)=true:=by
    unfold eL
    simp
    omega
   obtain⟨⟨kI,_⟩,_⟩:=rD (k:=(i:Int)) hs hw hi
   have hroom:co (out.length+[(i:Int)].length)=true:=by
    unfold co
    rw[List.length_singleton]
    simp
    omega
   have S:=nq hs hw X hX m (i+1) out q (by omega) (by omega)
   have T:=nq hs hw X hX m (i+1) (out++[(i:Int)]) q (by omega) (by rw[List.length_append,List.length_singleton];omega)
   rw[au];dsimp only
   rw[gV q,cond_true,ax q,cond_true]
   simp only[Int.toNat_natCast,ap q hl,kI,Option.bind_some,hroom,cond_true,S,T]
   rw[Ld]
   have e:li.length-i=(li.length-(i+1))+1:=by omega
   rw[e]
   have hp:kj (IL xs li k) i (li.length-(i+1)+1)=bif IL xs li k i then(i:Int)::kj (IL xs li k) (i+1) (li.length-(i+1))else kj (IL xs li k) (i+1) (li.length-(i+1)):=rfl
   rw[hp]
   have hc:IL xs li k i=(((li.getD i zI).1==X.1)&&(((li.getD i zI).2.1 != X.2.1)&&(((li.getD i zI).2.2.1==X.2.2.2.1)&&(((li.getD i zI).2.2.2.1==X.2.2.1)&&((jJ xs li (i:Int)==jJ xs li k)&&((X.2.1==0) || (li.getD i zI).2.2.2.2.2.2.1)))))):=by
    rw[hX];rfl
   rw[←hc]
   cases IL xs li k i with
   |true=>rw[cond_true,cond_true,List.append_assoc];rfl
   |false=>rfl
theorem ye (hs:Small xs kn li gv sh lg) (hw:ch xs kn li fr gv sh lg=true) (hi:eL (li.length:Int) k=true) :
  dQ N0 (xs,kn,li,fr,gv,sh,lg,k)=some (xs,kn,li,fr,gv,sh,lg,pG xs li k)∧fv N0 (xs,kn,li,fr,gv,sh,lg,k)=some (pG xs li k):=by
 obtain⟨⟨k1,k2⟩,k3⟩:=rD hs hw hi
 obtain⟨i0,i1⟩:=ud hi
 have hG:=rE hs hw (i:=k.toNat) (by omega)
 constructor
 ·rw[dQ];dsimp only
  rw[ei hi,cond_true,k2]
  simp only[Option.bind_some]
  have h:=nA (fr:=fr) (k:=k) hs hw (li.getD k.toNat zI) rfl N0 0 [] (Nat.zero_le _) (by have:=n0;have:=hs.fl;omega) (Nat.le_refl _)
  rw[show((0:Nat):Int)=(0:Int)from rfl]at h
  rw[h]
  simp only[Option.bind_some,List.nil_append,Nat.sub_zero]
  unfold pG
  by_cases hn:jJ xs li k<0
  ·rw[decide_eq_true hn,cond_true,wt]
   intro j _ _
   have:(jJ xs li k != -1)=false:=by
    rcases k3 with h|h
    ·rw[h];rfl
    ·have:=(ta.1 h).1;omega
   unfold pI
   simp only[this,Bool.false_and,Bool.and_false]
  ·rw[decide_eq_false hn,cond_false,u3 (e:=IL xs li k)]
   intro j _ _
   have h1:(jJ xs li k != -1)=true:=by
    rw[bne_iff_ne];omega
   have h2:=hG.side
   unfold pI IL
   dsimp only
   rw[h1]
   by_cases hjk:(j:Int)=k
   ·have h5:(li.getD j zI)=li.getD k.toNat zI:=by rw[←hjk,Int.toNat_natCast]
    rw[h5,hjk]
    simp only[beq_self_eq_true,Bool.not_true,Bool.false_and,Bool.and_false]
   ·generalize li.getD k.toNat zI=X at *
    have h3:((j:Int)==k)=false:=by simpa using hjk
    rw[h3]
    generalize li.getD j zI=Y
    have h4:(!(X.2.1==1) || !(!(dn Y)))=((X.2.1==0) || dn Y):=by
     rcases h2 with h2|h2<;>rw[h2]<;>cases dn Y<;>rfl
    rw[h4]
    simp only[bne,Bool.not_not,Bool.not_false,Bool.true_and]
    cases(Y.1==X.1)<;>cases(Y.2.1==X.2.1)<;>cases(Y.2.2.1==X.2.2.2.1)<;>cases(Y.2.2.2.1==X.2.2.1)<;>cases((X.2.1==0) || dn Y)<;>cases(jJ xs li (j:Int)==jJ xs li k)<;>rfl
 ·rw[fv];dsimp only
  rw[k1]
  simp only[Option.bind_some]
  unfold pG
  by_cases hn:jJ xs li k<0
  ·rw[decide_eq_true hn];rfl
  ·rw[decide_eq_false hn,cond_false,cond_false,ei hi,cond_true]
   have h:=nq (fr:=fr) (k:=k) hs hw (li.getD k.toNat zI) rfl N0 0 [] (Nat.zero_le _) (by have:=n0;have:=hs.fl;omega) (Nat.le_refl _)
   rw[show((0:Nat):Int)=(0:Int)from rfl]at h
   rw[h]
   simp only[Option.bind_some,List.nil_append,Nat.sub_zero]
def mf (xs:List ac) (li:List cg) (lg:List bU) (i:Nat):Bool := !gN li lg (i:Int) || (((pG xs li (i:Int)).length:Int)==1)
theorem z9 (hs:Small xs kn li gv sh lg):gf N0 (xs,kn,li,fr,gv,sh,lg)=some (ch xs kn li fr gv sh lg&&bA (mf xs li lg) 0 li.length):=by
 have hli:=hs.fl
 rw[gf];dsimp only
 rw[(kp hs).1]
 simp only[Option.bind_some]
 cases hw:ch xs kn li fr gv sh lg with
 |false=>rfl
 |true =>
  have h:=bE (aR N0) (fun i=>(xs,kn,li,fr,gv,sh,lg,(li.length:Int),(i:Int))) (mf xs li lg) false () li.length (fun m i hi=>by
   have hi0:eL (li.length:Int) (i:Int)=true:=by
    unfold eL
    simp
    omega
   rw[aR];dsimp only
   rw[gV hi,cond_true,jQ hs hw]
   simp only[Option.bind_some,ap hi hli,(ye (k:=(i:Int)) hs hw hi0).1]
   unfold mf
   cases gN li lg (i:Int)with
   |false=>rfl
   |true =>
    rw[cond_true,Bool.not_true,Bool.false_or]
    cases hq:(((pG xs li (i:Int)).length:Int)==1)with
    |true=>rw[show(((pG xs li (i:Int)).length:Int) != 1)=false by rw[bne,hq];rfl];rfl
    |false=>rw[show(((pG xs li (i:Int)).length:Int) != 1)=true by rw[bne,hq];rfl];rfl) (fun m=>by
   rw[aR];dsimp only;rw[gW];rfl) N0 0 (Nat.zero_le _) (by have:=n0;omega)
  rw[Nat.sub_zero]at h
  show((aR N0 N0 (xs,kn,li,fr,gv,sh,lg,(li.length:Int),(0:Int))).bind _)=_
  rw[show aR N0 N0 (xs,kn,li,fr,gv,sh,lg,(li.length:Int),(0:Int))=_ from h]
  cases bA (mf xs li lg) 0 li.length<;>rfl
theorem zv (hs:Small xs kn li gv sh lg):ge N0 (xs,kn,li,fr,gv,sh,lg)=some (ch xs kn li fr gv sh lg&&bA (mf xs li lg) 0 li.length):=by
 have hli:=hs.fl
 rw[ge];dsimp only
 rw[(kp hs).2]
 simp only[Option.bind_some]
 cases hw:ch xs kn li fr gv sh lg with
 |false=>rfl
 |true =>
  have h:=bE (aP N0) (fun i=>(xs,kn,li,fr,gv,sh,lg,(i:Int))) (mf xs li lg) false () li.length (fun m i hi=>by
   have hi0:eL (li.length:Int) (i:Int)=true:=by
    unfold eL
    simp
    omega
   rw[aP];dsimp only
   rw[gV hi,cond_true,mr hs hw]
   simp only[Option.bind_some,ap hi hli,(ye (k:=(i:Int)) hs hw hi0).2]
   unfold mf
   cases gN li lg (i:Int)with
   |false=>rfl
   |true =>
    rw[cond_true,Bool.not_true,Bool.false_or]
    cases hq:(((pG xs li (i:Int)).length:Int)==1)with
    |true=>rw[show(((pG xs li (i:Int)).length:Int) != 1)=false by rw[bne,hq];rfl];rfl
    |false=>rw[show(((pG xs li (i:Int)).length:Int) != 1)=true by rw[bne,hq];rfl];rfl) (fun m=>by
   rw[aP];dsimp only;rw[gW];rfl) N0 0 (Nat.zero_le _) (by have:=n0;omega)
  rw[Nat.sub_zero]at h
  show((aP N0 N0 (xs,kn,li,fr,gv,sh,lg,(0:Int))).bind _)=_
  rw[show aP N0 N0 (xs,kn,li,fr,gv,sh,lg,(0:Int))=_ from h]
  cases bA (mf xs li lg) 0 li.length<;>rfl
end
def Mc (env:List Int):Prop:=env.length=26∧∀i:Nat,env.getD i 0<0→env.getD i 0=-1
theorem IY{env:List Int}{i:Nat}(h:i<env.length) (t:Int):(env.set i t).getD i 0=t:=by
 rw[List.getD_eq_getElem?_getD,List.getElem?_set_self h];rfl
theorem Mc.set{env:List Int}(h:Mc env){i:Nat}(hi:i<env.length){t:Int}(ht:0≤t):Mc (env.set i t):=by
 refine⟨by rw[List.length_set];exact h.1,fun j hj=>?_⟩
 by_cases e:i=j
 ·subst e
  rw[IY hi]at hj
  omega
 ·have e2:(env.set i t).getD j 0=env.getD j 0:=by rw[List.getD_eq_getElem?_getD,List.getD_eq_getElem?_getD,List.getElem?_set_ne e]
  rw[e2]at hj ⊢
  exact h.2 _ hj
abbrev nd (xs:List ac) (t:Int):ac:=xs.getD t.toNat dK
theorem tc {α:Type}(pre r:List α) (a d:α):(pre++a::r).getD pre.length d=a:=by
 rw[List.getD_eq_getElem?_getD,List.getElem?_append_right (Nat.le_refl _),Nat.sub_self];rfl
theorem wY {α:Type}(pre r:List α) (a:α):aY (pre.length:Int) (pre++a::r).length=true:=ax (by simp)
theorem wK {α:Type}(pre r:List α) (a:α):decide ((pre.length:Int)<((pre++a::r).length:Int))=true:=decide_eq_true (by simp;omega)
theorem wL {α:Type}(pre:List α):decide ((pre.length:Int)<((pre++([]:List α)).length:Int))=false:=decide_eq_false (by simp)
theorem tF {α:Type}(pre r:List α) (a:α):pre++a::r=(pre++[a])++r:=by rw[List.append_assoc];rfl
theorem sW {α:Type}(pre:List α) (a:α):((pre++[a]).length:Int)=(pre.length:Int)+1:=by rw[List.length_append,List.length_singleton];omega
end AM
end Go.Proofs.YtlkgapiohfgenaaGreatDoor
namespace Go.Proofs.YtlkgapiohfgenaaGreatDoor
namespace AM
open Go.ChangeShapes Go.WideShapes Go.ChangeAt Go.RowKit
set_option linter.unusedVariables false
theorem own:ownKnob Tryz.prog.godebug=none:=by kernel_rfl
theorem DT:laidOutB Tryz.prog=true:=by kernel_rfl
theorem F1:"*"++"errors.errorString"="*errors.errorString":=by decide
theorem CJ (u:TypeId) (h:Tryz.prog.typeName? 3 u=some "*errors.errorString"):u=248 :=
 typeName_ptr_named (nm:="errors.errorString") (by rw[F1];kernel_rfl) (by kernel_rfl) (by decide) u (by rw[F1];exact h)
abbrev sZ:List (String×DataW Unit):=Rows.fnExactJudgeAllRow.laid
theorem F4{W:World}{n:String}{text:List UInt8}{g:Nat}(h:laidMet Tryz.prog [(n, .iface "*errors.errorString" (.ptr (.agg [.lit (.string text)])))] W) (hg:Tryz.prog.globalNamed n=some g) (ht:(Tryz.prog.globals[g]?).map (·.type)=some 189) :
  ∃ev,W.cell? ⟨g,0,none⟩=some ev∧(ev = .nilIface∨∃te pe,ev = .iface te pe):=by
 obtain⟨a,s,hv,_⟩:=laid_sentinel h hg ht Tryz.underlying189 CJ Tryz.underlying248 Tryz.underlying250 rfl rfl Tryz.underlying9 (by kernel_rfl) (by kernel_rfl)
 have:=World.var?_cell hg hv 0
 exact⟨_,this, .inr ⟨_,_,rfl⟩⟩
theorem facts{W:World}(h:laidMet Tryz.prog sZ W) (hs:W.ShapedOpen Tryz.prog):ae W where
 mx:=Go.Proofs.cell_of_shapedOpen_int hs (g:=0) (t:=3) (zero:=#[.int .i64 0]) (by decide) (by kernel_rfl) rfl (by kernel_rfl) (by kernel_rfl) Tryz.underlying3
 tab:=Lib.tabIs_of_head (g:=3) (t:=252) (e:=203) (n:=20) (by kernel_rfl) (by kernel_rfl) (by kernel_rfl) (by kernel_rfl) (by kernel_rfl) (by kernel_rfl)
  (jk h (.tail _ (.tail _ (.head _))))
 es:=F4 (jk h (.tail _ (.tail _ (.tail _ (.tail _ (.head _)))))) (by kernel_rfl) (by kernel_rfl)
 er:=F4 (jk h (.tail _ (.tail _ (.tail _ (.head _))))) (by kernel_rfl) (by kernel_rfl)
noncomputable def fE (os:Os):World :=
 let w0:=World.holding Tryz.prog os ⟨#[.cells #[.string ⟨#[118,97,108,117,101,32,111,117,116,32,111,102,32,114,97,110,103,101]⟩] 250, .cells #[.string ⟨#[105,110,118,97,108,105,100,32,115,121,110,116,97,120]⟩] 250], #[],[]⟩
 { w0 with heap:=((((w0.heap.modify 4 fun
   | .cells _ t frozen => .cells #[.int .u8 0, .int .u8 1, .int .u8 28, .int .u8 2, .int .u8 29, .int .u8 14, .int .u8 24, .int .u8 3, .int .u8 30, .int .u8 22, .int .u8 20, .int .u8 15, .int .u8 25, .int .u8 17, .int .u8 4, .int .u8 8, .int .u8 31, .int .u8 27, .int .u8 13, .int .u8 23, .int .u8 21, .int .u8 19, .int .u8 16, .int .u8 7, .int .u8 26, .int .u8 12, .int .u8 18, .int .u8 6, .int .u8 11, .int .u8 5, .int .u8 10, .int .u8 9] t frozen
   |o=>o).modify 5 fun
   | .cells _ t frozen => .cells #[.int .u8 0, .int .u8 1, .int .u8 56, .int .u8 2, .int .u8 57, .int .u8 49, .int .u8 28, .int .u8 3, .int .u8 61, .int .u8 58, .int .u8 42, .int .u8 50, .int .u8 38, .int .u8 29, .int .u8 17, .int .u8 4, .int .u8 62, .int .u8 47, .int .u8 59, .int .u8 36, .int .u8 45, .int .u8 43, .int .u8 51, .int .u8 22, .int .u8 53, .int .u8 39, .int .u8 33, .int .u8 30, .int .u8 24, .int .u8 18, .int .u8 12, .int .u8 5, .int .u8 63, .int .u8 55, .int .u8 48, .int .u8 27, .int .u8 60, .int .u8 41, .int .u8 37, .int .u8 16, .int .u8 46, .int .u8 35, .int .u8 44, .int .u8 21, .int .u8 52, .int .u8 32, .int .u8 23, .int .u8 11, .int .u8 54, .int .u8 26, .int .u8 40, .int .u8 15, .int .u8 34, .int .u8 20, .int .u8 31, .int .u8 10, .int .u8 25, .int .u8 14, .int .u8 19, .int .u8 9, .int .u8 13, .int .u8 8, .int .u8 7, .int .u8 6] t frozen
   |o=>o).modify 3 fun
   | .cells _ t frozen => .cells #[.int .u64 1, .int .u64 10, .int .u64 100, .int .u64 1000, .int .u64 10000, .int .u64 100000, .int .u64 1000000, .int .u64 10000000, .int .u64 100000000, .int .u64 1000000000, .int .u64 10000000000, .int .u64 100000000000, .int .u64 1000000000000, .int .u64 10000000000000, .int .u64 100000000000000, .int .u64 1000000000000000, .int .u64 10000000000000000, .int .u64 100000000000000000, .int .u64 1000000000000000000, .int .u64 10000000000000000000] t frozen
   |o=>o).modify 2 fun
   | .cells _ t frozen => .cells #[.iface 248 (.pointer (some ⟨11,0,none⟩))] t frozen
   |o=>o).modify 1 fun
   | .cells _ t frozen => .cells #[.iface 248 (.pointer (some ⟨12,0,none⟩))] t frozen
   |o=>o }
theorem sY (os:Os):(fE os).os=os:=rfl
end AM
end Go.Proofs.YtlkgapiohfgenaaGreatDoor
namespace Go.Proofs.YtlkgapiohfgenaaGreatDoor
namespace AM
open Go
set_option linter.unusedVariables false
set_option linter.unusedSimpArgs false
theorem GA{k a b:Int}{i:Nat}(hi:i≤4294967296) (h:gF N0 (k,a,b,(i:Int))=true):(k=1∧0≤a∧a≤199)∨((k=5∨k=7)∧0≤a∧a<(i:Int))∨((k=2∨k=3∨k=4∨k=6∨k=8)∧0≤a∧a<(i:Int)∧0≤b∧b<(i:Int)):=by
 have w:IntKind.i64.wrap ((i:Int)-(1:Int))=(i:Int)-1:=cC (by omega) (by omega)
 have hr:∀v lo hi:Int,aQ N0 (v,lo,hi)=some (decide (v≥lo)&&decide (v≤hi)):=fun v lo hi=>by
  unfold aQ
  cases q:decide (v≥lo)<;>(simp[q])
 have hk:gF N0 (k,a,b,(i:Int))=(cL N0 (k,a,b,(i:Int))).getD false:=rfl
 rw[hk]at h
 unfold cL at h
 dsimp only at h
 rw[w,hr,hr,hr]at h
 by_cases h1:k=1
 ·subst h1
  rw[show ce N0 1=some 0 from rfl]at h
  left
  cases q:(decide (a≥0)&&decide (a≤199))with
  |false=>simp only[Option.bind_some,beq_self_eq_true,cond_true,q]at h;cases h
  |true =>
   rw[Bool.and_eq_true,decide_eq_true_iff,decide_eq_true_iff]at q
   exact⟨rfl,q.1,q.2⟩
 by_cases h5:k=5∨k=7
 ·right;left
  have hc:ce N0 k=some 1:=by rcases h5 with rfl|rfl<;>rfl
  rw[hc]at h
  cases q:(decide (a≥0)&&decide (a≤(i:Int)-1))with
  |false=>simp only[Option.bind_some,show((1:Int)==0)=false from rfl,beq_self_eq_true,cond_true,cond_false,q]at h;cases h
  |true =>
   rw[Bool.and_eq_true,decide_eq_true_iff,decide_eq_true_iff]at q
   exact⟨h5,q.1,by omega⟩
 by_cases h2:k=2∨k=3∨k=4∨k=6∨k=8
 ·right;right
  have hc:ce N0 k=some 2:=by rcases h2 with rfl|rfl|rfl|rfl|rfl<;>rfl
  rw[hc]at h
  cases q:(decide (a≥0)&&decide (a≤(i:Int)-1))with
  |false=>simp only[Option.bind_some,show((2:Int)==0)=false from rfl,show((2:Int)==1)=false from rfl,beq_self_eq_true,cond_true,cond_false,q]at h;cases h
  |true =>
   cases q2:(decide (b≥0)&&decide (b≤(i:Int)-1))with
   |false=>simp only[Option.bind_some,show((2:Int)==0)=false from rfl,show((2:Int)==1)=false from rfl,beq_self_eq_true,cond_true,cond_false,q,q2]at h;cases h
   |true =>
    rw[Bool.and_eq_true,decide_eq_true_iff,decide_eq_true_iff]at q q2
    exact⟨h2,q.1,by omega,q2.1,by omega⟩
 exfalso
 have hc:∃c,ce N0 k=some c∧c≠0∧c≠1∧c≠2:=by
  unfold ce
  simp only[show(k==1)=false from by rw[beq_eq_false_iff_ne];exact h1,show(k==2)=false from by rw[beq_eq_false_iff_ne];omega,show(k==3)=false from by rw[beq_eq_false_iff_ne];omega,show(k==4)=false from by rw[beq_eq_false_iff_ne];omega,show(k==5)=false from by rw[beq_eq_false_iff_ne];omega,show(k==6)=false from by rw[beq_eq_false_iff_ne];omega,show(k==7)=false from by rw[beq_eq_false_iff_ne];omega,show(k==8)=false from by rw[beq_eq_false_iff_ne];omega,cond_false]
  exact⟨_,rfl,by decide,by decide,by decide⟩
 obtain⟨c,hc,c0,c1,c2⟩:=hc
 rw[hc]at h
 simp only[Option.bind_some,show(c==0)=false from by rw[beq_eq_false_iff_ne];exact c0,show(c==1)=false from by rw[beq_eq_false_iff_ne];exact c1,show(c==2)=false from by rw[beq_eq_false_iff_ne];exact c2,cond_false]at h
 cases h
def fB (F:List Bool) (v:Int):Bool:=F.getD v.toNat false
def fN (F:List Bool) (j:Nat):Bool:=F.getD j false
theorem Ac (F:List Bool) (j:Nat):fB F (j:Int)=fN F j:=by unfold fB fN;rw[Int.toNat_natCast]
def zE (xs:List ac) (F:List Bool) (b:Int):Bool:=match my xs ((7:Int),(b,(0:Int)))with
 |some j=>fN F j
 |none=>false
def xI (xs:List ac) (kn:List Int) (F:List Bool) (b:Int):Bool:=match my xs ((7:Int),(b,(0:Int)))with
 |some j=>fB F b || gg kn (j:Int)
 |none=>false
def uN (F:List Bool) (pow:Int→Bool) (n:ac):Bool :=
 bif n.1==1 then(decide (n.2.1≥0)&&decide (n.2.1≤49))else bif n.1==5 || n.1==7 then fB F n.2.1 else(fB F n.2.1&&fB F n.2.2) || (n.1==8&&((fB F n.2.1&&pow n.2.2) || (fB F n.2.2&&pow n.2.1)))
def xT (xs:List ac) (F:List Bool) (t:Nat):Bool:=uN F (zE xs F) (xs.getD t dK)
def Ao (xs:List ac) (kn:List Int) (F:List Bool) (t:Nat):Bool:=uN F (xI xs kn F) (xs.getD t dK)
def sB (xs:List ac) (kn:List Int):Nat→List Bool
 |0=>[]
 |n+1=>sB xs kn n++[gg kn (n:Int) || Ao xs kn (sB xs kn n) n]
theorem pC (xs:List ac) (kn:List Int):∀n,(sB xs kn n).length=n
 |0=>rfl
 |n+1=>by rw[sB,List.length_append,pC xs kn n];rfl
theorem zy{xs:List ac}{kn:List Int}{i:Nat}:∀{n:Nat},i<n→fN (sB xs kn n) i=(gg kn (i:Int) || Ao xs kn (sB xs kn i) i)
 |0,h=>by omega
 |n+1,h=>by
  unfold fN
  rw[sB]
  by_cases q:i=n
  ·subst q
   rw[List.getD_eq_getElem?_getD,List.getElem?_append_right (by rw[pC];exact Nat.le_refl _),pC,Nat.sub_self];rfl
  ·rw[List.getD_eq_getElem?_getD,List.getElem?_append_left (by rw[pC];omega), ←List.getD_eq_getElem?_getD]
   exact zy (by omega)
theorem I3{xs:List ac}{kn:List Int}{i n m:Nat}(h1:i<n) (h2:i<m):fN (sB xs kn n) i=fN (sB xs kn m) i:=by
 rw[zy h1,zy h2]
theorem F8{xs:List ac}{kn:List Int}{v:Int}{n m:Nat}(h0:0≤v) (h1:v<(n:Int)) (h2:v<(m:Int)):fB (sB xs kn n) v=fB (sB xs kn m) v:=by
 obtain⟨i,rfl⟩:=Int.eq_ofNat_of_zero_le h0
 rw[Ac,Ac]
 exact I3 (by omega) (by omega)
theorem C8{F G:List Bool}{p q:Int→Bool}{n:ac}{t:Nat}(hn:(n.1=1∧0≤n.2.1∧n.2.1≤199)∨((n.1=5∨n.1=7)∧0≤n.2.1∧n.2.1<(t:Int))∨((n.1=2∨n.1=3∨n.1=4∨n.1=6∨n.1=8)∧0≤n.2.1∧n.2.1<(t:Int)∧0≤n.2.2∧n.2.2<(t:Int)))
  (h:∀v,0≤v→v<(t:Int)→fB F v=fB G v∧p v=q v):uN F p n=uN G q n:=by
 unfold uN
 rcases hn with⟨a,_⟩|⟨a,b,c⟩|⟨a,b,c,d,e⟩
 ·rw[a];rfl
 ·rw[(h _ b c).1]
  rcases a with a|a<;>rw[a]<;>rfl
 ·rw[(h _ b c).1,(h _ b c).2,(h _ d e).1,(h _ d e).2]
theorem kr{xs:List ac}(hp:cJ xs=true){t:Nat}(ht:t<xs.length):((xs.getD t dK).1=1∧0≤(xs.getD t dK).2.1∧(xs.getD t dK).2.1≤199)∨(((xs.getD t dK).1=5∨(xs.getD t dK).1=7)∧0≤(xs.getD t dK).2.1∧(xs.getD t dK).2.1<(t:Int))∨(((xs.getD t dK).1=2∨(xs.getD t dK).1=3∨(xs.getD t dK).1=4∨(xs.getD t dK).1=6∨(xs.getD t dK).1=8)∧0≤(xs.getD t dK).2.1∧(xs.getD t dK).2.1<(t:Int)∧0≤(xs.getD t dK).2.2∧(xs.getD t dK).2.2<(t:Int)) :=
 GA (by have:=cN hp;omega) (A9 hp ht)
abbrev iE (xs:List ac) (kn:List Int):List Bool:=sB xs kn xs.length
theorem vZ{xs:List ac}(hp:cJ xs=true){kn:List Int}{t:Nat}(ht:t<xs.length):fN (iE xs kn) t=(gg kn (t:Int) || Ao xs kn (iE xs kn) t):=by
 rw[zy ht]
 congr 1
 refine C8 (kr hp ht) fun v h0 h1=>?_
 have e:=F8 (xs:=xs) (kn:=kn) h0 h1 (show v<(xs.length:Int)by omega)
 refine⟨e,?_⟩
 unfold xI
 rw[e]
theorem ws{xs:List ac}{b:Int}{j:Nat}(h:my xs ((7:Int),(b,(0:Int)))=some j):j<xs.length∧xs.getD j dK=((7:Int),(b,(0:Int))):=by
 have:=vL h
 exact⟨by omega,this.2.2⟩
theorem IV{xs:List ac}(hp:cJ xs=true){kn:List Int}{F:List Bool}(hF:∀i,i<xs.length→fN F i=true→fN (iE xs kn) i=true){t:Nat}(ht:t<xs.length) (h:xT xs F t=true):fN (iE xs kn) t=true:=by
 rw[vZ hp ht,Bool.or_eq_true]
 right
 have hv:∀v:Int,0≤v→v<(t:Int)→fB F v=true→fB (iE xs kn) v=true:=fun v h0 h1 q=>by
  obtain⟨i,rfl⟩:=Int.eq_ofNat_of_zero_le h0
  rw[Ac]at q ⊢
  exact hF i (by omega) q
 have hw:∀v:Int,0≤v→v<(t:Int)→zE xs F v=true→xI xs kn (iE xs kn) v=true:=fun v h0 h1 q=>by
  unfold zE at q
  unfold xI
  cases e:my xs ((7:Int),(v,(0:Int)))with
  |none=>rw[e]at q;cases q
  |some j =>
   rw[e]at q
   dsimp only at q ⊢
   obtain⟨j1,j2⟩:=ws e
   have:=hF j j1 q
   rw[vZ hp j1,Bool.or_eq_true]at this
   rw[Bool.or_eq_true]
   rcases this with this|this
   ·exact .inr this
   ·left
    unfold Ao uN at this
    rw[j2]at this
    exact this
 unfold xT uN at h
 unfold Ao uN
 rcases kr hp ht with⟨a,b,c⟩|⟨a,b,c⟩|⟨a,b,c,d,e⟩
 ·rw[a]at h ⊢;exact h
 ·rcases a with a|a<;>rw[a]at h ⊢<;>exact hv _ b c h
 ·have z:((xs.getD t dK).1==1)=false∧((xs.getD t dK).1==5 || (xs.getD t dK).1==7)=false:=by
   rcases a with a|a|a|a|a<;>rw[a]<;>exact⟨rfl,rfl⟩
  rw[z.1,z.2,cond_false,cond_false]at h ⊢
  rw[Bool.or_eq_true,Bool.and_eq_true,Bool.and_eq_true,Bool.or_eq_true,Bool.and_eq_true,Bool.and_eq_true]at h ⊢
  rcases h with⟨h1,h2⟩|⟨h0,⟨h1,h2⟩|⟨h1,h2⟩⟩
  ·exact .inl ⟨hv _ b c h1,hv _ d e h2⟩
  ·exact .inr ⟨h0, .inl ⟨hv _ b c h1,hw _ d e h2⟩⟩
  ·exact .inr ⟨h0, .inr ⟨hv _ d e h1,hw _ b c h2⟩⟩
theorem GW{xs:List ac}(hp:cJ xs=true){kn:List Int}{F:List Bool}(hk:∀i,i<xs.length→gg kn (i:Int)=true→fN F i=true) (hc:∀i,i<xs.length→xT xs F i=true→fN F i=true):∀(n t:Nat),t<n→t<xs.length→fN (iE xs kn) t=true→fN F t=true
 |0,t,h,_,_=>by omega
 |n+1,t,hn,ht,h=>by
  have ih:=GW hp hk hc n
  rw[vZ hp ht,Bool.or_eq_true]at h
  rcases h with h|h
  ·exact hk t ht h
  refine hc t ht ?_
  have hv:∀v:Int,0≤v→v<(t:Int)→fB (iE xs kn) v=true→fB F v=true:=fun v h0 h1 q=>by
   obtain⟨i,rfl⟩:=Int.eq_ofNat_of_zero_le h0
   rw[Ac]at q ⊢
   exact ih i (by omega) (by omega) q
  have hw:∀v:Int,0≤v→v<(t:Int)→xI xs kn (iE xs kn) v=true→zE xs F v=true:=fun v h0 h1 q=>by
   unfold xI at q
   unfold zE
   cases e:my xs ((7:Int),(v,(0:Int)))with
   |none=>rw[e]at q;cases q
   |some j =>
    rw[e]at q
    dsimp only at q ⊢
    obtain⟨j1,j2⟩:=ws e
    rw[Bool.or_eq_true]at q
    rcases q with q|q
    ·refine hc j j1 ?_
     unfold xT uN
     rw[j2]
     exact hv v h0 h1 q
    ·exact hk j j1 q
  unfold Ao uN at h
  unfold xT uN
  rcases kr hp ht with⟨a,b,c⟩|⟨a,b,c⟩|⟨a,b,c,d,e⟩
  ·rw[a]at h ⊢;exact h
  ·rcases a with a|a<;>rw[a]at h ⊢<;>exact hv _ b c h
  ·have z:((xs.getD t dK).1==1)=false∧((xs.getD t dK).1==5 || (xs.getD t dK).1==7)=false:=by
    rcases a with a|a|a|a|a<;>rw[a]<;>exact⟨rfl,rfl⟩
   rw[z.1,z.2,cond_false,cond_false]at h ⊢
   rw[Bool.or_eq_true,Bool.and_eq_true,Bool.and_eq_true,Bool.or_eq_true,Bool.and_eq_true,Bool.and_eq_true]at h ⊢
   rcases h with⟨h1,h2⟩|⟨h0,⟨h1,h2⟩|⟨h1,h2⟩⟩
   ·exact .inl ⟨hv _ b c h1,hv _ d e h2⟩
   ·exact .inr ⟨h0, .inl ⟨hv _ b c h1,hw _ d e h2⟩⟩
   ·exact .inr ⟨h0, .inr ⟨hv _ d e h1,hw _ b c h2⟩⟩
theorem GX{xs:List ac}(hp:cJ xs=true){kn:List Int}{F:List Bool}(hl:F.length=xs.length) (hk:∀i,i<xs.length→gg kn (i:Int)=true→fN F i=true) (hle:∀i,i<xs.length→fN F i=true→fN (iE xs kn) i=true) (hc:∀i,i<xs.length→xT xs F i=true→fN F i=true):F=iE xs kn:=by
 refine List.ext_getElem (by rw[hl,pC]) fun i h1 h2=>?_
 have e1:fN F i=F[i]:=fc h1 false
 have e2:fN (iE xs kn) i=(iE xs kn)[i]:=fc h2 false
 rw[←e1, ←e2]
 rw[hl]at h1
 have a:=hle i h1
 have b:=GW hp hk hc (i+1) i (by omega) h1
 cases q:fN F i with
 |true=>rw[a q]
 |false =>
  cases r:fN (iE xs kn) i with
  |true=>rw[b r]at q;cases q
  |false=>rfl
theorem wk {α:Type}{xs:List α}(h:xs.length≤1000000){k:α}:co (xs.length+[k].length)=true:=by
 unfold co
 simp
 omega
def vA (t:Int):List Int→List Int
 |[]=>[t]
 |v::r=>if v<t then v::vA t r else t::v::r
def o4 (v:Int):Bool→List Int→List Int×Bool
 |b,[]=>([],b)
 |true,x::r=>(x::r,true)
 |false,x::r=>if v<x then(v::x::r,true)else(x::(o4 v false r).1,(o4 v false r).2)
theorem Cz (v:Int) (r:List Int):o4 v true r=(r,true):=by cases r<;>rfl
theorem yc (v:Int):∀(r pre out:List Int) (b:Bool) (m:Nat),r.length<m→pre.length+r.length≤1000→out.length+2*r.length≤100000→bP N0 m (pre++r,v,out,b,(pre.length:Int))=some (v,out++(o4 v b r).1,(o4 v b r).2)
 |[],pre,out,b,m,hm,hl,ho=>by
  obtain⟨i,rfl⟩:∃i,m=i+1:=⟨m-1,by omega⟩
  rw[bP]
  dsimp only
  rw[wL,cond_false]
  cases b<;>simp[o4]
 |x::r,pre,out,b,m,hm,hl,ho=>by
  obtain⟨i,rfl⟩:∃i,m=i+1:=⟨m-1,by omega⟩
  have hl':pre.length+(r.length+1)≤1000:=hl
  have hm':r.length+1<i+1:=hm
  have w:IntKind.i64.wrap ((pre.length:Int)+1)=((pre++[x]).length:Int):=by rw[cC (by omega) (by omega),sW]
  have ho2:out.length+2*(r.length+1)≤100000:=ho
  have go:∀out' b',out'.length+2*r.length≤100000→bP N0 i (pre++x::r,v,out',b',((pre++[x]).length:Int))=some (v,out'++(o4 v b' r).1,(o4 v b' r).2):=fun out' b' ho'=>by
   rw[tF]
   exact yc v r (pre++[x]) out' b' i (by omega) (by simp;omega) ho'
  rw[bP]
  dsimp only
  rw[wK,cond_true,wY,Int.toNat_natCast,tc]
  simp only[cond_true,w]
  cases b with
  |true =>
   simp only[Bool.not_true,cond_false,wk (show out.length≤1000000 by omega),cond_true]
   rw[go _ _ (by simp;omega)]
   simp[o4,Cz]
  |false =>
   simp only[Bool.not_false,cond_true]
   by_cases hx:v<x
   ·simp only[decide_eq_true (show x>v from hx),cond_true,wk (show out.length≤1000000 by omega),wk (show(out++[v]).length≤1000000 by simp;omega)]
    rw[go _ _ (by simp;omega),o4,if_pos hx,Cz]
    simp
   ·simp only[decide_eq_false (show ¬x>v from hx),cond_false,cond_true,wk (show out.length≤1000000 by omega)]
    rw[go _ _ (by simp;omega),o4,if_neg hx]
    simp
theorem A5 (v:Int):∀{r:List Int},v∉r→(bif (o4 v false r).2 then(o4 v false r).1 else(o4 v false r).1++[v])=vA v r
 |[],_=>rfl
 |x::r,h=>by
  rw[o4,vA]
  by_cases hx:v<x
  ·rw[if_pos hx,if_neg (by omega)];rfl
  ·have hne:v≠x:=fun q=>h (q▸List.mem_cons_self ..)
   rw[if_neg hx,if_pos (by omega), ←A5 v (fun q=>h (List.mem_cons_of_mem _ q))]
   dsimp only
   cases(o4 v false r).2<;>rfl
theorem wW (v:Int):∀(r:List Int),(vA v r).length=r.length+1
 |[]=>rfl
 |x::r=>by
  rw[vA]
  split
  ·rw[List.length_cons,wW v r,List.length_cons]
  ·rfl
theorem uf{l:List Int}{v:Int}:gg l v=l.contains v:=by
 rw[Bool.eq_iff_iff,List.contains_iff_mem,ug,List.mem_iff_getElem]
 constructor
 ·rintro ⟨j,hj,e⟩
  exact⟨j,hj,by rw[←e];simp[List.getD_eq_getElem?_getD,hj]⟩
 ·rintro ⟨j,hj,e⟩
  exact⟨j,hj,by rw[←e];simp[List.getD_eq_getElem?_getD,hj]⟩
theorem Ih{l:List Int}(h:∀u,u<l.length→dO l u=true):l.Pairwise (·<·):=by
 rw[List.pairwise_iff_getElem]
 intro i j hi hj hij
 have step:∀k,i+1+k<l.length→l.getD i 0<l.getD (i+1+k) 0:=by
  intro k
  induction k with
  |zero =>
   intro hk
   have:=h (i+1) hk
   unfold dO at this
   rw[decide_eq_false (by omega:¬i+1=0),Bool.false_or,decide_eq_true_iff]at this
   exact this
  |succ k ih =>
   intro hk
   have h1:=ih (by omega)
   have:=h (i+1+(k+1)) hk
   unfold dO at this
   rw[decide_eq_false (by omega:¬i+1+(k+1)=0),Bool.false_or,decide_eq_true_iff]at this
   have e:i+1+(k+1)-1=i+1+k:=by omega
   rw[e]at this
   omega
 have:=step (j-(i+1)) (by omega)
 have e:i+1+(j-(i+1))=j:=by omega
 rw[e]at this
 have e1:l.getD i 0=l[i]:=by simp[List.getD_eq_getElem?_getD,hi]
 have e2:l.getD j 0=l[j]:=by simp[List.getD_eq_getElem?_getD,hj]
 rw[e1,e2]at this
 exact this
def qJ (kn:List Int) (v:Int):List Int:=bif kn.contains v then kn else vA v kn
theorem A6 (kn:List Int) (v:Int):(qJ kn v).length≤kn.length+1:=by
 unfold qJ
 cases kn.contains v with
 |true=>exact Nat.le_succ _
 |false=>exact Nat.le_of_eq (wW v kn)
theorem vK{kn:List Int}(hl:kn.length≤900) (v:Int):gO N0 (kn,v)=some (qJ kn v):=by
 unfold qJ gO
 dsimp only
 rw[mA (by omega),Option.bind_some,uf]
 have hlp:=yc v kn [] [] (kn.contains v) N0 (by have:=n0;omega) (by simp;omega) (by simp;omega)
 have hlp':bP N0 N0 (kn,v,([]:List Int),kn.contains v,(0:Int))=_:=hlp
 rw[hlp',Option.bind_some]
 dsimp only
 cases hc:kn.contains v with
 |true =>
  rw[Cz]
  rfl
 |false =>
  have hnm:v∉kn:=fun q=>by rw[List.contains_iff_mem.2 q]at hc;cases hc
  have hi:=A5 v hnm
  have hil:=wW v kn
  rw[cond_false]
  cases hb:(o4 v false kn).2 with
  |true =>
   rw[hb,cond_true]at hi
   rw[←hi];rfl
  |false =>
   rw[hb,cond_false]at hi
   have:(o4 v false kn).1.length≤1000000:=by
    have:=congrArg List.length hi
    simp at this
    omega
   simp only[List.nil_append,Bool.not_false,cond_true,wk this,hi]
theorem wV{v x:Int}:∀{r:List Int},x∈vA v r→x=v∨x∈r
 |[],h => .inl (List.mem_singleton.1 h)
 |y::r,h=>by
  unfold vA at h
  split at h
  ·rcases List.mem_cons.1 h with e|e
   ·exact .inr (e▸List.mem_cons_self ..)
   ·rcases wV e with e|e
    ·exact .inl e
    ·exact .inr (List.mem_cons_of_mem _ e)
  ·rcases List.mem_cons.1 h with e|e
   ·exact .inl e
   ·exact .inr e
theorem zX{v x:Int}:∀{r:List Int},(x=v∨x∈r)→x∈vA v r
 |[],h=>by
  rcases h with rfl|h
  ·exact List.mem_singleton.2 rfl
  ·cases h
 |y::r,h=>by
  unfold vA
  by_cases q:y<v
  ·rw[if_pos q]
   rcases h with h|h
   ·exact List.mem_cons_of_mem _ (zX (.inl h))
   ·rcases List.mem_cons.1 h with e|e
    ·exact e▸List.mem_cons_self ..
    ·exact List.mem_cons_of_mem _ (zX (.inr e))
  ·rw[if_neg q]
   rcases h with h|h
   ·exact h▸List.mem_cons_self ..
   ·exact List.mem_cons_of_mem _ h
theorem DW{v:Int}:∀{r:List Int},v∉r→r.Pairwise (·<·)→(vA v r).Pairwise (·<·)
 |[],_,_=>List.pairwise_singleton ..
 |y::r,hv,h=>by
  have h':=List.pairwise_cons.1 h
  have hne:v≠y:=fun q=>hv (q▸List.mem_cons_self ..)
  unfold vA
  by_cases q:y<v
  ·rw[if_pos q]
   refine List.pairwise_cons.2 ⟨fun x hx=>?_,DW (fun q=>hv (List.mem_cons_of_mem _ q)) h'.2⟩
   rcases wV hx with e|e
   ·exact e▸q
   ·exact h'.1 x e
  ·rw[if_neg q]
   refine List.pairwise_cons.2 ⟨fun x hx=>?_,h⟩
   rcases List.mem_cons.1 hx with e|e
   ·omega
   ·have:=h'.1 x e
    omega
theorem Ec:∀{a b:List Int},a.Pairwise (·<·)→b.Pairwise (·<·)→(∀x,x∈a↔x∈b)→a=b
 |[],[],_,_,_=>rfl
 |[],y::r,_,_,h=>absurd ((h y).2 (List.mem_cons_self ..)) (by simp)
 |x::r,[],_,_,h=>absurd ((h x).1 (List.mem_cons_self ..)) (by simp)
 |x::r,y::q,h1,h2,h=>by
  have a1:=List.pairwise_cons.1 h1
  have a2:=List.pairwise_cons.1 h2
  have e:x=y:=by
   rcases List.mem_cons.1 ((h x).1 (List.mem_cons_self ..))with e|e
   ·exact e
   ·rcases List.mem_cons.1 ((h y).2 (List.mem_cons_self ..))with g|g
    ·exact g.symm
    ·have:=a2.1 x e
     have:=a1.1 y g
     omega
  subst e
  have:r=q:=Ec a1.2 a2.2 fun v=>by
   constructor
   ·intro hv
    rcases List.mem_cons.1 ((h v).1 (List.mem_cons_of_mem _ hv))with e|e
    ·have:=a1.1 v hv
     omega
    ·exact e
   ·intro hv
    rcases List.mem_cons.1 ((h v).2 (List.mem_cons_of_mem _ hv))with e|e
    ·have:=a2.1 v hv
     omega
    ·exact e
  rw[this]
theorem yR{d:Array Int}{x:Int}:∀j,d[j]! = x→∃i,i≤j∧Lib.keeps d i=true∧d[i]! = x
 |0,h=>⟨0,Nat.le_refl _,by simp[Lib.keeps],h⟩
 |j+1,h=>by
  by_cases q:d[j+1]! = d[j]!
  ·obtain⟨i,h1,h2,h3⟩:=yR j (q▸h)
   exact⟨i,by omega,h2,h3⟩
  ·exact⟨j+1,Nat.le_refl _,by simp only[Lib.keeps,Nat.add_sub_cancel];exact decide_eq_true (.inr q),h⟩
theorem JE{zs:List Int}{x:Int}:x∈zs↔∃j,j<zs.length∧zs.toArray[j]! = x:=by
 constructor
 ·intro h
  obtain⟨j,h1,h2⟩:=List.getElem_of_mem h
  exact⟨j,h1,by simp[h1,h2]⟩
 ·rintro ⟨j,h1,h2⟩
  have:zs[j]=x:=by simpa [h1]using h2
  exact this▸List.getElem_mem h1
theorem G1{zs:List Int}(x:Int):x∈Lib.compact zs↔x∈zs:=by
 unfold Lib.compact Lib.compactUpTo
 rw[List.mem_map,JE]
 constructor
 ·rintro ⟨j,h1,h2⟩
  exact⟨j,List.mem_range.1 (List.mem_filter.1 h1).1,h2⟩
 ·rintro ⟨j,h1,h2⟩
  obtain⟨i,g1,g2,g3⟩:=yR j h2
  exact⟨i,List.mem_filter.2 ⟨List.mem_range.2 (by omega),g2⟩,g3⟩
theorem Ik{zs:List Int}(h:zs.Pairwise (·≤·)){i j:Nat}(hij:i≤j) (hj:j<zs.length):zs.toArray[i]!≤zs.toArray[j]!:=by
 have hi:i<zs.length:=by omega
 simp only[List.getElem!_toArray,hi,hj,getElem!_pos]
 rcases Nat.lt_or_ge i j with q|q
 ·exact List.pairwise_iff_getElem.1 h i j hi hj q
 ·have:i=j:=by omega
  subst this;exact Int.le_refl _
theorem G2{zs:List Int}(h:zs.Pairwise (·≤·)):(Lib.compact zs).Pairwise (·<·):=by
 unfold Lib.compact Lib.compactUpTo
 rw[List.pairwise_map]
 refine List.Pairwise.imp_of_mem ?_ (List.pairwise_lt_range.filter _)
 intro i j hi hj hij
 have hj1:=List.mem_filter.1 hj
 have hjl:=List.mem_range.1 hj1.1
 have hk:j=0∨zs.toArray[j]!≠zs.toArray[j-1]!:=of_decide_eq_true hj1.2
 have a1:=Ik h (show i≤j-1 by omega) (by omega)
 have a2:=Ik h (show j-1≤j by omega) hjl
 rcases hk with e|e
 ·omega
 ·omega
def Jd (xs:List Int):List Int:=Lib.compact (xs.mergeSort fun a b=>decide (a≤b))
theorem zL (xs:List Int):(Jd xs).Pairwise (·<·):=by
 refine G2 ?_
 have h:=List.pairwise_mergeSort (le:=fun a b:Int=>decide (a≤b)) (fun a b c h1 h2=>by simp only[decide_eq_true_eq]at *;omega) (fun a b=>by simp only[Bool.or_eq_true,decide_eq_true_eq];omega) xs
 exact h.imp fun q=>of_decide_eq_true q
theorem zK{xs:List Int}(x:Int):x∈Jd xs↔x∈xs:=by
 unfold Jd
 rw[G1,List.mem_mergeSort]
theorem Gf{kn:List Int}(h:kn.Pairwise (·<·)) (v:Int):(qJ kn v).Pairwise (·<·):=by
 unfold qJ
 cases q:kn.contains v with
 |true=>exact h
 |false =>
  refine DW (fun hv=>?_) h
  rw[List.contains_iff_mem.2 hv]at q
  cases q
theorem Ge{kn:List Int}{v x:Int}:x∈qJ kn v↔x=v∨x∈kn:=by
 unfold qJ
 cases q:kn.contains v with
 |true =>
  show x∈kn↔_
  constructor
  ·exact .inr
  ·rintro (e|e)
   ·exact e▸List.contains_iff_mem.1 q
   ·exact e
 |false=>exact⟨wV,zX⟩
theorem Ar:∀{b a:List Int},a.Pairwise (·<·)→b.Pairwise (·<·)→(∀x,x∈a→x∈b)→a.length≤b.length∧(a.length=b.length→a=b)
 |[],[],_,_,_=>⟨Nat.le_refl _,fun _=>rfl⟩
 |[],x::r,_,_,h=>absurd (h x (List.mem_cons_self ..)) (by simp)
 |y::q,[],_,_,_=>⟨Nat.zero_le _,fun e=>by cases e⟩
 |y::q,x::r,h1,h2,h=>by
  have a1:=List.pairwise_cons.1 h1
  have a2:=List.pairwise_cons.1 h2
  rcases List.mem_cons.1 (h x (List.mem_cons_self ..))with e|e
  ·subst e
   have ih:=Ar a1.2 a2.2 fun v hv=>by
    rcases List.mem_cons.1 (h v (List.mem_cons_of_mem _ hv))with e|e
    ·have:=a1.1 v hv
     omega
    ·exact e
   exact⟨Nat.succ_le_succ ih.1,fun e=>by rw[ih.2 (by simpa using e)]⟩
  ·have hxy:=a2.1 x e
   have ih:=Ar h1 a2.2 fun v hv=>by
    rcases List.mem_cons.1 (h v hv)with g|g
    ·rcases List.mem_cons.1 hv with k|k
     ·omega
     ·have:=a1.1 v k
      omega
    ·exact g
   have:=ih.1
   simp only[List.length_cons]at this ⊢
   exact⟨by omega,fun e=>by omega⟩
end AM
end Go.Proofs.YtlkgapiohfgenaaGreatDoor
