/- A world copied, what is heard, an instance that goes on: the reference alone, total and within bounds. Under: the world is right. And what follows it: see the remarks. -/
import Derived.Test.YtpgigedclifoeaaGreatDoorNP2
import Derived.Lib.SlicesCompact
import Derived.Test.YtpgigedclifoeaaGreatDoorRows
import Derived.Test.YtpgigedclifoeaaGreatDoorNALo
import Derived.ProofKit
import Derived.OpenShut
import Derived.Deep.DeepHandedRow
import Derived.Shelf.Vars
import Derived.Stop.LaidErr
import Derived.LaidLaws
namespace Go.Proofs.YtpgigedclifoeaaGreatDoor
namespace AM
open Go
set_option linter.unusedVariables false
set_option linter.unusedSimpArgs false
theorem yc{i n:Nat}(h:¬i<n):decide ((i:Int)<(n:Int))=false:=decide_eq_false (by omega)
structure FW (k:Nat) (xs:List ab) (kn:List Int) (li:List bo) (gv sh:List Int) (lg:List aS):Prop where
 fx:xs.length≤600
 fk:kn.length≤300
 fl:li.length≤9
 fe:∀i,i<li.length→(tu (li.getD i zI)).length≤26
 fg:gv.length≤k
 fs:sh.length≤k
 fo:lg.length≤k
section
variable{k n:Nat}{xs:List ab}{kn:List Int}{li:List bo}{fr:Int}{gv sh:List Int}{lg:List aS}
theorem FW.small (h:FW k xs kn li gv sh lg) (hk:k≤4294967296):Small xs kn li gv sh lg where
 fx:=by have:=h.fx;omega
 fk:=by have:=h.fk;omega
 fl:=by have:=h.fl;omega
 fg:=by have:=h.fg;omega
 fs:=by have:=h.fs;omega
 fo:=by have:=h.fo;omega
 fe:=fun i hi=>by have:=h.fe i hi;omega
theorem FW.more (h:FW k xs kn li gv sh lg){k':Nat}(hk:k≤k'):FW k' xs kn li gv sh lg where
 fx:=h.fx
 fk:=h.fk
 fl:=h.fl
 fg:=by have:=h.fg;omega
 fs:=by have:=h.fs;omega
 fo:=by have:=h.fo;omega
 fe:=h.fe
theorem FW.nil:FW k [] [] [] [] [] [] where
 fx:=by simp
 fk:=by simp
 fl:=by simp
 fg:=by simp
 fs:=by simp
 fo:=by simp
 fe:=fun i hi=>absurd hi (by simp)
def wq (k n:Nat) (s:Option (List ab×List Int×List bo×Int×List Int×List Int×List aS×Int)):Prop :=
 ∃xs kn li fr gv sh lg c,s=some (xs,kn,li,fr,gv,sh,lg,c)∧FW k xs kn li gv sh lg∧n≤kn.length
theorem jx{c:Int}(h:FW k xs kn li gv sh lg) (hn:n≤kn.length):wq k n (some (xs,kn,li,fr,gv,sh,lg,c)):=⟨_,_,_,_,_,_,_,_,rfl,h,hn⟩
theorem Kt{w p a b at_:Int}{env:List Int}{d dd:Bool}{key:Int}(he:env.length≤4294967296):gO N0 (w,p,a,b,at_,env,d,dd,key)=some (w,p,a,b,at_,env,d,dd,key):=by
 unfold gO
 dsimp only
 have:aI (([]:List Int).length+env.length)=true:=by
  unfold aI
  exact decide_eq_true (by rw[List.length_nil];omega)
 rw[this,cond_true,List.nil_append]
theorem AD (h:FW k xs kn li gv sh lg):∀(m i:Nat),i≤li.length→li.length-i<m→cE N0 m (xs,kn,li,fr,gv,sh,lg,[],[],[],(0:Int),[],[],[],xs,kn,li.take i,fr,gv,sh,lg,(i:Int))=some ([],[],[],(0:Int),[],[],[],xs,kn,li,fr,gv,sh,lg)
 |0,i,hi,hm=>absurd hm (by omega)
 |m+1,i,hi,hm=>by
  have hl:=h.fl
  rw[cE]
  dsimp only
  by_cases hj:i<li.length
  ·have he:=h.fe i hj
   have ht:li.take (i+1)=li.take i++[li.getD i zI]:=by
    rw[List.getD_eq_getElem?_getD,List.getElem?_eq_getElem hj,Option.getD_some]
    exact(List.take_append_getElem hj).symm
   have hr:aI ((li.take i).length+1)=true:=by
    unfold aI
    exact decide_eq_true (by rw[List.length_take];omega)
   unfold tu at he
   rw[nh hj,cond_true,iW]
   dsimp only
   rw[aq hj,cond_true,Int.toNat_natCast,show li.getD i ((0:Int),((0:Int),((0:Int),((0:Int),((0:Int),(([]:List Int),(false,(false,(0:Int)))))))))=li.getD i zI from rfl,Kt (by omega),Option.bind_some]
   dsimp only
   rw[List.length_singleton,hr,cond_true,Option.bind_some]
   dsimp only
   rw[←ht,aP hj (by omega)]
   exact AD h m (i+1) hj (by omega)
  ·rw[yc (by omega),cond_false,List.take_of_length_le (by omega)]
theorem Ba {α β:Type}{l:List α}{z:List β}(hz:z.length=0) (h:l.length≤4294967296):aI (z.length+l.length)=true:=by
 unfold aI
 exact decide_eq_true (by omega)
theorem Dw (h:FW k xs kn li gv sh lg) (hk:k≤900):dL N0 (xs,kn,li,fr,gv,sh,lg)=some (xs,kn,li,fr,gv,sh,lg):=by
 have hs:=h.small (by omega)
 have hl:=h.fl
 have e:=AD (fr:=fr) h N0 0 (Nat.zero_le _) (by have:=n0;omega)
 rw[List.take_zero,show((0:Nat):Int)=0 from rfl]at e
 unfold dL iX
 dsimp only
 rw[uM hs.fx,Option.bind_some,Ba rfl hs.fk,Ba rfl hs.fg,Ba rfl hs.fs,Ba rfl hs.fo]
 simp only[cond_true,List.nil_append,Option.bind_some]
 rw[e,Option.bind_some]
theorem Ap (ts:List Int) (hts:ts.length≤100):∀(m i:Nat) (kn:List Int),i≤ts.length→ts.length-i<m→kn.length+(ts.length-i)≤800→∃kn',cD N0 m (ts,xs,kn,li,fr,gv,sh,lg,[],[],[],(0:Int),[],[],[],(i:Int))=some (xs,kn',li,fr,gv,sh,lg,[],[],[],(0:Int),[],[],[])∧kn.length≤kn'.length∧kn'.length≤kn.length+(ts.length-i)
 |0,i,kn,hi,hm,hk=>absurd hm (by omega)
 |m+1,i,kn,hi,hm,hk=>by
  rw[cD]
  dsimp only
  by_cases hj:i<ts.length
  ·have hp:=tP kn (ts.getD i 0)
   have hp2:kn.length≤(uZ kn (ts.getD i 0)).length:=by
    unfold uZ
    cases kn.contains (ts.getD i 0)with
    |true=>exact Nat.le_refl _
    |false=>rw[cond_false,qD];omega
   obtain⟨kn',e1,e2,e3⟩:=Ap ts hts m (i+1) (uZ kn (ts.getD i 0)) hj (by omega) (by omega)
   rw[nh hj,cond_true,aq hj,cond_true,Int.toNat_natCast,xj (by omega),Option.bind_some,aP hj (by omega),e1]
   exact⟨kn',rfl,by omega,by omega⟩
  ·rw[yc (by omega),cond_false]
   exact⟨kn,rfl,Nat.le_refl _,by omega⟩
theorem Km{ts:List Int}(hts:ts.length≤100) (hk:kn.length+ts.length≤800):∃kn',bK N0 (xs,kn,li,fr,gv,sh,lg,ts)=some (xs,kn',li,fr,gv,sh,lg,decide ((kn'.length:Int)≤200))∧kn.length≤kn'.length∧kn'.length≤kn.length+ts.length:=by
 obtain⟨kn',e1,e2,e3⟩:=Ap (xs:=xs) (li:=li) (fr:=fr) (gv:=gv) (sh:=sh) (lg:=lg) ts hts N0 0 kn (Nat.zero_le _) (by have:=n0;omega) (by omega)
 rw[show((0:Nat):Int)=0 from rfl]at e1
 unfold bK iV
 dsimp only
 rw[e1]
 exact⟨kn',rfl,e2,by omega⟩
theorem Je{ts:List Int}(h:FW k xs kn li gv sh lg) (hn:n≤kn.length) (hts:ts.length≤50) (hk:kn.length≤250):wq k n ((bK N0 (xs,kn,li,fr,gv,sh,lg,ts)).bind fun r3=>(cond (!r3.2.2.2.2.2.2.2) (some (r3.1,r3.2.1,r3.2.2.1,r3.2.2.2.1,r3.2.2.2.2.1,r3.2.2.2.2.2.1,r3.2.2.2.2.2.2.1,(3:Int))) (some (r3.1,r3.2.1,r3.2.2.1,r3.2.2.2.1,r3.2.2.2.2.1,r3.2.2.2.2.2.1,r3.2.2.2.2.2.2.1,(0:Int))))):=by
 obtain⟨kn',e1,e2,e3⟩:=Km (xs:=xs) (li:=li) (fr:=fr) (gv:=gv) (sh:=sh) (lg:=lg) (ts:=ts) (kn:=kn) (by omega) (by omega)
 have hw:FW k xs kn' li gv sh lg:={ h with fk:=by omega }
 rw[e1,Option.bind_some]
 dsimp only
 cases decide ((kn'.length:Int)≤200)with
 |true=>exact jx hw (by omega)
 |false=>exact jx hw (by omega)
theorem ZO{i:Int}{w p a b at_:Int}{env:List Int}{d dd:Bool}{key:Int}{ts:List Int}(h:FW k xs kn li gv sh lg) (hk9:k≤900):∃c:aS,fi N0 (i,xs,kn,li,fr,gv,sh,lg,[],[],[],(0:Int),[],[],[],w,p,a,b,at_,env,d,dd,key,ts)=some (xs,kn,li,fr,gv,sh,lg++[c],[],[],[],(0:Int),[],[],[],ts):=by
 have hg:=h.fg
 have ho:=h.fo
 unfold fi
 dsimp only
 rw[jg (by omega),jg (by omega),Option.bind_some,Option.bind_some,List.length_singleton,show aI (lg.length+1)=true from by unfold aI;exact decide_eq_true (by omega),cond_true]
 exact⟨_,rfl⟩
theorem FW.log (h:FW k xs kn li gv sh lg) (c:aS):FW (k+1) xs kn li gv sh (lg++[c]) where
 fx:=h.fx
 fk:=h.fk
 fl:=h.fl
 fg:=by have:=h.fg;omega
 fs:=by have:=h.fs;omega
 fo:=by have:=h.fo;rw[List.length_append,List.length_singleton];omega
 fe:=h.fe
theorem MH{i:Int}{w p a b at_:Int}{env:List Int}{d dd d0:Bool}{key:Int}{ts:List Int}(h:FW k xs kn li gv sh lg) (hk9:k≤900) (hts:ts.length≤50) (hk:kn.length≤250) :
  wq (k+1) kn.length (cond d (cond (!d0) ((fi N0 (i,xs,kn,li,fr,gv,sh,lg,[],[],[],(0:Int),[],[],[],w,p,a,b,at_,env,d,dd,key,ts)).bind fun g2=>((bK N0 (g2.1,g2.2.1,g2.2.2.1,g2.2.2.2.1,g2.2.2.2.2.1,g2.2.2.2.2.2.1,g2.2.2.2.2.2.2.1,g2.2.2.2.2.2.2.2.2.2.2.2.2.2.2)).bind fun r3=>(cond (!r3.2.2.2.2.2.2.2) (some (r3.1,r3.2.1,r3.2.2.1,r3.2.2.2.1,r3.2.2.2.2.1,r3.2.2.2.2.2.1,r3.2.2.2.2.2.2.1,(3:Int))) (some (r3.1,r3.2.1,r3.2.2.1,r3.2.2.2.1,r3.2.2.2.2.1,r3.2.2.2.2.2.1,r3.2.2.2.2.2.2.1,(0:Int)))))) ((bK N0 (xs,kn,li,fr,gv,sh,lg,ts)).bind fun r3=>(cond (!r3.2.2.2.2.2.2.2) (some (r3.1,r3.2.1,r3.2.2.1,r3.2.2.2.1,r3.2.2.2.2.1,r3.2.2.2.2.2.1,r3.2.2.2.2.2.2.1,(3:Int))) (some (r3.1,r3.2.1,r3.2.2.1,r3.2.2.2.1,r3.2.2.2.2.1,r3.2.2.2.2.2.1,r3.2.2.2.2.2.2.1,(0:Int)))))) ((bK N0 (xs,kn,li,fr,gv,sh,lg,ts)).bind fun r3=>(cond (!r3.2.2.2.2.2.2.2) (some (r3.1,r3.2.1,r3.2.2.1,r3.2.2.2.1,r3.2.2.2.2.1,r3.2.2.2.2.2.1,r3.2.2.2.2.2.2.1,(3:Int))) (some (r3.1,r3.2.1,r3.2.2.1,r3.2.2.2.1,r3.2.2.2.2.1,r3.2.2.2.2.2.1,r3.2.2.2.2.2.2.1,(0:Int)))))):=by
 cases d with
 |false=>exact Je (h.more (Nat.le_succ k)) (Nat.le_refl _) hts hk
 |true =>
  cases d0 with
  |true=>exact Je (h.more (Nat.le_succ k)) (Nat.le_refl _) hts hk
  |false =>
   obtain⟨c,e⟩:=ZO (i:=i) (w:=w) (p:=p) (a:=a) (b:=b) (at_:=at_) (env:=env) (d:=true) (dd:=dd) (key:=key) (ts:=ts) (fr:=fr) h hk9
   rw[cond_true,Bool.not_false,cond_true,e,Option.bind_some]
   exact Je (h.log c) (Nat.le_refl _) hts hk
theorem Ys{ys:List ab}{w p a b at_:Int}{env:List Int}{d dd:Bool}{key:Int}{i:Nat}(h:FW k xs kn li gv sh lg) (hk9:k≤900) (hk:kn.length≤250) (hy:ys.length≤600) (he:env.length≤26) (hv:iP ys (w,p,a,b,at_,env,d,dd,key)=true) (hi:i=li.length∧li.length≤8∨i<li.length) :
  wq (k+1) kn.length (kA N0 (ys,kn,li,fr,gv,sh,lg,w,p,a,b,at_,env,d,dd,key,(i:Int))):=by
 obtain⟨zs,at',env',d',dd',key',out',nx',e1,e2,st⟩:=Kh (nx:=fr) (by omega) (by omega) hv
 have hz:=cL st.pool
 have h5:=st.few
 have h26:=st.len
 have hl:=h.fl
 unfold kA
 dsimp only
 rw[e1,Option.bind_some]
 dsimp only
 rcases hi with⟨hi,h8⟩|hi
 ·rw[show((i:Int)==(li.length:Int))=true from by rw[beq_iff_eq];omega,cond_true,List.length_singleton,show aI (li.length+1)=true from by unfold aI;exact decide_eq_true (by omega),cond_true]
  refine MH ⟨by omega,h.fk,by rw[List.length_append,List.length_singleton];omega,fun j hj=>?_,h.fg,h.fs,h.fo⟩ hk9 (by omega) hk
  rw[List.length_append,List.length_singleton]at hj
  by_cases hj2:j<li.length
  ·rw[List.getD_eq_getElem?_getD,List.getElem?_append_left hj2, ←List.getD_eq_getElem?_getD]
   exact h.fe j hj2
  ·rw[List.getD_eq_getElem?_getD,List.getElem?_append_right (by omega),show j-li.length=0 from by omega]
   show env'.length≤26
   omega
 ·rw[show((i:Int)==(li.length:Int))=false from by rw[beq_eq_false_iff_ne];omega,cond_false,aq hi,cond_true,Int.toNat_natCast]
  refine MH ⟨by omega,h.fk,by rw[List.length_set];omega,fun j hj=>?_,h.fg,h.fs,h.fo⟩ hk9 (by omega) hk
  rw[List.length_set]at hj
  rw[List.getD_eq_getElem?_getD,List.getElem?_set]
  by_cases hij:i=j
  ·rw[if_pos hij,if_pos hi,Option.getD_some]
   show env'.length≤26
   omega
  ·rw[if_neg hij, ←List.getD_eq_getElem?_getD]
   exact h.fe j hj
end
theorem GA{w p:Int}(h:¬((w=1∨w=2∨w=3)∧(p=0∨p=1))):cT N0 (w,p)=some false:=by
 unfold cT eg
 dsimp only
 by_cases w1:w=1
 ·have h0:(p==(0:Int))=false:=by rw[beq_eq_false_iff_ne];omega
  have h1:(p==(1:Int))=false:=by rw[beq_eq_false_iff_ne];omega
  subst w1
  simp only[h0,h1,beq_self_eq_true,Int.reduceBEq,cond_true,cond_false,Option.bind_some,oN,Bool.not_true]
 by_cases w2:w=2
 ·have h0:(p==(0:Int))=false:=by rw[beq_eq_false_iff_ne];omega
  have h1:(p==(1:Int))=false:=by rw[beq_eq_false_iff_ne];omega
  subst w2
  simp only[h0,h1,beq_self_eq_true,Int.reduceBEq,cond_true,cond_false,Option.bind_some,oN,Bool.not_true]
 by_cases w3:w=3
 ·have h0:(p==(0:Int))=false:=by rw[beq_eq_false_iff_ne];omega
  have h1:(p==(1:Int))=false:=by rw[beq_eq_false_iff_ne];omega
  subst w3
  simp only[h0,h1,beq_self_eq_true,Int.reduceBEq,cond_true,cond_false,Option.bind_some,oN,Bool.not_true]
 have k1:(w==(1:Int))=false:=by rw[beq_eq_false_iff_ne];exact w1
 have k2:(w==(2:Int))=false:=by rw[beq_eq_false_iff_ne];exact w2
 have k3:(w==(3:Int))=false:=by rw[beq_eq_false_iff_ne];exact w3
 simp only[k1,k2,k3,cond_false,Option.bind_some,oN,Bool.not_true]
section
variable{k n:Nat}{xs:List ab}{kn:List Int}{li:List bo}{fr:Int}{gv sh:List Int}{lg:List aS}
theorem D7 (hp:aO xs=true) (hl:kn.length≤200) (hk:yj kn xs) (T:ByteArray):∃ys t b c,gQ N0 (xs,kn,T)=some (ys,t,b,c)∧(c=0→aO ys=true∧(∃zs,ys=xs++zs)∧cC ys t=true):=by
 have hx:=cL hp
 have pS:=lq N0 n0 (xs:=xs) (by omega)
 have hP:(decide (xs.length≤500)&&cj N0 [] xs)=true:=hp
 rw[hP]at pS
 unfold gQ
 dsimp only
 rw[pS,Option.bind_some,cond_true,uM (by omega),Option.bind_some,wz (by omega) (by omega),Option.bind_some]
 cases hT:decide ((T.size:Int)>2000)with
 |true=>exact⟨_,_,_,1,rfl,fun h=>by cases h⟩
 |false =>
  rw[cond_false]
  rw[decide_eq_false_iff_not]at hT
  cases(bW (gV xs kn) 0 kn.length&&(decide (kn.length≤200)&&(decide (xs.length≤500)&&cj N0 [] xs)))with
  |false=>exact⟨_,_,_,5,rfl,fun h=>by cases h⟩
  |true =>
   obtain⟨ys,t,b,c,e1,h⟩:=Jo (T:=T) (by omega) T.size 0 xs N0 (Nat.sub_le _ _) (by have:=n0;omega) (Nat.zero_le _) hp hk
   rw[show((0:Nat):Int)=0 from rfl]at e1
   rw[Bool.not_true,cond_false,e1,Option.bind_some]
   dsimp only
   by_cases hc:c=0
   ·obtain⟨h1,h2,h3,_⟩:=h hc
    have hy:=cL h1
    rw[hc,show((0:Int) != 0)=false from rfl,cond_false,uM (by omega),Option.bind_some]
    cases decide (b<(T.size:Int))with
    |true=>exact⟨_,_,_,6,rfl,fun h=>by cases h⟩
    |false=>exact⟨_,_,_,0,rfl,fun _=>⟨h1,h2,h3⟩⟩
   ·rw[show(c != 0)=true from by rw[bne_iff_ne];exact hc,cond_true]
    exact⟨_,_,_,c,rfl,fun h=>absurd h hc⟩
theorem oK (hw:cp xs kn li fr gv sh lg=true):aO xs=true∧kn.length≤200∧yj kn xs∧li.length≤8:=by
 unfold cp pH at hw
 simp only[Bool.and_eq_true]at hw
 obtain⟨⟨h1,h2,h3⟩,h4,_⟩:=hw
 rw[dS]at h1
 refine⟨h3,of_decide_eq_true h2,fun u hu=>?_,of_decide_eq_true h4⟩
 have:=h1 u (Nat.zero_le _) (by omega)
 unfold gV at this
 rw[Bool.and_eq_true]at this
 exact this.1
theorem NO (h:FW k xs kn li gv sh lg) (hk9:k≤900) (hw:cp xs kn li fr gv sh lg=true) (kd A B C D:Int) (T:ByteArray):wq (k+1) kn.length (iM N0 (xs,kn,li,fr,gv,sh,lg,kd,A,B,C,D,T)):=by
 obtain⟨hp,h200,hki,h8⟩:=oK hw
 have no:∀c:Int,wq (k+1) kn.length (some (xs,kn,li,fr,gv,sh,lg,c)):=fun c=>jx (h.more (Nat.le_succ k)) (Nat.le_refl _)
 unfold iM
 dsimp only
 by_cases hr:(A=1∨A=2∨A=3)∧(B=0∨B=1)
 ·rw[Cm hr.1 hr.2,Option.bind_some,Bool.not_true,cond_false]
  unfold bh
  rw[qF,qF,Option.bind_some,Option.bind_some,Option.bind_some]
  cases hC:(decide (C≥0)&&decide (C≤4))with
  |false=>exact no 2
  |true =>
   rw[Bool.not_true,cond_false]
   rw[Bool.and_eq_true,decide_eq_true_iff,decide_eq_true_iff]at hC
   cases hD:(decide (D≥0)&&decide (D≤4))with
   |false=>exact no 2
   |true =>
    rw[Option.bind_some,Bool.not_true,cond_false]
    rw[Bool.and_eq_true,decide_eq_true_iff,decide_eq_true_iff]at hD
    cases hCD:(C==D)with
    |true=>exact no 2
    |false =>
     rw[cond_false]
     cases hl8:((li.length:Int)==8)with
     |true=>exact no 3
     |false =>
      rw[cond_false]
      cases(fr==8)with
      |true=>exact no 3
      |false =>
       rw[cond_false]
       cases h4:decide ((xs.length:Int)>400)with
       |true=>exact no 3
       |false =>
        rw[cond_false]
        rw[decide_eq_false_iff_not]at h4
        rw[beq_eq_false_iff_ne]at hCD hl8
        obtain⟨ys,e,e1,e2,e3,_,e5⟩:=LF hp (by omega) hr.1 hr.2 hC.1 hC.2 hD.1 hD.2 hCD
        rw[e1,Option.bind_some]
        dsimp only
        rw[Bool.not_true,cond_false]
        obtain⟨xs',kn',li',fr',gv',sh',lg',c,q,q1,q2⟩:=Ys (fr:=fr) (i:=li.length) h hk9 (by omega) (by omega) (by omega) e5 (.inl ⟨rfl,h8⟩)
        rw[q]
        exact⟨_,_,_,_,_,_,_,_,rfl,q1,q2⟩
 ·rw[GA hr]
  exact no 2
theorem FJ{A:Int}(h8:li.length≤9):(∃i:Nat,A=(i:Int)∧i<li.length∧bO N0 (A,(0:Int),IntKind.i64.wrap ((li.length:Int)-1))=some true)∨bO N0 (A,(0:Int),IntKind.i64.wrap ((li.length:Int)-1))=some false:=by
 rw[ak (by omega) (by omega),qF]
 cases hA:(decide (A≥0)&&decide (A≤(li.length:Int)-1))with
 |false=>exact .inr rfl
 |true =>
  rw[Bool.and_eq_true,decide_eq_true_iff,decide_eq_true_iff]at hA
  exact .inl ⟨A.toNat,by omega,by omega,rfl⟩
theorem Im{zs:List ab}{w p a b at_:Int}{env:List Int}{d dd:Bool}{key:Int}(hg:KW xs (w,p,a,b,at_,env,d,dd,key)) (hq:aO (xs++zs)=true):iP (xs++zs) (w,p,a,b,at_,env,d,dd,key)=true :=
 pn hg.way hg.side hg.me hg.peer hg.ne hq hg.len (kJ hg.env) hg.at0 hg.done (fun q=>⟨hg.live q,vv (hg.key q)⟩) (fun q=>hg.no q)
theorem P6 (h:FW k xs kn li gv sh lg) (hk9:k≤900) (hw:cp xs kn li fr gv sh lg=true) (kd A B C D:Int) (T:ByteArray):wq (k+1) kn.length (jH N0 (xs,kn,li,fr,gv,sh,lg,kd,A,B,C,D,T)):=by
 obtain⟨hp,h200,hki,h8⟩:=oK hw
 have no:∀c:Int,wq (k+1) kn.length (some (xs,kn,li,fr,gv,sh,lg,c)):=fun c=>jx (h.more (Nat.le_succ k)) (Nat.le_refl _)
 unfold jH
 dsimp only
 rcases FJ (A:=A) h.fl with⟨i,rfl,hi,e⟩|e
 ·obtain⟨ys,t,b,c,e1,hr⟩:=D7 hp h200 hki T
  rw[e,Option.bind_some,Bool.not_true,cond_false,e1,Option.bind_some]
  dsimp only
  by_cases hc:c=0
  ·obtain⟨g1,⟨z,rfl⟩,g3⟩:=hr hc
   rw[hc,show((0:Int) != 0)=false from rfl,cond_false]
   cases hy:decide (((xs++z).length:Int)>400)with
   |true=>exact no 3
   |false =>
    rw[decide_eq_false_iff_not]at hy
    have hg:=DN (h.small (by omega)) hw hi
    have he:=h.fe i hi
    rw[cond_false,iT]
    dsimp only
    rw[aq hi,cond_true,Int.toNat_natCast,show li.getD i ((0:Int),((0:Int),((0:Int),((0:Int),((0:Int),(([]:List Int),(false,(false,(0:Int)))))))))=li.getD i zI from rfl]
    generalize li.getD i zI=x at hg he
    obtain⟨w,p,a,b,at_,env,d,dd,key⟩:=x
    dsimp only
    obtain⟨us,at',e',d',dd',ok,q1,q2,q3,q4,_⟩:=Gs (t:=t) (by omega) (show env.length≤4294967296 from by unfold tu at he;dsimp only at he;omega) (Im hg g1)
    rw[q1,Option.bind_some,Option.bind_some]
    dsimp only
    cases ok with
    |false=>exact no 4
    |true =>
     have hu:=cL q4
     rw[Bool.not_true,cond_false]
     obtain⟨xs',kn',li',fr',gv',sh',lg',c,u,u1,u2⟩:=Ys (fr:=fr) (i:=i) h hk9 (by omega) (by omega) (by omega) q2 (.inr hi)
     rw[u]
     exact⟨_,_,_,_,_,_,_,_,rfl,u1,u2⟩
  ·rw[show(c != 0)=true from by rw[bne_iff_ne];exact hc,cond_true]
   exact no 4
 ·rw[e]
  exact no 2
theorem Qb (h:FW k xs kn li gv sh lg) (hk9:k≤800) (hw:cp xs kn li fr gv sh lg=true) (kd A B C D:Int) (T:ByteArray):wq (k+1) kn.length (jJ N0 (xs,kn,li,fr,gv,sh,lg,kd,A,B,C,D,T)):=by
 obtain⟨hp,h200,hki,h8⟩:=oK hw
 have no:∀c:Int,wq (k+1) kn.length (some (xs,kn,li,fr,gv,sh,lg,c)):=fun c=>jx (h.more (Nat.le_succ k)) (Nat.le_refl _)
 have hs:=h.fs
 unfold jJ
 dsimp only
 rcases FJ (A:=A) h.fl with⟨i,rfl,hi,e⟩|e
 ·rw[e,Option.bind_some,Bool.not_true,cond_false,aq hi,cond_true,jg (by omega),Option.bind_some,xj (by omega),Option.bind_some]
  cases(li.getD ((i:Int)).toNat ((0:Int),((0:Int),((0:Int),((0:Int),((0:Int),(([]:List Int),(false,(false,(0:Int)))))))))).2.2.2.2.2.2.1 with
  |false=>exact no 2
  |true =>
   rw[Bool.not_true,cond_false]
   cases kr sh (i:Int)with
   |true=>exact no 2
   |false =>
    rw[cond_false,iU]
    dsimp only
    have hpl:=tP sh (i:Int)
    obtain⟨kn',e1,e2,e3⟩:=Km (xs:=xs) (li:=li) (fr:=fr) (gv:=gv) (sh:=uZ sh (i:Int)) (lg:=lg) (ts:=[(li.getD ((i:Int)).toNat ((0:Int),((0:Int),((0:Int),((0:Int),((0:Int),(([]:List Int),(false,(false,(0:Int)))))))))).2.2.2.2.2.2.2.2]) (kn:=kn) (by rw[List.length_singleton];omega) (by rw[List.length_singleton];omega)
    rw[List.length_singleton]at e3
    have hf:FW (k+1) xs kn' li gv (uZ sh (i:Int)) lg:={ h.more (Nat.le_succ k)with fk:=by omega,fs:=by omega }
    rw[aq hi,cond_true,e1,Option.bind_some,Option.bind_some]
    dsimp only
    cases decide ((kn'.length:Int)≤200)with
    |false=>exact jx hf e2
    |true=>exact jx hf e2
 ·rw[e]
  exact no 2
end
section
variable{k n:Nat}{xs:List ab}{kn:List Int}{li:List bo}{fr:Int}{gv sh:List Int}{lg:List aS}
theorem sT (kd A B C D:Int) (T:ByteArray) (a0:0≤A) (a4:A≤4):∀(m i:Nat) (ns:List Int),i≤5→5-i<m→ns.length≤i+2→∃ns',ca N0 m (xs,kn,li,fr,gv,sh,lg,kd,A,B,C,D,T,[],[],[],(0:Int),[],[],[],ns,(i:Int))=some (xs,kn,li,fr,gv,sh,lg,kd,A,B,C,D,T,[],[],[],(0:Int),[],[],[],ns')∧ns'.length≤7
 |0,i,ns,hi,hm,_=>absurd hm (by omega)
 |m+1,i,ns,hi,hm,hl=>by
  rw[ca]
  dsimp only
  by_cases h5:i<5
  ·have w:IntKind.i64.wrap ((i:Int)+1)=((i+1:Nat):Int):=by rw[ak (by omega) (by omega)];omega
   rw[show decide ((i:Int)<5)=true from decide_eq_true (by omega),cond_true,w]
   cases hA:((i:Int) != A)with
   |false =>
    rw[cond_false]
    exact sT kd A B C D T a0 a4 m (i+1) ns (by omega) (by omega) (by omega)
   |true =>
    rw[bne_iff_ne]at hA
    obtain⟨v,e,_⟩:=tL (a:=A) (b:=(i:Int)) a0 a4 (by omega) (by omega) (fun q=>hA q.symm)
    rw[cond_true,e,Option.bind_some,List.length_singleton,show aI (ns.length+1)=true from by unfold aI;exact decide_eq_true (by omega),cond_true]
    exact sT kd A B C D T a0 a4 m (i+1) (ns++[v]) (by omega) (by omega) (by rw[List.length_append,List.length_singleton];omega)
  ·rw[show decide ((i:Int)<5)=false from decide_eq_false (by omega),cond_false]
   exact⟨ns,rfl,by omega⟩
def Tv (k n:Nat) (s:Option ((List ab×List Int×List bo×Int×List Int×List Int×List aS×Int)⊕(List ab×List Int×List bo×Int×List Int×List Int×List aS×List ab×List Int×List bo×Int×List Int×List Int×List aS))):Prop :=
 (∃xs kn li fr gv sh lg c,s=some (.inl (xs,kn,li,fr,gv,sh,lg,c))∧FW k xs kn li gv sh lg∧n≤kn.length)∨(∃xs kn li fr gv sh lg,s=some (.inr (xs,kn,li,fr,gv,sh,lg,[],[],[],(0:Int),[],[],[]))∧FW k xs kn li gv sh lg∧n≤kn.length)
theorem As (ns:List Int) (hns:ns.length≤7):∀(m i:Nat) (xs:List ab) (kn:List Int),i≤ns.length→ns.length-i<m→aO xs=true→kn.length≤200→n≤kn.length→FW k xs kn li gv sh lg→Tv k n (ce N0 m (xs,kn,li,fr,gv,sh,lg,[],[],[],(0:Int),[],[],[],ns,(i:Int)))
 |0,i,xs,kn,hi,hm,_,_,_,_=>absurd hm (by omega)
 |m+1,i,xs,kn,hi,hm,hp,hk,hn,h=>by
  rw[ce]
  dsimp only
  by_cases hj:i<ns.length
  ·rw[nh hj,cond_true,ii]
   dsimp only
   rw[aq hj,cond_true,jp hp,Option.bind_some,Option.bind_some]
   cases hA:iS xs 1 (ns.getD ((i:Int)).toNat 0) 0 with
   |none=>exact .inl ⟨_,_,_,_,_,_,_,_,rfl,h,hn⟩
   |some q =>
    obtain⟨ys,t⟩:=q
    obtain⟨g1,g2,_⟩:=lB hp hA
    have hy:=cL g1
    rw[show nM xs (some (ys,t))=(ys,t)from rfl]
    dsimp only
    obtain⟨kn',e1,e2,e3⟩:=Km (xs:=ys) (li:=li) (fr:=fr) (gv:=gv) (sh:=sh) (lg:=lg) (ts:=[t]) (kn:=kn) (by rw[List.length_singleton];omega) (by rw[List.length_singleton];omega)
    rw[List.length_singleton]at e3
    have hf:FW k ys kn' li gv sh lg:={ h with fx:=by omega,fk:=by omega }
    rw[show decide (t<(0:Int))=false from decide_eq_false (by have:=(jw.1 g2).1;omega),cond_false,e1,Option.bind_some]
    dsimp only
    cases h2:decide ((kn'.length:Int)≤200)with
    |false=>exact .inl ⟨_,_,_,_,_,_,_,_,rfl,hf,by omega⟩
    |true =>
     rw[decide_eq_true_iff]at h2
     rw[Bool.not_true,cond_false,aP hj (by omega)]
     exact As ns hns m (i+1) ys kn' hj (by omega) g1 (by omega) (by omega) hf
  ·rw[yc hj,cond_false]
   exact .inr ⟨_,_,_,_,_,_,_,rfl,h,hn⟩
theorem Ru (h:FW k xs kn li gv sh lg) (hk9:k≤800) (hw:cp xs kn li fr gv sh lg=true) (kd A B C D:Int) (T:ByteArray):wq (k+1) kn.length (jK N0 (xs,kn,li,fr,gv,sh,lg,kd,A,B,C,D,T)):=by
 obtain⟨hp,h200,hki,h8⟩:=oK hw
 have no:∀c:Int,wq (k+1) kn.length (some (xs,kn,li,fr,gv,sh,lg,c)):=fun c=>jx (h.more (Nat.le_succ k)) (Nat.le_refl _)
 have hg:=h.fg
 unfold jK
 dsimp only
 by_cases ha:0≤A∧A≤4
 ·rw[kK ha.1 ha.2,Option.bind_some,Bool.not_true,cond_false,jg (by omega),Option.bind_some]
  cases kr gv A with
  |true=>exact no 2
  |false =>
   have hpl:=tP gv A
   obtain⟨ns,e1,e2⟩:=sT (xs:=xs) (kn:=kn) (li:=li) (fr:=fr) (gv:=gv) (sh:=sh) (lg:=lg) kd A B C D T ha.1 ha.2 N0 0 [50+A,90+A] (by omega) (by have:=n0;omega) (by simp)
   have hf:FW (k+1) xs kn li (uZ gv A) sh lg:={ h.more (Nat.le_succ k)with fg:=by omega }
   rw[show((0:Nat):Int)=0 from rfl]at e1
   rw[cond_false,sN ha.1 ha.2,mq ha.1 ha.2,Option.bind_some,Option.bind_some,e1,Option.bind_some]
   dsimp only
   rw[xj (by omega),Option.bind_some]
   have hlp:=As (k:=k+1) (n:=kn.length) (li:=li) (fr:=fr) (gv:=uZ gv A) (sh:=sh) (lg:=lg) ns e2 N0 0 xs kn (Nat.zero_le _) (by have:=n0;omega) hp h200 (Nat.le_refl _) hf
   rw[show((0:Nat):Int)=0 from rfl]at hlp
   rcases hlp with⟨xs',kn',li',fr',gv',sh',lg',c,u,u1,u2⟩|⟨xs',kn',li',fr',gv',sh',lg',u,u1,u2⟩
   ·rw[u]
    exact⟨_,_,_,_,_,_,_,_,rfl,u1,u2⟩
   ·rw[u]
    exact⟨_,_,_,_,_,_,_,_,rfl,u1,u2⟩
 ·have e:bh N0 A=some false:=by
   unfold bh
   rw[qF,Option.bind_some]
   have:(decide (A≥0)&&decide (A≤4))=false:=by
    rw[Bool.and_eq_false_iff,decide_eq_false_iff_not,decide_eq_false_iff_not]
    omega
   rw[this]
  rw[e]
  exact no 2
theorem yx (kd A B C D:Int) (T:ByteArray):∃v,ij N0 (kd,A,B,C,D,T)=some v:=by
 unfold ij
 cases(kd==(1:Int))
 ·cases(kd==(2:Int))
  ·cases(kd==(3:Int))
   ·cases(kd==(4:Int))<;>exact⟨_,rfl⟩
   ·exact⟨_,rfl⟩
  ·exact⟨_,rfl⟩
 ·exact⟨_,rfl⟩
theorem Dd (h:FW k xs kn li gv sh lg) (hk9:k≤800) (hw:cp xs kn li fr gv sh lg=true) (kd A B C D:Int) (T:ByteArray):wq (k+1) kn.length (kB N0 (xs,kn,li,fr,gv,sh,lg,kd,A,B,C,D,T)):=by
 unfold kB
 dsimp only
 cases(kd==(1:Int))with
 |true =>
  obtain⟨_,_,_,_,_,_,_,_,e,h1,h2⟩:=NO h (by omega) hw kd A B C D T
  rw[cond_true,e]
  exact⟨_,_,_,_,_,_,_,_,rfl,h1,h2⟩
 |false =>
  cases(kd==(2:Int))with
  |true =>
   obtain⟨_,_,_,_,_,_,_,_,e,h1,h2⟩:=P6 h (by omega) hw kd A B C D T
   rw[cond_false,cond_true,e]
   exact⟨_,_,_,_,_,_,_,_,rfl,h1,h2⟩
  |false =>
   cases(kd==(3:Int))with
   |true =>
    obtain⟨_,_,_,_,_,_,_,_,e,h1,h2⟩:=Ru h hk9 hw kd A B C D T
    rw[cond_false,cond_false,cond_true,e]
    exact⟨_,_,_,_,_,_,_,_,rfl,h1,h2⟩
   |false =>
    obtain⟨_,_,_,_,_,_,_,_,e,h1,h2⟩:=Qb h hk9 hw kd A B C D T
    rw[cond_false,cond_false,cond_false,e]
    exact⟨_,_,_,_,_,_,_,_,rfl,h1,h2⟩
theorem ZX (h:FW k xs kn li gv sh lg) (hk9:k≤800) (kd A B C D:Int) (T:ByteArray):∃xs' kn' li' fr' gv' sh' lg' c,cV N0 (xs,kn,li,fr,gv,sh,lg,kd,A,B,C,D,T)=some (xs',kn',li',fr',gv',sh',lg',c)∧FW (k+1) xs' kn' li' gv' sh' lg'∧(c=0→kn.length≤kn'.length):=by
 unfold cV
 dsimp only
 rw[ss (h.small (by omega)),Option.bind_some]
 cases hw:cp xs kn li fr gv sh lg with
 |false=>exact⟨_,_,_,_,_,_,_,_,rfl,FW.nil,fun q=>by cases q⟩
 |true =>
  obtain⟨v,hv⟩:=yx kd A B C D T
  rw[Bool.not_true,cond_false,hv,Option.bind_some]
  cases v with
  |false=>exact⟨_,_,_,_,_,_,_,_,rfl,FW.nil,fun q=>by cases q⟩
  |true =>
   obtain⟨xs',kn',li',fr',gv',sh',lg',c,e,h1,h2⟩:=Dd h hk9 hw kd A B C D T
   rw[Bool.not_true,cond_false,gc]
   dsimp only
   rw[Dw h (by omega),Option.bind_some]
   dsimp only
   rw[e,Option.bind_some,Option.bind_some]
   dsimp only
   cases(c != 0)with
   |true =>
    rw[cond_true,Dw h (by omega)]
    exact⟨_,_,_,_,_,_,_,_,rfl,h.more (Nat.le_succ k),fun _=>Nat.le_refl _⟩
   |false =>
    rw[cond_false,Dw h1 (by omega)]
    exact⟨_,_,_,_,_,_,_,_,rfl,h1,fun _=>h2⟩
end
theorem ol (l:List UInt8):(ByteArray.mk l.toArray).size=l.length:=rfl
theorem Cz (n:Nat){b:List Int}{i:Int}(h:Int) (l:List ByteArray) (k:Nat) (hl:l≠[]) (hk:∀s∈l,s.size≤k) (hc:Cu b i):∃i' h' v,jm n (b,i,h,l)=some (b,i',h',v)∧Cu b i'∧v.size≤k:=by
 unfold jm
 dsimp only
 obtain⟨i1,h1,v1,e1,c1,hb⟩:=bj n h (l.length:Int) hc
 have hpos:0<l.length:=List.length_pos_iff.2 hl
 rw[e1,Option.bind_some]
 dsimp only
 have hv:0≤v1∧v1<(l.length:Int):=by
  rcases hb with⟨q,_⟩|q
  ·omega
  ·exact q
 have e:v1=((v1.toNat:Nat):Int):=by omega
 have hin:ba v1 l.length=true:=by rw[e];exact aq (by omega)
 rw[hin,cond_true]
 refine⟨_,_,_,rfl,c1,hk _ ?_⟩
 rw[List.getD_eq_getElem?_getD,List.getElem?_eq_getElem (by omega),Option.getD_some]
 exact List.getElem_mem _
theorem xk{x:Int}(h0:0≤x) (h1:x≤999):∃r,aQ N0 x=some r∧r.size≤3:=by
 unfold aQ
 by_cases hq:x≤0
 ·rw[decide_eq_true hq,cond_true]
  exact⟨_,rfl,by decide⟩
 ·rw[decide_eq_false hq,cond_false]
  have:=n0
  obtain⟨r,e1,e2⟩:=zM 3 N0 x (⟨#[]⟩:ByteArray) h0 (by omega) (by have:(10:Int) ^ 3=1000:=rfl;omega) (by omega) (by decide)
  rw[e1,Option.bind_some]
  exact⟨r,rfl,e2⟩
theorem Rp{x y:Int}:gM N0 (x,y)=some (if x<y then x else y):=by
 unfold gM
 dsimp only
 by_cases q:x<y
 ·rw[decide_eq_true q,if_pos q];rfl
 ·rw[decide_eq_false q,if_neg q];rfl
def K0 (b:List Int) (s:Option (List Int×Int×Int×Int×Int×Int×Int×Int×ByteArray)):Prop :=
 ∃i h kd A B C D T,s=some (b,i,h,kd,A,B,C,D,T)∧Cu b i∧T.size≤100
section
variable{k:Nat}{b:List Int}{xs:List ab}{kn:List Int}{li:List bo}{fr:Int}{gv sh:List Int}{lg:List aS}
theorem Jy{i:Int}(h:Int){a1 a2 a3 a4 a5 a7 a8 a9 a10 a11:Int}{a6 a12:ByteArray}(hc:Cu b i) (h0:0<li.length):∃i' h' w p a c s1 e1 d1 d2 k1,cH N0 (b,i,h,xs,kn,li,fr,gv,sh,lg,a1,a2,a3,a4,a5,a6,(li.length:Int),a7,a8,a9,a10,a11,a12)=some (b,i',h',a1,a2,a3,a4,a5,a6,a7,a8,a9,a10,a11,a12,w,p,a,c,s1,e1,d1,d2,k1)∧Cu b i':=by
 obtain⟨i1,h1,v1,e1,c1,hb⟩:=bj N0 h (li.length:Int) hc
 have hv:0≤v1∧v1<(li.length:Int):=by
  rcases hb with⟨q,_⟩|q
  ·omega
  ·exact q
 have e:v1=((v1.toNat:Nat):Int):=by omega
 have hin:ba v1 li.length=true:=by rw[e];exact aq (by omega)
 unfold cH
 dsimp only
 rw[e1,Option.bind_some]
 dsimp only
 rw[hin,cond_true]
 exact⟨_,_,_,_,_,_,_,_,_,_,_,rfl,c1⟩
theorem Dv{i:Int}(h:Int) (hc:Cu b i) (hw:FW k xs kn li gv sh lg) (hk1:1≤kn.length):K0 b (dF N0 (b,i,h,xs,kn,li,fr,gv,sh,lg)):=by
 have hl9:=hw.fl
 have hk3:=hw.fk
 have start:∀i h,Cu b i→K0 b ((af N0 (b,i,h,(3:Int))).bind fun r1=>((af N0 (r1.1,r1.2.1,r1.2.2.1,(2:Int))).bind fun r2=>((af N0 (r2.1,r2.2.1,r2.2.2.1,(3:Int))).bind fun r3=>((af N0 (r3.1,r3.2.1,r3.2.2.1,(3:Int))).bind fun r4=>(cond (decide (((li).length:Int)>(0:Int))) ((cZ N0 (r4.1,r4.2.1,r4.2.2.1,(3:Int))).bind fun r5=>(cond (!r5.2.2.2) ((cH N0 (r5.1,r5.2.1,r5.2.2.1,xs,kn,li,fr,gv,sh,lg,(0:Int),(0:Int),(0:Int),(0:Int),(0:Int),(⟨#[]⟩:ByteArray),((li).length:Int),(1:Int),(IntKind.i64.wrap ((1:Int)+r1.2.2.2)),r2.2.2.2,r3.2.2.2,r4.2.2.2,(⟨#[]⟩:ByteArray))).bind fun g6=>(some (g6.1,g6.2.1,g6.2.2.1,(1:Int),g6.2.2.2.2.2.2.2.2.2.2.2.2.2.2.2.1,(IntKind.i64.wrap ((1:Int)-g6.2.2.2.2.2.2.2.2.2.2.2.2.2.2.2.2.1)),g6.2.2.2.2.2.2.2.2.2.2.2.2.2.2.2.2.2.2.1,g6.2.2.2.2.2.2.2.2.2.2.2.2.2.2.2.2.2.1,(⟨#[]⟩:ByteArray)))) (some (r5.1,r5.2.1,r5.2.2.1,(1:Int),(IntKind.i64.wrap ((1:Int)+r1.2.2.2)),r2.2.2.2,r3.2.2.2,r4.2.2.2,(⟨#[]⟩:ByteArray))))) (some (r4.1,r4.2.1,r4.2.2.1,(1:Int),(IntKind.i64.wrap ((1:Int)+r1.2.2.2)),r2.2.2.2,r3.2.2.2,r4.2.2.2,(⟨#[]⟩:ByteArray)))))))):=by
  intro i h hc
  obtain⟨i1,h1,v1,e1,c1,b1⟩:=bj N0 h 3 hc
  obtain⟨i2,h2,v2,e2,c2,b2⟩:=bj N0 h1 2 c1
  obtain⟨i3,h3,v3,e3,c3,b3⟩:=bj N0 h2 3 c2
  obtain⟨i4,h4,v4,e4,c4,b4⟩:=bj N0 h3 3 c3
  obtain⟨i5,h5,v5,e5,c5⟩:=o9 N0 h4 3 c4
  rw[e1,Option.bind_some]
  dsimp only
  rw[e2,Option.bind_some]
  dsimp only
  rw[e3,Option.bind_some]
  dsimp only
  rw[e4,Option.bind_some]
  dsimp only
  cases hl:decide ((li.length:Int)>0)with
  |false=>exact⟨_,_,_,_,_,_,_,_,rfl,c4,by decide⟩
  |true =>
   rw[decide_eq_true_iff]at hl
   rw[cond_true,e5,Option.bind_some]
   dsimp only
   cases v5 with
   |true=>exact⟨_,_,_,_,_,_,_,_,rfl,c5,by decide⟩
   |false =>
    obtain⟨i6,h6,w,p,a,c,s1,f1,d1,d2,k1,e6,c6⟩:=Jy (xs:=xs) (kn:=kn) (fr:=fr) (gv:=gv) (sh:=sh) (lg:=lg) (a1:=0) (a2:=0) (a3:=0) (a4:=0) (a5:=0) (a6:=⟨#[]⟩) (a7:=1) (a8:=IntKind.i64.wrap ((1:Int)+v1)) (a9:=v2) (a10:=v3) (a11:=v4) (a12:=⟨#[]⟩) h5 c5 (show 0<li.length by omega)
    rw[Bool.not_false,cond_true,e6]
    exact⟨_,_,_,_,_,_,_,_,rfl,c6,by decide⟩
 unfold dF
 dsimp only
 cases hl:decide ((li.length:Int)<2)with
 |true=>exact start i h hc
 |false =>
  rw[decide_eq_false_iff_not]at hl
  obtain⟨i1,h1,v1,e1,c1⟩:=o9 N0 h 9 hc
  rw[cond_false,e1,Option.bind_some]
  dsimp only
  cases v1 with
  |true=>exact start i1 h1 c1
  |false =>
   obtain⟨i2,h2,v2,e2,c2,b2⟩:=bj N0 h1 14 c1
   rw[cond_false,e2,Option.bind_some]
   dsimp only
   cases(v2==(0:Int))with
   |true =>
    obtain⟨i3,h3,v3,e3,c3,b3⟩:=bj N0 h2 3 c2
    rw[cond_true,e3]
    exact⟨_,_,_,_,_,_,_,_,rfl,c3,by decide⟩
   |false =>
    obtain⟨i3,h3,v3,e3,c3,b3⟩:=bj N0 h2 (li.length:Int) c2
    rw[cond_false]
    cases(v2==(1:Int))with
    |true =>
     rw[cond_true,e3]
     exact⟨_,_,_,_,_,_,_,_,rfl,c3,by decide⟩
    |false =>
     obtain⟨i4,h4,v4,e4,c4,b4⟩:=bj N0 h3 (if(kn.length:Int)<5 then(kn.length:Int)else 5) c3
     obtain⟨i5,h5,v5,e5,c5,b5⟩:=bj N0 h4 (kn.length:Int) c4
     obtain⟨i6,h6,v6,e6,c6,b6⟩:=bj N0 h5 9 c5
     have hv4:0≤v4∧v4≤(kn.length:Int)-1:=by
      rcases b4 with⟨q1,_⟩|⟨q1,q2⟩
      ·split at q1<;>omega
      ·split at q2<;>omega
     have hv5:0≤v5∧v5≤(kn.length:Int)-1:=by
      rcases b5 with⟨q1,_⟩|⟨q1,q2⟩<;>omega
     obtain⟨ra,na,sa⟩:=xk (x:=(kn.length:Int)-1-v4) (by omega) (by omega)
     obtain⟨rb,nb,sb⟩:=xk (x:=v5) (by omega) (by omega)
     rw[cond_false,e3,Option.bind_some]
     dsimp only
     rw[Rp,Option.bind_some,e4,Option.bind_some]
     dsimp only
     rw[e5,Option.bind_some]
     dsimp only
     rw[e6,Option.bind_some]
     dsimp only
     rw[ak (show -9223372036854775808≤(kn.length:Int)-1 by omega) (by omega),ak (show -9223372036854775808≤(kn.length:Int)-1-v4 by omega) (by omega),na,nb]
     cases(v6==(0:Int))with
     |true =>
      simp(disch:=(simp only[cG,ol,List.length_cons,List.length_nil];omega)) only[Option.bind_some,eD,cond_true,cond_false]
      exact⟨_,_,_,_,_,_,_,_,rfl,c6,by simp only[cG,ol,List.length_cons,List.length_nil];omega⟩
     |false =>
     cases(v6==(1:Int))with
     |true =>
      simp(disch:=(simp only[cG,ol,List.length_cons,List.length_nil];omega)) only[Option.bind_some,eD,cond_true,cond_false]
      exact⟨_,_,_,_,_,_,_,_,rfl,c6,by simp only[cG,ol,List.length_cons,List.length_nil];omega⟩
     |false =>
     cases(v6==(2:Int))with
     |true =>
      simp(disch:=(simp only[cG,ol,List.length_cons,List.length_nil];omega)) only[Option.bind_some,eD,cond_true,cond_false]
      generalize hL:([_,_,_,_,_,_,_,_,_]:List ByteArray)=L
      have hL1:L≠[]:=by rw[←hL];simp
      have hL2:∀s∈L,s.size≤100:=by
       rw[←hL]
       simp only[List.forall_mem_cons,cG,ol,List.length_cons,List.length_nil]
       refine⟨by omega,by omega,by omega,by omega,by omega,by omega,by omega,by omega,by omega,fun s hs=>by cases hs⟩
      obtain⟨i7,h7,v7,e7,c7,s7⟩:=Cz N0 h6 L 100 hL1 hL2 c6
      rw[e7]
      exact⟨_,_,_,_,_,_,_,_,rfl,c7,s7⟩
     |false =>
     cases(v6==(3:Int))with
     |true =>
      simp(disch:=(simp only[cG,ol,List.length_cons,List.length_nil];omega)) only[Option.bind_some,eD,cond_true,cond_false]
      exact⟨_,_,_,_,_,_,_,_,rfl,c6,by simp only[cG,ol,List.length_cons,List.length_nil];omega⟩
     |false =>
      simp(disch:=(simp only[cG,ol,List.length_cons,List.length_nil];omega)) only[Option.bind_some,eD,cond_true,cond_false]
      exact⟨_,_,_,_,_,_,_,_,rfl,c6,by simp only[cG,ol,List.length_cons,List.length_nil];omega⟩
end
theorem xv:∀(m i:Nat) (xs:List ab),i≤5→5-i<m→aO xs=true→∃ys,bu N0 m ([],[],[],(0:Int),[],[],[],xs,([]:List Int),(i:Int))=some ([],[],[],(0:Int),[],[],[],ys,([]:List Int))∧aO ys=true
 |0,i,xs,hi,hm,hp=>absurd hm (by omega)
 |m+1,i,xs,hi,hm,hp=>by
  rw[bu]
  dsimp only
  by_cases h5:i<5
  ·have w:IntKind.i64.wrap ((i:Int)+1)=((i+1:Nat):Int):=by rw[ak (by omega) (by omega)];omega
   rw[show decide ((i:Int)<5)=true from decide_eq_true (by omega),cond_true,jp hp,Option.bind_some,w]
   cases hA:iS xs 1 (i:Int) 0 with
   |none=>exact xv m (i+1) xs (by omega) (by omega) hp
   |some q =>
    obtain⟨ys,t⟩:=q
    exact xv m (i+1) ys (by omega) (by omega) (lB hp hA).1
  ·rw[show decide ((i:Int)<5)=false from decide_eq_false (by omega),cond_false]
   exact⟨xs,rfl,hp⟩
theorem CH{xs:List ab}{kd a b:Int}(hp:aO xs=true):aO (nM xs (iS xs kd a b)).1=true:=by
 cases hA:iS xs kd a b with
 |none=>exact hp
 |some q =>
  obtain⟨ys,t⟩:=q
  exact(lB hp hA).1
theorem Jw (kn:List Int) (v:Int):1≤(uZ kn v).length:=by
 unfold uZ
 cases h:kn.contains v with
 |false=>rw[cond_false,qD];omega
 |true =>
  rw[cond_true]
  cases kn with
  |nil=>cases h
  |cons a r=>rw[List.length_cons];omega
theorem B5:∀(m i:Nat) (xs:List ab) (kn:List Int),i≤5→5-i<m→aO xs=true→kn.length≤i→(i=0∨1≤kn.length)→∃ys kn',br N0 m ([],[],[],(0:Int),[],[],[],xs,kn,(i:Int))=some ([],[],[],(0:Int),[],[],[],ys,kn')∧aO ys=true∧kn'.length≤5∧1≤kn'.length
 |0,i,xs,kn,hi,hm,hp,_,_=>absurd hm (by omega)
 |m+1,i,xs,kn,hi,hm,hp,hk,h1=>by
  rw[br]
  dsimp only
  by_cases h5:i<5
  ·have w:IntKind.i64.wrap ((i:Int)+1)=((i+1:Nat):Int):=by rw[ak (by omega) (by omega)];omega
   have p1:=CH (kd:=1) (a:=90+(i:Int)) (b:=0) hp
   have hl:=tP kn (nM (nM xs (iS xs 1 (90+(i:Int)) 0)).1 (iS (nM xs (iS xs 1 (90+(i:Int)) 0)).1 7 (nM xs (iS xs 1 (90+(i:Int)) 0)).2 0)).2
   have hq:=Jw kn (nM (nM xs (iS xs 1 (90+(i:Int)) 0)).1 (iS (nM xs (iS xs 1 (90+(i:Int)) 0)).1 7 (nM xs (iS xs 1 (90+(i:Int)) 0)).2 0)).2
   rw[show decide ((i:Int)<5)=true from decide_eq_true (by omega),cond_true,eW]
   dsimp only
   rw[mq (by omega) (by omega),Option.bind_some,jp hp,Option.bind_some,Option.bind_some]
   dsimp only
   rw[gR p1,Option.bind_some,xj (by omega),Option.bind_some,w]
   exact B5 m (i+1) _ _ (by omega) (by omega) (CH p1) (by omega) (.inr hq)
  ·rw[show decide ((i:Int)<5)=false from decide_eq_false (by omega),cond_false]
   exact⟨xs,kn,rfl,hp,by omega,by omega⟩
theorem wu:∃xs kn,dj N0 ()=some (xs,kn,[],(0:Int),[],[],[])∧FW 0 xs kn [] [] [] []∧1≤kn.length:=by
 have hN:=n0
 obtain⟨xs,e1,p1⟩:=xv N0 0 [] (by omega) (by omega) (by decide)
 obtain⟨ys,kn,e2,p2,k2,k3⟩:=B5 N0 0 xs [] (by omega) (by omega) p1 (Nat.zero_le _) (.inl rfl)
 rw[show((0:Nat):Int)=0 from rfl]at e1 e2
 have hl:=cL p2
 unfold dj
 rw[e1,Option.bind_some]
 dsimp only
 rw[e2]
 exact⟨ys,kn,rfl,⟨by omega,by omega,by simp,fun i hi=>absurd hi (by simp),by simp,by simp,by simp⟩,k3⟩
abbrev sr:=Int×(Int×(Int×(Int×(Int×ByteArray))))
section
variable{b:List Int}
def Pw (b:List Int) (q:Nat) (s:Option (List Int×Int×Int×List ab×List Int×List bo×Int×List Int×List Int×List aS×List ab×List Int×List bo×Int×List Int×List Int×List aS×List sr)):Prop :=
 ∃i h xs kn li fr gv sh lg ls,s=some (b,i,h,[],[],[],(0:Int),[],[],[],xs,kn,li,fr,gv,sh,lg,ls)∧Cu b i∧FW q xs kn li gv sh lg∧1≤kn.length∧ls.length≤q∧∀d∈ls,d.2.2.2.2.2.size≤100
end
theorem L7 (x:List ab×Int×Int×Int):jG N0 x=aR N0 x:=rfl
theorem CW (x:List ab×Int):iL N0 x=bI N0 x:=rfl
theorem zA:∀(m:Nat) (x:List Int×Int×List Int×Bool×Int),bL N0 m x=bi N0 m x
 |0,_=>rfl
 |m+1,x=>by
  rw[bL,bi]
  simp only[zA m]
theorem Ls (x:List Int×Int):jE N0 x=fh N0 x:=by
 unfold jE fh
 simp only[zA]
theorem x6:∀(m:Nat) x,bG N0 m x=bu N0 m x
 |0,_=>rfl
 |m+1,x=>by
  rw[bG,bu]
  simp only[x6 m,CW]
theorem x5:∀(m:Nat) x,bF N0 m x=br N0 m x
 |0,_=>rfl
 |m+1,x=>by
  rw[bF,br]
  simp only[x5 m,fq,eW,CW,L7,Ls]
theorem LG:gb N0 ()=dj N0 ():=by
 unfold gb dj
 simp only[x6,x5]
def PQ (b:List Int) (li:List bo) (s:Option (List Int×Int×Int×Int×Int×List bo×Int×Int×Int×Int×Int×Int×Int×Int×Int×ByteArray)):Prop :=
 ∃i h p q f r s' t kd A B C D T,s=some (b,i,h,p,q,li,f,r,s',t,kd,A,B,C,D,T)∧Cu b i∧T.size≤100
section
variable{k:Nat}{b:List Int}{xs:List ab}{kn:List Int}{li:List bo}{fr:Int}{gv sh:List Int}{lg:List aS}
theorem CA{i:Int}(h:Int){p q f r s t a1 a2 a3 a4 a5 a7 a8 a9 a10 a11:Int}{a6 a12:ByteArray}(hc:Cu b i) (h0:0<li.length):∃i' h' p' q' f' r' s' t' y1 y2 y3 y4 y5 y6 y7 y8 y9,cK N0 (b,i,h,p,q,li,f,r,s,t,a1,a2,a3,a4,a5,a6,(li.length:Int),a7,a8,a9,a10,a11,a12)=some (b,i',h',p',q',li,f',r',s',t',a1,a2,a3,a4,a5,a6,a7,a8,a9,a10,a11,a12,y1,y2,y3,y4,y5,y6,y7,y8,y9)∧Cu b i':=by
 obtain⟨i1,h1,v1,e1,c1,hb⟩:=bj N0 h (li.length:Int) hc
 have hv:0≤v1∧v1<(li.length:Int):=by
  rcases hb with⟨q,_⟩|q
  ·omega
  ·exact q
 have e:v1=((v1.toNat:Nat):Int):=by omega
 have hin:ba v1 li.length=true:=by rw[e];exact aq (by omega)
 unfold cK
 dsimp only
 rw[e1,Option.bind_some]
 dsimp only
 rw[hin,cond_true]
 exact⟨_,_,_,_,_,_,_,_,_,_,_,_,_,_,_,_,_,rfl,c1⟩
theorem uL{i:Int}(h:Int){p f r s t:Int}{n:Nat}(hc:Cu b i) (hl9:li.length≤9) (hk1:1≤n) (hk3:n≤300):PQ b li (dE N0 (b,i,h,p,(n:Int),li,f,r,s,t)):=by
 unfold dE
 dsimp only
 simp only[Int.toNat_natCast]
 cases hl:decide ((li.length:Int)<2)with
 |true =>
  rw[cond_true]
  obtain⟨i1,h1,v1,e1,c1,b1⟩:=bj N0 h 3 hc
  obtain⟨i2,h2,v2,e2,c2,b2⟩:=bj N0 h1 2 c1
  obtain⟨i3,h3,v3,e3,c3,b3⟩:=bj N0 h2 3 c2
  obtain⟨i4,h4,v4,e4,c4,b4⟩:=bj N0 h3 3 c3
  obtain⟨i5,h5,v5,e5,c5⟩:=o9 N0 h4 3 c4
  rw[e1,Option.bind_some]
  dsimp only
  rw[e2,Option.bind_some]
  dsimp only
  rw[e3,Option.bind_some]
  dsimp only
  rw[e4,Option.bind_some]
  dsimp only
  cases hl2:decide ((li.length:Int)>0)with
  |false=>exact⟨_,_,_,_,_,_,_,_,_,_,_,_,_,_,rfl,c4,by decide⟩
  |true =>
   rw[decide_eq_true_iff]at hl2
   rw[cond_true,e5,Option.bind_some]
   dsimp only
   cases v5 with
   |true=>exact⟨_,_,_,_,_,_,_,_,_,_,_,_,_,_,rfl,c5,by decide⟩
   |false =>
    obtain⟨i6,h6,p',q',f',r',s',t',y1,y2,y3,y4,y5,y6,y7,y8,y9,e6,c6⟩:=CA (li:=li) (p:=((p.toNat:Nat):Int)) (q:=(n:Int)) (f:=f) (r:=((r.toNat:Nat):Int)) (s:=((s.toNat:Nat):Int)) (t:=((t.toNat:Nat):Int)) (a1:=0) (a2:=0) (a3:=0) (a4:=0) (a5:=0) (a6:=⟨#[]⟩) (a7:=1) (a8:=IntKind.i64.wrap ((1:Int)+v1)) (a9:=v2) (a10:=v3) (a11:=v4) (a12:=⟨#[]⟩) h5 c5 (show 0<li.length by omega)
    rw[Bool.not_false,cond_true,e6]
    exact⟨_,_,_,_,_,_,_,_,_,_,_,_,_,_,rfl,c6,by decide⟩
 |false =>
  rw[decide_eq_false_iff_not]at hl
  obtain⟨i0,h0,v0,e0,c0⟩:=o9 N0 h 9 hc
  rw[cond_false,e0,Option.bind_some]
  dsimp only
  cases v0 with
  |true =>
   rw[cond_true]
   obtain⟨i1,h1,v1,e1,c1,b1⟩:=bj N0 h0 3 c0
   obtain⟨i2,h2,v2,e2,c2,b2⟩:=bj N0 h1 2 c1
   obtain⟨i3,h3,v3,e3,c3,b3⟩:=bj N0 h2 3 c2
   obtain⟨i4,h4,v4,e4,c4,b4⟩:=bj N0 h3 3 c3
   obtain⟨i5,h5,v5,e5,c5⟩:=o9 N0 h4 3 c4
   rw[e1,Option.bind_some]
   dsimp only
   rw[e2,Option.bind_some]
   dsimp only
   rw[e3,Option.bind_some]
   dsimp only
   rw[e4,Option.bind_some]
   dsimp only
   cases hl2:decide ((li.length:Int)>0)with
   |false=>exact⟨_,_,_,_,_,_,_,_,_,_,_,_,_,_,rfl,c4,by decide⟩
   |true =>
    rw[decide_eq_true_iff]at hl2
    rw[cond_true,e5,Option.bind_some]
    dsimp only
    cases v5 with
    |true=>exact⟨_,_,_,_,_,_,_,_,_,_,_,_,_,_,rfl,c5,by decide⟩
    |false =>
     obtain⟨i6,h6,p',q',f',r',s',t',y1,y2,y3,y4,y5,y6,y7,y8,y9,e6,c6⟩:=CA (li:=li) (p:=((p.toNat:Nat):Int)) (q:=(n:Int)) (f:=f) (r:=((r.toNat:Nat):Int)) (s:=((s.toNat:Nat):Int)) (t:=((t.toNat:Nat):Int)) (a1:=0) (a2:=0) (a3:=0) (a4:=0) (a5:=0) (a6:=⟨#[]⟩) (a7:=1) (a8:=IntKind.i64.wrap ((1:Int)+v1)) (a9:=v2) (a10:=v3) (a11:=v4) (a12:=⟨#[]⟩) h5 c5 (show 0<li.length by omega)
     rw[Bool.not_false,cond_true,e6]
     exact⟨_,_,_,_,_,_,_,_,_,_,_,_,_,_,rfl,c6,by decide⟩
  |false =>
   obtain⟨i2,h2,v2,e2,c2,b2⟩:=bj N0 h0 14 c0
   rw[cond_false,e2,Option.bind_some]
   dsimp only
   cases(v2==(0:Int))with
   |true =>
    obtain⟨i3,h3,v3,e3,c3,b3⟩:=bj N0 h2 3 c2
    rw[cond_true,e3]
    exact⟨_,_,_,_,_,_,_,_,_,_,_,_,_,_,rfl,c3,by decide⟩
   |false =>
    obtain⟨i3,h3,v3,e3,c3,b3⟩:=bj N0 h2 (li.length:Int) c2
    rw[cond_false]
    cases(v2==(1:Int))with
    |true =>
     rw[cond_true,e3]
     exact⟨_,_,_,_,_,_,_,_,_,_,_,_,_,_,rfl,c3,by decide⟩
    |false =>
     obtain⟨i4,h4,v4,e4,c4,b4⟩:=bj N0 h3 (if(n:Int)<5 then(n:Int)else 5) c3
     obtain⟨i5,h5,v5,e5,c5,b5⟩:=bj N0 h4 (n:Int) c4
     obtain⟨i6,h6,v6,e6,c6,b6⟩:=bj N0 h5 9 c5
     have hv4:0≤v4∧v4≤(n:Int)-1:=by
      rcases b4 with⟨q1,_⟩|⟨q1,q2⟩
      ·split at q1<;>omega
      ·split at q2<;>omega
     have hv5:0≤v5∧v5≤(n:Int)-1:=by
      rcases b5 with⟨q1,_⟩|⟨q1,q2⟩<;>omega
     obtain⟨ra,na,sa⟩:=xk (x:=(n:Int)-1-v4) (by omega) (by omega)
     obtain⟨rb,nb,sb⟩:=xk (x:=v5) (by omega) (by omega)
     rw[cond_false,e3,Option.bind_some]
     dsimp only
     rw[Rp,Option.bind_some,e4,Option.bind_some]
     dsimp only
     rw[e5,Option.bind_some]
     dsimp only
     rw[e6,Option.bind_some]
     dsimp only
     rw[ak (show -9223372036854775808≤(n:Int)-1 by omega) (by omega),ak (show -9223372036854775808≤(n:Int)-1-v4 by omega) (by omega),na,nb]
     cases(v6==(0:Int))with
     |true =>
      simp(disch:=(simp only[cG,ol,List.length_cons,List.length_nil];omega)) only[Option.bind_some,eD,cond_true,cond_false]
      exact⟨_,_,_,_,_,_,_,_,_,_,_,_,_,_,rfl,c6,by simp only[cG,ol,List.length_cons,List.length_nil];omega⟩
     |false =>
     cases(v6==(1:Int))with
     |true =>
      simp(disch:=(simp only[cG,ol,List.length_cons,List.length_nil];omega)) only[Option.bind_some,eD,cond_true,cond_false]
      exact⟨_,_,_,_,_,_,_,_,_,_,_,_,_,_,rfl,c6,by simp only[cG,ol,List.length_cons,List.length_nil];omega⟩
     |false =>
     cases(v6==(2:Int))with
     |true =>
      simp(disch:=(simp only[cG,ol,List.length_cons,List.length_nil];omega)) only[Option.bind_some,eD,cond_true,cond_false]
      generalize hL:([_,_,_,_,_,_,_,_,_]:List ByteArray)=L
      have hL1:L≠[]:=by rw[←hL];simp
      have hL2:∀s∈L,s.size≤100:=by
       rw[←hL]
       simp only[List.forall_mem_cons,cG,ol,List.length_cons,List.length_nil]
       refine⟨by omega,by omega,by omega,by omega,by omega,by omega,by omega,by omega,by omega,fun s hs=>by cases hs⟩
      obtain⟨i7,h7,v7,e7,c7,s7⟩:=Cz N0 h6 L 100 hL1 hL2 c6
      rw[e7]
      exact⟨_,_,_,_,_,_,_,_,_,_,_,_,_,_,rfl,c7,s7⟩
     |false =>
     cases(v6==(3:Int))with
     |true =>
      simp(disch:=(simp only[cG,ol,List.length_cons,List.length_nil];omega)) only[Option.bind_some,eD,cond_true,cond_false]
      exact⟨_,_,_,_,_,_,_,_,_,_,_,_,_,_,rfl,c6,by simp only[cG,ol,List.length_cons,List.length_nil];omega⟩
     |false =>
      simp(disch:=(simp only[cG,ol,List.length_cons,List.length_nil];omega)) only[Option.bind_some,eD,cond_true,cond_false]
      exact⟨_,_,_,_,_,_,_,_,_,_,_,_,_,_,rfl,c6,by simp only[cG,ol,List.length_cons,List.length_nil];omega⟩
theorem Yt (h:FW k xs kn li gv sh lg) (hk9:k≤800) (kd A B C D:Int) (T:ByteArray):∃xs' kn' li' fr' gv' sh' lg' c,cV N0 (xs,kn,li,fr,gv,sh,lg,kd,A,B,C,D,T)=some (xs',kn',li',fr',gv',sh',lg',c)∧FW (k+1) xs' kn' li' gv' sh' lg'∧(c=0→kn.length≤kn'.length) ∧
  ∃z1 z2 z3 z4 z5 z6 z7,i8 N0 (xs,kn,li,fr,gv,sh,lg,kd,A,B,C,D,T)=cond (c==(0:Int)) none (some (z1,z2,z3,z4,z5,z6,z7,c)):=by
 suffices H:∃xs' kn' li' fr' gv' sh' lg' c,cV N0 (xs,kn,li,fr,gv,sh,lg,kd,A,B,C,D,T)=some (xs',kn',li',fr',gv',sh',lg',c)∧FW (k+1) xs' kn' li' gv' sh' lg'∧(c=0→kn.length≤kn'.length) ∧
   ∃z1 z2 z3 z4 z5 z6 z7,fC N0 (xs,kn,li,fr,gv,sh,lg,kd,A,B,C,D,T)=some (z1,z2,z3,z4,z5,z6,z7,c)by
  obtain⟨xs',kn',li',fr',gv',sh',lg',c,e1,e2,e3,z1,z2,z3,z4,z5,z6,z7,e4⟩:=H
  refine⟨xs',kn',li',fr',gv',sh',lg',c,e1,e2,e3,z1,z2,z3,z4,z5,z6,z7,?_⟩
  show((fC N0 (xs,kn,li,fr,gv,sh,lg,kd,A,B,C,D,T)).bind fun r=>cond (r.2.2.2.2.2.2.2==(0:Int)) none (some r))=_
  rw[e4];rfl
 unfold cV fC
 dsimp only
 rw[ss (h.small (by omega)),Option.bind_some,Option.bind_some]
 cases hw:cp xs kn li fr gv sh lg with
 |false=>exact⟨_,_,_,_,_,_,_,_,rfl,FW.nil,(fun q=>by cases q),_,_,_,_,_,_,_,rfl⟩
 |true =>
  obtain⟨v,hv⟩:=yx kd A B C D T
  rw[Bool.not_true,cond_false,cond_false,hv,Option.bind_some,Option.bind_some]
  cases v with
  |false=>exact⟨_,_,_,_,_,_,_,_,rfl,FW.nil,(fun q=>by cases q),_,_,_,_,_,_,_,rfl⟩
  |true =>
   obtain⟨xs',kn',li',fr',gv',sh',lg',c,e,h1,h2⟩:=Dd h hk9 hw kd A B C D T
   rw[Bool.not_true,cond_false,cond_false,gc,gE]
   dsimp only
   simp only[Dw h (show k≤900 by omega),e,Option.bind_some,Dw h1 (show k+1≤900 by omega)]
   cases(c != 0)with
   |true=>exact⟨_,_,_,_,_,_,_,_,rfl,h.more (Nat.le_succ k),(fun _=>Nat.le_refl _),_,_,_,_,_,_,_,rfl⟩
   |false=>exact⟨_,_,_,_,_,_,_,_,rfl,h1,(fun _=>h2),_,_,_,_,_,_,_,rfl⟩
end
section
variable{b:List Int}
abbrev XD:=List Int×Int×Int×List ab×List Int×List bo×Int×List Int×List Int×List aS×List ab×List Int×List bo×Int×List Int×List Int×List aS×List sr×Int×Int×Int×Int×Int×Int×Int×ByteArray×List ab×List Int×List bo×Int×List Int×List Int×List aS×Int
abbrev XF:=List Int×Int×Int×List ab×List Int×List bo×Int×List Int×List Int×List aS×List ab×List Int×List bo×Int×List Int×List Int×List aS×List sr×Int×Int×Int×Int×Int×Int×Int×ByteArray×Int×Int×Int×Int×Int×Int×Int×Int
def XE (b:List Int) (k:Nat) (xs:List ab) (kn:List Int) (li:List bo) (fr:Int) (gv sh:List Int) (lg:List aS) (ls:List sr) (nn io:Int) (s:Option (XD⊕XF)):Prop :=
 (∃i h kd A B C D T xs2 kn2 li2 fr2 gv2 sh2 lg2,s=some (Sum.inl (b,i,h,[],[],[],(0:Int),[],[],[],xs,kn,li,fr,gv,sh,lg,ls,nn,io,kd,A,B,C,D,T,xs2,kn2,li2,fr2,gv2,sh2,lg2,(0:Int)))∧Cu b i∧T.size≤100∧FW (k+1) xs2 kn2 li2 gv2 sh2 lg2∧kn.length≤kn2.length) ∨
 (∃i h kd A B C D T n1 n2 n3 n4 n5 n6 n7 c,s=some (Sum.inr (b,i,h,[],[],[],(0:Int),[],[],[],xs,kn,li,fr,gv,sh,lg,ls,nn,io,kd,A,B,C,D,T,n1,n2,n3,n4,n5,n6,n7,c))∧Cu b i∧T.size≤100∧(c==(0:Int))=false)
theorem zr{k:Nat}{xs:List ab}{kn:List Int}{li:List bo}{fr:Int}{gv sh:List Int}{lg:List aS}(hw:FW k xs kn li gv sh lg) (hk1:1≤kn.length) (hk8:k≤800) (ls:List sr) (nn io:Int):∀(m j:Nat) (i h kd A B C D:Int) (T:ByteArray) (n1 n2 n3 n4 n5 n6 n7 c:Int),j≤6→6-j<m→Cu b i→T.size≤100→(c==(0:Int))=false →
  XE b k xs kn li fr gv sh lg ls nn io (aY N0 m (b,i,h,[],[],[],(0:Int),[],[],[],xs,kn,li,fr,gv,sh,lg,ls,nn,io,kd,A,B,C,D,T,n1,n2,n3,n4,n5,n6,n7,c,(j:Int)))
 |0,j,i,h,kd,A,B,C,D,T,n1,n2,n3,n4,n5,n6,n7,c,hj,hm,_,_,_=>absurd hm (by omega)
 |m+1,j,i,h,kd,A,B,C,D,T,n1,n2,n3,n4,n5,n6,n7,c,hj,hm,hc,hT,hz=>by
  rw[aY]
  dsimp only
  by_cases h6:j<6
  ·rw[show decide ((j:Int)<6)=true from decide_eq_true (by omega),cond_true]
   cases(c==(4:Int))with
   |false=>exact .inr ⟨_,_,_,_,_,_,_,_,_,_,_,_,_,_,_,_,rfl,hc,hT,hz⟩
   |true =>
    have w:IntKind.i64.wrap ((j:Int)+1)=((j+1:Nat):Int):=by rw[ak (by omega) (by omega)];omega
    obtain⟨i1,h1,p1,q1,f1,r1,s1,t1,kd1,A1,B1,C1,D1,T1,e1,c1,z1⟩:=uL (li:=li) (p:=(xs.length:Int)) (f:=fr) (r:=(gv.length:Int)) (s:=(sh.length:Int)) (t:=(lg.length:Int)) (n:=kn.length) h hc hw.fl hk1 hw.fk
    obtain⟨xs3,kn3,li3,fr3,gv3,sh3,lg3,cc,e2,f2,z2,y1,y2,y3,y4,y5,y6,y7,e3⟩:=Yt (fr:=fr) hw hk8 kd1 A1 B1 C1 D1 T1
    rw[cond_true,e1,Option.bind_some]
    dsimp only
    rw[e3]
    cases hcc:(cc==(0:Int))with
    |true =>
     obtain rfl:cc=0:=by simpa using hcc
     rw[cond_true,Option.bind_none,e2,Option.bind_some]
     dsimp only
     refine .inl ⟨i1,h1,kd1,A1,B1,C1,D1,T1,xs3,kn3,li3,fr3,gv3,sh3,lg3,?_,c1,z1,f2,z2 rfl⟩
     unfold Lx
     dsimp only
     cases decide (IntKind.i64.wrap ((j:Int)+1)<6)<;>rfl
    |false =>
     rw[cond_false,Option.bind_some,w]
     dsimp only
     have ih:=zr (fr:=fr) hw hk1 hk8 ls nn io m (j+1) i1 h1 kd1 A1 B1 C1 D1 T1 ((y1.toNat:Nat):Int) ((y2.toNat:Nat):Int) ((y3.toNat:Nat):Int) y4 ((y5.toNat:Nat):Int) ((y6.toNat:Nat):Int) ((y7.toNat:Nat):Int) cc (by omega) (by omega) c1 z1 hcc
     rcases ih with⟨i,h,kd,A,B,C,D,T,xs2,kn2,li2,fr2,gv2,sh2,lg2,e,q⟩|⟨i,h,kd,A,B,C,D,T,n1,n2,n3,n4,n5,n6,n7,c,e,q⟩
     ·rw[e]
      exact .inl ⟨i,h,kd,A,B,C,D,T,xs2,kn2,li2,fr2,gv2,sh2,lg2,rfl,q⟩
     ·rw[e]
      exact .inr ⟨i,h,kd,A,B,C,D,T,n1,n2,n3,n4,n5,n6,n7,c,rfl,q⟩
  ·rw[show decide ((j:Int)<6)=false from decide_eq_false (by omega),cond_false]
   exact .inr ⟨_,_,_,_,_,_,_,_,_,_,_,_,_,_,_,_,rfl,hc,hT,hz⟩
theorem JD {α:Type}{x:Option α}:Lx none x=x:=rfl
theorem Jp{q:Nat}{s x:Option (List Int×Int×Int×List ab×List Int×List bo×Int×List Int×List Int×List aS×List ab×List Int×List bo×Int×List Int×List Int×List aS×List sr)}(h:Pw b q s):Pw b q (Lx s x):=by
 obtain⟨i,h,xs,kn,li,fr,gv,sh,lg,ls,rfl,z⟩:=h
 exact⟨i,h,xs,kn,li,fr,gv,sh,lg,ls,rfl,z⟩
theorem oS (q:Nat) (hq:q≤700):∀(m j:Nat) (i h:Int) (xs:List ab) (kn:List Int) (li:List bo) (fr:Int) (gv sh:List Int) (lg:List aS) (ls:List sr),j≤q→q-j<m→Cu b i→FW j xs kn li gv sh lg→1≤kn.length→ls.length=j→(∀d∈ls,d.2.2.2.2.2.size≤100) →
  Pw b q (aF N0 m (b,i,h,[],[],[],(0:Int),[],[],[],xs,kn,li,fr,gv,sh,lg,ls,(q:Int),(j:Int)))
 |0,j,i,h,xs,kn,li,fr,gv,sh,lg,ls,hj,hm,_,_,_,_,_=>absurd hm (by omega)
 |m+1,j,i,h,xs,kn,li,fr,gv,sh,lg,ls,hj,hm,hc,hw,hk1,hl,hs=>by
  rw[aF]
  dsimp only
  by_cases hjq:j<q
  ·obtain⟨i1,h1,p1,q1,f1,r1,s1,t1,kd1,A1,B1,C1,D1,T1,e1,c1,z1⟩:=uL (li:=li) (p:=(xs.length:Int)) (f:=fr) (r:=(gv.length:Int)) (s:=(sh.length:Int)) (t:=(lg.length:Int)) (n:=kn.length) h hc hw.fl hk1 hw.fk
   obtain⟨xs3,kn3,li3,fr3,gv3,sh3,lg3,cc,e2,f2,z2,y1,y2,y3,y4,y5,y6,y7,e3⟩:=Yt (fr:=fr) hw (by omega) kd1 A1 B1 C1 D1 T1
   have more:∀d:sr,d.2.2.2.2.2.size≤100→∀x∈ls++[d],x.2.2.2.2.2.size≤100:=fun d hd x hx=>by
    rcases List.mem_append.1 hx with hx|hx
    ·exact hs x hx
    ·rw[List.mem_singleton.1 hx];exact hd
   have len1:∀d:sr,(ls++[d]).length=j+1:=fun d=>by rw[List.length_append,List.length_singleton,hl]
   have rm:∀d:sr,aI (ls.length+[d].length)=true:=fun d=>by
    unfold aI
    exact decide_eq_true (by rw[List.length_singleton];omega)
   rw[nh hjq,cond_true,e1,Option.bind_some]
   dsimp only
   rw[e3]
   cases hcc:(cc==(0:Int))with
   |true =>
    obtain rfl:cc=0:=by simpa using hcc
    rw[cond_true,Option.bind_none,JD,e2,Option.bind_some]
    dsimp only
    rw[show decide ((0:Int)<6)=true from rfl,cond_true,show((0:Int)==4)=false from rfl,cond_false,rm,cond_true,beq_self_eq_true,cond_true,aP hjq (by omega)]
    exact oS q hq m (j+1) i1 h1 xs3 kn3 li3 fr3 gv3 sh3 lg3 _ hjq (by omega) c1 f2 (by have:=z2 rfl;omega) (len1 _) (more _ z1)
   |false =>
    rw[cond_false,Option.bind_some]
    dsimp only
    refine Jp ?_
    have t:=zr (b:=b) (fr:=fr) hw hk1 (by omega) ls (q:Int) (j:Int) N0 0 i1 h1 kd1 A1 B1 C1 D1 T1 ((y1.toNat:Nat):Int) ((y2.toNat:Nat):Int) ((y3.toNat:Nat):Int) y4 ((y5.toNat:Nat):Int) ((y6.toNat:Nat):Int) ((y7.toNat:Nat):Int) cc (by omega) (by have:=n0;omega) c1 z1 hcc
    rw[show((0:Nat):Int)=0 from rfl]at t
    rcases t with⟨i4,h4,kd4,A4,B4,C4,D4,T4,xs4,kn4,li4,fr4,gv4,sh4,lg4,e4,cu4,s4,f4,l4⟩|⟨i4,h4,kd4,A4,B4,C4,D4,T4,n1,n2,n3,n4,n5,n6,n7,c4,e4,cu4,s4,z4⟩
    ·rw[e4,Option.bind_some]
     dsimp only
     rw[rm,cond_true,beq_self_eq_true,cond_true,aP hjq (by omega)]
     exact oS q hq m (j+1) i4 h4 xs4 kn4 li4 fr4 gv4 sh4 lg4 _ hjq (by omega) cu4 f4 (by omega) (len1 _) (more _ s4)
    ·rw[e4,Option.bind_some]
     dsimp only
     rw[rm,cond_true,z4,cond_false,aP hjq (by omega)]
     exact oS q hq m (j+1) i4 h4 xs kn li fr gv sh lg _ hjq (by omega) cu4 (hw.more (Nat.le_succ j)) hk1 (len1 _) (more _ s4)
  ·rw[yc hjq,cond_false]
   exact⟨_,_,_,_,_,_,_,_,_,_,rfl,hc,hw.more (by omega),hk1,by omega,hs⟩
theorem Du{i:Int}(h most:Int) (hc:Cu b i) (h0:0≤most) (h1:most≤600):∃i' h' xs kn li fr gv sh lg,eV N0 (b,i,h,most)=some (b,i',h',xs,kn,li,fr,gv,sh,lg)∧Cu b i'∧FW 601 xs kn li gv sh lg∧1≤kn.length:=by
 obtain⟨xs,kn,e1,f1,k1⟩:=wu
 obtain⟨i2,h2,v2,e2,c2,b2⟩:=bj N0 h (most+1) hc
 have hv:0≤v2∧v2≤most:=by
  rcases b2 with⟨q,_⟩|⟨q1,q2⟩<;>omega
 obtain⟨i3,h3,xs3,kn3,li3,fr3,gv3,sh3,lg3,ls3,e3,c3,f3,k3,_⟩:=oS (b:=b) v2.toNat (by omega) N0 0 i2 h2 xs kn [] 0 [] [] [] [] (Nat.zero_le _) (by have:=n0;omega) c2 f1 k1 rfl (fun d hd=>by cases hd)
 rw[show((0:Nat):Int)=0 from rfl,show((v2.toNat:Nat):Int)=v2 from by omega]at e3
 unfold eV
 dsimp only
 rw[LG,e1,Option.bind_some,ak (by omega) (by omega),e2,Option.bind_some]
 dsimp only
 rw[e3]
 exact⟨_,_,_,_,_,_,_,_,_,rfl,c3,f3.more (by omega),k3⟩
def GW (xs:List ab) (kn:List Int) (li:List bo) (gv sh:List Int) (lg:List aS):Prop :=
 Small xs kn li gv sh lg∧li.length≤9∧lg.length≤4294967296∧(1≤kn.length∧kn.length≤301)∧xs.length≤601∧(xs.length≤500→kn.length≤200→FW 602 xs kn li gv sh lg)
theorem FK{xs:List ab}{kn:List Int}{li:List bo}{gv sh:List Int}{lg:List aS}(h:FW 602 xs kn li gv sh lg) (hk:1≤kn.length):GW xs kn li gv sh lg :=
 ⟨h.small (by omega),h.fl,by have:=h.fo;omega,⟨hk,by have:=h.fk;omega⟩,by have:=h.fx;omega,fun _ _=>h⟩
def PP (b:List Int) (s:Option (List Int×Int×Int×List ab×List Int×List bo×Int×List Int×List Int×List aS)):Prop :=
 ∃i h xs kn li fr gv sh lg,s=some (b,i,h,xs,kn,li,fr,gv,sh,lg)∧Cu b i∧GW xs kn li gv sh lg
theorem LO{a m:Int}(hb:b.length≤4294967296) (h0:0≤a) (h1:0≤m) (h2:a≤1000) (h3:m≤600):∃v,lf N0 (b,a,m)=some v∧0≤v∧v≤600:=by
 unfold lf
 dsimp only
 rw[show((4:Int) != 0)=true from rfl,cond_true,show((b.length:Int)).tdiv 4=(b.length:Int) / 4 from Int.tdiv_eq_ediv_of_nonneg (by omega),ak (n:=(b.length:Int) / 4) (by omega) (by omega),ak (n:=a+(b.length:Int) / 4) (by omega) (by omega)]
 cases hq:decide (a+(b.length:Int) / 4>m)with
 |true=>exact⟨m,rfl,h1,h3⟩
 |false =>
  rw[decide_eq_false_iff_not]at hq
  exact⟨_,rfl,by omega,by omega⟩
theorem A9 {α:Type}{l:List α}{v:α}(h:l.length≤4294967000):aI (l.length+[v].length)=true:=by
 unfold aI
 exact decide_eq_true (by rw[List.length_singleton];omega)
theorem Ot{k:Nat}{xs:List ab}{kn:List Int}{li:List bo}{gv sh:List Int}{lg:List aS}(h:FW k xs kn li gv sh lg) (j:Nat){y:bo}(hy:tu y=tu (li.getD j zI)) (hj:j<li.length):FW k xs kn (li.set j y) gv sh lg where
 fx:=h.fx
 fk:=h.fk
 fl:=by rw[List.length_set];exact h.fl
 fg:=h.fg
 fs:=h.fs
 fo:=h.fo
 fe:=fun i hi=>by
  rw[List.length_set]at hi
  rw[List.getD_eq_getElem?_getD,List.getElem?_set]
  by_cases q:j=i
  ·subst q
   rw[if_pos rfl,if_pos hi,Option.getD_some,hy]
   exact h.fe j hi
  ·rw[if_neg q, ←List.getD_eq_getElem?_getD]
   exact h.fe i hi
theorem Gy{xs:List ab}{kn:List Int}{li:List bo}{gv sh:List Int}{lg:List aS}(h:Small xs kn li gv sh lg) (j:Nat){y:bo}(hy:tu y=tu (li.getD j zI)) (hj:j<li.length):Small xs kn (li.set j y) gv sh lg where
 fx:=h.fx
 fk:=h.fk
 fl:=by rw[List.length_set];exact h.fl
 fg:=h.fg
 fs:=h.fs
 fo:=h.fo
 fe:=fun i hi=>by
  rw[List.length_set]at hi
  rw[List.getD_eq_getElem?_getD,List.getElem?_set]
  by_cases q:j=i
  ·subst q
   rw[if_pos rfl,if_pos hi,Option.getD_some,hy]
   exact h.fe j hi
  ·rw[if_neg q, ←List.getD_eq_getElem?_getD]
   exact h.fe i hi
theorem Oo{xs:List ab}{kn:List Int}{li:List bo}{gv sh:List Int}{lg:List aS}(h:GW xs kn li gv sh lg) (j:Nat){y:bo}(hy:tu y=tu (li.getD j zI)) (hj:j<li.length):GW xs kn (li.set j y) gv sh lg :=
 ⟨Gy h.1 j hy hj,by rw[List.length_set];exact h.2.1,h.2.2.1,h.2.2.2.1,h.2.2.2.2.1,fun a c=>Ot (h.2.2.2.2.2 a c) j hy hj⟩
theorem BF{i:Int}(h:Int) (hc:Cu b i) (hb:b.length≤4294967296):PP b (eU N0 (b,i,h,b)):=by
 obtain⟨v0,e0,v1,v2⟩:=LO (b:=b) (a:=14) (m:=30) hb (by omega) (by omega) (by omega) (by omega)
 obtain⟨i1,h1,xs,kn,li,fr,gv,sh,lg,e1,c1,w1,k1⟩:=Du h v0 hc v1 v2
 obtain⟨i2,h2,v,e2,c2,b2⟩:=bj N0 h1 30 c1
 have f1:=w1.fx
 have f2:=w1.fk
 have f3:=w1.fl
 have f4:=w1.fg
 have f5:=w1.fs
 have f6:=w1.fo
 have w2:=w1.more (Nat.le_succ 601)
 have g2:=FK w2 k1
 have s2:=w2.small (by omega)
 unfold eU
 dsimp only
 rw[e0,Option.bind_some,e1,Option.bind_some]
 dsimp only
 rw[e2,Option.bind_some]
 dsimp only
 cases(v==(0:Int))with
 |true =>
  obtain⟨i3,h3,v3,e3,c3,_⟩:=Eh N0 h2 [(-1:Int),(9:Int),(8:Int)] (by simp) c2
  rw[cond_true,e3]
  exact⟨_,_,_,_,_,_,_,_,_,rfl,c3,g2⟩
 |false =>
 rw[cond_false]
 cases(v==(1:Int))with
 |true =>
  rw[cond_true,A9 (by omega),cond_true]
  exact⟨_,_,_,_,_,_,_,_,_,rfl,c2,FK (gv:=gv++[1]) ⟨w2.fx,w2.fk,w2.fl,w2.fe,by rw[List.length_append,List.length_singleton];omega,w2.fs,w2.fo⟩ k1⟩
 |false =>
 rw[cond_false]
 cases(v==(2:Int))with
 |true =>
  obtain⟨i3,h3,v3,e3,c3,_⟩:=bj N0 h2 4 c2
  rw[cond_true]
  unfold eT
  dsimp only
  rw[e3,Option.bind_some]
  dsimp only
  rw[A9 (by omega),cond_true]
  exact⟨_,_,_,_,_,_,_,_,_,rfl,c3,FK (sh:=sh++[v3]) ⟨w2.fx,w2.fk,w2.fl,w2.fe,w2.fg,by rw[List.length_append,List.length_singleton];omega,w2.fo⟩ k1⟩
 |false =>
 rw[cond_false]
 cases(v==(3:Int))with
 |true =>
  rw[cond_true]
  cases hl:decide ((lg.length:Int)>0)with
  |false=>exact⟨_,_,_,_,_,_,_,_,_,rfl,c2,g2⟩
  |true =>
   rw[decide_eq_true_iff]at hl
   rw[cond_true,show Bb 1 (lg.length:Int) lg.length=true from decide_eq_true ⟨by omega,by omega,by omega⟩,cond_true]
   have hsl:(sl lg 1 (lg.length:Int)).length≤lg.length:=by
    unfold sl
    simp
   exact⟨_,_,_,_,_,_,_,_,_,rfl,c2,FK (lg:=sl lg 1 (lg.length:Int)) ⟨w2.fx,w2.fk,w2.fl,w2.fe,w2.fg,w2.fs,by omega⟩ k1⟩
 |false =>
 rw[cond_false]
 cases(v==(4:Int))with
 |true =>
  rw[cond_true,A9 (by omega),cond_true]
  generalize IntKind.i64.wrap ((xs.length:Int)-1)=z
  have hz:(kn++[z]).length=kn.length+1:=by rw[List.length_append,List.length_singleton]
  exact⟨_,_,_,_,_,_,_,_,_,rfl,c2,⟨s2.fx,by omega,s2.fl,s2.fg,s2.fs,s2.fo,s2.fe⟩,f3,by omega,⟨by omega,by omega⟩,by omega,fun _ q=>⟨w2.fx,by omega,w2.fl,w2.fe,w2.fg,w2.fs,w2.fo⟩⟩
 |false =>
 rw[cond_false]
 cases(v==(5:Int))with
 |true =>
  rw[cond_true]
  cases hl:decide ((li.length:Int)>0)with
  |false=>exact⟨_,_,_,_,_,_,_,_,_,rfl,c2,g2⟩
  |true =>
   rw[decide_eq_true_iff]at hl
   rw[cond_true,show ba 0 li.length=true from decide_eq_true ⟨by omega,by omega⟩,cond_true,cond_true]
   exact⟨_,_,_,_,_,_,_,_,_,rfl,c2,Oo g2 (Int.toNat 0) rfl (by show 0<_;omega)⟩
 |false =>
 rw[cond_false]
 cases(v==(6:Int))with
 |true =>
  rw[cond_true,A9 (by omega),cond_true]
  generalize ((0:Int),((0:Int),(0:Int)))=z
  have hz:(xs++[z]).length=xs.length+1:=by rw[List.length_append,List.length_singleton]
  exact⟨_,_,_,_,_,_,_,_,_,rfl,c2,⟨by omega,s2.fk,s2.fl,s2.fg,s2.fs,s2.fo,s2.fe⟩,f3,by omega,⟨k1,by omega⟩,by omega,fun q _=>⟨by omega,w2.fk,w2.fl,w2.fe,w2.fg,w2.fs,w2.fo⟩⟩
 |false=>exact⟨_,_,_,_,_,_,_,_,_,rfl,c2,g2⟩
end
section
variable{xs:List ab}{kn:List Int}{li:List bo}{fr:Int}{gv sh:List Int}{lg:List aS}{k:Int}
end
section
variable{xs:List ab}{kn:List Int}{li:List bo}{fr:Int}{gv sh:List Int}{lg:List aS}{k:Int}
end
end AM
end Go.Proofs.YtpgigedclifoeaaGreatDoor
namespace Go.Proofs.YtpgigedclifoeaaGreatDoor
namespace AM
open Go.ChangeShapes Go.WideShapes Go.ChangeAt Go.RowKit
set_option linter.unusedVariables false
theorem own:ownKnob Tryz.prog.godebug=none:=by kernel_rfl
theorem FE:laidOutB Tryz.prog=true:=by kernel_rfl
theorem Jj:"*"++"errors.errorString"="*errors.errorString":=by decide
theorem Ek (u:TypeId) (h:Tryz.prog.typeName? 3 u=some "*errors.errorString"):u=265 :=
 typeName_ptr_named (nm:="errors.errorString") (by rw[Jj];kernel_rfl) (by kernel_rfl) (by decide) u (by rw[Jj];exact h)
abbrev t9:List (String×DataW Unit):=Rows.fnClaimsRow.laid
theorem sent{W:World}{n:String}{text:List UInt8}{g:Nat}(h:laidMet Tryz.prog [(n, .iface "*errors.errorString" (.ptr (.agg [.lit (.string text)])))] W) (hg:Tryz.prog.globalNamed n=some g) (ht:(Tryz.prog.globals[g]?).map (·.type)=some 189) :
  ∃ev,W.cell? ⟨g,0,none⟩=some ev∧(ev = .nilIface∨∃te pe,ev = .iface te pe):=by
 obtain⟨a,s,hv,_⟩:=laid_sentinel h hg ht Tryz.underlying189 Ek Tryz.underlying265 Tryz.underlying267 rfl rfl Tryz.underlying9 (by kernel_rfl) (by kernel_rfl)
 have:=World.var?_cell hg hv 0
 exact⟨_,this, .inr ⟨_,_,rfl⟩⟩
theorem facts{W:World}(h:laidMet Tryz.prog t9 W) (hs:W.ShapedOpen Tryz.prog):ag W where
 mx:=Go.Proofs.cell_of_shapedOpen_int hs (g:=0) (t:=3) (zero:=#[.int .i64 0]) (by decide) (by kernel_rfl) rfl (by kernel_rfl) (by kernel_rfl) Tryz.underlying3
 tab:=Lib.tabIs_of_head (g:=3) (t:=269) (e:=219) (n:=20) (by kernel_rfl) (by kernel_rfl) (by kernel_rfl) (by kernel_rfl) (by kernel_rfl) (by kernel_rfl)
  (jt h (.tail _ (.tail _ (.head _))))
 es:=sent (jt h (.tail _ (.tail _ (.tail _ (.tail _ (.head _)))))) (by kernel_rfl) (by kernel_rfl)
 er:=sent (jt h (.tail _ (.tail _ (.tail _ (.head _))))) (by kernel_rfl) (by kernel_rfl)
noncomputable def fG (os:Os):World :=
 let w0:=World.holding Tryz.prog os ⟨#[.cells #[.string ⟨#[118,97,108,117,101,32,111,117,116,32,111,102,32,114,97,110,103,101]⟩] 267, .cells #[.string ⟨#[105,110,118,97,108,105,100,32,115,121,110,116,97,120]⟩] 267], #[],[]⟩
 { w0 with heap:=((((w0.heap.modify 4 fun
   | .cells _ t frozen => .cells #[.int .u8 0, .int .u8 1, .int .u8 28, .int .u8 2, .int .u8 29, .int .u8 14, .int .u8 24, .int .u8 3, .int .u8 30, .int .u8 22, .int .u8 20, .int .u8 15, .int .u8 25, .int .u8 17, .int .u8 4, .int .u8 8, .int .u8 31, .int .u8 27, .int .u8 13, .int .u8 23, .int .u8 21, .int .u8 19, .int .u8 16, .int .u8 7, .int .u8 26, .int .u8 12, .int .u8 18, .int .u8 6, .int .u8 11, .int .u8 5, .int .u8 10, .int .u8 9] t frozen
   |o=>o).modify 5 fun
   | .cells _ t frozen => .cells #[.int .u8 0, .int .u8 1, .int .u8 56, .int .u8 2, .int .u8 57, .int .u8 49, .int .u8 28, .int .u8 3, .int .u8 61, .int .u8 58, .int .u8 42, .int .u8 50, .int .u8 38, .int .u8 29, .int .u8 17, .int .u8 4, .int .u8 62, .int .u8 47, .int .u8 59, .int .u8 36, .int .u8 45, .int .u8 43, .int .u8 51, .int .u8 22, .int .u8 53, .int .u8 39, .int .u8 33, .int .u8 30, .int .u8 24, .int .u8 18, .int .u8 12, .int .u8 5, .int .u8 63, .int .u8 55, .int .u8 48, .int .u8 27, .int .u8 60, .int .u8 41, .int .u8 37, .int .u8 16, .int .u8 46, .int .u8 35, .int .u8 44, .int .u8 21, .int .u8 52, .int .u8 32, .int .u8 23, .int .u8 11, .int .u8 54, .int .u8 26, .int .u8 40, .int .u8 15, .int .u8 34, .int .u8 20, .int .u8 31, .int .u8 10, .int .u8 25, .int .u8 14, .int .u8 19, .int .u8 9, .int .u8 13, .int .u8 8, .int .u8 7, .int .u8 6] t frozen
   |o=>o).modify 3 fun
   | .cells _ t frozen => .cells #[.int .u64 1, .int .u64 10, .int .u64 100, .int .u64 1000, .int .u64 10000, .int .u64 100000, .int .u64 1000000, .int .u64 10000000, .int .u64 100000000, .int .u64 1000000000, .int .u64 10000000000, .int .u64 100000000000, .int .u64 1000000000000, .int .u64 10000000000000, .int .u64 100000000000000, .int .u64 1000000000000000, .int .u64 10000000000000000, .int .u64 100000000000000000, .int .u64 1000000000000000000, .int .u64 10000000000000000000] t frozen
   |o=>o).modify 2 fun
   | .cells _ t frozen => .cells #[.iface 265 (.pointer (some ⟨11,0,none⟩))] t frozen
   |o=>o).modify 1 fun
   | .cells _ t frozen => .cells #[.iface 265 (.pointer (some ⟨12,0,none⟩))] t frozen
   |o=>o }
theorem t8 (os:Os):(fG os).os=os:=rfl
end AM
end Go.Proofs.YtpgigedclifoeaaGreatDoor
namespace Go.Proofs.YtpgigedclifoeaaGreatDoor
namespace AM
open Go
set_option linter.unusedVariables false
set_option linter.unusedSimpArgs false
theorem rX{a:List Int}:∀(r pre:List Int) (m:Nat),a=pre++r→a.length≤4294967296→r.length<m→bz N0 m (a,a,(pre.length:Int))=some (Sum.inr ())
 |_,_,0,_,_,h=>by omega
 |[],pre,m+1,h,hl,hm=>by
  subst h
  unfold bz
  dsimp only
  rw[Ka,cond_false]
 |v::r,pre,m+1,h,hl,hm=>by
  have hl2:pre.length+(r.length+1)≤4294967296:=by rw[h]at hl;simpa using hl
  unfold bz
  dsimp only
  have e1:=J9 pre r v
  have e2:=Ki pre r v
  rw[←h]at e1 e2
  rw[e1,cond_true,e2,cond_true,cond_true,bne_self_eq_false,cond_false,ak (n:=(pre.length:Int)+1) (by omega) (by omega), ←rD pre v]
  exact rX r (pre++[v]) m (by rw[h,F0]) hl (by simp at hm;omega)
theorem yT{a:List Int}(ha:a.length≤4294967296):iO N0 (a,a)=some true:=by
 unfold iO
 have:=n0
 have e:=rX a [] N0 rfl ha (by omega)
 have e:bz N0 N0 (a,a,(0:Int))=some (Sum.inr ()):=e
 dsimp only
 rw[bne_self_eq_false,cond_false,e]
 rfl
theorem rh{d:Nat→Bool}{x:Int}:∀{m i:Nat},x∈mc d i m→∃j:Nat,x=(j:Int)∧i≤j∧j<i+m∧d j=true
 |0,i,h=>by cases h
 |m+1,i,h=>by
  unfold mc at h
  cases q:d i with
  |true =>
   rw[q,cond_true]at h
   rcases List.mem_cons.1 h with h|h
   ·exact⟨i,h,Nat.le_refl _,by omega,q⟩
   ·obtain⟨j,h1,h2,h3,h4⟩:=rh h
    exact⟨j,h1,by omega,by omega,h4⟩
  |false =>
   rw[q,cond_false]at h
   obtain⟨j,h1,h2,h3,h4⟩:=rh h
   exact⟨j,h1,by omega,by omega,h4⟩
theorem zE{d:Nat→Bool}:∀{m i:Nat},(mc d i m).length≤m
 |0,i=>Nat.le_refl _
 |m+1,i=>by
  unfold mc
  have:=zE (d:=d) (m:=m) (i:=i+1)
  cases d i with
  |true=>rw[cond_true,List.length_cons];omega
  |false=>rw[cond_false];omega
section
variable{xs:List ab}{kn:List Int}{li:List bo}{fr:Int}{gv sh:List Int}{lg:List aS}{k:Int}
end
def mL (kn kv:List Int) (j:Nat):Bool := !kr kn (kv.getD j 0)
theorem u4{d:Nat→Bool}:∀{m i:Nat},(mc d i m).Pairwise (·<·)
 |0,i=>List.Pairwise.nil
 |m+1,i=>by
  unfold mc
  cases d i with
  |false=>exact u4
  |true =>
   refine List.Pairwise.cons (fun x hx=>?_) u4
   obtain⟨j,h1,h2,_⟩:=rh hx
   omega
theorem xN{d:Nat→Bool}{m i:Nat}:mc d i (m+1)=bif d i then(i:Int)::mc d (i+1) m else mc d (i+1) m:=rfl
section
variable{xs ys:List ab}{kn kv:List Int}{li lj:List bo}{fr fv:Int}{gv sh gw sw:List Int}{lg lh:List aS}
theorem sK (hk:kn.length≤4294967296) (hv:kv.length≤4294967000):∀(m i:Nat) (out:List Int),i≤kv.length→kv.length<m+i→out.length≤i →
  cA N0 m (xs,kn,li,fr,gv,sh,lg,out,kv,(kv.length:Int),(i:Int))=some (out++mc (mL kn kv) i (kv.length-i))
 |0,i,out,h1,h2,h3=>by omega
 |m+1,i,out,h1,h2,h3=>by
  rw[cA]
  dsimp only
  by_cases hq:i<kv.length
  ·have e:kv.length-i=(kv.length-(i+1))+1:=by omega
   have rm:aI (out.length+[(i:Int)].length)=true:=by
    unfold aI
    exact decide_eq_true (by rw[List.length_singleton];omega)
   rw[nh hq,cond_true,aq hq,cond_true,Int.toNat_natCast,wO hk,Option.bind_some,aP hq (by omega),e,xN]
   have hn:(!kr kn (kv.getD i 0))=mL kn kv i:=rfl
   rw[hn]
   cases mL kn kv i with
   |true =>
    rw[cond_true,rm,cond_true,cond_true,sK hk hv m (i+1) (out++[(i:Int)]) hq (by omega) (by rw[List.length_append,List.length_singleton];omega),List.append_assoc]
    rfl
   |false=>rw[cond_false,cond_false,sK hk hv m (i+1) out hq (by omega) (by omega)]
  ·rw[yc hq,cond_false,show kv.length-i=0 by omega]
   exact congrArg some (List.append_nil out).symm
theorem sJ (hk:kn.length≤4294967296) (hv:kv.length≤4294967000):∀(m i:Nat) (out:List Int),i≤kv.length→kv.length<m+i→out.length≤i →
  bZ N0 m (xs,kn,li,fr,gv,sh,lg,ys,kv,lj,fv,gw,sw,lh,out,(i:Int))=some (out++mc (mL kn kv) i (kv.length-i))
 |0,i,out,h1,h2,h3=>by omega
 |m+1,i,out,h1,h2,h3=>by
  rw[bZ]
  dsimp only
  by_cases hq:i<kv.length
  ·have e:kv.length-i=(kv.length-(i+1))+1:=by omega
   have rm:aI (out.length+[(i:Int)].length)=true:=by
    unfold aI
    exact decide_eq_true (by rw[List.length_singleton];omega)
   rw[nh hq,cond_true,aq hq,cond_true,Int.toNat_natCast,jg hk,Option.bind_some,aP hq (by omega),e,xN]
   have hn:(!kr kn (kv.getD i 0))=mL kn kv i:=rfl
   rw[hn]
   cases mL kn kv i with
   |true =>
    rw[cond_true,rm,cond_true,cond_true,sJ hk hv m (i+1) (out++[(i:Int)]) hq (by omega) (by rw[List.length_append,List.length_singleton];omega),List.append_assoc]
    rfl
   |false=>rw[cond_false,cond_false,sJ hk hv m (i+1) out hq (by omega) (by omega)]
  ·rw[yc hq,cond_false,show kv.length-i=0 by omega]
   exact congrArg some (List.append_nil out).symm
def Fs (kn kv:List Int):List Int:=mc (mL kn kv) 0 kv.length
theorem CQ (hs:Small xs kn li gv sh lg) (ht:Small ys kv lj gw sw lh) (hv:kv.length≤4294967000) :
  jv N0 (xs,kn,li,fr,gv,sh,lg,ys,kv,lj,fv,gw,sw,lh)=some (bif cp xs kn li fr gv sh lg&&cp ys kv lj fv gw sw lh then Fs kn kv else []) ∧
  lm N0 (xs,kn,li,fr,gv,sh,lg,ys,kv,lj,fv,gw,sw,lh)=some (bif cp xs kn li fr gv sh lg&&cp ys kv lj fv gw sw lh then Fs kn kv else []):=by
 have hN:=n0
 have h1:=sK (xs:=xs) (kn:=kn) (li:=li) (fr:=fr) (gv:=gv) (sh:=sh) (lg:=lg) (kv:=kv) hs.fk hv N0 0 [] (Nat.zero_le _) (by omega) (Nat.le_refl _)
 have h2:=sJ (xs:=xs) (kn:=kn) (li:=li) (fr:=fr) (gv:=gv) (sh:=sh) (lg:=lg) (kv:=kv) (ys:=ys) (lj:=lj) (fv:=fv) (gw:=gw) (sw:=sw) (lh:=lh) hs.fk hv N0 0 [] (Nat.zero_le _) (by omega) (Nat.le_refl _)
 rw[List.nil_append,Nat.sub_zero,show((0:Nat):Int)=0 from rfl]at h1 h2
 rw[jv,lm,nC,mr]
 dsimp only
 rw[(mH hs).1,(mH hs).2,(mH ht).1,(mH ht).2,h1,h2]
 simp only[Option.bind_some]
 cases cp xs kn li fr gv sh lg with
 |false=>exact⟨rfl,rfl⟩
 |true =>
  cases cp ys kv lj fv gw sw lh with
  |false=>exact⟨rfl,rfl⟩
  |true=>exact⟨rfl,rfl⟩
theorem se (hk:kn.length≤4294967296) (L:List Int) (hl:L.length≤4294967000) (ha:L.Pairwise (·<·)) (hL:∀x∈L, ∃j:Nat,x=(j:Int)∧j<kv.length∧mL kn kv j=true):∀(m i:Nat),i≤L.length→L.length<m+i →
  cb N0 m (xs,kn,li,fr,gv,sh,lg,ys,kv,lj,fv,gw,sw,lh,L,(i:Int))=some (Sum.inr (xs,kn,li,fr,gv,sh,lg))
 |0,i,h1,h2=>by omega
 |m+1,i,h1,h2=>by
  rw[cb]
  dsimp only
  by_cases hq:i<L.length
  ·obtain⟨j,hj,hjl,hp⟩:=hL (L.getD i 0) (by rw[List.getD_eq_getElem?_getD,List.getElem?_eq_getElem hq,Option.getD_some];exact List.getElem_mem _)
   have ih:=se hk L hl ha hL m (i+1) hq (by omega)
   have hp2:kr kn (kv.getD j 0)=false:=by
    unfold mL at hp
    simpa using hp
   have hkh:jZ N0 (kn,kv.getD j 0)=some false:=by
    unfold jZ
    dsimp only
    rw[wO hk,hp2];rfl
   rw[nh hq,cond_true,aq hq,cond_true,cond_true,cond_true,Int.toNat_natCast,hj,decide_eq_false (show ¬((j:Int)<0)by omega),decide_eq_false (show ¬((j:Int)≥(kv.length:Int))by omega),cond_false,cond_false,aq hjl,cond_true,Int.toNat_natCast,hkh,Option.bind_some,cond_false,aP hq (by omega)]
   by_cases h0:0<i
   ·have hprev:L.getD (i-1) 0<L.getD i 0:=by
     rw[List.getD_eq_getElem?_getD,List.getElem?_eq_getElem (by omega:i-1<L.length),Option.getD_some,List.getD_eq_getElem?_getD,List.getElem?_eq_getElem hq,Option.getD_some]
     exact(List.pairwise_iff_getElem.1 ha) (i-1) i (by omega) hq (by omega)
    rw[decide_eq_true (show(i:Int)>0 by omega),cond_true,ak (n:=(i:Int)-1) (by omega) (by omega),show(i:Int)-1=((i-1:Nat):Int)by omega,aq (by omega),cond_true,cond_true,Int.toNat_natCast, ←hj,decide_eq_false (show ¬(L.getD (i-1) 0≥L.getD i 0)by omega),cond_false]
    exact ih
   ·rw[decide_eq_false (show ¬(i:Int)>0 by omega),cond_false]
    exact ih
  ·rw[yc hq,cond_false]
end
def XC (s:Option (List ab×List Int×List bo×Int×List Int×List Int×List aS×List ab×List Int×List bo×Int×List Int×List Int×List aS)):Prop :=
 ∃xs kn li fr gv sh lg ys kv lj fv gw sw lh,s=some (xs,kn,li,fr,gv,sh,lg,ys,kv,lj,fv,gw,sw,lh)∧Small xs kn li gv sh lg∧Small ys kv lj gw sw lh∧kn.length≤4294967000∧kv.length≤4294967000
theorem I6{xs:List ab}{kn:List Int}{li:List bo}{fr:Int}{gv sh:List Int}{lg:List aS}(hg:GW xs kn li gv sh lg) (hw:cp xs kn li fr gv sh lg=true):FW 602 xs kn li gv sh lg:=by
 have hp:=cL (DL hw)
 unfold cp pH at hw
 rw[Bool.and_eq_true,Bool.and_eq_true,Bool.and_eq_true,decide_eq_true_iff]at hw
 exact hg.2.2.2.2.2 hp hw.1.2.1
theorem Iy{b:List Int}(hb:b.length≤4294967296):XC (ge N0 b):=by
 obtain⟨h0,e0,c0⟩:=Of hb
 obtain⟨i1,h1,xs,kn,li,fr,gv,sh,lg,e1,c1,g1⟩:=BF h0 c0 hb
 obtain⟨ys,kv,w1,w2,w3⟩:=wu
 have hs:=g1.1
 have hk1:=g1.2.2.2.1.1
 have ws:=w2.small (by omega)
 have wk:=w2.fk
 have hkv:kv.length≤4294967000:=by omega
 unfold ge
 rw[e0,Option.bind_some]
 dsimp only
 rw[e1,Option.bind_some]
 dsimp only
 rw[(mH (fr:=fr) hs).2,Option.bind_some]
 cases hw:cp xs kn li fr gv sh lg with
 |false =>
  rw[Bool.not_false,cond_true,w1]
  have hkn:kn.length≤4294967000:=by have:=g1.2.2.2.1.2;omega
  exact⟨_,_,_,_,_,_,_,_,_,_,_,_,_,_,rfl,hs,ws,hkn,hkv⟩
 |true =>
  have f1:=I6 g1 hw
  have fk:=f1.fk
  have hkn:kn.length≤4294967000:=by omega
  obtain⟨i2,h2,v2,e2,c2⟩:=o9 N0 h1 9 c1
  rw[Bool.not_true,cond_false,e2,Option.bind_some]
  dsimp only
  cases v2 with
  |true =>
   rw[cond_true,w1]
   exact⟨_,_,_,_,_,_,_,_,_,_,_,_,_,_,rfl,hs,ws,hkn,hkv⟩
  |false =>
   obtain⟨i3,h3,kd,A,B,C,D,T,e3,c3,_⟩:=Dv (fr:=fr) h2 c2 f1 hk1
   obtain⟨xs',kn',li',fr',gv',sh',lg',c,e4,f4,_⟩:=ZX (fr:=fr) f1 (by omega) kd A B C D T
   obtain⟨i5,h5,v5,e5,c5⟩:=o9 N0 h3 2 c3
   have fk4:=f4.fk
   have hkn4:kn'.length≤4294967000:=by omega
   rw[cond_false]
   unfold fW
   dsimp only
   rw[e3,Option.bind_some]
   dsimp only
   rw[e4,Option.bind_some,Option.bind_some]
   dsimp only
   rw[e5,Option.bind_some]
   dsimp only
   cases v5 with
   |true =>
    rw[cond_true]
    unfold fV
    dsimp only
    rw[w1]
    exact⟨_,_,_,_,_,_,_,_,_,_,_,_,_,_,rfl,ws,hs,hkv,hkn⟩
   |false=>exact⟨_,_,_,_,_,_,_,_,_,_,_,_,_,_,rfl,hs,f4.small (by omega),hkn,hkn4⟩
theorem J2 (b:List Int):js N0 b=some true:=by
 unfold js t7
 rw[Option.bind_some]
 cases hb:decide ((b.length:Int)>1048576)with
 |true=>rfl
 |false =>
  rw[decide_eq_false_iff_not]at hb
  obtain⟨xs,kn,li,fr,gv,sh,lg,ys,kv,lj,fv,gw,sw,lh,e1,hs,ht,hk,hv⟩:=Iy (b:=b) (by omega)
  have hN:=n0
  obtain⟨n1,n2⟩:=CQ (fr:=fr) (fv:=fv) hs ht hv
  obtain⟨n3,_⟩:=CQ (fr:=fr) (fv:=fr) hs hs hk
  have hself:Fs kn kn=[]:=xO fun j _ h2=>by
   unfold mL
   rw[Bool.not_eq_false',Aq,List.contains_iff_mem,List.getD_eq_getElem?_getD,List.getElem?_eq_getElem (by omega:j<kn.length),Option.getD_some]
   exact List.getElem_mem _
  rw[cond_false,e1,Option.bind_some]
  dsimp only
  rw[n1,n2,Option.bind_some,Option.bind_some]
  generalize hL:(bif cp xs kn li fr gv sh lg&&cp ys kv lj fv gw sw lh then Fs kn kv else [])=L
  have p1:L.length≤kv.length:=by
   rw[←hL]
   cases cp xs kn li fr gv sh lg&&cp ys kv lj fv gw sw lh with
   |true=>exact zE
   |false=>exact Nat.zero_le _
  have p2:L.Pairwise (·<·):=by
   rw[←hL]
   cases cp xs kn li fr gv sh lg&&cp ys kv lj fv gw sw lh with
   |true=>exact u4
   |false=>exact List.Pairwise.nil
  have p3:∀x∈L, ∃j:Nat,x=(j:Int)∧j<kv.length∧mL kn kv j=true:=by
   rw[←hL]
   cases cp xs kn li fr gv sh lg&&cp ys kv lj fv gw sw lh with
   |true =>
    intro x hx
    obtain⟨j,h1,_,h3,h4⟩:=rh hx
    exact⟨j,h1,by omega,h4⟩
   |false=>intro x hx;cases hx
  have e:cb N0 N0 (xs,kn,li,fr,gv,sh,lg,ys,kv,lj,fv,gw,sw,lh,L,(0:Int))=some (Sum.inr (xs,kn,li,fr,gv,sh,lg)) :=
   se (fr:=fr) (fv:=fv) hs.fk L (by omega) p2 p3 N0 0 (Nat.zero_le _) (by omega)
  rw[yT (by omega),Option.bind_some,Bool.not_true,cond_false,e,Option.bind_some]
  dsimp only
  rw[n3,hself]
  cases cp xs kn li fr gv sh lg<;>rfl
theorem CR (x:TD (be (aw 0 (S5 0).pars))) (hx:KX _ x):js N0 x=some true:=J2 x
end AM
end Go.Proofs.YtpgigedclifoeaaGreatDoor
