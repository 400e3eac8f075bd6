/- A number put at its place in an ascending list, once, by the reference. Condition: no longer than 900. And what follows it: see the remarks. -/
import Derived.Test.YtpgigedclifoeaaGreatDoorCP2
import Derived.Lib.SlicesCompact
import Derived.Test.YtpgigedclifoeaaGreatDoorRows
import Derived.Test.YtpgigedclifoeaaGreatDoorCALo
import Derived.ProofKit
import Derived.OpenShut
import Derived.Deep.DeepHandedRow
import Derived.Shelf.Vars
import Derived.Stop.LaidErr
import Derived.LaidLaws
namespace Go.Proofs.YtpgigedclifoeaaGreatDoor
namespace AM
open Go
set_option linter.unusedVariables false
set_option linter.unusedSimpArgs false
theorem Cy {α:Type}{xs:List α}(h:xs.length≤1000000){k:α}:aR (xs.length+[k].length)=true:=by
 unfold aR
 simp
 omega
def ID (t:Int):List Int→List Int
 |[]=>[t]
 |v::r=>if v<t then v::ID t r else t::v::r
def qi (v:Int):Bool→List Int→List Int×Bool
 |b,[]=>([],b)
 |true,x::r=>(x::r,true)
 |false,x::r=>if v<x then(v::x::r,true)else(x::(qi v false r).1,(qi v false r).2)
theorem Eg (v:Int) (r:List Int):qi v true r=(r,true):=by cases r<;>rfl
theorem zR (v:Int):∀(r pre out:List Int) (b:Bool) (m:Nat),r.length<m→pre.length+r.length≤1000→out.length+2*r.length≤100000→bk N0 m (pre++r,v,out,b,(pre.length:Int))=some (v,out++(qi v b r).1,(qi v b r).2)
 |[],pre,out,b,m,hm,hl,ho=>by
  obtain⟨i,rfl⟩:∃i,m=i+1:=⟨m-1,by omega⟩
  rw[bk]
  dsimp only
  rw[OJ,cond_false]
  cases b<;>simp[qi]
 |x::r,pre,out,b,m,hm,hl,ho=>by
  obtain⟨i,rfl⟩:∃i,m=i+1:=⟨m-1,by omega⟩
  have hl':pre.length+(r.length+1)≤1000:=hl
  have hm':r.length+1<i+1:=hm
  have w:IntKind.i64.wrap ((pre.length:Int)+1)=((pre++[x]).length:Int):=by rw[ar (by omega) (by omega),uu]
  have ho2:out.length+2*(r.length+1)≤100000:=ho
  have go:∀out' b',out'.length+2*r.length≤100000→bk N0 i (pre++x::r,v,out',b',((pre++[x]).length:Int))=some (v,out'++(qi v b' r).1,(qi v b' r).2):=fun out' b' ho'=>by
   rw[Mo]
   exact zR v r (pre++[x]) out' b' i (by omega) (by simp;omega) ho'
  rw[bk]
  dsimp only
  rw[OH,cond_true,OO,Int.toNat_natCast,FZ]
  simp only[cond_true,w]
  cases b with
  |true =>
   simp only[Bool.not_true,cond_false,Cy (show out.length≤1000000 by omega),cond_true]
   rw[go _ _ (by simp;omega)]
   simp[qi,Eg]
  |false =>
   simp only[Bool.not_false,cond_true]
   by_cases hx:v<x
   ·simp only[decide_eq_true (show x>v from hx),cond_true,Cy (show out.length≤1000000 by omega),Cy (show(out++[v]).length≤1000000 by simp;omega)]
    rw[go _ _ (by simp;omega),qi,if_pos hx,Eg]
    simp
   ·simp only[decide_eq_false (show ¬x>v from hx),cond_false,cond_true,Cy (show out.length≤1000000 by omega)]
    rw[go _ _ (by simp;omega),qi,if_neg hx]
    simp
theorem CG (v:Int):∀{r:List Int},v∉r→(bif (qi v false r).2 then(qi v false r).1 else(qi v false r).1++[v])=ID v r
 |[],_=>rfl
 |x::r,h=>by
  rw[qi,ID]
  by_cases hx:v<x
  ·rw[if_pos hx,if_neg (by omega)];rfl
  ·have hne:v≠x:=fun q=>h (q▸List.mem_cons_self ..)
   rw[if_neg hx,if_pos (by omega), ←CG v (fun q=>h (List.mem_cons_of_mem _ q))]
   dsimp only
   cases(qi v false r).2<;>rfl
theorem rd (v:Int):∀(r:List Int),(ID v r).length=r.length+1
 |[]=>rfl
 |x::r=>by
  rw[ID]
  split
  ·rw[List.length_cons,rd v r,List.length_cons]
  ·rfl
theorem IE{l:List Int}{v:Int}:j6 l v=l.contains v:=by
 rw[Bool.eq_iff_iff,List.contains_iff_mem,vQ,List.mem_iff_getElem]
 constructor
 ·rintro ⟨j,hj,e⟩
  exact⟨j,hj,by rw[←e];simp[List.getD_eq_getElem?_getD,hj]⟩
 ·rintro ⟨j,hj,e⟩
  exact⟨j,hj,by rw[←e];simp[List.getD_eq_getElem?_getD,hj]⟩
def vv (kn:List Int) (v:Int):List Int:=bif kn.contains v then kn else ID v kn
theorem ud (kn:List Int) (v:Int):(vv kn v).length≤kn.length+1:=by
 unfold vv
 cases kn.contains v with
 |true=>exact Nat.le_succ _
 |false=>exact Nat.le_of_eq (rd v kn)
theorem xy{kn:List Int}(hl:kn.length≤900) (v:Int):fC N0 (kn,v)=some (vv kn v):=by
 unfold vv fC
 dsimp only
 rw[jH (by omega),Option.bind_some,IE]
 have hlp:=zR v kn [] [] (kn.contains v) N0 (by have:=n0;omega) (by simp;omega) (by simp;omega)
 have hlp':bk N0 N0 (kn,v,([]:List Int),kn.contains v,(0:Int))=_:=hlp
 rw[hlp',Option.bind_some]
 dsimp only
 cases hc:kn.contains v with
 |true =>
  rw[Eg]
  rfl
 |false =>
  have hnm:v∉kn:=fun q=>by rw[List.contains_iff_mem.2 q]at hc;cases hc
  have hi:=CG v hnm
  have hil:=rd v kn
  rw[cond_false]
  cases hb:(qi v false kn).2 with
  |true =>
   rw[hb,cond_true]at hi
   rw[←hi];rfl
  |false =>
   rw[hb,cond_false]at hi
   have:(qi v false kn).1.length≤1000000:=by
    have:=congrArg List.length hi
    simp at this
    omega
   simp only[List.nil_append,Bool.not_false,cond_true,Cy this,hi]
theorem FN{i n:Nat}(h:¬i<n):decide ((i:Int)<(n:Int))=false:=decide_eq_false (by omega)
structure FW (k:Nat) (xs:List ab) (kn:List Int) (li:List bp) (gv sh:List Int) (lg:List aJ):Prop where
 fx:xs.length≤600
 fk:kn.length≤300
 fl:li.length≤9
 fe:∀i,i<li.length→(tO (li.getD i zI)).length≤26
 fg:gv.length≤k
 fs:sh.length≤k
 fo:lg.length≤k
section
variable{k n:Nat}{xs:List ab}{kn:List Int}{li:List bp}{fr:Int}{gv sh:List Int}{lg:List aJ}
theorem FW.small (h:FW k xs kn li gv sh lg) (hk:k≤4294967296):Small xs kn li gv sh lg where
 fx:=by have:=h.fx;omega
 fk:=by have:=h.fk;omega
 fl:=by have:=h.fl;omega
 fg:=by have:=h.fg;omega
 fs:=by have:=h.fs;omega
 fo:=by have:=h.fo;omega
 fe:=fun i hi=>by have:=h.fe i hi;omega
theorem FW.more (h:FW k xs kn li gv sh lg){k':Nat}(hk:k≤k'):FW k' xs kn li gv sh lg where
 fx:=h.fx
 fk:=h.fk
 fl:=h.fl
 fg:=by have:=h.fg;omega
 fs:=by have:=h.fs;omega
 fo:=by have:=h.fo;omega
 fe:=h.fe
theorem FW.nil:FW k [] [] [] [] [] [] where
 fx:=by simp
 fk:=by simp
 fl:=by simp
 fg:=by simp
 fs:=by simp
 fo:=by simp
 fe:=fun i hi=>absurd hi (by simp)
def wJ (k n:Nat) (s:Option (List ab×List Int×List bp×Int×List Int×List Int×List aJ×Int)):Prop :=
 ∃xs kn li fr gv sh lg c,s=some (xs,kn,li,fr,gv,sh,lg,c)∧FW k xs kn li gv sh lg∧n≤kn.length
theorem j7{c:Int}(h:FW k xs kn li gv sh lg) (hn:n≤kn.length):wJ k n (some (xs,kn,li,fr,gv,sh,lg,c)):=⟨_,_,_,_,_,_,_,_,rfl,h,hn⟩
theorem KI{w p a b at_:Int}{env:List Int}{d dd:Bool}{key:Int}(he:env.length≤4294967296):il N0 (w,p,a,b,at_,env,d,dd,key)=some (w,p,a,b,at_,env,d,dd,key):=by
 unfold il
 dsimp only
 have:aR (([]:List Int).length+env.length)=true:=by
  unfold aR
  exact decide_eq_true (by rw[List.length_nil];omega)
 rw[this,cond_true,List.nil_append]
theorem AP (h:FW k xs kn li gv sh lg):∀(m i:Nat),i≤li.length→li.length-i<m→cF N0 m (xs,kn,li,fr,gv,sh,lg,[],[],[],(0:Int),[],[],[],xs,kn,li.take i,fr,gv,sh,lg,(i:Int))=some ([],[],[],(0:Int),[],[],[],xs,kn,li,fr,gv,sh,lg)
 |0,i,hi,hm=>absurd hm (by omega)
 |m+1,i,hi,hm=>by
  have hl:=h.fl
  rw[cF]
  dsimp only
  by_cases hj:i<li.length
  ·have he:=h.fe i hj
   have ht:li.take (i+1)=li.take i++[li.getD i zI]:=by
    rw[List.getD_eq_getElem?_getD,List.getElem?_eq_getElem hj,Option.getD_some]
    exact(List.take_append_getElem hj).symm
   have hr:aR ((li.take i).length+1)=true:=by
    unfold aR
    exact decide_eq_true (by rw[List.length_take];omega)
   unfold tO at he
   rw[m7 hj,cond_true,jr]
   dsimp only
   rw[au hj,cond_true,Int.toNat_natCast,show li.getD i ((0:Int),((0:Int),((0:Int),((0:Int),((0:Int),(([]:List Int),(false,(false,(0:Int)))))))))=li.getD i zI from rfl,KI (by omega),Option.bind_some]
   dsimp only
   rw[List.length_singleton,hr,cond_true,Option.bind_some]
   dsimp only
   rw[←ht,aQ hj (by omega)]
   exact AP h m (i+1) hj (by omega)
  ·rw[FN (by omega),cond_false,List.take_of_length_le (by omega)]
theorem Bl {α β:Type}{l:List α}{z:List β}(hz:z.length=0) (h:l.length≤4294967296):aR (z.length+l.length)=true:=by
 unfold aR
 exact decide_eq_true (by omega)
theorem Ny (h:FW k xs kn li gv sh lg) (hk:k≤900):dP N0 (xs,kn,li,fr,gv,sh,lg)=some (xs,kn,li,fr,gv,sh,lg):=by
 have hs:=h.small (by omega)
 have hl:=h.fl
 have e:=AP (fr:=fr) h N0 0 (Nat.zero_le _) (by have:=n0;omega)
 rw[List.take_zero,show((0:Nat):Int)=0 from rfl]at e
 unfold dP js
 dsimp only
 rw[u9 hs.fx,Option.bind_some,Bl rfl hs.fk,Bl rfl hs.fg,Bl rfl hs.fs,Bl rfl hs.fo]
 simp only[cond_true,List.nil_append,Option.bind_some]
 rw[e,Option.bind_some]
theorem AA (ts:List Int) (hts:ts.length≤100):∀(m i:Nat) (kn:List Int),i≤ts.length→ts.length-i<m→kn.length+(ts.length-i)≤800→∃kn',cE N0 m (ts,xs,kn,li,fr,gv,sh,lg,[],[],[],(0:Int),[],[],[],(i:Int))=some (xs,kn',li,fr,gv,sh,lg,[],[],[],(0:Int),[],[],[])∧kn.length≤kn'.length∧kn'.length≤kn.length+(ts.length-i)
 |0,i,kn,hi,hm,hk=>absurd hm (by omega)
 |m+1,i,kn,hi,hm,hk=>by
  rw[cE]
  dsimp only
  by_cases hj:i<ts.length
  ·have hp:=ud kn (ts.getD i 0)
   have hp2:kn.length≤(vv kn (ts.getD i 0)).length:=by
    unfold vv
    cases kn.contains (ts.getD i 0)with
    |true=>exact Nat.le_refl _
    |false=>rw[cond_false,rd];omega
   obtain⟨kn',e1,e2,e3⟩:=AA ts hts m (i+1) (vv kn (ts.getD i 0)) hj (by omega) (by omega)
   rw[m7 hj,cond_true,au hj,cond_true,Int.toNat_natCast,xy (by omega),Option.bind_some,aQ hj (by omega),e1]
   exact⟨kn',rfl,by omega,by omega⟩
  ·rw[FN (by omega),cond_false]
   exact⟨kn,rfl,Nat.le_refl _,by omega⟩
theorem KA{ts:List Int}(hts:ts.length≤100) (hk:kn.length+ts.length≤800):∃kn',bO N0 (xs,kn,li,fr,gv,sh,lg,ts)=some (xs,kn',li,fr,gv,sh,lg,decide ((kn'.length:Int)≤200))∧kn.length≤kn'.length∧kn'.length≤kn.length+ts.length:=by
 obtain⟨kn',e1,e2,e3⟩:=AA (xs:=xs) (li:=li) (fr:=fr) (gv:=gv) (sh:=sh) (lg:=lg) ts hts N0 0 kn (Nat.zero_le _) (by have:=n0;omega) (by omega)
 rw[show((0:Nat):Int)=0 from rfl]at e1
 unfold bO jq
 dsimp only
 rw[e1]
 exact⟨kn',rfl,e2,by omega⟩
theorem Jv{ts:List Int}(h:FW k xs kn li gv sh lg) (hn:n≤kn.length) (hts:ts.length≤50) (hk:kn.length≤250):wJ k n ((bO N0 (xs,kn,li,fr,gv,sh,lg,ts)).bind fun r3=>(cond (!r3.2.2.2.2.2.2.2) (some (r3.1,r3.2.1,r3.2.2.1,r3.2.2.2.1,r3.2.2.2.2.1,r3.2.2.2.2.2.1,r3.2.2.2.2.2.2.1,(3:Int))) (some (r3.1,r3.2.1,r3.2.2.1,r3.2.2.2.1,r3.2.2.2.2.1,r3.2.2.2.2.2.1,r3.2.2.2.2.2.2.1,(0:Int))))):=by
 obtain⟨kn',e1,e2,e3⟩:=KA (xs:=xs) (li:=li) (fr:=fr) (gv:=gv) (sh:=sh) (lg:=lg) (ts:=ts) (kn:=kn) (by omega) (by omega)
 have hw:FW k xs kn' li gv sh lg:={ h with fk:=by omega }
 rw[e1,Option.bind_some]
 dsimp only
 cases decide ((kn'.length:Int)≤200)with
 |true=>exact j7 hw (by omega)
 |false=>exact j7 hw (by omega)
theorem r8W{i:Int}{w p a b at_:Int}{env:List Int}{d dd:Bool}{key:Int}{ts:List Int}(h:FW k xs kn li gv sh lg) (hk9:k≤900):∃c:aJ,fD N0 (i,xs,kn,li,fr,gv,sh,lg,[],[],[],(0:Int),[],[],[],w,p,a,b,at_,env,d,dd,key,ts)=some (xs,kn,li,fr,gv,sh,lg++[c],[],[],[],(0:Int),[],[],[],ts):=by
 have hg:=h.fg
 have ho:=h.fo
 unfold fD
 dsimp only
 rw[jH (by omega),jH (by omega),Option.bind_some,Option.bind_some,List.length_singleton,show aR (lg.length+1)=true from by unfold aR;exact decide_eq_true (by omega),cond_true]
 exact⟨_,rfl⟩
theorem FW.log (h:FW k xs kn li gv sh lg) (c:aJ):FW (k+1) xs kn li gv sh (lg++[c]) where
 fx:=h.fx
 fk:=h.fk
 fl:=h.fl
 fg:=by have:=h.fg;omega
 fs:=by have:=h.fs;omega
 fo:=by have:=h.fo;rw[List.length_append,List.length_singleton];omega
 fe:=h.fe
theorem M1{i:Int}{w p a b at_:Int}{env:List Int}{d dd d0:Bool}{key:Int}{ts:List Int}(h:FW k xs kn li gv sh lg) (hk9:k≤900) (hts:ts.length≤50) (hk:kn.length≤250) :
  wJ (k+1) kn.length (cond d (cond (!d0) ((fD N0 (i,xs,kn,li,fr,gv,sh,lg,[],[],[],(0:Int),[],[],[],w,p,a,b,at_,env,d,dd,key,ts)).bind fun g2=>((bO N0 (g2.1,g2.2.1,g2.2.2.1,g2.2.2.2.1,g2.2.2.2.2.1,g2.2.2.2.2.2.1,g2.2.2.2.2.2.2.1,g2.2.2.2.2.2.2.2.2.2.2.2.2.2.2)).bind fun r3=>(cond (!r3.2.2.2.2.2.2.2) (some (r3.1,r3.2.1,r3.2.2.1,r3.2.2.2.1,r3.2.2.2.2.1,r3.2.2.2.2.2.1,r3.2.2.2.2.2.2.1,(3:Int))) (some (r3.1,r3.2.1,r3.2.2.1,r3.2.2.2.1,r3.2.2.2.2.1,r3.2.2.2.2.2.1,r3.2.2.2.2.2.2.1,(0:Int)))))) ((bO N0 (xs,kn,li,fr,gv,sh,lg,ts)).bind fun r3=>(cond (!r3.2.2.2.2.2.2.2) (some (r3.1,r3.2.1,r3.2.2.1,r3.2.2.2.1,r3.2.2.2.2.1,r3.2.2.2.2.2.1,r3.2.2.2.2.2.2.1,(3:Int))) (some (r3.1,r3.2.1,r3.2.2.1,r3.2.2.2.1,r3.2.2.2.2.1,r3.2.2.2.2.2.1,r3.2.2.2.2.2.2.1,(0:Int)))))) ((bO N0 (xs,kn,li,fr,gv,sh,lg,ts)).bind fun r3=>(cond (!r3.2.2.2.2.2.2.2) (some (r3.1,r3.2.1,r3.2.2.1,r3.2.2.2.1,r3.2.2.2.2.1,r3.2.2.2.2.2.1,r3.2.2.2.2.2.2.1,(3:Int))) (some (r3.1,r3.2.1,r3.2.2.1,r3.2.2.2.1,r3.2.2.2.2.1,r3.2.2.2.2.2.1,r3.2.2.2.2.2.2.1,(0:Int)))))):=by
 cases d with
 |false=>exact Jv (h.more (Nat.le_succ k)) (Nat.le_refl _) hts hk
 |true =>
  cases d0 with
  |true=>exact Jv (h.more (Nat.le_succ k)) (Nat.le_refl _) hts hk
  |false =>
   obtain⟨c,e⟩:=r8W (i:=i) (w:=w) (p:=p) (a:=a) (b:=b) (at_:=at_) (env:=env) (d:=true) (dd:=dd) (key:=key) (ts:=ts) (fr:=fr) h hk9
   rw[cond_true,Bool.not_false,cond_true,e,Option.bind_some]
   exact Jv (h.log c) (Nat.le_refl _) hts hk
theorem ZB{ys:List ab}{w p a b at_:Int}{env:List Int}{d dd:Bool}{key:Int}{i:Nat}(h:FW k xs kn li gv sh lg) (hk9:k≤900) (hk:kn.length≤250) (hy:ys.length≤600) (he:env.length≤26) (hv:ji ys (w,p,a,b,at_,env,d,dd,key)=true) (hi:i=li.length∧li.length≤8∨i<li.length) :
  wJ (k+1) kn.length (lb N0 (ys,kn,li,fr,gv,sh,lg,w,p,a,b,at_,env,d,dd,key,(i:Int))):=by
 obtain⟨zs,at',env',d',dd',key',out',nx',e1,e2,st⟩:=Kw (nx:=fr) (by omega) (by omega) hv
 have hz:=c9 st.pool
 have h5:=st.few
 have h26:=st.len
 have hl:=h.fl
 unfold lb
 dsimp only
 rw[e1,Option.bind_some]
 dsimp only
 rcases hi with⟨hi,h8⟩|hi
 ·rw[show((i:Int)==(li.length:Int))=true from by rw[beq_iff_eq];omega,cond_true,List.length_singleton,show aR (li.length+1)=true from by unfold aR;exact decide_eq_true (by omega),cond_true]
  refine M1 ⟨by omega,h.fk,by rw[List.length_append,List.length_singleton];omega,fun j hj=>?_,h.fg,h.fs,h.fo⟩ hk9 (by omega) hk
  rw[List.length_append,List.length_singleton]at hj
  by_cases hj2:j<li.length
  ·rw[List.getD_eq_getElem?_getD,List.getElem?_append_left hj2, ←List.getD_eq_getElem?_getD]
   exact h.fe j hj2
  ·rw[List.getD_eq_getElem?_getD,List.getElem?_append_right (by omega),show j-li.length=0 from by omega]
   show env'.length≤26
   omega
 ·rw[show((i:Int)==(li.length:Int))=false from by rw[beq_eq_false_iff_ne];omega,cond_false,au hi,cond_true,Int.toNat_natCast]
  refine M1 ⟨by omega,h.fk,by rw[List.length_set];omega,fun j hj=>?_,h.fg,h.fs,h.fo⟩ hk9 (by omega) hk
  rw[List.length_set]at hj
  rw[List.getD_eq_getElem?_getD,List.getElem?_set]
  by_cases hij:i=j
  ·rw[if_pos hij,if_pos hi,Option.getD_some]
   show env'.length≤26
   omega
  ·rw[if_neg hij, ←List.getD_eq_getElem?_getD]
   exact h.fe j hj
end
theorem GQ{w p:Int}(h:¬((w=1∨w=2∨w=3)∧(p=0∨p=1))):cT N0 (w,p)=some false:=by
 unfold cT eA
 dsimp only
 by_cases w1:w=1
 ·have h0:(p==(0:Int))=false:=by rw[beq_eq_false_iff_ne];omega
  have h1:(p==(1:Int))=false:=by rw[beq_eq_false_iff_ne];omega
  subst w1
  simp only[h0,h1,beq_self_eq_true,Int.reduceBEq,cond_true,cond_false,Option.bind_some,o7,Bool.not_true]
 by_cases w2:w=2
 ·have h0:(p==(0:Int))=false:=by rw[beq_eq_false_iff_ne];omega
  have h1:(p==(1:Int))=false:=by rw[beq_eq_false_iff_ne];omega
  subst w2
  simp only[h0,h1,beq_self_eq_true,Int.reduceBEq,cond_true,cond_false,Option.bind_some,o7,Bool.not_true]
 by_cases w3:w=3
 ·have h0:(p==(0:Int))=false:=by rw[beq_eq_false_iff_ne];omega
  have h1:(p==(1:Int))=false:=by rw[beq_eq_false_iff_ne];omega
  subst w3
  simp only[h0,h1,beq_self_eq_true,Int.reduceBEq,cond_true,cond_false,Option.bind_some,o7,Bool.not_true]
 have k1:(w==(1:Int))=false:=by rw[beq_eq_false_iff_ne];exact w1
 have k2:(w==(2:Int))=false:=by rw[beq_eq_false_iff_ne];exact w2
 have k3:(w==(3:Int))=false:=by rw[beq_eq_false_iff_ne];exact w3
 simp only[k1,k2,k3,cond_false,Option.bind_some,o7,Bool.not_true]
section
variable{k n:Nat}{xs:List ab}{kn:List Int}{li:List bp}{fr:Int}{gv sh:List Int}{lg:List aJ}
theorem Ee (hp:aS xs=true) (hl:kn.length≤200) (hk:yu kn xs) (T:ByteArray):∃ys t b c,iq N0 (xs,kn,T)=some (ys,t,b,c)∧(c=0→aS ys=true∧(∃zs,ys=xs++zs)∧cD ys t=true):=by
 have hx:=c9 hp
 have pS:=lR N0 n0 (xs:=xs) (by omega)
 have hP:(decide (xs.length≤500)&&cm N0 [] xs)=true:=hp
 rw[hP]at pS
 unfold iq
 dsimp only
 rw[pS,Option.bind_some,cond_true,u9 (by omega),Option.bind_some,wO (by omega) (by omega),Option.bind_some]
 cases hT:decide ((T.size:Int)>2000)with
 |true=>exact⟨_,_,_,1,rfl,fun h=>by cases h⟩
 |false =>
  rw[cond_false]
  rw[decide_eq_false_iff_not]at hT
  cases(bK (iw xs kn) 0 kn.length&&(decide (kn.length≤200)&&(decide (xs.length≤500)&&cm N0 [] xs)))with
  |false=>exact⟨_,_,_,5,rfl,fun h=>by cases h⟩
  |true =>
   obtain⟨ys,t,b,c,e1,h⟩:=JG (T:=T) (by omega) T.size 0 xs N0 (Nat.sub_le _ _) (by have:=n0;omega) (Nat.zero_le _) hp hk
   rw[show((0:Nat):Int)=0 from rfl]at e1
   rw[Bool.not_true,cond_false,e1,Option.bind_some]
   dsimp only
   by_cases hc:c=0
   ·obtain⟨h1,h2,h3,_⟩:=h hc
    have hy:=c9 h1
    rw[hc,show((0:Int) != 0)=false from rfl,cond_false,u9 (by omega),Option.bind_some]
    cases decide (b<(T.size:Int))with
    |true=>exact⟨_,_,_,6,rfl,fun h=>by cases h⟩
    |false=>exact⟨_,_,_,0,rfl,fun _=>⟨h1,h2,h3⟩⟩
   ·rw[show(c != 0)=true from by rw[bne_iff_ne];exact hc,cond_true]
    exact⟨_,_,_,c,rfl,fun h=>absurd h hc⟩
theorem o4 (hw:bJ xs kn li fr gv sh lg=true):aS xs=true∧kn.length≤200∧yu kn xs∧li.length≤8:=by
 unfold bJ sI at hw
 simp only[Bool.and_eq_true]at hw
 obtain⟨⟨h1,h2,h3⟩,h4,_⟩:=hw
 rw[cP]at h1
 refine⟨h3,of_decide_eq_true h2,fun u hu=>?_,of_decide_eq_true h4⟩
 have:=h1 u (Nat.zero_le _) (by omega)
 unfold iw at this
 rw[Bool.and_eq_true]at this
 exact this.1
theorem N9 (h:FW k xs kn li gv sh lg) (hk9:k≤900) (hw:bJ xs kn li fr gv sh lg=true) (kd A B C D:Int) (T:ByteArray):wJ (k+1) kn.length (jf N0 (xs,kn,li,fr,gv,sh,lg,kd,A,B,C,D,T)):=by
 obtain⟨hp,h200,hki,h8⟩:=o4 hw
 have no:∀c:Int,wJ (k+1) kn.length (some (xs,kn,li,fr,gv,sh,lg,c)):=fun c=>j7 (h.more (Nat.le_succ k)) (Nat.le_refl _)
 unfold jf
 dsimp only
 by_cases hr:(A=1∨A=2∨A=3)∧(B=0∨B=1)
 ·rw[CA hr.1 hr.2,Option.bind_some,Bool.not_true,cond_false]
  unfold bj
  rw[p5,p5,Option.bind_some,Option.bind_some,Option.bind_some]
  cases hC:(decide (C≥0)&&decide (C≤4))with
  |false=>exact no 2
  |true =>
   rw[Bool.not_true,cond_false]
   rw[Bool.and_eq_true,decide_eq_true_iff,decide_eq_true_iff]at hC
   cases hD:(decide (D≥0)&&decide (D≤4))with
   |false=>exact no 2
   |true =>
    rw[Option.bind_some,Bool.not_true,cond_false]
    rw[Bool.and_eq_true,decide_eq_true_iff,decide_eq_true_iff]at hD
    cases hCD:(C==D)with
    |true=>exact no 2
    |false =>
     rw[cond_false]
     cases hl8:((li.length:Int)==8)with
     |true=>exact no 3
     |false =>
      rw[cond_false]
      cases(fr==8)with
      |true=>exact no 3
      |false =>
       rw[cond_false]
       cases h4:decide ((xs.length:Int)>400)with
       |true=>exact no 3
       |false =>
        rw[cond_false]
        rw[decide_eq_false_iff_not]at h4
        rw[beq_eq_false_iff_ne]at hCD hl8
        obtain⟨ys,e,e1,e2,e3,_,e5⟩:=LX hp (by omega) hr.1 hr.2 hC.1 hC.2 hD.1 hD.2 hCD
        rw[e1,Option.bind_some]
        dsimp only
        rw[Bool.not_true,cond_false]
        obtain⟨xs',kn',li',fr',gv',sh',lg',c,q,q1,q2⟩:=ZB (fr:=fr) (i:=li.length) h hk9 (by omega) (by omega) (by omega) e5 (.inl ⟨rfl,h8⟩)
        rw[q]
        exact⟨_,_,_,_,_,_,_,_,rfl,q1,q2⟩
 ·rw[GQ hr]
  exact no 2
theorem FX{A:Int}(h8:li.length≤9):(∃i:Nat,A=(i:Int)∧i<li.length∧bI N0 (A,(0:Int),IntKind.i64.wrap ((li.length:Int)-1))=some true)∨bI N0 (A,(0:Int),IntKind.i64.wrap ((li.length:Int)-1))=some false:=by
 rw[ar (by omega) (by omega),p5]
 cases hA:(decide (A≥0)&&decide (A≤(li.length:Int)-1))with
 |false=>exact .inr rfl
 |true =>
  rw[Bool.and_eq_true,decide_eq_true_iff,decide_eq_true_iff]at hA
  exact .inl ⟨A.toNat,by omega,by omega,rfl⟩
theorem IC{zs:List ab}{w p a b at_:Int}{env:List Int}{d dd:Bool}{key:Int}(hg:Lf xs (w,p,a,b,at_,env,d,dd,key)) (hq:aS (xs++zs)=true):ji (xs++zs) (w,p,a,b,at_,env,d,dd,key)=true :=
 pH hg.way hg.side hg.me hg.peer hg.ne hq hg.len (lp hg.env) hg.at0 hg.done (fun q=>⟨hg.live q,vP (hg.key q)⟩) (fun q=>hg.no q)
theorem Qt (h:FW k xs kn li gv sh lg) (hk9:k≤900) (hw:bJ xs kn li fr gv sh lg=true) (kd A B C D:Int) (T:ByteArray):wJ (k+1) kn.length (kg N0 (xs,kn,li,fr,gv,sh,lg,kd,A,B,C,D,T)):=by
 obtain⟨hp,h200,hki,h8⟩:=o4 hw
 have no:∀c:Int,wJ (k+1) kn.length (some (xs,kn,li,fr,gv,sh,lg,c)):=fun c=>j7 (h.more (Nat.le_succ k)) (Nat.le_refl _)
 unfold kg
 dsimp only
 rcases FX (A:=A) h.fl with⟨i,rfl,hi,e⟩|e
 ·obtain⟨ys,t,b,c,e1,hr⟩:=Ee hp h200 hki T
  rw[e,Option.bind_some,Bool.not_true,cond_false,e1,Option.bind_some]
  dsimp only
  by_cases hc:c=0
  ·obtain⟨g1,⟨z,rfl⟩,g3⟩:=hr hc
   rw[hc,show((0:Int) != 0)=false from rfl,cond_false]
   cases hy:decide (((xs++z).length:Int)>400)with
   |true=>exact no 3
   |false =>
    rw[decide_eq_false_iff_not]at hy
    have hg:=DT (h.small (by omega)) hw hi
    have he:=h.fe i hi
    rw[cond_false,jo]
    dsimp only
    rw[au hi,cond_true,Int.toNat_natCast,show li.getD i ((0:Int),((0:Int),((0:Int),((0:Int),((0:Int),(([]:List Int),(false,(false,(0:Int)))))))))=li.getD i zI from rfl]
    generalize li.getD i zI=x at hg he
    obtain⟨w,p,a,b,at_,env,d,dd,key⟩:=x
    dsimp only
    obtain⟨us,at',e',d',dd',ok,q1,q2,q3,q4,_⟩:=GH (t:=t) (by omega) (show env.length≤4294967296 from by unfold tO at he;dsimp only at he;omega) (IC hg g1)
    rw[q1,Option.bind_some,Option.bind_some]
    dsimp only
    cases ok with
    |false=>exact no 4
    |true =>
     have hu:=c9 q4
     rw[Bool.not_true,cond_false]
     obtain⟨xs',kn',li',fr',gv',sh',lg',c,u,u1,u2⟩:=ZB (fr:=fr) (i:=i) h hk9 (by omega) (by omega) (by omega) q2 (.inr hi)
     rw[u]
     exact⟨_,_,_,_,_,_,_,_,rfl,u1,u2⟩
  ·rw[show(c != 0)=true from by rw[bne_iff_ne];exact hc,cond_true]
   exact no 4
 ·rw[e]
  exact no 2
theorem Qy (h:FW k xs kn li gv sh lg) (hk9:k≤800) (hw:bJ xs kn li fr gv sh lg=true) (kd A B C D:Int) (T:ByteArray):wJ (k+1) kn.length (ki N0 (xs,kn,li,fr,gv,sh,lg,kd,A,B,C,D,T)):=by
 obtain⟨hp,h200,hki,h8⟩:=o4 hw
 have no:∀c:Int,wJ (k+1) kn.length (some (xs,kn,li,fr,gv,sh,lg,c)):=fun c=>j7 (h.more (Nat.le_succ k)) (Nat.le_refl _)
 have hs:=h.fs
 unfold ki
 dsimp only
 rcases FX (A:=A) h.fl with⟨i,rfl,hi,e⟩|e
 ·rw[e,Option.bind_some,Bool.not_true,cond_false,au hi,cond_true,jH (by omega),Option.bind_some,xy (by omega),Option.bind_some]
  cases(li.getD ((i:Int)).toNat ((0:Int),((0:Int),((0:Int),((0:Int),((0:Int),(([]:List Int),(false,(false,(0:Int)))))))))).2.2.2.2.2.2.1 with
  |false=>exact no 2
  |true =>
   rw[Bool.not_true,cond_false]
   cases j6 sh (i:Int)with
   |true=>exact no 2
   |false =>
    rw[cond_false,jp]
    dsimp only
    have hpl:=ud sh (i:Int)
    obtain⟨kn',e1,e2,e3⟩:=KA (xs:=xs) (li:=li) (fr:=fr) (gv:=gv) (sh:=vv sh (i:Int)) (lg:=lg) (ts:=[(li.getD ((i:Int)).toNat ((0:Int),((0:Int),((0:Int),((0:Int),((0:Int),(([]:List Int),(false,(false,(0:Int)))))))))).2.2.2.2.2.2.2.2]) (kn:=kn) (by rw[List.length_singleton];omega) (by rw[List.length_singleton];omega)
    rw[List.length_singleton]at e3
    have hf:FW (k+1) xs kn' li gv (vv sh (i:Int)) lg:={ h.more (Nat.le_succ k)with fk:=by omega,fs:=by omega }
    rw[au hi,cond_true,e1,Option.bind_some,Option.bind_some]
    dsimp only
    cases decide ((kn'.length:Int)≤200)with
    |false=>exact j7 hf e2
    |true=>exact j7 hf e2
 ·rw[e]
  exact no 2
end
section
variable{k n:Nat}{xs:List ab}{kn:List Int}{li:List bp}{fr:Int}{gv sh:List Int}{lg:List aJ}
theorem tl (kd A B C D:Int) (T:ByteArray) (a0:0≤A) (a4:A≤4):∀(m i:Nat) (ns:List Int),i≤5→5-i<m→ns.length≤i+2→∃ns',cb N0 m (xs,kn,li,fr,gv,sh,lg,kd,A,B,C,D,T,[],[],[],(0:Int),[],[],[],ns,(i:Int))=some (xs,kn,li,fr,gv,sh,lg,kd,A,B,C,D,T,[],[],[],(0:Int),[],[],[],ns')∧ns'.length≤7
 |0,i,ns,hi,hm,_=>absurd hm (by omega)
 |m+1,i,ns,hi,hm,hl=>by
  rw[cb]
  dsimp only
  by_cases h5:i<5
  ·have w:IntKind.i64.wrap ((i:Int)+1)=((i+1:Nat):Int):=by rw[ar (by omega) (by omega)];omega
   rw[show decide ((i:Int)<5)=true from decide_eq_true (by omega),cond_true,w]
   cases hA:((i:Int) != A)with
   |false =>
    rw[cond_false]
    exact tl kd A B C D T a0 a4 m (i+1) ns (by omega) (by omega) (by omega)
   |true =>
    rw[bne_iff_ne]at hA
    obtain⟨v,e,_⟩:=t7 (a:=A) (b:=(i:Int)) a0 a4 (by omega) (by omega) (fun q=>hA q.symm)
    rw[cond_true,e,Option.bind_some,List.length_singleton,show aR (ns.length+1)=true from by unfold aR;exact decide_eq_true (by omega),cond_true]
    exact tl kd A B C D T a0 a4 m (i+1) (ns++[v]) (by omega) (by omega) (by rw[List.length_append,List.length_singleton];omega)
  ·rw[show decide ((i:Int)<5)=false from decide_eq_false (by omega),cond_false]
   exact⟨ns,rfl,by omega⟩
def T8 (k n:Nat) (s:Option ((List ab×List Int×List bp×Int×List Int×List Int×List aJ×Int)⊕(List ab×List Int×List bp×Int×List Int×List Int×List aJ×List ab×List Int×List bp×Int×List Int×List Int×List aJ))):Prop :=
 (∃xs kn li fr gv sh lg c,s=some (.inl (xs,kn,li,fr,gv,sh,lg,c))∧FW k xs kn li gv sh lg∧n≤kn.length)∨(∃xs kn li fr gv sh lg,s=some (.inr (xs,kn,li,fr,gv,sh,lg,[],[],[],(0:Int),[],[],[]))∧FW k xs kn li gv sh lg∧n≤kn.length)
theorem AC (ns:List Int) (hns:ns.length≤7):∀(m i:Nat) (xs:List ab) (kn:List Int),i≤ns.length→ns.length-i<m→aS xs=true→kn.length≤200→n≤kn.length→FW k xs kn li gv sh lg→T8 k n (cf N0 m (xs,kn,li,fr,gv,sh,lg,[],[],[],(0:Int),[],[],[],ns,(i:Int)))
 |0,i,xs,kn,hi,hm,_,_,_,_=>absurd hm (by omega)
 |m+1,i,xs,kn,hi,hm,hp,hk,hn,h=>by
  rw[cf]
  dsimp only
  by_cases hj:i<ns.length
  ·rw[m7 hj,cond_true,iE]
   dsimp only
   rw[au hj,cond_true,jX hp,Option.bind_some,Option.bind_some]
   cases hA:jm xs 1 (ns.getD ((i:Int)).toNat 0) 0 with
   |none=>exact .inl ⟨_,_,_,_,_,_,_,_,rfl,h,hn⟩
   |some q =>
    obtain⟨ys,t⟩:=q
    obtain⟨g1,g2,_⟩:=lZ hp hA
    have hy:=c9 g1
    rw[show oc xs (some (ys,t))=(ys,t)from rfl]
    dsimp only
    obtain⟨kn',e1,e2,e3⟩:=KA (xs:=ys) (li:=li) (fr:=fr) (gv:=gv) (sh:=sh) (lg:=lg) (ts:=[t]) (kn:=kn) (by rw[List.length_singleton];omega) (by rw[List.length_singleton];omega)
    rw[List.length_singleton]at e3
    have hf:FW k ys kn' li gv sh lg:={ h with fx:=by omega,fk:=by omega }
    rw[show decide (t<(0:Int))=false from decide_eq_false (by have:=(j5.1 g2).1;omega),cond_false,e1,Option.bind_some]
    dsimp only
    cases h2:decide ((kn'.length:Int)≤200)with
    |false=>exact .inl ⟨_,_,_,_,_,_,_,_,rfl,hf,by omega⟩
    |true =>
     rw[decide_eq_true_iff]at h2
     rw[Bool.not_true,cond_false,aQ hj (by omega)]
     exact AC ns hns m (i+1) ys kn' hj (by omega) g1 (by omega) (by omega) hf
  ·rw[FN hj,cond_false]
   exact .inr ⟨_,_,_,_,_,_,_,rfl,h,hn⟩
theorem R0 (h:FW k xs kn li gv sh lg) (hk9:k≤800) (hw:bJ xs kn li fr gv sh lg=true) (kd A B C D:Int) (T:ByteArray):wJ (k+1) kn.length (kj N0 (xs,kn,li,fr,gv,sh,lg,kd,A,B,C,D,T)):=by
 obtain⟨hp,h200,hki,h8⟩:=o4 hw
 have no:∀c:Int,wJ (k+1) kn.length (some (xs,kn,li,fr,gv,sh,lg,c)):=fun c=>j7 (h.more (Nat.le_succ k)) (Nat.le_refl _)
 have hg:=h.fg
 unfold kj
 dsimp only
 by_cases ha:0≤A∧A≤4
 ·rw[lq ha.1 ha.2,Option.bind_some,Bool.not_true,cond_false,jH (by omega),Option.bind_some]
  cases j6 gv A with
  |true=>exact no 2
  |false =>
   have hpl:=ud gv A
   obtain⟨ns,e1,e2⟩:=tl (xs:=xs) (kn:=kn) (li:=li) (fr:=fr) (gv:=gv) (sh:=sh) (lg:=lg) kd A B C D T ha.1 ha.2 N0 0 [50+A,90+A] (by omega) (by have:=n0;omega) (by simp)
   have hf:FW (k+1) xs kn li (vv gv A) sh lg:={ h.more (Nat.le_succ k)with fg:=by omega }
   rw[show((0:Nat):Int)=0 from rfl]at e1
   rw[cond_false,ta ha.1 ha.2,mM ha.1 ha.2,Option.bind_some,Option.bind_some,e1,Option.bind_some]
   dsimp only
   rw[xy (by omega),Option.bind_some]
   have hlp:=AC (k:=k+1) (n:=kn.length) (li:=li) (fr:=fr) (gv:=vv gv A) (sh:=sh) (lg:=lg) ns e2 N0 0 xs kn (Nat.zero_le _) (by have:=n0;omega) hp h200 (Nat.le_refl _) hf
   rw[show((0:Nat):Int)=0 from rfl]at hlp
   rcases hlp with⟨xs',kn',li',fr',gv',sh',lg',c,u,u1,u2⟩|⟨xs',kn',li',fr',gv',sh',lg',u,u1,u2⟩
   ·rw[u]
    exact⟨_,_,_,_,_,_,_,_,rfl,u1,u2⟩
   ·rw[u]
    exact⟨_,_,_,_,_,_,_,_,rfl,u1,u2⟩
 ·have e:bj N0 A=some false:=by
   unfold bj
   rw[p5,Option.bind_some]
   have:(decide (A≥0)&&decide (A≤4))=false:=by
    rw[Bool.and_eq_false_iff,decide_eq_false_iff_not,decide_eq_false_iff_not]
    omega
   rw[this]
  rw[e]
  exact no 2
theorem ER (kd A B C D:Int) (T:ByteArray):∃v,iG N0 (kd,A,B,C,D,T)=some v:=by
 unfold iG
 cases(kd==(1:Int))
 ·cases(kd==(2:Int))
  ·cases(kd==(3:Int))
   ·cases(kd==(4:Int))<;>exact⟨_,rfl⟩
   ·exact⟨_,rfl⟩
  ·exact⟨_,rfl⟩
 ·exact⟨_,rfl⟩
theorem Kv (h:FW k xs kn li gv sh lg) (hk9:k≤800) (hw:bJ xs kn li fr gv sh lg=true) (kd A B C D:Int) (T:ByteArray):wJ (k+1) kn.length (lc N0 (xs,kn,li,fr,gv,sh,lg,kd,A,B,C,D,T)):=by
 unfold lc
 dsimp only
 cases(kd==(1:Int))with
 |true =>
  obtain⟨_,_,_,_,_,_,_,_,e,h1,h2⟩:=N9 h (by omega) hw kd A B C D T
  rw[cond_true,e]
  exact⟨_,_,_,_,_,_,_,_,rfl,h1,h2⟩
 |false =>
  cases(kd==(2:Int))with
  |true =>
   obtain⟨_,_,_,_,_,_,_,_,e,h1,h2⟩:=Qt h (by omega) hw kd A B C D T
   rw[cond_false,cond_true,e]
   exact⟨_,_,_,_,_,_,_,_,rfl,h1,h2⟩
  |false =>
   cases(kd==(3:Int))with
   |true =>
    obtain⟨_,_,_,_,_,_,_,_,e,h1,h2⟩:=R0 h hk9 hw kd A B C D T
    rw[cond_false,cond_false,cond_true,e]
    exact⟨_,_,_,_,_,_,_,_,rfl,h1,h2⟩
   |false =>
    obtain⟨_,_,_,_,_,_,_,_,e,h1,h2⟩:=Qy h hk9 hw kd A B C D T
    rw[cond_false,cond_false,cond_false,e]
    exact⟨_,_,_,_,_,_,_,_,rfl,h1,h2⟩
end
theorem zo (l:List UInt8):(ByteArray.mk l.toArray).size=l.length:=rfl
theorem JP (n:Nat){b:List Int}{i:Int}(h:Int) (l:List ByteArray) (k:Nat) (hl:l≠[]) (hk:∀s∈l,s.size≤k) (hc:Cu b i):∃i' h' v,jT n (b,i,h,l)=some (b,i',h',v)∧Cu b i'∧v.size≤k:=by
 unfold jT
 dsimp only
 obtain⟨i1,h1,v1,e1,c1,hb⟩:=cr n h (l.length:Int) hc
 have hpos:0<l.length:=List.length_pos_iff.2 hl
 rw[e1,Option.bind_some]
 dsimp only
 have hv:0≤v1∧v1<(l.length:Int):=by
  rcases hb with⟨q,_⟩|q
  ·omega
  ·exact q
 have e:v1=((v1.toNat:Nat):Int):=by omega
 have hin:aY v1 l.length=true:=by rw[e];exact au (by omega)
 rw[hin,cond_true]
 refine⟨_,_,_,rfl,c1,hk _ ?_⟩
 rw[List.getD_eq_getElem?_getD,List.getElem?_eq_getElem (by omega),Option.getD_some]
 exact List.getElem_mem _
theorem FC{x:Int}(h0:0≤x) (h1:x≤999):∃r,aU N0 x=some r∧r.size≤3:=by
 unfold aU
 by_cases hq:x≤0
 ·rw[decide_eq_true hq,cond_true]
  exact⟨_,rfl,by decide⟩
 ·rw[decide_eq_false hq,cond_false]
  have:=n0
  obtain⟨r,e1,e2⟩:=Aa 3 N0 x (⟨#[]⟩:ByteArray) h0 (by omega) (by have:(10:Int) ^ 3=1000:=rfl;omega) (by omega) (by decide)
  rw[e1,Option.bind_some]
  exact⟨r,rfl,e2⟩
theorem Xx{x y:Int}:ig N0 (x,y)=some (if x<y then x else y):=by
 unfold ig
 dsimp only
 by_cases q:x<y
 ·rw[decide_eq_true q,if_pos q];rfl
 ·rw[decide_eq_false q,if_neg q];rfl
section
variable{k:Nat}{b:List Int}{xs:List ab}{kn:List Int}{li:List bp}{fr:Int}{gv sh:List Int}{lg:List aJ}
end
theorem xJ:∀(m i:Nat) (xs:List ab),i≤5→5-i<m→aS xs=true→∃ys,bx N0 m ([],[],[],(0:Int),[],[],[],xs,([]:List Int),(i:Int))=some ([],[],[],(0:Int),[],[],[],ys,([]:List Int))∧aS ys=true
 |0,i,xs,hi,hm,hp=>absurd hm (by omega)
 |m+1,i,xs,hi,hm,hp=>by
  rw[bx]
  dsimp only
  by_cases h5:i<5
  ·have w:IntKind.i64.wrap ((i:Int)+1)=((i+1:Nat):Int):=by rw[ar (by omega) (by omega)];omega
   rw[show decide ((i:Int)<5)=true from decide_eq_true (by omega),cond_true,jX hp,Option.bind_some,w]
   cases hA:jm xs 1 (i:Int) 0 with
   |none=>exact xJ m (i+1) xs (by omega) (by omega) hp
   |some q =>
    obtain⟨ys,t⟩:=q
    exact xJ m (i+1) ys (by omega) (by omega) (lZ hp hA).1
  ·rw[show decide ((i:Int)<5)=false from decide_eq_false (by omega),cond_false]
   exact⟨xs,rfl,hp⟩
theorem CT{xs:List ab}{kd a b:Int}(hp:aS xs=true):aS (oc xs (jm xs kd a b)).1=true:=by
 cases hA:jm xs kd a b with
 |none=>exact hp
 |some q =>
  obtain⟨ys,t⟩:=q
  exact(lZ hp hA).1
theorem JN (kn:List Int) (v:Int):1≤(vv kn v).length:=by
 unfold vv
 cases h:kn.contains v with
 |false=>rw[cond_false,rd];omega
 |true =>
  rw[cond_true]
  cases kn with
  |nil=>cases h
  |cons a r=>rw[List.length_cons];omega
theorem Ci:∀(m i:Nat) (xs:List ab) (kn:List Int),i≤5→5-i<m→aS xs=true→kn.length≤i→(i=0∨1≤kn.length)→∃ys kn',bv N0 m ([],[],[],(0:Int),[],[],[],xs,kn,(i:Int))=some ([],[],[],(0:Int),[],[],[],ys,kn')∧aS ys=true∧kn'.length≤5∧1≤kn'.length
 |0,i,xs,kn,hi,hm,hp,_,_=>absurd hm (by omega)
 |m+1,i,xs,kn,hi,hm,hp,hk,h1=>by
  rw[bv]
  dsimp only
  by_cases h5:i<5
  ·have w:IntKind.i64.wrap ((i:Int)+1)=((i+1:Nat):Int):=by rw[ar (by omega) (by omega)];omega
   have p1:=CT (kd:=1) (a:=90+(i:Int)) (b:=0) hp
   have hl:=ud kn (oc (oc xs (jm xs 1 (90+(i:Int)) 0)).1 (jm (oc xs (jm xs 1 (90+(i:Int)) 0)).1 7 (oc xs (jm xs 1 (90+(i:Int)) 0)).2 0)).2
   have hq:=JN kn (oc (oc xs (jm xs 1 (90+(i:Int)) 0)).1 (jm (oc xs (jm xs 1 (90+(i:Int)) 0)).1 7 (oc xs (jm xs 1 (90+(i:Int)) 0)).2 0)).2
   rw[show decide ((i:Int)<5)=true from decide_eq_true (by omega),cond_true,fm]
   dsimp only
   rw[mM (by omega) (by omega),Option.bind_some,jX hp,Option.bind_some,Option.bind_some]
   dsimp only
   rw[ir p1,Option.bind_some,xy (by omega),Option.bind_some,w]
   exact Ci m (i+1) _ _ (by omega) (by omega) (CT p1) (by omega) (.inr hq)
  ·rw[show decide ((i:Int)<5)=false from decide_eq_false (by omega),cond_false]
   exact⟨xs,kn,rfl,hp,by omega,by omega⟩
theorem Cg:∃xs kn,fE N0 ()=some (xs,kn,[],(0:Int),[],[],[])∧FW 0 xs kn [] [] [] []∧1≤kn.length:=by
 have hN:=n0
 obtain⟨xs,e1,p1⟩:=xJ N0 0 [] (by omega) (by omega) (by decide)
 obtain⟨ys,kn,e2,p2,k2,k3⟩:=Ci N0 0 xs [] (by omega) (by omega) p1 (Nat.zero_le _) (.inl rfl)
 rw[show((0:Nat):Int)=0 from rfl]at e1 e2
 have hl:=c9 p2
 unfold fE
 rw[e1,Option.bind_some]
 dsimp only
 rw[e2]
 exact⟨ys,kn,rfl,⟨by omega,by omega,by simp,fun i hi=>absurd hi (by simp),by simp,by simp,by simp⟩,k3⟩
abbrev sP:=Int×(Int×(Int×(Int×(Int×ByteArray))))
section
variable{b:List Int}
def PW (b:List Int) (q:Nat) (s:Option (List Int×Int×Int×List ab×List Int×List bp×Int×List Int×List Int×List aJ×List ab×List Int×List bp×Int×List Int×List Int×List aJ×List sP)):Prop :=
 ∃i h xs kn li fr gv sh lg ls,s=some (b,i,h,[],[],[],(0:Int),[],[],[],xs,kn,li,fr,gv,sh,lg,ls)∧Cu b i∧FW q xs kn li gv sh lg∧1≤kn.length∧ls.length≤q∧∀d∈ls,d.2.2.2.2.2.size≤100
end
theorem Mp (x:List ab×Int×Int×Int):ke N0 x=aV N0 x:=rfl
theorem C7 (x:List ab×Int):je N0 x=bM N0 x:=rfl
theorem zQ:∀(m:Nat) (x:List Int×Int×List Int×Bool×Int),bP N0 m x=bk N0 m x
 |0,_=>rfl
 |m+1,x=>by
  rw[bP,bk]
  simp only[zQ m]
theorem LK (x:List Int×Int):kb N0 x=fC N0 x:=by
 unfold kb fC
 simp only[zQ]
theorem yh:∀(m:Nat) x,bH N0 m x=bx N0 m x
 |0,_=>rfl
 |m+1,x=>by
  rw[bH,bx]
  simp only[yh m,C7]
theorem yg:∀(m:Nat) x,bG N0 m x=bv N0 m x
 |0,_=>rfl
 |m+1,x=>by
  rw[bG,bv]
  simp only[yg m,fI,fm,C7,Mp,LK]
theorem LY:gC N0 ()=fE N0 ():=by
 unfold gC fE
 simp only[yh,yg]
def Qh (b:List Int) (li:List bp) (s:Option (List Int×Int×Int×Int×Int×List bp×Int×Int×Int×Int×Int×Int×Int×Int×Int×ByteArray)):Prop :=
 ∃i h p q f r s' t kd A B C D T,s=some (b,i,h,p,q,li,f,r,s',t,kd,A,B,C,D,T)∧Cu b i∧T.size≤100
section
variable{k:Nat}{b:List Int}{xs:List ab}{kn:List Int}{li:List bp}{fr:Int}{gv sh:List Int}{lg:List aJ}
theorem CM{i:Int}(h:Int){p q f r s t a1 a2 a3 a4 a5 a7 a8 a9 a10 a11:Int}{a6 a12:ByteArray}(hc:Cu b i) (h0:0<li.length):∃i' h' p' q' f' r' s' t' y1 y2 y3 y4 y5 y6 y7 y8 y9,cK N0 (b,i,h,p,q,li,f,r,s,t,a1,a2,a3,a4,a5,a6,(li.length:Int),a7,a8,a9,a10,a11,a12)=some (b,i',h',p',q',li,f',r',s',t',a1,a2,a3,a4,a5,a6,a7,a8,a9,a10,a11,a12,y1,y2,y3,y4,y5,y6,y7,y8,y9)∧Cu b i':=by
 obtain⟨i1,h1,v1,e1,c1,hb⟩:=cr N0 h (li.length:Int) hc
 have hv:0≤v1∧v1<(li.length:Int):=by
  rcases hb with⟨q,_⟩|q
  ·omega
  ·exact q
 have e:v1=((v1.toNat:Nat):Int):=by omega
 have hin:aY v1 li.length=true:=by rw[e];exact au (by omega)
 unfold cK
 dsimp only
 rw[e1,Option.bind_some]
 dsimp only
 rw[hin,cond_true]
 exact⟨_,_,_,_,_,_,_,_,_,_,_,_,_,_,_,_,_,rfl,c1⟩
theorem u7{i:Int}(h:Int){p f r s t:Int}{n:Nat}(hc:Cu b i) (hl9:li.length≤9) (hk1:1≤n) (hk3:n≤300):Qh b li (dH N0 (b,i,h,p,(n:Int),li,f,r,s,t)):=by
 unfold dH
 dsimp only
 simp only[Int.toNat_natCast]
 cases hl:decide ((li.length:Int)<2)with
 |true =>
  rw[cond_true]
  obtain⟨i1,h1,v1,e1,c1,b1⟩:=cr N0 h 3 hc
  obtain⟨i2,h2,v2,e2,c2,b2⟩:=cr N0 h1 2 c1
  obtain⟨i3,h3,v3,e3,c3,b3⟩:=cr N0 h2 3 c2
  obtain⟨i4,h4,v4,e4,c4,b4⟩:=cr N0 h3 3 c3
  obtain⟨i5,h5,v5,e5,c5⟩:=xz N0 h4 3 c4
  rw[e1,Option.bind_some]
  dsimp only
  rw[e2,Option.bind_some]
  dsimp only
  rw[e3,Option.bind_some]
  dsimp only
  rw[e4,Option.bind_some]
  dsimp only
  cases hl2:decide ((li.length:Int)>0)with
  |false=>exact⟨_,_,_,_,_,_,_,_,_,_,_,_,_,_,rfl,c4,by decide⟩
  |true =>
   rw[decide_eq_true_iff]at hl2
   rw[cond_true,e5,Option.bind_some]
   dsimp only
   cases v5 with
   |true=>exact⟨_,_,_,_,_,_,_,_,_,_,_,_,_,_,rfl,c5,by decide⟩
   |false =>
    obtain⟨i6,h6,p',q',f',r',s',t',y1,y2,y3,y4,y5,y6,y7,y8,y9,e6,c6⟩:=CM (li:=li) (p:=((p.toNat:Nat):Int)) (q:=(n:Int)) (f:=f) (r:=((r.toNat:Nat):Int)) (s:=((s.toNat:Nat):Int)) (t:=((t.toNat:Nat):Int)) (a1:=0) (a2:=0) (a3:=0) (a4:=0) (a5:=0) (a6:=⟨#[]⟩) (a7:=1) (a8:=IntKind.i64.wrap ((1:Int)+v1)) (a9:=v2) (a10:=v3) (a11:=v4) (a12:=⟨#[]⟩) h5 c5 (show 0<li.length by omega)
    rw[Bool.not_false,cond_true,e6]
    exact⟨_,_,_,_,_,_,_,_,_,_,_,_,_,_,rfl,c6,by decide⟩
 |false =>
  rw[decide_eq_false_iff_not]at hl
  obtain⟨i0,h0,v0,e0,c0⟩:=xz N0 h 9 hc
  rw[cond_false,e0,Option.bind_some]
  dsimp only
  cases v0 with
  |true =>
   rw[cond_true]
   obtain⟨i1,h1,v1,e1,c1,b1⟩:=cr N0 h0 3 c0
   obtain⟨i2,h2,v2,e2,c2,b2⟩:=cr N0 h1 2 c1
   obtain⟨i3,h3,v3,e3,c3,b3⟩:=cr N0 h2 3 c2
   obtain⟨i4,h4,v4,e4,c4,b4⟩:=cr N0 h3 3 c3
   obtain⟨i5,h5,v5,e5,c5⟩:=xz N0 h4 3 c4
   rw[e1,Option.bind_some]
   dsimp only
   rw[e2,Option.bind_some]
   dsimp only
   rw[e3,Option.bind_some]
   dsimp only
   rw[e4,Option.bind_some]
   dsimp only
   cases hl2:decide ((li.length:Int)>0)with
   |false=>exact⟨_,_,_,_,_,_,_,_,_,_,_,_,_,_,rfl,c4,by decide⟩
   |true =>
    rw[decide_eq_true_iff]at hl2
    rw[cond_true,e5,Option.bind_some]
    dsimp only
    cases v5 with
    |true=>exact⟨_,_,_,_,_,_,_,_,_,_,_,_,_,_,rfl,c5,by decide⟩
    |false =>
     obtain⟨i6,h6,p',q',f',r',s',t',y1,y2,y3,y4,y5,y6,y7,y8,y9,e6,c6⟩:=CM (li:=li) (p:=((p.toNat:Nat):Int)) (q:=(n:Int)) (f:=f) (r:=((r.toNat:Nat):Int)) (s:=((s.toNat:Nat):Int)) (t:=((t.toNat:Nat):Int)) (a1:=0) (a2:=0) (a3:=0) (a4:=0) (a5:=0) (a6:=⟨#[]⟩) (a7:=1) (a8:=IntKind.i64.wrap ((1:Int)+v1)) (a9:=v2) (a10:=v3) (a11:=v4) (a12:=⟨#[]⟩) h5 c5 (show 0<li.length by omega)
     rw[Bool.not_false,cond_true,e6]
     exact⟨_,_,_,_,_,_,_,_,_,_,_,_,_,_,rfl,c6,by decide⟩
  |false =>
   obtain⟨i2,h2,v2,e2,c2,b2⟩:=cr N0 h0 14 c0
   rw[cond_false,e2,Option.bind_some]
   dsimp only
   cases(v2==(0:Int))with
   |true =>
    obtain⟨i3,h3,v3,e3,c3,b3⟩:=cr N0 h2 3 c2
    rw[cond_true,e3]
    exact⟨_,_,_,_,_,_,_,_,_,_,_,_,_,_,rfl,c3,by decide⟩
   |false =>
    obtain⟨i3,h3,v3,e3,c3,b3⟩:=cr N0 h2 (li.length:Int) c2
    rw[cond_false]
    cases(v2==(1:Int))with
    |true =>
     rw[cond_true,e3]
     exact⟨_,_,_,_,_,_,_,_,_,_,_,_,_,_,rfl,c3,by decide⟩
    |false =>
     obtain⟨i4,h4,v4,e4,c4,b4⟩:=cr N0 h3 (if(n:Int)<5 then(n:Int)else 5) c3
     obtain⟨i5,h5,v5,e5,c5,b5⟩:=cr N0 h4 (n:Int) c4
     obtain⟨i6,h6,v6,e6,c6,b6⟩:=cr N0 h5 9 c5
     have hv4:0≤v4∧v4≤(n:Int)-1:=by
      rcases b4 with⟨q1,_⟩|⟨q1,q2⟩
      ·split at q1<;>omega
      ·split at q2<;>omega
     have hv5:0≤v5∧v5≤(n:Int)-1:=by
      rcases b5 with⟨q1,_⟩|⟨q1,q2⟩<;>omega
     obtain⟨ra,na,sa⟩:=FC (x:=(n:Int)-1-v4) (by omega) (by omega)
     obtain⟨rb,nb,sb⟩:=FC (x:=v5) (by omega) (by omega)
     rw[cond_false,e3,Option.bind_some]
     dsimp only
     rw[Xx,Option.bind_some,e4,Option.bind_some]
     dsimp only
     rw[e5,Option.bind_some]
     dsimp only
     rw[e6,Option.bind_some]
     dsimp only
     rw[ar (show -9223372036854775808≤(n:Int)-1 by omega) (by omega),ar (show -9223372036854775808≤(n:Int)-1-v4 by omega) (by omega),na,nb]
     cases(v6==(0:Int))with
     |true =>
      simp(disch:=(simp only[gD,zo,List.length_cons,List.length_nil];omega)) only[Option.bind_some,la,cond_true,cond_false]
      exact⟨_,_,_,_,_,_,_,_,_,_,_,_,_,_,rfl,c6,by simp only[gD,zo,List.length_cons,List.length_nil];omega⟩
     |false =>
     cases(v6==(1:Int))with
     |true =>
      simp(disch:=(simp only[gD,zo,List.length_cons,List.length_nil];omega)) only[Option.bind_some,la,cond_true,cond_false]
      exact⟨_,_,_,_,_,_,_,_,_,_,_,_,_,_,rfl,c6,by simp only[gD,zo,List.length_cons,List.length_nil];omega⟩
     |false =>
     cases(v6==(2:Int))with
     |true =>
      simp(disch:=(simp only[gD,zo,List.length_cons,List.length_nil];omega)) only[Option.bind_some,la,cond_true,cond_false]
      generalize hL:([_,_,_,_,_,_,_,_,_]:List ByteArray)=L
      have hL1:L≠[]:=by rw[←hL];simp
      have hL2:∀s∈L,s.size≤100:=by
       rw[←hL]
       simp only[List.forall_mem_cons,gD,zo,List.length_cons,List.length_nil]
       refine⟨by omega,by omega,by omega,by omega,by omega,by omega,by omega,by omega,by omega,fun s hs=>by cases hs⟩
      obtain⟨i7,h7,v7,e7,c7,s7⟩:=JP N0 h6 L 100 hL1 hL2 c6
      rw[e7]
      exact⟨_,_,_,_,_,_,_,_,_,_,_,_,_,_,rfl,c7,s7⟩
     |false =>
     cases(v6==(3:Int))with
     |true =>
      simp(disch:=(simp only[gD,zo,List.length_cons,List.length_nil];omega)) only[Option.bind_some,la,cond_true,cond_false]
      exact⟨_,_,_,_,_,_,_,_,_,_,_,_,_,_,rfl,c6,by simp only[gD,zo,List.length_cons,List.length_nil];omega⟩
     |false =>
      simp(disch:=(simp only[gD,zo,List.length_cons,List.length_nil];omega)) only[Option.bind_some,la,cond_true,cond_false]
      exact⟨_,_,_,_,_,_,_,_,_,_,_,_,_,_,rfl,c6,by simp only[gD,zo,List.length_cons,List.length_nil];omega⟩
theorem ZC (h:FW k xs kn li gv sh lg) (hk9:k≤800) (kd A B C D:Int) (T:ByteArray):∃xs' kn' li' fr' gv' sh' lg' c,eg N0 (xs,kn,li,fr,gv,sh,lg,kd,A,B,C,D,T)=some (xs',kn',li',fr',gv',sh',lg',c)∧FW (k+1) xs' kn' li' gv' sh' lg'∧(c=0→kn.length≤kn'.length) ∧
  ∃z1 z2 z3 z4 z5 z6 z7,jv N0 (xs,kn,li,fr,gv,sh,lg,kd,A,B,C,D,T)=cond (c==(0:Int)) none (some (z1,z2,z3,z4,z5,z6,z7,c)):=by
 suffices H:∃xs' kn' li' fr' gv' sh' lg' c,eg N0 (xs,kn,li,fr,gv,sh,lg,kd,A,B,C,D,T)=some (xs',kn',li',fr',gv',sh',lg',c)∧FW (k+1) xs' kn' li' gv' sh' lg'∧(c=0→kn.length≤kn'.length) ∧
   ∃z1 z2 z3 z4 z5 z6 z7,fO N0 (xs,kn,li,fr,gv,sh,lg,kd,A,B,C,D,T)=some (z1,z2,z3,z4,z5,z6,z7,c)by
  obtain⟨xs',kn',li',fr',gv',sh',lg',c,e1,e2,e3,z1,z2,z3,z4,z5,z6,z7,e4⟩:=H
  refine⟨xs',kn',li',fr',gv',sh',lg',c,e1,e2,e3,z1,z2,z3,z4,z5,z6,z7,?_⟩
  show((fO N0 (xs,kn,li,fr,gv,sh,lg,kd,A,B,C,D,T)).bind fun r=>cond (r.2.2.2.2.2.2.2==(0:Int)) none (some r))=_
  rw[e4];rfl
 unfold eg fO
 dsimp only
 rw[xH (h.small (by omega)),Option.bind_some,Option.bind_some]
 cases hw:bJ xs kn li fr gv sh lg with
 |false=>exact⟨_,_,_,_,_,_,_,_,rfl,FW.nil,(fun q=>by cases q),_,_,_,_,_,_,_,rfl⟩
 |true =>
  obtain⟨v,hv⟩:=ER kd A B C D T
  rw[Bool.not_true,cond_false,cond_false,hv,Option.bind_some,Option.bind_some]
  cases v with
  |false=>exact⟨_,_,_,_,_,_,_,_,rfl,FW.nil,(fun q=>by cases q),_,_,_,_,_,_,_,rfl⟩
  |true =>
   obtain⟨xs',kn',li',fr',gv',sh',lg',c,e,h1,h2⟩:=Kv h hk9 hw kd A B C D T
   rw[Bool.not_true,cond_false,cond_false,jw,gW]
   dsimp only
   simp only[Ny h (show k≤900 by omega),e,Option.bind_some,Ny h1 (show k+1≤900 by omega)]
   cases(c != 0)with
   |true=>exact⟨_,_,_,_,_,_,_,_,rfl,h.more (Nat.le_succ k),(fun _=>Nat.le_refl _),_,_,_,_,_,_,_,rfl⟩
   |false=>exact⟨_,_,_,_,_,_,_,_,rfl,h1,(fun _=>h2),_,_,_,_,_,_,_,rfl⟩
end
section
variable{b:List Int}
abbrev YD:=List Int×Int×Int×List ab×List Int×List bp×Int×List Int×List Int×List aJ×List ab×List Int×List bp×Int×List Int×List Int×List aJ×List sP×Int×Int×Int×Int×Int×Int×Int×ByteArray×List ab×List Int×List bp×Int×List Int×List Int×List aJ×Int
abbrev YF:=List Int×Int×Int×List ab×List Int×List bp×Int×List Int×List Int×List aJ×List ab×List Int×List bp×Int×List Int×List Int×List aJ×List sP×Int×Int×Int×Int×Int×Int×Int×ByteArray×Int×Int×Int×Int×Int×Int×Int×Int
def YE (b:List Int) (k:Nat) (xs:List ab) (kn:List Int) (li:List bp) (fr:Int) (gv sh:List Int) (lg:List aJ) (ls:List sP) (nn io:Int) (s:Option (YD⊕YF)):Prop :=
 (∃i h kd A B C D T xs2 kn2 li2 fr2 gv2 sh2 lg2,s=some (Sum.inl (b,i,h,[],[],[],(0:Int),[],[],[],xs,kn,li,fr,gv,sh,lg,ls,nn,io,kd,A,B,C,D,T,xs2,kn2,li2,fr2,gv2,sh2,lg2,(0:Int)))∧Cu b i∧T.size≤100∧FW (k+1) xs2 kn2 li2 gv2 sh2 lg2∧kn.length≤kn2.length) ∨
 (∃i h kd A B C D T n1 n2 n3 n4 n5 n6 n7 c,s=some (Sum.inr (b,i,h,[],[],[],(0:Int),[],[],[],xs,kn,li,fr,gv,sh,lg,ls,nn,io,kd,A,B,C,D,T,n1,n2,n3,n4,n5,n6,n7,c))∧Cu b i∧T.size≤100∧(c==(0:Int))=false)
theorem zH{k:Nat}{xs:List ab}{kn:List Int}{li:List bp}{fr:Int}{gv sh:List Int}{lg:List aJ}(hw:FW k xs kn li gv sh lg) (hk1:1≤kn.length) (hk8:k≤800) (ls:List sP) (nn io:Int):∀(m j:Nat) (i h kd A B C D:Int) (T:ByteArray) (n1 n2 n3 n4 n5 n6 n7 c:Int),j≤6→6-j<m→Cu b i→T.size≤100→(c==(0:Int))=false →
  YE b k xs kn li fr gv sh lg ls nn io (bb N0 m (b,i,h,[],[],[],(0:Int),[],[],[],xs,kn,li,fr,gv,sh,lg,ls,nn,io,kd,A,B,C,D,T,n1,n2,n3,n4,n5,n6,n7,c,(j:Int)))
 |0,j,i,h,kd,A,B,C,D,T,n1,n2,n3,n4,n5,n6,n7,c,hj,hm,_,_,_=>absurd hm (by omega)
 |m+1,j,i,h,kd,A,B,C,D,T,n1,n2,n3,n4,n5,n6,n7,c,hj,hm,hc,hT,hz=>by
  rw[bb]
  dsimp only
  by_cases h6:j<6
  ·rw[show decide ((j:Int)<6)=true from decide_eq_true (by omega),cond_true]
   cases(c==(4:Int))with
   |false=>exact .inr ⟨_,_,_,_,_,_,_,_,_,_,_,_,_,_,_,_,rfl,hc,hT,hz⟩
   |true =>
    have w:IntKind.i64.wrap ((j:Int)+1)=((j+1:Nat):Int):=by rw[ar (by omega) (by omega)];omega
    obtain⟨i1,h1,p1,q1,f1,r1,s1,t1,kd1,A1,B1,C1,D1,T1,e1,c1,z1⟩:=u7 (li:=li) (p:=(xs.length:Int)) (f:=fr) (r:=(gv.length:Int)) (s:=(sh.length:Int)) (t:=(lg.length:Int)) (n:=kn.length) h hc hw.fl hk1 hw.fk
    obtain⟨xs3,kn3,li3,fr3,gv3,sh3,lg3,cc,e2,f2,z2,y1,y2,y3,y4,y5,y6,y7,e3⟩:=ZC (fr:=fr) hw hk8 kd1 A1 B1 C1 D1 T1
    rw[cond_true,e1,Option.bind_some]
    dsimp only
    rw[e3]
    cases hcc:(cc==(0:Int))with
    |true =>
     obtain rfl:cc=0:=by simpa using hcc
     rw[cond_true,Option.bind_none,e2,Option.bind_some]
     dsimp only
     refine .inl ⟨i1,h1,kd1,A1,B1,C1,D1,T1,xs3,kn3,li3,fr3,gv3,sh3,lg3,?_,c1,z1,f2,z2 rfl⟩
     unfold LP
     dsimp only
     cases decide (IntKind.i64.wrap ((j:Int)+1)<6)<;>rfl
    |false =>
     rw[cond_false,Option.bind_some,w]
     dsimp only
     have ih:=zH (fr:=fr) hw hk1 hk8 ls nn io m (j+1) i1 h1 kd1 A1 B1 C1 D1 T1 ((y1.toNat:Nat):Int) ((y2.toNat:Nat):Int) ((y3.toNat:Nat):Int) y4 ((y5.toNat:Nat):Int) ((y6.toNat:Nat):Int) ((y7.toNat:Nat):Int) cc (by omega) (by omega) c1 z1 hcc
     rcases ih with⟨i,h,kd,A,B,C,D,T,xs2,kn2,li2,fr2,gv2,sh2,lg2,e,q⟩|⟨i,h,kd,A,B,C,D,T,n1,n2,n3,n4,n5,n6,n7,c,e,q⟩
     ·rw[e]
      exact .inl ⟨i,h,kd,A,B,C,D,T,xs2,kn2,li2,fr2,gv2,sh2,lg2,rfl,q⟩
     ·rw[e]
      exact .inr ⟨i,h,kd,A,B,C,D,T,n1,n2,n3,n4,n5,n6,n7,c,rfl,q⟩
  ·rw[show decide ((j:Int)<6)=false from decide_eq_false (by omega),cond_false]
   exact .inr ⟨_,_,_,_,_,_,_,_,_,_,_,_,_,_,_,_,rfl,hc,hT,hz⟩
theorem JU {α:Type}{x:Option α}:LP none x=x:=rfl
theorem JH{q:Nat}{s x:Option (List Int×Int×Int×List ab×List Int×List bp×Int×List Int×List Int×List aJ×List ab×List Int×List bp×Int×List Int×List Int×List aJ×List sP)}(h:PW b q s):PW b q (LP s x):=by
 obtain⟨i,h,xs,kn,li,fr,gv,sh,lg,ls,rfl,z⟩:=h
 exact⟨i,h,xs,kn,li,fr,gv,sh,lg,ls,rfl,z⟩
theorem ph (q:Nat) (hq:q≤700):∀(m j:Nat) (i h:Int) (xs:List ab) (kn:List Int) (li:List bp) (fr:Int) (gv sh:List Int) (lg:List aJ) (ls:List sP),j≤q→q-j<m→Cu b i→FW j xs kn li gv sh lg→1≤kn.length→ls.length=j→(∀d∈ls,d.2.2.2.2.2.size≤100) →
  PW b q (aG N0 m (b,i,h,[],[],[],(0:Int),[],[],[],xs,kn,li,fr,gv,sh,lg,ls,(q:Int),(j:Int)))
 |0,j,i,h,xs,kn,li,fr,gv,sh,lg,ls,hj,hm,_,_,_,_,_=>absurd hm (by omega)
 |m+1,j,i,h,xs,kn,li,fr,gv,sh,lg,ls,hj,hm,hc,hw,hk1,hl,hs=>by
  rw[aG]
  dsimp only
  by_cases hjq:j<q
  ·obtain⟨i1,h1,p1,q1,f1,r1,s1,t1,kd1,A1,B1,C1,D1,T1,e1,c1,z1⟩:=u7 (li:=li) (p:=(xs.length:Int)) (f:=fr) (r:=(gv.length:Int)) (s:=(sh.length:Int)) (t:=(lg.length:Int)) (n:=kn.length) h hc hw.fl hk1 hw.fk
   obtain⟨xs3,kn3,li3,fr3,gv3,sh3,lg3,cc,e2,f2,z2,y1,y2,y3,y4,y5,y6,y7,e3⟩:=ZC (fr:=fr) hw (by omega) kd1 A1 B1 C1 D1 T1
   have more:∀d:sP,d.2.2.2.2.2.size≤100→∀x∈ls++[d],x.2.2.2.2.2.size≤100:=fun d hd x hx=>by
    rcases List.mem_append.1 hx with hx|hx
    ·exact hs x hx
    ·rw[List.mem_singleton.1 hx];exact hd
   have len1:∀d:sP,(ls++[d]).length=j+1:=fun d=>by rw[List.length_append,List.length_singleton,hl]
   have rm:∀d:sP,aR (ls.length+[d].length)=true:=fun d=>by
    unfold aR
    exact decide_eq_true (by rw[List.length_singleton];omega)
   rw[m7 hjq,cond_true,e1,Option.bind_some]
   dsimp only
   rw[e3]
   cases hcc:(cc==(0:Int))with
   |true =>
    obtain rfl:cc=0:=by simpa using hcc
    rw[cond_true,Option.bind_none,JU,e2,Option.bind_some]
    dsimp only
    rw[show decide ((0:Int)<6)=true from rfl,cond_true,show((0:Int)==4)=false from rfl,cond_false,rm,cond_true,beq_self_eq_true,cond_true,aQ hjq (by omega)]
    exact ph q hq m (j+1) i1 h1 xs3 kn3 li3 fr3 gv3 sh3 lg3 _ hjq (by omega) c1 f2 (by have:=z2 rfl;omega) (len1 _) (more _ z1)
   |false =>
    rw[cond_false,Option.bind_some]
    dsimp only
    refine JH ?_
    have t:=zH (b:=b) (fr:=fr) hw hk1 (by omega) ls (q:Int) (j:Int) N0 0 i1 h1 kd1 A1 B1 C1 D1 T1 ((y1.toNat:Nat):Int) ((y2.toNat:Nat):Int) ((y3.toNat:Nat):Int) y4 ((y5.toNat:Nat):Int) ((y6.toNat:Nat):Int) ((y7.toNat:Nat):Int) cc (by omega) (by have:=n0;omega) c1 z1 hcc
    rw[show((0:Nat):Int)=0 from rfl]at t
    rcases t with⟨i4,h4,kd4,A4,B4,C4,D4,T4,xs4,kn4,li4,fr4,gv4,sh4,lg4,e4,cu4,s4,f4,l4⟩|⟨i4,h4,kd4,A4,B4,C4,D4,T4,n1,n2,n3,n4,n5,n6,n7,c4,e4,cu4,s4,z4⟩
    ·rw[e4,Option.bind_some]
     dsimp only
     rw[rm,cond_true,beq_self_eq_true,cond_true,aQ hjq (by omega)]
     exact ph q hq m (j+1) i4 h4 xs4 kn4 li4 fr4 gv4 sh4 lg4 _ hjq (by omega) cu4 f4 (by omega) (len1 _) (more _ s4)
    ·rw[e4,Option.bind_some]
     dsimp only
     rw[rm,cond_true,z4,cond_false,aQ hjq (by omega)]
     exact ph q hq m (j+1) i4 h4 xs kn li fr gv sh lg _ hjq (by omega) cu4 (hw.more (Nat.le_succ j)) hk1 (len1 _) (more _ s4)
  ·rw[FN hjq,cond_false]
   exact⟨_,_,_,_,_,_,_,_,_,_,rfl,hc,hw.more (by omega),hk1,by omega,hs⟩
theorem DC{i:Int}(h most:Int) (hc:Cu b i) (h0:0≤most) (h1:most≤600):∃i' h' xs kn li fr gv sh lg,fj N0 (b,i,h,most)=some (b,i',h',xs,kn,li,fr,gv,sh,lg)∧Cu b i'∧FW 601 xs kn li gv sh lg∧1≤kn.length:=by
 obtain⟨xs,kn,e1,f1,k1⟩:=Cg
 obtain⟨i2,h2,v2,e2,c2,b2⟩:=cr N0 h (most+1) hc
 have hv:0≤v2∧v2≤most:=by
  rcases b2 with⟨q,_⟩|⟨q1,q2⟩<;>omega
 obtain⟨i3,h3,xs3,kn3,li3,fr3,gv3,sh3,lg3,ls3,e3,c3,f3,k3,_⟩:=ph (b:=b) v2.toNat (by omega) N0 0 i2 h2 xs kn [] 0 [] [] [] [] (Nat.zero_le _) (by have:=n0;omega) c2 f1 k1 rfl (fun d hd=>by cases hd)
 rw[show((0:Nat):Int)=0 from rfl,show((v2.toNat:Nat):Int)=v2 from by omega]at e3
 unfold fj
 dsimp only
 rw[LY,e1,Option.bind_some,ar (by omega) (by omega),e2,Option.bind_some]
 dsimp only
 rw[e3]
 exact⟨_,_,_,_,_,_,_,_,_,rfl,c3,f3.more (by omega),k3⟩
def GW (xs:List ab) (kn:List Int) (li:List bp) (gv sh:List Int) (lg:List aJ):Prop :=
 Small xs kn li gv sh lg∧li.length≤9∧lg.length≤4294967296∧(1≤kn.length∧kn.length≤301)∧xs.length≤601∧(xs.length≤500→kn.length≤200→FW 602 xs kn li gv sh lg)
theorem FY{xs:List ab}{kn:List Int}{li:List bp}{gv sh:List Int}{lg:List aJ}(h:FW 602 xs kn li gv sh lg) (hk:1≤kn.length):GW xs kn li gv sh lg :=
 ⟨h.small (by omega),h.fl,by have:=h.fo;omega,⟨hk,by have:=h.fk;omega⟩,by have:=h.fx;omega,fun _ _=>h⟩
def Qg (b:List Int) (s:Option (List Int×Int×Int×List ab×List Int×List bp×Int×List Int×List Int×List aJ)):Prop :=
 ∃i h xs kn li fr gv sh lg,s=some (b,i,h,xs,kn,li,fr,gv,sh,lg)∧Cu b i∧GW xs kn li gv sh lg
theorem L9{a m:Int}(hb:b.length≤4294967296) (h0:0≤a) (h1:0≤m) (h2:a≤1000) (h3:m≤600):∃v,lN N0 (b,a,m)=some v∧0≤v∧v≤600:=by
 unfold lN
 dsimp only
 rw[show((4:Int) != 0)=true from rfl,cond_true,show((b.length:Int)).tdiv 4=(b.length:Int) / 4 from Int.tdiv_eq_ediv_of_nonneg (by omega),ar (n:=(b.length:Int) / 4) (by omega) (by omega),ar (n:=a+(b.length:Int) / 4) (by omega) (by omega)]
 cases hq:decide (a+(b.length:Int) / 4>m)with
 |true=>exact⟨m,rfl,h1,h3⟩
 |false =>
  rw[decide_eq_false_iff_not]at hq
  exact⟨_,rfl,by omega,by omega⟩
theorem Bk {α:Type}{l:List α}{v:α}(h:l.length≤4294967000):aR (l.length+[v].length)=true:=by
 unfold aR
 exact decide_eq_true (by rw[List.length_singleton];omega)
theorem OR{k:Nat}{xs:List ab}{kn:List Int}{li:List bp}{gv sh:List Int}{lg:List aJ}(h:FW k xs kn li gv sh lg) (j:Nat){y:bp}(hy:tO y=tO (li.getD j zI)) (hj:j<li.length):FW k xs kn (li.set j y) gv sh lg where
 fx:=h.fx
 fk:=h.fk
 fl:=by rw[List.length_set];exact h.fl
 fg:=h.fg
 fs:=h.fs
 fo:=h.fo
 fe:=fun i hi=>by
  rw[List.length_set]at hi
  rw[List.getD_eq_getElem?_getD,List.getElem?_set]
  by_cases q:j=i
  ·subst q
   rw[if_pos rfl,if_pos hi,Option.getD_some,hy]
   exact h.fe j hi
  ·rw[if_neg q, ←List.getD_eq_getElem?_getD]
   exact h.fe i hi
theorem GN{xs:List ab}{kn:List Int}{li:List bp}{gv sh:List Int}{lg:List aJ}(h:Small xs kn li gv sh lg) (j:Nat){y:bp}(hy:tO y=tO (li.getD j zI)) (hj:j<li.length):Small xs kn (li.set j y) gv sh lg where
 fx:=h.fx
 fk:=h.fk
 fl:=by rw[List.length_set];exact h.fl
 fg:=h.fg
 fs:=h.fs
 fo:=h.fo
 fe:=fun i hi=>by
  rw[List.length_set]at hi
  rw[List.getD_eq_getElem?_getD,List.getElem?_set]
  by_cases q:j=i
  ·subst q
   rw[if_pos rfl,if_pos hi,Option.getD_some,hy]
   exact h.fe j hi
  ·rw[if_neg q, ←List.getD_eq_getElem?_getD]
   exact h.fe i hi
theorem OP{xs:List ab}{kn:List Int}{li:List bp}{gv sh:List Int}{lg:List aJ}(h:GW xs kn li gv sh lg) (j:Nat){y:bp}(hy:tO y=tO (li.getD j zI)) (hj:j<li.length):GW xs kn (li.set j y) gv sh lg :=
 ⟨GN h.1 j hy hj,by rw[List.length_set];exact h.2.1,h.2.2.1,h.2.2.2.1,h.2.2.2.2.1,fun a c=>OR (h.2.2.2.2.2 a c) j hy hj⟩
theorem BR{i:Int}(h:Int) (hc:Cu b i) (hb:b.length≤4294967296):Qg b (fi N0 (b,i,h,b)):=by
 obtain⟨v0,e0,v1,v2⟩:=L9 (b:=b) (a:=14) (m:=30) hb (by omega) (by omega) (by omega) (by omega)
 obtain⟨i1,h1,xs,kn,li,fr,gv,sh,lg,e1,c1,w1,k1⟩:=DC h v0 hc v1 v2
 obtain⟨i2,h2,v,e2,c2,b2⟩:=cr N0 h1 30 c1
 have f1:=w1.fx
 have f2:=w1.fk
 have f3:=w1.fl
 have f4:=w1.fg
 have f5:=w1.fs
 have f6:=w1.fo
 have w2:=w1.more (Nat.le_succ 601)
 have g2:=FY w2 k1
 have s2:=w2.small (by omega)
 unfold fi
 dsimp only
 rw[e0,Option.bind_some,e1,Option.bind_some]
 dsimp only
 rw[e2,Option.bind_some]
 dsimp only
 cases(v==(0:Int))with
 |true =>
  obtain⟨i3,h3,v3,e3,c3,_⟩:=Ep N0 h2 [(-1:Int),(9:Int),(8:Int)] (by simp) c2
  rw[cond_true,e3]
  exact⟨_,_,_,_,_,_,_,_,_,rfl,c3,g2⟩
 |false =>
 rw[cond_false]
 cases(v==(1:Int))with
 |true =>
  rw[cond_true,Bk (by omega),cond_true]
  exact⟨_,_,_,_,_,_,_,_,_,rfl,c2,FY (gv:=gv++[1]) ⟨w2.fx,w2.fk,w2.fl,w2.fe,by rw[List.length_append,List.length_singleton];omega,w2.fs,w2.fo⟩ k1⟩
 |false =>
 rw[cond_false]
 cases(v==(2:Int))with
 |true =>
  obtain⟨i3,h3,v3,e3,c3,_⟩:=cr N0 h2 4 c2
  rw[cond_true]
  unfold fh
  dsimp only
  rw[e3,Option.bind_some]
  dsimp only
  rw[Bk (by omega),cond_true]
  exact⟨_,_,_,_,_,_,_,_,_,rfl,c3,FY (sh:=sh++[v3]) ⟨w2.fx,w2.fk,w2.fl,w2.fe,w2.fg,by rw[List.length_append,List.length_singleton];omega,w2.fo⟩ k1⟩
 |false =>
 rw[cond_false]
 cases(v==(3:Int))with
 |true =>
  rw[cond_true]
  cases hl:decide ((lg.length:Int)>0)with
  |false=>exact⟨_,_,_,_,_,_,_,_,_,rfl,c2,g2⟩
  |true =>
   rw[decide_eq_true_iff]at hl
   rw[cond_true,show Bm 1 (lg.length:Int) lg.length=true from decide_eq_true ⟨by omega,by omega,by omega⟩,cond_true]
   have hsl:(sl lg 1 (lg.length:Int)).length≤lg.length:=by
    unfold sl
    simp
   exact⟨_,_,_,_,_,_,_,_,_,rfl,c2,FY (lg:=sl lg 1 (lg.length:Int)) ⟨w2.fx,w2.fk,w2.fl,w2.fe,w2.fg,w2.fs,by omega⟩ k1⟩
 |false =>
 rw[cond_false]
 cases(v==(4:Int))with
 |true =>
  rw[cond_true,Bk (by omega),cond_true]
  generalize IntKind.i64.wrap ((xs.length:Int)-1)=z
  have hz:(kn++[z]).length=kn.length+1:=by rw[List.length_append,List.length_singleton]
  exact⟨_,_,_,_,_,_,_,_,_,rfl,c2,⟨s2.fx,by omega,s2.fl,s2.fg,s2.fs,s2.fo,s2.fe⟩,f3,by omega,⟨by omega,by omega⟩,by omega,fun _ q=>⟨w2.fx,by omega,w2.fl,w2.fe,w2.fg,w2.fs,w2.fo⟩⟩
 |false =>
 rw[cond_false]
 cases(v==(5:Int))with
 |true =>
  rw[cond_true]
  cases hl:decide ((li.length:Int)>0)with
  |false=>exact⟨_,_,_,_,_,_,_,_,_,rfl,c2,g2⟩
  |true =>
   rw[decide_eq_true_iff]at hl
   rw[cond_true,show aY 0 li.length=true from decide_eq_true ⟨by omega,by omega⟩,cond_true,cond_true]
   exact⟨_,_,_,_,_,_,_,_,_,rfl,c2,OP g2 (Int.toNat 0) rfl (by show 0<_;omega)⟩
 |false =>
 rw[cond_false]
 cases(v==(6:Int))with
 |true =>
  rw[cond_true,Bk (by omega),cond_true]
  generalize ((0:Int),((0:Int),(0:Int)))=z
  have hz:(xs++[z]).length=xs.length+1:=by rw[List.length_append,List.length_singleton]
  exact⟨_,_,_,_,_,_,_,_,_,rfl,c2,⟨by omega,s2.fk,s2.fl,s2.fg,s2.fs,s2.fo,s2.fe⟩,f3,by omega,⟨k1,by omega⟩,by omega,fun q _=>⟨by omega,w2.fk,w2.fl,w2.fe,w2.fg,w2.fs,w2.fo⟩⟩
 |false=>exact⟨_,_,_,_,_,_,_,_,_,rfl,c2,g2⟩
theorem IQ (hb:b.length≤4294967296):∃xs kn li fr gv sh lg k,kf N0 b=some (xs,kn,li,fr,gv,sh,lg,k)∧GW xs kn li gv sh lg:=by
 obtain⟨h0,e0,c0⟩:=OD hb
 obtain⟨i1,h1,xs,kn,li,fr,gv,sh,lg,e1,c1,g1⟩:=BR h0 c0 hb
 have f3:=g1.2.1
 have f6:=g1.2.2.1
 obtain⟨i2,h2,v2,e2,c2,b2⟩:=cr N0 h1 (IntKind.i64.wrap ((li.length:Int)+1)) c1
 obtain⟨i3,h3,v3,e3,c3,b3⟩:=cr N0 h2 20 c2
 obtain⟨i4,h4,v4,e4,c4⟩:=xz N0 h3 2 c3
 obtain⟨i5,h5,v5,e5,c5,b5⟩:=cr N0 h4 (lg.length:Int) c4
 unfold kf
 rw[e0,Option.bind_some]
 dsimp only
 rw[e1,Option.bind_some]
 dsimp only
 rw[e2,Option.bind_some]
 dsimp only
 rw[e3,Option.bind_some]
 dsimp only
 rw[show((19:Int) != 0)=true from rfl,cond_true]
 cases hl:decide ((lg.length:Int)>0)with
 |false=>exact⟨_,_,_,_,_,_,_,_,rfl,g1⟩
 |true =>
  rw[decide_eq_true_iff]at hl
  rw[cond_true,e4,Option.bind_some]
  dsimp only
  cases v4 with
  |false=>exact⟨_,_,_,_,_,_,_,_,rfl,g1⟩
  |true =>
   rw[cond_true]
   unfold jn
   dsimp only
   have hv:aY v5 lg.length=true:=by
    rcases b5 with⟨q,_⟩|⟨q1,q2⟩
    ·omega
    ·exact decide_eq_true ⟨q1,by omega⟩
   rw[e5,Option.bind_some]
   dsimp only
   rw[hv,cond_true]
   exact⟨_,_,_,_,_,_,_,_,rfl,g1⟩
end
section
variable{xs:List ab}{kn:List Int}{li:List bp}{fr:Int}{gv sh:List Int}{lg:List aJ}{k:Int}
theorem A6 (hw:bJ xs kn li fr gv sh lg=true){c:aJ}(hc:eQ lg k=some c):eS li k=true:=by
 obtain⟨j,_,h2,h3⟩:=pT lg k _ 0 hc
 unfold bJ at hw
 simp only[Bool.and_eq_true]at hw
 have hl:=hw.2.2.2.2.2.2.2.2.1
 rw[cP]at hl
 have:=hl j (Nat.zero_le _) h2
 unfold sr at this
 rw[Bool.and_eq_true,h3]at this
 exact this.1
def ze (li:List bp) (gv sh:List Int) (lg:List aJ) (k:Int):Bool:=iW li lg k&&(!fT li sh k&&((li.getD k.toNat zI).1==1 || (!j6 gv (li.getD k.toNat zI).2.2.1 && !j6 gv (li.getD k.toNat zI).2.2.2.1)))
theorem JC (hs:Small xs kn li gv sh lg) (hw:bJ xs kn li fr gv sh lg=true):fv N0 (xs,kn,li,fr,gv,sh,lg,k)=some (xs,kn,li,fr,gv,sh,lg,ze li gv sh lg k)∧ii N0 (xs,kn,li,fr,gv,sh,lg,k)=some (ze li gv sh lg k):=by
 rw[fv,ii];dsimp only
 rw[rf hs hw,qC hs hw]
 simp only[Option.bind_some]
 unfold ze
 cases ht:iW li lg k with
 |false=>exact⟨rfl,rfl⟩
 |true =>
  have hk:iU (li.length:Int) k=true:=by
   unfold iW at ht
   cases hc:eQ lg k with
   |none=>rw[hc]at ht;cases ht
   |some c=>exact nK hw hc
  simp only[Bool.not_true,cond_false,uB hs hw,t3 hs hw,Option.bind_some,cond_true]
  cases fT li sh k with
  |true=>exact⟨rfl,rfl⟩
  |false =>
   simp only[cond_false,fU hk,cond_true,KC hs.fg,jH hs.fg,Option.bind_some]
   cases((li.getD k.toNat zI).1==(1:Int))with
   |true=>exact⟨rfl,rfl⟩
   |false =>
    cases j6 gv (li.getD k.toNat zI).2.2.1 with
    |true=>exact⟨rfl,rfl⟩
    |false=>exact⟨rfl,rfl⟩
end
theorem rB (lg:List aJ) (k:Int):∀(m i:Nat),fc lg k i m=none→∀j,i≤j→j<i+m→lk lg j≠k
 |0,i,h,j,h1,h2=>by omega
 |m+1,i,h,j,h1,h2=>by
  unfold fc at h
  cases hk:(lk lg i==k)with
  |true=>rw[hk]at h;cases h
  |false =>
   rw[hk,cond_false]at h
   rcases Nat.eq_or_lt_of_le h1 with rfl|q
   ·intro e
    rw[e,beq_self_eq_true]at hk
    cases hk
   ·exact rB lg k m (i+1) h j q (by omega)
section
variable{xs:List ab}{kn:List Int}{li:List bp}{fr:Int}{gv sh:List Int}{lg:List aJ}{k:Int}
theorem EQ (hw:bJ xs kn li fr gv sh lg=true) (hd:eS li k=true):∃c,eQ lg k=some c:=by
 cases hc:eQ lg k with
 |some c=>exact⟨c,rfl⟩
 |none =>
  exfalso
  unfold eS at hd
  rw[Bool.and_eq_true]at hd
  obtain⟨i0,i1⟩:=Ax hd.1
  unfold bJ at hw
  simp only[Bool.and_eq_true]at hw
  have hl:=hw.2.2.2.2.2.2.2.2.2
  rw[cP]at hl
  have:=hl k.toNat (Nat.zero_le _) (by omega)
  have hz:=(sj lg k lg.length).2 (fun j hj=>rB lg k lg.length 0 hc j (Nat.zero_le _) (by omega))
  unfold oo at this
  rw[show((k.toNat:Nat):Int)=k by omega,hz,hd.2]at this
  cases this
def pR (lg:List aJ) (k:Int):Int×(Bool×(Bool×Bool)):=match eQ lg k with|some c=>(c.1,c.2.1,c.2.2,true)|none=>((0:Int),false,false,false)
theorem IT (hs:Small xs kn li gv sh lg) (hw:bJ xs kn li fr gv sh lg=true):gq N0 (xs,kn,li,fr,gv,sh,lg,k)=some (pR lg k)∧gm N0 (xs,kn,li,fr,gv,sh,lg,k)=some (pR lg k):=by
 rw[gq,gm]
 dsimp only
 rw[(eI hs).1,(eI hs).2,pJ hs.fo,pg hs.fo,hw]
 unfold pR
 cases eQ lg k<;>exact⟨rfl,rfl⟩
theorem IU (hs:Small xs kn li gv sh lg) (hw:bJ xs kn li fr gv sh lg=false):gq N0 (xs,kn,li,fr,gv,sh,lg,k)=some ((0:Int),false,false,false)∧gm N0 (xs,kn,li,fr,gv,sh,lg,k)=some ((0:Int),false,false,false):=by
 rw[gq,gm]
 dsimp only
 rw[(eI hs).1,(eI hs).2,pJ hs.fo,pg hs.fo,hw]
 cases eQ lg k<;>exact⟨rfl,rfl⟩
theorem GE (hs:Small xs kn li gv sh lg):kA N0 (xs,kn,li,fr,gv,sh,lg,k)=some (bJ xs kn li fr gv sh lg&&iW li lg k)∧kr N0 (xs,kn,li,fr,gv,sh,lg,k)=some (bJ xs kn li fr gv sh lg&&iW li lg k):=by
 rw[kA,kr]
 dsimp only
 rw[(eI hs).1,(eI hs).2]
 simp only[Option.bind_some]
 cases hw:bJ xs kn li fr gv sh lg with
 |false=>exact⟨rfl,rfl⟩
 |true =>
  rw[rf hs hw,qC hs hw]
  exact⟨rfl,rfl⟩
theorem GO (hs:Small xs kn li gv sh lg):jj N0 (xs,kn,li,fr,gv,sh,lg,k)=some (bJ xs kn li fr gv sh lg&&fT li sh k)∧jg N0 (xs,kn,li,fr,gv,sh,lg,k)=some (bJ xs kn li fr gv sh lg&&fT li sh k):=by
 rw[jj,jg]
 dsimp only
 rw[(eI hs).1,(eI hs).2]
 simp only[Option.bind_some]
 cases hw:bJ xs kn li fr gv sh lg with
 |false=>exact⟨rfl,rfl⟩
 |true =>
  rw[uB hs hw,t3 hs hw]
  exact⟨rfl,rfl⟩
theorem D6 (hs:Small xs kn li gv sh lg):lV N0 (xs,kn,li,fr,gv,sh,lg,k)=some (bJ xs kn li fr gv sh lg&&ze li gv sh lg k)∧lP N0 (xs,kn,li,fr,gv,sh,lg,k)=some (bJ xs kn li fr gv sh lg&&ze li gv sh lg k):=by
 rw[lV,lP]
 dsimp only
 rw[(eI hs).1,(eI hs).2]
 simp only[Option.bind_some]
 cases hw:bJ xs kn li fr gv sh lg with
 |false=>exact⟨rfl,rfl⟩
 |true =>
  rw[(JC hs hw).1,(JC hs hw).2]
  exact⟨rfl,rfl⟩
theorem LU (hw:bJ xs kn li fr gv sh lg=true) (hk:iU (li.length:Int) k=false):eQ lg k=none∧fT li sh k=false:=by
 refine⟨?_,?_⟩
 ·cases hc:eQ lg k with
  |none=>rfl
  |some c=>rw[nK hw hc]at hk;cases hk
 ·unfold fT eS
  rw[hk,Bool.false_and,Bool.false_and]
end
end AM
end Go.Proofs.YtpgigedclifoeaaGreatDoor
namespace Go.Proofs.YtpgigedclifoeaaGreatDoor
namespace AM
open Go.ChangeShapes Go.WideShapes Go.ChangeAt Go.RowKit
set_option linter.unusedVariables false
theorem own:ownKnob Tryz.prog.godebug=none:=by kernel_rfl
theorem FR:laidOutB Tryz.prog=true:=by kernel_rfl
theorem JA:"*"++"errors.errorString"="*errors.errorString":=by decide
theorem Et (u:TypeId) (h:Tryz.prog.typeName? 3 u=some "*errors.errorString"):u=265 :=
 typeName_ptr_named (nm:="errors.errorString") (by rw[JA];kernel_rfl) (by kernel_rfl) (by decide) u (by rw[JA];exact h)
abbrev uy:List (String×DataW Unit):=Rows.fnClaimsRow.laid
theorem sent{W:World}{n:String}{text:List UInt8}{g:Nat}(h:laidMet Tryz.prog [(n, .iface "*errors.errorString" (.ptr (.agg [.lit (.string text)])))] W) (hg:Tryz.prog.globalNamed n=some g) (ht:(Tryz.prog.globals[g]?).map (·.type)=some 189) :
  ∃ev,W.cell? ⟨g,0,none⟩=some ev∧(ev = .nilIface∨∃te pe,ev = .iface te pe):=by
 obtain⟨a,s,hv,_⟩:=laid_sentinel h hg ht Tryz.underlying189 Et Tryz.underlying265 Tryz.underlying267 rfl rfl Tryz.underlying9 (by kernel_rfl) (by kernel_rfl)
 have:=World.var?_cell hg hv 0
 exact⟨_,this, .inr ⟨_,_,rfl⟩⟩
theorem facts{W:World}(h:laidMet Tryz.prog uy W) (hs:W.ShapedOpen Tryz.prog):ae W where
 mx:=Go.Proofs.cell_of_shapedOpen_int hs (g:=0) (t:=3) (zero:=#[.int .i64 0]) (by decide) (by kernel_rfl) rfl (by kernel_rfl) (by kernel_rfl) Tryz.underlying3
 tab:=Lib.tabIs_of_head (g:=3) (t:=269) (e:=219) (n:=20) (by kernel_rfl) (by kernel_rfl) (by kernel_rfl) (by kernel_rfl) (by kernel_rfl) (by kernel_rfl)
  (j0 h (.tail _ (.tail _ (.head _))))
 es:=sent (j0 h (.tail _ (.tail _ (.tail _ (.tail _ (.head _)))))) (by kernel_rfl) (by kernel_rfl)
 er:=sent (j0 h (.tail _ (.tail _ (.tail _ (.head _))))) (by kernel_rfl) (by kernel_rfl)
noncomputable def fS (os:Os):World :=
 let w0:=World.holding Tryz.prog os ⟨#[.cells #[.string ⟨#[118,97,108,117,101,32,111,117,116,32,111,102,32,114,97,110,103,101]⟩] 267, .cells #[.string ⟨#[105,110,118,97,108,105,100,32,115,121,110,116,97,120]⟩] 267], #[],[]⟩
 { w0 with heap:=((((w0.heap.modify 4 fun
   | .cells _ t frozen => .cells #[.int .u8 0, .int .u8 1, .int .u8 28, .int .u8 2, .int .u8 29, .int .u8 14, .int .u8 24, .int .u8 3, .int .u8 30, .int .u8 22, .int .u8 20, .int .u8 15, .int .u8 25, .int .u8 17, .int .u8 4, .int .u8 8, .int .u8 31, .int .u8 27, .int .u8 13, .int .u8 23, .int .u8 21, .int .u8 19, .int .u8 16, .int .u8 7, .int .u8 26, .int .u8 12, .int .u8 18, .int .u8 6, .int .u8 11, .int .u8 5, .int .u8 10, .int .u8 9] t frozen
   |o=>o).modify 5 fun
   | .cells _ t frozen => .cells #[.int .u8 0, .int .u8 1, .int .u8 56, .int .u8 2, .int .u8 57, .int .u8 49, .int .u8 28, .int .u8 3, .int .u8 61, .int .u8 58, .int .u8 42, .int .u8 50, .int .u8 38, .int .u8 29, .int .u8 17, .int .u8 4, .int .u8 62, .int .u8 47, .int .u8 59, .int .u8 36, .int .u8 45, .int .u8 43, .int .u8 51, .int .u8 22, .int .u8 53, .int .u8 39, .int .u8 33, .int .u8 30, .int .u8 24, .int .u8 18, .int .u8 12, .int .u8 5, .int .u8 63, .int .u8 55, .int .u8 48, .int .u8 27, .int .u8 60, .int .u8 41, .int .u8 37, .int .u8 16, .int .u8 46, .int .u8 35, .int .u8 44, .int .u8 21, .int .u8 52, .int .u8 32, .int .u8 23, .int .u8 11, .int .u8 54, .int .u8 26, .int .u8 40, .int .u8 15, .int .u8 34, .int .u8 20, .int .u8 31, .int .u8 10, .int .u8 25, .int .u8 14, .int .u8 19, .int .u8 9, .int .u8 13, .int .u8 8, .int .u8 7, .int .u8 6] t frozen
   |o=>o).modify 3 fun
   | .cells _ t frozen => .cells #[.int .u64 1, .int .u64 10, .int .u64 100, .int .u64 1000, .int .u64 10000, .int .u64 100000, .int .u64 1000000, .int .u64 10000000, .int .u64 100000000, .int .u64 1000000000, .int .u64 10000000000, .int .u64 100000000000, .int .u64 1000000000000, .int .u64 10000000000000, .int .u64 100000000000000, .int .u64 1000000000000000, .int .u64 10000000000000000, .int .u64 100000000000000000, .int .u64 1000000000000000000, .int .u64 10000000000000000000] t frozen
   |o=>o).modify 2 fun
   | .cells _ t frozen => .cells #[.iface 265 (.pointer (some ⟨11,0,none⟩))] t frozen
   |o=>o).modify 1 fun
   | .cells _ t frozen => .cells #[.iface 265 (.pointer (some ⟨12,0,none⟩))] t frozen
   |o=>o }
theorem ux (os:Os):(fS os).os=os:=rfl
end AM
end Go.Proofs.YtpgigedclifoeaaGreatDoor
namespace Go.Proofs.YtpgigedclifoeaaGreatDoor
namespace AM
open Go
set_option linter.unusedVariables false
set_option linter.unusedSimpArgs false
theorem EV (b:List Int):gN N0 b=some true:=by
 unfold gN uw
 rw[Option.bind_some]
 cases hb:decide ((b.length:Int)>1048576)with
 |true=>rfl
 |false =>
  rw[decide_eq_false_iff_not]at hb
  obtain⟨xs,kn,li,fr,gv,sh,lg,k,e1,g1⟩:=IQ (b:=b) (by omega)
  have hs:=g1.1
  have W:=eI (fr:=fr) hs
  unfold iL
  rw[cond_false,e1,Option.bind_some,Option.bind_some]
  dsimp only
  rw[W.1,W.2,Option.bind_some,Option.bind_some,bne_self_eq_false,cond_false]
  obtain⟨T1,T2⟩:=GE (k:=k) (fr:=fr) hs
  obtain⟨K1,K2⟩:=GO (k:=k) (fr:=fr) hs
  obtain⟨S1,S2⟩:=D6 (k:=k) (fr:=fr) hs
  rw[T1,T2,K1,K2,S1,S2]
  cases hw:bJ xs kn li fr gv sh lg with
  |false =>
   obtain⟨c1,c2⟩:=IU (k:=k) hs hw
   rw[c1,c2]
   rfl
  |true =>
   obtain⟨c1,c2⟩:=IT (k:=k) hs hw
   rw[c1,c2]
   simp only[Option.bind_some,bne_self_eq_false,cond_false,beq_self_eq_true,Bool.and_self,Bool.not_true,Bool.true_and]
   cases hk:iU (li.length:Int) k with
   |false =>
    obtain⟨n1,n2⟩:=LU hw hk
    have ht:iW li lg k=false:=by unfold iW;rw[n1]
    have hse:ze li gv sh lg k=false:=by unfold ze;rw[ht,Bool.false_and]
    have hc:pR lg k=((0:Int),false,false,false):=by unfold pR;rw[n1]
    rw[ht,hse,hc,n2]
    by_cases q:k<0
    ·rw[decide_eq_true q];rfl
    ·have q2:k≥(li.length:Int):=by
      unfold iU at hk
      rw[Bool.and_eq_false_iff,decide_eq_false_iff_not,decide_eq_false_iff_not]at hk
      omega
     rw[decide_eq_false q,decide_eq_true q2];rfl
   |true =>
    obtain⟨i0,i1⟩:=Ax hk
    have hd:eS li k=(li.getD k.toNat zI).2.2.2.2.2.2.1:=by unfold eS;rw[hk,Bool.true_and];rfl
    rw[decide_eq_false (by omega:¬k<0),decide_eq_false (by omega:¬k≥(li.length:Int)),fU hk,cond_false,cond_false,cond_true]
    have hdz:(li.getD k.toNat ((0:Int),((0:Int),((0:Int),((0:Int),((0:Int),(([]:List Int),(false,(false,(0:Int)))))))))).2.2.2.2.2.2.1=eS li k:=hd.symm
    rw[hdz]
    cases hc:eQ lg k with
    |none =>
     have hdn:eS li k=false:=by
      cases q:eS li k with
      |false=>rfl
      |true =>
       obtain⟨c,q2⟩:=EQ hw q
       rw[hc]at q2;cases q2
     have ht:iW li lg k=false:=by unfold iW;rw[hc]
     have hse:ze li gv sh lg k=false:=by unfold ze;rw[ht,Bool.false_and]
     have hv:pR lg k=((0:Int),false,false,false):=by unfold pR;rw[hc]
     rw[hdn,ht,hse,hv];rfl
    |some c =>
     have hdn:=A6 hw hc
     have hv:pR lg k=(c.1,c.2.1,c.2.2,true):=by unfold pR;rw[hc]
     have ht:iW li lg k=(!c.2.1&&(((li.getD k.toNat zI).1 != (2:Int)) || !c.2.2)):=by unfold iW;rw[hc]
     rw[hdn,hv]
     unfold ze
     cases h2:c.2.1 with
     |true =>
      rw[h2]at ht
      rw[ht];rfl
     |false =>
      cases iW li lg k with
      |false=>rfl
      |true =>
       cases fT li sh k with
       |false=>dsimp only;cases((li.getD k.toNat zI).1==1 || (!j6 gv (li.getD k.toNat zI).2.2.1 && !j6 gv (li.getD k.toNat zI).2.2.2.1))<;>rfl
       |true=>rfl
theorem zv (x:TD (bg (ax 0 (S3 0).pars))) (hx:Lg _ x):gN N0 x=some true:=EV x
end AM
end Go.Proofs.YtpgigedclifoeaaGreatDoor
