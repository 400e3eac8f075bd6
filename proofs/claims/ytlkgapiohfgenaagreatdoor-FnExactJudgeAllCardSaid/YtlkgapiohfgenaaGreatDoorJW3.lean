/- Regions of which the orders are too many to list: what only makes (a value, a box, what a call hands back) may stand on either side of its like, a store into a box that one slot alone leads to may be overtaken. No condition. And what follows it: see the remarks. -/
import Derived.Test.YtlkgapiohfgenaaGreatDoorJW2
import Derived.ChangeArms
import Derived.Carry
import Derived.ChangeShapes
import Derived.Laws.StructEq
namespace Go.Proofs.YtlkgapiohfgenaaGreatDoor
namespace AM
open Go
set_option linter.unusedVariables false
set_option linter.unusedSimpArgs false
def xB (E:aK) (l:List Oper) (o:Oper) (s:St):Option St:=cY E l [o] s some
def Ga (E:aK) (l:List Oper):List Oper→St→Option St
 |[],s=>some s
 |o::r,s=>(xB E l o s).bind (Ga E l r)
theorem yh{R:Type}{E:aK}{all:List Oper}:∀{l:List Oper}{s:St}(k:St→Option R),cY E all l s k=(Ga E all l s).bind k
 |[],s,k=>rfl
 |o::r,s,k=>by
  show _=((xB E all o s).bind (Ga E all r)).bind k
  rw[sM]
  unfold xB
  cases cY E all [o] s some with
  |none=>rfl
  |some s1=>exact yh k
def BL (l:List Oper) (o:Oper):Option (Option Nat×Bool):=match o.guard with
 |none=>none
 |some (j,w)=>some ((l[j]?).bind (·.dst),w)
def gd (l:List Oper) (o:Oper) (s:St):Option Bool:=match BL l o with
 |none=>some true
 |some (none,_)=>none
 |some (some t,w)=>match na (s.t t)with
  |some b=>some (b==w)
  |none=>bif kA (s.t t)then some false else none
theorem Fi{s:St}{t:Nat}{b:Bool}(h:na (s.t t)=some b):s.know (.tmp t) b=s:=by
 have e:s.t t = .c (.v .bool b):=by
  cases q:s.t t with
  |c x =>
   rw[q]at h
   cases x with
   |v ty y =>
    cases ty with
    |bool=>exact congrArg (fun z=>AV.c (.v .bool z)) (Option.some.inj h)
    |_=>cases h
   |_=>cases h
  |_=>rw[q]at h;cases h
 show St.mk _ _=s
 cases s with
 |mk ts os =>
  congr 1
  funext i
  show(bif Nat.beq i t then _ else ts i)=ts i
  cases q:Nat.beq i t with
  |false=>rfl
  |true=>obtain rfl:=Nat.eq_of_beq_eq_true q;exact e.symm
theorem zk{E:aK}{l:List Oper}{o:Oper}{s:St}:xB E l o s=match gd l o s with
  |some true=>rf E o s some
  |some false=>bif dS E.N o.dst then some (s.put o.dst nB)else none
  |none=>none:=by
 unfold xB gd BL
 simp only[cY]
 cases hg:o.guard with
 |none=>rfl
 |some gw =>
  obtain⟨j,w⟩:=gw
  dsimp only
  cases ht:(l[j]?).bind (·.dst)with
  |none=>rfl
  |some t =>
   dsimp only
   cases hb:na (s.t t)with
   |none=>cases q:kA (s.t t)<;>cases q2:dS E.N o.dst<;>rfl
   |some b =>
    have hk:=Fi hb
    dsimp only
    cases b<;>cases w<;>(dsimp only;rw[hk];rfl)
def JY:Operand→List Nat
 | .tmp t=>[t]
 |_=>[]
def So (l:List Oper) (o:Oper):List Nat:=match BL l o with
 |some (some t,_)=>[t]
 |_=>[]
def mN (l:List Oper) (o:Oper):List Nat:=o.op.operands.toList.flatMap JY++So l o
theorem DX{l:List Oper}{o:Oper}{s s':St}(h:∀t∈mN l o,s'.t t=s.t t):gd l o s'=gd l o s:=by
 have h:∀t∈So l o,s'.t t=s.t t:=fun t ht=>h t (List.mem_append_right _ ht)
 unfold gd
 unfold So at h
 cases hg:BL l o with
 |none=>rfl
 |some p =>
  obtain⟨a,w⟩:=p
  cases a with
  |none=>rfl
  |some t =>
   rw[hg]at h
   dsimp only
   rw[h t (List.mem_singleton.2 rfl)]
theorem vW{l:List Oper}{o:Oper}{s s':St}(h:∀t∈mN l o,s'.t t=s.t t):∀x∈o.op.operands,s.ev x=s'.ev x:=fun x hx=>by
 cases x with
 |tmp t=>exact(h t (List.mem_append_left _ (List.mem_flatMap.2 ⟨_,Array.mem_toList_iff.2 hx,List.mem_singleton.2 rfl⟩))).symm
 |_=>rfl
theorem tO{l:List Oper}{o:Oper}{s:St}{x:Operand}{n:Nm}(hx:x∈o.op.operands) (hm:bm (s.ev x) n):∃t∈mN l o,bm (s.t t) n:=by
 cases x with
 |tmp t=>exact⟨t,List.mem_append_left _ (List.mem_flatMap.2 ⟨_,Array.mem_toList_iff.2 hx,List.mem_singleton.2 rfl⟩),hm⟩
 |const v=>exact absurd hm (sN v n)
 |global g=>exact hm.elim
 |func f=>exact hm.elim
def eM:Ob→Nm→Prop
 | .box cs,n=>cB cs n
 |_,_=>False
def cT (d:Nat):Nm→Bool
 |[]=>false
 |x::_=>Nat.beq x d
theorem ue{d e:Nat}(h:d≠e){n:Nm}(hd:cT d n=true):cT e n=false:=by
 cases n with
 |nil=>cases hd
 |cons x r =>
  obtain rfl:=Nat.eq_of_beq_eq_true hd
  exact dJ h
def jp (τ:kE) (o:Oper):Bool:=match o.op with
 | .move _=>true
 | .assign _=>true
 | .load _ _=>true
 | .fieldAddr _ _ _=>true
 | .field _ _ _=>true
 | .nilCheck _=>true
 | .extract _ _=>true
 | .binOp _ _ _ _ _=>true
 | .unOp _ _ _=>true
 | .pick _ _ _=>true
 | .convert q d _ => !Nat.beq q d
 | .call { callee := .builtin .len, .. }=>true
 | .indexAddr _ _ _=>true
 | .build _ _=>true
 | .slice t _ _ _ none=>(match τ.get t with
  |some ti=>Nat.beq ti.kind 5
  |none=>false)
 |_=>false
def BI (n:Nm) (off sz:Nat) (j:Int):Nat→Nat→Option AV
 |_,0=>none
 |c,m+1=>bif decide (j=(c:Int))then some (.c (.pb n (off+c*sz)))else BI n off sz j (c+1) m
def As (τ:kE) (op:Op) (e:Operand→AV):Option AV:=match op with
 | .indexAddr t x i=>match τ.get t,e x,e i with
  |some ti, .c (.pb n off), .c (.v (.int _) j)=>bif Nat.beq ti.kind 4 then(match τ.get ti.el with
   |some te=>bif Nat.blt 0 te.size then BI n off te.size j 0 (ti.size / te.size)else none
   |none=>none)else none
  |_,_,_=>none
 |_=>none
def vv (τ:kE) (op:Op) (e:Operand→AV) (o:Nm→Option Ob):Option (Bool×AV):=match gc τ op e o with
 |some r=>some r
 |none=>match As τ op e with
  |some v=>some (true,v)
  |none=>none
theorem GR{R:Type}{s:St}{d:Nat}{n:Nm}{off sz:Nat}{j:Int}{k:St→Option R}:∀(m c:Nat),rW s d n off sz j k c m=(BI n off sz j c m).bind fun v=>k (s.put (some d) v)
 |0,c=>rfl
 |m+1,c=>by
  show(bif decide (j=(c:Int))then _ else rW s d n off sz j k (c+1) m)=(bif decide (j=(c:Int))then _ else BI n off sz j (c+1) m).bind _
  rw[GR m (c+1)]
  cases decide (j=(c:Int))<;>rfl
theorem Lx{R:Type} {τ:kE}{op:Op}{d:Nat}{s:St}{k:St→Option R}:uP τ op d s k=(As τ op s.ev).bind fun v=>k (s.put (some d) v):=by
 cases op with
 |indexAddr t x i =>
  show(match τ.get t,s.ev x,s.ev i with
   |some ti, .c (.pb n off), .c (.v (.int _) j)=>bif Nat.beq ti.kind 4 then(match τ.get ti.el with
    |some te=>bif Nat.blt 0 te.size then rW s d n off te.size j k 0 (ti.size / te.size)else none
    |none=>none)else none
   |_,_,_=>none)=(match τ.get t,s.ev x,s.ev i with
   |some ti, .c (.pb n off), .c (.v (.int _) j)=>bif Nat.beq ti.kind 4 then(match τ.get ti.el with
    |some te=>bif Nat.blt 0 te.size then BI n off te.size j 0 (ti.size / te.size)else none
    |none=>none)else none
   |_,_,_=>none).bind _
  split
  ·rename_i ti n off ik j e1 e2 e3
   cases Nat.beq ti.kind 4 with
   |false=>rfl
   |true =>
    simp only[cond_true]
    split
    ·rename_i te e4
     cases Nat.blt 0 te.size with
     |false=>rfl
     |true=>exact GR _ _
    ·rfl
  ·rfl
 |_=>rfl
theorem yG{n:Nm}{off sz:Nat}{j:Int}{v:AV}:∀{m c:Nat},BI n off sz j c m=some v→∃k,v = .c (.pb n k)
 |0,c,h=>by cases h
 |m+1,c,h=>by
  have h:(bif decide (j=(c:Int))then some (AV.c (.pb n (off+c*sz)))else BI n off sz j (c+1) m)=some v:=h
  cases q:decide (j=(c:Int))with
  |true=>rw[q]at h;exact⟨_,(Option.some.inj h).symm⟩
  |false=>rw[q]at h;exact yG h
theorem FE {τ:kE}{op:Op}{e:Operand→AV}{v:AV}(h:As τ op e=some v){n:Nm}(hm:bm v n):∃x∈op.operands,bm (e x) n:=by
 cases op with
 |indexAddr t x i =>
  unfold As at h
  dsimp only at h
  split at h
  ·rename_i ti m off ik j e1 e2 e3
   refine⟨x,by simp[Op.operands],?_⟩
   rw[e2]
   generalize Nat.beq ti.kind 4=q at h
   cases q with
   |false=>cases h
   |true =>
    dsimp only[cond_true]at h
    split at h
    ·rename_i te e4
     generalize Nat.blt 0 te.size=q2 at h
     cases q2 with
     |false=>cases h
     |true =>
      obtain⟨k,rfl⟩:=yG (show BI m off te.size j 0 (ti.size / te.size)=some v from h)
      exact hm
    ·cases h
  ·cases h
 |_=>cases h
theorem Dg {τ:kE}{op:Op}{e e':Operand→AV}(h:∀x∈op.operands,e x=e' x):As τ op e=As τ op e':=by
 cases op with
 |indexAddr t x i =>
  unfold As
  dsimp only
  rw[h x (by simp[Op.operands]),h i (by simp[Op.operands])]
 |_=>rfl
theorem Cj {τ:kE}{op:Op}{e e':Operand→AV}{o:Nm→Option Ob}(h:∀x∈op.operands,e x=e' x):vv τ op e o=vv τ op e' o:=by
 unfold vv
 rw[tL h,Dg h]
section
variable{E:aK}{l:List Oper}{o:Oper}{s s1:St}
theorem JX (h:jp E.τ o=true){d:Nat}(hd:o.dst=some d):rf (R:=St) E o s some=match vv E.τ o.op s.ev s.o with
  |some (c,v)=>bif Nat.blt d E.N then(match c with|true=>some (s.put (some d) v)|false=>none)else none
  |none=>none:=by
 have hc:∀(op:Op),o.op=op→(∀e nm,rg E.τ op e nm=none)→(∀d s,mT E.τ op d s=none) →
   (match gc E.τ op s.ev s.o with
    |some (c,v)=>bif dS E.N o.dst then(match c with|true=>some (s.put o.dst v)|false=>none)else none
    |none=>match o.dst with
     |some d=>bif Nat.blt d E.N then(match rg E.τ op (s.drop [d,0]).ev [d,0]with
      |some (c,ob,v)=>(match c with|true=>some (((s.drop [d,0]).setO [d,0] ob).put (some d) v)|false=>none)
      |none=>match mT E.τ op (some d) s with
       |some (c,s')=>(match c with|true=>some s'|false=>none)
       |none=>uP (R:=St) E.τ op d s some)else none
     |none=>match mT E.τ op none s with
      |some (c,s')=>(match c with|true=>some s'|false=>none)
      |none=>none)=(match vv E.τ op s.ev s.o with
    |some (c,v)=>bif Nat.blt d E.N then(match c with|true=>some (s.put (some d) v)|false=>none)else none
    |none=>none):=by
  intro op _ hm hw
  rw[hd]
  unfold vv
  cases gc E.τ op s.ev s.o with
  |some p=>rfl
  |none =>
   dsimp only
   rw[hm,hw]
   dsimp only
   rw[Lx]
   cases As E.τ op s.ev<;>cases Nat.blt d E.N<;>rfl
 unfold jp at h
 unfold rf
 cases hop:o.op with
 |indexAddr t x i=>exact hc _ hop (fun _ _=>rfl) fun _ _=>rfl
 |slice t x lo hi mx =>
  rw[hop]at h
  cases mx with
  |some y=>cases h
  |none =>
   refine hc _ hop (fun _ _=>rfl) fun d' s'=>?_
   dsimp only at h
   unfold mT
   dsimp only
   cases hti:E.τ.get t with
   |none=>rfl
   |some ti =>
    rw[hti]at h
    have h5:ti.kind=5:=Nat.eq_of_beq_eq_true h
    have h3:Nat.beq ti.kind 3=false:=by rw[h5];rfl
    split
    ·rename_i ti' n e1 e2
     obtain rfl:=Option.some.inj e1
     rw[h3];rfl
    ·rfl
 |move x=>exact hc _ hop (fun _ _=>rfl) fun _ _=>rfl
 |assign x=>exact hc _ hop (fun _ _=>rfl) fun _ _=>rfl
 |load t x=>exact hc _ hop (fun _ _=>rfl) fun _ _=>rfl
 |build t ps=>exact hc _ hop (fun _ _=>rfl) fun _ _=>rfl
 |fieldAddr t x f=>exact hc _ hop (fun _ _=>rfl) fun _ _=>rfl
 |field t x f=>exact hc _ hop (fun _ _=>rfl) fun _ _=>rfl
 |nilCheck x=>exact hc _ hop (fun _ _=>rfl) fun _ _=>rfl
 |extract x i=>exact hc _ hop (fun _ _=>rfl) fun _ _=>rfl
 |binOp a b c d e=>exact hc _ hop (fun _ _=>rfl) fun _ _=>rfl
 |unOp a b c=>exact hc _ hop (fun _ _=>rfl) fun _ _=>rfl
 |pick a b c=>exact hc _ hop (fun _ _=>rfl) fun _ _=>rfl
 |convert a b c =>
  rw[hop]at h
  have h3:Nat.beq a b=false:=by simpa using h
  refine hc _ hop (fun _ _=>rfl) fun d' s'=>?_
  unfold mT
  dsimp only
  split
  ·rw[h3];rfl
  ·rfl
 |call c =>
  obtain⟨cl,xs,ts⟩:=c
  rw[hop]at h
  cases cl with
  |builtin b=>cases b<;>first|exact hc _ hop (fun _ _=>rfl) (fun _ _=>rfl)|cases h
  |_=>cases h
 |_=>rw[hop]at h;cases h
theorem Ie {τ:kE}{op:BinOp}{xt:Nat}{x y:AV}{c:Bool}{v:AV}(h:bin τ op xt x y=some (c,v)) (n:Nm):¬bm v n:=by
 have one:∀{k:IntKind}{a b:Int}{op:BinOp}{r:Bool×CV},GS op k a b=some r→¬fq r.2 n:=by
  intro k a b op r hr
  unfold GS at hr
  cases op<;>first|(cases hr;done)|(obtain rfl:=Option.some.inj hr;exact fun q=>q)
 have two:∀{a b:ByteArray}{op:BinOp}{r:Bool×CV},F7 op a b=some r→¬fq r.2 n:=by
  intro a b op r hr
  unfold F7 at hr
  cases op<;>first|(cases hr;done)|(obtain rfl:=Option.some.inj hr;exact fun q=>q)
 have three:∀{a b:Bool}{op:BinOp}{r:Bool×CV},If op a b=some r→¬fq r.2 n:=by
  intro a b op r hr
  unfold If at hr
  cases op<;>first|(cases hr;done)|(obtain rfl:=Option.some.inj hr;exact fun q=>q)
 unfold bin at h
 split at h
 ·split at h
  ·obtain⟨rfl,rfl⟩:=Prod.mk.inj (Option.some.inj h);exact fun q=>q
  ·obtain⟨rfl,rfl⟩:=Prod.mk.inj (Option.some.inj h);exact fun q=>q
  ·split at h
   ·split at h
    ·rename_i r e
     obtain⟨rfl,rfl⟩:=Prod.mk.inj (Option.some.inj h)
     exact one e
    ·cases h
   ·cases h
 ·split at h
  ·rename_i r e
   obtain⟨rfl,rfl⟩:=Prod.mk.inj (Option.some.inj h)
   exact two e
  ·cases h
 ·split at h
  ·rename_i ti e
   cases q:Nat.beq ti.kind 6 with
   |false=>rw[q]at h;cases h
   |true =>
    rw[q]at h
    dsimp only[cond_true]at h
    split at h
    ·rename_i r e
     obtain⟨rfl,rfl⟩:=Prod.mk.inj (Option.some.inj h)
     exact three e
    ·cases h
  ·cases h
 ·split at h
  ·split at h
   ·split at h
    ·obtain⟨rfl,rfl⟩:=Prod.mk.inj (Option.some.inj h);exact fun q=>q
    ·obtain⟨rfl,rfl⟩:=Prod.mk.inj (Option.some.inj h);exact fun q=>q
    ·cases h
   ·cases h
  ·cases h
 ·cases h
theorem qn{cs:List CV}{off k:Nat}{agg:Bool}{v:AV}(h:part cs off k agg=some v){n:Nm}(hm:bm v n):cB cs n:=by
 unfold part at h
 cases q:Nat.ble (off+k) cs.length with
 |false=>rw[q]at h;cases h
 |true =>
  rw[q]at h
  have h:qo agg ((cs.drop off).take k)=some v:=h
  have sub:∀{c:CV},c∈(cs.drop off).take k→c∈cs:=fun hc=>List.mem_of_mem_drop (List.mem_of_mem_take hc)
  unfold qo at h
  split at h
  ·obtain rfl:=Option.some.inj h
   obtain⟨c,hc,hm⟩:=hm
   exact⟨c,sub hc,hm⟩
  ·rename_i c e _
   obtain rfl:=Option.some.inj h
   exact⟨c,sub (by rw[e];exact List.mem_singleton.2 rfl),hm⟩
  ·cases h
theorem wN{ob:Nm→Option Ob}{k:Nat}{agg:Bool}{p:CV}{v:AV}(h:loadCells ob k agg p=some v){n:Nm}(hm:bm v n):∃m x,fq p m∧ob m=some x∧eM x n:=by
 cases p with
 |pb m off =>
  unfold loadCells at h
  dsimp only at h
  split at h
  ·rename_i cs e
   exact⟨m,_,rfl,e,qn h hm⟩
  ·cases h
 |pa m z i j =>
  unfold loadCells at h
  dsimp only at h
  split at h
  ·exact absurd (qn h hm) (og _ _ _)
  ·cases h
 |pe t x j=>exact absurd (qn (show part (split t x) j k agg=some v from h) hm) (og _ _ _)
 |_=>cases h
theorem xc{pl:Nat→Option (Nat×Nat)}:∀{ps:List (Nat×AV)}{cs out:List CV},vg pl cs ps=some out→∀{n:Nm},cB out n→cB cs n∨∃p∈ps,bm p.2 n
 |[],cs,out,h,n,hm=>by
  obtain rfl:=Option.some.inj (show some cs=some out from h)
  exact .inl hm
 |p::ps,cs,out,h,n,hm=>by
  simp only[vg]at h
  split at h
  ·rename_i off k new _ hn
   cases q:(Nat.beq new.length k&&Nat.ble (off+k) cs.length)with
   |false=>rw[q]at h;cases h
   |true =>
    rw[q,cond_true]at h
    rcases xc h hm with g|⟨p',hp,g⟩
    ·have:cB cs n∨cB new n:=by
      obtain⟨c,hc,hm⟩:=g
      unfold zo at hc
      rcases List.mem_append.1 hc with hc|hc
      ·rcases List.mem_append.1 hc with hc|hc
       ·exact .inl ⟨c,List.mem_of_mem_take hc,hm⟩
       ·exact .inr ⟨c,hc,hm⟩
      ·exact .inl ⟨c,List.mem_of_mem_drop hc,hm⟩
     rcases this with g|g
     ·exact .inl g
     ·exact .inr ⟨p,List.mem_cons_self ..,oS hn g⟩
    ·exact .inr ⟨p',List.mem_cons_of_mem _ hp,g⟩
  ·cases h
theorem IP {τ:kE}(hv:jp τ o=true){e:Operand→AV}{ob ob':Nm→Option Ob}(ho:∀x∈o.op.operands, ∀n,bm (e x) n→ob' n=ob n):gc τ o.op e ob'=gc τ o.op e ob:=by
 unfold jp at hv
 cases hop:o.op with
 |build t ps=>rfl
 |load t a =>
  rw[hop]at ho
  unfold gc
  dsimp only
  cases τ.get t with
  |none=>rfl
  |some ti =>
   cases he:e a with
   |c p =>
    have h1:∀n,fq p n→ob' n=ob n:=fun n hn=>ho a (by simp[Op.operands]) n (by rw[he];exact hn)
    dsimp only
    have:loadCells ob' ti.size ti.agg p=loadCells ob ti.size ti.agg p:=by
     cases p with
     |pb m off=>unfold loadCells;dsimp only;rw[h1 m rfl]
     |pa m z i j=>unfold loadCells;dsimp only;rw[h1 m rfl]
     |_=>rfl
    rw[this]
   |_=>rfl
 |indexAddr t a i =>
  rw[hop]at ho
  unfold gc
  dsimp only
  cases τ.get t with
  |none=>rfl
  |some ti =>
   cases he:e a with
   |c p =>
    have h1:∀n,fq p n→ob' n=ob n:=fun n hn=>ho a (by simp[Op.operands]) n (by rw[he];exact hn)
    have:∀k j,kY ob' k j p=kY ob k j p:=by
     intro k j
     cases p with
     |own m=>unfold kY;dsimp only;rw[h1 m rfl]
     |v t x=>cases t<;>rfl
     |_=>rfl
    cases hi:e i with
    |c q =>
     cases q with
     |v t x =>
      cases t with
      |int k =>
       dsimp only
       cases τ.get ti.el with
       |none=>rfl
       |some te=>dsimp only;rw[this]
      |_=>rfl
     |_=>rfl
    |_=>rfl
   |_=>rfl
 |convert q d a =>
  rw[hop]at ho
  unfold gc
  dsimp only
  cases τ.get q with
  |none=>rfl
  |some tq =>
   dsimp only
   cases τ.get d with
   |none=>rfl
   |some ti =>
    cases he:e a with
    |c p =>
     cases p with
     |own m=>dsimp only;rw[ho a (by simp[Op.operands]) m (by rw[he];exact rfl)]
     |v t x =>
      cases t with
      |sl u=>cases u<;>first|rfl|(rename_i ik;cases ik<;>rfl)
      |_=>rfl
     |_=>rfl
    |_=>rfl
 |slice t x lo hi mx=>cases mx<;>rfl
 |move x=>rfl
 |assign x=>rfl
 |fieldAddr t x f=>rfl
 |field t x f=>rfl
 |nilCheck x=>rfl
 |extract x i=>rfl
 |binOp a b c d e=>rfl
 |unOp a b c=>rfl
 |pick a b c=>rfl
 |call c =>
  obtain⟨cl,xs,ts⟩:=c
  rw[hop]at hv ho
  cases cl with
  |builtin b =>
   cases b<;>try (cases hv;done)
   have one:∀x∈xs.toList, ∀p,e x = .c p→lenOf ob' p=lenOf ob p:=by
    intro x hx p he
    have h1:∀n,fq p n→ob' n=ob n:=fun n hn=>ho x (by simp[Op.operands,Call.operands];simpa using hx) n (by rw[he];exact hn)
    cases p with
    |own m=>unfold lenOf;dsimp only;rw[h1 m rfl]
    |v t x=>cases t<;>rfl
    |_=>rfl
   unfold gc
   dsimp only
   cases hl:xs.toList with
   |nil=>rfl
   |cons x r =>
    cases r with
    |nil =>
     cases he:e x with
     |c p =>
      simp only[List.map_cons,List.map_nil,he]
      rw[one x (by rw[hl];exact List.mem_cons_self ..) p he]
     |_=>simp only[List.map_cons,List.map_nil,he]
    |cons y r =>
     simp only[List.map_cons]
     cases e x with
     |c p=>rfl
     |_=>rfl
  |_=>cases hv
 |_=>rw[hop]at hv;cases hv
theorem FV {τ:kE}(hv:jp τ o=true){e:Operand→AV}{ob:Nm→Option Ob}{c:Bool}{v:AV}(h:gc τ o.op e ob=some (c,v)){n:Nm}(hm:bm v n) :
  (∃x∈o.op.operands,bm (e x) n)∨∃x∈o.op.operands, ∃m y,bm (e x) m∧ob m=some y∧eM y n:=by
 unfold jp at hv
 cases hop:o.op with
 |build t ps =>
  rw[hop]at h
  left
  unfold gc at h
  dsimp only at h
  have key:∀{pl:Nat→Option (Nat×Nat)}{zc cs:List CV},(∀n,¬cB zc n)→vg pl zc (ps.toList.map fun p=>(p.1,e p.2))=some cs→cB cs n→∃x∈(Op.build t ps).operands,bm (e x) n:=fun hz hf hc=>by
   rcases xc hf hc with q|⟨p,hp,q⟩
   ·exact absurd q (hz n)
   ·obtain⟨p',hp',rfl⟩:=List.mem_map.1 hp
    exact⟨p'.2,Array.mem_def.2 (List.mem_map.2 ⟨p',hp',rfl⟩),q⟩
  split at h
  ·rename_i ti _
   split at h
   ·rename_i zc hz
    have zm:=fun n=>zd hz n
    cases q1:Nat.beq ti.kind 2 with
    |true =>
     rw[q1,cond_true]at h
     split at h
     ·rename_i cs hf
      obtain⟨_,rfl⟩:=Prod.mk.inj (Option.some.inj h)
      exact key zm hf hm
     ·cases h
    |false =>
     rw[q1,cond_false]at h
     cases q2:Nat.beq ti.kind 4 with
     |false=>rw[q2]at h;cases h
     |true =>
      rw[q2,cond_true]at h
      split at h
      ·split at h
       ·rename_i cs hf
        obtain⟨_,rfl⟩:=Prod.mk.inj (Option.some.inj h)
        exact key zm hf hm
       ·cases h
      ·cases h
   ·cases h
  ·cases h
 |move x=>rw[hop]at h;obtain⟨_,rfl⟩:=Prod.mk.inj (Option.some.inj h);exact .inl ⟨x,by simp[Op.operands],hm⟩
 |assign x=>rw[hop]at h;obtain⟨_,rfl⟩:=Prod.mk.inj (Option.some.inj h);exact .inl ⟨x,by simp[Op.operands],hm⟩
 |slice t x lo hi mx =>
  rw[hop]at h hv
  cases mx with
  |some y=>cases hv
  |none =>
   dsimp only at hv
   unfold gc at h
   dsimp only at h
   split at h
   ·generalize Nat.beq _ 5=q at h
    cases q with
    |false=>cases h
    |true =>
     dsimp only[cond_true]at h
     split at h<;>first|(cases h;done)|(obtain⟨_,rfl⟩:=Prod.mk.inj (Option.some.inj h);exact hm.elim)
   ·rename_i ti t' xs e1 e2
    rw[e1]at hv
    have h5:ti.kind=5:=Nat.eq_of_beq_eq_true hv
    have h3:Nat.beq ti.kind 3=false:=by rw[h5];rfl
    rw[h3]at h
    cases h
   ·cases h
 |load t a =>
  rw[hop]at h
  unfold gc at h
  dsimp only at h
  split at h
  ·rename_i ti p e1 e2
   split at h
   ·rename_i v' e3
    obtain⟨_,rfl⟩:=Prod.mk.inj (Option.some.inj h)
    obtain⟨m,y,h1,h2,h3⟩:=wN e3 hm
    exact .inr ⟨a,by simp[Op.operands],m,y,by rw[e2];exact h1,h2,h3⟩
   ·cases h
  ·cases h
 |indexAddr t a i =>
  rw[hop]at h
  unfold gc at h
  dsimp only at h
  split at h
  ·rename_i ti p ik j e1 e2 e3
   cases q:Nat.beq ti.kind 3 with
   |false=>rw[q]at h;cases h
   |true =>
    rw[q]at h
    dsimp only[cond_true]at h
    split at h
    ·refine .inl ⟨a,by simp[Op.operands],?_⟩
     rw[e2]
     cases p with
     |own m =>
      unfold kY at h
      dsimp only at h
      split at h
      ·rename_i u xs _
       cases q:Nat.beq _ u.sz with
       |false=>rw[q]at h;cases h
       |true=>rw[q]at h;obtain⟨_,rfl⟩:=Prod.mk.inj (Option.some.inj h);exact hm
      ·cases h
     |v t x =>
      cases t with
      |sl u =>
       unfold kY at h
       dsimp only at h
       cases q:Nat.beq _ u.sz with
       |false=>rw[q]at h;cases h
       |true=>rw[q]at h;obtain⟨_,rfl⟩:=Prod.mk.inj (Option.some.inj h);exact hm.elim
      |_=>cases h
     |_=>cases h
    ·cases h
  ·cases h
 |convert q d a =>
  rw[hop]at h
  exfalso
  unfold gc at h
  dsimp only at h
  have fin:∀{b:Bool}{w:CV},(¬fq w n)→(bif b then some (true,AV.c w)else none)=some (c,v)→False:=fun{b w} hw q=>by
   cases b with
   |false=>cases q
   |true=>obtain⟨_,rfl⟩:=Prod.mk.inj (Option.some.inj q);exact hw hm
  split at h
  ·cases h
  ·split at h
   ·exact fin (w := .v _ _) (fun q=>q) h
   ·exact fin (w := .v _ _) (fun q=>q) h
   ·exact fin (w := .v _ _) (fun q=>q) h
   ·exact fin (w := .v _ _) (fun q=>q) h
   ·split at h
    ·exact fin (w := .v _ _) (fun q=>q) h
    ·cases h
   ·cases h
 |fieldAddr t x f =>
  rw[hop]at h
  unfold gc at h
  dsimp only at h
  split at h
  ·rename_i ti p e1 e2
   cases q:Nat.beq ti.kind 2 with
   |false=>rw[q]at h;cases h
   |true =>
    rw[q]at h
    dsimp only[cond_true]at h
    split at h
    ·split at h
     ·rename_i fd _ _ q' e4
      obtain⟨_,rfl⟩:=Prod.mk.inj (Option.some.inj h)
      refine .inl ⟨x,by simp[Op.operands],?_⟩
      rw[e2]
      cases p with
      |pb m k=>obtain rfl:=Option.some.inj (show some (CV.pb m (k+fd.1))=some q' from e4);exact hm
      |pa m z k j=>obtain rfl:=Option.some.inj (show some (CV.pa m z k (j+fd.1))=some q' from e4);exact hm
      |pe u y j=>obtain rfl:=Option.some.inj (show some (CV.pe u y (j+fd.1))=some q' from e4);exact hm
      |_=>cases e4
     ·cases h
    ·cases h
  ·cases h
 |field t x f =>
  rw[hop]at h
  unfold gc at h
  dsimp only at h
  split at h
  ·rename_i ti cs e1 e2
   cases q:Nat.beq ti.kind 2 with
   |false=>rw[q]at h;cases h
   |true =>
    rw[q]at h
    dsimp only[cond_true]at h
    split at h
    ·split at h
     ·rename_i fd _ v' e4
      obtain⟨_,rfl⟩:=Prod.mk.inj (Option.some.inj h)
      refine .inl ⟨x,by simp[Op.operands],?_⟩
      rw[e2]
      exact qn e4 hm
     ·cases h
    ·cases h
  ·cases h
 |nilCheck x =>
  rw[hop]at h
  unfold gc at h
  dsimp only at h
  refine .inl ⟨x,by simp[Op.operands],?_⟩
  split at h
  ·rename_i e2;rw[e2];obtain⟨_,rfl⟩:=Prod.mk.inj (Option.some.inj h);exact hm
  ·rename_i e2;rw[e2];obtain⟨_,rfl⟩:=Prod.mk.inj (Option.some.inj h);exact hm
  ·rename_i e2;rw[e2];obtain⟨_,rfl⟩:=Prod.mk.inj (Option.some.inj h);exact hm
  ·cases h
 |extract x i =>
  rw[hop]at h
  unfold gc at h
  dsimp only at h
  split at h
  ·rename_i cs e2
   split at h
   ·rename_i p e3
    split at h
    ·rename_i v' e4
     obtain⟨_,rfl⟩:=Prod.mk.inj (Option.some.inj h)
     refine .inl ⟨x,by simp[Op.operands],?_⟩
     rw[e2]
     refine⟨p,List.mem_of_getElem? e3,?_⟩
     unfold qo at e4
     split at e4
     ·rename_i e5 _;obtain rfl:=Option.some.inj e4;exact hm
     ·rename_i cc e5 e6;obtain rfl:=Option.some.inj e4;rw[e6];exact⟨cc,List.mem_singleton.2 rfl,hm⟩
     ·cases e4
    ·cases h
   ·cases h
  ·cases h
 |binOp a b x y z =>
  rw[hop]at h
  unfold gc at h
  dsimp only at h
  split at h
  ·exfalso
   unfold zQ at h
   split at h
   ·cases h
   ·split at h
    ·rename_i ti _ k b' _
     generalize Nat.beq _ (vO _)=q at h
     cases q with
     |false=>cases h
     |true =>
      dsimp only[cond_true]at h
      unfold Gz at h
      split at h
      ·obtain⟨_,rfl⟩:=Prod.mk.inj (Option.some.inj h);exact hm
      ·obtain⟨_,rfl⟩:=Prod.mk.inj (Option.some.inj h);exact hm
      ·cases h
    ·cases h
  ·exact absurd hm (Ie h n)
 |unOp a b x =>
  rw[hop]at h
  exfalso
  unfold gc at h
  dsimp only at h
  split at h
  ·obtain⟨_,rfl⟩:=Prod.mk.inj (Option.some.inj h);exact hm
  ·obtain⟨_,rfl⟩:=Prod.mk.inj (Option.some.inj h);exact hm
  ·cases h
 |pick x a b =>
  rw[hop]at h
  unfold gc at h
  dsimp only at h
  split at h
  ·rename_i y e2
   obtain⟨_,rfl⟩:=Prod.mk.inj (Option.some.inj h)
   unfold zG at hm
   split at hm
   ·exact hm.elim
   ·cases y with
    |true=>exact .inl ⟨a,by simp[Op.operands],hm⟩
    |false=>exact .inl ⟨b,by simp[Op.operands],hm⟩
  ·cases h
 |call c =>
  obtain⟨cl,xs,ts⟩:=c
  rw[hop]at hv h
  exfalso
  cases cl with
  |builtin b =>
   cases b<;>try (cases hv;done)
   unfold gc at h
   dsimp only at h
   split at h
   ·split at h
    ·split at h
     ·rename_i ti _
      generalize (Nat.beq ti.kind (sX _) && !Nat.beq ti.kind 0)=q at h
      cases q with
      |false=>cases h
      |true=>obtain⟨_,rfl⟩:=Prod.mk.inj (Option.some.inj h);exact hm
     ·cases h
    ·cases h
   ·rename_i e1 _;cases e1
   ·rename_i e1 _;cases e1
   ·cases h
  |_=>cases hv
 |_=>rw[hop]at hv;cases hv
theorem FX {τ:kE}(hv:jp τ o=true){e:Operand→AV}{ob ob':Nm→Option Ob}(ho:∀x∈o.op.operands, ∀n,bm (e x) n→ob' n=ob n):vv τ o.op e ob'=vv τ o.op e ob:=by
 unfold vv
 rw[IP hv ho]
theorem Ez {τ:kE}(hv:jp τ o=true){e:Operand→AV}{ob:Nm→Option Ob}{c:Bool}{v:AV}(h:vv τ o.op e ob=some (c,v)){n:Nm}(hm:bm v n) :
  (∃x∈o.op.operands,bm (e x) n)∨∃x∈o.op.operands, ∃m y,bm (e x) m∧ob m=some y∧eM y n:=by
 unfold vv at h
 cases hq:gc τ o.op e ob with
 |some r =>
  rw[hq]at h
  obtain rfl:=Option.some.inj h
  exact FV hv hq hm
 |none =>
  rw[hq]at h
  cases ha:As τ o.op e with
  |none=>rw[ha]at h;cases h
  |some u =>
   rw[ha]at h
   obtain⟨_,rfl⟩:=Prod.mk.inj (Option.some.inj h)
   exact .inl (FE ha hm)
end
def fM (d:Nat) (s:St):Prop:=(∀t,t≠d→∀n,cT d n=true→¬bm (s.t t) n)∧∀m ob,s.o m=some ob→cT d m=false∧∀n,cT d n=true→¬eM ob n
def xA (d:Nat) (s:St):Prop:=s.t d = .c (.pb [d,0] 0)∧(∀t,t≠d→¬bm (s.t t) [d,0])∧∀m ob,s.o m=some ob→¬eM ob [d,0]
theorem CV.drop_id{n:Nm}{c:CV}(h:¬fq c n):c.drop n=c:=by
 cases c with
 |own m=>show(bif Nm.eqb m n then CV.dead else .own m)=_;rw[bc.2 h];rfl
 |pb m k=>show(bif Nm.eqb m n then CV.dead else .pb m k)=_;rw[bc.2 h];rfl
 |pa m z i j=>show(bif Nm.eqb m n then CV.dead else .pa m z i j)=_;rw[bc.2 h];rfl
 |mp m=>show(bif Nm.eqb m n then CV.dead else .mp m)=_;rw[bc.2 h];rfl
 |clo f cs =>
  have:(cs.any fun p=>Nm.eqb p.1 n)=false:=by
   rw[List.any_eq_false]
   intro p hp
   rw[bc.2 (fun e=>h ⟨p,hp,e⟩)]
   exact Bool.noConfusion
  show(bif (cs.any fun p=>Nm.eqb p.1 n)then CV.dead else .clo f cs)=_
  rw[this];rfl
 |_=>rfl
theorem Mp.drop_id{n:Nm}{cs:List CV}(h:¬cB cs n):cs.map (CV.drop n)=cs:=by
 induction cs with
 |nil=>rfl
 |cons c cs ih =>
  rw[List.map_cons,CV.drop_id (fun q=>h ⟨c,List.mem_cons_self ..,q⟩),ih (fun⟨x,hx,q⟩=>h ⟨x,List.mem_cons_of_mem _ hx,q⟩)]
theorem AV.drop_id{n:Nm}{v:AV}(h:¬bm v n):v.drop n=v:=by
 cases v with
 |c x=>exact congrArg AV.c (CV.drop_id h)
 |g cs=>exact congrArg AV.g (Mp.drop_id h)
 |tup l =>
  refine congrArg AV.tup ?_
  induction l with
  |nil=>rfl
  |cons p l ih =>
   rw[List.map_cons,ih (fun⟨x,hx,q⟩=>h ⟨x,List.mem_cons_of_mem _ hx,q⟩),Mp.drop_id (fun q=>h ⟨p,List.mem_cons_self ..,q⟩)]
theorem Ob.drop_id{n:Nm}{x:Ob}(h:¬eM x n):x.drop n=x:=by
 cases x with
 |box cs=>exact congrArg Ob.box (Mp.drop_id h)
 |_=>rfl
theorem fM.o_none{d:Nat}{s:St}(h:fM d s){n:Nm}(hn:cT d n=true):s.o n=none:=by
 cases q:s.o n with
 |none=>rfl
 |some ob=>rw[(h.2 n ob q).1]at hn;cases hn
theorem fM.drops{d:Nat}{s:St}(h:fM d s):∀(ns:List Nm),(∀n∈ns,cT d n=true)→(∀t,t≠d→(s.drops ns).t t=s.t t)∧(s.drops ns).o=s.o
 |[],_=>⟨fun _ _=>rfl,rfl⟩
 |n::ns,hn=>by
  have h0:=hn n (List.mem_cons_self ..)
  have e1:∀t,t≠d→(s.drop n).t t=s.t t:=fun t ht=>AV.drop_id (h.1 t ht n h0)
  have e2:(s.drop n).o=s.o:=by
   funext m
   show(bif Nm.eqb m n then none else(s.o m).map (Ob.drop n))=s.o m
   cases q:Nm.eqb m n with
   |true=>rw[cf.1 q,h.o_none h0];rfl
   |false =>
    cases q2:s.o m with
    |none=>rfl
    |some ob=>exact congrArg some (Ob.drop_id ((h.2 m ob q2).2 n h0))
  have h':fM d (s.drop n):=⟨fun t ht k hk=>by rw[e1 t ht];exact h.1 t ht k hk,fun m ob hm=>by rw[e2]at hm;exact h.2 m ob hm⟩
  obtain⟨g1,g2⟩:=h'.drops ns (fun k hk=>hn k (List.mem_cons_of_mem _ hk))
  exact⟨fun t ht=>(g1 t ht).trans (e1 t ht),g2.trans e2⟩
theorem fM.ev{d:Nat}{s:St}(h:fM d s){n:Nm}(hn:cT d n=true){x:Operand}(hx:x ≠ .tmp d):(s.drop n).ev x=s.ev x:=by
 cases x with
 |tmp t=>exact((h.drops [n] (fun k hk=>by rw[List.mem_singleton.1 hk];exact hn)).1 t (fun e=>hx (by rw[e])))
 |_=>rfl
def GM:cp→Bool
 | .no=>true
 | .ln _=>true
 |_=>false
def Bm:B9→Bool
 | .p _=>false
 |_=>true
def jZ{R:Type}(S:aa) (vs:List AV) (d:Nat) (o:Nm→Option Ob) (k:AV→List (Nm×Ob)→Option R):Option R :=
 bif Nat.beq (vs.length+S.gh.length) S.pars.length&&(wU S.gh&&S.pars.all Bm)then(match jn o (aB 0 S.pars) vs with
  |some (ds,ts)=>bif kT S.pars.length (aB 0 S.pars)&&(kq ts&&((bif S.shares then gH (ts.flatMap cp.lent)else true)&&(gH ((ts.flatMap cp.pair).map Prod.snd)&&ts.all GM)))then(match sK (bD (aB 0 S.pars)) ds with
   |some x=>match S.g x with
    |some r=>match mU d (fun _=>none) ts (S.ens.flatMap En.names) (iA S.ens (aq _ r))with
     |some ups=>bif jY S d (fun _=>none) ts (dH S.ens (aq _ r)) (iA S.ens (aq _ r)) ups then k ((uZ (dH S.ens (aq _ r)) S.pars.length S.res.length).ren d ts (S.ens.flatMap En.names)) ups else none
     |none=>none
    |none=>none
   |none=>none)else none
  |none=>none)else none
def ng:Op→Bool
 | .alloc _=>true
 |_=>false
def BD:Op→Bool
 | .buildSlice _ _ ⟨[]⟩=>true
 |_=>false
def j0 (o:Oper):Option Nat:=match o.op,o.dst with
 | .call { callee := .builtin .append,args:=⟨[.tmp t,_]⟩, .. },some _=>some t
 |_,_=>none
def dM (o:Oper):Bool:=match o.guard with
 |none=>true
 |some _=>false
def aL (E:aK) (o:Oper):Nat:=bif jp E.τ o&&(match o.dst with|some _=>true|none=>false)then 0 else bif dM o then(match o.op,o.dst with
 | .call { callee := .value (.func f), .. },some d=>(match E.Γ f d with
  |some S=>bif gH (S.ens.flatMap En.names)then 4 else 1
  |none=>3)
 | .alloc _,some _=>1
 | .buildSlice _ _ ⟨[]⟩,some _=>1
 | .store _ (.tmp _) _,none=>2
 | .call { callee := .builtin .append,args:=⟨[.tmp _,_]⟩, .. },some _=>6
 |_,_=>3)else 3
def zT{R:Type}(E:aK) (o:Oper) (s:St) (k:St→Option R):Option R:=match o.dst with
 |none=>none
 |some d=>bif Nat.blt d E.N then(match o.op with
  | .call { callee := .value (.func f),args, .. }=>(match E.Γ f d with
   |some S=>jZ S (args.toList.map s.ev) d s.o (fun v ups=>k ((s.over ups).put (some d) v))
   |none=>none)
  |op=>(match rg E.τ op s.ev [d,0]with
   |some (c,ob,v)=>(match c with|true=>k ((s.over [([d,0],ob)]).put (some d) v)|false=>none)
   |none=>none))else none
def Bh{R:Type}(fr:Bool) (E:aK) (o:Oper) (s:St) (k:St→Option R):Option R:=match aL E o with
 |1=>(match fr with|true=>zT E o s k|false=>rf E o s k)
 |4=>zT E o s k
 |_=>rf E o s k
def nQ{R:Type}(fr:Bool) (E:aK) (all:List Oper):List Oper→St→(St→Option R)→Option R
 |[],s,k=>k s
 |o::r,s,k=>match o.guard with
  |none=>Bh fr E o s (fun s'=>nQ fr E all r s' k)
  |some _=>cY E all [o] s (fun s'=>nQ fr E all r s' k)
structure Kq (E:aK) (l:List Oper) (o:Oper) (q:Bool) (s:St) (d:Nat) (v:AV) (ups:List (Nm×Ob)):Prop where
 dst:o.dst=some d
 step:∀s':St,(∀t∈mN l o,s'.t t=s.t t)→(∀t∈mN l o, ∀n,bm (s.t t) n→s'.o n=s.o n)→(q=true→fM d s')→xB E l o s'=some ((s'.over ups).put (some d) v)
 hd:∀p∈ups,cT d p.1=true
 ment:∀n,(bm v n∨∃p∈ups,eM p.2 n)→cT d n=true∨(∃t∈mN l o,bm (s.t t) n)∨∃t∈mN l o, ∃m y,bm (s.t t) m∧s.o m=some y∧eM y n
section
variable{E:aK}{l:List Oper}{o:Oper}{s s1:St}
theorem Jr (hk:aL E o=0) (h:xB E l o s=some s1):∃d v,Kq E l o false s d v []∧s1=(s.over []).put (some d) v:=by
 obtain⟨hv,d,hd⟩:jp E.τ o=true∧∃d,o.dst=some d:=by
  unfold aL at hk
  cases q:(jp E.τ o&&(match o.dst with|some _=>true|none=>false))with
  |false =>
   rw[q]at hk
   dsimp only[cond_false]at hk
   cases hn:dM o with
   |false=>rw[hn]at hk;cases hk
   |true =>
    rw[hn]at hk
    dsimp only[cond_true]at hk
    split at hk
    ·split at hk
     ·rename_i S _
      cases hs:gH (S.ens.flatMap En.names)<;>(rw[hs]at hk;cases hk)
     ·cases hk
    all_goals cases hk
  |true =>
   rw[Bool.and_eq_true]at q
   refine⟨q.1,?_⟩
   cases hd:o.dst with
   |none=>rw[hd]at q;exact absurd q.2 (by decide)
   |some d=>exact⟨d,rfl⟩
 rw[zk]at h
 cases hg:gd l o s with
 |none=>rw[hg]at h;cases h
 |some b =>
  rw[hg]at h
  cases b with
  |false =>
   have h:(bif dS E.N o.dst then some (s.put o.dst nB)else none)=some s1:=h
   cases hN:dS E.N o.dst with
   |false=>rw[hN]at h;cases h
   |true =>
    rw[hN,hd]at h
    refine⟨d,nB,⟨hd,fun s' h1 _ _=>?_,fun p hp=>(by cases hp),fun n hn=>?_⟩,(Option.some.inj h).symm⟩
    ·rw[zk,DX h1,hg]
     dsimp only
     rw[hN,hd];rfl
    ·rcases hn with hn|⟨p,hp,_⟩
     ·exact hn.elim
     ·cases hp
  |true =>
   have h:rf (R:=St) E o s some=some s1:=h
   rw[JX hv hd]at h
   cases hq:vv E.τ o.op s.ev s.o with
   |none=>rw[hq]at h;cases h
   |some r =>
    obtain⟨c,v⟩:=r
    rw[hq]at h
    dsimp only at h
    cases hN:Nat.blt d E.N with
    |false=>rw[hN]at h;cases h
    |true =>
     rw[hN]at h
     cases c with
     |false=>cases h
     |true =>
      refine⟨d,v,⟨hd,fun s' h1 h2 _=>?_,fun p hp=>(by cases hp),fun n hn=>?_⟩,(Option.some.inj h).symm⟩
      ·rw[zk,DX h1,hg]
       dsimp only
       rw[JX hv hd, ←Cj (vW h1),FX hv (ob:=s.o) (fun x hx n hn=>by
        obtain⟨t,ht,hm⟩:=tO (l:=l) hx hn
        exact h2 t ht n hm),hq]
       dsimp only
       rw[hN];rfl
      ·rcases hn with hn|⟨p,hp,_⟩
       ·rcases Ez hv hq hn with⟨x,hx,hm⟩|⟨x,hx,m,y,hm,g1,g2⟩
        ·exact .inr (.inl (tO hx hm))
        ·obtain⟨t,ht,hm⟩:=tO (l:=l) hx hm
         exact .inr (.inr ⟨t,ht,m,y,hm,g1,g2⟩)
       ·cases hp
theorem oR{R:Type}{S:aa}{vs:List AV}{d:Nat}{ob:Nm→Option Ob}(k:AV→List (Nm×Ob)→Option R):jZ S vs d ob k=(jZ S vs d ob (fun v ups=>some (v,ups))).bind fun p=>k p.1 p.2:=by
 unfold jZ
 simp only[tD,Option.bind_none]
 split
 ·simp only[tD,Option.bind_none]
  split
  ·split
   ·split
    ·simp only[tD,Option.bind_none,Option.bind_some]
    ·rfl
   ·rfl
  ·rfl
 ·rfl
theorem wO{n:Nm}{ts:List cp}(h:ts.all GM=true):gJ n ts = .no:=by
 induction ts with
 |nil=>rfl
 |cons t ts ih =>
  rw[List.all_cons,Bool.and_eq_true]at h
  cases t with
  |no=>exact ih h.2
  |ln m=>exact ih h.2
  |_=>cases h.1
theorem t3{ts:List cp}(h:ts.all GM=true):ts.flatMap cp.moved=[]∧ts.flatMap cp.pair=[]:=by
 induction ts with
 |nil=>exact⟨rfl,rfl⟩
 |cons t ts ih =>
  rw[List.all_cons,Bool.and_eq_true]at h
  obtain⟨g1,g2⟩:=ih h.2
  rw[List.flatMap_cons,List.flatMap_cons,g1,g2]
  cases t with
  |no=>exact⟨rfl,rfl⟩
  |ln m=>exact⟨rfl,rfl⟩
  |_=>cases h.1
theorem x5{d:Nat}{ob ob':Nm→Option Ob}{ts:List cp}{names:List Nm}(h:ts.all GM=true):∀(oe:List (Nm×Ob)),mU d ob ts names oe=mU d ob' ts names oe
 |[]=>rfl
 |(m,x)::r=>by
  unfold mU
  rw[x5 (ob:=ob) (ob':=ob') h r]
  have:v6 d ob ts names m x=v6 d ob' ts names m x:=by
   unfold v6
   rw[wO h]
  rw[this]
theorem Db{S:aa}{d:Nat}{ob ob':Nm→Option Ob}{ts:List cp}{te:List (Nat×AV)}{oe ups:List (Nm×Ob)}(h:ts.all GM=true):jY S d ob ts te oe ups=jY S d ob' ts te oe ups:=by
 unfold jY
 rw[(t3 h).2];rfl
theorem vJ{d:Nat}{ts:List cp}{names:List Nm}(h:ts.all GM=true){c:CV}{n:Nm}(hm:fq (qI d ts names c) n):cT d n=true:=by
 have one:∀{p q:Nm×Nat},wn d ts names p=some q→cT d q.1=true:=by
  intro p q e
  unfold wn at e
  rw[wO h]at e
  dsimp only at e
  cases k:oC p.1 names with
  |false=>rw[k]at e;cases e
  |true=>rw[k]at e;obtain rfl:=Option.some.inj e;exact Nat.beq_refl d
 cases c with
 |own m=>obtain rfl:d::m=n:=hm;exact Nat.beq_refl d
 |pb m k =>
  have hm:fq (match wn d ts names (m,k)with|some q=>CV.pb q.1 q.2|none => .dead) n:=hm
  cases e:wn d ts names (m,k)with
  |none=>rw[e]at hm;exact hm.elim
  |some q=>rw[e]at hm;obtain rfl:q.1=n:=hm;exact one e
 |clo f cs =>
  have hm:fq (match re d ts names cs with|some q=>CV.clo f q|none => .dead) n:=hm
  cases e:re d ts names cs with
  |none=>rw[e]at hm;exact hm.elim
  |some q =>
   rw[e]at hm
   have all:∀{cs:List (Nm×Nat)}{q:List (Nm×Nat)},re d ts names cs=some q→∀p∈q,cT d p.1=true:=by
    intro cs
    induction cs with
    |nil=>intro q e p hp;obtain rfl:=Option.some.inj e;cases hp
    |cons c cs ih =>
     intro q e p hp
     unfold re at e
     cases e1:wn d ts names c with
     |none=>rw[e1]at e;cases e
     |some a =>
      cases e2:re d ts names cs with
      |none=>rw[e1,e2]at e;cases e
      |some b =>
       rw[e1,e2]at e
       obtain rfl:=Option.some.inj e
       rcases List.mem_cons.1 hp with rfl|hp
       ·exact one e1
       ·exact ih e2 p hp
   obtain⟨p,hp,rfl⟩:=hm
   exact all e p hp
 |v t x=>exact hm.elim
 |er b=>exact hm.elim
 |_=>exact hm.elim
theorem Gc{d:Nat}{ts:List cp}{names:List Nm}(h:ts.all GM=true){v:AV}{n:Nm}(hm:bm (v.ren d ts names) n):cT d n=true:=by
 cases v with
 |c x=>exact vJ h hm
 |g cs =>
  obtain⟨c,hc,hm⟩:=hm
  obtain⟨x,_,rfl⟩:=List.mem_map.1 hc
  exact vJ h hm
 |tup ps =>
  obtain⟨p,hp,c,hc,hm⟩:=hm
  obtain⟨x,_,rfl⟩:=List.mem_map.1 hp
  obtain⟨y,_,rfl⟩:=List.mem_map.1 hc
  exact vJ h hm
theorem Dq{d:Nat}{ob:Nm→Option Ob}{ts:List cp}{names:List Nm}(h:ts.all GM=true):∀{oe ups:List (Nm×Ob)},mU d ob ts names oe=some ups→∀p∈ups,cT d p.1=true∧∀n,eM p.2 n→cT d n=true
 |[],ups,e,p,hp=>by obtain rfl:=Option.some.inj e;cases hp
 |(m,x)::r,ups,e,p,hp=>by
  unfold mU at e
  cases e1:v6 d ob ts names m x with
  |none=>rw[e1]at e;cases e
  |some a =>
   cases e2:mU d ob ts names r with
   |none=>rw[e1,e2]at e;cases e
   |some b =>
    rw[e1,e2]at e
    obtain rfl:=Option.some.inj e
    rcases List.mem_cons.1 hp with rfl|hp
    ·unfold v6 at e1
     rw[wO h]at e1
     dsimp only at e1
     cases x with
     |arr z t xs=>obtain rfl:=Option.some.inj e1;exact⟨Nat.beq_refl d,fun n q=>q.elim⟩
     |box cells =>
      obtain rfl:=Option.some.inj e1
      refine⟨Nat.beq_refl d,fun n q=>?_⟩
      obtain⟨c,hc,hm⟩:=q
      obtain⟨y,_,rfl⟩:=List.mem_map.1 hc
      exact vJ h hm
     |mp _ _ _ _=>cases e1
    ·exact Dq h e2 p hp
theorem EM{ob ob':Nm→Option Ob}{nm:Nm}{p:PS}{c:CV}(h:∀n,fq c n→ob' n=ob n):iM ob' nm p c=iM ob nm p c:=by
 cases c with
 |own m =>
  have e:=h m rfl
  have g:∀e0 t,w8 ob' e0 t m=w8 ob e0 t m:=fun e0 t=>by unfold w8;rw[e]
  cases p with
  |i t=>cases t with
   |sl u =>
    show(match w8 ob' none u m with|some xs=>some (DV.mk (.sl u) xs,cp.ln m)|none=>none)=_
    rw[g];rfl
   |_=>rfl
  |o e0 t =>
   show(match w8 ob' (some e0) t m with|some xs=>some (DV.mk (.sl t) xs,cp.mv nm m)|none=>none)=_
   rw[g];rfl
  |b e0 t =>
   show(match w8 ob' (some e0) t m with|some xs=>some (DV.mk (.sl t) xs,cp.bw nm m)|none=>none)=_
   rw[g];rfl
  |l =>
   show(match s9 ob' (.own m)with|some k=>some (DV.mk (.int .i64) (k:Int),cp.no)|none=>none)=_
   have:s9 ob' (.own m)=s9 ob (.own m):=by
    show(match ob' m with|some (.arr _ _ xs)=>some xs.length|_=>none)=(match ob m with|some (.arr _ _ xs)=>some xs.length|_=>none)
    rw[e]
   rw[this];rfl
  |_=>rfl
 |mp m =>
  have e:=h m rfl
  cases p with
  |m kt vt ka =>
   show(match Fo ob' kt vt ka m with|some xs=>some (DV.mk (.sl (.pr kt vt)) xs,cp.mm nm m)|none=>none)=_
   have:Fo ob' kt vt ka m=Fo ob kt vt ka m:=by unfold Fo;rw[e]
   rw[this];rfl
  |i t=>cases t<;>rfl
  |_=>rfl
 |v ty x=>cases p<;>first|rfl|(cases ty<;>rfl)|(rename_i t;cases t<;>rfl)
 |_=>cases p<;>first|rfl|(rename_i t;cases t<;>rfl)
theorem rK{ob ob':Nm→Option Ob}{nm:Nat→PS→Nm}:∀{k:Nat}{ps:List PS}{cs:List CV},(∀n,cB cs n→ob' n=ob n)→fj ob' nm k ps cs=fj ob nm k ps cs
 |_,[],[],_=>rfl
 |_,[],_::_,_=>rfl
 |_,_::_,[],_=>rfl
 |k,p::ps,c::cs,h=>by
  unfold fj
  rw[EM (fun n hn=>h n ⟨c,List.mem_cons_self ..,hn⟩),rK (fun n ⟨x,hx,hn⟩=>h n ⟨x,List.mem_cons_of_mem _ hx,hn⟩)]
theorem uH{ob ob':Nm→Option Ob}{e:En}{v:AV}(h:∀n,bm v n→ob' n=ob n) (hp:(∃i p,e = .val i p)∨∃i ps,e = .agg i ps):lY ob' e v=lY ob e v:=by
 rcases hp with⟨i,p,rfl⟩|⟨i,ps,rfl⟩
 ·cases v with
  |c x=>exact rK (fun n ⟨y,hy,hn⟩=>h n (by rw[List.mem_singleton.1 hy]at hn;exact hn))
  |_=>rfl
 ·cases v with
  |g cs=>exact rK h
  |_=>rfl
theorem yI{ob ob':Nm→Option Ob}:∀{ps:List B9}{k:Nat}{vs:List AV},ps.all Bm=true→(∀v∈vs, ∀n,bm v n→ob' n=ob n)→jn ob' (aB k ps) vs=jn ob (aB k ps) vs
 |[],_,[],_,_=>rfl
 |[],_,_::_,_,_=>rfl
 |p::ps,k,[],_,_=>by cases p<;>rfl
 |p::ps,k,v::vs,hb,h=>by
  rw[List.all_cons,Bool.and_eq_true]at hb
  have ih:=yI (k:=k+1) hb.2 (fun u hu=>h u (List.mem_cons_of_mem _ hu))
  have hv:=h v (List.mem_cons_self ..)
  cases p with
  |p ps=>cases hb.1
  |c q =>
   show(match lY ob' (.val k q) v,jn ob' (aB (k+1) ps) vs with|some (ds,ts),some (ds',ts')=>some (ds++ds',ts++ts')|_,_=>none)=_
   rw[ih,uH hv (.inl ⟨_,_,rfl⟩)];rfl
  |g q =>
   show(match lY ob' (.agg k q) v,jn ob' (aB (k+1) ps) vs with|some (ds,ts),some (ds',ts')=>some (ds++ds',ts++ts')|_,_=>none)=_
   rw[ih,uH hv (.inr ⟨_,_,rfl⟩)];rfl
  |h q =>
   show(match lY ob' (.agg k q) v,jn ob' (aB (k+1) ps) vs with|some (ds,ts),some (ds',ts')=>some (ds++ds',ts++ts')|_,_=>none)=_
   rw[ih,uH hv (.inr ⟨_,_,rfl⟩)];rfl
theorem mC{S:aa}{vs:List AV}{d:Nat}{ob:Nm→Option Ob}{v:AV}{ups:List (Nm×Ob)}:jZ S vs d ob (fun v ups=>some (v,ups))=some (v,ups) ↔
  (vs.length+S.gh.length=S.pars.length∧S.gh=[]∧S.pars.all Bm=true)∧∃ds ts x r,jn ob (aB 0 S.pars) vs=some (ds,ts)∧(kT S.pars.length (aB 0 S.pars)=true∧kq ts=true∧(bif S.shares then gH (ts.flatMap cp.lent)else true)=true∧ts.all GM=true) ∧
   sK (bD (aB 0 S.pars)) ds=some x∧S.g x=some r∧mU d (fun _=>none) ts (S.ens.flatMap En.names) (iA S.ens (aq _ r))=some ups∧jY S d (fun _=>none) ts (dH S.ens (aq _ r)) (iA S.ens (aq _ r)) ups=true ∧
   v=(uZ (dH S.ens (aq _ r)) S.pars.length S.res.length).ren d ts (S.ens.flatMap En.names):=by
 have nilG:∀{g:List (Nat×Nat×Option Nat)},wU g=true↔g=[]:=fun{g}=>by cases g<;>simp[wU]
 have nilP:∀{ts:List cp},ts.all GM=true→gH ((ts.flatMap cp.pair).map Prod.snd)=true:=fun{ts} h=>by rw[(t3 h).2];rfl
 unfold jZ
 constructor
 ·intro h
  cases hc:(Nat.beq (vs.length+S.gh.length) S.pars.length&&(wU S.gh&&S.pars.all Bm))with
  |false=>rw[hc]at h;cases h
  |true =>
   rw[hc]at h
   rw[Bool.and_eq_true,Bool.and_eq_true]at hc
   refine⟨⟨Nat.eq_of_beq_eq_true hc.1,nilG.1 hc.2.1,hc.2.2⟩,?_⟩
   dsimp only[cond_true]at h
   split at h
   ·rename_i ds ts e1
    cases hk:(kT S.pars.length (aB 0 S.pars)&&(kq ts&&((bif S.shares then gH (ts.flatMap cp.lent)else true)&&(gH ((ts.flatMap cp.pair).map Prod.snd)&&ts.all GM))))with
    |false=>rw[hk]at h;cases h
    |true =>
     rw[hk]at h
     dsimp only[cond_true]at h
     rw[Bool.and_eq_true,Bool.and_eq_true,Bool.and_eq_true,Bool.and_eq_true]at hk
     split at h
     ·rename_i x e2
      split at h
      ·rename_i r e3
       split at h
       ·rename_i u e4
        cases ho:jY S d (fun _=>none) ts (dH S.ens (aq _ r)) (iA S.ens (aq _ r)) u with
        |false=>rw[ho]at h;cases h
        |true =>
         rw[ho]at h
         obtain⟨g1,g2⟩:=Prod.mk.inj (Option.some.inj h)
         subst g2
         exact⟨ds,ts,x,r,e1,⟨hk.1,hk.2.1,hk.2.2.1,hk.2.2.2.2⟩,e2,e3,e4,ho,g1.symm⟩
       ·cases h
      ·cases h
     ·cases h
   ·cases h
 ·rintro ⟨⟨h1,h2,h3⟩,ds,ts,x,r,e1,⟨k1,k2,k3,k4⟩,e2,e3,e4,e5,rfl⟩
  rw[show Nat.beq (vs.length+S.gh.length) S.pars.length=true from by rw[h1];exact Nat.beq_refl _,nilG.2 h2,h3]
  simp only[Bool.true_and,cond_true,e1,k1,k2,k3,nilP k4,k4,e2,e3,e4,e5]
theorem Dc{S:aa}{vs:List AV}{d:Nat}{ob ob':Nm→Option Ob}(h:∀v∈vs, ∀n,bm v n→ob' n=ob n){v:AV}{ups:List (Nm×Ob)}(he:jZ S vs d ob (fun v ups=>some (v,ups))=some (v,ups)):jZ S vs d ob' (fun v ups=>some (v,ups))=some (v,ups):=by
 obtain⟨g1,ds,ts,x,r,e1,e2⟩:=mC.1 he
 exact mC.2 ⟨g1,ds,ts,x,r,(yI g1.2.2 h).trans e1,e2⟩
theorem B5{S:aa}{vs:List AV}{d:Nat}{ob:Nm→Option Ob}{v:AV}{ups:List (Nm×Ob)}(he:jZ S vs d ob (fun v ups=>some (v,ups))=some (v,ups)):(∀n,bm v n→cT d n=true)∧∀p∈ups,cT d p.1=true∧∀n,eM p.2 n→cT d n=true:=by
 obtain⟨_,ds,ts,x,r,_,⟨_,_,_,k4⟩,_,_,e4,_,rfl⟩:=mC.1 he
 exact⟨fun n hn=>Gc k4 hn,Dq k4 e4⟩
theorem St.ext'{s s':St}(h1:∀i,s.t i=s'.t i) (h2:∀n,s.o n=s'.o n):s=s':=by
 cases s;cases s'
 congr 1
 ·funext i;exact h1 i
 ·funext n;exact h2 n
theorem fA (s:St) (d i:Nat) (v:AV):(s.put (some d) v).t i=if i=d then v else s.t i:=by
 show(bif Nat.beq i d then v else s.t i)=_
 by_cases h:i=d
 ·rw[if_pos h,h,Nat.beq_refl];rfl
 ·rw[if_neg h,dJ h];rfl
theorem fM.drops0{d:Nat}{s:St}{ns:List Nm}(h:ns≠[]→fM d s) (hn:∀n∈ns,cT d n=true):(∀t,t≠d→(s.drops ns).t t=s.t t)∧(s.drops ns).o=s.o:=by
 cases ns with
 |nil=>exact⟨fun _ _=>rfl,rfl⟩
 |cons n ns=>exact(h (fun q=>by cases q)).drops _ hn
theorem Dd{S:aa}{vs:List AV}{d:Nat}{ob:Nm→Option Ob}{v:AV}{ups:List (Nm×Ob)}(hn:S.ens.flatMap En.names=[]) (he:jZ S vs d ob (fun v ups=>some (v,ups))=some (v,ups)):ups=[]:=by
 obtain⟨_,ds,ts,x,r,_,_,_,_,e4,_,rfl⟩:=mC.1 he
 have:iA S.ens (aq (bD (dA S.pars S.res S.nb)) r)=[]:=by
  rcases hmb:iA S.ens (aq (bD (dA S.pars S.res S.nb)) r)with _|⟨z,l⟩
  ·rfl
  ·have:=oA (q:=z) (by rw[hmb];exact List.mem_cons_self ..)
   rw[hn]at this;cases this
 rw[this]at e4
 exact(Option.some.inj e4).symm
theorem Ic{S:aa}{f:Nat}{xs:List Operand}{d:Nat}{v:AV}{ups:List (Nm×Ob)}(hf:S.ens.flatMap En.names≠[]→fM d s) (he:jZ S (xs.map s.ev) d s.o (fun v ups=>some (v,ups))=some (v,ups)):nj (R:=St) S f .fn xs d s some=some ((s.over ups).put (some d) v):=by
 obtain⟨⟨h1,h2,h3⟩,ds,ts,x,r,e1,⟨k1,k2,k3,k4⟩,e2,e3,e4,e5,rfl⟩:=mC.1 he
 have hm:=(t3 k4).1
 have gh:oI s.o (xs.map s.ev) S.gh=xs.map s.ev:=by rw[h2];rfl
 have fz:(bif S.shares then s.frzs (ts.flatMap cp.lent)else s)=s:=by
  cases q:S.shares with
  |false=>rfl
  |true =>
   rw[q]at k3
   have k3:gH (ts.flatMap cp.lent)=true:=k3
   cases q2:ts.flatMap cp.lent with
   |nil=>rfl
   |cons a b=>rw[q2]at k3;cases k3
 obtain⟨d1,d2⟩:=fM.drops0 (ns:=(S.ens.flatMap En.names).map (fun m=>d::m)) (fun q=>hf (fun e=>q (by rw[e];rfl))) (fun n hn=>by
  obtain⟨m,_,rfl⟩:=List.mem_map.1 hn
  exact Nat.beq_refl d)
 unfold nj
 rw[show s.argsOf f .fn xs=some (xs.map s.ev)from rfl]
 dsimp only
 rw[gh,e1]
 dsimp only
 rw[fz]
 unfold nJ
 rw[show s.argsOf f .fn xs=some (xs.map s.ev)from rfl]
 dsimp only
 rw[show Nat.beq ((xs.map s.ev).length+S.gh.length) S.pars.length=true from by rw[h1];exact Nat.beq_refl _]
 simp only[cond_true,gh,e1,k1,k2,k3,Bool.true_and,e2,e3,hm,List.nil_append,x5 (ob:=(s.drops ((S.ens.flatMap En.names).map (fun m=>d::m))).o) (ob':=fun _=>none) k4,e4,Db (ob:=(s.drops ((S.ens.flatMap En.names).map (fun m=>d::m))).o) (ob':=fun _=>none) k4,e5]
 refine congrArg some (St.ext' (fun i=>?_) fun n=>?_)
 ·rw[fA,fA]
  by_cases q:i=d
  ·rw[if_pos q,if_pos q]
  ·rw[if_neg q,if_neg q]
   exact d1 i q
 ·show(match bf ups n with|some ob=>some ob|none=>_)=(match bf ups n with|some ob=>some ob|none=>_)
  rw[d2]
end
def stm (fr:Bool) (E:aK) (l:List Oper) (o:Oper) (s:St):Option St:=nQ fr E l [o] s some
def xH (fr:Bool) (E:aK) (l:List Oper):List Oper→St→Option St
 |[],s=>some s
 |o::r,s=>(stm fr E l o s).bind (xH fr E l r)
section
variable{fr:Bool}{E:aK}{l:List Oper}{o:Oper}{s s1:St}
theorem Bx{R:Type}(k:St→Option R):zT E o s k=(zT E o s some).bind k:=by
 unfold zT
 cases o.dst with
 |none=>rfl
 |some d =>
  dsimp only
  cases Nat.blt d E.N with
  |false=>rfl
  |true =>
   dsimp only[cond_true]
   split
   ·cases E.Γ _ d with
    |none=>rfl
    |some S =>
     dsimp only
     rw[oR,oR (k:=fun v ups=>some ((s.over ups).put (some d) v))]
     rename_i args _ _
     cases jZ S (List.map s.ev args.toList) d s.o (fun v ups=>some (v,ups))<;>rfl
   ·split
    ·rename_i c ob v e;cases c<;>rfl
    ·rfl
theorem Bg{R:Type}(k:St→Option R):Bh fr E o s k=(Bh fr E o s some).bind k:=by
 unfold Bh
 split
 ·cases fr
  ·exact vN k
  ·exact Bx k
 ·exact Bx k
 ·exact vN k
theorem tR{R:Type}:∀{r:List Oper}{s:St}(k:St→Option R),nQ fr E l r s k=(xH fr E l r s).bind k
 |[],s,k=>rfl
 |o::r,s,k=>by
  show nQ fr E l (o::r) s k=((stm fr E l o s).bind (xH fr E l r)).bind k
  unfold stm
  unfold nQ
  cases hg:o.guard with
  |none =>
   dsimp only
   rw[Bg,Bg (k:=fun s'=>nQ fr E l [] s' some)]
   cases Bh fr E o s some with
   |none=>rfl
   |some s1=>exact tR k
  |some g =>
   dsimp only
   rw[sM,sM (k:=fun s'=>nQ fr E l [] s' some)]
   cases cY E l [o] s some with
   |none=>rfl
   |some s1=>exact tR k
theorem sy (h:(aL E o=1→fr=false)∧aL E o≠4):stm fr E l o s=xB E l o s:=by
 unfold stm xB nQ
 cases hg:o.guard with
 |none =>
  dsimp only
  have e:Bh fr E o s (fun s'=>nQ fr E l [] s' some)=rf E o s (fun s'=>some s'):=by
   unfold Bh
   split
   ·rename_i q
    rw[h.1 q];rfl
   ·rename_i q;exact absurd q h.2
   ·rfl
  rw[e]
  show rf E o s (fun s'=>some s')=cY E l [o] s some
  unfold cY
  rw[hg];rfl
 |some g=>rfl
theorem mB (h:aL E o≠0) (h2:aL E o≠3):o.guard=none:=by
 unfold aL at h h2
 cases q:(jp E.τ o&&(match o.dst with|some _=>true|none=>false))with
 |true=>rw[q]at h;exact absurd rfl h
 |false =>
  rw[q]at h2
  dsimp only[cond_false]at h2
  cases hg:o.guard with
  |none=>rfl
  |some g =>
   have:dM o=false:=by unfold dM;rw[hg]
   rw[this]at h2
   exact absurd rfl h2
theorem zj (h:(aL E o=1∧fr=true)∨aL E o=4):stm fr E l o s=zT E o s some:=by
 have hg:o.guard=none:=mB (E:=E) (o:=o) (by rcases h with h|h<;>omega) (by rcases h with h|h<;>omega)
 unfold stm nQ
 rw[hg]
 dsimp only
 unfold Bh
 rcases h with⟨h,rfl⟩|h
 ·rw[h];rfl
 ·rw[h];rfl
theorem sA (hg:o.guard=none):xB E l o s=rf E o s some:=by
 rw[zk]
 unfold gd BL
 rw[hg]
structure FS (fr:Bool) (E:aK) (l:List Oper) (o:Oper) (q:Bool) (s:St) (d:Nat) (v:AV) (ups:List (Nm×Ob)):Prop where
 m:Kq E l o q s d v ups
 stm:∀s':St,(∀t∈mN l o,s'.t t=s.t t)→(∀t∈mN l o, ∀n,bm (s.t t) n→s'.o n=s.o n)→(q=true→fM d s')→stm fr E l o s'=some ((s'.over ups).put (some d) v)
theorem NF (hk:aL E o=0) (h:stm fr E l o s=some s1):∃d v,FS fr E l o false s d v []∧s1=(s.over []).put (some d) v:=by
 have e:∀s,stm fr E l o s=xB E l o s:=fun s=>sy ⟨fun q=>(by rw[hk]at q;cases q),by rw[hk];decide⟩
 rw[e]at h
 obtain⟨d,v,h1,h2⟩:=Jr hk h
 exact⟨d,v,⟨h1,fun s' a b c=>(e s').trans (h1.step s' a b c)⟩,h2⟩
theorem Kg (hk:(aL E o=1∧fr=true)∨aL E o=4){d:Nat}(hd:o.dst=some d) (h:stm fr E l o s=some s1):∃v ups q,FS fr E l o q s d v ups∧(aL E o=4→q=false∧ups=[])∧s1=(s.over ups).put (some d) v∧(∀t,o.op = .alloc t→∃zc,v = .c (.pb [d,0] 0)∧ups=[([d,0], .box zc)]∧∀n,¬cB zc n)∧(BD o.op=true→∃el ty xs,v = .c (.own [d,0])∧ups=[([d,0], .arr el ty xs)]):=by
 have hg:o.guard=none:=mB (E:=E) (o:=o) (by rcases hk with h|h<;>omega) (by rcases hk with h|h<;>omega)
 rw[zj hk]at h
 unfold zT at h
 rw[hd]at h
 dsimp only at h
 cases hN:Nat.blt d E.N with
 |false=>rw[hN]at h;cases h
 |true =>
  rw[hN]at h
  dsimp only[cond_true]at h
  split at h
  ·rename_i f args ts hop
   cases hS:E.Γ f d with
   |none=>rw[hS]at h;cases h
   |some S =>
    rw[hS]at h
    dsimp only at h
    rw[oR]at h
    cases hc:jZ S (args.toList.map s.ev) d s.o (fun v ups=>some (v,ups))with
    |none=>rw[hc]at h;cases h
    |some r =>
     obtain⟨v,ups⟩:=r
     rw[hc]at h
     obtain rfl:=(Option.some.inj h).symm
     have ops:∀x∈args.toList,x∈o.op.operands:=fun x hx=>by
      rw[hop];simp[Op.operands,Call.operands];exact .inr (by simpa using hx)
     have key:∀s':St,(∀t∈mN l o,s'.t t=s.t t)→(∀t∈mN l o, ∀n,bm (s.t t) n→s'.o n=s.o n)→jZ S (args.toList.map s'.ev) d s'.o (fun v ups=>some (v,ups))=some (v,ups):=by
      intro s' h1 h2
      have e1:args.toList.map s'.ev=args.toList.map s.ev:=List.map_congr_left fun x hx=>(vW h1 x (ops x hx)).symm
      rw[e1]
      refine Dc (ob:=s.o) (fun u hu n hn=>?_) hc
      obtain⟨x,hx,rfl⟩:=List.mem_map.1 hu
      obtain⟨t,ht,hm⟩:=tO (l:=l) (ops x hx) hn
      exact h2 t ht n hm
     have mt:=B5 hc
     have knd:gH (S.ens.flatMap En.names)=true∧aL E o=4∨gH (S.ens.flatMap En.names)=false∧aL E o≠4:=by
      have e:aL E o=bif gH (S.ens.flatMap En.names)then 4 else 1:=by
       have hv:jp E.τ o=false:=by unfold jp;rw[hop]
       have hn:dM o=true:=by unfold dM;rw[hg]
       unfold aL
       rw[hv,hn,hop,hd]
       dsimp only[Bool.false_and,cond_false,cond_true]
       rw[hS];rfl
      cases q:gH (S.ens.flatMap En.names)with
      |true=>rw[q]at e;exact .inl ⟨rfl,e⟩
      |false=>rw[q]at e;exact .inr ⟨rfl,by rw[e];decide⟩
     have nilN:gH (S.ens.flatMap En.names)=true→S.ens.flatMap En.names=[]:=fun q=>by
      cases w:S.ens.flatMap En.names with
      |nil=>rfl
      |cons a b=>rw[w]at q;cases q
     refine⟨v,ups, !gH (S.ens.flatMap En.names),⟨⟨hd,fun s' h1 h2 h3=>?_,fun p hp=>(mt.2 p hp).1,fun n hn => .inl ?_⟩,fun s' h1 h2 h3=>?_⟩,fun h4=>?_,rfl,fun t ht=>?_,fun hb=>(by rw[hop]at hb;cases hb)⟩
     ·rw[sA hg]
      have:=Ic (s:=s') (fun w=>h3 (by
       cases q:gH (S.ens.flatMap En.names)with
       |true=>exact absurd (nilN q) w
       |false=>rfl)) (f:=f) (xs:=args.toList) (key s' h1 h2)
      unfold rf
      rw[hop,hd]
      dsimp only
      rw[hS]
      dsimp only
      rw[hN]
      exact this
     ·rcases hn with hn|⟨p,hp,hn⟩
      ·exact mt.1 n hn
      ·exact(mt.2 p hp).2 n hn
     ·rw[zj hk]
      unfold zT
      rw[hd,hop]
      dsimp only
      rw[hN,hS]
      dsimp only[cond_true]
      rw[oR,key s' h1 h2];rfl
     ·rcases knd with⟨q,_⟩|⟨_,q⟩
      ·exact⟨by rw[q];rfl,Dd (nilN q) hc⟩
      ·exact absurd h4 q
     ·rw[hop]at ht;cases ht
  ·rename_i hno
   have hal:(∃t,o.op = .alloc t)∨∃t n,o.op = .buildSlice t n ⟨[]⟩:=by
    have hk0:aL E o≠0∧aL E o≠2∧aL E o≠3∧aL E o≠6:=by rcases hk with h|h<;>omega
    unfold aL at hk0
    cases q:(jp E.τ o&&(match o.dst with|some _=>true|none=>false))with
    |true=>rw[q]at hk0;exact absurd rfl hk0.1
    |false =>
     rw[q]at hk0
     dsimp only[cond_false]at hk0
     have hn:dM o=true:=by unfold dM;rw[hg]
     rw[hn]at hk0
     dsimp only[cond_true]at hk0
     split at hk0
     ·rename_i f args ts e hq _;exact absurd hq (hno _ _ _)
     ·rename_i t e hq _;exact .inl ⟨t,hq⟩
     ·rename_i t n e hq _;exact .inr ⟨t,n,hq⟩
     ·exact absurd rfl hk0.2.1
     ·exact absurd rfl hk0.2.2.2
     ·exact absurd rfl hk0.2.2.1
   have hn:dM o=true:=by unfold dM;rw[hg]
   have hvv:jp E.τ o=false:=by unfold jp;rcases hal with⟨t,hop⟩|⟨t,n,hop⟩<;>rw[hop]
   have k4:aL E o≠4:=by
    unfold aL
    rw[hvv,hn,hd]
    rcases hal with⟨t,hop⟩|⟨t,n,hop⟩<;>rw[hop]<;>(show(1:Nat)≠4;decide)
   have hvo:∀s':St,gc E.τ o.op s'.ev s'.o=none:=fun s'=>by rcases hal with⟨t,hop⟩|⟨t,n,hop⟩<;>rw[hop]<;>rfl
   have hmo:∀e e':Operand→AV,rg E.τ o.op e [d,0]=rg E.τ o.op e' [d,0]:=fun e e'=>by rcases hal with⟨t,hop⟩|⟨t,n,hop⟩<;>rw[hop]<;>rfl
   have hK:∀ s':St,rf (R := St) E o s' some = (match gc E.τ o.op s'.ev s'.o with
        |some (c,v)=>bif dS E.N (some d)then(match c with|true=>some (s'.put (some d) v)|false=>none)else none
        |none=>bif Nat.blt d E.N then(match rg E.τ o.op (s'.drop [d,0]).ev [d,0]with
         |some (c,ob,v)=>(match c with|true=>some (((s'.drop [d,0]).setO [d,0] ob).put (some d) v)|false=>none)
         |none=>match mT E.τ o.op (some d) s' with
          |some (c,s'')=>(match c with|true=>some s''|false=>none)
          |none=>uP E.τ o.op d s' some)else none):=fun s'=>by
    unfold rf
    rw[hd]
    rcases hal with⟨t,hop⟩|⟨t,n,hop⟩<;>rw[hop]<;>rfl
   have hM:∀c ob v,rg E.τ o.op s.ev [d,0]=some (c,ob,v)→(ng o.op=true∧v = .c (.pb [d,0] 0)∧∃zc,ob = .box zc∧∀n,¬cB zc n)∨(BD o.op=true∧v = .c (.own [d,0])∧∃el ty xs,ob = .arr el ty xs):=fun c ob v hm=>by
    rcases hal with⟨t,hop⟩|⟨t,n,hop⟩
    ·left
     rw[hop]at hm ⊢
     have hm:(match E.τ.get t with
      |some ti=>match ti.z0 with
       |some zc=>some (true,Ob.box zc,AV.c (.pb [d,0] 0))
       |none=>none
      |none=>none)=some (c,ob,v):=hm
     cases ht:E.τ.get t with
     |none=>rw[ht]at hm;cases hm
     |some ti =>
      cases hz:ti.z0 with
      |none=>rw[ht]at hm;dsimp only at hm;rw[hz]at hm;cases hm
      |some zc =>
       rw[ht]at hm
       dsimp only at hm
       rw[hz]at hm
       obtain⟨_,h2⟩:=Prod.mk.inj (Option.some.inj hm)
       obtain⟨h2,h3⟩:=Prod.mk.inj h2
       exact⟨rfl,h3.symm,zc,h2.symm,fun n=>zd hz n⟩
    ·right
     rw[hop]at hm ⊢
     refine⟨rfl,?_⟩
     have hm:(match E.τ.get t with
      |some ti=>bif Nat.beq ti.kind 3 then(match E.τ.get ti.el with
       |some te=>match te.ty with
        |some ty=>bif Nat.ble (n*te.size) 65536 then(match rows ty (List.replicate n ty.zero) []with
         |some xs=>some (true,Ob.arr ti.el ty xs,AV.c (.own [d,0]))
         |none=>none)else none
        |none=>none
       |none=>none)else none
      |none=>none)=some (c,ob,v):=hm
     split at hm
     ·rename_i ti _
      cases q1:Nat.beq ti.kind 3 with
      |false=>rw[q1]at hm;cases hm
      |true =>
       rw[q1,cond_true]at hm
       split at hm
       ·rename_i te _
        split at hm
        ·rename_i ty _
         cases q2:Nat.ble (n*te.size) 65536 with
         |false=>rw[q2]at hm;cases hm
         |true =>
          rw[q2,cond_true]at hm
          split at hm
          ·rename_i xs _
           obtain⟨_,h2⟩:=Prod.mk.inj (Option.some.inj hm)
           obtain⟨h2,h3⟩:=Prod.mk.inj h2
           exact⟨h3.symm,_,_,_,h2.symm⟩
          ·cases hm
        ·cases hm
       ·cases hm
     ·cases hm
   cases hmm:rg E.τ o.op s.ev [d,0]with
   |none=>rw[hmm]at h;cases h
   |some r =>
    obtain⟨c,ob,v⟩:=r
    rw[hmm]at h
    dsimp only at h
    cases c with
    |false=>cases h
    |true =>
     obtain rfl:=(Option.some.inj h).symm
     have hM:=hM _ _ _ hmm
     have vm:∀n,bm v n→n=[d,0]:=fun n hn=>by
      rcases hM with⟨_,rfl,_⟩|⟨_,rfl,_⟩
      ·exact(show [d,0]=n from hn).symm
      ·exact(show [d,0]=n from hn).symm
     have om:∀n,¬eM ob n:=fun n hn=>by
      rcases hM with⟨_,_,zc,rfl,zm⟩|⟨_,_,el,ty,xs,rfl⟩
      ·exact zm n hn
      ·exact hn
     refine⟨_,_,true,⟨⟨hd,fun s' h1 h2 h3=>?_,fun p hp=>?_,fun n hn=>?_⟩,fun s' h1 h2 h3=>?_⟩,fun h4=>absurd h4 k4,rfl,fun t ht=>?_,fun hb=>?_⟩
     ·rw[sA hg]
      have hf':=h3 rfl
      obtain⟨d1,d2⟩:=hf'.drops [[d,0]] (fun n hn=>by rw[List.mem_singleton.1 hn];exact Nat.beq_refl d)
      have e1:rf (R:=St) E o s' some=some (((s'.drop [d,0]).setO [d,0] ob).put (some d) v):=by
       rw[hK,hvo]
       dsimp only
       rw[hN,hmo _ s.ev,hmm]
       rfl
      rw[e1]
      refine congrArg some (St.ext' (fun i=>?_) fun n=>?_)
      ·rw[fA,fA]
       by_cases q:i=d
       ·rw[if_pos q,if_pos q]
       ·rw[if_neg q,if_neg q];exact d1 i q
      ·show(bif Nm.eqb n [d,0]then some ob else(s'.drop [d,0]).o n)=(match(bif Nm.eqb [d,0] n then some ob else none)with|some ob=>some ob|none=>s'.o n)
       rw[show(s'.drop [d,0]).o n=s'.o n from congrFun d2 n]
       cases q:Nm.eqb n [d,0]with
       |true=>rw[cf.1 q];simp[Nm.eqb]
       |false =>
        rw[show Nm.eqb [d,0] n=false from bc.2 (fun e=>(bc.1 q) e.symm)];rfl
     ·rw[List.mem_singleton.1 hp];exact Nat.beq_refl d
     ·rcases hn with hn|⟨p,hp,hn⟩
      ·rw[vm n hn]
       exact .inl (Nat.beq_refl d)
      ·rw[List.mem_singleton.1 hp]at hn
       exact absurd hn (om n)
     ·rw[zj hk]
      unfold zT
      rw[hd]
      dsimp only
      rw[hN,cond_true]
      have:(match rg E.τ o.op s'.ev [d,0]with
       |some (c,ob,v)=>(match c with|true=>some ((s'.over [([d,0],ob)]).put (some d) v)|false=>none)
       |none=>(none:Option St))=some ((s'.over [([d,0],ob)]).put (some d) v):=by
       rw[hmo _ s.ev,hmm]
      rw[←this]
      rcases hal with⟨t,hop⟩|⟨t,n,hop⟩<;>rw[hop]
     ·rcases hM with⟨_,rfl,zc,rfl,zm⟩|⟨hb,_⟩
      ·exact⟨zc,rfl,rfl,zm⟩
      ·rw[ht]at hb;cases hb
     ·rcases hM with⟨ha,_⟩|⟨_,rfl,el,ty,xs,rfl⟩
      ·exfalso
       rcases hal with⟨t,hop⟩|⟨t,n,hop⟩
       ·rw[hop]at hb;cases hb
       ·rw[hop]at ha;cases ha
      ·exact⟨el,ty,xs,rfl,rfl⟩
end
def dL (o:Oper):Option Nat:=match o.dst,o.op with
 |none, .store _ (.tmp a) _=>some a
 |_,_=>none
section
variable{fr:Bool}{E:aK}{l:List Oper}{o:Oper}{s s1:St}
theorem F2{cs new:List CV}{off:Nat}{n:Nm}(h:cB (zo cs off new) n):cB cs n∨cB new n:=by
 obtain⟨c,hc,hm⟩:=h
 unfold zo at hc
 rcases List.mem_append.1 hc with hc|hc
 ·rcases List.mem_append.1 hc with hc|hc
  ·exact .inl ⟨c,List.mem_of_mem_take hc,hm⟩
  ·exact .inr ⟨c,hc,hm⟩
 ·exact .inl ⟨c,List.mem_of_mem_drop hc,hm⟩
theorem VI{d:Nat}(hs:dL o=some d) (hg:o.guard=none) (hk:aL E o=2) (hi:s.t d = .c (.pb [d,0] 0)) (h:stm fr E l o s=some s1) :
  ∃ob0 ob,s.o [d,0]=some ob0∧s1=s.setO [d,0] ob∧xB E l o s=some s1∧(∀s':St,(∀t∈mN l o,s'.t t=s.t t)→s'.o [d,0]=s.o [d,0]→stm fr E l o s'=some (s'.setO [d,0] ob))∧∀n,eM ob n→eM ob0 n∨∃t∈mN l o,bm (s.t t) n:=by
 have hss:∀s,stm fr E l o s=xB E l o s:=fun s=>sy ⟨fun q=>(by rw[hk]at q;cases q),by rw[hk];decide⟩
 obtain⟨T,x,hd,hop⟩:∃T x,o.dst=none∧o.op = .store T (.tmp d) x:=by
  unfold dL at hs
  split at hs
  ·rename_i T a x h1 h2
   obtain rfl:=Option.some.inj hs
   exact⟨T,x,h1,h2⟩
  ·cases hs
 have form:∀s2:St,s2.t d = .c (.pb [d,0] 0)→xB E l o s2=(match E.τ.get T,iY (s2.ev x)with
   |some ti,some new=>bif (Nat.beq new.length ti.size&&new.all CV.fine)then(match s2.o [d,0]with
    |some (.box cs)=>bif Nat.ble (0+new.length) cs.length then some (s2.setO [d,0] (.box (zo cs 0 new)))else none
    |_=>none)else none
   |_,_=>none):=by
  intro s2 h2
  rw[sA hg]
  unfold rf
  rw[hop,hd]
  show(match gc E.τ (.store T (.tmp d) x) s2.ev s2.o with
   |some (c,v)=>bif dS E.N none then(match c with|true=>some (s2.put none v)|false=>none)else none
   |none=>match mT E.τ (.store T (.tmp d) x) none s2 with
    |some (c,s')=>(match c with|true=>some s'|false=>none)
    |none=>none)=_
  have hv:gc E.τ (.store T (.tmp d) x) s2.ev s2.o=none:=rfl
  rw[hv]
  dsimp only
  have hw:mT E.τ (.store T (.tmp d) x) none s2=(match E.τ.get T,s2.ev (.tmp d),iY (s2.ev x)with
   |some ti, .c p,some new=>bif (Nat.beq new.length ti.size&&new.all CV.fine)then(match sx s2.o new p with
    |some (nm,ob)=>some (true,(s2.setO nm ob).put none (.c .dead))
    |none=>none)else none
   |_,_,_=>none):=rfl
  rw[hw,show s2.ev (.tmp d) = .c (.pb [d,0] 0)from h2]
  cases E.τ.get T with
  |none=>rfl
  |some ti =>
   cases iY (s2.ev x)with
   |none=>rfl
   |some new =>
    dsimp only
    cases(Nat.beq new.length ti.size&&new.all CV.fine)with
    |false=>rfl
    |true =>
     dsimp only[cond_true]
     unfold sx
     dsimp only
     cases s2.o [d,0]with
     |none=>rfl
     |some ob =>
      cases ob with
      |box cs =>
       dsimp only
       cases Nat.ble (0+new.length) cs.length<;>rfl
      |_=>rfl
 have hx:x∈o.op.operands:=by rw[hop];simp[Op.operands]
 have hdr:d∈mN l o:=List.mem_append_left _ (List.mem_flatMap.2 ⟨.tmp d,by rw[hop];simp[Op.operands],List.mem_singleton.2 rfl⟩)
 rw[hss]at h
 have hsg:=h
 rw[form s hi]at h
 cases hT:E.τ.get T with
 |none=>rw[hT]at h;cases h
 |some ti =>
  cases hc:iY (s.ev x)with
  |none=>rw[hT,hc]at h;cases h
  |some new =>
   rw[hT,hc]at h
   dsimp only at h
   cases hf:(Nat.beq new.length ti.size&&new.all CV.fine)with
   |false=>rw[hf]at h;cases h
   |true =>
    rw[hf]at h
    dsimp only[cond_true]at h
    cases ho:s.o [d,0]with
    |none=>rw[ho]at h;cases h
    |some ob =>
     rw[ho]at h
     cases ob with
     |box cs =>
      dsimp only at h
      cases hl:Nat.ble (0+new.length) cs.length with
      |false=>rw[hl]at h;cases h
      |true =>
       rw[hl]at h
       refine⟨_, .box (zo cs 0 new),rfl,(Option.some.inj h).symm,hsg,fun s' h1 h2=>?_,fun n hn=>?_⟩
       ·rw[hss,form s' ((h1 d hdr).trans hi),hT, ←vW h1 x hx,hc]
        dsimp only
        rw[hf,h2]
        dsimp only[cond_true]
        rw[hl];rfl
       ·rcases F2 hn with hn|hn
        ·exact .inl hn
        ·exact .inr (tO hx (oS hc hn))
     |_=>cases h
end
def nM (t:Nat) (s:St):Prop:=s.t t = .c (.own [t,0])∧(∀i,i≠t→¬bm (s.t i) [t,0])∧∀m ob,s.o m=some ob→¬eM ob [t,0]
def D2 (t k d:Nat) (ob:Ob) (s:St):St:=⟨fun i=>if i=d then .c (.own [d,0])else if i=t then .c (.hd k)else s.t i,fun m=>if m=[d,0]then some ob else if m=[t,0]then none else s.o m⟩
theorem CV.past_id{n:Nm}{k:Nat}{c:CV}(h:¬fq c n):c.past n k=c:=by
 cases c with
 |own m =>
  show(bif Nm.eqb m n then CV.hd k else CV.own m)=_
  rw[bc.2 (fun q=>h (show m=n from q))];rfl
 |_=>exact CV.drop_id h
theorem Mp.past_id{n:Nm}{k:Nat}{cs:List CV}(h:¬cB cs n):cs.map (CV.past n k)=cs:=by
 have e:cs.map (CV.past n k)=cs.map (fun c=>c):=List.map_congr_left fun c hc=>CV.past_id (fun q=>h ⟨c,hc,q⟩)
 rw[e,List.map_id']
theorem AV.past_id{n:Nm}{k:Nat}{v:AV}(h:¬bm v n):v.past n k=v:=by
 cases v with
 |c x=>exact congrArg AV.c (CV.past_id h)
 |g cs=>exact congrArg AV.g (Mp.past_id h)
 |tup l =>
  refine congrArg AV.tup ?_
  have e:l.map (fun p=>(p.1,p.2.map (CV.past n k)))=l.map (fun p=>p):=List.map_congr_left fun p hp=>Prod.ext rfl (Mp.past_id (fun q=>h ⟨p,hp,q⟩))
  rw[e,List.map_id']
theorem Ob.past_id{n:Nm}{k:Nat}{x:Ob}(h:¬eM x n):x.past n k=x:=by
 cases x with
 |box cs=>exact congrArg Ob.box (Mp.past_id h)
 |arr=>rfl
 |mp=>rfl
theorem Lt{t k d:Nat}{s:St}{ob:Ob}(hc:nM t s) (hf:fM d s) (hne:d≠t):(((s.past [t,0] k).drop [d,0]).setO [d,0] ob).put (some d) (.c (.own [d,0]))=D2 t k d ob s:=by
 have hdt:([d,0]:Nm)≠[t,0]:=fun q=>hne (by injection q)
 refine St.ext' (fun i=>?_) fun m=>?_
 ·rw[fA]
  show(if i=d then _ else((s.t i).past [t,0] k).drop [d,0])=(if i=d then _ else if i=t then _ else _)
  by_cases q:i=d
  ·rw[if_pos q,if_pos q]
  ·rw[if_neg q,if_neg q]
   by_cases q2:i=t
   ·rw[if_pos q2,q2,hc.1]
    show AV.c (CV.drop [d,0] (bif Nm.eqb [t,0] [t,0]then CV.hd k else CV.own [t,0]))=_
    rw[nY];rfl
   ·rw[if_neg q2,AV.past_id (hc.2.1 i q2)]
    exact AV.drop_id (hf.1 i q [d,0] (Nat.beq_refl d))
 ·show(bif Nm.eqb m [d,0]then some ob else bif Nm.eqb m [d,0]then none else(bif Nm.eqb m [t,0]then none else(s.o m).map (Ob.past [t,0] k)).map (Ob.drop [d,0]))=(if m=[d,0]then some ob else if m=[t,0]then none else s.o m)
  cases q:Nm.eqb m [d,0]with
  |true=>rw[if_pos (cf.1 q)];rfl
  |false =>
   rw[if_neg (bc.1 q)]
   cases q2:Nm.eqb m [t,0]with
   |true=>rw[if_pos (cf.1 q2)];rfl
   |false =>
    rw[if_neg (bc.1 q2)]
    cases ho:s.o m with
    |none=>rfl
    |some x =>
     show some ((x.past [t,0] k).drop [d,0])=some x
     rw[Ob.past_id (hc.2.2 m x ho),Ob.drop_id ((hf.2 m x ho).2 [d,0] (Nat.beq_refl d))]
def wa (o:Nm→Option Ob):AV→Option ((t:Ty)→Option (List t.den))
 | .c y=>some fun t=>source o t y
 |_=>none
def Dj (τ:kE) (ats:List TypeId) (ob0:Option Ob) (f:Option ((t:Ty)→Option (List t.den))):Option (Bool×Nat×Ob):=match f,ats with
 |some f,[at_,bt_]=>match τ.get at_ with
  |some ti=>bif (Nat.beq ti.kind 3&&Nat.beq at_ bt_)then(match τ.get ti.el with
   |some te=>match te.ty with
    |some ty=>bif Nat.ble te.bytes 4096 then(match ob0 with
     |some (.arr q u xs)=>bif Nat.beq q ti.el then(match Ty.same u ty with
      |some ⟨h⟩=>match f ty with
       |some ys=>some (co ((Ty.cast (congrArg Ty.sl h) xs).length+ys.length),(Ty.cast (congrArg Ty.sl h) xs).length, .arr ti.el ty (Ty.cast (congrArg Ty.sl h) xs++ys))
       |none=>none
      |none=>none)else none
     |_=>none)else none
    |none=>none
   |none=>none)else none
  |none=>none
 |_,_=>none
theorem IM {τ:kE}{c:Call}{d t:Nat}{y:Operand}{s:St}(hc:c.callee = .builtin .append) (ha:c.args.toList=[.tmp t,y]) (ht:s.t t = .c (.own [t,0])) :
  mT τ (.call c) (some d) s=(Dj τ c.argTypes.toList (s.o [t,0]) (wa s.o (s.ev y))).map fun r=>(r.1,(((s.past [t,0] r.2.1).drop [d,0]).setO [d,0] r.2.2).put (some d) (.c (.own [d,0]))):=by
 obtain⟨callee,args,argTypes⟩:=c
 obtain rfl:=hc
 have ha:args.toList=[.tmp t,y]:=ha
 unfold mT
 dsimp only
 rw[ha]
 show(match(some d:Option Nat),[s.t t,s.ev y],argTypes.toList with
  |some d,[.c x, .c y],[at_,bt_]=>_
  |_,_,_=>none)=_
 rw[ht]
 unfold Dj
 generalize s.ev y=Y
 generalize argTypes.toList=ats
 cases Y with
 |g=>cases ats<;>rfl
 |tup=>cases ats<;>rfl
 |c Y =>
  match ats with
  |[]=>rfl
  |[_]=>rfl
  |_::_::_::_=>rfl
  |[at_,bt_] =>
   unfold wa
   dsimp only
   cases τ.get at_ with
   |none=>rfl
   |some ti =>
    dsimp only
    cases(Nat.beq ti.kind 3&&Nat.beq at_ bt_)with
    |false=>rfl
    |true =>
     dsimp only[cond_true]
     cases τ.get ti.el with
     |none=>rfl
     |some te =>
      dsimp only
      cases te.ty with
      |none=>rfl
      |some ty =>
       dsimp only
       cases Nat.ble te.bytes 4096 with
       |false=>rfl
       |true =>
        dsimp only[cond_true]
        cases s.o [t,0]with
        |none=>rfl
        |some ob =>
         cases ob with
         |box=>rfl
         |mp=>rfl
         |arr q u xs =>
          dsimp only
          cases Nat.beq q ti.el with
          |false=>rfl
          |true =>
           dsimp only[cond_true]
           cases Ty.same u ty with
           |none=>rfl
           |some h =>
            dsimp only
            cases source s.o ty Y<;>rfl
theorem Cq{o o':Nm→Option Ob}{t:Ty}{c:CV}(h:∀n,fq c n→o' n=o n):source o' t c=source o t c:=by
 cases c with
 |own m=>unfold source;dsimp only;rw[h m rfl]
 |_=>rfl
theorem EJ{o o':Nm→Option Ob}{y:AV}(h:∀n,bm y n→o' n=o n):wa o' y=wa o y:=by
 cases y with
 |g=>rfl
 |tup=>rfl
 |c y=>exact congrArg some (funext fun t=>Cq h)
theorem Im {τ:kE}{ats:List TypeId}{ob0:Option Ob}{f:Option ((t:Ty)→Option (List t.den))}:∀r,Dj τ ats ob0 f=some r→∀n,¬eM r.2.2 n:=by
 have key:∀x:Option (Bool×Nat×Ob),(match x with|some r=>(match r.2.2 with | .arr _ _ _=>true|_=>false)|none=>true)=true→∀r,x=some r→∀n,¬eM r.2.2 n:=fun x hx r hr n hn=>by
  subst hr
  obtain⟨b,k,ob⟩:=r
  cases ob with
  |arr=>exact hn
  |box=>cases hx
  |mp=>cases hx
 refine key _ ?_
 unfold Dj
 match f,ats with
 |none,_=>rfl
 |some f,[]=>rfl
 |some f,[_]=>rfl
 |some f,_::_::_::_=>rfl
 |some f,[at_,bt_] =>
   dsimp only
   cases τ.get at_ with
   |none=>rfl
   |some ti =>
    dsimp only
    cases(Nat.beq ti.kind 3&&Nat.beq at_ bt_)with
    |false=>rfl
    |true =>
     dsimp only[cond_true]
     cases τ.get ti.el with
     |none=>rfl
     |some te =>
      dsimp only
      cases te.ty with
      |none=>rfl
      |some ty =>
       dsimp only
       cases Nat.ble te.bytes 4096 with
       |false=>rfl
       |true =>
        dsimp only[cond_true]
        cases ob0 with
        |none=>rfl
        |some ob =>
         cases ob with
         |box=>rfl
         |mp=>rfl
         |arr q u xs =>
          dsimp only
          cases Nat.beq q ti.el with
          |false=>rfl
          |true =>
           dsimp only[cond_true]
           cases Ty.same u ty with
           |none=>rfl
           |some h =>
            dsimp only
            cases f ty<;>rfl
section
variable{fr:Bool}{E:aK}{l:List Oper}{o:Oper}{s s1:St}
theorem mj{t:Nat}(h:j0 o=some t):∃c y d,o.op = .call c∧c.callee = .builtin .append∧c.args.toList=[.tmp t,y]∧o.dst=some d:=by
 unfold j0 at h
 split at h
 ·rename_i t' y ats d hop hd
  obtain rfl:=Option.some.inj h
  exact⟨_,y,d,hop,rfl,rfl,hd⟩
 ·cases h
theorem T5{t d:Nat}(ha:j0 o=some t) (hd:o.dst=some d) (hk:aL E o=6) (hc:nM t s) (hf:fM d s) (hne:d≠t) (h:stm fr E l o s=some s1) :
  ∃k ob,s1=D2 t k d ob s∧(∀n,¬eM ob n)∧xB E l o s=some s1∧∀s':St,(∀i∈mN l o,s'.t i=s.t i)→(∀i∈mN l o, ∀n,bm (s.t i) n→s'.o n=s.o n)→nM t s'→fM d s'→stm fr E l o s'=some (D2 t k d ob s'):=by
 have hss:∀s,stm fr E l o s=xB E l o s:=fun s=>sy ⟨fun q=>(by rw[hk]at q;cases q),by rw[hk];decide⟩
 have hg:o.guard=none:=mB (E:=E) (o:=o) (by omega) (by omega)
 obtain⟨c,y,d',hop,hcc,hca,hd'⟩:=mj ha
 obtain rfl:d=d':=Option.some.inj (hd.symm.trans hd')
 have hyo:y∈o.op.operands:=by
  rw[hop]
  simp only[Op.operands,Call.operands,Array.mem_append]
  right
  rw[←Array.mem_toList_iff,hca]
  exact .tail _ (.head _)
 have hto:t∈mN l o:=List.mem_append_left _ (List.mem_flatMap.2 ⟨.tmp t,by
  rw[hop]
  simp only[Op.operands,Call.operands,Array.toList_append,List.mem_append]
  right
  rw[hca]
  exact .head _,List.mem_singleton.2 rfl⟩)
 have form:∀s2:St,nM t s2→fM d s2→xB E l o s2=(match Dj E.τ c.argTypes.toList (s2.o [t,0]) (wa s2.o (s2.ev y))with
   |some r=>bif Nat.blt d E.N then(match r.1 with|true=>some (D2 t r.2.1 d r.2.2 s2)|false=>none)else none
   |none=>none):=by
  intro s2 h2 h3
  rw[sA hg]
  have hvo:gc E.τ (.call c) s2.ev s2.o=none:=by
   obtain⟨callee,args,argTypes⟩:=c
   obtain rfl:=hcc
   rfl
  have hmo:rg E.τ (.call c) (s2.drop [d,0]).ev [d,0]=none:=rfl
  have e1:rf (R := St) E o s2 some = (match gc E.τ (.call c) s2.ev s2.o with
        |some (c,v)=>bif dS E.N (some d)then(match c with|true=>some (s2.put (some d) v)|false=>none)else none
        |none=>bif Nat.blt d E.N then(match rg E.τ (.call c) (s2.drop [d,0]).ev [d,0]with
         |some (c,ob,v)=>(match c with|true=>some (((s2.drop [d,0]).setO [d,0] ob).put (some d) v)|false=>none)
         |none=>match mT E.τ (.call c) (some d) s2 with
          |some (c,s'')=>(match c with|true=>some s''|false=>none)
          |none=>uP E.τ (.call c) d s2 some)else none):=by
   unfold rf
   rw[hd,hop]
   obtain⟨callee,args,argTypes⟩:=c
   obtain rfl:=hcc
   rfl
  rw[e1,hvo,hmo,IM hcc hca h2.1]
  dsimp only
  cases Dj E.τ c.argTypes.toList (s2.o [t,0]) (wa s2.o (s2.ev y))with
  |none=>cases Nat.blt d E.N<;>rfl
  |some r =>
   cases Nat.blt d E.N with
   |false=>rfl
   |true =>
    dsimp only[cond_true,Option.map_some]
    rw[Lt h2 h3 hne]
 rw[hss]at h
 have hsg:=h
 rw[form s hc hf]at h
 cases hr:Dj E.τ c.argTypes.toList (s.o [t,0]) (wa s.o (s.ev y))with
 |none=>rw[hr]at h;cases h
 |some r =>
  rw[hr]at h
  obtain⟨b,k,ob⟩:=r
  dsimp only at h
  cases hN:Nat.blt d E.N with
  |false=>rw[hN]at h;cases h
  |true =>
   rw[hN,cond_true]at h
   cases b with
   |false=>cases h
   |true =>
    refine⟨k,ob,(Option.some.inj h).symm,Im _ hr,hsg,fun s' h1 h2 h3 h4=>?_⟩
    rw[hss,form s' h3 h4, ←vW h1 y hyo,h2 t hto [t,0] (by rw[hc.1];exact rfl),EJ (o:=s.o) (fun n hn=>by
     obtain⟨i,hi,hm⟩:=tO (l:=l) hyo hn
     exact h2 i hi n hm),hr]
    dsimp only
    rw[hN];rfl
end
def km (l:List Oper) (i:Nat):Bool:=match l[i]? with
 |some o=>(match j0 o with|some _=>true|none=>false)
 |none=>false
def GD (l:List Oper) (z:Nat×Nat) (o:Oper):Bool:=bif km l z.1 then BD o.op else ng o.op
def Gm (E:aK) (l:List Oper) (rs:List (List Nat)) (zs:List (Nat×Nat)) (i:Nat):Bool:=match l[i]? with
  |none=>false
  |some o =>
    (match aL E o with
      |0=>true
      |1=>true
      |4=>true
      |2=>(match dL o with|some d=>zs.any (fun z=>Nat.beq z.1 i&&Nat.beq z.2 d)|none=>false)
      |6=>(match j0 o,o.dst with|some t,some d => !Nat.beq d t&&zs.any (fun z=>Nat.beq z.1 i&&Nat.beq z.2 t)|_,_=>false)
      |_=>false) &&
    ((List.range l.length).all (fun j=>Nat.beq j i || (match l[j]? with
      |some p=>(match p.dst with
        |some e=>(bL j (rs.getD i []) || !bL e (mN l o))&&(match o.dst with|some d => !Nat.beq d e|none=>true)
        |none=>true)
      |none=>true)) &&
     zs.all (fun z=>Nat.beq z.1 i || (bL z.1 (rs.getD i []) || (!bL z.2 (mN l o)&&(match o.dst with|some d => !Nat.beq d z.2 || GD l z o|none=>true)))))
def sQ (fr:Bool):Nat→Bool
 |0=>true
 |4=>true
 |1=>fr
 |_=>false
def Jz (l:List Oper) (a b:Oper):Bool:=match j0 a with
 |some t => !bL t (mN l b)&&(match b.dst with|some e => !Nat.beq e t|none=>false)
 |none=>false
def Be (E:aK) (l:List Oper) (rs:List (List Nat)) (fr:Bool) (i j:Nat):Bool:=match l[i]?,l[j]? with
 |some a,some b=>bL i (rs.getD j []) || (match a.dst with
  |some d=>(sQ fr (aL E a) || (fr&&Nat.beq (aL E a) 6&&Jz l a b))&&(!bL d (mN l b)&&(match b.dst with
   |some e=>(sQ fr (aL E b) || (fr&&Nat.beq (aL E b) 6&&(sQ fr (aL E a)&&Jz l b a)))&&(!Nat.beq d e && !bL e (mN l a))
   |none=>fr&&(match dL b with
    |some z=>Nat.beq (aL E b) 2&&(!Nat.beq d z && !bL z (mN l a))
    |none=>false)))
  |none=>false)
 |_,_=>false
def ER (l:List Oper) (i j:Nat):Bool:=match l[i]? with
 |some a => !bL j (cx a)
 |none=>false
def kf (l:List Oper) (z:Nat×Nat) (s:St):Prop:=match km l z.1 with
 |true=>nM z.2 s
 |false=>xA z.2 s
def xW (fr:Bool) (l:List Oper) (zs:List (Nat×Nat)) (L:List Nat) (s:St):Prop:=fr=true →
 (∀i∈L, ∀o d,l[i]?=some o→o.dst=some d→fM d s)∧∀z∈zs,z.1∈L→(∃i∈L, ∃o,l[i]?=some o∧o.dst=some z.2)∨kf l z s
theorem jx{n:Nm}{x:Ob}:∀{ups:List (Nm×Ob)},bf ups n=some x→(n,x)∈ups
 |[],h=>by cases h
 |p::r,h=>by
  have h:(bif Nm.eqb p.1 n then some p.2 else bf r n)=some x:=h
  cases q:Nm.eqb p.1 n with
  |true =>
   rw[q]at h
   obtain rfl:=Option.some.inj h
   obtain rfl:=cf.1 q
   exact List.mem_cons_self ..
  |false=>rw[q]at h;exact List.mem_cons_of_mem _ (jx h)
theorem wz (s:St) (ups:List (Nm×Ob)) (d:Nat) (v:AV){n:Nm}{x:Ob}(h:((s.over ups).put (some d) v).o n=some x):(n,x)∈ups∨(bf ups n=none∧s.o n=some x):=by
 have h:(match bf ups n with|some ob=>some ob|none=>s.o n)=some x:=h
 cases q:bf ups n with
 |some y=>rw[q]at h;obtain rfl:=Option.some.inj h;exact .inl (jx q)
 |none=>rw[q]at h;exact .inr ⟨rfl,h⟩
theorem kU{s:St}{ups:List (Nm×Ob)}{d:Nat}{v:AV}{n:Nm}(h:∀p∈ups,p.1≠n):bf ups n=none∧((s.over ups).put (some d) v).o n=s.o n:=by
 have:bf ups n=none:=by
  cases q:bf ups n with
  |none=>rfl
  |some x=>exact absurd rfl (h _ (jx q))
 refine⟨this,?_⟩
 show(match bf ups n with|some ob=>some ob|none=>s.o n)=s.o n
 rw[this]
section
variable{fr:Bool}{E:aK}{l:List Oper}{s s1:St}
theorem vT{o:Oper}{q:Bool}{d e:Nat}{v:AV}{ups:List (Nm×Ob)}(hm:FS fr E l o q s d v ups) (hne:d≠e) (hr:e∉mN l o) (hf:fM e s):fM e ((s.over ups).put (some d) v):=by
 have key:∀n,cT e n=true→¬(bm v n∨∃p∈ups,eM p.2 n):=by
  intro n hn hc
  rcases hm.m.ment n hc with h|⟨t,ht,h⟩|⟨t,ht,m,y,h1,h2,h3⟩
  ·rw[ue hne h]at hn;cases hn
  ·exact hf.1 t (fun q=>hr (q▸ht)) n hn h
  ·exact(hf.2 m y h2).2 n hn h3
 refine⟨fun t ht n hn h=>?_,fun m x hx=>?_⟩
 ·rw[fA]at h
  by_cases q:t=d
  ·rw[if_pos q]at h;exact key n hn (.inl h)
  ·rw[if_neg q]at h;exact hf.1 t ht n hn h
 ·rcases wz s ups d v hx with h|⟨_,h⟩
  ·exact⟨ue hne (hm.m.hd _ h),fun n hn h2=>key n hn (.inr ⟨_,h,h2⟩)⟩
  ·exact hf.2 m x h
theorem JC{o:Oper}{q:Bool}{d z:Nat}{v:AV}{ups:List (Nm×Ob)}(hm:FS fr E l o q s d v ups) (hne:d≠z) (hr:z∉mN l o) (hf:xA z s):xA z ((s.over ups).put (some d) v):=by
 have key:¬(bm v [z,0]∨∃p∈ups,eM p.2 [z,0]):=by
  intro hc
  rcases hm.m.ment _ hc with h|⟨t,ht,h⟩|⟨t,ht,m,y,h1,h2,h3⟩
  ·exact hne (Nat.eq_of_beq_eq_true h).symm
  ·exact hf.2.1 t (fun q=>hr (q▸ht)) h
  ·exact hf.2.2 m y h2 h3
 refine⟨?_,fun t ht h=>?_,fun m x hx h2=>?_⟩
 ·rw[fA,if_neg (Ne.symm hne)];exact hf.1
 ·rw[fA]at h
  by_cases q:t=d
  ·rw[if_pos q]at h;exact key (.inl h)
  ·rw[if_neg q]at h;exact hf.2.1 t ht h
 ·rcases wz s ups d v hx with h|⟨_,h⟩
  ·exact key (.inr ⟨_,h,h2⟩)
  ·exact hf.2.2 m x h h2
theorem xl{o:Oper}{q:Bool}{d z:Nat}{v:AV}{ups:List (Nm×Ob)}(hm:FS fr E l o q s d v ups) (hne:d≠z) (hr:z∉mN l o) (hf:nM z s):nM z ((s.over ups).put (some d) v):=by
 have key:¬(bm v [z,0]∨∃p∈ups,eM p.2 [z,0]):=by
  intro hc
  rcases hm.m.ment _ hc with h|⟨t,ht,h⟩|⟨t,ht,m,y,h1,h2,h3⟩
  ·exact hne (Nat.eq_of_beq_eq_true h).symm
  ·exact hf.2.1 t (fun q=>hr (q▸ht)) h
  ·exact hf.2.2 m y h2 h3
 refine⟨?_,fun t ht h=>?_,fun m x hx h2=>?_⟩
 ·rw[fA,if_neg (Ne.symm hne)];exact hf.1
 ·rw[fA]at h
  by_cases q:t=d
  ·rw[if_pos q]at h;exact key (.inl h)
  ·rw[if_neg q]at h;exact hf.2.1 t ht h
 ·rcases wz s ups d v hx with h|⟨_,h⟩
  ·exact key (.inr ⟨_,h,h2⟩)
  ·exact hf.2.2 m x h h2
theorem Ia{z:Nat×Nat}{o:Oper}{q:Bool}{d:Nat}{v:AV}{ups:List (Nm×Ob)}(hm:FS fr E l o q s d v ups) (hne:d≠z.2) (hr:z.2∉mN l o) (hf:kf l z s):kf l z ((s.over ups).put (some d) v):=by
 unfold kf at hf ⊢
 cases w:km l z.1 with
 |true=>rw[w]at hf;exact xl hm hne hr hf
 |false=>rw[w]at hf;exact JC hm hne hr hf
theorem DY{t k d e:Nat}{ob:Ob}(ho:∀n,¬eM ob n) (hne:d≠e) (hf:fM e s):fM e (D2 t k d ob s):=by
 refine⟨fun i hi n hn h=>?_,fun m x hx=>?_⟩
 ·have h:bm (if i=d then .c (.own [d,0])else if i=t then .c (.hd k)else s.t i) n:=h
  by_cases q:i=d
  ·rw[if_pos q]at h
   have h:[d,0]=n:=h
   rw[←h]at hn
   exact hne (Nat.eq_of_beq_eq_true hn)
  ·rw[if_neg q]at h
   by_cases q2:i=t
   ·rw[if_pos q2]at h;exact h
   ·rw[if_neg q2]at h;exact hf.1 i hi n hn h
 ·have hx:(if m=[d,0]then some ob else if m=[t,0]then none else s.o m)=some x:=hx
  by_cases q:m=[d,0]
  ·rw[if_pos q]at hx
   obtain rfl:=Option.some.inj hx
   rw[q]
   refine⟨?_,fun n _=>ho n⟩
   show Nat.beq d e=false
   cases w:Nat.beq d e with
   |false=>rfl
   |true=>exact absurd (Nat.eq_of_beq_eq_true w) hne
  ·rw[if_neg q]at hx
   by_cases q2:m=[t,0]
   ·rw[if_pos q2]at hx;cases hx
   ·rw[if_neg q2]at hx;exact hf.2 m x hx
theorem DO{t k d z:Nat}{ob:Ob}(ho:∀n,¬eM ob n) (hne:d≠z) (h1:∀i,i≠z→¬bm (s.t i) [z,0]) (h2:∀m x,s.o m=some x→¬eM x [z,0]):(∀i,i≠z→¬bm ((D2 t k d ob s).t i) [z,0])∧∀m x,(D2 t k d ob s).o m=some x→¬eM x [z,0]:=by
 refine⟨fun i hi h=>?_,fun m x hx h=>?_⟩
 ·have h:bm (if i=d then .c (.own [d,0])else if i=t then .c (.hd k)else s.t i) [z,0]:=h
  by_cases q:i=d
  ·rw[if_pos q]at h
   have h:[d,0]=[z,0]:=h
   injection h with h _
   exact hne h
  ·rw[if_neg q]at h
   by_cases q2:i=t
   ·rw[if_pos q2]at h;exact h
   ·rw[if_neg q2]at h;exact h1 i hi h
 ·have hx:(if m=[d,0]then some ob else if m=[t,0]then none else s.o m)=some x:=hx
  by_cases q:m=[d,0]
  ·rw[if_pos q]at hx
   obtain rfl:=Option.some.inj hx
   exact ho _ h
  ·rw[if_neg q]at hx
   by_cases q2:m=[t,0]
   ·rw[if_pos q2]at hx;cases hx
   ·rw[if_neg q2]at hx;exact h2 m x hx h
theorem D1{t k d z:Nat}{ob:Ob}(h1:z≠d) (h2:z≠t):(D2 t k d ob s).t z=s.t z:=by
 show(if z=d then _ else if z=t then _ else s.t z)=s.t z
 rw[if_neg h1,if_neg h2]
theorem Ib{z:Nat×Nat}{t k d:Nat}{ob:Ob}(ho:∀n,¬eM ob n) (hne:d≠z.2) (hzt:z.2≠t) (hf:kf l z s):kf l z (D2 t k d ob s):=by
 unfold kf at hf ⊢
 cases w:km l z.1 with
 |true =>
  rw[w]at hf
  exact⟨by rw[D1 (Ne.symm hne) hzt];exact hf.1,DO ho hne hf.2.1 hf.2.2⟩
 |false =>
  rw[w]at hf
  exact⟨by rw[D1 (Ne.symm hne) hzt];exact hf.1,DO ho hne hf.2.1 hf.2.2⟩
theorem Km{t k d db:Nat}{ob:Ob}{vb:AV}{ub:List (Nm×Ob)}(hub:∀p∈ub,cT db p.1=true) (h1:db≠d) (h2:db≠t):((D2 t k d ob s).over ub).put (some db) vb=D2 t k d ob ((s.over ub).put (some db) vb):=by
 refine St.ext' (fun i=>?_) fun m=>?_
 ·rw[fA]
  show(if i=db then vb else if i=d then _ else if i=t then _ else s.t i)=(if i=d then _ else if i=t then _ else((s.over ub).put (some db) vb).t i)
  rw[fA]
  by_cases q:i=db
  ·rw[if_pos q,if_neg (fun e=>h1 (q.symm.trans e)),if_neg (fun e=>h2 (q.symm.trans e)),if_pos q]
  ·rw[if_neg q,if_neg q];rfl
 ·show(match bf ub m with|some x=>some x|none=>(if m=[d,0]then some ob else if m=[t,0]then none else s.o m))=(if m=[d,0]then some ob else if m=[t,0]then none else(match bf ub m with|some x=>some x|none=>s.o m))
  cases w:bf ub m with
  |none=>rfl
  |some x =>
   have hh:=hub _ (jx w)
   have n1:m≠[d,0]:=fun e=>by
    have hh:cT db m=true:=hh
    rw[e]at hh
    exact h1 (Nat.eq_of_beq_eq_true (show Nat.beq d db=true from hh)).symm
   have n2:m≠[t,0]:=fun e=>by
    have hh:cT db m=true:=hh
    rw[e]at hh
    exact h2 (Nat.eq_of_beq_eq_true (show Nat.beq t db=true from hh)).symm
   simp only[if_neg n1,if_neg n2]
theorem IU{a b:Oper}{qa qb:Bool}{da db:Nat}{va vb:AV}{ua ub:List (Nm×Ob)}(ha:FS fr E l a qa s da va ua) (hb:FS fr E l b qb ((s.over ua).put (some da) va) db vb ub) (hne:da≠db) (h1:da∉mN l b) (h2:db∉mN l a)
  (hcase:(ua=[]∧ub=[]∧qa=false∧qb=false)∨(fM da s∧fM db s)) :
  stm fr E l b s=some ((s.over ub).put (some db) vb)∧stm fr E l a ((s.over ub).put (some db) vb)=some ((((s.over ua).put (some da) va).over ub).put (some db) vb):=by
 have st:∀t,t≠da→((s.over ua).put (some da) va).t t=s.t t:=fun t ht=>by rw[fA,if_neg ht];rfl
 have st2:∀t,t≠db→((s.over ub).put (some db) vb).t t=s.t t:=fun t ht=>by rw[fA,if_neg ht];rfl
 have eb:stm fr E l b s=some ((s.over ub).put (some db) vb):=by
  refine hb.stm s (fun t ht=>(st t (fun q=>h1 (q▸ht))).symm) (fun t ht n hn=>?_) (fun q=>?_)
  ·rcases hcase with⟨rfl,_⟩|⟨f1,_⟩
   ·rfl
   ·rw[st t (fun q=>h1 (q▸ht))]at hn
    exact(kU (fun p hp e=>f1.1 t (fun q=>h1 (q▸ht)) n (by rw[←e];exact ha.m.hd p hp) hn)).2.symm
  ·rcases hcase with⟨_,_,_,q'⟩|⟨_,f2⟩
   ·rw[q']at q;cases q
   ·exact f2
 refine⟨eb,?_⟩
 have ea:stm fr E l a ((s.over ub).put (some db) vb)=some ((((s.over ub).put (some db) vb).over ua).put (some da) va):=by
  refine ha.stm _ (fun t ht=>st2 t (fun q=>h2 (q▸ht))) (fun t ht n hn=>?_) (fun q=>?_)
  ·rcases hcase with⟨_,rfl,_⟩|⟨_,f2⟩
   ·rfl
   ·exact(kU (fun p hp e=>f2.1 t (fun q=>h2 (q▸ht)) n (by rw[←e];exact hb.m.hd p hp) hn)).2
  ·rcases hcase with⟨_,_,q',_⟩|⟨f1,f2⟩
   ·rw[q']at q;cases q
   ·have hb0:FS fr E l b qb s db vb ub:=⟨⟨hb.m.dst,fun s' g1 g2 g3=>hb.m.step s' (fun t ht=>(g1 t ht).trans (st t (fun q=>h1 (q▸ht))).symm) (fun t ht n hn=>by
      rw[st t (fun q=>h1 (q▸ht))]at hn
      rw[g2 t ht n hn]
      exact(kU (fun p hp e=>f1.1 t (fun q=>h1 (q▸ht)) n (by rw[←e];exact ha.m.hd p hp) hn)).2.symm) g3,hb.m.hd,fun n hn=>by
       rcases hb.m.ment n hn with h|⟨t,ht,h⟩|⟨t,ht,m,y,g1,g2,g3⟩
       ·exact .inl h
       ·rw[st t (fun q=>h1 (q▸ht))]at h;exact .inr (.inl ⟨t,ht,h⟩)
       ·rw[st t (fun q=>h1 (q▸ht))]at g1
        rw[(kU (fun p hp e=>f1.1 t (fun q=>h1 (q▸ht)) m (by rw[←e];exact ha.m.hd p hp) g1)).2]at g2
        exact .inr (.inr ⟨t,ht,m,y,g1,g2,g3⟩)⟩,fun s' g1 g2 g3=>hb.stm s' (fun t ht=>(g1 t ht).trans (st t (fun q=>h1 (q▸ht))).symm) (fun t ht n hn=>by
      rw[st t (fun q=>h1 (q▸ht))]at hn
      rw[g2 t ht n hn]
      exact(kU (fun p hp e=>f1.1 t (fun q=>h1 (q▸ht)) n (by rw[←e];exact ha.m.hd p hp) hn)).2.symm) g3⟩
    exact vT hb0 (Ne.symm hne) h1 f1
 rw[ea]
 refine congrArg some (St.ext' (fun i=>?_) fun n=>?_)
 ·rw[fA,fA]
  show(if i=da then va else((s.over ub).put (some db) vb).t i)=(if i=db then vb else((s.over ua).put (some da) va).t i)
  rw[fA,fA]
  by_cases q:i=da
  ·rw[if_pos q,if_pos q,if_neg (fun q2=>hne (q.symm.trans q2))]
  ·rw[if_neg q,if_neg q];rfl
 ·show(match bf ua n with|some ob=>some ob|none=>(match bf ub n with|some ob=>some ob|none=>s.o n))=(match bf ub n with|some ob=>some ob|none=>(match bf ua n with|some ob=>some ob|none=>s.o n))
  cases q1:bf ua n with
  |none=>rfl
  |some x =>
   cases q2:bf ub n with
   |none=>rfl
   |some y =>
    exfalso
    have g1:=ha.m.hd _ (jx q1)
    have g2:=hb.m.hd _ (jx q2)
    rw[ue hne g1]at g2;cases g2
theorem IT{a b:Oper}{q:Bool}{da z:Nat}{va:AV}{ua:List (Nm×Ob)}(ha:FS fr E l a q s da va ua) (hs:dL b=some z) (hg:b.guard=none) (hk:aL E b=2) (hc:xA z s) (hf:fM da s) (hne:da≠z) (hra:z∉mN l a) (hrb:da∉mN l b){s2:St}(h:stm fr E l b ((s.over ua).put (some da) va)=some s2) :
  ∃s1',stm fr E l b s=some s1'∧stm fr E l a s1'=some s2:=by
 have st:∀t,t≠da→((s.over ua).put (some da) va).t t=s.t t:=fun t ht=>by rw[fA,if_neg ht];rfl
 have hzd:∀p∈ua,p.1≠[z,0]:=fun p hp e=>hne (Nat.eq_of_beq_eq_true (show Nat.beq z da=true from by
  have:=ha.m.hd p hp
  rw[e]at this;exact this)).symm
 obtain⟨ob0,ob,g1,g2,_,g4,g5⟩:=VI hs hg hk (by rw[st z (Ne.symm hne)];exact hc.1) h
 rw[(kU hzd).2]at g1
 have e1:stm fr E l b s=some (s.setO [z,0] ob):=g4 s (fun t ht=>(st t (fun q=>hrb (q▸ht))).symm) (kU hzd).2.symm
 refine⟨_,e1,?_⟩
 have mo:∀n,cT da n=true→¬eM ob n:=fun n hn hm=>by
  rcases g5 n hm with h|⟨t,ht,h⟩
  ·exact(hf.2 _ ob0 g1).2 n hn h
  ·rw[st t (fun q=>hrb (q▸ht))]at h
   exact hf.1 t (fun q=>hrb (q▸ht)) n hn h
 have hf':fM da (s.setO [z,0] ob):=by
  refine⟨hf.1,fun m x hx=>?_⟩
  have hx:(bif Nm.eqb m [z,0]then some ob else s.o m)=some x:=hx
  cases w:Nm.eqb m [z,0]with
  |true =>
   rw[w]at hx
   obtain rfl:=Option.some.inj hx
   rw[cf.1 w]
   exact⟨(hf.2 _ ob0 g1).1,mo⟩
  |false=>rw[w]at hx;exact hf.2 m x hx
 have e2:=ha.stm (s.setO [z,0] ob) (fun _ _=>rfl) (fun t ht n hn=>by
  show(bif Nm.eqb n [z,0]then some ob else s.o n)=s.o n
  cases w:Nm.eqb n [z,0]with
  |true =>
   rw[cf.1 w]at hn
   exact absurd hn (hc.2.1 t (fun q=>hra (q▸ht)))
  |false=>rfl) (fun _=>hf')
 rw[e2,g2]
 refine congrArg some (St.ext' (fun i=>?_) fun n=>?_)
 ·show _=((s.over ua).put (some da) va).t i
  rw[fA,fA]
  rfl
 ·show(match bf ua n with|some ob=>some ob|none=>(bif Nm.eqb n [z,0]then some ob else s.o n))=(bif Nm.eqb n [z,0]then some ob else(match bf ua n with|some ob=>some ob|none=>s.o n))
  cases w:Nm.eqb n [z,0]with
  |false=>rfl
  |true=>rw[cf.1 w,(kU (s:=s) (d:=da) (v:=va) hzd).1]
end
section
variable{fr:Bool}{E:aK}{l:List Oper}
theorem m6{o:Oper}{s s1:St}{d:Nat}(hd:o.dst=some d) (hk:sQ fr (aL E o)=true) (h:stm fr E l o s=some s1):∃v ups q,FS fr E l o q s d v ups∧(aL E o≠1→q=false∧ups=[])∧s1=(s.over ups).put (some d) v∧(∀t,o.op = .alloc t→aL E o=1→∃zc,v = .c (.pb [d,0] 0)∧ups=[([d,0], .box zc)]∧∀n,¬cB zc n)∧(BD o.op=true→aL E o=1→∃el ty xs,v = .c (.own [d,0])∧ups=[([d,0], .arr el ty xs)]):=by
 have three:aL E o=0∨(aL E o=1∧fr=true)∨aL E o=4:=by
  unfold sQ at hk
  split at hk
  ·rename_i q;exact .inl q
  ·rename_i q;exact .inr (.inr q)
  ·rename_i q;exact .inr (.inl ⟨q,hk⟩)
  ·cases hk
 rcases three with h0|h1
 ·obtain⟨d',v,m,rfl⟩:=NF (fr:=fr) h0 h
  have:d'=d:=by
   have:=m.m.dst
   rw[hd]at this
   exact(Option.some.inj this).symm
  subst this
  exact⟨v,[],false,m,fun _=>⟨rfl,rfl⟩,rfl,fun t _ q=>(by rw[h0]at q;cases q),fun _ q=>(by rw[h0]at q;cases q)⟩
 ·obtain⟨v,ups,q,m,m2,m3,m4,m5⟩:=Kg h1 hd h
  exact⟨v,ups,q,m,fun w=>m2 (by rcases h1 with h|h;exact absurd h.1 w;exact h),m3,fun t ht _=>m4 t ht,fun hb _=>m5 hb⟩
theorem bZ{n:Nat}{l:List Nat}(h:(!bL n l)=true):n∉l:=fun q=>by rw[eD.2 q]at h;cases h
theorem nK{a b:Nat}(h:(!Nat.beq a b)=true):a≠b:=fun q=>by rw[q,Nat.beq_refl]at h;cases h
theorem yV{zs:List (Nat×Nat)}{L:List Nat}{s:St}{i:Nat}{o:Oper}{t d:Nat}(hI:xW true l zs L s) (hi:i∈L) (ho:l[i]?=some o) (hok:Gm E l (bS l []) zs i=true) (hfree:∀a∈L,bL a ((bS l []).getD i [])=false) (hat:j0 o=some t) (hd:o.dst=some d) (k6:aL E o=6):d≠t∧nM t s:=by
 obtain⟨I1,I2⟩:=hI rfl
 unfold Gm at hok
 rw[ho]at hok
 dsimp only at hok
 rw[Bool.and_eq_true,Bool.and_eq_true,k6]at hok
 obtain⟨hk,hB,hC⟩:=hok
 have hk:(match j0 o,o.dst with|some t,some d => !Nat.beq d t&&zs.any (fun z=>Nat.beq z.1 i&&Nat.beq z.2 t)|_,_=>false)=true:=hk
 rw[hat,hd]at hk
 dsimp only at hk
 rw[Bool.and_eq_true,List.any_eq_true]at hk
 obtain⟨hdt,z,hz,hze⟩:=hk
 have hdt:=nK hdt
 rw[Bool.and_eq_true]at hze
 have z1:=Nat.eq_of_beq_eq_true hze.1
 have z2:=Nat.eq_of_beq_eq_true hze.2
 have htr:t∈mN l o:=by
  obtain⟨c,y,_,hop,_,hca,_⟩:=mj hat
  refine List.mem_append_left _ (List.mem_flatMap.2 ⟨.tmp t,?_,List.mem_singleton.2 rfl⟩)
  rw[hop]
  simp only[Op.operands,Call.operands,Array.toList_append,List.mem_append]
  right
  rw[hca]
  exact .head _
 refine⟨hdt,?_⟩
 rcases I2 z hz (z1▸hi)with⟨j,hj,p,hp,he⟩|h
 ·exfalso
  rw[z2]at he
  by_cases q:j=i
  ·subst q
   rw[ho]at hp
   obtain rfl:=Option.some.inj hp
   rw[hd]at he
   exact hdt (Option.some.inj he)
  ·have:=List.all_eq_true.1 hB j (List.mem_range.2 (List.getElem?_eq_some_iff.1 hp).1)
   rw[dJ q,hp]at this
   dsimp only[Bool.false_or]at this
   rw[he]at this
   dsimp only at this
   rw[Bool.false_or,Bool.and_eq_true,hfree j hj,Bool.false_or]at this
   exact bZ this.1 htr
 ·have hna:km l z.1=true:=by
   unfold km
   rw[z1,ho]
   dsimp only
   rw[hat]
  unfold kf at h
  rw[hna,z2]at h;exact h
theorem NG{zs:List (Nat×Nat)}{L L':List Nat}{s s1:St}{i:Nat}{o:Oper}(hI:xW true l zs L s) (hi:i∈L) (ho:l[i]?=some o) (hok:Gm E l (bS l []) zs i=true) (hfree:∀a∈L,bL a ((bS l []).getD i [])=false) (hlt:∀j∈L,j<l.length) (hs:stm true E l o s=some s1)
  (h1:∀j∈L',j∈L∧j≠i) (h2:∀j∈L,j≠i→j∈L'):xB E l o s=some s1∧xW true l zs L' s1:=by
 obtain⟨I1,I2⟩:=hI rfl
 unfold Gm at hok
 rw[ho]at hok
 dsimp only at hok
 rw[Bool.and_eq_true,Bool.and_eq_true]at hok
 obtain⟨hk,hB,hC⟩:=hok
 have B:∀j∈L,j≠i→∀p e,l[j]?=some p→p.dst=some e→e∉mN l o∧∀d,o.dst=some d→d≠e:=by
  intro j hj hne p e hp he
  have:=List.all_eq_true.1 hB j (List.mem_range.2 (hlt j hj))
  rw[dJ hne,hp]at this
  dsimp only[Bool.false_or]at this
  rw[he]at this
  dsimp only at this
  rw[Bool.false_or,Bool.and_eq_true,hfree j hj,Bool.false_or]at this
  refine⟨bZ this.1,fun d hd=>?_⟩
  have h3:=this.2
  rw[hd]at h3
  exact nK h3
 have C:∀z∈zs,z.1∈L→z.1≠i→z.2∉mN l o∧∀d,o.dst=some d→d≠z.2∨GD l z o=true:=by
  intro z hz hzL hne
  have:=List.all_eq_true.1 hC z hz
  rw[dJ hne,hfree _ hzL,Bool.false_or,Bool.false_or,Bool.and_eq_true]at this
  refine⟨bZ this.1,fun d hd=>?_⟩
  have h3:=this.2
  rw[hd]at h3
  dsimp only at h3
  rw[Bool.or_eq_true]at h3
  exact h3.imp nK id
 by_cases k2:aL E o=2
 ·-- a store
  rw[k2]at hk
  have hk:(match dL o with|some d=>zs.any (fun z=>Nat.beq z.1 i&&Nat.beq z.2 d)|none=>false)=true:=hk
  have hg:o.guard=none:=mB (E:=E) (o:=o) (by omega) (by omega)
  cases hss:dL o with
  |none=>rw[hss]at hk;cases hk
  |some d =>
   rw[hss]at hk
   dsimp only at hk
   rw[List.any_eq_true]at hk
   obtain⟨z,hz,hze⟩:=hk
   rw[Bool.and_eq_true]at hze
   have z1:=Nat.eq_of_beq_eq_true hze.1
   have z2:=Nat.eq_of_beq_eq_true hze.2
   have hdn:o.dst=none:=by
    unfold dL at hss
    split at hss
    ·assumption
    ·cases hss
   have hdr:d∈mN l o:=by
    unfold dL at hss
    split at hss
    ·rename_i T a x _ hop
     obtain rfl:=Option.some.inj hss
     exact List.mem_append_left _ (List.mem_flatMap.2 ⟨.tmp a,by rw[hop];simp[Op.operands],List.mem_singleton.2 rfl⟩)
    ·cases hss
   have hcl:xA d s:=by
    rcases I2 z hz (z1▸hi)with⟨j,hj,p,hp,he⟩|h
    ·exfalso
     rw[z2]at he
     by_cases q:j=i
     ·subst q
      rw[ho]at hp
      obtain rfl:=Option.some.inj hp
      rw[hdn]at he;cases he
     ·exact(B j hj q p d hp he).1 hdr
    ·have hna:km l z.1=false:=by
      unfold km
      rw[z1,ho]
      dsimp only
      cases w:j0 o with
      |none=>rfl
      |some t =>
       obtain⟨_,_,_,_,_,_,w2⟩:=mj w
       rw[hdn]at w2;cases w2
     unfold kf at h
     rw[hna,z2]at h;exact h
   obtain⟨ob0,ob,g1,rfl,g3,_,g5⟩:=VI hss hg k2 hcl.1 hs
   refine⟨g3,fun _=>⟨fun j hj p e hp he=>?_,fun z' hz' hzL=>?_⟩⟩
   ·obtain⟨hjL,hji⟩:=h1 j hj
    have hf:=I1 j hjL p e hp he
    have hb:=(B j hjL hji p e hp he).1
    refine⟨hf.1,fun m x hx=>?_⟩
    have hx:(bif Nm.eqb m [d,0]then some ob else s.o m)=some x:=hx
    cases w:Nm.eqb m [d,0]with
    |true =>
     rw[w]at hx
     obtain rfl:=Option.some.inj hx
     rw[cf.1 w]
     refine⟨(hf.2 _ ob0 g1).1,fun n hn hm=>?_⟩
     rcases g5 n hm with h|⟨t,ht,h⟩
     ·exact(hf.2 _ ob0 g1).2 n hn h
     ·exact hf.1 t (fun q=>hb (q▸ht)) n hn h
    |false=>rw[w]at hx;exact hf.2 m x hx
   ·obtain⟨hzL0,hzi⟩:=h1 _ hzL
    rcases I2 z' hz' hzL0 with⟨j,hj,p,hp,he⟩|h
    ·refine .inl ⟨j,h2 j hj (fun q=>?_),p,hp,he⟩
     subst q
     rw[ho]at hp
     obtain rfl:=Option.some.inj hp
     rw[hdn]at he;cases he
    ·have hcr:=(C z' hz' hzL0 hzi).1
     have key:(∀i,i≠z'.2→¬bm (s.t i) [z'.2,0])→(∀m x,s.o m=some x→¬eM x [z'.2,0])→∀m x,(s.setO [d,0] ob).o m=some x→¬eM x [z'.2,0]:=fun k1 k2 m x hx hm=>by
      have hx:(bif Nm.eqb m [d,0]then some ob else s.o m)=some x:=hx
      cases w:Nm.eqb m [d,0]with
      |true =>
       rw[w]at hx
       obtain rfl:=Option.some.inj hx
       rcases g5 _ hm with h3|⟨t,ht,h3⟩
       ·exact k2 _ ob0 g1 h3
       ·exact k1 t (fun q=>hcr (q▸ht)) h3
      |false=>rw[w]at hx;exact k2 m x hx hm
     right
     unfold kf at h ⊢
     cases w:km l z'.1 with
     |true=>rw[w]at h;exact⟨h.1,h.2.1,key h.2.1 h.2.2⟩
     |false=>rw[w]at h;exact⟨h.1,h.2.1,key h.2.1 h.2.2⟩
 ·by_cases k6:aL E o=6
  ·-- an append
   rw[k6]at hk
   have hk:(match j0 o,o.dst with|some t,some d => !Nat.beq d t&&zs.any (fun z=>Nat.beq z.1 i&&Nat.beq z.2 t)|_,_=>false)=true:=hk
   cases hat:j0 o with
   |none=>rw[hat]at hk;cases hk
   |some t =>
    cases hd:o.dst with
    |none=>rw[hat,hd]at hk;cases hk
    |some d =>
     rw[hat,hd]at hk
     dsimp only at hk
     rw[Bool.and_eq_true,List.any_eq_true]at hk
     obtain⟨hdt,z,hz,hze⟩:=hk
     have hdt:=nK hdt
     rw[Bool.and_eq_true]at hze
     have z1:=Nat.eq_of_beq_eq_true hze.1
     have z2:=Nat.eq_of_beq_eq_true hze.2
     have htr:t∈mN l o:=by
      obtain⟨c,y,_,hop,_,hca,_⟩:=mj hat
      refine List.mem_append_left _ (List.mem_flatMap.2 ⟨.tmp t,?_,List.mem_singleton.2 rfl⟩)
      rw[hop]
      simp only[Op.operands,Call.operands,Array.toList_append,List.mem_append]
      right
      rw[hca]
      exact .head _
     have hcl:nM t s:=by
      rcases I2 z hz (z1▸hi)with⟨j,hj,p,hp,he⟩|h
      ·exfalso
       rw[z2]at he
       by_cases q:j=i
       ·subst q
        rw[ho]at hp
        obtain rfl:=Option.some.inj hp
        rw[hd]at he
        exact hdt (Option.some.inj he)
       ·exact(B j hj q p t hp he).1 htr
      ·have hna:km l z.1=true:=by
        unfold km
        rw[z1,ho]
        dsimp only
        rw[hat]
       unfold kf at h
       rw[hna,z2]at h;exact h
     obtain⟨k,ob,rfl,hom,g3,_⟩:=T5 hat hd k6 hcl (I1 i hi o d ho hd) hdt hs
     refine⟨g3,fun _=>⟨fun j hj p e hp he=>?_,fun z' hz' hzL=>?_⟩⟩
     ·obtain⟨hjL,hji⟩:=h1 j hj
      exact DY hom ((B j hjL hji p e hp he).2 d hd) (I1 j hjL p e hp he)
     ·obtain⟨hzL0,hzi⟩:=h1 _ hzL
      obtain⟨c1,c2⟩:=C z' hz' hzL0 hzi
      have hdz:d≠z'.2:=by
       rcases c2 d hd with h|h
       ·exact h
       ·exfalso
        obtain⟨c,y,_,hop,_,_,_⟩:=mj hat
        unfold GD at h
        rw[hop]at h
        cases w:km l z'.1<;>(rw[w]at h;cases h)
      rcases I2 z' hz' hzL0 with⟨j,hj,p,hp,he⟩|h
      ·refine .inl ⟨j,h2 j hj (fun q=>?_),p,hp,he⟩
       subst q
       rw[ho]at hp
       obtain rfl:=Option.some.inj hp
       rw[hd]at he
       exact hdz (Option.some.inj he)
      ·exact .inr (Ib hom hdz (fun q=>c1 (q▸htr)) h)
  -- what makes
  have hmk:sQ true (aL E o)=true:=by
   split at hk
   ·rename_i q;rw[q];rfl
   ·rename_i q;rw[q];rfl
   ·rename_i q;rw[q];rfl
   ·rename_i q;exact absurd q k2
   ·rename_i q;exact absurd q k6
   ·cases hk
  obtain⟨d,hd⟩:∃d,o.dst=some d:=by
   have hk0:aL E o=0∨aL E o=1∨aL E o=4:=by
    unfold sQ at hmk
    split at hmk
    ·rename_i q;exact .inl q
    ·rename_i q;exact .inr (.inr q)
    ·rename_i q;exact .inr (.inl q)
    ·cases hmk
   cases hd:o.dst with
   |some d=>exact⟨d,rfl⟩
   |none =>
    exfalso
    unfold aL at hk0
    rw[hd]at hk0
    dsimp only at hk0
    rw[Bool.and_false]at hk0
    dsimp only[cond_false]at hk0
    cases q:dM o with
    |false=>rw[q]at hk0;rcases hk0 with h|h|h<;>cases h
    |true =>
     rw[q]at hk0
     dsimp only[cond_true]at hk0
     split at hk0<;>first|(rename_i w;cases w;done)|(rename_i w _;cases w;done)|(rcases hk0 with h|h|h<;>cases h)
  obtain⟨v,ups,q,m,m2,rfl,m4,m5⟩:=m6 hd hmk hs
  have hfd:=I1 i hi o d ho hd
  refine⟨m.m.step s (fun _ _=>rfl) (fun _ _ _ _=>rfl) (fun _=>hfd),fun _=>⟨fun j hj p e hp he=>?_,fun z hz hzL=>?_⟩⟩
  ·obtain⟨hjL,hji⟩:=h1 j hj
   obtain⟨b1,b2⟩:=B j hjL hji p e hp he
   exact vT m (b2 d hd) b1 (I1 j hjL p e hp he)
  ·obtain⟨hzL0,hzi⟩:=h1 _ hzL
   obtain⟨c1,c2⟩:=C z hz hzL0 hzi
   by_cases hdz:d=z.2
   ·rcases c2 d hd with h|h
    ·exact absurd hdz h
    ·refine .inr ?_
     have h1:BD o.op=true∨ng o.op=true:=by
      unfold GD at h
      cases w:km l z.1 with
      |true=>rw[w]at h;exact .inl h
      |false=>rw[w]at h;exact .inr h
     have hv:jp E.τ o=false:=by
      unfold jp
      rcases h1 with h1|h1
      ·unfold BD at h1
       split at h1
       ·rename_i w;rw[w]
       ·cases h1
      ·unfold ng at h1
       split at h1
       ·rename_i w;rw[w]
       ·cases h1
     have hk1:aL E o=1:=by
      unfold sQ at hmk
      split at hmk
      ·rename_i q
       exfalso
       unfold aL at q
       rw[hv,Bool.false_and,cond_false,hd]at q
       rcases h1 with h1|h1
       ·unfold BD at h1
        split at h1
        ·rename_i w;rw[w]at q;cases e:dM o<;>(rw[e]at q;cases q)
        ·cases h1
       ·unfold ng at h1
        split at h1
        ·rename_i w;rw[w]at q;cases e:dM o<;>(rw[e]at q;cases q)
        ·cases h1
      ·rename_i q
       exfalso
       unfold aL at q
       rw[hv,Bool.false_and,cond_false,hd]at q
       rcases h1 with h1|h1
       ·unfold BD at h1
        split at h1
        ·rename_i w;rw[w]at q;cases e:dM o<;>(rw[e]at q;cases q)
        ·cases h1
       ·unfold ng at h1
        split at h1
        ·rename_i w;rw[w]at q;cases e:dM o<;>(rw[e]at q;cases q)
        ·cases h1
      ·assumption
      ·cases hmk
     unfold kf
     unfold GD at h
     cases w:km l z.1 with
     |true =>
      rw[w]at h
      obtain⟨el,ty,xs,rfl,rfl⟩:=m5 h hk1
      dsimp only
      rw[←hdz]
      refine⟨by rw[fA,if_pos rfl],fun t ht=>?_,fun m x hx hm=>?_⟩
      ·rw[fA,if_neg ht]
       exact hfd.1 t ht _ (Nat.beq_refl _)
      ·rcases wz _ _ _ _ hx with h|⟨_,h⟩
       ·have:=Prod.mk.inj (List.mem_singleton.1 h)
        rw[this.2]at hm
        exact hm
       ·exact(hfd.2 m x h).2 [d,0] (Nat.beq_refl d) hm
     |false =>
      rw[w]at h
      obtain⟨t,ht⟩:∃t,o.op = .alloc t:=by
       have h:ng o.op=true:=h
       unfold ng at h
       split at h
       ·exact⟨_,by assumption⟩
       ·cases h
      obtain⟨zc,rfl,rfl,zm⟩:=m4 t ht hk1
      dsimp only
      rw[←hdz]
      refine⟨by rw[fA,if_pos rfl],fun t ht=>?_,fun m x hx hm=>?_⟩
      ·rw[fA,if_neg ht]
       exact hfd.1 t ht _ (Nat.beq_refl _)
      ·rcases wz _ _ _ _ hx with h|⟨_,h⟩
       ·have:=Prod.mk.inj (List.mem_singleton.1 h)
        rw[this.2]at hm
        exact zm _ hm
       ·exact(hfd.2 m x h).2 [d,0] (Nat.beq_refl d) hm
   ·rcases I2 z hz hzL0 with⟨j,hj,p,hp,he⟩|h
    ·refine .inl ⟨j,h2 j hj (fun q=>?_),p,hp,he⟩
     subst q
     rw[ho]at hp
     obtain rfl:=Option.some.inj hp
     rw[hd]at he
     exact hdz (Option.some.inj he)
    ·exact .inr (Ia m hdz c1 h)
theorem MB{zs:List (Nat×Nat)}{L:List Nat}{s sa sb:St}{i j:Nat}{a b:Oper}(hI:xW fr l zs L s) (hi:i∈L) (hj:j∈L) (ha:l[i]?=some a) (hb:l[j]?=some b) (hok:fr=true→Gm E l (bS l []) zs j=true)
  (hok2:fr=true→Gm E l (bS l []) zs i=true) (hfree2:∀x∈L,bL x ((bS l []).getD i [])=false) (hfree:∀x∈L,bL x ((bS l []).getD j [])=false) (hp:Be E l (bS l []) fr i j=true) (g1:stm fr E l a s=some sa) (g2:stm fr E l b sa=some sb) (hji:i≠j) :
  ∃s1,stm fr E l b s=some s1∧stm fr E l a s1=some sb:=by
 unfold Be at hp
 rw[ha,hb]at hp
 dsimp only at hp
 rw[hfree i hi,Bool.false_or]at hp
 cases hda:a.dst with
 |none=>rw[hda]at hp;cases hp
 |some da =>
  rw[hda]at hp
  dsimp only at hp
  rw[Bool.and_eq_true,Bool.and_eq_true,Bool.or_eq_true]at hp
  obtain⟨k1,n1,hp⟩:=hp
  rcases k1 with k1|k1
  case inr =>
   -- an append ahead of a maker
   rw[Bool.and_eq_true,Bool.and_eq_true]at k1
   obtain⟨⟨hfr,k6⟩,he⟩:=k1
   subst hfr
   have k6:=Nat.eq_of_beq_eq_true k6
   obtain⟨I1,I2⟩:=hI rfl
   unfold Jz at he
   cases hat:j0 a with
   |none=>rw[hat]at he;cases he
   |some t =>
    rw[hat]at he
    dsimp only at he
    rw[Bool.and_eq_true]at he
    cases hdb:b.dst with
    |none=>rw[hdb]at he;cases he.2
    |some db =>
     rw[hdb]at hp he
     dsimp only at hp he
     rw[Bool.and_eq_true,Bool.and_eq_true,Bool.or_eq_true]at hp
     obtain⟨k2,n2,n3⟩:=hp
     have nt:=bZ he.1
     have nt2:=nK he.2
     rcases k2 with k2|k2
     case inr =>
      rw[Bool.and_eq_true,Bool.and_eq_true,Bool.and_eq_true,k6]at k2
      cases k2.2.1
     obtain⟨hdt,hcl⟩:=yV hI hi ha (hok2 rfl) hfree2 hat hda k6
     obtain⟨k,ob,rfl,hom,_,g5⟩:=T5 hat hda k6 hcl (I1 i hi a da ha hda) hdt g1
     obtain⟨vb,ub,qb,mb,mb2,rfl,_⟩:=m6 hdb k2 g2
     have fb:=I1 j hj b db hb hdb
     have est:∀x∈mN l b,(D2 t k da ob s).t x=s.t x:=fun x hx=>D1 (fun q=>bZ n1 (q▸hx)) (fun q=>nt (q▸hx))
     have eso:∀x∈mN l b, ∀n,bm (s.t x) n→s.o n=(D2 t k da ob s).o n:=fun x hx n hn=>by
      have q1:n≠[da,0]:=fun q=>(I1 i hi a da ha hda).1 x (fun q=>bZ n1 (q▸hx)) n (by rw[q];exact Nat.beq_refl da) hn
      have q2:n≠[t,0]:=fun q=>hcl.2.1 x (fun q=>nt (q▸hx)) (by rw[←q];exact hn)
      show s.o n=(if n=[da,0]then some ob else if n=[t,0]then none else s.o n)
      rw[if_neg q1,if_neg q2]
     have eb:stm true E l b s=some ((s.over ub).put (some db) vb):=mb.stm s (fun x hx=>(est x hx).symm) (fun x hx n hn=>by
      rw[est x hx]at hn
      exact eso x hx n hn) (fun _=>fb)
     refine⟨_,eb,?_⟩
     have hub:=mb.m.hd
     have hdb1:db≠da:=Ne.symm (nK n2)
     have mb0:FS true E l b qb s db vb ub:=⟨⟨mb.m.dst,fun s' g1 g2 g3=>mb.m.step s' (fun x hx=>(g1 x hx).trans (est x hx).symm) (fun x hx n hn=>by
       rw[est x hx]at hn
       rw[g2 x hx n hn];exact eso x hx n hn) g3,hub,fun n hn=>by
        rcases mb.m.ment n hn with h|⟨x,hx,h⟩|⟨x,hx,m,y,q1,q2,q3⟩
        ·exact .inl h
        ·rw[est x hx]at h;exact .inr (.inl ⟨x,hx,h⟩)
        ·rw[est x hx]at q1
         rw[←eso x hx m q1]at q2
         exact .inr (.inr ⟨x,hx,m,y,q1,q2,q3⟩)⟩,fun s' g1 g2 g3=>mb.stm s' (fun x hx=>(g1 x hx).trans (est x hx).symm) (fun x hx n hn=>by
       rw[est x hx]at hn
       rw[g2 x hx n hn];exact eso x hx n hn) g3⟩
     rw[g5 _ (fun x hx=>by rw[fA,if_neg (fun(q:x=db)=>bZ n3 (q▸hx))];rfl) (fun x hx n hn=>(kU (fun p hp e=>fb.1 x (fun q=>bZ n3 (q▸hx)) n (by rw[←e];exact hub p hp) hn)).2) (xl mb0 nt2 nt hcl) (vT mb0 hdb1 (bZ n1) (I1 i hi a da ha hda))]
     rw[Km hub hdb1 nt2]
  obtain⟨va,ua,qa,ma,ma2,rfl,_⟩:=m6 hda k1 g1
  cases hdb:b.dst with
  |some db =>
   rw[hdb]at hp
   dsimp only at hp
   rw[Bool.and_eq_true,Bool.and_eq_true,Bool.or_eq_true]at hp
   obtain⟨k2,n2,n3⟩:=hp
   rcases k2 with k2|k2
   case inr =>
    -- a maker ahead of an append
    rw[Bool.and_eq_true,Bool.and_eq_true,Bool.and_eq_true]at k2
    obtain⟨⟨hfr,k6⟩,_,he⟩:=k2
    subst hfr
    have k6:=Nat.eq_of_beq_eq_true k6
    obtain⟨I1,I2⟩:=hI rfl
    unfold Jz at he
    cases hat:j0 b with
    |none=>rw[hat]at he;cases he
    |some t =>
     rw[hat,hda]at he
     dsimp only at he
     rw[Bool.and_eq_true]at he
     have nt:=bZ he.1
     have nt2:=nK he.2
     have fa:=I1 i hi a da ha hda
     have fb:=I1 j hj b db hb hdb
     obtain⟨hdt,hcl⟩:=yV hI hj hb (hok rfl) hfree hat hdb k6
     have hua:=ma.m.hd
     have hab:=nK n2
     obtain⟨k,ob,rfl,hom,_,g5⟩:=T5 hat hdb k6 (xl ma nt2 nt hcl) (vT ma hab (bZ n3) fb) hdt g2
     have est:∀x∈mN l b,s.t x=((s.over ua).put (some da) va).t x:=fun x hx=>by rw[fA,if_neg (fun(q:x=da)=>bZ n1 (q▸hx))];rfl
     refine⟨_,g5 s est (fun x hx n hn=>by
      rw[←est x hx]at hn
      exact(kU (fun p hp e=>fa.1 x (fun q=>bZ n1 (q▸hx)) n (by rw[←e];exact hua p hp) hn)).2.symm) hcl fb,?_⟩
     rw[ma.stm (D2 t k db ob s) (fun x hx=>D1 (fun(q:x=db)=>bZ n3 (q▸hx)) (fun(q:x=t)=>nt (q▸hx))) (fun x hx n hn=>by
      have q1:n≠[db,0]:=fun q=>fb.1 x (fun q=>bZ n3 (q▸hx)) n (by rw[q];exact Nat.beq_refl db) hn
      have q2:n≠[t,0]:=fun q=>hcl.2.1 x (fun q=>nt (q▸hx)) (by rw[←q];exact hn)
      show(if n=[db,0]then some ob else if n=[t,0]then none else s.o n)=s.o n
      rw[if_neg q1,if_neg q2]) (fun _=>DY hom (Ne.symm hab) fa)]
     rw[Km hua hab nt2]
   obtain⟨vb,ub,qb,mb,mb2,rfl,_⟩:=m6 hdb k2 g2
   refine⟨_,IU ma mb (nK n2) (bZ n1) (bZ n3) ?_⟩
   cases fr with
   |true =>
    obtain⟨I1,_⟩:=hI rfl
    exact .inr ⟨I1 i hi a da ha hda,I1 j hj b db hb hdb⟩
   |false =>
    have no1:∀{k:Nat},sQ false k=true→k≠1:=fun h q=>by rw[q]at h;cases h
    obtain⟨x1,x2⟩:=ma2 (no1 k1)
    obtain⟨y1,y2⟩:=mb2 (no1 k2)
    exact .inl ⟨x2,y2,x1,y1⟩
  |none =>
   rw[hdb]at hp
   dsimp only at hp
   rw[Bool.and_eq_true]at hp
   obtain⟨hfr,hp⟩:=hp
   subst hfr
   cases hss:dL b with
   |none=>rw[hss]at hp;cases hp
   |some z =>
    rw[hss]at hp
    dsimp only at hp
    rw[Bool.and_eq_true,Bool.and_eq_true]at hp
    obtain⟨k2,n2,n3⟩:=hp
    have k2:=Nat.eq_of_beq_eq_true k2
    have hg:b.guard=none:=mB (E:=E) (o:=b) (by omega) (by omega)
    obtain⟨I1,I2⟩:=hI rfl
    have hzr:z∈mN l b:=by
     unfold dL at hss
     split at hss
     ·rename_i T x y _ hop
      obtain rfl:=Option.some.inj hss
      exact List.mem_append_left _ (List.mem_flatMap.2 ⟨.tmp x,by rw[hop];simp[Op.operands],List.mem_singleton.2 rfl⟩)
     ·cases hss
    have hcl:xA z s:=by
     have hok:=hok rfl
     unfold Gm at hok
     rw[hb]at hok
     dsimp only at hok
     rw[Bool.and_eq_true,Bool.and_eq_true,k2]at hok
     obtain⟨h1,h2,_⟩:=hok
     have h1:(match dL b with|some d=>zs.any (fun z=>Nat.beq z.1 j&&Nat.beq z.2 d)|none=>false)=true:=h1
     rw[hss]at h1
     dsimp only at h1
     rw[List.any_eq_true]at h1
     obtain⟨w,hw,hwe⟩:=h1
     rw[Bool.and_eq_true]at hwe
     have w1:=Nat.eq_of_beq_eq_true hwe.1
     have w2:=Nat.eq_of_beq_eq_true hwe.2
     rcases I2 w hw (w1▸hj)with⟨x,hx,p,hp,he⟩|h
     ·exfalso
      have hxl:x<l.length:=(List.getElem?_eq_some_iff.1 hp).1
      have:=List.all_eq_true.1 h2 x (List.mem_range.2 hxl)
      by_cases q:x=j
      ·subst q
       rw[hb]at hp
       obtain rfl:=Option.some.inj hp
       rw[hdb]at he;cases he
      ·rw[dJ q,hp]at this
       dsimp only at this
       rw[he]at this
       dsimp only at this
       rw[Bool.false_or,Bool.and_eq_true,hfree x hx,Bool.false_or,w2]at this
       exact bZ this.1 hzr
     ·have hna:km l w.1=false:=by
       unfold km
       rw[w1,hb]
       dsimp only
       cases v:j0 b with
       |none=>rfl
       |some t =>
        obtain⟨_,_,_,_,_,_,v2⟩:=mj v
        rw[hdb]at v2;cases v2
      unfold kf at h
      rw[hna,w2]at h;exact h
    exact IT ma hss hg k2 hcl (I1 i hi a da ha hda) (nK n2) (bZ n3) (bZ n1) g2
theorem ks (l:List Oper){i:Nat}{o:Oper}(ho:l[i]?=some o) (L:List Nat):gE l (i::L)=o::gE l L:=by
 unfold gE
 rw[List.filterMap_cons,ho]
def yB (E:aK) (l:List Oper) (rs:List (List Nat)) (j:Nat):Bool:=(match l[j]? with
 |some o => !Nat.beq (aL E o) 1 && !Nat.beq (aL E o) 4
 |none=>false)&&(List.range l.length).all (fun x=>Nat.beq x j || bL x (rs.getD j []))
structure uQ (fr:Bool) (E:aK) (l:List Oper) (zs:List (Nat×Nat)) (L:List Nat):Prop where
 nd:L.Nodup
 lt:∀j∈L,j<l.length
 pr:eJ (Be E l (bS l []) fr) L=true
 or:eJ (ER l) L=true
 ok:fr=true→∀j∈L,(Gm E l (bS l []) zs j || yB E l (bS l []) j)=true
 down:∀j o,j∉L→l[j]?=some o→∀a∈cx o,a∉L
theorem fR{R:Nat→Nat→Bool}:∀{pre post:List Nat}{i:Nat},eJ R (pre++i::post)=true→eJ R (pre++post)=true∧(∀x∈pre,R x i=true)∧∀x∈post,R i x=true
 |[],post,i,h=>by
  have h:(post.all (R i)&&eJ R post)=true:=h
  rw[Bool.and_eq_true]at h
  exact⟨h.2,fun x hx=>(by cases hx),fun x hx=>List.all_eq_true.1 h.1 x hx⟩
 |y::pre,post,i,h=>by
  have h:((pre++i::post).all (R y)&&eJ R (pre++i::post))=true:=h
  rw[Bool.and_eq_true]at h
  obtain⟨g1,g2,g3⟩:=fR h.2
  have ha:=List.all_eq_true.1 h.1
  refine⟨?_,fun x hx=>?_,g3⟩
  ·show((pre++post).all (R y)&&eJ R (pre++post))=true
   rw[Bool.and_eq_true]
   refine⟨List.all_eq_true.2 fun x hx=>ha x ?_,g1⟩
   rcases List.mem_append.1 hx with q|q
   ·exact List.mem_append_left _ q
   ·exact List.mem_append_right _ (List.mem_cons_of_mem _ q)
  ·rcases List.mem_cons.1 hx with rfl|hx
   ·exact ha i (List.mem_append_right _ (List.mem_cons_self ..))
   ·exact g2 x hx
theorem uQ.del{zs:List (Nat×Nat)}{pre post:List Nat}{i:Nat}(h:uQ fr E l zs (pre++i::post)) (hfree:∀o,l[i]?=some o→∀a∈cx o,a∉pre++i::post):uQ fr E l zs (pre++post)∧(∀j,j∈pre++post↔j∈pre++i::post∧j≠i):=by
 have mem:∀j,j∈pre++post↔j∈pre++i::post∧j≠i:=by
  have hnd:=(List.perm_middle (a:=i) (l₁:=pre) (l₂:=post)).nodup_iff.1 h.nd
  have hi:=(List.nodup_cons.1 hnd).1
  intro j
  rw[List.mem_append,List.mem_append,List.mem_cons]
  constructor
  ·intro q
   refine⟨q.imp id .inr,fun e=>?_⟩
   subst e
   exact hi (List.mem_append.2 q)
  ·rintro ⟨q,hne⟩
   rcases q with q|q|q
   ·exact .inl q
   ·exact absurd q hne
   ·exact .inr q
 refine⟨⟨?_,fun j hj=>h.lt j ((mem j).1 hj).1,(fR h.pr).1,(fR h.or).1,fun e j hj=>h.ok e j ((mem j).1 hj).1,fun j o hj ho a ha q=>?_⟩,mem⟩
 ·have hnd:=(List.perm_middle (a:=i) (l₁:=pre) (l₂:=post)).nodup_iff.1 h.nd
  exact(List.nodup_cons.1 hnd).2
 ·have q:=((mem a).1 q).1
  by_cases e:j=i
  ·subst e;exact hfree o ho a ha q
  ·exact h.down j o (fun w=>hj ((mem j).2 ⟨w,e⟩)) ho a ha q
theorem uQ.reach{zs:List (Nat×Nat)}{L:List Nat}(h:uQ fr E l zs L){i:Nat}{o:Oper}(ho:l[i]?=some o) (hfree:∀a∈cx o,a∉L):∀x∈L,bL x ((bS l []).getD i [])=false:=by
 intro x hx
 cases q:bL x ((bS l []).getD i [])with
 |false=>rfl
 |true=>exact absurd hx (ou (l:=l) (D:=fun j=>j∉L) h.down i ho hfree (eD.1 q))
theorem uQ.head{zs:List (Nat×Nat)}{L:List Nat}{i:Nat}{o:Oper}(h:uQ fr E l zs (i::L)) (ho:l[i]?=some o) (hna:i∉cx o):∀a∈cx o,a∉i::L:=by
 intro a ha hm
 rcases List.mem_cons.1 hm with rfl|hm
 ·exact hna ha
 ·have:=(fR (pre:=[]) h.or).2.2 a hm
  unfold ER at this
  rw[ho]at this
  exact bZ this ha
theorem BA{i x:Nat}(h:yB E l (bS l []) i=true) (hx:x<l.length) (hne:x≠i):bL x ((bS l []).getD i [])=true:=by
 unfold yB at h
 rw[Bool.and_eq_true]at h
 have:=List.all_eq_true.1 h.2 x (List.mem_range.2 hx)
 rw[dJ hne,Bool.false_or]at this
 exact this
theorem uQ.okx{zs:List (Nat×Nat)}{L:List Nat}(h:uQ fr E l zs L){i x:Nat}(e:fr=true) (hi:i∈L) (hx:x∈L) (hne:x≠i) (hf:∀y∈L,bL y ((bS l []).getD i [])=false):Gm E l (bS l []) zs i=true:=by
 have:=h.ok e i hi
 rw[Bool.or_eq_true]at this
 rcases this with q|q
 ·exact q
 ·have:=BA q (h.lt x hx) hne
  rw[hf x hx]at this
  cases this
theorem Eb{zs:List (Nat×Nat)}(hself:∀j o,l[j]?=some o→j∉cx o){post:List Nat}{i:Nat}{b:Oper}(hb:l[i]?=some b):∀{pre:List Nat}{s y:St},uQ fr E l zs (pre++i::post)→xW fr l zs (pre++i::post) s→(∀a∈cx b,a∉pre++i::post) →
  xH fr E l (gE l (pre++i::post)) s=some y→xH fr E l (gE l (i::(pre++post))) s=some y
 |[],s,y,_,_,_,h=>h
 |x::pre,s,y,ho,hI,hf,h=>by
  obtain⟨a,ha⟩:∃a,l[x]?=some a:=⟨_,List.getElem?_eq_getElem (ho.lt x (List.mem_cons_self ..))⟩
  rw[List.cons_append,ks l ha]at h
  have h:(stm fr E l a s).bind (xH fr E l (gE l (pre++i::post)))=some y:=h
  obtain⟨sa,g1,g2⟩:=Option.bind_eq_some_iff.1 h
  have hfa:=ho.head ha (hself x a ha)
  obtain⟨o2,mem2⟩:=uQ.del (pre:=[]) ho (fun o e=>by rw[ha]at e;obtain rfl:=Option.some.inj e;exact hfa)
  have hI2:xW fr l zs (pre++i::post) sa:=by
   cases fr with
   |false=>intro e;cases e
   |true=>exact(NG hI (List.mem_cons_self ..) ha (ho.okx rfl (List.mem_cons_self ..) (x:=i) (List.mem_append_right _ (List.mem_cons_self ..)) (fun e=>(List.nodup_cons.1 ho.nd).1 (by rw[←e];exact List.mem_append_right _ (List.mem_cons_self ..))) (ho.reach ha hfa)) (ho.reach ha hfa) ho.lt g1 (fun j hj=>(mem2 j).1 hj) (fun j hj hne=>(mem2 j).2 ⟨hj,hne⟩)).2
  have h3:=Eb hself hb (pre:=pre) o2 hI2 (fun a ha q=>hf a ha (List.mem_cons_of_mem _ q)) g2
  rw[ks l hb]at h3
  have h3:(stm fr E l b sa).bind (xH fr E l (gE l (pre++post)))=some y:=h3
  obtain⟨sb,g4,g5⟩:=Option.bind_eq_some_iff.1 h3
  have him:i∈(x::pre)++i::post:=List.mem_append_right _ (List.mem_cons_self ..)
  have hxi:x≠i:=fun e=>by
   subst e
   exact(List.nodup_cons.1 ho.nd).1 (List.mem_append_right _ (List.mem_cons_self ..))
  obtain⟨s1,g6,g7⟩:=MB hI (List.mem_cons_self ..) him ha hb (fun e=>ho.okx e him (List.mem_cons_self ..) hxi (ho.reach hb hf)) (fun e=>ho.okx e (List.mem_cons_self ..) him (Ne.symm hxi) (ho.reach ha hfa)) (ho.reach ha hfa) (ho.reach hb hf) ((fR (pre:=x::pre) ho.pr).2.1 x (List.mem_cons_self ..)) g1 g4 hxi
  rw[ks l hb,List.cons_append,ks l ha]
  show(stm fr E l b s).bind (fun t=>(stm fr E l a t).bind (xH fr E l (gE l (pre++post))))=some y
  rw[g6,Option.bind_some,g7,Option.bind_some]
  exact g5
theorem Kj{zs:List (Nat×Nat)}(hself:∀j o,l[j]?=some o→j∉cx o) (hst:fr=false→∀(o:Oper) (s s1:St),o∈l→stm fr E l o s=some s1→xB E l o s=some s1):∀(n:Nat) (rem L:List Nat) (s y:St),uQ fr E l zs L→(∀i,i∈L↔i∈rem)→L.length=n→xW fr l zs L s→xH fr E l (gE l L) s=some y→∀π∈xd l n rem,Ga E l (gE l π) s=some y
 |0,rem,L,s,y,_,_,hl,_,h,π,hπ=>by
  obtain rfl:=List.eq_nil_of_length_eq_zero hl
  obtain rfl:=List.mem_singleton.1 hπ
  exact h
 |n+1,rem,L,s,y,ho,hm,hl,hI,h,π,hπ=>by
  obtain⟨i,hi,hπ⟩:=List.mem_flatMap.1 hπ
  cases hf:pT l rem i with
  |false=>rw[hf]at hπ;cases hπ
  |true =>
   rw[hf]at hπ
   obtain⟨π',hπ',rfl⟩:=List.mem_map.1 hπ
   obtain⟨pre,post,rfl⟩:=List.append_of_mem ((hm i).2 hi)
   obtain⟨b,hb⟩:∃b,l[i]?=some b:=⟨_,List.getElem?_eq_getElem (ho.lt i ((hm i).2 hi))⟩
   have hfr:∀a∈cx b,a∉pre++i::post:=fun a ha q=>by
    unfold pT at hf
    rw[hb]at hf
    have:=List.all_eq_true.1 hf a ha
    exact bZ this ((hm a).1 q)
   have h2:=Eb hself hb ho hI hfr h
   rw[ks l hb]at h2
   have h2:(stm fr E l b s).bind (xH fr E l (gE l (pre++post)))=some y:=h2
   obtain⟨s1,g1,g2⟩:=Option.bind_eq_some_iff.1 h2
   obtain⟨o2,mem2⟩:=uQ.del ho (fun o e=>by rw[hb]at e;obtain rfl:=Option.some.inj e;exact hfr)
   have him:i∈pre++i::post:=List.mem_append_right _ (List.mem_cons_self ..)
   have both:xB E l b s=some s1∧xW fr l zs (pre++post) s1:=by
    cases fr with
    |false=>exact⟨hst rfl b s s1 (List.mem_of_getElem? hb) g1,fun e=>by cases e⟩
    |true =>
     have hq:=ho.ok rfl i him
     rw[Bool.or_eq_true]at hq
     rcases hq with hq|hq
     ·exact NG hI him hb hq (ho.reach hb hfr) ho.lt g1 (fun j hj=>(mem2 j).1 hj) (fun j hj hne=>(mem2 j).2 ⟨hj,hne⟩)
     ·have hn:∀j,j∉pre++post:=fun j hj=>by
       obtain⟨q1,q2⟩:=(mem2 j).1 hj
       have:=BA hq (ho.lt j q1) q2
       rw[ho.reach hb hfr j q1]at this
       cases this
      have hk:aL E b≠1∧aL E b≠4:=by
       unfold yB at hq
       rw[hb]at hq
       dsimp only at hq
       rw[Bool.and_eq_true,Bool.and_eq_true]at hq
       refine⟨fun e=>?_,fun e=>?_⟩
       ·rw[e]at hq;cases hq.1.1
       ·rw[e]at hq;cases hq.1.2
      rw[sy ⟨fun e=>absurd e hk.1,hk.2⟩]at g1
      exact⟨g1,fun _=>⟨fun j hj=>absurd hj (hn j),fun z _ hz=>absurd hz (hn z.1)⟩⟩
   have ih:=Kj hself hst n (lC i rem) (pre++post) s1 y o2 (fun j=>by rw[mem2,mw,hm]) (by simp at hl ⊢;omega) both.2 g2 π' hπ'
   rw[ks l hb]
   show(xB E l b s).bind (Ga E l (gE l π'))=some y
   rw[both.1,Option.bind_some]
   exact ih
end
def yu (p:Nm→Bool):CV→Bool
 | .own m=>p m
 | .pb m _=>p m
 | .pa m _ _ _=>p m
 | .clo _ cs=>cs.any (fun q=>p q.1)
 | .mp m=>p m
 |_=>false
def DP (p:Nm→Bool):AV→Bool
 | .c x=>yu p x
 | .g cs=>cs.any (yu p)
 | .tup l=>l.any (fun q=>q.2.any (yu p))
def DQ (p:Nm→Bool):Ob→Bool
 | .box cs=>cs.any (yu p)
 |_=>false
theorem Bv{p:Nm→Bool}{n:Nm}(hp:p n=true){c:CV}(h:fq c n):yu p c=true:=by
 cases c with
 |own m=>obtain rfl:m=n:=h;exact hp
 |pb m k=>obtain rfl:m=n:=h;exact hp
 |pa m z i j=>obtain rfl:m=n:=h;exact hp
 |mp m=>obtain rfl:m=n:=h;exact hp
 |clo f cs=>obtain⟨q,hq,rfl⟩:=h;exact List.any_eq_true.2 ⟨q,hq,hp⟩
 |_=>exact h.elim
theorem tY{p:Nm→Bool}{n:Nm}(hp:p n=true){cs:List CV}(h:cB cs n):cs.any (yu p)=true:=by
 obtain⟨c,hc,hm⟩:=h
 exact List.any_eq_true.2 ⟨c,hc,Bv hp hm⟩
theorem wI{p:Nm→Bool}{n:Nm}(hp:p n=true){v:AV}(h:bm v n):DP p v=true:=by
 cases v with
 |c x=>exact Bv hp h
 |g cs=>exact tY hp h
 |tup l =>
  obtain⟨q,hq,hm⟩:=h
  exact List.any_eq_true.2 ⟨q,hq,tY hp hm⟩
theorem wJ{p:Nm→Bool}{n:Nm}(hp:p n=true){x:Ob}(h:eM x n):DQ p x=true:=by
 cases x with
 |box cs=>exact tY hp h
 |_=>exact h.elim
def CY (d:Nat) (vs:List (Nat×AV)) (bs:List (Nm×Ob)):Bool :=
 vs.all (fun q=>Nat.beq q.1 d || !DP (cT d) q.2)&&bs.all (fun q => !cT d q.1 && !DQ (cT d) q.2)
def C6 (d:Nat) (vs:List (Nat×AV)) (bs:List (Nm×Ob)):Bool :=
 (match dt vs d with | .c (.pb n 0)=>Nm.eqb n [d,0]|_=>false)&&(vs.all (fun q=>Nat.beq q.1 d || !DP (Nm.eqb [d,0]) q.2)&&bs.all (fun q => !DQ (Nm.eqb [d,0]) q.2))
def Ak (d:Nat) (vs:List (Nat×AV)) (bs:List (Nm×Ob)):Bool :=
 (match dt vs d with | .c (.own n)=>Nm.eqb n [d,0]|_=>false)&&(vs.all (fun q=>Nat.beq q.1 d || !DP (Nm.eqb [d,0]) q.2)&&bs.all (fun q => !DQ (Nm.eqb [d,0]) q.2))
def zn (l:List Oper) (zs:List (Nat×Nat)) (L:List Nat) (vs:List (Nat×AV)) (bs:List (Nm×Ob)):Bool :=
 L.all (fun i=>match l[i]? with
  |some o=>(match o.dst with|some d=>CY d vs bs|none=>true)
  |none=>true)&&zs.all (fun z=>L.any (fun i=>match l[i]? with
  |some o=>(match o.dst with|some d=>Nat.beq d z.2|none=>false)
  |none=>false) || bif km l z.1 then Ak z.2 vs bs else C6 z.2 vs bs)
theorem vQ:∀{vs:List (Nat×AV)}{t:Nat},dt vs t = .c .dead∨∃q∈vs,q.1=t∧q.2=dt vs t
 |[],t => .inl rfl
 |p::r,t=>by
  show(bif Nat.beq p.1 t then p.2 else dt r t)=_∨∃q∈p::r,q.1=t∧q.2=(bif Nat.beq p.1 t then p.2 else dt r t)
  cases w:Nat.beq p.1 t with
  |true=>exact .inr ⟨p,List.mem_cons_self ..,Nat.eq_of_beq_eq_true w,rfl⟩
  |false =>
   rcases vQ (vs:=r) (t:=t)with h|⟨q,hq,h1,h2⟩
   ·exact .inl h
   ·exact .inr ⟨q,List.mem_cons_of_mem _ hq,h1,h2⟩
theorem not_true{b:Bool}(h:(!b)=true):b≠true:=by cases b<;>simp_all
theorem Fp{d:Nat}{es:List En}{ds:List DV}(h:CY d (dH es ds) (iA es ds)=true):fM d (FQ es ds):=by
 unfold CY at h
 rw[Bool.and_eq_true]at h
 refine⟨fun t ht n hn hm=>?_,fun m x hx=>?_⟩
 ·have hm:bm (dt (dH es ds) t) n:=hm
  rcases vQ (vs:=dH es ds) (t:=t)with q|⟨q,hq,h1,h2⟩
  ·rw[q]at hm;exact hm
  ·have:=List.all_eq_true.1 h.1 q hq
   rw[h1,dJ ht,Bool.false_or,h2]at this
   exact not_true this (wI hn hm)
 ·have:=List.all_eq_true.1 h.2 (m,x) (jx hx)
  rw[Bool.and_eq_true]at this
  refine⟨?_,fun n hn hm=>not_true this.2 (wJ hn hm)⟩
  cases w:cT d m with
  |false=>rfl
  |true=>exact absurd w (not_true this.1)
theorem Fy{d:Nat}{es:List En}{ds:List DV}(h:C6 d (dH es ds) (iA es ds)=true):xA d (FQ es ds):=by
 unfold C6 at h
 rw[Bool.and_eq_true,Bool.and_eq_true]at h
 have self:Nm.eqb [d,0] [d,0]=true:=cf.2 rfl
 refine⟨?_,fun t ht hm=>?_,fun m x hx hm=>?_⟩
 ·show dt (dH es ds) d=_
  have h1:=h.1
  split at h1
  ·rename_i n e
   rw[e,cf.1 h1]
  ·cases h1
 ·have hm:bm (dt (dH es ds) t) [d,0]:=hm
  rcases vQ (vs:=dH es ds) (t:=t)with q|⟨q,hq,h1,h2⟩
  ·rw[q]at hm;exact hm
  ·have:=List.all_eq_true.1 h.2.1 q hq
   rw[h1,dJ ht,Bool.false_or,h2]at this
   exact not_true this (wI self hm)
 ·exact not_true (List.all_eq_true.1 h.2.2 (m,x) (jx hx)) (wJ self hm)
theorem C7{d:Nat}{es:List En}{ds:List DV}(h:Ak d (dH es ds) (iA es ds)=true):nM d (FQ es ds):=by
 unfold Ak at h
 rw[Bool.and_eq_true,Bool.and_eq_true]at h
 have self:Nm.eqb [d,0] [d,0]=true:=cf.2 rfl
 refine⟨?_,fun t ht hm=>?_,fun m x hx hm=>?_⟩
 ·show dt (dH es ds) d=_
  have h1:=h.1
  split at h1
  ·rename_i n e
   rw[e,cf.1 h1]
  ·cases h1
 ·have hm:bm (dt (dH es ds) t) [d,0]:=hm
  rcases vQ (vs:=dH es ds) (t:=t)with q|⟨q,hq,h1,h2⟩
  ·rw[q]at hm;exact hm
  ·have:=List.all_eq_true.1 h.2.1 q hq
   rw[h1,dJ ht,Bool.false_or,h2]at this
   exact not_true this (wI self hm)
 ·exact not_true (List.all_eq_true.1 h.2.2 (m,x) (jx hx)) (wJ self hm)
theorem F0{l:List Oper}{zs:List (Nat×Nat)}{L:List Nat}{es:List En}{ds:List DV}(h:zn l zs L (dH es ds) (iA es ds)=true){fr:Bool}:xW fr l zs L (FQ es ds):=fun _=>by
 unfold zn at h
 rw[Bool.and_eq_true]at h
 refine⟨fun i hi o d ho hd=>?_,fun z hz _=>?_⟩
 ·have:=List.all_eq_true.1 h.1 i hi
  rw[ho]at this
  dsimp only at this
  rw[hd]at this
  exact Fp this
 ·have:=List.all_eq_true.1 h.2 z hz
  rw[Bool.or_eq_true]at this
  refine this.imp (fun w=>?_) (fun w=>by
   unfold kf
   cases q:km l z.1 with
   |true=>rw[q]at w;exact C7 w
   |false=>rw[q]at w;exact Fy w)
  rw[List.any_eq_true]at w
  obtain⟨i,hi,w⟩:=w
  cases ho:l[i]? with
  |none=>rw[ho]at w;cases w
  |some o =>
   rw[ho]at w
   dsimp only at w
   cases hd:o.dst with
   |none=>rw[hd]at w;cases w
   |some d =>
    rw[hd]at w
    exact⟨i,hi,o,ho,by rw[hd,Nat.eq_of_beq_eq_true w]⟩
theorem Fs{R:Type}{E:aK}{l:List Oper}(fr:Bool) (zs:List (Nat×Nat)) (L:List Nat) (hb:(L.all (fun i=>Nat.blt i l.length)&&(List.range l.length).all (fun i=>bL i L))=true) (hnd:L.Nodup) (ha:vp l=true)
  (hp:eJ (Be E l (bS l []) fr) L=true) (ho:eJ (ER l) L=true) (hok:(!fr || L.all (fun j=>Gm E l (bS l []) zs j || yB E l (bS l []) j))=true){es:List En}{x:TD (bD es)}(hs:(!fr || zn l zs L (dH es (aq _ x)) (iA es (aq _ x)))=true)
  {k:St→Option R}{y:R}(h:nQ fr E l (gE l L) (eC es x) k=some y):∀π∈Ft l,cY E l (gE l π) (eC es x) k=some y:=by
 rw[Bool.and_eq_true]at hb
 have hm:∀i,i∈L↔i∈List.range l.length:=fun i=>⟨fun hi=>List.mem_range.2 (Nat.le_of_ble_eq_true (List.all_eq_true.1 hb.1 i hi)),fun hi=>eD.1 (List.all_eq_true.1 hb.2 i hi)⟩
 have hlen:L.length=l.length:=by
  have:L.Perm (List.range l.length):=(List.perm_ext_iff_of_nodup hnd List.nodup_range).2 hm
  rw[this.length_eq,List.length_range]
 have hself:∀j o,l[j]?=some o→j∉cx o:=fun j o hj q=>by
  have:=Ip ha j o hj j q
  omega
 rw[tR]at h
 obtain⟨s1,h1,h2⟩:=Option.bind_eq_some_iff.1 h
 intro π hπ
 have hI:xW fr l zs L (eC es x):=by
  cases fr with
  |false=>intro e;cases e
  |true=>exact F0 hs
 have hst:fr=false→∀(o:Oper) (s s1:St),o∈l→stm fr E l o s=some s1→xB E l o s=some s1:=fun e o s s1 _ hq=>by
  subst e
  by_cases k4:aL E o=4
  ·cases hd:o.dst with
   |none =>
    exfalso
    unfold aL at k4
    rw[hd]at k4
    dsimp only at k4
    rw[Bool.and_false]at k4
    dsimp only[cond_false]at k4
    cases q:dM o with
    |false=>rw[q]at k4;cases k4
    |true =>
     rw[q]at k4
     dsimp only[cond_true]at k4
     split at k4<;>first|(rename_i w;cases w;done)|(rename_i w _;cases w;done)|cases k4
   |some d =>
    obtain⟨v,ups,q,m,m2,rfl,_⟩:=Kg (.inr k4) hd hq
    exact m.m.step s (fun _ _=>rfl) (fun _ _ _ _=>rfl) (fun w=>by rw[(m2 k4).1]at w;cases w)
  ·rw[sy ⟨fun _=>rfl,k4⟩]at hq
   exact hq
 have:=Kj hself hst l.length (List.range l.length) L (eC es x) s1 ⟨hnd,fun j hj=>List.mem_range.1 ((hm j).1 hj),hp,ho,fun e j hj=>by
  subst e
  exact List.all_eq_true.1 hok j hj,fun j o hj hjo a ha2 q=>by
   have:j<l.length:=(List.getElem?_eq_some_iff.1 hjo).1
   exact hj ((hm j).2 (List.mem_range.2 this))⟩ hm hlen hI h1 π hπ
 rw[yh,this]
 exact h2
def Yt (E:aK) (o:Oper):Bool:=dM o&&(match o.op,o.dst with
 | .call { callee := .value (.func f), .. },some d=>(match E.Γ f d with
  |some S => !S.pars.all Bm
  |none=>false)
 |_,_=>false)
abbrev WL:=List (Nat×List Nm)
def Mz (o:Oper):Nat:=match o.dst with
 |some d=>d
 |none=>(match dL o with|some a=>a+1000000|none=>0)
def VH (k:Nat):WL→List Nm
 |[]=>[]
 |p::r=>bif Nat.beq p.1 k then p.2 else VH k r
def VG (W:WL) (o:Oper):List Nm:=VH (Mz o) W
def IN (W:WL):List Nm:=W.flatMap Prod.snd
def Ys (W:WL) (o:Oper):Bool:=dM o&&((match dL o with|some _=>true|none=>false)&&W.any fun q=>Nat.beq q.1 (Mz o))
def Ki (W:WL) (E:aK) (o:Oper):Bool:=Yt E o || Ys W o
section
variable{W:WL}{T:List (Nat×Nm)}{E:aK}{l:List Oper}{o:Oper}{s s1:St}
def KI (o:Oper):List Nat:=match o.op with
 | .store _ _ x=>JY x
 |_=>[]
def pk (W:WL) (E:aK) (o:Oper):Bool := !Ki W E o&&(Nat.beq (aL E o) 0 || Nat.beq (aL E o) 4)
def Yq (o:Oper):Bool:=dM o&&(match o.op with
 | .move _=>true
 | .assign _=>true
 |_=>false)
def Yr (o:Oper):Bool:=dM o&&(match o.op with
 | .load _ _=>true
 |_=>false)
def Fd (t:Nat) (n:Nm) (T:List (Nat×Nm)):Bool:=T.any fun q=>Nat.beq q.1 t&&Nm.eqb q.2 n
def clear (ns:List Nm) (T:List (Nat×Nm)) (l:List Oper) (o:Oper):Bool:=Yq o || (mN l o).all fun t=>ns.all fun n => !Fd t n T
def NE (d:Option Nat) (l:List Nat):Bool:=match d with
 |some d => !bL d l
 |none=>true
def VN:Option Nat→Option Nat→Bool
 |some d,some e => !Nat.beq d e
 |_,_=>true
def MJ (E:aK) (l:List Oper) (W:WL) (T:List (Nat×Nm)) (rs:List (List Nat)) (i j:Nat):Bool:=match l[i]?,l[j]? with
 |some a,some b=>bL i (rs.getD j []) || (NE a.dst (mN l b)&&(VN a.dst b.dst&&(NE b.dst (mN l a)&&((pk W E a&&pk W E b) || ((pk W E a&&(Ki W E b&&clear (VG W b) T l a)) || (Ki W E a&&(pk W E b&&clear (VG W a) T l b)))))))
 |_,_=>false
def VJ (E:aK) (l:List Oper) (W:WL) (T:List (Nat×Nm)) (rs:List (List Nat)) (i:Nat):Bool:=match l[i]? with
 |none=>false
 |some o=>(Ki W E o || pk W E o)&&((List.range l.length).all (fun j=>Nat.beq j i || (match l[j]? with
    |some p => !Ki W E p || (match p.dst with
     |some e=>(bL j (rs.getD i []) || !bL e (mN l o))&&(VN o.dst (some e)&&(IN W).all (fun n => !cT e n))
     |none=>true)
    |none=>true))&&(match o.dst with
   |some d=>(Ki W E o || (Yr o || (mN l o).all (fun t=>(IN W).all fun n => !Fd t n T || Fd d n T)))&&(IN W).all (fun n => !cT d n)
   |none=>Ki W E o)&&(KI o).all (fun t=>(IN W).all fun n => !Fd t n T))
def GO (W:WL) (E:aK) (l:List Oper) (rs:List (List Nat)) (j:Nat):Bool:=(match l[j]? with
 |some o => !Ki W E o && !Nat.beq (aL E o) 4
 |none=>false)&&(List.range l.length).all (fun x=>Nat.beq x j || bL x (rs.getD j []))
structure Ax (E:aK) (W:WL) (T:List (Nat×Nm)) (l:List Oper) (L:List Nat):Prop where
 nd:L.Nodup
 lt:∀j∈L,j<l.length
 pr:eJ (MJ E l W T (bS l [])) L=true
 or:eJ (ER l) L=true
 ok:∀j∈L,(VJ E l W T (bS l []) j || GO W E l (bS l []) j)=true
 down:∀j o,j∉L→l[j]?=some o→∀a∈cx o,a∉L
theorem Ax.del{pre post:List Nat}{i:Nat}(h:Ax E W T l (pre++i::post)) (hfree:∀o,l[i]?=some o→∀a∈cx o,a∉pre++i::post):Ax E W T l (pre++post)∧(∀j,j∈pre++post↔j∈pre++i::post∧j≠i):=by
 have mem:∀j,j∈pre++post↔j∈pre++i::post∧j≠i:=by
  have hnd:=(List.perm_middle (a:=i) (l₁:=pre) (l₂:=post)).nodup_iff.1 h.nd
  have hi:=(List.nodup_cons.1 hnd).1
  intro j
  rw[List.mem_append,List.mem_append,List.mem_cons]
  constructor
  ·grind
  ·grind
 refine⟨⟨?_,fun j hj=>h.lt j ((mem j).1 hj).1,(fR h.pr).1,(fR h.or).1,fun j hj=>h.ok j ((mem j).1 hj).1,fun j o hj ho a ha q=>?_⟩,mem⟩
 ·have hnd:=(List.perm_middle (a:=i) (l₁:=pre) (l₂:=post)).nodup_iff.1 h.nd
  exact(List.nodup_cons.1 hnd).2
 ·have q:=((mem a).1 q).1
  by_cases e:j=i
  ·simp_all
  ·exact h.down j o (fun w=>hj ((mem j).2 ⟨w,e⟩)) ho a ha q
theorem Ax.reach{L:List Nat}(h:Ax E W T l L){i:Nat}{o:Oper}(ho:l[i]?=some o) (hfree:∀a∈cx o,a∉L):∀x∈L,bL x ((bS l []).getD i [])=false:=by
 intro x hx
 cases q:bL x ((bS l []).getD i [])with
 |false=>rfl
 |true=>exact absurd hx (ou (l:=l) (D:=fun j=>j∉L) h.down i ho hfree (eD.1 q))
theorem Ax.head{L:List Nat}{i:Nat}{o:Oper}(h:Ax E W T l (i::L)) (ho:l[i]?=some o) (hna:i∉cx o):∀a∈cx o,a∉i::L:=by
 intro a ha hm
 rcases List.mem_cons.1 hm with rfl|hm
 ·exact hna ha
 ·have:=(fR (pre:=[]) h.or).2.2 a hm
  unfold ER at this
  rw[ho]at this
  exact bZ this ha
theorem Fg{i x:Nat}(h:GO W E l (bS l []) i=true) (hx:x<l.length) (hne:x≠i):bL x ((bS l []).getD i [])=true:=by
 grind [GO,dJ]
theorem Ax.okx{L:List Nat}(h:Ax E W T l L){i x:Nat}(hi:i∈L) (hx:x∈L) (hne:x≠i) (hf:∀y∈L,bL y ((bS l []).getD i [])=false):VJ E l W T (bS l []) i=true:=by
 have:=h.ok i hi
 rw[Bool.or_eq_true]at this
 rcases this with q|q
 ·exact q
 ·have:=Fg q (h.lt x hx) hne
  rw[hf x hx]at this
  cases this
end
section
variable{E:aK}{l:List Oper}
end
section
variable{P:Program}{X:pm}{L:Nm→Value}{I:Nat→Prop}{s:St}{a:Act}{w:World}{R:Type}
def P5:Ex→Exit→Prop
 | .normal, .normal=>True
 | .exit i, .exit j=>i=j
 | .ret, .ret=>True
 |_,_=>False
def nn (X:pm) (L:Nm→Value) (k:Ex→St→Option R) (y:R) (e:Exit) (a:Act) (w:World):Prop :=
 ∃x s' L' I',P5 x e∧bT X L' I' s' a w∧(∀n,iB n=true→L' n=L n)∧k x s'=some y
def yX (E:aK) (id:Nat) (ops:Array Oper):Prop:=∀S,E.Ω id=some S→vp ops.toList=true∧∀x y,S.g x=some y→∀π∈Ft ops.toList,cY E ops.toList (gE ops.toList π) (eC S.ent x) (fun s'=>ja E.N S.out s')=some y
def ff (E:aK):Code→Prop
 | .region id ops _=>yX E id ops
 | .seq a b=>ff E a∧ff E b
 | .cond _ a b=>ff E a∧ff E b
 | .block _ c=>ff E c
 | .loop c=>ff E c∧∀S,E.Λ (key c)=some S→∃f:Nat→TD (bD S.ent)→Option (EX S.exs),(∀x,f 0 x=none)∧(∃n,S.g=f n)∧∀n x,f (n+1) x=cE E c S (f n) x
 |_=>True
theorem NK{x y:Ex}(h:Ex.eqb x y=true):x=y:=by
 cases x<;>cases y<;>first|rfl|(cases h;done)|exact congrArg Ex.exit (Nat.eq_of_beq_eq_true h)
theorem xe{N:Nat}:∀{l:List (Ex×List En)}{x:Ex}{s:St}{y:EX l},BR N l x s=some y→∃es, ∃z:TD (bD es),ja N es s=some z∧∀(R:Type) (k:Ex→St→Option R),D0 l y k=k x (eC es z)
 |[],_,_,_,h=>by cases h
 |[e],x,s,y,h=>by
  unfold BR at h
  cases q:Ex.eqb e.1 x with
  |false=>rw[q]at h;cases h
  |true =>
   rw[q]at h
   have:=NK q
   exact⟨e.2,y,h,fun R k=>by show k e.1 _=_;rw[this]⟩
 |e::f::r,x,s,y,h=>by
  unfold BR at h
  cases q:Ex.eqb e.1 x with
  |false =>
   rw[q]at h
   simp only[cond_false]at h
   split at h
   ·rename_i y' e1
    obtain rfl:=Option.some.inj h
    obtain⟨es,z,g1,g2⟩:=xe e1
    exact⟨es,z,g1,fun R k=>g2 R k⟩
   ·cases h
  |true =>
   grind [split,NK,EX,BR,bD,ja,D0,eC]
theorem jR (h:bT X L I s a w){es:List En}{x:TD (bD es)}(e:ja X.N es s=some x):∃L' I',bT X L' I' (eC es x) a w∧∀n,iB n=true→L' n=L n:=by
 obtain⟨L',I',h1,_,h2⟩:=we h e (us:=es.map fun e=>a.tmps.getD e.slot undef) (by
  clear e x
  induction es with
  |nil=>trivial
  |cons en es ih=>exact⟨h.slot en.slot,ih⟩) (a':=a) h.defers h.size (fun i en u z1 z2=>by
   rw[List.getElem?_map,z1]at z2
   exact Option.some.inj z2)
 exact⟨L',I',h1,h2⟩
theorem nn.trans{k:Ex→St→Option R}{y:R}{L1:Nm→Value}{e:Exit}(hk:∀n,iB n=true→L1 n=L n) (h:nn X L1 k y e a w):nn X L k y e a w:=by
 simp_all [iB,nn]
theorem C3{E:aK}(hE:tJ P X.K E) (hN:E.N=X.N) (h:bT X L I s a w){id:Nat}{ops:Array Oper}(hr:yX E id ops){k:Ex→St→Option R}{y:R}(e:uo E (.region id ops true) s k=some y) :
  (Code.region id ops true).wp P (nn X L k y) a w:=by
 simp only[uo]at e
 cases q:uJ ops.toList (ox E ops.toList)with
 |false =>
  rw[q]at e
  simp only[cond_false]at e
  unfold Kk at e
  split at e
  ·rename_i S hS
   split at e
   ·rename_i x hx
    split at e
    ·rename_i z hz
     obtain⟨ha,hall⟩:=hr S hS
     have hall:=hall x z hz
     rw[hN]at hx
     obtain⟨L1,I1,h1,hk1⟩:=jR h hx
     refine wp_region_any hE.mo ?_
     have hg:bT X L1 I1 (eC S.ent x) a { w with drawn:=w.drawn+1 }:=h1.grows (bN.drew _ w)
     have:=Fw (L:=L) (k:=fun s'=>ja E.N S.out s') (y:=z) (Q:=nn X L k y) (l:=ops.toList) hE hN (Ip ha) (fun a' w' hp=>by
      obtain⟨s',L',I',r1,r2,r3⟩:=hp
      rw[hN]at r3
      obtain⟨L2,I2,h2,hk2⟩:=jR r1 r3
      exact⟨.normal,_,L2,I2,trivial,h2,fun n hn=>(hk2 n hn).trans (r2 n hn),e⟩) ops.toList.length (List.range ops.toList.length) (Array.replicate ops.size false) (by simp) ⟨by simp,fun i hi=>List.mem_range.1 hi,List.nodup_range,fun i hi=>by
       have hi':i<ops.size:=by trivial
       simp[hi']⟩ hg hk1 hall
     rw[Array.length_toList]at this
     exact this
    ·cases e
   ·cases e
  ·cases e
 |true =>
  rw[q]at e
  simp only[cond_true]at e
  refine wp_region_any hE.mo ?_
  have hg:bT X L I s a { w with drawn:=w.drawn+1 }:=h.grows (bN.drew _ w)
  have hle:=yd E ops.toList
  obtain⟨hl,hlen⟩:=CT hle q
  have:=G0 (L:=L) (k:=k .normal) (y:=y) (Q:=nn X L k y) (l:=ops.toList) hE hN (fun a' w' hp=>by
   obtain⟨s',L',I',r1,r2,r3⟩:=hp
   exact⟨.normal,s',L',I',trivial,r1,r2,r3⟩) ops.size (fC ops.toList (ox E ops.toList)) (iq ops.toList (ox E ops.toList)) (Array.replicate ops.size false) (by
    rw[hlen,Array.length_toList]) (by rw[←Array.length_toList];exact hl) hg (fun _ _=>rfl) e
  exact this
theorem C1{E:aK}(hE:tJ P X.K E) (hN:E.N=X.N):∀(c:Code),ff E c→∀{R:Type}{k:Ex→St→Option R}{y:R}{L:Nm→Value}{I:Nat→Prop}{s:St}{a:Act}{w:World},bT X L I s a w→uo E c s k=some y →
  c.wp P (nn X L k y) a w:=by
 intro c
 induction c with
 |skip=>intro _ R k y L I s a w h e;exact wp_skip ⟨.normal,s,L,I,trivial,h,fun _ _=>rfl,e⟩
 |exit id=>intro _ R k y L I s a w h e;exact wp_exit ⟨.exit id,s,L,I,rfl,h,fun _ _=>rfl,e⟩
 |ret=>intro _ R k y L I s a w h e;exact wp_ret ⟨.ret,s,L,I,trivial,h,fun _ _=>rfl,e⟩
 |region id ops draw =>
  intro hl R k y L I s a w h e
  cases draw with
  |true=>exact C3 hE hN h hl e
  |false =>
   refine wp_region_list ?_
   refine wA (L:=L) (k:=k .normal) (y:=y) (all:=ops.toList) hE hN (fun a' w' hp=>?_) h (fun _ _=>rfl) e
   obtain⟨s',L',I',r1,r2,r3⟩:=hp
   exact⟨.normal,s',L',I',trivial,r1,r2,r3⟩
 |seq x z ihx ihz =>
  intro hl R k y L I s a w h e
  refine wp_seq (Go.wp_mono (ihx hl.1 h e) fun en a' w' hp=>?_)
  obtain⟨x',s',L',I',h1,r1,r2,r3⟩:=hp
  cases x' with
  |normal =>
   cases en<;>try exact h1.elim
   exact Go.wp_mono (ihz hl.2 r1 r3) fun _ _ _ q=>nn.trans r2 q
  |exit i =>
   cases en<;>try exact h1.elim
   exact⟨.exit i,s',L',I',h1,r1,r2,r3⟩
  |ret =>
   cases en<;>try exact h1.elim
   exact⟨.ret,s',L',I',h1,r1,r2,r3⟩
 |cond c x z ihx ihz =>
  intro hl R k y L I s a w h e
  simp only[uo]at e
  split at e
  ·rename_i b hb
   have hv:=h.ev c
   rw[wS hb]at hv
   have hv:a.eval c = .bool b:=List.head_eq_of_cons_eq hv
   cases b with
   |true=>simp only[qw hb]at e;exact wp_cond_true hv (ihx hl.1 h e)
   |false=>simp only[qw hb]at e;exact wp_cond_false hv (ihz hl.2 h e)
  ·cases e
 |block id c ih =>
  intro hl R k y L I s a w h e
  refine wp_block (Go.wp_mono (ih hl h e) fun en a' w' hp=>?_)
  obtain⟨x',s',L',I',h1,r1,r2,r3⟩:=hp
  cases x' with
  |normal =>
   cases en<;>try exact h1.elim
   exact⟨.normal,s',L',I',trivial,r1,r2,r3⟩
  |exit i =>
   cases en with
   |exit j =>
    obtain rfl:i=j:=h1
    dsimp only at r3
    show if i=id then nn X L k y .normal a' w' else nn X L k y (.exit i) a' w'
    cases q:Nat.beq i id with
    |true =>
     rw[q]at r3
     rw[if_pos (Nat.eq_of_beq_eq_true q)]
     exact⟨.normal,s',L',I',trivial,r1,r2,r3⟩
    |false =>
     rw[q]at r3
     rw[if_neg (Nat.ne_of_beq_eq_false q)]
     exact⟨.exit i,s',L',I',rfl,r1,r2,r3⟩
   |_=>exact h1.elim
  |ret =>
   cases en<;>try exact h1.elim
   exact⟨.ret,s',L',I',trivial,r1,r2,r3⟩
 |loop c ih =>
  intro hl R k y L I s a w h e
  simp only[uo]at e
  split at e
  ·rename_i S hS
   split at e
   ·rename_i x hx
    split at e
    ·rename_i z hz
     obtain⟨f,f0,⟨n,hn⟩,fs⟩:=hl.2 S hS
     rw[hn]at hz
     rw[hN]at hx
     obtain⟨L1,I1,h1,hk1⟩:=jR h hx
     refine wp_loop_rounds n ?_
     have main:∀n x,f n x=some z→∀{L1:Nm→Value}{I1:Nat→Prop}{a:Act}{w:World},bT X L1 I1 (eC S.ent x) a w→(∀n,iB n=true→L1 n=L n)→Code.rounds P c (nn X L k y) n a w:=by
      intro n
      induction n with
      |zero=>simp_all
      |succ n ihn =>
       intro x hx L1 I1 a w h1 hk1
       rw[fs]at hx
       rw[rounds_succ]
       refine Go.wp_mono (ih hl.1 h1 hx) fun en a' w' hp=>?_
       obtain⟨x',s',L',I',g1,r1,r2,r3⟩:=hp
       have ends:∀{ex:Ex},P5 ex en→BR E.N S.exs ex s'=some z→nn X L k y en a' w':=by
        grind [xe,jR,ff,uo,nn]
       cases x' with
       |normal =>
        cases en<;>try exact g1.elim
        dsimp only at r3
        split at r3
        ·rename_i x2 hx2
         rw[hN]at hx2
         obtain⟨L2,I2,h2,hk2⟩:=jR r1 hx2
         exact ihn x2 r3 h2 (fun n hn=>(hk2 n hn).trans ((r2 n hn).trans (hk1 n hn)))
        ·cases r3
       |exit i =>
        cases en<;>try exact g1.elim
        exact ends (ex := .exit i) g1 r3
       |ret =>
        cases en<;>try exact g1.elim
        exact ends (ex := .ret) g1 r3
     exact main n x hz h1 hk1
    ·cases e
   ·cases e
  ·cases e
 |_=>intro _ R k y L I s a w h e;cases e
end
section
variable{P:Program}{X:pm}{L:Nm→Value}{I:Nat→Prop}{s:St}{a:Act}{w:World}
theorem bT.extend (h:bT X L I s a w){N r:Nat}(hr:r≤X.N) (hN:r≤N):bT { X with N:=N } L I (s.cut r) { tmps:=first r a.tmps++Array.replicate (N-(first r a.tmps).size) undef,defers:=[] } w:=by
 have hs:=h.size
 have hfs:(first r a.tmps).size=r:=by unfold first;simp;omega
 refine⟨rfl,?_,fun i hi=>?_,fun i hi=>?_,h.obj,h.sep,h.own,h.imm,h.sub,h.step,h.glob⟩
 ·show(first r a.tmps++Array.replicate (N-(first r a.tmps).size) undef).size=N
  simp[hfs];omega
 ·by_cases q:i<r
  ·have e1:(s.cut r).t i=s.t i:=by
    show(bif Nat.blt i r then s.t i else .c .dead)=_
    rw[show Nat.blt i r=true from Nat.ble_eq_true_of_le q];rfl
   have e2:(first r a.tmps++Array.replicate (N-(first r a.tmps).size) undef).getD i undef=a.tmps.getD i undef:=by
    rw[Array.getD_eq_getD_getElem?,Array.getD_eq_getD_getElem?,Array.getElem?_append_left (by rw[hfs];exact q)]
    unfold first
    rw[List.getElem?_toArray,List.getElem?_take,if_pos q]
    simp
   rw[e1,e2];exact h.tmp i (by omega)
  ·have e1:(s.cut r).t i = .c .dead:=by
    show(bif Nat.blt i r then s.t i else .c .dead)=_
    rw[show Nat.blt i r=false from by cases z:Nat.blt i r with|false=>rfl|true=>exact absurd (Nat.le_of_ble_eq_true z) q];rfl
   rw[e1];trivial
 ·have hi:N≤i:=hi
  show(bif Nat.blt i r then s.t i else .c .dead)=_
  rw[show Nat.blt i r=false from by cases z:Nat.blt i r with|false=>rfl|true=>exact absurd (Nat.le_of_ble_eq_true z) (by show ¬(i<r);omega)];rfl
def sI (a:Act):ResultVar→Sem Value
 | .tmp t=>pure (a.tmps.getD t undef)
 | .cell b t=>do loadVar t (←asAddr (a.tmps.getD b undef))
theorem zD (h:bT X L I s a w) {τ:kE}(hτ:dk P τ){v:ResultVar}{x:AV}(e:Cx τ s v=some x) :
  ∃u,(sI a v).run P w = .ok u w∧RA L I w (AL s.o) x u:=by
 cases v with
 |tmp t=>obtain rfl:=Option.some.inj e;exact⟨_,by simp[sI],h.slot t⟩
 |cell b t =>
  simp only[Cx]at e
  split at e
  ·rename_i ti p e1 e2
   have r:=h.slot b
   rw[e2]at r
   obtain⟨b',off,vs,e4,hl,hc,hr,h1⟩:=oV h e r
   refine⟨_,?_,hr⟩
   have:=sG (P:=P) (hτ t ti e1) hl hc h1
   show(do loadVar t (←asAddr (a.tmps.getD b undef))).run P w=_
   rw[e4]
   simp[asAddr,this,Result.andThen]
  ·cases e
theorem rd (h:bT X L I s a w) {τ:kE}(hτ:dk P τ):∀{vs:List ResultVar}{xs:List AV},qi τ s vs=some xs →
  ∃us,(vs.mapM (sI a)).run P w = .ok us w∧aE (RA L I w (AL s.o)) xs us
 |[],_,e=>by obtain rfl:=Option.some.inj e;exact⟨[],by simp,trivial⟩
 |v::vs,_,e=>by
  simp only[qi]at e
  split at e
  ·rename_i x xs e1 e2
   obtain rfl:=Option.some.inj e
   obtain⟨u,g1,g2⟩:=zD h hτ e1
   obtain⟨us,g3,g4⟩:=rd h hτ e2
   exact⟨u::us,by simp[List.mapM_cons,g1,g3,Result.andThen],g2,g4⟩
  ·cases e
theorem uY {τ:kE}:∀{vs:List ResultVar}{xs:List AV},qi τ s vs=some xs→xs.length=vs.length
 |[],_,e=>by obtain rfl:=Option.some.inj e;rfl
 |v::vs,_,e=>by
  simp only[qi]at e
  split at e
  ·rename_i x xs e1 e2
   obtain rfl:=Option.some.inj e
   simp[uY e2]
  ·cases e
theorem AT{fn:Func}{us:List Value}(h:(fn.results.toList.mapM (sI a)).run P w = .ok us w) :
  (results fn a.tmps).run P w = .ok (if h:us.toArray.size=1 then us.toArray[0]else .tuple us.toArray) w:=by
 show(do
  let vs ←fn.results.mapM (sI a)
  pure (if h:vs.size=1 then vs[0]else Value.tuple vs)).run P w=_
 rw[Array.mapM_eq_mapM_toList]
 simp[h,Result.andThen]
def gD (f:Nat→Value):Nat→List B9→List Value
 |_,[]=>[]
 |i, .c (.b _ _)::r=>f i::gD f (i+1) r
 |i, .p _::r=>f i::gD f (i+1) r
 |i, .h _::r=>f i::gD f (i+1) r
 |i,_::r=>gD f (i+1) r
theorem s4{L':Nm→Value}{I':Nat→Prop}{w':World}{A A':Nm→Option (Nat×Nat)}(hk:∀n,iB n=true→L' n=L n):∀{cs:List CV}{us:List Value},cs.all GQ=true→aE (RC L I w A) cs us→aE (RC L' I' w' A') cs us
 |[],[],_,_=>trivial
 |[],_::_,_,r=>r.elim
 |_::_,[],_,r=>r.elim
 |c::cs,u::us,q,r=>by
  rw[List.all_cons,Bool.and_eq_true]at q
  refine⟨?_,s4 hk q.2 r.2⟩
  have q:=q.1
  have r:=r.1
  cases c with
  |own n =>
   obtain⟨x1,x2,x3,r1,r2⟩:=r
   exact⟨x1,x2,x3,r1,by rw[hk n q];exact r2⟩
  |v ty x=>exact cS.plain ty (by simpa [GQ]using q) r
  |_=>cases q
theorem sL{L':Nm→Value}{I':Nat→Prop}{w':World}{A A':Nm→Option (Nat×Nat)}{f:Nat→AV}{g:Nat→Value}(h:∀i,RA L I w A (f i) (g i)) (hk:∀n,iB n=true→L' n=L n):∀{ps:List B9}{k:Nat}{l:List AV},
  zJ f k ps=some l→aE (RA L' I' w' A') l (gD g k ps)
 |[],_,_,e=>by obtain rfl:=Option.some.inj e;trivial
 |p::ps,k,_,e=>by
  simp only[zJ]at e
  split at e
  ·rename_i l e1
   have ih:=sL (L':=L') (I':=I') (w':=w') (A':=A') h hk e1
   have one:rR (f k)=true→RA L' I' w' A' (f k) (g k):=by
    intro q
    have r:=h k
    unfold rR at q
    split at q
    ·rename_i n o en
     rw[en]at r ⊢
     obtain⟨b,off,r1,r2⟩:=r
     exact⟨b,off,by rw[hk n q];exact r1,r2⟩
    ·rename_i n en
     rw[en]at r ⊢
     obtain⟨x1,x2,x3,r1,r2⟩:=r
     exact⟨x1,x2,x3,r1,by rw[hk n q];exact r2⟩
    ·rename_i cs en
     rw[en]at r ⊢
     obtain⟨vs,r1,r⟩:=r
     exact⟨vs,r1,s4 hk q r⟩
    ·cases q
   have two:∀{l2:List AV},(bif rR (f k)then some (f k::l)else none)=some l2→aE (RA L' I' w' A') l2 (g k::gD g (k+1) ps):=by
    intro l2 e
    cases q:rR (f k)with
    |false=>rw[q]at e;cases e
    |true=>rw[q]at e;obtain rfl:=Option.some.inj e;exact⟨one q,ih⟩
   cases p with
   |c q =>
    cases q with
    |i t=>obtain rfl:=Option.some.inj e;exact ih
    |o _ t=>obtain rfl:=Option.some.inj e;exact ih
    |b _ t=>exact two e
    |q _ _=>obtain rfl:=Option.some.inj e;exact ih
    |m _ _ _=>obtain rfl:=Option.some.inj e;exact ih
    |f _ _=>obtain rfl:=Option.some.inj e;exact ih
    |e=>obtain rfl:=Option.some.inj e;exact ih
    |l=>obtain rfl:=Option.some.inj e;exact ih
   |g ps'=>obtain rfl:=Option.some.inj e;exact ih
   |p ps'=>exact two e
   |h ps'=>exact two e
  ·cases e
theorem rM{g:Nat→Value}:∀{ps:List B9}{k i:Nat}{e:En}{u:Value},(gp k ps)[i]?=some e→(gD g k ps)[i]?=some u→u=g e.slot∧e.slot<k+ps.length
 |[],_,_,_,_,h,_=>by cases h
 |p::ps,k,i,e,u,h,h'=>by
  have rest:(gp (k+1) ps)[i]?=some e→(gD g (k+1) ps)[i]?=some u→u=g e.slot∧e.slot<k+(ps.length+1):=fun h h'=>by
   obtain⟨g1,g2⟩:=rM h h';exact⟨g1,by omega⟩
  have cons:∀{en:En},en.slot=k→(en::gp (k+1) ps)[i]?=some e→(g k::gD g (k+1) ps)[i]?=some u→u=g e.slot∧e.slot<k+(ps.length+1):=by
   intro en he h h'
   cases i with
   |zero=>obtain rfl:=Option.some.inj h;obtain rfl:=Option.some.inj h';exact⟨by rw[he],by omega⟩
   |succ i=>obtain⟨g1,g2⟩:=rM (i:=i) h h';exact⟨g1,by omega⟩
  cases p with
  |c q =>
   cases q with
   |i t=>exact rest h h'
   |o _ t=>exact rest h h'
   |b _ t=>exact cons rfl h h'
   |q _ _=>exact rest h h'
   |m _ _ _=>exact rest h h'
   |f _ _=>exact rest h h'
   |e=>exact rest h h'
   |l=>exact rest h h'
  |g ps'=>exact rest h h'
  |p ps'=>exact cons rfl h h'
  |h ps'=>exact cons rfl h h'
theorem i7{g:Nat→Value}:∀(ps:List B9) (k:Nat),(gp k ps).length=(gD g k ps).length
 |[],_=>rfl
 |p::ps,k=>by
  cases p with
  |c q=>cases q<;>simp[gp,gD,i7 (g:=g) ps (k+1)]
  |g ps'=>simp[gp,gD,i7 (g:=g) ps (k+1)]
  |p ps'=>simp[gp,gD,i7 (g:=g) ps (k+1)]
  |h ps'=>simp[gp,gD,i7 (g:=g) ps (k+1)]
theorem wm:∀{rs:List (Bool×List PS)}{k i:Nat}{e:En},(lB k rs)[i]?=some e→e.slot=k+i
 |[],_,_,_,h=>by cases h
 |(b,ps)::rs,k,0,e,h=>by
  obtain rfl:=Option.some.inj (show some (J0 k b ps)=some e from h)
  cases b<;>(cases ps<;>rfl)
 |(b,ps)::rs,k,i+1,e,h=>by
  have h:(lB (k+1) rs)[i]?=some e:=h
  rw[wm h];omega
theorem oo:∀(rs:List (Bool×List PS)) (k:Nat),(lB k rs).length=rs.length
 |[],_=>rfl
 |(b,ps)::rs,k=>by simp[lB,oo rs]
theorem yn:∀{rs:List (Nat×Nm×List PS)}{k i:Nat}{e:En},(Bp k rs)[i]?=some e→e.slot=k+i
 |[],_,_,_,h=>by cases h
 |p::rs,k,0,e,h=>by obtain rfl:=Option.some.inj h;rfl
 |p::rs,k,i+1,e,h=>by
  have h:(Bp (k+1) rs)[i]?=some e:=h
  rw[yn h];omega
theorem RA.getD{A:Nm→Option (Nat×Nat)}{xs:List AV}{us:List Value}(h:aE (RA L I w A) xs us) (i:Nat):RA L I w A (xs.getD i (.c .dead)) (us.getD i undef):=by
 rw[List.getD_eq_getElem?_getD,List.getD_eq_getElem?_getD]
 cases e:xs[i]? with
 |none=>exact trivial
 |some x=>obtain⟨u,e2,r⟩:=h.get e;rw[e2];exact r
theorem Bo{A:Nm→Option (Nat×Nat)}{xs:List AV}{us:List Value}(h:aE (RA L I w A) xs us):∀nb:List (Nat×Nm×List PS),aE (RA L I w A) (nb.map fun p=>xs.getD p.1 (.c .dead)) (nb.map fun p=>us.getD p.1 undef)
 |[]=>trivial
 |p::nb=>⟨RA.getD h p.1,Bo h nb⟩
theorem I8{a'':Act}{np:Nat}{us:List Value}(h:∀j u,us[j]?=some u→a''.tmps.getD (np+j) undef=u):(if h:us.toArray.size=1 then us.toArray[0]else .tuple us.toArray)=AZ a'' np us.length:=by
 match us with
 |[u]=>rw[dif_pos (show #[u].size=1 from rfl)];exact(h 0 u rfl).symm
 |[]=>simp[AZ]
 |u::v::r =>
  have:∀l:List Value,(∀j u,l[j]?=some u→a''.tmps.getD (np+j) undef=u)→(List.range l.length).map (fun j=>a''.tmps.getD (np+j) undef)=l:=by
   intro l hl
   apply List.ext_getElem?
   intro i
   rw[List.getElem?_map]
   rcases Nat.lt_or_ge i l.length with q|q
   ·rw[List.getElem?_range q]
    exact(congrArg some (hl i _ (List.getElem?_eq_getElem q))).trans (List.getElem?_eq_getElem q).symm
   ·rw[List.getElem?_eq_none (by simpa using q),List.getElem?_eq_none q];rfl
  have:=this _ h
  rw[dif_neg (by simp)]
  show _=Value.tuple ((List.range (u::v::r).length).map fun j=>a''.tmps.getD (np+j) undef).toArray
  rw[this]
theorem ML{E:aK}{K:eB}(hE:tJ P K E){f:FuncId}{fn:Func}{c:Code}{S:aa}(hf:P.funcs[f]?=some fn) (hb:fn.body=some c) (hN:E.N=fn.ntmps) (hn:S.pars.length≤fn.ntmps) (hr:fn.results.size=S.res.length)
  (hl:ff E c) (hg:∀x r,S.g x=some r→ar E fn S x=some r):mM P K f S:=by
 intro Y L I a w x r hx h hK hY hw
 subst hK
 refine calls_of_wp hf hb ?_
 have hreal:S.real≤S.pars.length:=by unfold aa.real;omega
 have h1:=h.extend (N:=fn.ntmps) (r:=S.real) (by rw[hY];exact hreal) (by omega)
 have e:=hg x r hx
 unfold ar at e
 rw[hb]at e
 dsimp only at e
 refine Go.wp_mono (C1 hE (X:={ Y with N:=fn.ntmps }) hN c hl h1 e) fun en a' w' hp=>?_
 obtain⟨ex,s',L',I',hx',r1,r2,r3⟩:=hp
 have fin:I7 E fn S (eC (aB 0 S.pars) x) s'=some r→a'.defers=[]∧∃v,(results fn a'.tmps).run P w' = .ok v w' ∧
   ∃v' L2 I2 a2,Ending.returned v = .returned v'∧bT { Y with N:=S.pars.length+(S.res.length+S.nb.length) } L2 I2 (eC S.ens r) a2 w'∧(∀n,iB n=true→L2 n=L n)∧v'=AZ a2 S.pars.length S.res.length:=by
  intro e
  refine⟨r1.defers,?_⟩
  unfold I7 at e
  split at e
  ·rename_i rs os e1 e2
   obtain⟨us,g1,g2⟩:=rd r1 hE.τ e1
   have hul:us.length=S.res.length:=by
    rw[←g2.len,uY e1, ←hr];simp
   have hos:=sL (L':=L') (I':=I') (w':=w') (A':=AL s'.o) (g:=fun i=>a.tmps.getD i undef) (fun i=>h.slot i) r2 e2
   have hsz:a.tmps.size=S.pars.length:=by rw[h.size,hY]
   let bs:=S.nb.map fun p=>us.getD p.1 undef
   have hbl:bs.length=S.nb.length:=List.length_map ..
   have hat:∀j u,us[j]?=some u→(a.tmps++us.toArray++bs.toArray).getD (S.pars.length+j) undef=u:=by
    intro j u hj
    have hjl:j<us.length:=(List.getElem?_eq_some_iff.1 hj).1
    rw[Array.getD_eq_getD_getElem?,Array.getElem?_append_left (by simp;omega),Array.getElem?_append_right (by omega),hsz,Nat.add_sub_cancel_left]
    simp[hj]
   have hat2:∀j u,bs[j]?=some u→(a.tmps++us.toArray++bs.toArray).getD (S.pars.length+S.res.length+j) undef=u:=by
    intro j u hj
    have:(a.tmps++us.toArray).size=S.pars.length+S.res.length:=by simp[hsz,hul]
    rw[Array.getD_eq_getD_getElem?,Array.getElem?_append_right (by omega),this,Nat.add_sub_cancel_left,List.getElem?_toArray,hj];rfl
   obtain⟨L2,I2,k1,_,k3⟩:=we r1 e (hos.append (g2.append (Bo g2 S.nb))) (a':=⟨a.tmps++us.toArray++bs.toArray,[]⟩) rfl (by simp[hsz,hul,hbl]) (fun i en u z1 z2=>by
    unfold dA at z1
    rcases Nat.lt_or_ge i (gp 0 S.pars).length with q|q
    ·rw[List.getElem?_append_left q]at z1
     rw[List.getElem?_append_left (by rw[←i7];exact q)]at z2
     obtain⟨y1,y2⟩:=rM z1 z2
     rw[y1,Array.getD_eq_getD_getElem?,Array.append_assoc,Array.getElem?_append_left (by omega), ←Array.getD_eq_getD_getElem?]
    ·rw[List.getElem?_append_right q]at z1
     rw[List.getElem?_append_right (by rw[←i7];exact q), ←i7]at z2
     generalize i-(gp 0 S.pars).length=m at z1 z2
     rcases Nat.lt_or_ge m S.res.length with q2|q2
     ·rw[List.getElem?_append_left (by rw[oo];exact q2)]at z1
      rw[List.getElem?_append_left (by omega)]at z2
      rw[wm z1]
      exact hat _ u z2
     ·rw[List.getElem?_append_right (by rw[oo];exact q2),oo]at z1
      rw[List.getElem?_append_right (by omega),hul]at z2
      rw[yn z1]
      exact hat2 _ u z2)
   refine⟨_,AT g1,_,L2,I2,⟨a.tmps++us.toArray++bs.toArray,[]⟩,rfl,k1,fun n hn=>(k3 n hn).trans (r2 n hn),?_⟩
   rw[←hul]
   exact I8 (a'':=⟨a.tmps++us.toArray++bs.toArray,[]⟩) hat
  ·cases e
 cases ex with
 |normal =>
  cases en<;>try exact hx'.elim
  exact fin r3
 |exit i=>cases r3
 |ret =>
  cases en<;>try exact hx'.elim
  exact fin r3
end
def FY (sz:TypeId→Nat) (r:TypeId→Option Ty):Nat→List Field→Option Ty
 |_,[]=>none
 |off,[f]=>match r f.type with
  |some t=>bif Nat.beq f.offset off&&Nat.beq (sz f.type) t.sz then some t else none
  |none=>none
 |off,f::g::l=>match r f.type with
  |some t=>bif Nat.beq f.offset off&&Nat.beq (sz f.type) t.sz then(match FY sz r (off+t.sz) (g::l)with
   |some u=>some (.pr t u)
   |none=>none)else none
  |none=>none
def AI (P:Program):Nat→TypeId→Option Ty
 |0,_=>none
 |n+1,T=>match P.underlying T with
  |some (.int k)=>some (.int k)
  |some .bool=>some .bool
  |some .string=>some .str
  |some (.slice e)=>match AI P n e with
   |some t=>bif Nat.beq (P.cellsOf e) t.sz then some (.sl t)else none
   |none=>none
  |some (.struct fs)=>match FY P.cellsOf (AI P n) 0 fs.toList with
   |some t=>bif Nat.beq (P.cellsOf T) t.sz then some t else none
   |none=>none
  |_=>none
def oT:(t:Ty)→t.den→Prop
 | .int k,n=>(Lit.int k n).wf=true
 | .bool,_=>True
 | .str,s=>ByteArray.size s≤maxLen
 | .sl t,xs=>List.length xs≤maxLen∧∀x∈(show List t.den from xs),oT t x
 | .pr a b,x=>oT a x.1∧oT b x.2
section
variable{H:Type}{enc:TypeId×Value→H}{P:Program}{w:World}{sp:Nat→Bool}{held:Bool}
theorem Fz{a:Addr}{n:Nat}{cs:List Value}(h:w.cells? 0 a n=some cs):cs.length=n∧∀j u,cs[j]?=some u→w.cell? (a.add j)=some u:=by
 unfold World.cells? at h
 split at h
 ·have hl:=mapM_some_length h
  refine⟨by simpa using hl,fun j u hu=>?_⟩
  have hj:j<n:=by
   grind
  have:=mapM_some_get h j j (by simp[hj])
  rw[this,hu]
 ·cases h
theorem FA{a:Addr}{u:Value}(h:w.cell? a=some u):a=⟨a.block,a.off,none⟩∧a.block<w.heap.size:=by
 have hspot:a.spot=none:=by
  cases hsp:a.spot with
  |none=>rfl
  |some s =>
   grind [split,World.cell?]
 exact⟨by cases a;simp_all,World.block_lt_of_cell? w a h⟩
theorem FG (b off j:Nat):(⟨b,off,none⟩:Addr).add j=⟨b,off+j,none⟩:=by
 unfold Addr.add
 by_cases h:j=0
 ·subst h;rfl
 ·simp_all
def Iz (w:World) (t:Ty) (cs:List Value):Prop:=∃d:t.den,cS (fun b=>b<w.heap.size) w t d cs∧oT t d
theorem vh {α β:Type}{R:Nat→α→β→Prop}:∀{n:Nat},(∀i,i<n→∃a b,R i a b)→∃(xs:List α) (ys:List β),xs.length=n∧ys.length=n∧∀(i:Nat) (x:α) (y:β),xs[i]?=some x→ys[i]?=some y→R i x y
 |0,_=>⟨[],[],rfl,rfl,fun _ _ _ h=>by cases h⟩
 |n+1,h=>by
  obtain⟨xs,ys,h1,h2,h3⟩:=vh (n:=n) (fun i hi=>h i (by omega))
  obtain⟨a,b,hab⟩:=h n (by omega)
  refine⟨xs++[a],ys++[b],by simp[h1],by simp[h2],fun i x y hx hy=>?_⟩
  rcases Nat.lt_or_ge i n with q|q
  ·grind
  ·grind
theorem vo {α β:Type}{R:α→β→Prop}:∀{xs:List α}{ys:List β},xs.length=ys.length→(∀(i:Nat) (x:α) (y:β),xs[i]?=some x→ys[i]?=some y→R x y)→aE R xs ys
 |[],[],_,_=>trivial
 |x::xs,y::ys,h,g=>⟨g 0 x y rfl rfl,vo (by simpa using h) (fun i a b ha hb=>g (i+1) a b ha hb)⟩
 |[],_::_,h,_=>by cases h
 |_::_,[],h,_=>by cases h
theorem vf{sz:Nat}:∀{css:List (List Value)},(∀cs∈css,cs.length=sz)→∀{j:Nat}{u:Value},css.flatten[j]?=some u→∃i k cs,j=i*sz+k∧css[i]?=some cs∧cs[k]?=some u
 |[],_,_,_,h=>by simp at h
 |c::css,hl,j,u,h=>by
  rw[List.flatten_cons]at h
  have hc:=hl c (List.mem_cons_self ..)
  rcases Nat.lt_or_ge j c.length with q|q
  ·rw[List.getElem?_append_left q]at h
   exact⟨0,j,c,by omega,rfl,h⟩
  ·rw[List.getElem?_append_right q]at h
   obtain⟨i,k,cs,h1,h2,h3⟩:=vf (fun x hx=>hl x (List.mem_cons_of_mem _ hx)) h
   exact⟨i+1,k,cs,by rw[Nat.add_mul];omega,h2,h3⟩
theorem I9{e:Nat}{t:Ty}{n:Nat}(ih:∀cs (x:DataW H×List MemPlace),DataW.trod enc P w 0 sp held n e cs=some x→Iz w t cs) (hsz:P.cellsOf e=t.sz){a:Addr}{len cap:Nat}(hl:len≤cap) (hc:cap≤maxLen)
  {el:Nat→Option (DataW H×List MemPlace)}(hel:∀i,i<len→(w.cells? 0 (a.add (i*P.cellsOf e)) (P.cellsOf e)).bind (DataW.trod enc P w 0 sp held n e)=el i) (hs:∀i,i<len→(el i).isSome=true):Iz w (.sl t) [.slice (some a) len cap]:=by
 have each:∀i,i<len→∃(d:t.den) (cs:List Value),(cS (fun b=>b<w.heap.size) w t d cs∧oT t d)∧(∀k u,cs[k]?=some u→w.cell? ((a.add (i*t.sz)).add k)=some u)∧cs.length=t.sz:=by
  intro i hi
  have h1:=hel i hi
  have h2:=hs i hi
  cases he:el i with
  |none=>simp_all
  |some y =>
   rw[he,Option.bind_eq_some_iff]at h1
   obtain⟨cs,h3,h4⟩:=h1
   obtain⟨d,h5⟩:=ih cs y h4
   rw[hsz]at h3
   obtain⟨h6,h7⟩:=Fz h3
   exact⟨d,cs,h5,h7,h6⟩
 obtain⟨xs,css,g1,g2,g3⟩:=vh each
 have add2:∀(i k:Nat),(a.add i).add k=a.add (i+k):=by
  intro i k
  unfold Addr.add
  by_cases hi:i=0
  ·simp_all
  ·grind
 have hcl:∀cs∈css,cs.length=t.sz:=by
  intro cs hcs
  obtain⟨i,hi⟩:=List.getElem?_of_mem hcs
  have hlt:i<xs.length:=by have:=(List.getElem?_eq_some_iff.1 hi).1;omega
  exact(g3 i _ cs (List.getElem?_eq_getElem hlt) hi).2.2
 refine⟨xs,⟨some a,cap,css,by rw[g1],by rw[g1];exact hl,vo (by omega) (fun i x cs hx hcs=>(g3 i x cs hx hcs).1.1),?_⟩,by rw[g1];omega,fun x hx=>?_⟩
 ·cases hxs:xs with
  |nil=>exact .inl rfl
  |cons x0 r =>
   refine .inr ?_
   have h0:0<len:=by grind
   have hcss:0<css.length:=by omega
   have e0:=g3 0 xs[0] css[0] (List.getElem?_eq_getElem (by omega)) (List.getElem?_eq_getElem hcss)
   have hp:=t.sz_pos
   have hk0:0<css[0].length:=by omega
   have c0:=e0.2.1 0 css[0][0] (List.getElem?_eq_getElem hk0)
   rw[add2,show 0*t.sz+0=0 by omega]at c0
   obtain⟨hsp,s3⟩:=FA (show w.cell? a=_ from c0)
   refine⟨a.block,a.off,by rw[←hsp],s3,fun j u hu=>?_⟩
   obtain⟨i,k,cs,q1,q2,q3⟩:=vf hcl hu
   have hlt:i<xs.length:=by grind
   have c1:=(g3 i _ cs (List.getElem?_eq_getElem hlt) q2).2.1 k u q3
   rw[add2,hsp,FG]at c1
   rw[q1]
   exact c1
 ·obtain⟨i,hi⟩:=List.getElem?_of_mem hx
  have hlt:i<css.length:=by grind
  exact(g3 i x _ hi (List.getElem?_eq_getElem hlt)).1.2
theorem Du{n:Nat}{r:TypeId→Option Ty}(ih:∀T t,r T=some t→∀cs (x:DataW H×List MemPlace),DataW.trod enc P w 0 sp held n T cs=some x→Iz w t cs){cs:List Value}:∀(fs:List Field) (off:Nat) (t:Ty),FY P.cellsOf r off fs=some t →
  (∀f∈fs, ∃x,DataW.trod enc P w 0 sp held n f.type ((cs.drop f.offset).take (P.cellsOf f.type))=some x)→(cs.drop off).length=t.sz→Iz w t (cs.drop off)
 |[],_,_,h,_,_=>by cases h
 |[f],off,t,h,hf,hl=>by
  simp only[FY]at h
  split at h
  ·rename_i u hu
   cases q:(Nat.beq f.offset off&&Nat.beq (P.cellsOf f.type) u.sz)with
   |false=>simp_all
   |true =>
    rw[q]at h
    obtain rfl:=Option.some.inj h
    rw[Bool.and_eq_true]at q
    obtain⟨x,hx⟩:=hf f (List.mem_cons_self ..)
    rw[Nat.eq_of_beq_eq_true q.1,Nat.eq_of_beq_eq_true q.2,List.take_of_length_le (by omega)]at hx
    exact ih _ _ hu _ x hx
  ·cases h
 |f::g::l,off,t,h,hf,hl=>by
  simp only[FY]at h
  split at h
  ·rename_i u hu
   cases q:(Nat.beq f.offset off&&Nat.beq (P.cellsOf f.type) u.sz)with
   |false=>simp_all
   |true =>
    rw[q]at h
    simp only[cond_true]at h
    rw[Bool.and_eq_true]at q
    split at h
    ·rename_i v hv
     obtain rfl:=Option.some.inj h
     obtain⟨x,hx⟩:=hf f (List.mem_cons_self ..)
     rw[Nat.eq_of_beq_eq_true q.1,Nat.eq_of_beq_eq_true q.2]at hx
     obtain⟨d1,r1,f1⟩:=ih _ _ hu _ x hx
     have hl2:(cs.drop (off+u.sz)).length=v.sz:=by
      rw[←List.drop_drop,List.length_drop,hl]
      show u.sz+v.sz-u.sz=_
      omega
     obtain⟨d2,r2,f2⟩:=Du ih (g::l) (off+u.sz) v hv (fun y hy=>hf y (List.mem_cons_of_mem _ hy)) hl2
     refine⟨(d1,d2),⟨_,_,?_,r1,r2⟩,f1,f2⟩
     rw[←List.drop_drop,List.take_append_drop]
    ·cases h
  ·cases h
theorem ot:∀(n:Nat) (T:TypeId) (t:Ty),AI P n T=some t→∀(fuel:Nat) (cs:List Value) (x:DataW H×List MemPlace),DataW.trod enc P w 0 sp held fuel T cs=some x→Iz w t cs
 |0,_,_,h,_,_,_,_=>by cases h
 |n+1,T,t,h,fuel,cs,x,hx=>by
  unfold AI at h
  split at h
  ·rename_i k hu
   obtain rfl:=Option.some.inj h
   obtain⟨m,rfl,_,hw⟩:=DataW.trod_int hu hx
   exact⟨m,rfl,hw⟩
  ·rename_i hu
   obtain rfl:=Option.some.inj h
   obtain⟨m,rfl,_⟩:=DataW.trod_bool hu hx
   exact⟨m,rfl,trivial⟩
  ·rename_i hu
   obtain rfl:=Option.some.inj h
   obtain⟨s,rfl,_,hs⟩:=DataW.trod_string hu hx
   exact⟨s,rfl,hs⟩
  ·rename_i e hu
   split at h
   ·rename_i u he
    cases q:Nat.beq (P.cellsOf e) u.sz with
    |false=>simp_all
    |true =>
     rw[q]at h
     obtain rfl:=Option.some.inj h
     rcases DataW.trod_slice hu hx with⟨rfl,_⟩|⟨a,len,cap,elems,rest,m,rfl,rfl,rfl,_,hl,hm,hlen,hel,_,_⟩
     ·exact⟨[],⟨none,0,[],rfl,Nat.le_refl _,trivial, .inl rfl⟩,Nat.zero_le _,fun x hx=>by cases hx⟩
     ·exact I9 (fun cs y hy=>ot n e u he m cs y hy) (Nat.eq_of_beq_eq_true q) hl hm hel (fun i hi=>by rw[List.getElem?_eq_getElem (by omega)];rfl)
   ·cases h
  ·rename_i fs hu
   split at h
   ·rename_i u hf
    cases q:Nat.beq (P.cellsOf T) u.sz with
    |false=>simp_all
    |true =>
     rw[q]at h
     obtain rfl:=Option.some.inj h
     obtain⟨xs,m,rfl,rfl,hcl,hxl,hel⟩:=DataW.trod_struct hu hx
     have:=Du (P:=P) (fun T t ht cs y hy=>ot n T t ht m cs y hy) (cs:=cs) fs.toList 0 u hf (fun f hfm=>by
      obtain⟨i,hi⟩:=List.getElem?_of_mem hfm
      have hi':fs[i]?=some f:=by simpa using hi
      have hlt:i<xs.length:=by rw[hxl];exact(Array.getElem?_eq_some_iff.1 hi').1
      refine⟨xs[i],?_⟩
      rw[hel i f hi',List.getElem?_eq_getElem hlt]) (by rw[List.drop_zero,hcl];exact Nat.eq_of_beq_eq_true q)
     simpa using this
   ·cases h
  ·cases h
end
def flat:Ty→List Ty
 | .pr a b=>flat a++flat b
 | .int k=>[.int k]
 | .bool=>[.bool]
 | .str=>[.str]
 | .sl t=>[.sl t]
def yQ:(t:Ty)→t.den→List DV
 | .pr a b,x=>yQ a x.1++yQ b x.2
 | .int k,x=>[⟨.int k,x⟩]
 | .bool,x=>[⟨.bool,x⟩]
 | .str,x=>[⟨.str,x⟩]
 | .sl t,x=>[⟨.sl t,x⟩]
def DV.cv (d:DV):CV := .v d.t d.x
theorem D3:∀(t:Ty) (x:t.den),(yQ t x).map DV.t=flat t
 | .pr a b,x=>by simp only[yQ,flat,List.map_append,D3 a,D3 b]
 | .int k,x=>rfl
 | .bool,x=>rfl
 | .str,x=>rfl
 | .sl t,x=>rfl
theorem uI:∀(t:Ty) (x:t.den),(yQ t x).map DV.cv=split t x
 | .pr a b,x=>by simp only[yQ,split,List.map_append,uI a,uI b]
 | .int k,x=>rfl
 | .bool,x=>rfl
 | .str,x=>rfl
 | .sl t,x=>rfl
theorem xf:∀(t:Ty) (x:t.den),oT t x→∀d∈yQ t x,oT d.t d.x
 | .pr a b,x,h,d,hd=>by
  rcases List.mem_append.1 hd with q|q
  ·exact xf a _ h.1 d q
  ·exact xf b _ h.2 d q
 | .int k,x,h,d,hd=>by grind [oT,yQ]
 | .bool,x,h,d,hd=>by grind [oT,yQ]
 | .str,x,h,d,hd=>by grind [oT,yQ]
 | .sl t,x,h,d,hd=>by grind [oT,yQ]
theorem EQ{t u:Ty}{r:List Ty}{d:DV}{ds:List DV}{x:t.den}{y:TD (u::r)}(h1:d.as t=some x) (h2:sK (u::r) ds=some y):sK (t::u::r) (d::ds)=some (x,y):=by
 unfold sK
 rw[h1,h2]
theorem yg:∀ds:List DV, ∃x,sK (ds.map DV.t) ds=some x
 |[]=>⟨(),rfl⟩
 |[d]=>⟨d.x,la d.x⟩
 |d::e::r=>by
  obtain⟨x,hx⟩:=yg (e::r)
  exact⟨(d.x,x),EQ (la d.x) hx⟩
structure jo where
 t:Ty
 agg:Bool
 x:t.den
 u:Value
def jo.par (a:jo):B9:=bif a.agg then .g ((flat a.t).map .i)else .c (.i a.t)
def jo.dv (a:jo):List DV:=bif a.agg then yQ a.t a.x else [⟨a.t,a.x⟩]
def jo.av (a:jo):AV:=bif a.agg then .g (split a.t a.x)else .c (.v a.t a.x)
def jo.ok (w:World) (a:jo):Prop:=oT a.t a.x∧(a.agg=true→∃vs,a.u = .agg vs.toArray∧cS (fun b=>b<w.heap.size) w a.t a.x vs)∧(a.agg=false→cS (fun b=>b<w.heap.size) w a.t a.x [a.u])
theorem yq (nm:Nat→PS→Nm):∀(ts:List Ty) (k:Nat) (ds:List DV),ds.length=ts.length→gG nm k (ts.map .i) ds=ds.map DV.cv∧tX nm k (ts.map .i) ds=[]
 |[],_,[],_=>⟨rfl,rfl⟩
 |[],_,_::_,h=>by cases h
 |_::_,_,[],h=>by cases h
 |t::ts,k,d::ds,h=>by
  obtain⟨h1,h2⟩:=yq nm ts (k+1) ds (by simpa using h)
  constructor
  ·simp_all [pL,gG,DV.cv,tX]
  ·trivial
def vn:Nat→List jo→List (Nat×AV)
 |_,[]=>[]
 |k,a::r=>(k,a.av)::vn (k+1) r
theorem DM:∀(l:List jo) (k:Nat),dH (aB k (l.map jo.par)) (l.flatMap jo.dv)=vn k l∧iA (aB k (l.map jo.par)) (l.flatMap jo.dv)=[]∧bD (aB k (l.map jo.par))=(l.flatMap jo.dv).map DV.t
 |[],_=>⟨rfl,rfl,rfl⟩
 |a::r,k=>by
  obtain⟨h1,h2,h3⟩:=DM r (k+1)
  obtain⟨t,agg,x,u⟩:=a
  cases agg with
  |true =>
   have hl:(yQ t x).length=(flat t).length:=by rw[←D3 t x,List.length_map]
   have hl2:(yQ t x).length=((flat t).map PS.i).length:=by rw[List.length_map];exact hl
   obtain⟨c1,c2⟩:=yq (rO k) (flat t) 0 (yQ t x) hl
   refine⟨?_,?_,?_⟩
   ·show(k,AV.g (gG (rO k) 0 ((flat t).map PS.i) ((yQ t x++r.flatMap jo.dv).take ((flat t).map PS.i).length)))::dH (aB (k+1) (r.map jo.par)) ((yQ t x++r.flatMap jo.dv).drop ((flat t).map PS.i).length)=_
    rw[←hl2,List.take_left,List.drop_left,h1,c1,uI];rfl
   ·show tX (rO k) 0 ((flat t).map PS.i) ((yQ t x++r.flatMap jo.dv).take ((flat t).map PS.i).length)++iA (aB (k+1) (r.map jo.par)) ((yQ t x++r.flatMap jo.dv).drop ((flat t).map PS.i).length)=_
    rw[←hl2,List.take_left,List.drop_left,h2,c2];rfl
   ·show((flat t).map PS.i).map PS.ty++bD (aB (k+1) (r.map jo.par))=(yQ t x++r.flatMap jo.dv).map DV.t
    rw[h3,List.map_append,D3,List.map_map]
    congr 1
    exact(List.map_congr_left fun _ _=>rfl).trans (List.map_id _)
  |false =>
   refine⟨?_,?_,?_⟩
   ·show(k,AV.c (.v t x))::dH (aB (k+1) (r.map jo.par)) (r.flatMap jo.dv)=_
    rw[h1];rfl
   ·trivial
   ·show t::bD (aB (k+1) (r.map jo.par))=t::(r.flatMap jo.dv).map DV.t
    rw[h3]
theorem yx{L:Nm→Value}{I:Nat→Prop}{w:World}{A:Nm→Option (Nat×Nat)}:∀(l:List jo) (k i:Nat),(∀a∈l,RA L I w A a.av a.u)→RA L I w A (dt (vn k l) (k+i)) ((l.map jo.u).getD i undef)
 |[],_,_,_=>trivial
 |a::r,k,0,h=>by
  simp_all [jo.av,dt,vn]
 |a::r,k,i+1,h=>by
  show RA L I w A (bif Nat.beq k (k+(i+1))then a.av else dt (vn (k+1) r) (k+(i+1))) _
  rw[dJ (by omega:k≠k+(i+1)),show k+(i+1)=(k+1)+i by omega]
  exact yx r (k+1) i (fun b hb=>h b (List.mem_cons_of_mem _ hb))
theorem DR:∀(l:List jo) (k i:Nat),k+l.length≤i→dt (vn k l) i = .c .dead
 |[],_,_,_=>rfl
 |a::r,k,i,h=>by
  show(bif Nat.beq k i then a.av else dt (vn (k+1) r) i)=_
  have h:k+(r.length+1)≤i:=h
  rw[dJ (by omega:k≠i)]
  exact DR r (k+1) i (by omega)
theorem u5:∀(l:List jo) (k:Nat),gp k (l.map jo.par)=[]
 |[],_=>rfl
 |a::r,k=>by
  obtain⟨t,agg,x,u⟩:=a
  have:=u5 r (k+1)
  cases agg<;>exact this
def IF (ts:List Ty) (x:TD ts):Prop:=∀d∈aq ts x,oT d.t d.x
theorem kC{n:Nat}{xs:Array Value}(h:xs.size≤n):first n xs=xs:=by
 grind [first]
theorem Ff{P:Program}{K:eB}{f:FuncId}{pars:List B9}{g:Nat→TD (bD (aB 0 pars))→Option (TD (bD (dA pars [(false,[.i .bool])] [])))}
  (obs:∀n,mM P K f { pars:=pars,res:=[(false,[.i .bool])],g:=g n }) (pure:∀x,IF _ x→∃n r,g n x=some r∧aq _ r=[⟨.bool,true⟩])
  {W:World}(hK:K.ok W) (hKb:∀b,K.blk b→b<W.heap.size){l:List jo}(hl:l.map jo.par=pars) (hok:∀a∈l,a.ok W) :
  Calls P f (l.map jo.u).toArray W fun e w'=>e = .returned (.bool true)∧RowKit.Below W.heap.size W w':=by
 subst hl
 obtain⟨m1,m2,m3⟩:=DM l 0
 obtain⟨x,hx⟩:∃x,sK (bD (aB 0 (l.map jo.par))) (l.flatMap jo.dv)=some x:=by
  rw[m3];exact yg _
 have hux:=mV hx
 obtain⟨n,r,hr,hur⟩:=pure x (fun d hd=>by
  rw[hux]at hd
  obtain⟨a,ha,hd⟩:=List.mem_flatMap.1 hd
  have hf:=(hok a ha).1
  obtain⟨t,agg,y,u⟩:=a
  cases agg with
  |true=>exact xf t y hf d hd
  |false=>obtain rfl:=List.mem_singleton.1 hd;exact hf)
 let Y:pm:={ K:=K,N:=l.length,w0:=W,E:=fun _ _=>False,I0:=fun b=>b<W.heap.size }
 have hst:eC (aB 0 (l.map jo.par)) x=⟨dt (vn 0 l),fun _=>none⟩:=by
  unfold eC FQ
  rw[hux,m1,m2]
  rfl
 have hrel:bT Y (fun _=>undef) (fun b=>b<W.heap.size) (eC (aB 0 (l.map jo.par)) x) ⟨(l.map jo.u).toArray,[]⟩ W:=by
  rw[hst]
  refine⟨rfl,by simp[Y],fun i hi=>?_,fun i hi=>DR l 0 i (by show 0+l.length≤i;have:l.length≤i:=hi;omega),fun _ _ h=>(by cases h),fun _ _ _ _ h=>(by cases h),fun _ _ h=>(by cases h),fun b hb=>⟨hb, .inl hb⟩,fun b hb=>hb,bN.refl _ _,hK,hKb⟩
  have:=yx (L:=fun _=>undef) (I:=fun b=>b<W.heap.size) (w:=W) (A:=AL (fun _=>none)) l 0 i (fun a ha=>by
   obtain⟨_,h2,h3⟩:=hok a ha
   obtain⟨t,agg,y,u⟩:=a
   cases agg with
   |true=>obtain⟨vs,h4,h5⟩:=h2 rfl;exact⟨vs,h4,fO t h5⟩
   |false=>exact h3 rfl)
  rw[Nat.zero_add]at this
  simpa using this
 have hc:=obs n Y _ _ ⟨(l.map jo.u).toArray,[]⟩ W x r hr hrel rfl (by simp[Y]) rfl
 rw[show first (aa.real { pars:=l.map jo.par,res:=[(false,[.i .bool])],g:=g n }) (⟨(l.map jo.u).toArray,[]⟩:Act).tmps=(l.map jo.u).toArray from kC (by unfold aa.real;simp)]at hc
 refine hc.mono fun e w' h=>?_
 obtain⟨v,L',I',a',rfl,hR,_,rfl⟩:=h
 have hs:=hR.slot (l.map jo.par).length
 have hlk:(eC (aa.ens { pars:=l.map jo.par,res:=[(false,[.i .bool])],g:=g n }) r).t (l.map jo.par).length = .c (.v .bool true):=by
  unfold eC FQ
  rw[show aq (bD (aa.ens { pars:=l.map jo.par,res:=[(false,[.i .bool])],g:=g n })) r=[⟨.bool,true⟩]from hur]
  show dt (dH (gp 0 (l.map jo.par)++_) _) _=_
  rw[u5]
  show(bif Nat.beq (l.map jo.par).length (l.map jo.par).length then _ else _)=_
  rw[Nat.beq_refl];rfl
 rw[hlk]at hs
 have hs:a'.tmps.getD (l.map jo.par).length undef = .bool true:=List.head_eq_of_cons_eq hs
 exact⟨congrArg Ending.returned hs,bN.below hR.step⟩
def DV.val:DV→Value
 |⟨.int k,n⟩ => .int k n
 |⟨.bool,b⟩ => .bool b
 |⟨.str,s⟩ => .string s
 |_=>undef
def Gb:List Value→Value
 |[v]=>v
 |vs => .tuple vs.toArray
def Ty.one:Ty→Bool
 | .int _=>true
 | .bool=>true
 | .str=>true
 |_=>false
def cX (ts:List Ty):List B9:=ts.map fun t => .c (.i t)
def dF (ts:List PS):List (Bool×List PS):=ts.map fun p=>(false,[p])
def PS.outs:PS→Bool
 | .i t=>t.one
 | .e=>true
 |_=>false
def U5 (p:PS) (d:DV) (v:Value):Prop:=match p with
 | .e=>∃b,d.as .bool=some b∧match b with
  |true=>∃t x,v = .iface t x
  |false=>v = .nilIface
 |_=>v=DV.val d
def xV:List PS→List DV→List Value→Prop
 |[],[],[]=>True
 |p::ps,d::ds,v::vs=>U5 p d v∧xV ps ds vs
 |_,_,_=>False
theorem xV.len:∀{ps:List PS}{ds:List DV}{vs:List Value},xV ps ds vs→ds.length=ps.length∧vs.length=ps.length
 |[],[],[],_=>⟨rfl,rfl⟩
 |_::_,_::_,_::_,h=>by obtain⟨g1,g2⟩:=xV.len h.2;exact⟨by simp[g1],by simp[g2]⟩
 |[],[],_::_,h=>h.elim
 |[],_::_,_,h=>h.elim
 |_::_,[],_,h=>h.elim
 |_::_,_::_,[],h=>h.elim
theorem xV.get:∀{ps:List PS}{ds:List DV}{vs:List Value},xV ps ds vs→∀{i:Nat}{p:PS}{d:DV},ps[i]?=some p→ds[i]?=some d→∃v,vs[i]?=some v∧U5 p d v
 |[],_,_,_,_,_,_,h,_=>by cases h
 |_::_,_::_,v::_,h,0,_,_,e,e2=>by simp_all [kE.get,xV,U5]
 |_::_,_::_,_::_,h,i+1,_,_,e,e2=>xV.get h.2 (i:=i) e e2
 |_::_,[],_,h,_,_,_,_,_=>h.elim
 |_::_,_::_,[],h,_,_,_,_,_=>h.elim
theorem DB{t:Ty}(h:t.one=true){x:t.den}{u:Value}{I:Nat→Prop}{w:World}:cS I w t x [u]↔u=DV.val ⟨t,x⟩:=by
 cases t with
 |int k=>simp_all [Ty.one,cS,DV.val]
 |bool=>simp_all [Ty.one,cS,DV.val]
 |str=>simp_all [Ty.one,cS,DV.val]
 |sl t=>cases h
 |pr a b=>cases h
theorem sj:∀(ts:List Ty) (k:Nat),bD (aB k (cX ts))=ts
 |[],_=>rfl
 |t::ts,k=>congrArg (t::·) (sj ts (k+1))
theorem oP:∀(ts:List PS) (k:Nat),bD (lB k (dF ts))=ts.map PS.ty
 |[],_=>rfl
 |t::ts,k=>congrArg (t.ty::·) (oP ts (k+1))
theorem u4:∀(ts:List Ty) (k:Nat),gp k (cX ts)=[]
 |[],_=>rfl
 |t::ts,k=>u4 ts (k+1)
theorem lx (ps:List Ty) (rs:List PS):dA (cX ps) (dF rs) []=lB ps.length (dF rs):=by
 grind [dA,u4,cX,Bp,dF]
def v5:Nat→List DV→List (Nat×AV)
 |_,[]=>[]
 |k,d::r=>(k, .c (.v d.t d.x))::v5 (k+1) r
theorem DL:∀(ts:List Ty) (k:Nat) (ds:List DV),ds.length=ts.length→dH (aB k (cX ts)) ds=v5 k ds∧iA (aB k (cX ts)) ds=[]
 |[],_,[],_=>⟨rfl,rfl⟩
 |[],_,_::_,h=>by cases h
 |_::_,_,[],h=>by cases h
 |t::ts,k,d::ds,h=>by
  obtain⟨h1,h2⟩:=DL ts (k+1) ds (by simpa using h)
  exact⟨congrArg ((k,AV.c (.v d.t d.x))::·) h1,h2⟩
def Gj:PS→DV→CV
 | .e,d=>match d.as .bool with
  |some b => .er b
  |none => .dead
 |_,d => .v d.t d.x
def nP:Nat→List PS→List DV→List (Nat×AV)
 |k,p::ps,d::r=>(k, .c (Gj p d))::nP (k+1) ps r
 |_,_,_=>[]
theorem DK:∀(ts:List PS) (k:Nat) (ds:List DV),ts.all PS.outs=true→ds.length=ts.length→dH (lB k (dF ts)) ds=nP k ts ds∧iA (lB k (dF ts)) ds=[]
 |[],_,[],_,_=>⟨rfl,rfl⟩
 |[],_,_::_,_,h=>by cases h
 |_::_,_,[],_,h=>by cases h
 |t::ts,k,d::ds,ho,h=>by
  rw[List.all_cons,Bool.and_eq_true]at ho
  obtain⟨h1,h2⟩:=DK ts (k+1) ds ho.2 (by simpa using h)
  have hc:∀nm,pL nm t d=Gj t d∧Cd nm t d=[]:=fun nm=>by
   cases t with
   |i t=>trivial
   |e=>trivial
   |_=>cases ho.1
  constructor
  ·show(k,Lf (.val k t) (d::ds.take 0))::dH (lB (k+1) (dF ts)) ds=(k, .c (Gj t d))::nP (k+1) ts ds
   rw[h1]
   congr 2
   exact congrArg AV.c (hc _).1
  ·show(Cd _ t d++[])++iA (lB (k+1) (dF ts)) ds=[]
   rw[h2,(hc _).2];rfl
theorem tZ:∀(ps:List PS) (ds:List DV) (k i:Nat),dt (nP k ps ds) (k+i)=match ps[i]?,ds[i]? with|some p,some d => .c (Gj p d)|_,_ => .c .dead
 |[],_,_,_=>rfl
 |p::ps,[],k,i=>by cases(p::ps)[i]?<;>rfl
 |p::ps,d::ds,k,0=>by
  simp_all [dt,nP,Gj]
 |p::ps,d::ds,k,i+1=>by
  show(bif Nat.beq k (k+(i+1))then _ else dt (nP (k+1) ps ds) (k+(i+1)))=_
  rw[dJ (by omega:k≠k+(i+1)),show k+(i+1)=(k+1)+i by omega]
  exact tZ ps ds (k+1) i
theorem Bz:∀(ps:List PS) (ds:List DV) (k i:Nat),i<k→dt (nP k ps ds) i = .c .dead
 |[],_,_,_,_=>rfl
 |_::_,[],_,_,_=>rfl
 |p::ps,d::ds,k,i,h=>by
  show(bif Nat.beq k i then _ else dt (nP (k+1) ps ds) i)=_
  rw[dJ (by omega:k≠i)]
  exact Bz ps ds (k+1) i (by omega)
theorem yw:∀(ds:List DV) (k i:Nat),dt (v5 k ds) (k+i)=match ds[i]? with|some d => .c (.v d.t d.x)|none => .c .dead
 |[],_,_=>rfl
 |d::ds,k,0=>by
  simp_all [dt,v5]
 |d::ds,k,i+1=>by
  show(bif Nat.beq k (k+(i+1))then _ else dt (v5 (k+1) ds) (k+(i+1)))=_
  rw[dJ (by omega:k≠k+(i+1)),show k+(i+1)=(k+1)+i by omega]
  exact yw ds (k+1) i
theorem n8:∀(ts:List Ty) (x:TD ts),(aq ts x).length=ts.length
 |[],_=>rfl
 |[t],_=>rfl
 |t::u::r,x=>congrArg (·+1) (n8 (u::r) x.2)
theorem v7:∀(ts:List Ty) (x:TD ts) (i:Nat) (d:DV),(aq ts x)[i]?=some d→ts[i]?=some d.t
 |[],_,_,_,h=>by cases h
 |[t],x,0,d,h=>by grind [aq]
 |[t],x,i+1,d,h=>by cases h
 |t::u::r,x,0,d,h=>by grind [aq]
 |t::u::r,x,i+1,d,h=>v7 (u::r) x.2 i d h
theorem wD{P:Program}{K:eB}{f:FuncId}{ps:List Ty}{rs:List PS}(hp:ps.all Ty.one=true) (hr:rs.all PS.outs=true){g:TD (bD (aB 0 (cX ps)))→Option (TD (bD (dA (cX ps) (dF rs) [])))}
  (h:∀w x r,g x=some r→K.ok w→Calls P f ((aq _ x).map DV.val).toArray w fun e w'=>∃vs,e = .returned (Gb vs)∧xV rs (aq _ r) vs∧bN (fun _ _=>False) w w') :
  mM P K f { pars:=cX ps,res:=dF rs,g:=g }:=by
 intro Y L I a w x r hx hR hK hY hw
 have hxl:(aq _ x).length=ps.length:=by rw[n8,sj]
 have hrl:(aq _ r).length=rs.length:=by rw[n8,lx,oP,List.length_map]
 have hN:Y.N=ps.length:=hY.trans (List.length_map ..)
 have hxo:∀(i:Nat) (d:DV),(aq _ x)[i]?=some d→d.t.one=true:=fun i d hd=>by
  have:=v7 _ x i d hd
  rw[sj]at this
  exact List.all_eq_true.1 hp _ (List.mem_of_getElem? this)
 have hro:∀(i:Nat) (d:DV),(aq _ r)[i]?=some d→∃p,rs[i]?=some p∧p.ty=d.t∧p.outs=true:=fun i d hd=>by
  have:=v7 _ r i d hd
  rw[lx,oP,List.getElem?_map]at this
  cases e:rs[i]? with
  |none=>simp_all
  |some p=>grind
 obtain⟨m1,m2⟩:=DL ps 0 (aq _ x) hxl
 have htm:a.tmps=((aq _ x).map DV.val).toArray:=by
  refine Array.ext (by rw[hR.size,hN];simp[hxl]) fun i hi _=>?_
  have hi':i<ps.length:=by rw[hR.size,hN]at hi;exact hi
  have hs:=hR.slot i
  have hd:(aq _ x)[i]?=some (aq _ x)[i]:=List.getElem?_eq_getElem (by omega)
  have hlk:(eC (aB 0 (cX ps)) x).t i = .c (.v ((aq _ x)[i]).t ((aq _ x)[i]).x):=by
   show dt (dH _ _) i=_
   rw[m1]
   have:=yw (aq _ x) 0 i
   rw[Nat.zero_add,hd]at this
   exact this
  have hs:RA L I w (AL (eC (aB 0 (cX ps)) x).o) ((eC (aB 0 (cX ps)) x).t i) (a.tmps.getD i undef):=hs
  rw[hlk]at hs
  have:=(DB (hxo i _ hd)).1 hs
  rw[Array.getD_eq_getD_getElem?,Array.getElem?_eq_getElem hi]at this
  simp only[Option.getD_some]at this
  rw[this]
  simp
 rw[show first (aa.real { pars:=cX ps,res:=dF rs,g:=g }) a.tmps=a.tmps from kC (by unfold aa.real;rw[hR.size,hY];exact Nat.le_refl _),htm]
 subst hK
 refine(h w x r hx hR.glob.1).mono fun e w' hp'=>?_
 obtain⟨vs,rfl,hov,hst⟩:=hp'
 have h1:=hR.grows hst
 have hvl:=hov.len.2
 refine⟨_,L,I,⟨((aq _ x).map DV.val++vs).toArray,[]⟩,rfl,?_,fun _ _=>rfl,?_⟩
 ·obtain⟨k1,k2⟩:=DK rs ps.length (aq _ r) hr hrl
  have hst2:eC (aa.ens { pars:=cX ps,res:=dF rs,g:=g }) r=⟨dt (nP ps.length rs (aq _ r)),fun _=>none⟩:=by
   show FQ (dA (cX ps) (dF rs) []) (aq _ r)=_
   unfold FQ
   rw[show dH (dA (cX ps) (dF rs) []) (aq (bD (dA (cX ps) (dF rs) [])) r)=nP ps.length rs (aq _ r)by rw[←k1];congr 1;exact lx ps rs]
   rw[show iA (dA (cX ps) (dF rs) []) (aq (bD (dA (cX ps) (dF rs) [])) r)=[]by rw[←k2];congr 1;exact lx ps rs]
   rfl
  have hlen:(cX ps).length+((dF rs).length+0)=ps.length+rs.length:=by simp_all [cX,dF]
  rw[hst2]
  refine⟨rfl,by simp[hxl,hvl];exact hlen.symm,fun i hi=>?_,fun i hi=>?_,fun _ _ q=>(by cases q),fun _ _ _ _ q=>(by cases q),fun _ _ q=>(by cases q),h1.imm,h1.sub,h1.step,h1.glob⟩
  ·have hi:i<ps.length+rs.length:=by rw[←hlen];exact hi
   rcases Nat.lt_or_ge i ps.length with q|q
   ·have hd:=Bz rs (aq (bD (dA (cX ps) (dF rs) [])) r) ps.length i q
    show RA L I w' _ (dt (nP ps.length rs (aq (bD (dA (cX ps) (dF rs) [])) r)) i) _
    rw[hd];trivial
   ·have hd:(aq _ r)[i-ps.length]?=some (aq _ r)[i-ps.length]:=List.getElem?_eq_getElem (by omega)
    have:=tZ rs (aq _ r) ps.length (i-ps.length)
    obtain⟨p,hp1,hp2,hp3⟩:=hro _ _ hd
    rw[hd,hp1,show ps.length+(i-ps.length)=i by omega]at this
    show RA L I w' _ (dt (nP ps.length rs (aq (bD (dA (cX ps) (dF rs) [])) r)) i) _
    rw[this]
    obtain⟨v,hv1,hv2⟩:=hov.get hp1 hd
    have hval:(((aq _ x).map DV.val++vs).toArray).getD i undef=v:=by
     have hxl':((aq (bD (aB 0 (cX ps))) x).map DV.val).length=ps.length:=(List.length_map ..).trans hxl
     rw[Array.getD_eq_getD_getElem?,List.getElem?_toArray,List.getElem?_append_right (by rw[hxl'];exact q),hxl',hv1];rfl
    rw[hval]
    cases p with
    |i t =>
     have ht:(aq _ r)[i-ps.length].t.one=true:=by rw[←hp2];exact hp3
     exact(DB ht).2 hv2
    |e =>
     obtain⟨b,hb1,hb2⟩:=hv2
     show RC L I w' _ (match DV.as .bool _ with|some b => .er b|none => .dead) v
     rw[hb1];exact hb2
    |_=>cases hp3
  ·have hi:ps.length+rs.length≤i:=by rw[←hlen];exact hi
   show dt (nP ps.length rs (aq _ r)) i=_
   have:=tZ rs (aq _ r) ps.length (i-ps.length)
   rw[show ps.length+(i-ps.length)=i by omega,List.getElem?_eq_none (by omega:rs.length≤i-ps.length)]at this
   exact this
 ·have hl:(cX ps).length=ps.length:=List.length_map ..
  have hl2:(dF rs).length=rs.length:=List.length_map ..
  have at_:∀j,j<rs.length→(((aq _ x).map DV.val++vs).toArray).getD (ps.length+j) undef=vs.getD j undef:=by
   simp_all
  show _=AZ ⟨_,[]⟩ (cX ps).length (dF rs).length
  rw[hl,hl2]
  clear hov
  match vs,hvl with
  |[],hml =>
   have:rs.length=0:=hml.symm
   rw[this];rfl
  |[v],hml =>
   have:rs.length=1:=hml.symm
   rw[this]
   exact(at_ 0 (by omega)).symm
  |v::u::t,hml =>
   have hz:rs.length=t.length+1+1:=hml.symm
   rw[hz]
   show Value.tuple (v::u::t).toArray=Value.tuple ((List.range (t.length+1+1)).map fun j=>Array.getD _ (ps.length+j) undef).toArray
   congr 2
   refine List.ext_getElem (by simp) fun i h1 h2=>?_
   rw[List.getElem_map,List.getElem_range]
   have h1':i<rs.length:=by omega
   rw[at_ i h1',List.getD_eq_getElem?_getD,List.getElem?_eq_getElem h1];rfl
theorem Gi:∀{rs:List Ty}{ds:List DV},ds.length=rs.length→xV (rs.map .i) ds (ds.map DV.val)
 |[],[],_=>trivial
 |[],_::_,h=>by cases h
 |_::_,[],h=>by cases h
 |_::rs,_::ds,h=>⟨rfl,Gi (rs:=rs) (ds:=ds) (by simpa using h)⟩
theorem u6{P:Program}{K:eB}{f:FuncId}{ps rs:List Ty}(hp:ps.all Ty.one=true) (hr:rs.all Ty.one=true){g:TD (bD (aB 0 (cX ps)))→Option (TD (bD (dA (cX ps) (dF (rs.map .i)) [])))}
  (h:∀w x r,g x=some r→K.ok w→Calls P f ((aq _ x).map DV.val).toArray w fun e w'=>e = .returned (Gb ((aq _ r).map DV.val))∧bN (fun _ _=>False) w w') :
  mM P K f { pars:=cX ps,res:=dF (rs.map .i),g:=g }:=by
 refine wD hp (by rw[List.all_map];exact hr) fun w x r hx hw=>(h w x r hx hw).mono fun e w' hq=>⟨_,hq.1,?_,hq.2⟩
 exact Gi (by rw[n8,lx,oP,List.length_map,List.length_map])
def Em:Ty→List Value→Option (List Value)
 | .int k,vs=>match vs with
  | .int l n::r=>if l=k∧n=0 then some r else none
  |_=>none
 | .bool,vs=>match vs with
  | .bool false::r=>some r
  |_=>none
 | .str,vs=>match vs with
  | .string s::r=>bif Nat.beq s.size 0 then some r else none
  |_=>none
 | .sl _,vs=>match vs with
  | .slice none 0 0::r=>some r
  |_=>none
 | .pr a b,vs=>match Em a vs with
  |some r=>Em b r
  |none=>none
theorem qd:∀(t:Ty){vs r:List Value},Em t vs=some r→vs=gb t++r
 | .int k,vs,r,h=>by
  simp only[Em]at h
  split at h
  ·simp_all [Em,gb]
  ·cases h
 | .bool,vs,r,h=>by
  simp only[Em]at h
  split at h
  ·simp_all [Em,gb]
  ·cases h
 | .str,vs,r,h=>by
  simp only[Em]at h
  split at h
  ·rename_i s r'
   cases q:Nat.beq s.size 0 with
   |false=>simp_all
   |true =>
    rw[q]at h
    obtain rfl:=Option.some.inj h
    have:s=⟨#[]⟩:=by
     have:=Nat.eq_of_beq_eq_true q
     obtain⟨d⟩:=s
     obtain⟨l⟩:=d
     cases l with
     |nil=>rfl
     |cons x l=>trivial
    rw[this];rfl
  ·cases h
 | .sl t,vs,r,h=>by
  simp only[Em]at h
  split at h
  ·simp_all [Em,gb]
  ·cases h
 | .pr a b,vs,r,h=>by
  simp only[Em]at h
  split at h
  ·rename_i r1 h1
   rw[qd a h1,qd b h]
   simp[gb]
  ·cases h
def Dp:List Z→List Value→Bool
 |[],[]=>true
 | .t x::zs,vs=>match Em x vs with
  |some r=>Dp zs r
  |none=>false
 | .ptr::zs, .pointer none::vs=>Dp zs vs
 | .fn::zs, .nilFunc::vs=>Dp zs vs
 | .ifc::zs, .nilIface::vs=>Dp zs vs
 |_,_=>false
theorem nN:∀{zs:List Z}{vs:List Value},Dp zs vs=true→vs=zs.flatMap Z.vals
 |[],[],_=>rfl
 |[],_::_,h=>by cases h
 | .t x::zs,vs,h=>by
  unfold Dp at h
  split at h
  ·rename_i r e
   rw[qd x e,nN h];rfl
  ·cases h
 | .ptr::zs,[],h=>by cases h
 | .fn::zs,[],h=>by cases h
 | .ifc::zs,[],h=>by cases h
 | .ptr::zs,v::vs,h=>by
  cases v<;>try (simp[Dp]at h;done)
  rename_i q
  cases q<;>first|(simp[Dp]at h;done)|(rw[nN (show Dp zs vs=true from h)];rfl)
 | .fn::zs,v::vs,h=>by
  cases v<;>first|(simp[Dp]at h;done)|(rw[nN (show Dp zs vs=true from h)];rfl)
 | .ifc::zs,v::vs,h=>by
  cases v<;>first|(simp[Dp]at h;done)|(rw[nN (show Dp zs vs=true from h)];rfl)
def t9:TypeDesc→Bool
 | .struct _=>true
 | .array _ _=>true
 |_=>false
def Dk (P:Program) (t:TypeId) (b:Bool):Bool:=match P.underlying t with
 |some d=>bif t9 d then b else !b
 |none=>false
theorem sr{P:Program}{t:TypeId}{b:Bool}(h:Dk P t b=true) (w:World):(isAgg t).run P w = .ok b w:=by
 unfold Dk at h
 split at h
 ·rename_i d hd
  simp only[isAgg,Sem.run_bind,run_underlying hd,Result.andThen_ok]
  cases d<;>cases b<;>first|rfl|(cases h;done)
 ·cases h
def vV (P:Program):List Field→List (Nat×Nat×Bool)→Bool
 |[],[]=>true
 |f::fs,x::xs=>Nat.beq f.offset x.1&&(Nat.blt 0 x.2.1&&((match P.info? f.type with|some i=>Nat.beq i.size x.2.1|none=>false)&&(Dk P f.type x.2.2&&vV P fs xs)))
 |_,_=>false
theorem rB{P:Program}:∀{fs:List Field}{xs:List (Nat×Nat×Bool)},vV P fs xs=true→fs.length=xs.length∧∀(i:Nat) (x:Nat×Nat×Bool),xs[i]?=some x→∃fd:Field,fs[i]?=some fd∧fd.offset=x.1∧x.2.1≠0 ∧
  (∀w,(sizeOf fd.type).run P w = .ok x.2.1 w)∧(∀w,(isAgg fd.type).run P w = .ok x.2.2 w)
 |[],[],_=>⟨rfl,fun _ _ h=>by cases h⟩
 |[],_::_,h=>by cases h
 |_::_,[],h=>by cases h
 |f::fs,x::xs,h=>by
  unfold vV at h
  simp only[Bool.and_eq_true]at h
  obtain⟨h1,h2,h3,h4,h5⟩:=h
  obtain⟨g1,g2⟩:=rB h5
  refine⟨by simp[g1],fun i y hy=>?_⟩
  cases i with
  |zero =>
   obtain rfl:=Option.some.inj hy
   refine⟨f,rfl,Nat.eq_of_beq_eq_true h1,by have:=Nat.le_of_ble_eq_true h2;omega,fun w=>?_,sr h4⟩
   split at h3
   ·rename_i i hi
    rw[←Nat.eq_of_beq_eq_true h3]
    simp[sizeOf,typeInfo,hi]
   ·cases h3
  |succ i=>grind
def Ms (P:Program):Nat→List Field→List Ty→Bool
 |_,[],[]=>true
 |k,f::fs,t::ts=>Nat.beq f.offset k&&((f.name != "_")&&((match P.info? f.type with|some i=>Nat.beq i.size 1|none=>false)&&(Dk P f.type false&&((match P.underlying f.type,t with
   |some (.int k1), .int k2=>decide (k1=k2)
   |some .bool, .bool=>true
   |some .string, .str=>true
   |_,_=>false)&&Ms P (k+1) fs ts))))
 |_,_,_=>false
theorem tN{P:Program}{w:World}{t:TypeId}{i:TypeInfo}(hi:P.info? t=some i) (hs:i.size=1) (ha:Dk P t false=true){xs:Array Value}{off:Nat}{v:Value}(hx:xs[off]?=some v):(Go.part t xs off).run P w = .ok v w:=by
 have h1:∀w,(sizeOf t).run P w = .ok 1 w:=fun w=>by simp[sizeOf,typeInfo,hi,hs]
 have h2:=sr ha
 have hlt:=(Array.getElem?_eq_some_iff.1 hx).1
 obtain⟨hlt,hv⟩:=Array.getElem?_eq_some_iff.1 hx
 unfold Go.part
 simp[h1,h2,Result.andThen]
 simp[hx,hlt,hv]
theorem yP{P:Program}{d:Nat}{w:World}{xs ys:Array Value}:∀{k:Nat}{fs:List Field}{ts:List Ty}{us vs:List Value}{e:Bool},Ms P k fs ts=true→aX ts us vs=some e→xs.toList.drop k=us→ys.toList.drop k=vs →
  (Op.eqFields (d+1) xs ys fs).run P w = .ok e w
 |_,[],[],us,vs,e,_,he,_,_=>by
  cases us with
  |nil=>cases vs with
   |nil=>obtain rfl:=Option.some.inj he;simp[Op.eqFields]
   |cons _ _=>cases he
  |cons _ _=>cases he
 |_,[],_::_,_,_,_,h,_,_,_=>by cases h
 |_,_::_,[],_,_,_,h,_,_,_=>by cases h
 |k,f::fs,t::ts,us,vs,e,h,he,hu,hv=>by
  unfold Ms at h
  simp only[Bool.and_eq_true]at h
  obtain⟨h1,h2,h3,h4,h5,h6⟩:=h
  have h1:=Nat.eq_of_beq_eq_true h1
  have hname:f.name≠"_":=by simpa using h2
  split at h3
  case h_2=>cases h3
  rename_i i hi
  have hs:=Nat.eq_of_beq_eq_true h3
  have next:∀{zs:Array Value}{z:Value}{zl:List Value},zs.toList.drop k=z::zl→zs[f.offset]?=some z∧zs.toList.drop (k+1)=zl:=by
   intro zs z zl q
   have g:=congrArg (fun l=>l[0]?) q
   simp at g
   refine⟨by rw[h1];simpa using g,?_⟩
   rw[←List.drop_drop,q];rfl
  have fin:∀{u v:Value}{ul vl:List Value}{b e':Bool},us=u::ul→vs=v::vl→(Op.equalIn (d+1) f.type u v).run P w = .ok b w→aX ts ul vl=some e'→e=(b&&e')→(Op.eqFields (d+1) xs ys (f::fs)).run P w = .ok e w:=by
   intro u v ul vl b e' eu ev hb hr hE
   obtain⟨n1,n2⟩:=next (hu.trans eu)
   obtain⟨n3,n4⟩:=next (hv.trans ev)
   have ih:=yP (d:=d) (w:=w) h6 hr n2 n4
   have p1:=tN (P:=P) (w:=w) hi hs h4 n1
   have p2:=tN (P:=P) (w:=w) hi hs h4 n3
   unfold Op.eqFields
   rw[if_pos hname]
   simp only[Sem.run_bind,p1,Result.andThen_ok,p2,hb]
   cases b with
   |true=>simp_all
   |false=>simp[hE]
  cases us with
  |nil=>simp_all [aX]
  |cons u ul =>
   cases vs with
   |nil=>simp_all [aX]
   |cons v vl =>
    cases t with
    |int q =>
     cases u<;>try (simp[aX]at he;done)
     cases v<;>try (simp[aX]at he;done)
     simp only[aX]at he
     split at he
     ·rename_i hk
      obtain⟨rfl,rfl⟩:=hk
      split at he
      ·rename_i e' hr
       split at h5
       ·exact fin rfl rfl (run_equalIn_int _ _ _ _ _ _ _ ‹_›) hr (Option.some.inj he).symm
       ·trivial
       ·trivial
       ·cases h5
      ·cases he
     ·cases he
    |bool =>
     cases u<;>try (simp[aX]at he;done)
     cases v<;>try (simp[aX]at he;done)
     simp only[aX]at he
     split at he
     ·rename_i e' hr
      split at h5
      ·trivial
      ·exact fin rfl rfl (run_equalIn_bool' _ _ _ _ _ ‹_›) hr (Option.some.inj he).symm
      ·trivial
      ·cases h5
     ·cases he
    |str =>
     cases u<;>try (simp[aX]at he;done)
     cases v<;>try (simp[aX]at he;done)
     simp only[aX]at he
     split at he
     ·rename_i e' hr
      split at h5
      ·trivial
      ·trivial
      ·rename_i hu5 _
       have key:∀a b,(Op.equalIn (d+1) f.type (.string a) (.string b)).run P w = .ok (jr a b) w:=fun a b=>by rw[←od];exact run_equalIn_string w d f.type a b hu5
       exact fin rfl rfl (key _ _) hr (Option.some.inj he).symm
      ·cases h5
     ·cases he
    |sl _=>trivial
    |pr _ _=>trivial
def Al (e:Bool) (d:Nat) (xs:Array Value) (fs:List Field):Sem PUnit :=
 forIn (m:=Sem) fs PUnit.unit (fun f _=>do
   if f.name≠"_" then do
    let __do_lift ←Go.part f.type xs f.offset
    Instr.checkKey e (d+1) f.type __do_lift
    pure (ForInStep.yield PUnit.unit)
   else pure (ForInStep.yield PUnit.unit))
theorem yS{P:Program}{d:Nat}{e:Bool}{w:World}{xs:Array Value}:∀{k:Nat}{fs:List Field}{ts:List Ty}{us vs:List Value}{b:Bool},Ms P k fs ts=true→aX ts us vs=some b→xs.toList.drop k=us →
  (Al e d xs fs).run P w = .ok PUnit.unit w
 |_,[],_,_,_,_,_,_,_=>by rfl
 |_,_::_,[],_,_,_,h,_,_=>by cases h
 |k,f::fs,t::ts,us,vs,b,h,he,hu=>by
  unfold Ms at h
  simp only[Bool.and_eq_true]at h
  obtain⟨h1,h2,h3,h4,h5,h6⟩:=h
  have h1:=Nat.eq_of_beq_eq_true h1
  have hname:f.name≠"_":=by simpa using h2
  split at h3
  case h_2=>cases h3
  rename_i i hi
  have hs:=Nat.eq_of_beq_eq_true h3
  have fin:∀{u:Value}{ul vl:List Value}{b':Bool}{D:TypeDesc},us=u::ul→aX ts ul vl=some b'→P.underlying f.type=some D→(∀w,(Instr.checkKey e (d+1) f.type u).run P w = .ok () w)→(Al e d xs (f::fs)).run P w = .ok PUnit.unit w:=by
   intro u ul vl b' D eu hr _ hck
   have hu':=hu.trans eu
   have g:xs[f.offset]?=some u∧xs.toList.drop (k+1)=ul:=by
    have g:=congrArg (fun l=>l[0]?) hu'
    simp at g
    refine⟨by rw[h1];simpa using g,?_⟩
    rw[←List.drop_drop,hu'];rfl
   have ih:=yS (d:=d) (e:=e) (w:=w) h6 hr g.2
   have p1:=tN (P:=P) (w:=w) hi hs h4 g.1
   unfold Al at ih ⊢
   rw[List.forIn_cons]
   simp only[Sem.run_bind,if_pos hname,p1,Result.andThen_ok,hck,Sem.run_pure]
   exact ih
  cases us with
  |nil=>simp_all [aX]
  |cons u ul =>
   cases vs with
   |nil=>simp_all [aX]
   |cons v vl =>
    have ckp:∀{D:TypeDesc},P.underlying f.type=some D→(D = .bool∨D = .string∨∃q,D = .int q)→∀w,(Instr.checkKey e (d+1) f.type u).run P w = .ok () w:=by
     intro D hD hc w
     rcases hc with rfl|rfl|⟨q,rfl⟩<;>simp[Instr.checkKey,run_underlying hD]
    cases t with
    |int q =>
     cases u<;>try (simp[aX]at he;done)
     cases v<;>try (simp[aX]at he;done)
     simp only[aX]at he
     split at he
     ·grind
     ·cases he
    |bool =>
     cases u<;>try (simp[aX]at he;done)
     cases v<;>try (simp[aX]at he;done)
     simp only[aX]at he
     split at he
     ·grind
     ·cases he
    |str =>
     cases u<;>try (simp[aX]at he;done)
     cases v<;>try (simp[aX]at he;done)
     simp only[aX]at he
     split at he
     ·grind
     ·cases he
    |sl _=>trivial
    |pr _ _=>trivial
def Ra (P:Program) (t:Nat) (ti:TI):Bool :=
 (match P.info? t with
  |some i=>Nat.beq i.size ti.size&&(Nat.beq i.bytes ti.bytes&&(match ti.ty with
   |some ty=>Nat.beq ty.sz ti.size&&(match i.zero with
    |some z=>(match Em ty z.cells.toList with|some []=>true|_=>false)
    |none=>false)
   |none=>true))
  |none=>false) &&
 (Dk P t ti.agg &&
 ((match P.underlying t with
  |some (.int k) => !Nat.beq ti.kind 1 || decide (k=ti.ik)
  |_ => !Nat.beq ti.kind 1) &&
 ((match P.underlying t with
  |some (.struct fs) => !Nat.beq ti.kind 2 || vV P fs.toList ti.fs
  |_ => !Nat.beq ti.kind 2) &&
 ((match P.underlying t with
  |some (.slice e) => !Nat.beq ti.kind 3 || Nat.beq e ti.el
  |_ => !Nat.beq ti.kind 3) &&
 ((match P.underlying t with
  |some (.array n e) => !Nat.beq ti.kind 4 || (Nat.beq e ti.el&&(match P.info? e with|some i=>Nat.beq ti.size (n*i.size)|none=>true))
  |_ => !Nat.beq ti.kind 4) &&
 ((match P.underlying t with
  |some .string=>true
  |_ => !Nat.beq ti.kind 5) &&
 ((match P.underlying t with
  |some .bool=>true
  |_ => !Nat.beq ti.kind 6) &&
 ((match P.underlying t with
  |some (.interface _)=>true
  |_ => !Nat.beq ti.kind 7) &&
 ((match P.underlying t with
  |some (.pointer _)=>true
  |_ => !Nat.beq ti.kind 8) &&
 ((match P.underlying t with
  |some (.map ky e) => !Nat.beq ti.kind 9 || (Nat.beq ky ti.ky&&Nat.beq e ti.el)
  |_ => !Nat.beq ti.kind 9) &&
 ((!Nat.beq ti.kind 1 || (match P.info? t with
   |some i=>(match i.zero with
    |some (.int k n)=>decide (k=ti.ik∧n=0)
    |_=>false)
   |none=>false)) &&
 ((match ti.zs with
  |none=>true
  |some zs=>(match P.info? t with
   |some i=>(match i.zero with
    |some z=>Dp zs z.cells.toList
    |none=>false)
   |none=>false)) &&
 (match ti.eqs with
  |none=>true
  |some ts => !P.stoodInHeld t&&(!P.eqGuardType P.depth t&&(match P.underlying t with
   |some (.struct fs)=>Ms P 0 fs.toList ts
   |_=>false)))))))))))))))
theorem EC{P:Program}{t:Nat}{ti:TI}(h:Ra P t ti=true):vG P t ti:=by
 unfold Ra at h
 simp only[Bool.and_eq_true]at h
 obtain⟨h1,h2,h3,h4,h5,h6,h7,h8,hi7,hi8,hi9,hz1,hzs,h9⟩:=h
 have nk:∀{k:Nat},ti.kind=k→(!Nat.beq ti.kind k)=true→False:=by
  simp_all
 refine⟨?_,fun zs e=>?_,sr h2,?_,fun e=>?_,fun e=>?_,fun e=>?_,fun e=>?_,fun e=>?_,fun e=>?_,fun e=>?_,fun e=>?_,fun e=>?_,fun e=>?_,fun ts e em w xs ys b hb=>?_,fun ts e w xs ys b hb=>?_⟩
 ·split at h1
  ·rename_i i hi
   simp only[Bool.and_eq_true]at h1
   obtain⟨g1,g2,g3⟩:=h1
   refine⟨i,hi,Nat.eq_of_beq_eq_true g1,Nat.eq_of_beq_eq_true g2,fun ty hty=>?_⟩
   rw[hty]at g3
   dsimp only at g3
   rw[Bool.and_eq_true]at g3
   refine⟨Nat.eq_of_beq_eq_true g3.1,?_⟩
   have g4:=g3.2
   split at g4
   ·rename_i z hz
    refine⟨z,hz,?_⟩
    split at g4
    ·rename_i hzv
     have:=qd ty hzv
     rw[List.append_nil]at this
     rw[←this]
    ·cases g4
   ·cases g4
  ·cases h1
 ·rw[e]at hzs
  dsimp only at hzs
  split at hzs
  ·rename_i i hi
   split at hzs
   ·rename_i z hz
    exact⟨i,z,hi,hz,by rw[←nN hzs]⟩
   ·cases hzs
  ·cases hzs
 ·unfold Dk at h2
  split at h2
  ·simp_all
  ·cases h2
 ·split at h3
  ·simp_all
  ·simp_all
 ·split at h4
  ·rename_i fs hfs
   rcases Bool.or_eq_true _ _ |>.mp h4 with q|q
   ·simp_all
   ·obtain⟨g1,g2⟩:=rB q
    refine⟨fs,hfs,by simpa using g1,fun f x hx=>?_⟩
    obtain⟨fd,k1,k2⟩:=g2 f x hx
    exact⟨fd,by simpa using k1,k2⟩
  ·simp_all
 ·split at h5
  ·simp_all
  ·simp_all
 ·split at h6
  ·rename_i n el hel
   rcases Bool.or_eq_true _ _ |>.mp h6 with q|q
   ·simp_all
   ·rw[Bool.and_eq_true]at q
    have q1:=Nat.eq_of_beq_eq_true q.1
    refine⟨n,by rw[hel,q1],fun i hi=>?_⟩
    have q2:=q.2
    rw[q1,hi]at q2
    exact Nat.eq_of_beq_eq_true q2
  ·simp_all
 ·grind
 ·grind
 ·grind
 ·grind
 ·split at hi9
  ·simp_all
  ·simp_all
 ·rcases Bool.or_eq_true _ _ |>.mp hz1 with q|q
  ·simp_all
  ·split at q
   ·grind
   ·cases q
 ·rw[e]at h9
  dsimp only at h9
  simp only[Bool.and_eq_true,Bool.not_eq_true']at h9
  obtain⟨g1,g2,g3⟩:=h9
  split at g3
  ·rename_i fs hfs
   show(Instr.checkKey em (9999+1) t (.agg xs.toArray)).run P w=_
   unfold Instr.checkKey
   simp only[Sem.run_bind,run_underlying hfs,Result.andThen_ok]
   rw[←Array.forIn_toList]
   have hck:=yS (d:=9998) (e:=em) (w:=w) (xs:=xs.toArray) g3 hb (by simp)
   unfold Al at hck
   rw[hck];rfl
  ·cases g3
 ·rw[e]at h9
  dsimp only at h9
  simp only[Bool.and_eq_true,Bool.not_eq_true']at h9
  obtain⟨g1,g2,g3⟩:=h9
  split at g3
  ·rename_i fs hfs
   have hfo:P.fieldsOf t=fs:=by simp[Program.fieldsOf,hfs]
   refine⟨?_,fun op x y=>run_eqGuard_agg _ op t x y _ _ g2⟩
   show(Op.equalIn (9999+1) t (.agg xs.toArray) (.agg ys.toArray)).run P w=_
   rw[run_equalIn_struct w 9999 t _ _ (by rw[hfo];exact hfs) g1,hfo]
   exact yP (d:=9998) g3 hb (by simp) (by simp)
  ·cases g3
def KK (P:Program):kE→Bool
 |[]=>true
 |p::r=>Ra P p.1 p.2&&KK P r
theorem v8{P:Program}:∀{τ:kE},KK P τ=true→dk P τ
 |[],_,_,_,e=>by cases e
 |p::r,h,t,ti,e=>by
  unfold KK at h
  rw[Bool.and_eq_true]at h
  unfold kE.get at e
  cases q:Nat.beq p.1 t with
  |true =>
   simp_all [EC]
  |false=>rw[q]at e;exact v8 h.2 t ti e
def ir:Code→List Code
 | .seq a b=>ir a++ir b
 | .cond _ a b=>ir a++ir b
 | .block _ c=>ir c
 | .loop c=>c::ir c
 |_=>[]
def uR (E:aK) (c:Code):Prop:=∀S,E.Λ (key c)=some S→∃f:Nat→TD (bD S.ent)→Option (EX S.exs),(∀x,f 0 x=none)∧(∃n,S.g=f n)∧∀n x,f (n+1) x=cE E c S (f n) x
def jw:Code→List (Nat×Array Oper)
 | .region id ops _=>[(id,ops)]
 | .seq a b=>jw a++jw b
 | .cond _ a b=>jw a++jw b
 | .block _ c=>jw c
 | .loop c=>jw c
 |_=>[]
theorem By{E:aK}:∀c:Code,(∀b∈ir c,uR E b)→(∀p∈jw c,yX E p.1 p.2)→ff E c:=by
 intro c
 induction c with
 |seq a b iha ihb=>exact fun h g=>⟨iha (fun x hx=>h x (List.mem_append_left _ hx)) fun x hx=>g x (List.mem_append_left _ hx),ihb (fun x hx=>h x (List.mem_append_right _ hx)) fun x hx=>g x (List.mem_append_right _ hx)⟩
 |cond _ a b iha ihb=>exact fun h g=>⟨iha (fun x hx=>h x (List.mem_append_left _ hx)) fun x hx=>g x (List.mem_append_left _ hx),ihb (fun x hx=>h x (List.mem_append_right _ hx)) fun x hx=>g x (List.mem_append_right _ hx)⟩
 |block _ c ih=>trivial
 |loop c ih=>exact fun h g=>⟨ih (fun x hx=>h x (List.mem_cons_of_mem _ hx)) g,h c (List.mem_cons_self ..)⟩
 |region id ops d=>exact fun _ g=>g (id,ops) (List.mem_singleton.2 rfl)
 |_=>exact fun _ _=>trivial
def eK (c:Code) (id:Nat):List Oper:=match(jw c).find? (fun p=>Nat.beq p.1 id)with
 |some p=>p.2.toList
 |none=>[]
def nR:List Nat→Bool
 |[]=>true
 |n::r => !bL n r&&nR r
theorem yN {β:Type}:∀{l:List (Nat×β)},nR (l.map Prod.fst)=true→∀p∈l,l.find? (fun q=>Nat.beq q.1 p.1)=some p
 |[],_,_,h=>by cases h
 |q::l,hn,p,h=>by
  unfold nR at hn
  simp only[List.map_cons,Bool.and_eq_true,Bool.not_eq_true']at hn
  rcases List.mem_cons.1 h with rfl|h
  ·simp_all
  ·have:Nat.beq q.1 p.1=false:=by
    cases z:Nat.beq q.1 p.1 with
    |false=>rfl
    |true =>
     have hm:bL q.1 (l.map Prod.fst)=true:=eD.2 (by rw[Nat.eq_of_beq_eq_true z];exact List.mem_map.2 ⟨p,h,rfl⟩)
     rw[hn.1]at hm;cases hm
   rw[List.find?_cons,this]
   exact yN hn.2 p h
theorem Dt{E:aK}{c:Code}(hn:nR ((jw c).map Prod.fst)=true) (h:∀id S,E.Ω id=some S→vp (eK c id)=true∧∀x y,S.g x=some y→∀π∈Ft (eK c id),cY E (eK c id) (gE (eK c id) π) (eC S.ent x) (fun s'=>ja E.N S.out s')=some y):∀p∈jw c,yX E p.1 p.2:=by
 intro p hp S hS
 have hr:eK c p.1=p.2.toList:=by unfold eK;rw[yN hn p hp]
 rw[←hr]
 exact h p.1 S hS
def aC (c:Code) (i:Nat):Code:=(ir c).getD i .skip
def aj (fn:Func):Code:=fn.body.getD .skip
theorem oD{E:aK}{c:Code}(k:Nat) (hk:(ir c).length=k) (h:∀i,i<k→uR E (aC c i)) (hR:∀p∈jw c,yX E p.1 p.2):ff E c:=by
 refine By c (fun b hb=>?_) hR
 obtain⟨i,hi⟩:=List.getElem?_of_mem hb
 have hlt:i<k:=by rw[←hk];exact(List.getElem?_eq_some_iff.1 hi).1
 have:=h i hlt
 unfold aC at this
 rw[List.getD_eq_getElem?_getD,hi]at this
 exact this
theorem Lh{E:aK}{c:Code}{S:cI}(hS:E.Λ (key c)=some S) (f:Nat→TD (bD S.ent)→Option (EX S.exs)) (h0:∀x,f 0 x=none) (n:Nat) (hn:S.g=f n) (hs:∀m x,f (m+1) x=cE E c S (f m) x):uR E c:=by
 intro S' hS'
 rw[hS]at hS'
 obtain rfl:=Option.some.inj hS'
 exact⟨f,h0,⟨n,hn⟩,hs⟩
def QR:List (Nat×aa)→Nat→Option aa
 |[],_=>none
 |p::r,f=>bif Nat.beq p.1 f then some p.2 else QR r f
def QQ:List ((Nat×Nat)×aa)→Nat→Nat→Option aa
 |[],_,_=>none
 |p::r,f,d=>bif Nat.beq p.1.1 f&&Nat.beq p.1.2 d then some p.2 else QQ r f d
def gl (l:List (Nat×aa)) (l2:List ((Nat×Nat)×aa)) (f d:Nat):Option aa :=
 match QQ l2 f d with
 |some S=>some S
 |none=>QR l f
def mQ (P:Program) (K:eB) (p:Nat×aa):Prop:=Plain P p.1∧mM P K p.1 p.2
def Ca (P:Program) (K:eB):List (Nat×aa)→Prop
 |[]=>True
 |p::r=>mQ P K p∧Ca P K r
def xy (P:Program) (K:eB):List ((Nat×Nat)×aa)→Prop
 |[]=>True
 |p::r=>mQ P K (p.1.1,p.2)∧xy P K r
theorem BN{P:Program}{K:eB}:∀{l:List (Nat×aa)},Ca P K l→∀f S,QR l f=some S→Plain P f∧mM P K f S
 |[],_,_,_,h=>by cases h
 |p::r,⟨h1,h2⟩,f,S,h=>by
  unfold QR at h
  cases q:Nat.beq p.1 f with
  |true =>
   rw[q]at h
   obtain rfl:=Option.some.inj h
   rw[←Nat.eq_of_beq_eq_true q]
   exact h1
  |false=>rw[q]at h;exact BN h2 f S h
theorem BM{P:Program}{K:eB}:∀{l:List ((Nat×Nat)×aa)},xy P K l→∀f d S,QQ l f d=some S→Plain P f∧mM P K f S
 |[],_,_,_,_,h=>by cases h
 |p::r,⟨h1,h2⟩,f,d,S,h=>by
  unfold QQ at h
  cases q:(Nat.beq p.1.1 f&&Nat.beq p.1.2 d)with
  |true =>
   rw[q]at h
   obtain rfl:=Option.some.inj h
   rw[Bool.and_eq_true]at q
   rw[←Nat.eq_of_beq_eq_true q.1]
   exact h1
  |false=>rw[q]at h;exact BM h2 f d S h
theorem Jx{P:Program}{K:eB}{l:List (Nat×aa)}{l2:List ((Nat×Nat)×aa)}(h1:Ca P K l) (h2:xy P K l2) (f d:Nat) (S:aa) (h:gl l l2 f d=some S):Plain P f∧mM P K f S:=by
 grind [gl,split,BM,BN]
theorem dG{P:Program}{f:FuncId}{fn:Func}(h:P.funcs[f]?=some fn) (hn:(fn.name=="runtime.NumGoroutine")=false) (hb:fn.body.isNone=false):Plain P f:=⟨fn,h,hn,hb⟩
theorem JD{fn:Func}(h:fn.body.isSome=true):fn.body=some (aj fn):=by
 unfold aj
 cases q:fn.body with
 |none=>simp_all
 |some c=>rfl
theorem Io {α β:Type}{xs:List α}{F:α→β}{vs:List β}(h:xs.map F=vs){r:β}(hv:∀v∈vs,v=r):∀x∈xs,F x=r:=fun x hx=>hv _ (h▸List.mem_map.2 ⟨x,hx,rfl⟩)
theorem Gn{P:Program}{K:eB}{f:FuncId}{fn:Func}{S:aa}{E:aK}{l:List (Nat×aa)}{l2:List ((Nat×Nat)×aa)}(hf:P.funcs[f]?=some fn) (hmo:P.follows .mixedOrders=true) (hτ:dk P E.τ) (hΓ:E.Γ=gl l l2) (hl:Ca P K l) (hl2:xy P K l2)
  (hb:fn.body.isSome=true) (hN:E.N=fn.ntmps) (hn:S.pars.length≤fn.ntmps) (hr:fn.results.size=S.res.length) (hloops:ff E (aj fn)) (hg:∀x,S.g x=ar E fn S x):mM P K f S :=
 ML ⟨hτ,fun f d S h=>by rw[hΓ]at h;exact Jx hl hl2 f d S h,hmo⟩ hf (JD hb) hN hn hr hloops (fun x r h=>by rw[←hg];exact h)
def Cc:List (Nat×iw)→Nat→Option iw
 |[],_=>none
 |p::r,i=>bif Nat.beq p.1 i then some p.2 else Cc r i
abbrev Aw (E:aK) (c:Code) (id:Nat) (S:iw):Prop:=vp (eK c id)=true∧∀x y,S.g x=some y→∀π∈Ft (eK c id),cY E (eK c id) (gE (eK c id) π) (eC S.ent x) (fun s'=>ja E.N S.out s')=some y
def mL (E:aK) (c:Code):List (Nat×iw)→Prop
 |[]=>True
 |p::r=>Aw E c p.1 p.2∧mL E c r
theorem Cw{E:aK}{c:Code}:∀{l:List (Nat×iw)},mL E c l→∀id S,Cc l id=some S→Aw E c id S
 |[],_,_,_,h=>by cases h
 |p::r,h,id,S,hS=>by
  unfold Cc at hS
  cases q:Nat.beq p.1 id with
  |true=>rw[q]at hS;obtain rfl:=Option.some.inj hS;obtain rfl:=Nat.eq_of_beq_eq_true q;exact h.1
  |false=>rw[q]at hS;exact Cw h.2 id S hS
abbrev JT (b:Bool) (E:aK) (c:Code) (r:Nat) (L:List Nat) (S:iw):Prop:=∀x,nQ b E (eK c r) (gE (eK c r) L) (eC S.ent x) (fun s=>ja E.N S.out s)=S.g x
abbrev U6 (E:aK) (c:Code) (r n:Nat) (S:iw):Prop:=∀x,(Ft (eK c r)).map (fun π=>cY E (eK c r) (gE (eK c r) π) (eC S.ent x) (fun s=>ja E.N S.out s))=List.replicate n (S.g x)
theorem A3{b:Bool}{E:aK}{c:Code}{r:Nat}{L:List Nat}{S:iw}(h:JT b E c r L S) (zs:List (Nat×Nat)) (hb:(L.all (fun i=>Nat.blt i (eK c r).length)&&(List.range (eK c r).length).all (fun i=>bL i L))=true:=by kernel_rfl) (hnd:L.Nodup:=by decide) (ha:vp (eK c r)=true:=by kernel_rfl)
  (hp:eJ (Be E (eK c r) (bS (eK c r) []) b) L=true:=by kernel_rfl) (ho:eJ (ER (eK c r)) L=true:=by kernel_rfl) (hok:(!b || L.all (fun j=>Gm E (eK c r) (bS (eK c r) []) zs j || yB E (eK c r) (bS (eK c r) []) j))=true:=by kernel_rfl) (hs:∀x:TD (bD S.ent),(!b || zn (eK c r) zs L (dH S.ent (aq (bD S.ent) x)) (iA S.ent (aq (bD S.ent) x)))=true:=by intro x;kernel_rfl):Aw E c r S :=
 ⟨ha,fun x y hy=>Fs b zs L hb hnd ha hp ho hok (hs x) ((h x).trans hy)⟩
theorem MI{E:aK}{c:Code}{r n:Nat}{S:iw}(h:U6 E c r n S) (ha:vp (eK c r)=true:=by kernel_rfl):Aw E c r S :=
 ⟨ha,fun x y hy=>Io (h x) (fun v hv=>(List.eq_of_mem_replicate hv).trans hy)⟩
theorem VM{E:aK}{c:Code}(h:∀id,E.Ω id=none):∀p∈jw c,yX E p.1 p.2:=fun p _ S hS=>by simp_all
theorem dY{E:aK}{c:Code}(hk:(ir c).length=0:=by kernel_rfl) (hΩ:∀id,E.Ω id=none:=by intro id;rfl):ff E c:=oD 0 hk (fun i hi=>absurd hi (Nat.not_lt_zero i)) (VM hΩ)
theorem Mr{E:aK}{c:Code}{l:List (Nat×iw)}(h:mL E c l) (hk:(ir c).length=0:=by kernel_rfl) (hΩ:E.Ω=Cc l:=by rfl) (hn:nR ((jw c).map Prod.fst)=true:=by kernel_rfl):ff E c :=
 oD 0 hk (fun i hi=>absurd hi (Nat.not_lt_zero i)) (Dt hn (fun id S hS=>Cw h id S (by rw[←hΩ];exact hS)))
theorem lF{E:aK}{c:Code}(k:Nat) (h:∀i,i<k→uR E (aC c i)) (hk:(ir c).length=k:=by kernel_rfl) (hΩ:∀id,E.Ω id=none:=by intro id;rfl):ff E c:=oD k hk h (VM hΩ)
theorem GF{E:aK}{c:Code}{l:List (Nat×iw)}(k:Nat) (h:∀i,i<k→uR E (aC c i)) (hr:mL E c l) (hk:(ir c).length=k:=by kernel_rfl) (hΩ:E.Ω=Cc l:=by rfl) (hn:nR ((jw c).map Prod.fst)=true:=by kernel_rfl):ff E c :=
 oD k hk h (Dt hn (fun id S hS=>Cw hr id S (by rw[←hΩ];exact hS)))
theorem iO{E:aK}{c:Code}(n:Nat) (S:cI) (f:Nat→TD (bD S.ent)→Option (EX S.exs)) (hs:∀m x,f (m+1) x=cE E c S (f m) x) (hS:E.Λ (key c)=some S:=by kernel_rfl) (h0:∀x,f 0 x=none:=by intro x;rfl) (hn:S.g=f n:=by rfl):uR E c:=Lh hS f h0 n hn hs
theorem ab{P:Program}{K:eB}{f:FuncId}{fn:Func}{S:aa}(hmo:P.follows .mixedOrders=true){t:kE}(hτ:dk P t) (hf:P.funcs[f]?=some fn) (E:aK) (l:List (Nat×aa)) (l2:List ((Nat×Nat)×aa)) (hl:Ca P K l) (hl2:xy P K l2)
  (hloops:ff E (aj fn)) (hg:∀x,S.g x=ar E fn S x) (ht:E.τ=t:=by rfl) (hΓ:E.Γ=gl l l2:=by rfl) (h1:(fn.name=="runtime.NumGoroutine")=false:=by kernel_rfl) (hb:fn.body.isSome=true:=by kernel_rfl) (hN:E.N=fn.ntmps:=by kernel_rfl) (hn:Nat.ble S.pars.length fn.ntmps=true:=by kernel_rfl) (hr:fn.results.size=S.res.length:=by kernel_rfl):mQ P K (f,S) :=
 ⟨dG hf h1 (by cases q:fn.body with
  |none=>rw[q]at hb;cases hb
  |some c=>rfl),Gn (S:=S) (E:=E) hf hmo (by rw[ht];exact hτ) hΓ hl hl2 hb hN (Nat.le_of_ble_eq_true hn) hr hloops hg⟩
end AM
end Go.Proofs.YtlkgapiohfgenaaGreatDoor
