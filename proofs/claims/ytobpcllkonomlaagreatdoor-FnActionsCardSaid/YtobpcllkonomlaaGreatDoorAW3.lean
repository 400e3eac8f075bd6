/- Regions of which the orders are too many to list: what only makes (a value, a box, what a call hands back) may stand on either side of its like, a store into a box that one slot alone leads to may be overtaken. No condition. And what follows it: see the remarks. -/
import Derived.Test.YtobpcllkonomlaaGreatDoorAW2
import Derived.ChangeArms
import Derived.Carry
import Derived.ChangeShapes
namespace Go.Proofs.YtobpcllkonomlaaGreatDoor
namespace AM
open Go
set_option linter.unusedVariables false
set_option linter.unusedSimpArgs false
def stg (E:aN) (l:List Oper) (o:Oper) (s:St):Option St:=cB E l [o] s some
def xN (E:aN) (l:List Oper):List Oper→St→Option St
 |[],s=>some s
 |o::r,s=>(stg E l o s).bind (xN E l r)
theorem qv{R:Type}{E:aN}{all:List Oper}:∀{l:List Oper}{s:St}(k:St→Option R),cB E all l s k=(xN E all l s).bind k
 |[],s,k=>rfl
 |o::r,s,k=>by
  show _=((stg E all o s).bind (xN E all r)).bind k
  rw[pD]
  unfold stg
  cases cB E all [o] s some with
  |none=>rfl
  |some s1=>exact qv k
def BZ (l:List Oper) (o:Oper):Option (Option Nat×Bool):=match o.guard with
 |none=>none
 |some (j,w)=>some ((l[j]?).bind (·.dst),w)
def gd (l:List Oper) (o:Oper) (s:St):Option Bool:=match BZ l o with
 |none=>some true
 |some (none,_)=>none
 |some (some t,w)=>match mE (s.t t)with
  |some b=>some (b==w)
  |none=>bif j9 (s.t t)then some false else none
theorem FB{s:St}{t:Nat}{b:Bool}(h:mE (s.t t)=some b):s.know (.tmp t) b=s:=by
 have e:s.t t = .c (.v .bool b):=by
  cases q:s.t t with
  |c x =>
   rw[q]at h
   cases x with
   |v ty y =>
    cases ty with
    |bool=>exact congrArg (fun z=>AV.c (.v .bool z)) (Option.some.inj h)
    |_=>cases h
   |_=>cases h
  |_=>rw[q]at h;cases h
 show St.mk _ _=s
 cases s with
 |mk ts os =>
  congr 1
  funext i
  show(bif Nat.beq i t then _ else ts i)=ts i
  cases q:Nat.beq i t with
  |false=>rfl
  |true=>obtain rfl:=Nat.eq_of_beq_eq_true q;exact e.symm
theorem zE{E:aN}{l:List Oper}{o:Oper}{s:St}:stg E l o s=match gd l o s with
  |some true=>ov E o s some
  |some false=>bif dm E.N o.dst then some (s.put o.dst mY)else none
  |none=>none:=by
 unfold stg gd BZ
 simp only[cB]
 cases hg:o.guard with
 |none=>rfl
 |some gw =>
  obtain⟨j,w⟩:=gw
  dsimp only
  cases ht:(l[j]?).bind (·.dst)with
  |none=>rfl
  |some t =>
   dsimp only
   cases hb:mE (s.t t)with
   |none=>cases q:j9 (s.t t)<;>cases q2:dm E.N o.dst<;>rfl
   |some b =>
    have hk:=FB hb
    dsimp only
    cases b<;>cases w<;>(dsimp only;rw[hk];rfl)
def Kr:Operand→List Nat
 | .tmp t=>[t]
 |_=>[]
def TC (l:List Oper) (o:Oper):List Nat:=match BZ l o with
 |some (some t,_)=>[t]
 |_=>[]
def iw (l:List Oper) (o:Oper):List Nat:=o.op.operands.toList.flatMap Kr++TC l o
theorem Eh{l:List Oper}{o:Oper}{s s':St}(h:∀t∈iw l o,s'.t t=s.t t):gd l o s'=gd l o s:=by
 have h:∀t∈TC l o,s'.t t=s.t t:=fun t ht=>h t (List.mem_append_right _ ht)
 unfold gd
 unfold TC at h
 cases hg:BZ l o with
 |none=>rfl
 |some p =>
  obtain⟨a,w⟩:=p
  cases a with
  |none=>rfl
  |some t =>
   rw[hg]at h
   dsimp only
   rw[h t (List.mem_singleton.2 rfl)]
theorem oI{l:List Oper}{o:Oper}{s s':St}(h:∀t∈iw l o,s'.t t=s.t t):∀x∈o.op.operands,s.ev x=s'.ev x:=fun x hx=>by
 cases x with
 |tmp t=>exact(h t (List.mem_append_left _ (List.mem_flatMap.2 ⟨_,Array.mem_toList_iff.2 hx,List.mem_singleton.2 rfl⟩))).symm
 |_=>rfl
theorem t7{l:List Oper}{o:Oper}{s:St}{x:Operand}{n:Nm}(hx:x∈o.op.operands) (hm:aK (s.ev x) n):∃t∈iw l o,aK (s.t t) n:=by
 cases x with
 |tmp t=>exact⟨t,List.mem_append_left _ (List.mem_flatMap.2 ⟨_,Array.mem_toList_iff.2 hx,List.mem_singleton.2 rfl⟩),hm⟩
 |const v=>exact absurd hm (ow v n)
 |global g=>exact hm.elim
 |func f=>exact hm.elim
def cY:Ob→Nm→Prop
 | .box cs,n=>cd cs n
 |_,_=>False
def cf (d:Nat):Nm→Bool
 |[]=>false
 |x::_=>Nat.beq x d
theorem uv{d e:Nat}(h:d≠e){n:Nm}(hd:cf d n=true):cf e n=false:=by
 cases n with
 |nil=>cases hd
 |cons x r =>
  obtain rfl:=Nat.eq_of_beq_eq_true hd
  exact dl h
def iv (τ:kb) (o:Oper):Bool:=match o.op with
 | .move _=>true
 | .assign _=>true
 | .load _ _=>true
 | .fieldAddr _ _ _=>true
 | .field _ _ _=>true
 | .nilCheck _=>true
 | .extract _ _=>true
 | .binOp _ _ _ _ _=>true
 | .unOp _ _ _=>true
 | .pick _ _ _=>true
 | .convert q d _ => !Nat.beq q d
 | .call { callee := .builtin .len, .. }=>true
 | .indexAddr _ _ _=>true
 | .build _ _=>true
 | .slice t _ _ _ none=>(match τ.get t with
  |some ti=>Nat.beq ti.kind 5
  |none=>false)
 |_=>false
def BW (n:Nm) (off sz:Nat) (j:Int):Nat→Nat→Option AV
 |_,0=>none
 |c,m+1=>bif decide (j=(c:Int))then some (.c (.pb n (off+c*sz)))else BW n off sz j (c+1) m
def AA (τ:kb) (op:Op) (e:Operand→AV):Option AV:=match op with
 | .indexAddr t x i=>match τ.get t,e x,e i with
  |some ti, .c (.pb n off), .c (.v (.int _) j)=>bif Nat.beq ti.kind 4 then(match τ.get ti.el with
   |some te=>bif Nat.blt 0 te.size then BW n off te.size j 0 (ti.size / te.size)else none
   |none=>none)else none
  |_,_,_=>none
 |_=>none
def sD (τ:kb) (op:Op) (e:Operand→AV) (o:Nm→Option Ob):Option (Bool×AV):=match fG τ op e o with
 |some r=>some r
 |none=>match AA τ op e with
  |some v=>some (true,v)
  |none=>none
theorem Io{R:Type}{s:St}{d:Nat}{n:Nm}{off sz:Nat}{j:Int}{k:St→Option R}:∀(m c:Nat),rS s d n off sz j k c m=(BW n off sz j c m).bind fun v=>k (s.put (some d) v)
 |0,c=>rfl
 |m+1,c=>by
  show(bif decide (j=(c:Int))then _ else rS s d n off sz j k (c+1) m)=(bif decide (j=(c:Int))then _ else BW n off sz j (c+1) m).bind _
  rw[Io m (c+1)]
  cases decide (j=(c:Int))<;>rfl
theorem Mi{R:Type} {τ:kb}{op:Op}{d:Nat}{s:St}{k:St→Option R}:uQ τ op d s k=(AA τ op s.ev).bind fun v=>k (s.put (some d) v):=by
 cases op with
 |indexAddr t x i =>
  show(match τ.get t,s.ev x,s.ev i with
   |some ti, .c (.pb n off), .c (.v (.int _) j)=>bif Nat.beq ti.kind 4 then(match τ.get ti.el with
    |some te=>bif Nat.blt 0 te.size then rS s d n off te.size j k 0 (ti.size / te.size)else none
    |none=>none)else none
   |_,_,_=>none)=(match τ.get t,s.ev x,s.ev i with
   |some ti, .c (.pb n off), .c (.v (.int _) j)=>bif Nat.beq ti.kind 4 then(match τ.get ti.el with
    |some te=>bif Nat.blt 0 te.size then BW n off te.size j 0 (ti.size / te.size)else none
    |none=>none)else none
   |_,_,_=>none).bind _
  split
  ·rename_i ti n off ik j e1 e2 e3
   cases Nat.beq ti.kind 4 with
   |false=>rfl
   |true =>
    simp only[cond_true]
    split
    ·rename_i te e4
     cases Nat.blt 0 te.size with
     |false=>rfl
     |true=>exact Io _ _
    ·rfl
  ·rfl
 |_=>rfl
theorem yQ{n:Nm}{off sz:Nat}{j:Int}{v:AV}:∀{m c:Nat},BW n off sz j c m=some v→∃k,v = .c (.pb n k)
 |0,c,h=>by cases h
 |m+1,c,h=>by
  have h:(bif decide (j=(c:Int))then some (AV.c (.pb n (off+c*sz)))else BW n off sz j (c+1) m)=some v:=h
  cases q:decide (j=(c:Int))with
  |true=>rw[q]at h;exact⟨_,(Option.some.inj h).symm⟩
  |false=>rw[q]at h;exact yQ h
theorem FZ {τ:kb}{op:Op}{e:Operand→AV}{v:AV}(h:AA τ op e=some v){n:Nm}(hm:aK v n):∃x∈op.operands,aK (e x) n:=by
 cases op with
 |indexAddr t x i =>
  unfold AA at h
  dsimp only at h
  split at h
  ·rename_i ti m off ik j e1 e2 e3
   refine⟨x,by simp[Op.operands],?_⟩
   rw[e2]
   generalize Nat.beq ti.kind 4=q at h
   cases q with
   |false=>cases h
   |true =>
    dsimp only[cond_true]at h
    split at h
    ·rename_i te e4
     generalize Nat.blt 0 te.size=q2 at h
     cases q2 with
     |false=>cases h
     |true =>
      obtain⟨k,rfl⟩:=yQ (show BW m off te.size j 0 (ti.size / te.size)=some v from h)
      exact hm
    ·cases h
  ·cases h
 |_=>cases h
theorem Dv {τ:kb}{op:Op}{e e':Operand→AV}(h:∀x∈op.operands,e x=e' x):AA τ op e=AA τ op e':=by
 cases op with
 |indexAddr t x i =>
  unfold AA
  dsimp only
  rw[h x (by simp[Op.operands]),h i (by simp[Op.operands])]
 |_=>rfl
theorem CC {τ:kb}{op:Op}{e e':Operand→AV}{o:Nm→Option Ob}(h:∀x∈op.operands,e x=e' x):sD τ op e o=sD τ op e' o:=by
 unfold sD
 rw[tX h,Dv h]
section
variable{E:aN}{l:List Oper}{o:Oper}{s s1:St}
theorem Gg (h:iv E.τ o=true){d:Nat}(hd:o.dst=some d):ov (R:=St) E o s some=match sD E.τ o.op s.ev s.o with
  |some (c,v)=>bif Nat.blt d E.N then(match c with|true=>some (s.put (some d) v)|false=>none)else none
  |none=>none:=by
 have hc:∀(op:Op),o.op=op→(∀e nm,re E.τ op e nm=none)→(∀d s,mw E.τ op d s=none) →
   (match fG E.τ op s.ev s.o with
    |some (c,v)=>bif dm E.N o.dst then(match c with|true=>some (s.put o.dst v)|false=>none)else none
    |none=>match o.dst with
     |some d=>bif Nat.blt d E.N then(match re E.τ op (s.drop [d,0]).ev [d,0]with
      |some (c,ob,v)=>(match c with|true=>some (((s.drop [d,0]).setO [d,0] ob).put (some d) v)|false=>none)
      |none=>match mw E.τ op (some d) s with
       |some (c,s')=>(match c with|true=>some s'|false=>none)
       |none=>uQ (R:=St) E.τ op d s some)else none
     |none=>match mw E.τ op none s with
      |some (c,s')=>(match c with|true=>some s'|false=>none)
      |none=>none)=(match sD E.τ op s.ev s.o with
    |some (c,v)=>bif Nat.blt d E.N then(match c with|true=>some (s.put (some d) v)|false=>none)else none
    |none=>none):=by
  intro op _ hm hw
  rw[hd]
  unfold sD
  cases fG E.τ op s.ev s.o with
  |some p=>rfl
  |none =>
   dsimp only
   rw[hm,hw]
   dsimp only
   rw[Mi]
   cases AA E.τ op s.ev<;>cases Nat.blt d E.N<;>rfl
 unfold iv at h
 unfold ov
 cases hop:o.op with
 |indexAddr t x i=>exact hc _ hop (fun _ _=>rfl) fun _ _=>rfl
 |slice t x lo hi mx =>
  rw[hop]at h
  cases mx with
  |some y=>cases h
  |none =>
   refine hc _ hop (fun _ _=>rfl) fun d' s'=>?_
   dsimp only at h
   unfold mw
   dsimp only
   cases hti:E.τ.get t with
   |none=>rfl
   |some ti =>
    rw[hti]at h
    have h5:ti.kind=5:=Nat.eq_of_beq_eq_true h
    have h3:Nat.beq ti.kind 3=false:=by rw[h5];rfl
    split
    ·rename_i ti' n e1 e2
     obtain rfl:=Option.some.inj e1
     rw[h3];rfl
    ·rfl
 |move x=>exact hc _ hop (fun _ _=>rfl) fun _ _=>rfl
 |assign x=>exact hc _ hop (fun _ _=>rfl) fun _ _=>rfl
 |load t x=>exact hc _ hop (fun _ _=>rfl) fun _ _=>rfl
 |build t ps=>exact hc _ hop (fun _ _=>rfl) fun _ _=>rfl
 |fieldAddr t x f=>exact hc _ hop (fun _ _=>rfl) fun _ _=>rfl
 |field t x f=>exact hc _ hop (fun _ _=>rfl) fun _ _=>rfl
 |nilCheck x=>exact hc _ hop (fun _ _=>rfl) fun _ _=>rfl
 |extract x i=>exact hc _ hop (fun _ _=>rfl) fun _ _=>rfl
 |binOp a b c d e=>exact hc _ hop (fun _ _=>rfl) fun _ _=>rfl
 |unOp a b c=>exact hc _ hop (fun _ _=>rfl) fun _ _=>rfl
 |pick a b c=>exact hc _ hop (fun _ _=>rfl) fun _ _=>rfl
 |convert a b c =>
  rw[hop]at h
  have h3:Nat.beq a b=false:=by simpa using h
  refine hc _ hop (fun _ _=>rfl) fun d' s'=>?_
  unfold mw
  dsimp only
  split
  ·rw[h3];rfl
  ·rfl
 |call c =>
  obtain⟨cl,xs,ts⟩:=c
  rw[hop]at h
  cases cl with
  |builtin b=>cases b<;>first|exact hc _ hop (fun _ _=>rfl) (fun _ _=>rfl)|cases h
  |_=>cases h
 |_=>rw[hop]at h;cases h
theorem IC {τ:kb}{op:BinOp}{xt:Nat}{x y:AV}{c:Bool}{v:AV}(h:bin τ op xt x y=some (c,v)) (n:Nm):¬aK v n:=by
 have one:∀{k:IntKind}{a b:Int}{op:BinOp}{r:Bool×CV},Ip op k a b=some r→¬eQ r.2 n:=by
  intro k a b op r hr
  unfold Ip at hr
  cases op<;>first|(cases hr;done)|(obtain rfl:=Option.some.inj hr;exact fun q=>q)
 have two:∀{a b:ByteArray}{op:BinOp}{r:Bool×CV},Gt op a b=some r→¬eQ r.2 n:=by
  intro a b op r hr
  unfold Gt at hr
  cases op<;>first|(cases hr;done)|(obtain rfl:=Option.some.inj hr;exact fun q=>q)
 have three:∀{a b:Bool}{op:BinOp}{r:Bool×CV},ID op a b=some r→¬eQ r.2 n:=by
  intro a b op r hr
  unfold ID at hr
  cases op<;>first|(cases hr;done)|(obtain rfl:=Option.some.inj hr;exact fun q=>q)
 unfold bin at h
 split at h
 ·split at h
  ·obtain⟨rfl,rfl⟩:=Prod.mk.inj (Option.some.inj h);exact fun q=>q
  ·obtain⟨rfl,rfl⟩:=Prod.mk.inj (Option.some.inj h);exact fun q=>q
  ·split at h
   ·split at h
    ·rename_i r e
     obtain⟨rfl,rfl⟩:=Prod.mk.inj (Option.some.inj h)
     exact one e
    ·cases h
   ·cases h
 ·split at h
  ·rename_i r e
   obtain⟨rfl,rfl⟩:=Prod.mk.inj (Option.some.inj h)
   exact two e
  ·cases h
 ·split at h
  ·rename_i ti e
   cases q:Nat.beq ti.kind 6 with
   |false=>rw[q]at h;cases h
   |true =>
    rw[q]at h
    dsimp only[cond_true]at h
    split at h
    ·rename_i r e
     obtain⟨rfl,rfl⟩:=Prod.mk.inj (Option.some.inj h)
     exact three e
    ·cases h
  ·cases h
 ·split at h
  ·split at h
   ·split at h
    ·obtain⟨rfl,rfl⟩:=Prod.mk.inj (Option.some.inj h);exact fun q=>q
    ·obtain⟨rfl,rfl⟩:=Prod.mk.inj (Option.some.inj h);exact fun q=>q
    ·cases h
   ·cases h
  ·cases h
 ·cases h
theorem qr{cs:List CV}{off k:Nat}{agg:Bool}{v:AV}(h:part cs off k agg=some v){n:Nm}(hm:aK v n):cd cs n:=by
 unfold part at h
 cases q:Nat.ble (off+k) cs.length with
 |false=>rw[q]at h;cases h
 |true =>
  rw[q]at h
  have h:qw agg ((cs.drop off).take k)=some v:=h
  have sub:∀{c:CV},c∈(cs.drop off).take k→c∈cs:=fun hc=>List.mem_of_mem_drop (List.mem_of_mem_take hc)
  unfold qw at h
  split at h
  ·obtain rfl:=Option.some.inj h
   obtain⟨c,hc,hm⟩:=hm
   exact⟨c,sub hc,hm⟩
  ·rename_i c e _
   obtain rfl:=Option.some.inj h
   exact⟨c,sub (by rw[e];exact List.mem_singleton.2 rfl),hm⟩
  ·cases h
theorem pG{ob:Nm→Option Ob}{k:Nat}{agg:Bool}{p:CV}{v:AV}(h:loadCells ob k agg p=some v){n:Nm}(hm:aK v n):∃m x,eQ p m∧ob m=some x∧cY x n:=by
 cases p with
 |pb m off =>
  unfold loadCells at h
  dsimp only at h
  split at h
  ·rename_i cs e
   exact⟨m,_,rfl,e,qr h hm⟩
  ·cases h
 |pa m z i j =>
  unfold loadCells at h
  dsimp only at h
  split at h
  ·exact absurd (qr h hm) (n9 _ _ _)
  ·cases h
 |pe t x j=>exact absurd (qr (show part (split t x) j k agg=some v from h) hm) (n9 _ _ _)
 |_=>cases h
theorem xa{pl:Nat→Option (Nat×Nat)}:∀{ps:List (Nat×AV)}{cs out:List CV},vv pl cs ps=some out→∀{n:Nm},cd out n→cd cs n∨∃p∈ps,aK p.2 n
 |[],cs,out,h,n,hm=>by
  obtain rfl:=Option.some.inj (show some cs=some out from h)
  exact .inl hm
 |p::ps,cs,out,h,n,hm=>by
  simp only[vv]at h
  split at h
  ·rename_i off k new _ hn
   cases q:(Nat.beq new.length k&&Nat.ble (off+k) cs.length)with
   |false=>rw[q]at h;cases h
   |true =>
    rw[q,cond_true]at h
    rcases xa h hm with g|⟨p',hp,g⟩
    ·have:cd cs n∨cd new n:=by
      obtain⟨c,hc,hm⟩:=g
      unfold xL at hc
      rcases List.mem_append.1 hc with hc|hc
      ·rcases List.mem_append.1 hc with hc|hc
       ·exact .inl ⟨c,List.mem_of_mem_take hc,hm⟩
       ·exact .inr ⟨c,hc,hm⟩
      ·exact .inl ⟨c,List.mem_of_mem_drop hc,hm⟩
     rcases this with g|g
     ·exact .inl g
     ·exact .inr ⟨p,List.mem_cons_self ..,lP hn g⟩
    ·exact .inr ⟨p',List.mem_cons_of_mem _ hp,g⟩
  ·cases h
theorem I9 {τ:kb}(hv:iv τ o=true){e:Operand→AV}{ob ob':Nm→Option Ob}(ho:∀x∈o.op.operands, ∀n,aK (e x) n→ob' n=ob n):fG τ o.op e ob'=fG τ o.op e ob:=by
 unfold iv at hv
 cases hop:o.op with
 |build t ps=>rfl
 |load t a =>
  rw[hop]at ho
  unfold fG
  dsimp only
  cases τ.get t with
  |none=>rfl
  |some ti =>
   cases he:e a with
   |c p =>
    have h1:∀n,eQ p n→ob' n=ob n:=fun n hn=>ho a (by simp[Op.operands]) n (by rw[he];exact hn)
    dsimp only
    have:loadCells ob' ti.size ti.agg p=loadCells ob ti.size ti.agg p:=by
     cases p with
     |pb m off=>unfold loadCells;dsimp only;rw[h1 m rfl]
     |pa m z i j=>unfold loadCells;dsimp only;rw[h1 m rfl]
     |_=>rfl
    rw[this]
   |_=>rfl
 |indexAddr t a i =>
  rw[hop]at ho
  unfold fG
  dsimp only
  cases τ.get t with
  |none=>rfl
  |some ti =>
   cases he:e a with
   |c p =>
    have h1:∀n,eQ p n→ob' n=ob n:=fun n hn=>ho a (by simp[Op.operands]) n (by rw[he];exact hn)
    have:∀k j,kr ob' k j p=kr ob k j p:=by
     intro k j
     cases p with
     |own m=>unfold kr;dsimp only;rw[h1 m rfl]
     |v t x=>cases t<;>rfl
     |_=>rfl
    cases hi:e i with
    |c q =>
     cases q with
     |v t x =>
      cases t with
      |int k =>
       dsimp only
       cases τ.get ti.el with
       |none=>rfl
       |some te=>dsimp only;rw[this]
      |_=>rfl
     |_=>rfl
    |_=>rfl
   |_=>rfl
 |convert q d a =>
  rw[hop]at ho
  unfold fG
  dsimp only
  cases τ.get q with
  |none=>rfl
  |some tq =>
   dsimp only
   cases τ.get d with
   |none=>rfl
   |some ti =>
    cases he:e a with
    |c p =>
     cases p with
     |own m=>dsimp only;rw[ho a (by simp[Op.operands]) m (by rw[he];exact rfl)]
     |v t x =>
      cases t with
      |sl u=>cases u<;>first|rfl|(rename_i ik;cases ik<;>rfl)
      |_=>rfl
     |_=>rfl
    |_=>rfl
 |slice t x lo hi mx=>cases mx<;>rfl
 |move x=>rfl
 |assign x=>rfl
 |fieldAddr t x f=>rfl
 |field t x f=>rfl
 |nilCheck x=>rfl
 |extract x i=>rfl
 |binOp a b c d e=>rfl
 |unOp a b c=>rfl
 |pick a b c=>rfl
 |call c =>
  obtain⟨cl,xs,ts⟩:=c
  rw[hop]at hv ho
  cases cl with
  |builtin b =>
   cases b<;>try (cases hv;done)
   have one:∀x∈xs.toList, ∀p,e x = .c p→lenOf ob' p=lenOf ob p:=by
    intro x hx p he
    have h1:∀n,eQ p n→ob' n=ob n:=fun n hn=>ho x (by simp[Op.operands,Call.operands];simpa using hx) n (by rw[he];exact hn)
    cases p with
    |own m=>unfold lenOf;dsimp only;rw[h1 m rfl]
    |v t x=>cases t<;>rfl
    |_=>rfl
   unfold fG
   dsimp only
   cases hl:xs.toList with
   |nil=>rfl
   |cons x r =>
    cases r with
    |nil =>
     cases he:e x with
     |c p =>
      simp only[List.map_cons,List.map_nil,he]
      rw[one x (by rw[hl];exact List.mem_cons_self ..) p he]
     |_=>simp only[List.map_cons,List.map_nil,he]
    |cons y r =>
     simp only[List.map_cons]
     cases e x with
     |c p=>rfl
     |_=>rfl
  |_=>cases hv
 |_=>rw[hop]at hv;cases hv
theorem Gi {τ:kb}(hv:iv τ o=true){e:Operand→AV}{ob:Nm→Option Ob}{c:Bool}{v:AV}(h:fG τ o.op e ob=some (c,v)){n:Nm}(hm:aK v n) :
  (∃x∈o.op.operands,aK (e x) n)∨∃x∈o.op.operands, ∃m y,aK (e x) m∧ob m=some y∧cY y n:=by
 unfold iv at hv
 cases hop:o.op with
 |build t ps =>
  rw[hop]at h
  left
  unfold fG at h
  dsimp only at h
  have key:∀{pl:Nat→Option (Nat×Nat)}{zc cs:List CV},(∀n,¬cd zc n)→vv pl zc (ps.toList.map fun p=>(p.1,e p.2))=some cs→cd cs n→∃x∈(Op.build t ps).operands,aK (e x) n:=fun hz hf hc=>by
   rcases xa hf hc with q|⟨p,hp,q⟩
   ·exact absurd q (hz n)
   ·obtain⟨p',hp',rfl⟩:=List.mem_map.1 hp
    exact⟨p'.2,Array.mem_def.2 (List.mem_map.2 ⟨p',hp',rfl⟩),q⟩
  split at h
  ·rename_i ti _
   split at h
   ·rename_i zc hz
    have zm:=fun n=>zr hz n
    cases q1:Nat.beq ti.kind 2 with
    |true =>
     rw[q1,cond_true]at h
     split at h
     ·rename_i cs hf
      obtain⟨_,rfl⟩:=Prod.mk.inj (Option.some.inj h)
      exact key zm hf hm
     ·cases h
    |false =>
     rw[q1,cond_false]at h
     cases q2:Nat.beq ti.kind 4 with
     |false=>rw[q2]at h;cases h
     |true =>
      rw[q2,cond_true]at h
      split at h
      ·split at h
       ·rename_i cs hf
        obtain⟨_,rfl⟩:=Prod.mk.inj (Option.some.inj h)
        exact key zm hf hm
       ·cases h
      ·cases h
   ·cases h
  ·cases h
 |move x=>rw[hop]at h;obtain⟨_,rfl⟩:=Prod.mk.inj (Option.some.inj h);exact .inl ⟨x,by simp[Op.operands],hm⟩
 |assign x=>rw[hop]at h;obtain⟨_,rfl⟩:=Prod.mk.inj (Option.some.inj h);exact .inl ⟨x,by simp[Op.operands],hm⟩
 |slice t x lo hi mx =>
  rw[hop]at h hv
  cases mx with
  |some y=>cases hv
  |none =>
   dsimp only at hv
   unfold fG at h
   dsimp only at h
   split at h
   ·generalize Nat.beq _ 5=q at h
    cases q with
    |false=>cases h
    |true =>
     dsimp only[cond_true]at h
     split at h<;>first|(cases h;done)|(obtain⟨_,rfl⟩:=Prod.mk.inj (Option.some.inj h);exact hm.elim)
   ·rename_i ti t' xs e1 e2
    rw[e1]at hv
    have h5:ti.kind=5:=Nat.eq_of_beq_eq_true hv
    have h3:Nat.beq ti.kind 3=false:=by rw[h5];rfl
    rw[h3]at h
    cases h
   ·cases h
 |load t a =>
  rw[hop]at h
  unfold fG at h
  dsimp only at h
  split at h
  ·rename_i ti p e1 e2
   split at h
   ·rename_i v' e3
    obtain⟨_,rfl⟩:=Prod.mk.inj (Option.some.inj h)
    obtain⟨m,y,h1,h2,h3⟩:=pG e3 hm
    exact .inr ⟨a,by simp[Op.operands],m,y,by rw[e2];exact h1,h2,h3⟩
   ·cases h
  ·cases h
 |indexAddr t a i =>
  rw[hop]at h
  unfold fG at h
  dsimp only at h
  split at h
  ·rename_i ti p ik j e1 e2 e3
   cases q:Nat.beq ti.kind 3 with
   |false=>rw[q]at h;cases h
   |true =>
    rw[q]at h
    dsimp only[cond_true]at h
    split at h
    ·refine .inl ⟨a,by simp[Op.operands],?_⟩
     rw[e2]
     cases p with
     |own m =>
      unfold kr at h
      dsimp only at h
      split at h
      ·rename_i u xs _
       cases q:Nat.beq _ u.sz with
       |false=>rw[q]at h;cases h
       |true=>rw[q]at h;obtain⟨_,rfl⟩:=Prod.mk.inj (Option.some.inj h);exact hm
      ·cases h
     |v t x =>
      cases t with
      |sl u =>
       unfold kr at h
       dsimp only at h
       cases q:Nat.beq _ u.sz with
       |false=>rw[q]at h;cases h
       |true=>rw[q]at h;obtain⟨_,rfl⟩:=Prod.mk.inj (Option.some.inj h);exact hm.elim
      |_=>cases h
     |_=>cases h
    ·cases h
  ·cases h
 |convert q d a =>
  rw[hop]at h
  exfalso
  unfold fG at h
  dsimp only at h
  have fin:∀{b:Bool}{w:CV},(¬eQ w n)→(bif b then some (true,AV.c w)else none)=some (c,v)→False:=fun{b w} hw q=>by
   cases b with
   |false=>cases q
   |true=>obtain⟨_,rfl⟩:=Prod.mk.inj (Option.some.inj q);exact hw hm
  split at h
  ·cases h
  ·split at h
   ·exact fin (w := .v _ _) (fun q=>q) h
   ·exact fin (w := .v _ _) (fun q=>q) h
   ·exact fin (w := .v _ _) (fun q=>q) h
   ·exact fin (w := .v _ _) (fun q=>q) h
   ·split at h
    ·exact fin (w := .v _ _) (fun q=>q) h
    ·cases h
   ·cases h
 |fieldAddr t x f =>
  rw[hop]at h
  unfold fG at h
  dsimp only at h
  split at h
  ·rename_i ti p e1 e2
   cases q:Nat.beq ti.kind 2 with
   |false=>rw[q]at h;cases h
   |true =>
    rw[q]at h
    dsimp only[cond_true]at h
    split at h
    ·split at h
     ·rename_i fd _ _ q' e4
      obtain⟨_,rfl⟩:=Prod.mk.inj (Option.some.inj h)
      refine .inl ⟨x,by simp[Op.operands],?_⟩
      rw[e2]
      cases p with
      |pb m k=>obtain rfl:=Option.some.inj (show some (CV.pb m (k+fd.1))=some q' from e4);exact hm
      |pa m z k j=>obtain rfl:=Option.some.inj (show some (CV.pa m z k (j+fd.1))=some q' from e4);exact hm
      |pe u y j=>obtain rfl:=Option.some.inj (show some (CV.pe u y (j+fd.1))=some q' from e4);exact hm
      |_=>cases e4
     ·cases h
    ·cases h
  ·cases h
 |field t x f =>
  rw[hop]at h
  unfold fG at h
  dsimp only at h
  split at h
  ·rename_i ti cs e1 e2
   cases q:Nat.beq ti.kind 2 with
   |false=>rw[q]at h;cases h
   |true =>
    rw[q]at h
    dsimp only[cond_true]at h
    split at h
    ·split at h
     ·rename_i fd _ v' e4
      obtain⟨_,rfl⟩:=Prod.mk.inj (Option.some.inj h)
      refine .inl ⟨x,by simp[Op.operands],?_⟩
      rw[e2]
      exact qr e4 hm
     ·cases h
    ·cases h
  ·cases h
 |nilCheck x =>
  rw[hop]at h
  unfold fG at h
  dsimp only at h
  refine .inl ⟨x,by simp[Op.operands],?_⟩
  split at h
  ·rename_i e2;rw[e2];obtain⟨_,rfl⟩:=Prod.mk.inj (Option.some.inj h);exact hm
  ·rename_i e2;rw[e2];obtain⟨_,rfl⟩:=Prod.mk.inj (Option.some.inj h);exact hm
  ·rename_i e2;rw[e2];obtain⟨_,rfl⟩:=Prod.mk.inj (Option.some.inj h);exact hm
  ·cases h
 |extract x i =>
  rw[hop]at h
  unfold fG at h
  dsimp only at h
  split at h
  ·rename_i cs e2
   split at h
   ·rename_i p e3
    split at h
    ·rename_i v' e4
     obtain⟨_,rfl⟩:=Prod.mk.inj (Option.some.inj h)
     refine .inl ⟨x,by simp[Op.operands],?_⟩
     rw[e2]
     refine⟨p,List.mem_of_getElem? e3,?_⟩
     unfold qw at e4
     split at e4
     ·rename_i e5 _;obtain rfl:=Option.some.inj e4;exact hm
     ·rename_i cc e5 e6;obtain rfl:=Option.some.inj e4;rw[e6];exact⟨cc,List.mem_singleton.2 rfl,hm⟩
     ·cases e4
    ·cases h
   ·cases h
  ·cases h
 |binOp a b x y z =>
  rw[hop]at h
  unfold fG at h
  dsimp only at h
  split at h
  ·exfalso
   unfold zX at h
   split at h
   ·cases h
   ·split at h
    ·rename_i ti _ k b' _
     generalize Nat.beq _ (vM _)=q at h
     cases q with
     |false=>cases h
     |true =>
      dsimp only[cond_true]at h
      unfold G8 at h
      split at h
      ·obtain⟨_,rfl⟩:=Prod.mk.inj (Option.some.inj h);exact hm
      ·obtain⟨_,rfl⟩:=Prod.mk.inj (Option.some.inj h);exact hm
      ·cases h
    ·cases h
  ·exact absurd hm (IC h n)
 |unOp a b x =>
  rw[hop]at h
  exfalso
  unfold fG at h
  dsimp only at h
  split at h
  ·obtain⟨_,rfl⟩:=Prod.mk.inj (Option.some.inj h);exact hm
  ·obtain⟨_,rfl⟩:=Prod.mk.inj (Option.some.inj h);exact hm
  ·cases h
 |pick x a b =>
  rw[hop]at h
  unfold fG at h
  dsimp only at h
  split at h
  ·rename_i y e2
   obtain⟨_,rfl⟩:=Prod.mk.inj (Option.some.inj h)
   unfold zP at hm
   split at hm
   ·exact hm.elim
   ·cases y with
    |true=>exact .inl ⟨a,by simp[Op.operands],hm⟩
    |false=>exact .inl ⟨b,by simp[Op.operands],hm⟩
  ·cases h
 |call c =>
  obtain⟨cl,xs,ts⟩:=c
  rw[hop]at hv h
  exfalso
  cases cl with
  |builtin b =>
   cases b<;>try (cases hv;done)
   unfold fG at h
   dsimp only at h
   split at h
   ·split at h
    ·split at h
     ·rename_i ti _
      generalize (Nat.beq ti.kind (sY _) && !Nat.beq ti.kind 0)=q at h
      cases q with
      |false=>cases h
      |true=>obtain⟨_,rfl⟩:=Prod.mk.inj (Option.some.inj h);exact hm
     ·cases h
    ·cases h
   ·rename_i e1 _;cases e1
   ·rename_i e1 _;cases e1
   ·cases h
  |_=>cases hv
 |_=>rw[hop]at hv;cases hv
theorem Gk {τ:kb}(hv:iv τ o=true){e:Operand→AV}{ob ob':Nm→Option Ob}(ho:∀x∈o.op.operands, ∀n,aK (e x) n→ob' n=ob n):sD τ o.op e ob'=sD τ o.op e ob:=by
 unfold sD
 rw[I9 hv ho]
theorem EP {τ:kb}(hv:iv τ o=true){e:Operand→AV}{ob:Nm→Option Ob}{c:Bool}{v:AV}(h:sD τ o.op e ob=some (c,v)){n:Nm}(hm:aK v n) :
  (∃x∈o.op.operands,aK (e x) n)∨∃x∈o.op.operands, ∃m y,aK (e x) m∧ob m=some y∧cY y n:=by
 unfold sD at h
 cases hq:fG τ o.op e ob with
 |some r =>
  rw[hq]at h
  obtain rfl:=Option.some.inj h
  exact Gi hv hq hm
 |none =>
  rw[hq]at h
  cases ha:AA τ o.op e with
  |none=>rw[ha]at h;cases h
  |some u =>
   rw[ha]at h
   obtain⟨_,rfl⟩:=Prod.mk.inj (Option.some.inj h)
   exact .inl (FZ ha hm)
end
def eC (d:Nat) (s:St):Prop:=(∀t,t≠d→∀n,cf d n=true→¬aK (s.t t) n)∧∀m ob,s.o m=some ob→cf d m=false∧∀n,cf d n=true→¬cY ob n
def xG (d:Nat) (s:St):Prop:=s.t d = .c (.pb [d,0] 0)∧(∀t,t≠d→¬aK (s.t t) [d,0])∧∀m ob,s.o m=some ob→¬cY ob [d,0]
theorem CV.drop_id{n:Nm}{c:CV}(h:¬eQ c n):c.drop n=c:=by
 cases c with
 |own m=>show(bif Nm.eqb m n then CV.dead else .own m)=_;rw[aT.2 h];rfl
 |pb m k=>show(bif Nm.eqb m n then CV.dead else .pb m k)=_;rw[aT.2 h];rfl
 |pa m z i j=>show(bif Nm.eqb m n then CV.dead else .pa m z i j)=_;rw[aT.2 h];rfl
 |mp m=>show(bif Nm.eqb m n then CV.dead else .mp m)=_;rw[aT.2 h];rfl
 |clo f cs =>
  have:(cs.any fun p=>Nm.eqb p.1 n)=false:=by
   rw[List.any_eq_false]
   intro p hp
   rw[aT.2 (fun e=>h ⟨p,hp,e⟩)]
   exact Bool.noConfusion
  show(bif (cs.any fun p=>Nm.eqb p.1 n)then CV.dead else .clo f cs)=_
  rw[this];rfl
 |_=>rfl
theorem Nc.drop_id{n:Nm}{cs:List CV}(h:¬cd cs n):cs.map (CV.drop n)=cs:=by
 induction cs with
 |nil=>rfl
 |cons c cs ih =>
  rw[List.map_cons,CV.drop_id (fun q=>h ⟨c,List.mem_cons_self ..,q⟩),ih (fun⟨x,hx,q⟩=>h ⟨x,List.mem_cons_of_mem _ hx,q⟩)]
theorem AV.drop_id{n:Nm}{v:AV}(h:¬aK v n):v.drop n=v:=by
 cases v with
 |c x=>exact congrArg AV.c (CV.drop_id h)
 |g cs=>exact congrArg AV.g (Nc.drop_id h)
 |tup l =>
  refine congrArg AV.tup ?_
  induction l with
  |nil=>rfl
  |cons p l ih =>
   rw[List.map_cons,ih (fun⟨x,hx,q⟩=>h ⟨x,List.mem_cons_of_mem _ hx,q⟩),Nc.drop_id (fun q=>h ⟨p,List.mem_cons_self ..,q⟩)]
theorem Ob.drop_id{n:Nm}{x:Ob}(h:¬cY x n):x.drop n=x:=by
 cases x with
 |box cs=>exact congrArg Ob.box (Nc.drop_id h)
 |_=>rfl
theorem eC.o_none{d:Nat}{s:St}(h:eC d s){n:Nm}(hn:cf d n=true):s.o n=none:=by
 cases q:s.o n with
 |none=>rfl
 |some ob=>rw[(h.2 n ob q).1]at hn;cases hn
theorem eC.drops{d:Nat}{s:St}(h:eC d s):∀(ns:List Nm),(∀n∈ns,cf d n=true)→(∀t,t≠d→(s.drops ns).t t=s.t t)∧(s.drops ns).o=s.o
 |[],_=>⟨fun _ _=>rfl,rfl⟩
 |n::ns,hn=>by
  have h0:=hn n (List.mem_cons_self ..)
  have e1:∀t,t≠d→(s.drop n).t t=s.t t:=fun t ht=>AV.drop_id (h.1 t ht n h0)
  have e2:(s.drop n).o=s.o:=by
   funext m
   show(bif Nm.eqb m n then none else(s.o m).map (Ob.drop n))=s.o m
   cases q:Nm.eqb m n with
   |true=>rw[bA.1 q,h.o_none h0];rfl
   |false =>
    cases q2:s.o m with
    |none=>rfl
    |some ob=>exact congrArg some (Ob.drop_id ((h.2 m ob q2).2 n h0))
  have h':eC d (s.drop n):=⟨fun t ht k hk=>by rw[e1 t ht];exact h.1 t ht k hk,fun m ob hm=>by rw[e2]at hm;exact h.2 m ob hm⟩
  obtain⟨g1,g2⟩:=h'.drops ns (fun k hk=>hn k (List.mem_cons_of_mem _ hk))
  exact⟨fun t ht=>(g1 t ht).trans (e1 t ht),g2.trans e2⟩
theorem eC.ev{d:Nat}{s:St}(h:eC d s){n:Nm}(hn:cf d n=true){x:Operand}(hx:x ≠ .tmp d):(s.drop n).ev x=s.ev x:=by
 cases x with
 |tmp t=>exact((h.drops [n] (fun k hk=>by rw[List.mem_singleton.1 hk];exact hn)).1 t (fun e=>hx (by rw[e])))
 |_=>rfl
def Ih:bK→Bool
 | .no=>true
 | .ln _=>true
 |_=>false
def Bx:Cr→Bool
 | .p _=>false
 |_=>true
def jF{R:Type}(S:ac) (vs:List AV) (d:Nat) (o:Nm→Option Ob) (k:AV→List (Nm×Ob)→Option R):Option R :=
 bif Nat.beq (vs.length+S.gh.length) S.pars.length&&(oB S.gh&&S.pars.all Bx)then(match iP o (aB 0 S.pars) vs with
  |some (ds,ts)=>bif i8 S.pars.length (aB 0 S.pars)&&(jc ts&&((bif S.shares then d9 (ts.flatMap bK.lent)else true)&&(d9 ((ts.flatMap bK.pair).map Prod.snd)&&ts.all Ih)))then(match rF (bg (aB 0 S.pars)) ds with
   |some x=>match S.g x with
    |some r=>match lW d (fun _=>none) ts (S.ens.flatMap En.names) (fR S.ens (au _ r))with
     |some ups=>bif iA S d (fun _=>none) ts (cC S.ens (au _ r)) (fR S.ens (au _ r)) ups then k ((px (cC S.ens (au _ r)) S.pars.length S.res.length).ren d ts (S.ens.flatMap En.names)) ups else none
     |none=>none
    |none=>none
   |none=>none)else none
  |none=>none)else none
def mF:Op→Bool
 | .alloc _=>true
 |_=>false
def BT:Op→Bool
 | .buildSlice _ _ ⟨[]⟩=>true
 |_=>false
def jG (o:Oper):Option Nat:=match o.op,o.dst with
 | .call { callee := .builtin .append,args:=⟨[.tmp t,_]⟩, .. },some _=>some t
 |_,_=>none
def ce (o:Oper):Bool:=match o.guard with
 |none=>true
 |some _=>false
def az (E:aN) (o:Oper):Nat:=bif iv E.τ o&&(match o.dst with|some _=>true|none=>false)then 0 else bif ce o then(match o.op,o.dst with
 | .call { callee := .value (.func f), .. },some d=>(match E.Γ f d with
  |some S=>bif d9 (S.ens.flatMap En.names)then 4 else 1
  |none=>3)
 | .alloc _,some _=>1
 | .buildSlice _ _ ⟨[]⟩,some _=>1
 | .store _ (.tmp _) _,none=>2
 | .call { callee := .builtin .append,args:=⟨[.tmp _,_]⟩, .. },some _=>6
 |_,_=>3)else 3
def z7{R:Type}(E:aN) (o:Oper) (s:St) (k:St→Option R):Option R:=match o.dst with
 |none=>none
 |some d=>bif Nat.blt d E.N then(match o.op with
  | .call { callee := .value (.func f),args, .. }=>(match E.Γ f d with
   |some S=>jF S (args.toList.map s.ev) d s.o (fun v ups=>k ((s.over ups).put (some d) v))
   |none=>none)
  |op=>(match re E.τ op s.ev [d,0]with
   |some (c,ob,v)=>(match c with|true=>k ((s.over [([d,0],ob)]).put (some d) v)|false=>none)
   |none=>none))else none
def zT{R:Type}(fr:Bool) (E:aN) (o:Oper) (s:St) (k:St→Option R):Option R:=match az E o with
 |1=>(match fr with|true=>z7 E o s k|false=>ov E o s k)
 |4=>z7 E o s k
 |_=>ov E o s k
def ls{R:Type}(fr:Bool) (E:aN) (all:List Oper):List Oper→St→(St→Option R)→Option R
 |[],s,k=>k s
 |o::r,s,k=>match o.guard with
  |none=>zT fr E o s (fun s'=>ls fr E all r s' k)
  |some _=>cB E all [o] s (fun s'=>ls fr E all r s' k)
structure K7 (E:aN) (l:List Oper) (o:Oper) (q:Bool) (s:St) (d:Nat) (v:AV) (ups:List (Nm×Ob)):Prop where
 dst:o.dst=some d
 step:∀s':St,(∀t∈iw l o,s'.t t=s.t t)→(∀t∈iw l o, ∀n,aK (s.t t) n→s'.o n=s.o n)→(q=true→eC d s')→stg E l o s'=some ((s'.over ups).put (some d) v)
 hd:∀p∈ups,cf d p.1=true
 ment:∀n,(aK v n∨∃p∈ups,cY p.2 n)→cf d n=true∨(∃t∈iw l o,aK (s.t t) n)∨∃t∈iw l o, ∃m y,aK (s.t t) m∧s.o m=some y∧cY y n
section
variable{E:aN}{l:List Oper}{o:Oper}{s s1:St}
theorem JD (hk:az E o=0) (h:stg E l o s=some s1):∃d v,K7 E l o false s d v []∧s1=(s.over []).put (some d) v:=by
 obtain⟨hv,d,hd⟩:iv E.τ o=true∧∃d,o.dst=some d:=by
  unfold az at hk
  cases q:(iv E.τ o&&(match o.dst with|some _=>true|none=>false))with
  |false =>
   rw[q]at hk
   dsimp only[cond_false]at hk
   cases hn:ce o with
   |false=>rw[hn]at hk;cases hk
   |true =>
    rw[hn]at hk
    dsimp only[cond_true]at hk
    split at hk
    ·split at hk
     ·rename_i S _
      cases hs:d9 (S.ens.flatMap En.names)<;>(rw[hs]at hk;cases hk)
     ·cases hk
    all_goals cases hk
  |true =>
   rw[Bool.and_eq_true]at q
   refine⟨q.1,?_⟩
   cases hd:o.dst with
   |none=>rw[hd]at q;exact absurd q.2 (by decide)
   |some d=>exact⟨d,rfl⟩
 rw[zE]at h
 cases hg:gd l o s with
 |none=>rw[hg]at h;cases h
 |some b =>
  rw[hg]at h
  cases b with
  |false =>
   have h:(bif dm E.N o.dst then some (s.put o.dst mY)else none)=some s1:=h
   cases hN:dm E.N o.dst with
   |false=>rw[hN]at h;cases h
   |true =>
    rw[hN,hd]at h
    refine⟨d,mY,⟨hd,fun s' h1 _ _=>?_,fun p hp=>(by cases hp),fun n hn=>?_⟩,(Option.some.inj h).symm⟩
    ·rw[zE,Eh h1,hg]
     dsimp only
     rw[hN,hd];rfl
    ·rcases hn with hn|⟨p,hp,_⟩
     ·exact hn.elim
     ·cases hp
  |true =>
   have h:ov (R:=St) E o s some=some s1:=h
   rw[Gg hv hd]at h
   cases hq:sD E.τ o.op s.ev s.o with
   |none=>rw[hq]at h;cases h
   |some r =>
    obtain⟨c,v⟩:=r
    rw[hq]at h
    dsimp only at h
    cases hN:Nat.blt d E.N with
    |false=>rw[hN]at h;cases h
    |true =>
     rw[hN]at h
     cases c with
     |false=>cases h
     |true =>
      refine⟨d,v,⟨hd,fun s' h1 h2 _=>?_,fun p hp=>(by cases hp),fun n hn=>?_⟩,(Option.some.inj h).symm⟩
      ·rw[zE,Eh h1,hg]
       dsimp only
       rw[Gg hv hd, ←CC (oI h1),Gk hv (ob:=s.o) (fun x hx n hn=>by
        obtain⟨t,ht,hm⟩:=t7 (l:=l) hx hn
        exact h2 t ht n hm),hq]
       dsimp only
       rw[hN];rfl
      ·rcases hn with hn|⟨p,hp,_⟩
       ·rcases EP hv hq hn with⟨x,hx,hm⟩|⟨x,hx,m,y,hm,g1,g2⟩
        ·exact .inr (.inl (t7 hx hm))
        ·obtain⟨t,ht,hm⟩:=t7 (l:=l) hx hm
         exact .inr (.inr ⟨t,ht,m,y,hm,g1,g2⟩)
       ·cases hp
theorem oM{R:Type}{S:ac}{vs:List AV}{d:Nat}{ob:Nm→Option Ob}(k:AV→List (Nm×Ob)→Option R):jF S vs d ob k=(jF S vs d ob (fun v ups=>some (v,ups))).bind fun p=>k p.1 p.2:=by
 unfold jF
 simp only[md,Option.bind_none]
 split
 ·simp only[md,Option.bind_none]
  split
  ·split
   ·split
    ·simp only[md,Option.bind_none,Option.bind_some]
    ·rfl
   ·rfl
  ·rfl
 ·rfl
theorem wN{n:Nm}{ts:List bK}(h:ts.all Ih=true):gM n ts = .no:=by
 induction ts with
 |nil=>rfl
 |cons t ts ih =>
  rw[List.all_cons,Bool.and_eq_true]at h
  cases t with
  |no=>exact ih h.2
  |ln m=>exact ih h.2
  |_=>cases h.1
theorem uq{ts:List bK}(h:ts.all Ih=true):ts.flatMap bK.moved=[]∧ts.flatMap bK.pair=[]:=by
 induction ts with
 |nil=>exact⟨rfl,rfl⟩
 |cons t ts ih =>
  rw[List.all_cons,Bool.and_eq_true]at h
  obtain⟨g1,g2⟩:=ih h.2
  rw[List.flatMap_cons,List.flatMap_cons,g1,g2]
  cases t with
  |no=>exact⟨rfl,rfl⟩
  |ln m=>exact⟨rfl,rfl⟩
  |_=>cases h.1
theorem x8{d:Nat}{ob ob':Nm→Option Ob}{ts:List bK}{names:List Nm}(h:ts.all Ih=true):∀(oe:List (Nm×Ob)),lW d ob ts names oe=lW d ob' ts names oe
 |[]=>rfl
 |(m,x)::r=>by
  unfold lW
  rw[x8 (ob:=ob) (ob':=ob') h r]
  have:vW d ob ts names m x=vW d ob' ts names m x:=by
   unfold vW
   rw[wN h]
  rw[this]
theorem Dq{S:ac}{d:Nat}{ob ob':Nm→Option Ob}{ts:List bK}{te:List (Nat×AV)}{oe ups:List (Nm×Ob)}(h:ts.all Ih=true):iA S d ob ts te oe ups=iA S d ob' ts te oe ups:=by
 unfold iA
 rw[(uq h).2];rfl
theorem vL{d:Nat}{ts:List bK}{names:List Nm}(h:ts.all Ih=true){c:CV}{n:Nm}(hm:eQ (qL d ts names c) n):cf d n=true:=by
 have one:∀{p q:Nm×Nat},wm d ts names p=some q→cf d q.1=true:=by
  intro p q e
  unfold wm at e
  rw[wN h]at e
  dsimp only at e
  cases k:k9 p.1 names with
  |false=>rw[k]at e;cases e
  |true=>rw[k]at e;obtain rfl:=Option.some.inj e;exact Nat.beq_refl d
 cases c with
 |own m=>obtain rfl:d::m=n:=hm;exact Nat.beq_refl d
 |pb m k =>
  have hm:eQ (match wm d ts names (m,k)with|some q=>CV.pb q.1 q.2|none => .dead) n:=hm
  cases e:wm d ts names (m,k)with
  |none=>rw[e]at hm;exact hm.elim
  |some q=>rw[e]at hm;obtain rfl:q.1=n:=hm;exact one e
 |clo f cs =>
  have hm:eQ (match rb d ts names cs with|some q=>CV.clo f q|none => .dead) n:=hm
  cases e:rb d ts names cs with
  |none=>rw[e]at hm;exact hm.elim
  |some q =>
   rw[e]at hm
   have all:∀{cs:List (Nm×Nat)}{q:List (Nm×Nat)},rb d ts names cs=some q→∀p∈q,cf d p.1=true:=by
    intro cs
    induction cs with
    |nil=>intro q e p hp;obtain rfl:=Option.some.inj e;cases hp
    |cons c cs ih =>
     intro q e p hp
     unfold rb at e
     cases e1:wm d ts names c with
     |none=>rw[e1]at e;cases e
     |some a =>
      cases e2:rb d ts names cs with
      |none=>rw[e1,e2]at e;cases e
      |some b =>
       rw[e1,e2]at e
       obtain rfl:=Option.some.inj e
       rcases List.mem_cons.1 hp with rfl|hp
       ·exact one e1
       ·exact ih e2 p hp
   obtain⟨p,hp,rfl⟩:=hm
   exact all e p hp
 |v t x=>exact hm.elim
 |er b=>exact hm.elim
 |_=>exact hm.elim
theorem GF{d:Nat}{ts:List bK}{names:List Nm}(h:ts.all Ih=true){v:AV}{n:Nm}(hm:aK (v.ren d ts names) n):cf d n=true:=by
 cases v with
 |c x=>exact vL h hm
 |g cs =>
  obtain⟨c,hc,hm⟩:=hm
  obtain⟨x,_,rfl⟩:=List.mem_map.1 hc
  exact vL h hm
 |tup ps =>
  obtain⟨p,hp,c,hc,hm⟩:=hm
  obtain⟨x,_,rfl⟩:=List.mem_map.1 hp
  obtain⟨y,_,rfl⟩:=List.mem_map.1 hc
  exact vL h hm
theorem DK{d:Nat}{ob:Nm→Option Ob}{ts:List bK}{names:List Nm}(h:ts.all Ih=true):∀{oe ups:List (Nm×Ob)},lW d ob ts names oe=some ups→∀p∈ups,cf d p.1=true∧∀n,cY p.2 n→cf d n=true
 |[],ups,e,p,hp=>by obtain rfl:=Option.some.inj e;cases hp
 |(m,x)::r,ups,e,p,hp=>by
  unfold lW at e
  cases e1:vW d ob ts names m x with
  |none=>rw[e1]at e;cases e
  |some a =>
   cases e2:lW d ob ts names r with
   |none=>rw[e1,e2]at e;cases e
   |some b =>
    rw[e1,e2]at e
    obtain rfl:=Option.some.inj e
    rcases List.mem_cons.1 hp with rfl|hp
    ·unfold vW at e1
     rw[wN h]at e1
     dsimp only at e1
     cases x with
     |arr z t xs=>obtain rfl:=Option.some.inj e1;exact⟨Nat.beq_refl d,fun n q=>q.elim⟩
     |box cells =>
      obtain rfl:=Option.some.inj e1
      refine⟨Nat.beq_refl d,fun n q=>?_⟩
      obtain⟨c,hc,hm⟩:=q
      obtain⟨y,_,rfl⟩:=List.mem_map.1 hc
      exact vL h hm
     |mp _ _ _ _=>cases e1
    ·exact DK h e2 p hp
theorem Fa{ob ob':Nm→Option Ob}{nm:Nm}{p:PS}{c:CV}(h:∀n,eQ c n→ob' n=ob n):iK ob' nm p c=iK ob nm p c:=by
 cases c with
 |own m =>
  have e:=h m rfl
  have g:∀e0 t,wZ ob' e0 t m=wZ ob e0 t m:=fun e0 t=>by unfold wZ;rw[e]
  cases p with
  |i t=>cases t with
   |sl u =>
    show(match wZ ob' none u m with|some xs=>some (DV.mk (.sl u) xs,bK.ln m)|none=>none)=_
    rw[g];rfl
   |_=>rfl
  |o e0 t =>
   show(match wZ ob' (some e0) t m with|some xs=>some (DV.mk (.sl t) xs,bK.mv nm m)|none=>none)=_
   rw[g];rfl
  |b e0 t =>
   show(match wZ ob' (some e0) t m with|some xs=>some (DV.mk (.sl t) xs,bK.bw nm m)|none=>none)=_
   rw[g];rfl
  |l =>
   show(match tf ob' (.own m)with|some k=>some (DV.mk (.int .i64) (k:Int),bK.no)|none=>none)=_
   have:tf ob' (.own m)=tf ob (.own m):=by
    show(match ob' m with|some (.arr _ _ xs)=>some xs.length|_=>none)=(match ob m with|some (.arr _ _ xs)=>some xs.length|_=>none)
    rw[e]
   rw[this];rfl
  |_=>rfl
 |mp m =>
  have e:=h m rfl
  cases p with
  |m kt vt ka =>
   show(match FG ob' kt vt ka m with|some xs=>some (DV.mk (.sl (.pr kt vt)) xs,bK.mm nm m)|none=>none)=_
   have:FG ob' kt vt ka m=FG ob kt vt ka m:=by unfold FG;rw[e]
   rw[this];rfl
  |i t=>cases t<;>rfl
  |_=>rfl
 |v ty x=>cases p<;>first|rfl|(cases ty<;>rfl)|(rename_i t;cases t<;>rfl)
 |_=>cases p<;>first|rfl|(rename_i t;cases t<;>rfl)
theorem rC{ob ob':Nm→Option Ob}{nm:Nat→PS→Nm}:∀{k:Nat}{ps:List PS}{cs:List CV},(∀n,cd cs n→ob' n=ob n)→eU ob' nm k ps cs=eU ob nm k ps cs
 |_,[],[],_=>rfl
 |_,[],_::_,_=>rfl
 |_,_::_,[],_=>rfl
 |k,p::ps,c::cs,h=>by
  unfold eU
  rw[Fa (fun n hn=>h n ⟨c,List.mem_cons_self ..,hn⟩),rC (fun n ⟨x,hx,hn⟩=>h n ⟨x,List.mem_cons_of_mem _ hx,hn⟩)]
theorem uK{ob ob':Nm→Option Ob}{e:En}{v:AV}(h:∀n,aK v n→ob' n=ob n) (hp:(∃i p,e = .val i p)∨∃i ps,e = .agg i ps):lu ob' e v=lu ob e v:=by
 rcases hp with⟨i,p,rfl⟩|⟨i,ps,rfl⟩
 ·cases v with
  |c x=>exact rC (fun n ⟨y,hy,hn⟩=>h n (by rw[List.mem_singleton.1 hy]at hn;exact hn))
  |_=>rfl
 ·cases v with
  |g cs=>exact rC h
  |_=>rfl
theorem yU{ob ob':Nm→Option Ob}:∀{ps:List Cr}{k:Nat}{vs:List AV},ps.all Bx=true→(∀v∈vs, ∀n,aK v n→ob' n=ob n)→iP ob' (aB k ps) vs=iP ob (aB k ps) vs
 |[],_,[],_,_=>rfl
 |[],_,_::_,_,_=>rfl
 |p::ps,k,[],_,_=>by cases p<;>rfl
 |p::ps,k,v::vs,hb,h=>by
  rw[List.all_cons,Bool.and_eq_true]at hb
  have ih:=yU (k:=k+1) hb.2 (fun u hu=>h u (List.mem_cons_of_mem _ hu))
  have hv:=h v (List.mem_cons_self ..)
  cases p with
  |p ps=>cases hb.1
  |c q =>
   show(match lu ob' (.val k q) v,iP ob' (aB (k+1) ps) vs with|some (ds,ts),some (ds',ts')=>some (ds++ds',ts++ts')|_,_=>none)=_
   rw[ih,uK hv (.inl ⟨_,_,rfl⟩)];rfl
  |g q =>
   show(match lu ob' (.agg k q) v,iP ob' (aB (k+1) ps) vs with|some (ds,ts),some (ds',ts')=>some (ds++ds',ts++ts')|_,_=>none)=_
   rw[ih,uK hv (.inr ⟨_,_,rfl⟩)];rfl
  |h q =>
   show(match lu ob' (.agg k q) v,iP ob' (aB (k+1) ps) vs with|some (ds,ts),some (ds',ts')=>some (ds++ds',ts++ts')|_,_=>none)=_
   rw[ih,uK hv (.inr ⟨_,_,rfl⟩)];rfl
theorem l9{S:ac}{vs:List AV}{d:Nat}{ob:Nm→Option Ob}{v:AV}{ups:List (Nm×Ob)}:jF S vs d ob (fun v ups=>some (v,ups))=some (v,ups) ↔
  (vs.length+S.gh.length=S.pars.length∧S.gh=[]∧S.pars.all Bx=true)∧∃ds ts x r,iP ob (aB 0 S.pars) vs=some (ds,ts)∧(i8 S.pars.length (aB 0 S.pars)=true∧jc ts=true∧(bif S.shares then d9 (ts.flatMap bK.lent)else true)=true∧ts.all Ih=true) ∧
   rF (bg (aB 0 S.pars)) ds=some x∧S.g x=some r∧lW d (fun _=>none) ts (S.ens.flatMap En.names) (fR S.ens (au _ r))=some ups∧iA S d (fun _=>none) ts (cC S.ens (au _ r)) (fR S.ens (au _ r)) ups=true ∧
   v=(px (cC S.ens (au _ r)) S.pars.length S.res.length).ren d ts (S.ens.flatMap En.names):=by
 have nilG:∀{g:List (Nat×Nat×Option Nat)},oB g=true↔g=[]:=fun{g}=>by cases g<;>simp[oB]
 have nilP:∀{ts:List bK},ts.all Ih=true→d9 ((ts.flatMap bK.pair).map Prod.snd)=true:=fun{ts} h=>by rw[(uq h).2];rfl
 unfold jF
 constructor
 ·intro h
  cases hc:(Nat.beq (vs.length+S.gh.length) S.pars.length&&(oB S.gh&&S.pars.all Bx))with
  |false=>rw[hc]at h;cases h
  |true =>
   rw[hc]at h
   rw[Bool.and_eq_true,Bool.and_eq_true]at hc
   refine⟨⟨Nat.eq_of_beq_eq_true hc.1,nilG.1 hc.2.1,hc.2.2⟩,?_⟩
   dsimp only[cond_true]at h
   split at h
   ·rename_i ds ts e1
    cases hk:(i8 S.pars.length (aB 0 S.pars)&&(jc ts&&((bif S.shares then d9 (ts.flatMap bK.lent)else true)&&(d9 ((ts.flatMap bK.pair).map Prod.snd)&&ts.all Ih))))with
    |false=>rw[hk]at h;cases h
    |true =>
     rw[hk]at h
     dsimp only[cond_true]at h
     rw[Bool.and_eq_true,Bool.and_eq_true,Bool.and_eq_true,Bool.and_eq_true]at hk
     split at h
     ·rename_i x e2
      split at h
      ·rename_i r e3
       split at h
       ·rename_i u e4
        cases ho:iA S d (fun _=>none) ts (cC S.ens (au _ r)) (fR S.ens (au _ r)) u with
        |false=>rw[ho]at h;cases h
        |true =>
         rw[ho]at h
         obtain⟨g1,g2⟩:=Prod.mk.inj (Option.some.inj h)
         subst g2
         exact⟨ds,ts,x,r,e1,⟨hk.1,hk.2.1,hk.2.2.1,hk.2.2.2.2⟩,e2,e3,e4,ho,g1.symm⟩
       ·cases h
      ·cases h
     ·cases h
   ·cases h
 ·rintro ⟨⟨h1,h2,h3⟩,ds,ts,x,r,e1,⟨k1,k2,k3,k4⟩,e2,e3,e4,e5,rfl⟩
  rw[show Nat.beq (vs.length+S.gh.length) S.pars.length=true from by rw[h1];exact Nat.beq_refl _,nilG.2 h2,h3]
  simp only[Bool.true_and,cond_true,e1,k1,k2,k3,nilP k4,k4,e2,e3,e4,e5]
theorem Dr{S:ac}{vs:List AV}{d:Nat}{ob ob':Nm→Option Ob}(h:∀v∈vs, ∀n,aK v n→ob' n=ob n){v:AV}{ups:List (Nm×Ob)}(he:jF S vs d ob (fun v ups=>some (v,ups))=some (v,ups)):jF S vs d ob' (fun v ups=>some (v,ups))=some (v,ups):=by
 obtain⟨g1,ds,ts,x,r,e1,e2⟩:=l9.1 he
 exact l9.2 ⟨g1,ds,ts,x,r,(yU g1.2.2 h).trans e1,e2⟩
theorem Cl{S:ac}{vs:List AV}{d:Nat}{ob:Nm→Option Ob}{v:AV}{ups:List (Nm×Ob)}(he:jF S vs d ob (fun v ups=>some (v,ups))=some (v,ups)):(∀n,aK v n→cf d n=true)∧∀p∈ups,cf d p.1=true∧∀n,cY p.2 n→cf d n=true:=by
 obtain⟨_,ds,ts,x,r,_,⟨_,_,_,k4⟩,_,_,e4,_,rfl⟩:=l9.1 he
 exact⟨fun n hn=>GF k4 hn,DK k4 e4⟩
theorem St.ext'{s s':St}(h1:∀i,s.t i=s'.t i) (h2:∀n,s.o n=s'.o n):s=s':=by
 cases s;cases s'
 congr 1
 ·funext i;exact h1 i
 ·funext n;exact h2 n
theorem cw (s:St) (d i:Nat) (v:AV):(s.put (some d) v).t i=if i=d then v else s.t i:=by
 show(bif Nat.beq i d then v else s.t i)=_
 by_cases h:i=d
 ·rw[if_pos h,h,Nat.beq_refl];rfl
 ·rw[if_neg h,dl h];rfl
theorem eC.drops0{d:Nat}{s:St}{ns:List Nm}(h:ns≠[]→eC d s) (hn:∀n∈ns,cf d n=true):(∀t,t≠d→(s.drops ns).t t=s.t t)∧(s.drops ns).o=s.o:=by
 cases ns with
 |nil=>exact⟨fun _ _=>rfl,rfl⟩
 |cons n ns=>exact(h (fun q=>by cases q)).drops _ hn
theorem Ds{S:ac}{vs:List AV}{d:Nat}{ob:Nm→Option Ob}{v:AV}{ups:List (Nm×Ob)}(hn:S.ens.flatMap En.names=[]) (he:jF S vs d ob (fun v ups=>some (v,ups))=some (v,ups)):ups=[]:=by
 obtain⟨_,ds,ts,x,r,_,_,_,_,e4,_,rfl⟩:=l9.1 he
 have:fR S.ens (au (bg (dk S.pars S.res S.nb)) r)=[]:=by
  rcases hmb:fR S.ens (au (bg (dk S.pars S.res S.nb)) r)with _|⟨z,l⟩
  ·rfl
  ·have:=ox (q:=z) (by rw[hmb];exact List.mem_cons_self ..)
   rw[hn]at this;cases this
 rw[this]at e4
 exact(Option.some.inj e4).symm
theorem Iz{S:ac}{f:Nat}{xs:List Operand}{d:Nat}{v:AV}{ups:List (Nm×Ob)}(hf:S.ens.flatMap En.names≠[]→eC d s) (he:jF S (xs.map s.ev) d s.o (fun v ups=>some (v,ups))=some (v,ups)):lw (R:=St) S f .fn xs d s some=some ((s.over ups).put (some d) v):=by
 obtain⟨⟨h1,h2,h3⟩,ds,ts,x,r,e1,⟨k1,k2,k3,k4⟩,e2,e3,e4,e5,rfl⟩:=l9.1 he
 have hm:=(uq k4).1
 have gh:m6 s.o (xs.map s.ev) S.gh=xs.map s.ev:=by rw[h2];rfl
 have fz:(bif S.shares then s.frzs (ts.flatMap bK.lent)else s)=s:=by
  cases q:S.shares with
  |false=>rfl
  |true =>
   rw[q]at k3
   have k3:d9 (ts.flatMap bK.lent)=true:=k3
   cases q2:ts.flatMap bK.lent with
   |nil=>rfl
   |cons a b=>rw[q2]at k3;cases k3
 obtain⟨d1,d2⟩:=eC.drops0 (ns:=(S.ens.flatMap En.names).map (fun m=>d::m)) (fun q=>hf (fun e=>q (by rw[e];rfl))) (fun n hn=>by
  obtain⟨m,_,rfl⟩:=List.mem_map.1 hn
  exact Nat.beq_refl d)
 unfold lw
 rw[show s.argsOf f .fn xs=some (xs.map s.ev)from rfl]
 dsimp only
 rw[gh,e1]
 dsimp only
 rw[fz]
 unfold mc
 rw[show s.argsOf f .fn xs=some (xs.map s.ev)from rfl]
 dsimp only
 rw[show Nat.beq ((xs.map s.ev).length+S.gh.length) S.pars.length=true from by rw[h1];exact Nat.beq_refl _]
 simp only[cond_true,gh,e1,k1,k2,k3,Bool.true_and,e2,e3,hm,List.nil_append,x8 (ob:=(s.drops ((S.ens.flatMap En.names).map (fun m=>d::m))).o) (ob':=fun _=>none) k4,e4,Dq (ob:=(s.drops ((S.ens.flatMap En.names).map (fun m=>d::m))).o) (ob':=fun _=>none) k4,e5]
 refine congrArg some (St.ext' (fun i=>?_) fun n=>?_)
 ·rw[cw,cw]
  by_cases q:i=d
  ·rw[if_pos q,if_pos q]
  ·rw[if_neg q,if_neg q]
   exact d1 i q
 ·show(match be ups n with|some ob=>some ob|none=>_)=(match be ups n with|some ob=>some ob|none=>_)
  rw[d2]
end
def stm (fr:Bool) (E:aN) (l:List Oper) (o:Oper) (s:St):Option St:=ls fr E l [o] s some
def oc (fr:Bool) (E:aN) (l:List Oper):List Oper→St→Option St
 |[],s=>some s
 |o::r,s=>(stm fr E l o s).bind (oc fr E l r)
section
variable{fr:Bool}{E:aN}{l:List Oper}{o:Oper}{s s1:St}
theorem BK{R:Type}(k:St→Option R):z7 E o s k=(z7 E o s some).bind k:=by
 unfold z7
 cases o.dst with
 |none=>rfl
 |some d =>
  dsimp only
  cases Nat.blt d E.N with
  |false=>rfl
  |true =>
   dsimp only[cond_true]
   split
   ·cases E.Γ _ d with
    |none=>rfl
    |some S =>
     dsimp only
     rw[oM,oM (k:=fun v ups=>some ((s.over ups).put (some d) v))]
     rename_i args _ _
     cases jF S (List.map s.ev args.toList) d s.o (fun v ups=>some (v,ups))<;>rfl
   ·split
    ·rename_i c ob v e;cases c<;>rfl
    ·rfl
theorem wB{R:Type}(k:St→Option R):zT fr E o s k=(zT fr E o s some).bind k:=by
 unfold zT
 split
 ·cases fr
  ·exact sP k
  ·exact BK k
 ·exact BK k
 ·exact sP k
theorem qu{R:Type}:∀{r:List Oper}{s:St}(k:St→Option R),ls fr E l r s k=(oc fr E l r s).bind k
 |[],s,k=>rfl
 |o::r,s,k=>by
  show ls fr E l (o::r) s k=((stm fr E l o s).bind (oc fr E l r)).bind k
  unfold stm
  unfold ls
  cases hg:o.guard with
  |none =>
   dsimp only
   rw[wB,wB (k:=fun s'=>ls fr E l [] s' some)]
   cases zT fr E o s some with
   |none=>rfl
   |some s1=>exact qu k
  |some g =>
   dsimp only
   rw[pD,pD (k:=fun s'=>ls fr E l [] s' some)]
   cases cB E l [o] s some with
   |none=>rfl
   |some s1=>exact qu k
theorem lG (h:(az E o=1→fr=false)∧az E o≠4):stm fr E l o s=stg E l o s:=by
 unfold stm stg ls
 cases hg:o.guard with
 |none =>
  dsimp only
  have e:zT fr E o s (fun s'=>ls fr E l [] s' some)=ov E o s (fun s'=>some s'):=by
   unfold zT
   split
   ·rename_i q
    rw[h.1 q];rfl
   ·rename_i q;exact absurd q h.2
   ·rfl
  rw[e]
  show ov E o s (fun s'=>some s')=cB E l [o] s some
  unfold cB
  rw[hg];rfl
 |some g=>rfl
theorem l6 (h:az E o≠0) (h2:az E o≠3):o.guard=none:=by
 unfold az at h h2
 cases q:(iv E.τ o&&(match o.dst with|some _=>true|none=>false))with
 |true=>rw[q]at h;exact absurd rfl h
 |false =>
  rw[q]at h2
  dsimp only[cond_false]at h2
  cases hg:o.guard with
  |none=>rfl
  |some g =>
   have:ce o=false:=by unfold ce;rw[hg]
   rw[this]at h2
   exact absurd rfl h2
theorem zD (h:(az E o=1∧fr=true)∨az E o=4):stm fr E l o s=z7 E o s some:=by
 have hg:o.guard=none:=l6 (E:=E) (o:=o) (by rcases h with h|h<;>omega) (by rcases h with h|h<;>omega)
 unfold stm ls
 rw[hg]
 dsimp only
 unfold zT
 rcases h with⟨h,rfl⟩|h
 ·rw[h];rfl
 ·rw[h];rfl
theorem kC (hg:o.guard=none):stg E l o s=ov E o s some:=by
 rw[zE]
 unfold gd BZ
 rw[hg]
structure F6 (fr:Bool) (E:aN) (l:List Oper) (o:Oper) (q:Bool) (s:St) (d:Nat) (v:AV) (ups:List (Nm×Ob)):Prop where
 m:K7 E l o q s d v ups
 stm:∀s':St,(∀t∈iw l o,s'.t t=s.t t)→(∀t∈iw l o, ∀n,aK (s.t t) n→s'.o n=s.o n)→(q=true→eC d s')→stm fr E l o s'=some ((s'.over ups).put (some d) v)
theorem OL (hk:az E o=0) (h:stm fr E l o s=some s1):∃d v,F6 fr E l o false s d v []∧s1=(s.over []).put (some d) v:=by
 have e:∀s,stm fr E l o s=stg E l o s:=fun s=>lG ⟨fun q=>(by rw[hk]at q;cases q),by rw[hk];decide⟩
 rw[e]at h
 obtain⟨d,v,h1,h2⟩:=JD hk h
 exact⟨d,v,⟨h1,fun s' a b c=>(e s').trans (h1.step s' a b c)⟩,h2⟩
theorem Ie (hk:(az E o=1∧fr=true)∨az E o=4){d:Nat}(hd:o.dst=some d) (h:stm fr E l o s=some s1):∃v ups q,F6 fr E l o q s d v ups∧(az E o=4→q=false∧ups=[])∧s1=(s.over ups).put (some d) v∧(∀t,o.op = .alloc t→∃zc,v = .c (.pb [d,0] 0)∧ups=[([d,0], .box zc)]∧∀n,¬cd zc n)∧(BT o.op=true→∃el ty xs,v = .c (.own [d,0])∧ups=[([d,0], .arr el ty xs)]):=by
 have hg:o.guard=none:=l6 (E:=E) (o:=o) (by rcases hk with h|h<;>omega) (by rcases hk with h|h<;>omega)
 rw[zD hk]at h
 unfold z7 at h
 rw[hd]at h
 dsimp only at h
 cases hN:Nat.blt d E.N with
 |false=>rw[hN]at h;cases h
 |true =>
  rw[hN]at h
  dsimp only[cond_true]at h
  split at h
  ·rename_i f args ts hop
   cases hS:E.Γ f d with
   |none=>rw[hS]at h;cases h
   |some S =>
    rw[hS]at h
    dsimp only at h
    rw[oM]at h
    cases hc:jF S (args.toList.map s.ev) d s.o (fun v ups=>some (v,ups))with
    |none=>rw[hc]at h;cases h
    |some r =>
     obtain⟨v,ups⟩:=r
     rw[hc]at h
     obtain rfl:=(Option.some.inj h).symm
     have ops:∀x∈args.toList,x∈o.op.operands:=fun x hx=>by
      rw[hop];simp[Op.operands,Call.operands];exact .inr (by simpa using hx)
     have key:∀s':St,(∀t∈iw l o,s'.t t=s.t t)→(∀t∈iw l o, ∀n,aK (s.t t) n→s'.o n=s.o n)→jF S (args.toList.map s'.ev) d s'.o (fun v ups=>some (v,ups))=some (v,ups):=by
      intro s' h1 h2
      have e1:args.toList.map s'.ev=args.toList.map s.ev:=List.map_congr_left fun x hx=>(oI h1 x (ops x hx)).symm
      rw[e1]
      refine Dr (ob:=s.o) (fun u hu n hn=>?_) hc
      obtain⟨x,hx,rfl⟩:=List.mem_map.1 hu
      obtain⟨t,ht,hm⟩:=t7 (l:=l) (ops x hx) hn
      exact h2 t ht n hm
     have mt:=Cl hc
     have knd:d9 (S.ens.flatMap En.names)=true∧az E o=4∨d9 (S.ens.flatMap En.names)=false∧az E o≠4:=by
      have e:az E o=bif d9 (S.ens.flatMap En.names)then 4 else 1:=by
       have hv:iv E.τ o=false:=by unfold iv;rw[hop]
       have hn:ce o=true:=by unfold ce;rw[hg]
       unfold az
       rw[hv,hn,hop,hd]
       dsimp only[Bool.false_and,cond_false,cond_true]
       rw[hS];rfl
      cases q:d9 (S.ens.flatMap En.names)with
      |true=>rw[q]at e;exact .inl ⟨rfl,e⟩
      |false=>rw[q]at e;exact .inr ⟨rfl,by rw[e];decide⟩
     have nilN:d9 (S.ens.flatMap En.names)=true→S.ens.flatMap En.names=[]:=fun q=>by
      cases w:S.ens.flatMap En.names with
      |nil=>rfl
      |cons a b=>rw[w]at q;cases q
     refine⟨v,ups, !d9 (S.ens.flatMap En.names),⟨⟨hd,fun s' h1 h2 h3=>?_,fun p hp=>(mt.2 p hp).1,fun n hn => .inl ?_⟩,fun s' h1 h2 h3=>?_⟩,fun h4=>?_,rfl,fun t ht=>?_,fun hb=>(by rw[hop]at hb;cases hb)⟩
     ·rw[kC hg]
      have:=Iz (s:=s') (fun w=>h3 (by
       cases q:d9 (S.ens.flatMap En.names)with
       |true=>exact absurd (nilN q) w
       |false=>rfl)) (f:=f) (xs:=args.toList) (key s' h1 h2)
      unfold ov
      rw[hop,hd]
      dsimp only
      rw[hS]
      dsimp only
      rw[hN]
      exact this
     ·rcases hn with hn|⟨p,hp,hn⟩
      ·exact mt.1 n hn
      ·exact(mt.2 p hp).2 n hn
     ·rw[zD hk]
      unfold z7
      rw[hd,hop]
      dsimp only
      rw[hN,hS]
      dsimp only[cond_true]
      rw[oM,key s' h1 h2];rfl
     ·rcases knd with⟨q,_⟩|⟨_,q⟩
      ·exact⟨by rw[q];rfl,Ds (nilN q) hc⟩
      ·exact absurd h4 q
     ·rw[hop]at ht;cases ht
  ·rename_i hno
   have hal:(∃t,o.op = .alloc t)∨∃t n,o.op = .buildSlice t n ⟨[]⟩:=by
    have hk0:az E o≠0∧az E o≠2∧az E o≠3∧az E o≠6:=by rcases hk with h|h<;>omega
    unfold az at hk0
    cases q:(iv E.τ o&&(match o.dst with|some _=>true|none=>false))with
    |true=>rw[q]at hk0;exact absurd rfl hk0.1
    |false =>
     rw[q]at hk0
     dsimp only[cond_false]at hk0
     have hn:ce o=true:=by unfold ce;rw[hg]
     rw[hn]at hk0
     dsimp only[cond_true]at hk0
     split at hk0
     ·rename_i f args ts e hq _;exact absurd hq (hno _ _ _)
     ·rename_i t e hq _;exact .inl ⟨t,hq⟩
     ·rename_i t n e hq _;exact .inr ⟨t,n,hq⟩
     ·exact absurd rfl hk0.2.1
     ·exact absurd rfl hk0.2.2.2
     ·exact absurd rfl hk0.2.2.1
   have hn:ce o=true:=by unfold ce;rw[hg]
   have hvv:iv E.τ o=false:=by unfold iv;rcases hal with⟨t,hop⟩|⟨t,n,hop⟩<;>rw[hop]
   have k4:az E o≠4:=by
    unfold az
    rw[hvv,hn,hd]
    rcases hal with⟨t,hop⟩|⟨t,n,hop⟩<;>rw[hop]<;>(show(1:Nat)≠4;decide)
   have hvo:∀s':St,fG E.τ o.op s'.ev s'.o=none:=fun s'=>by rcases hal with⟨t,hop⟩|⟨t,n,hop⟩<;>rw[hop]<;>rfl
   have hmo:∀e e':Operand→AV,re E.τ o.op e [d,0]=re E.τ o.op e' [d,0]:=fun e e'=>by rcases hal with⟨t,hop⟩|⟨t,n,hop⟩<;>rw[hop]<;>rfl
   have hK:∀ s':St,ov (R := St) E o s' some = (match fG E.τ o.op s'.ev s'.o with
        |some (c,v)=>bif dm E.N (some d)then(match c with|true=>some (s'.put (some d) v)|false=>none)else none
        |none=>bif Nat.blt d E.N then(match re E.τ o.op (s'.drop [d,0]).ev [d,0]with
         |some (c,ob,v)=>(match c with|true=>some (((s'.drop [d,0]).setO [d,0] ob).put (some d) v)|false=>none)
         |none=>match mw E.τ o.op (some d) s' with
          |some (c,s'')=>(match c with|true=>some s''|false=>none)
          |none=>uQ E.τ o.op d s' some)else none):=fun s'=>by
    unfold ov
    rw[hd]
    rcases hal with⟨t,hop⟩|⟨t,n,hop⟩<;>rw[hop]<;>rfl
   have hM:∀c ob v,re E.τ o.op s.ev [d,0]=some (c,ob,v)→(mF o.op=true∧v = .c (.pb [d,0] 0)∧∃zc,ob = .box zc∧∀n,¬cd zc n)∨(BT o.op=true∧v = .c (.own [d,0])∧∃el ty xs,ob = .arr el ty xs):=fun c ob v hm=>by
    rcases hal with⟨t,hop⟩|⟨t,n,hop⟩
    ·left
     rw[hop]at hm ⊢
     have hm:(match E.τ.get t with
      |some ti=>match ti.z0 with
       |some zc=>some (true,Ob.box zc,AV.c (.pb [d,0] 0))
       |none=>none
      |none=>none)=some (c,ob,v):=hm
     cases ht:E.τ.get t with
     |none=>rw[ht]at hm;cases hm
     |some ti =>
      cases hz:ti.z0 with
      |none=>rw[ht]at hm;dsimp only at hm;rw[hz]at hm;cases hm
      |some zc =>
       rw[ht]at hm
       dsimp only at hm
       rw[hz]at hm
       obtain⟨_,h2⟩:=Prod.mk.inj (Option.some.inj hm)
       obtain⟨h2,h3⟩:=Prod.mk.inj h2
       exact⟨rfl,h3.symm,zc,h2.symm,fun n=>zr hz n⟩
    ·right
     rw[hop]at hm ⊢
     refine⟨rfl,?_⟩
     have hm:(match E.τ.get t with
      |some ti=>bif Nat.beq ti.kind 3 then(match E.τ.get ti.el with
       |some te=>match te.ty with
        |some ty=>bif Nat.ble (n*te.size) 65536 then(match rows ty (List.replicate n ty.zero) []with
         |some xs=>some (true,Ob.arr ti.el ty xs,AV.c (.own [d,0]))
         |none=>none)else none
        |none=>none
       |none=>none)else none
      |none=>none)=some (c,ob,v):=hm
     split at hm
     ·rename_i ti _
      cases q1:Nat.beq ti.kind 3 with
      |false=>rw[q1]at hm;cases hm
      |true =>
       rw[q1,cond_true]at hm
       split at hm
       ·rename_i te _
        split at hm
        ·rename_i ty _
         cases q2:Nat.ble (n*te.size) 65536 with
         |false=>rw[q2]at hm;cases hm
         |true =>
          rw[q2,cond_true]at hm
          split at hm
          ·rename_i xs _
           obtain⟨_,h2⟩:=Prod.mk.inj (Option.some.inj hm)
           obtain⟨h2,h3⟩:=Prod.mk.inj h2
           exact⟨h3.symm,_,_,_,h2.symm⟩
          ·cases hm
        ·cases hm
       ·cases hm
     ·cases hm
   cases hmm:re E.τ o.op s.ev [d,0]with
   |none=>rw[hmm]at h;cases h
   |some r =>
    obtain⟨c,ob,v⟩:=r
    rw[hmm]at h
    dsimp only at h
    cases c with
    |false=>cases h
    |true =>
     obtain rfl:=(Option.some.inj h).symm
     have hM:=hM _ _ _ hmm
     have vm:∀n,aK v n→n=[d,0]:=fun n hn=>by
      rcases hM with⟨_,rfl,_⟩|⟨_,rfl,_⟩
      ·exact(show [d,0]=n from hn).symm
      ·exact(show [d,0]=n from hn).symm
     have om:∀n,¬cY ob n:=fun n hn=>by
      rcases hM with⟨_,_,zc,rfl,zm⟩|⟨_,_,el,ty,xs,rfl⟩
      ·exact zm n hn
      ·exact hn
     refine⟨_,_,true,⟨⟨hd,fun s' h1 h2 h3=>?_,fun p hp=>?_,fun n hn=>?_⟩,fun s' h1 h2 h3=>?_⟩,fun h4=>absurd h4 k4,rfl,fun t ht=>?_,fun hb=>?_⟩
     ·rw[kC hg]
      have hf':=h3 rfl
      obtain⟨d1,d2⟩:=hf'.drops [[d,0]] (fun n hn=>by rw[List.mem_singleton.1 hn];exact Nat.beq_refl d)
      have e1:ov (R:=St) E o s' some=some (((s'.drop [d,0]).setO [d,0] ob).put (some d) v):=by
       rw[hK,hvo]
       dsimp only
       rw[hN,hmo _ s.ev,hmm]
       rfl
      rw[e1]
      refine congrArg some (St.ext' (fun i=>?_) fun n=>?_)
      ·rw[cw,cw]
       by_cases q:i=d
       ·rw[if_pos q,if_pos q]
       ·rw[if_neg q,if_neg q];exact d1 i q
      ·show(bif Nm.eqb n [d,0]then some ob else(s'.drop [d,0]).o n)=(match(bif Nm.eqb [d,0] n then some ob else none)with|some ob=>some ob|none=>s'.o n)
       rw[show(s'.drop [d,0]).o n=s'.o n from congrFun d2 n]
       cases q:Nm.eqb n [d,0]with
       |true=>rw[bA.1 q];simp[Nm.eqb]
       |false =>
        rw[show Nm.eqb [d,0] n=false from aT.2 (fun e=>(aT.1 q) e.symm)];rfl
     ·rw[List.mem_singleton.1 hp];exact Nat.beq_refl d
     ·rcases hn with hn|⟨p,hp,hn⟩
      ·rw[vm n hn]
       exact .inl (Nat.beq_refl d)
      ·rw[List.mem_singleton.1 hp]at hn
       exact absurd hn (om n)
     ·rw[zD hk]
      unfold z7
      rw[hd]
      dsimp only
      rw[hN,cond_true]
      have:(match re E.τ o.op s'.ev [d,0]with
       |some (c,ob,v)=>(match c with|true=>some ((s'.over [([d,0],ob)]).put (some d) v)|false=>none)
       |none=>(none:Option St))=some ((s'.over [([d,0],ob)]).put (some d) v):=by
       rw[hmo _ s.ev,hmm]
      rw[←this]
      rcases hal with⟨t,hop⟩|⟨t,n,hop⟩<;>rw[hop]
     ·rcases hM with⟨_,rfl,zc,rfl,zm⟩|⟨hb,_⟩
      ·exact⟨zc,rfl,rfl,zm⟩
      ·rw[ht]at hb;cases hb
     ·rcases hM with⟨ha,_⟩|⟨_,rfl,el,ty,xs,rfl⟩
      ·exfalso
       rcases hal with⟨t,hop⟩|⟨t,n,hop⟩
       ·rw[hop]at hb;cases hb
       ·rw[hop]at ha;cases ha
      ·exact⟨el,ty,xs,rfl,rfl⟩
end
def bS (o:Oper):Option Nat:=match o.dst,o.op with
 |none, .store _ (.tmp a) _=>some a
 |_,_=>none
section
variable{fr:Bool}{E:aN}{l:List Oper}{o:Oper}{s s1:St}
theorem AW{cs new:List CV}{off:Nat}{n:Nm}(h:cd (xL cs off new) n):cd cs n∨cd new n:=by
 obtain⟨c,hc,hm⟩:=h
 unfold xL at hc
 rcases List.mem_append.1 hc with hc|hc
 ·rcases List.mem_append.1 hc with hc|hc
  ·exact .inl ⟨c,List.mem_of_mem_take hc,hm⟩
  ·exact .inr ⟨c,hc,hm⟩
 ·exact .inl ⟨c,List.mem_of_mem_drop hc,hm⟩
theorem U5{d:Nat}(hs:bS o=some d) (hg:o.guard=none) (hk:az E o=2) (hi:s.t d = .c (.pb [d,0] 0)) (h:stm fr E l o s=some s1) :
  ∃ob0 ob,s.o [d,0]=some ob0∧s1=s.setO [d,0] ob∧stg E l o s=some s1∧(∀s':St,(∀t∈iw l o,s'.t t=s.t t)→s'.o [d,0]=s.o [d,0]→stm fr E l o s'=some (s'.setO [d,0] ob))∧∀n,cY ob n→cY ob0 n∨∃t∈iw l o,aK (s.t t) n:=by
 have hss:∀s,stm fr E l o s=stg E l o s:=fun s=>lG ⟨fun q=>(by rw[hk]at q;cases q),by rw[hk];decide⟩
 obtain⟨T,x,hd,hop⟩:∃T x,o.dst=none∧o.op = .store T (.tmp d) x:=by
  unfold bS at hs
  split at hs
  ·rename_i T a x h1 h2
   obtain rfl:=Option.some.inj hs
   exact⟨T,x,h1,h2⟩
  ·cases hs
 have form:∀s2:St,s2.t d = .c (.pb [d,0] 0)→stg E l o s2=(match E.τ.get T,fh (s2.ev x)with
   |some ti,some new=>bif (Nat.beq new.length ti.size&&new.all CV.fine)then(match s2.o [d,0]with
    |some (.box cs)=>bif Nat.ble (0+new.length) cs.length then some (s2.setO [d,0] (.box (xL cs 0 new)))else none
    |_=>none)else none
   |_,_=>none):=by
  intro s2 h2
  rw[kC hg]
  unfold ov
  rw[hop,hd]
  show(match fG E.τ (.store T (.tmp d) x) s2.ev s2.o with
   |some (c,v)=>bif dm E.N none then(match c with|true=>some (s2.put none v)|false=>none)else none
   |none=>match mw E.τ (.store T (.tmp d) x) none s2 with
    |some (c,s')=>(match c with|true=>some s'|false=>none)
    |none=>none)=_
  have hv:fG E.τ (.store T (.tmp d) x) s2.ev s2.o=none:=rfl
  rw[hv]
  dsimp only
  have hw:mw E.τ (.store T (.tmp d) x) none s2=(match E.τ.get T,s2.ev (.tmp d),fh (s2.ev x)with
   |some ti, .c p,some new=>bif (Nat.beq new.length ti.size&&new.all CV.fine)then(match n8 s2.o new p with
    |some (nm,ob)=>some (true,(s2.setO nm ob).put none (.c .dead))
    |none=>none)else none
   |_,_,_=>none):=rfl
  rw[hw,show s2.ev (.tmp d) = .c (.pb [d,0] 0)from h2]
  cases E.τ.get T with
  |none=>rfl
  |some ti =>
   cases fh (s2.ev x)with
   |none=>rfl
   |some new =>
    dsimp only
    cases(Nat.beq new.length ti.size&&new.all CV.fine)with
    |false=>rfl
    |true =>
     dsimp only[cond_true]
     unfold n8
     dsimp only
     cases s2.o [d,0]with
     |none=>rfl
     |some ob =>
      cases ob with
      |box cs =>
       dsimp only
       cases Nat.ble (0+new.length) cs.length<;>rfl
      |_=>rfl
 have hx:x∈o.op.operands:=by rw[hop];simp[Op.operands]
 have hdr:d∈iw l o:=List.mem_append_left _ (List.mem_flatMap.2 ⟨.tmp d,by rw[hop];simp[Op.operands],List.mem_singleton.2 rfl⟩)
 rw[hss]at h
 have hsg:=h
 rw[form s hi]at h
 cases hT:E.τ.get T with
 |none=>rw[hT]at h;cases h
 |some ti =>
  cases hc:fh (s.ev x)with
  |none=>rw[hT,hc]at h;cases h
  |some new =>
   rw[hT,hc]at h
   dsimp only at h
   cases hf:(Nat.beq new.length ti.size&&new.all CV.fine)with
   |false=>rw[hf]at h;cases h
   |true =>
    rw[hf]at h
    dsimp only[cond_true]at h
    cases ho:s.o [d,0]with
    |none=>rw[ho]at h;cases h
    |some ob =>
     rw[ho]at h
     cases ob with
     |box cs =>
      dsimp only at h
      cases hl:Nat.ble (0+new.length) cs.length with
      |false=>rw[hl]at h;cases h
      |true =>
       rw[hl]at h
       refine⟨_, .box (xL cs 0 new),rfl,(Option.some.inj h).symm,hsg,fun s' h1 h2=>?_,fun n hn=>?_⟩
       ·rw[hss,form s' ((h1 d hdr).trans hi),hT, ←oI h1 x hx,hc]
        dsimp only
        rw[hf,h2]
        dsimp only[cond_true]
        rw[hl];rfl
       ·rcases AW hn with hn|hn
        ·exact .inl hn
        ·exact .inr (t7 hx (lP hc hn))
     |_=>cases h
end
def ni (t:Nat) (s:St):Prop:=s.t t = .c (.own [t,0])∧(∀i,i≠t→¬aK (s.t i) [t,0])∧∀m ob,s.o m=some ob→¬cY ob [t,0]
def Em (t k d:Nat) (ob:Ob) (s:St):St:=⟨fun i=>if i=d then .c (.own [d,0])else if i=t then .c (.hd k)else s.t i,fun m=>if m=[d,0]then some ob else if m=[t,0]then none else s.o m⟩
theorem CV.past_id{n:Nm}{k:Nat}{c:CV}(h:¬eQ c n):c.past n k=c:=by
 cases c with
 |own m =>
  show(bif Nm.eqb m n then CV.hd k else CV.own m)=_
  rw[aT.2 (fun q=>h (show m=n from q))];rfl
 |_=>exact CV.drop_id h
theorem Nc.past_id{n:Nm}{k:Nat}{cs:List CV}(h:¬cd cs n):cs.map (CV.past n k)=cs:=by
 have e:cs.map (CV.past n k)=cs.map (fun c=>c):=List.map_congr_left fun c hc=>CV.past_id (fun q=>h ⟨c,hc,q⟩)
 rw[e,List.map_id']
theorem AV.past_id{n:Nm}{k:Nat}{v:AV}(h:¬aK v n):v.past n k=v:=by
 cases v with
 |c x=>exact congrArg AV.c (CV.past_id h)
 |g cs=>exact congrArg AV.g (Nc.past_id h)
 |tup l =>
  refine congrArg AV.tup ?_
  have e:l.map (fun p=>(p.1,p.2.map (CV.past n k)))=l.map (fun p=>p):=List.map_congr_left fun p hp=>Prod.ext rfl (Nc.past_id (fun q=>h ⟨p,hp,q⟩))
  rw[e,List.map_id']
theorem Ob.past_id{n:Nm}{k:Nat}{x:Ob}(h:¬cY x n):x.past n k=x:=by
 cases x with
 |box cs=>exact congrArg Ob.box (Nc.past_id h)
 |arr=>rfl
 |mp=>rfl
theorem Mf{t k d:Nat}{s:St}{ob:Ob}(hc:ni t s) (hf:eC d s) (hne:d≠t):(((s.past [t,0] k).drop [d,0]).setO [d,0] ob).put (some d) (.c (.own [d,0]))=Em t k d ob s:=by
 have hdt:([d,0]:Nm)≠[t,0]:=fun q=>hne (by injection q)
 refine St.ext' (fun i=>?_) fun m=>?_
 ·rw[cw]
  show(if i=d then _ else((s.t i).past [t,0] k).drop [d,0])=(if i=d then _ else if i=t then _ else _)
  by_cases q:i=d
  ·rw[if_pos q,if_pos q]
  ·rw[if_neg q,if_neg q]
   by_cases q2:i=t
   ·rw[if_pos q2,q2,hc.1]
    show AV.c (CV.drop [d,0] (bif Nm.eqb [t,0] [t,0]then CV.hd k else CV.own [t,0]))=_
    rw[nH];rfl
   ·rw[if_neg q2,AV.past_id (hc.2.1 i q2)]
    exact AV.drop_id (hf.1 i q [d,0] (Nat.beq_refl d))
 ·show(bif Nm.eqb m [d,0]then some ob else bif Nm.eqb m [d,0]then none else(bif Nm.eqb m [t,0]then none else(s.o m).map (Ob.past [t,0] k)).map (Ob.drop [d,0]))=(if m=[d,0]then some ob else if m=[t,0]then none else s.o m)
  cases q:Nm.eqb m [d,0]with
  |true=>rw[if_pos (bA.1 q)];rfl
  |false =>
   rw[if_neg (aT.1 q)]
   cases q2:Nm.eqb m [t,0]with
   |true=>rw[if_pos (bA.1 q2)];rfl
   |false =>
    rw[if_neg (aT.1 q2)]
    cases ho:s.o m with
    |none=>rfl
    |some x =>
     show some ((x.past [t,0] k).drop [d,0])=some x
     rw[Ob.past_id (hc.2.2 m x ho),Ob.drop_id ((hf.2 m x ho).2 [d,0] (Nat.beq_refl d))]
def v7 (o:Nm→Option Ob):AV→Option ((t:Ty)→Option (List t.den))
 | .c y=>some fun t=>source o t y
 |_=>none
def Dy (τ:kb) (ats:List TypeId) (ob0:Option Ob) (f:Option ((t:Ty)→Option (List t.den))):Option (Bool×Nat×Ob):=match f,ats with
 |some f,[at_,bt_]=>match τ.get at_ with
  |some ti=>bif (Nat.beq ti.kind 3&&Nat.beq at_ bt_)then(match τ.get ti.el with
   |some te=>match te.ty with
    |some ty=>bif Nat.ble te.bytes 4096 then(match ob0 with
     |some (.arr q u xs)=>bif Nat.beq q ti.el then(match Ty.same u ty with
      |some ⟨h⟩=>match f ty with
       |some ys=>some (dN ((Ty.cast (congrArg Ty.sl h) xs).length+ys.length),(Ty.cast (congrArg Ty.sl h) xs).length, .arr ti.el ty (Ty.cast (congrArg Ty.sl h) xs++ys))
       |none=>none
      |none=>none)else none
     |_=>none)else none
    |none=>none
   |none=>none)else none
  |none=>none
 |_,_=>none
theorem I7 {τ:kb}{c:Call}{d t:Nat}{y:Operand}{s:St}(hc:c.callee = .builtin .append) (ha:c.args.toList=[.tmp t,y]) (ht:s.t t = .c (.own [t,0])) :
  mw τ (.call c) (some d) s=(Dy τ c.argTypes.toList (s.o [t,0]) (v7 s.o (s.ev y))).map fun r=>(r.1,(((s.past [t,0] r.2.1).drop [d,0]).setO [d,0] r.2.2).put (some d) (.c (.own [d,0]))):=by
 obtain⟨callee,args,argTypes⟩:=c
 obtain rfl:=hc
 have ha:args.toList=[.tmp t,y]:=ha
 unfold mw
 dsimp only
 rw[ha]
 show(match(some d:Option Nat),[s.t t,s.ev y],argTypes.toList with
  |some d,[.c x, .c y],[at_,bt_]=>_
  |_,_,_=>none)=_
 rw[ht]
 unfold Dy
 generalize s.ev y=Y
 generalize argTypes.toList=ats
 cases Y with
 |g=>cases ats<;>rfl
 |tup=>cases ats<;>rfl
 |c Y =>
  match ats with
  |[]=>rfl
  |[_]=>rfl
  |_::_::_::_=>rfl
  |[at_,bt_] =>
   unfold v7
   dsimp only
   cases τ.get at_ with
   |none=>rfl
   |some ti =>
    dsimp only
    cases(Nat.beq ti.kind 3&&Nat.beq at_ bt_)with
    |false=>rfl
    |true =>
     dsimp only[cond_true]
     cases τ.get ti.el with
     |none=>rfl
     |some te =>
      dsimp only
      cases te.ty with
      |none=>rfl
      |some ty =>
       dsimp only
       cases Nat.ble te.bytes 4096 with
       |false=>rfl
       |true =>
        dsimp only[cond_true]
        cases s.o [t,0]with
        |none=>rfl
        |some ob =>
         cases ob with
         |box=>rfl
         |mp=>rfl
         |arr q u xs =>
          dsimp only
          cases Nat.beq q ti.el with
          |false=>rfl
          |true =>
           dsimp only[cond_true]
           cases Ty.same u ty with
           |none=>rfl
           |some h =>
            dsimp only
            cases source s.o ty Y<;>rfl
theorem CH{o o':Nm→Option Ob}{t:Ty}{c:CV}(h:∀n,eQ c n→o' n=o n):source o' t c=source o t c:=by
 cases c with
 |own m=>unfold source;dsimp only;rw[h m rfl]
 |_=>rfl
theorem EY{o o':Nm→Option Ob}{y:AV}(h:∀n,aK y n→o' n=o n):v7 o' y=v7 o y:=by
 cases y with
 |g=>rfl
 |tup=>rfl
 |c y=>exact congrArg some (funext fun t=>CH h)
theorem IH {τ:kb}{ats:List TypeId}{ob0:Option Ob}{f:Option ((t:Ty)→Option (List t.den))}:∀r,Dy τ ats ob0 f=some r→∀n,¬cY r.2.2 n:=by
 have key:∀x:Option (Bool×Nat×Ob),(match x with|some r=>(match r.2.2 with | .arr _ _ _=>true|_=>false)|none=>true)=true→∀r,x=some r→∀n,¬cY r.2.2 n:=fun x hx r hr n hn=>by
  subst hr
  obtain⟨b,k,ob⟩:=r
  cases ob with
  |arr=>exact hn
  |box=>cases hx
  |mp=>cases hx
 refine key _ ?_
 unfold Dy
 match f,ats with
 |none,_=>rfl
 |some f,[]=>rfl
 |some f,[_]=>rfl
 |some f,_::_::_::_=>rfl
 |some f,[at_,bt_] =>
   dsimp only
   cases τ.get at_ with
   |none=>rfl
   |some ti =>
    dsimp only
    cases(Nat.beq ti.kind 3&&Nat.beq at_ bt_)with
    |false=>rfl
    |true =>
     dsimp only[cond_true]
     cases τ.get ti.el with
     |none=>rfl
     |some te =>
      dsimp only
      cases te.ty with
      |none=>rfl
      |some ty =>
       dsimp only
       cases Nat.ble te.bytes 4096 with
       |false=>rfl
       |true =>
        dsimp only[cond_true]
        cases ob0 with
        |none=>rfl
        |some ob =>
         cases ob with
         |box=>rfl
         |mp=>rfl
         |arr q u xs =>
          dsimp only
          cases Nat.beq q ti.el with
          |false=>rfl
          |true =>
           dsimp only[cond_true]
           cases Ty.same u ty with
           |none=>rfl
           |some h =>
            dsimp only
            cases f ty<;>rfl
section
variable{fr:Bool}{E:aN}{l:List Oper}{o:Oper}{s s1:St}
theorem lV{t:Nat}(h:jG o=some t):∃c y d,o.op = .call c∧c.callee = .builtin .append∧c.args.toList=[.tmp t,y]∧o.dst=some d:=by
 unfold jG at h
 split at h
 ·rename_i t' y ats d hop hd
  obtain rfl:=Option.some.inj h
  exact⟨_,y,d,hop,rfl,rfl,hd⟩
 ·cases h
theorem Uy{t d:Nat}(ha:jG o=some t) (hd:o.dst=some d) (hk:az E o=6) (hc:ni t s) (hf:eC d s) (hne:d≠t) (h:stm fr E l o s=some s1) :
  ∃k ob,s1=Em t k d ob s∧(∀n,¬cY ob n)∧stg E l o s=some s1∧∀s':St,(∀i∈iw l o,s'.t i=s.t i)→(∀i∈iw l o, ∀n,aK (s.t i) n→s'.o n=s.o n)→ni t s'→eC d s'→stm fr E l o s'=some (Em t k d ob s'):=by
 have hss:∀s,stm fr E l o s=stg E l o s:=fun s=>lG ⟨fun q=>(by rw[hk]at q;cases q),by rw[hk];decide⟩
 have hg:o.guard=none:=l6 (E:=E) (o:=o) (by omega) (by omega)
 obtain⟨c,y,d',hop,hcc,hca,hd'⟩:=lV ha
 obtain rfl:d=d':=Option.some.inj (hd.symm.trans hd')
 have hyo:y∈o.op.operands:=by
  rw[hop]
  simp only[Op.operands,Call.operands,Array.mem_append]
  right
  rw[←Array.mem_toList_iff,hca]
  exact .tail _ (.head _)
 have hto:t∈iw l o:=List.mem_append_left _ (List.mem_flatMap.2 ⟨.tmp t,by
  rw[hop]
  simp only[Op.operands,Call.operands,Array.toList_append,List.mem_append]
  right
  rw[hca]
  exact .head _,List.mem_singleton.2 rfl⟩)
 have form:∀s2:St,ni t s2→eC d s2→stg E l o s2=(match Dy E.τ c.argTypes.toList (s2.o [t,0]) (v7 s2.o (s2.ev y))with
   |some r=>bif Nat.blt d E.N then(match r.1 with|true=>some (Em t r.2.1 d r.2.2 s2)|false=>none)else none
   |none=>none):=by
  intro s2 h2 h3
  rw[kC hg]
  have hvo:fG E.τ (.call c) s2.ev s2.o=none:=by
   obtain⟨callee,args,argTypes⟩:=c
   obtain rfl:=hcc
   rfl
  have hmo:re E.τ (.call c) (s2.drop [d,0]).ev [d,0]=none:=rfl
  have e1:ov (R := St) E o s2 some = (match fG E.τ (.call c) s2.ev s2.o with
        |some (c,v)=>bif dm E.N (some d)then(match c with|true=>some (s2.put (some d) v)|false=>none)else none
        |none=>bif Nat.blt d E.N then(match re E.τ (.call c) (s2.drop [d,0]).ev [d,0]with
         |some (c,ob,v)=>(match c with|true=>some (((s2.drop [d,0]).setO [d,0] ob).put (some d) v)|false=>none)
         |none=>match mw E.τ (.call c) (some d) s2 with
          |some (c,s'')=>(match c with|true=>some s''|false=>none)
          |none=>uQ E.τ (.call c) d s2 some)else none):=by
   unfold ov
   rw[hd,hop]
   obtain⟨callee,args,argTypes⟩:=c
   obtain rfl:=hcc
   rfl
  rw[e1,hvo,hmo,I7 hcc hca h2.1]
  dsimp only
  cases Dy E.τ c.argTypes.toList (s2.o [t,0]) (v7 s2.o (s2.ev y))with
  |none=>cases Nat.blt d E.N<;>rfl
  |some r =>
   cases Nat.blt d E.N with
   |false=>rfl
   |true =>
    dsimp only[cond_true,Option.map_some]
    rw[Mf h2 h3 hne]
 rw[hss]at h
 have hsg:=h
 rw[form s hc hf]at h
 cases hr:Dy E.τ c.argTypes.toList (s.o [t,0]) (v7 s.o (s.ev y))with
 |none=>rw[hr]at h;cases h
 |some r =>
  rw[hr]at h
  obtain⟨b,k,ob⟩:=r
  dsimp only at h
  cases hN:Nat.blt d E.N with
  |false=>rw[hN]at h;cases h
  |true =>
   rw[hN,cond_true]at h
   cases b with
   |false=>cases h
   |true =>
    refine⟨k,ob,(Option.some.inj h).symm,IH _ hr,hsg,fun s' h1 h2 h3 h4=>?_⟩
    rw[hss,form s' h3 h4, ←oI h1 y hyo,h2 t hto [t,0] (by rw[hc.1];exact rfl),EY (o:=s.o) (fun n hn=>by
     obtain⟨i,hi,hm⟩:=t7 (l:=l) hyo hn
     exact h2 i hi n hm),hr]
    dsimp only
    rw[hN];rfl
end
def jX (l:List Oper) (i:Nat):Bool:=match l[i]? with
 |some o=>(match jG o with|some _=>true|none=>false)
 |none=>false
def Id (l:List Oper) (z:Nat×Nat) (o:Oper):Bool:=bif jX l z.1 then BT o.op else mF o.op
def GT (E:aN) (l:List Oper) (rs:List (List Nat)) (zs:List (Nat×Nat)) (i:Nat):Bool:=match l[i]? with
  |none=>false
  |some o =>
    (match az E o with
      |0=>true
      |1=>true
      |4=>true
      |2=>(match bS o with|some d=>zs.any (fun z=>Nat.beq z.1 i&&Nat.beq z.2 d)|none=>false)
      |6=>(match jG o,o.dst with|some t,some d => !Nat.beq d t&&zs.any (fun z=>Nat.beq z.1 i&&Nat.beq z.2 t)|_,_=>false)
      |_=>false) &&
    ((List.range l.length).all (fun j=>Nat.beq j i || (match l[j]? with
      |some p=>(match p.dst with
        |some e=>(aY j (rs.getD i []) || !aY e (iw l o))&&(match o.dst with|some d => !Nat.beq d e|none=>true)
        |none=>true)
      |none=>true)) &&
     zs.all (fun z=>Nat.beq z.1 i || (aY z.1 (rs.getD i []) || (!aY z.2 (iw l o)&&(match o.dst with|some d => !Nat.beq d z.2 || Id l z o|none=>true)))))
def ny (fr:Bool):Nat→Bool
 |0=>true
 |4=>true
 |1=>fr
 |_=>false
def JT (l:List Oper) (a b:Oper):Bool:=match jG a with
 |some t => !aY t (iw l b)&&(match b.dst with|some e => !Nat.beq e t|none=>false)
 |none=>false
def Bl (E:aN) (l:List Oper) (rs:List (List Nat)) (fr:Bool) (i j:Nat):Bool:=match l[i]?,l[j]? with
 |some a,some b=>aY i (rs.getD j []) || (match a.dst with
  |some d=>(ny fr (az E a) || (fr&&Nat.beq (az E a) 6&&JT l a b))&&(!aY d (iw l b)&&(match b.dst with
   |some e=>(ny fr (az E b) || (fr&&Nat.beq (az E b) 6&&(ny fr (az E a)&&JT l b a)))&&(!Nat.beq d e && !aY e (iw l a))
   |none=>fr&&(match bS b with
    |some z=>Nat.beq (az E b) 2&&(!Nat.beq d z && !aY z (iw l a))
    |none=>false)))
  |none=>false)
 |_,_=>false
def Bq (l:List Oper) (i j:Nat):Bool:=match l[i]? with
 |some a => !aY j (bD a)
 |none=>false
def jU (l:List Oper) (z:Nat×Nat) (s:St):Prop:=match jX l z.1 with
 |true=>ni z.2 s
 |false=>xG z.2 s
def xZ (fr:Bool) (l:List Oper) (zs:List (Nat×Nat)) (L:List Nat) (s:St):Prop:=fr=true →
 (∀i∈L, ∀o d,l[i]?=some o→o.dst=some d→eC d s)∧∀z∈zs,z.1∈L→(∃i∈L, ∃o,l[i]?=some o∧o.dst=some z.2)∨jU l z s
theorem iL{n:Nm}{x:Ob}:∀{ups:List (Nm×Ob)},be ups n=some x→(n,x)∈ups
 |[],h=>by cases h
 |p::r,h=>by
  have h:(bif Nm.eqb p.1 n then some p.2 else be r n)=some x:=h
  cases q:Nm.eqb p.1 n with
  |true =>
   rw[q]at h
   obtain rfl:=Option.some.inj h
   obtain rfl:=bA.1 q
   exact List.mem_cons_self ..
  |false=>rw[q]at h;exact List.mem_cons_of_mem _ (iL h)
theorem rG (s:St) (ups:List (Nm×Ob)) (d:Nat) (v:AV){n:Nm}{x:Ob}(h:((s.over ups).put (some d) v).o n=some x):(n,x)∈ups∨(be ups n=none∧s.o n=some x):=by
 have h:(match be ups n with|some ob=>some ob|none=>s.o n)=some x:=h
 cases q:be ups n with
 |some y=>rw[q]at h;obtain rfl:=Option.some.inj h;exact .inl (iL q)
 |none=>rw[q]at h;exact .inr ⟨rfl,h⟩
theorem i9{s:St}{ups:List (Nm×Ob)}{d:Nat}{v:AV}{n:Nm}(h:∀p∈ups,p.1≠n):be ups n=none∧((s.over ups).put (some d) v).o n=s.o n:=by
 have:be ups n=none:=by
  cases q:be ups n with
  |none=>rfl
  |some x=>exact absurd rfl (h _ (iL q))
 refine⟨this,?_⟩
 show(match be ups n with|some ob=>some ob|none=>s.o n)=s.o n
 rw[this]
section
variable{fr:Bool}{E:aN}{l:List Oper}{s s1:St}
theorem tj{o:Oper}{q:Bool}{d e:Nat}{v:AV}{ups:List (Nm×Ob)}(hm:F6 fr E l o q s d v ups) (hne:d≠e) (hr:e∉iw l o) (hf:eC e s):eC e ((s.over ups).put (some d) v):=by
 have key:∀n,cf e n=true→¬(aK v n∨∃p∈ups,cY p.2 n):=by
  intro n hn hc
  rcases hm.m.ment n hc with h|⟨t,ht,h⟩|⟨t,ht,m,y,h1,h2,h3⟩
  ·rw[uv hne h]at hn;cases hn
  ·exact hf.1 t (fun q=>hr (q▸ht)) n hn h
  ·exact(hf.2 m y h2).2 n hn h3
 refine⟨fun t ht n hn h=>?_,fun m x hx=>?_⟩
 ·rw[cw]at h
  by_cases q:t=d
  ·rw[if_pos q]at h;exact key n hn (.inl h)
  ·rw[if_neg q]at h;exact hf.1 t ht n hn h
 ·rcases rG s ups d v hx with h|⟨_,h⟩
  ·exact⟨uv hne (hm.m.hd _ h),fun n hn h2=>key n hn (.inr ⟨_,h,h2⟩)⟩
  ·exact hf.2 m x h
theorem JW{o:Oper}{q:Bool}{d z:Nat}{v:AV}{ups:List (Nm×Ob)}(hm:F6 fr E l o q s d v ups) (hne:d≠z) (hr:z∉iw l o) (hf:xG z s):xG z ((s.over ups).put (some d) v):=by
 have key:¬(aK v [z,0]∨∃p∈ups,cY p.2 [z,0]):=by
  intro hc
  rcases hm.m.ment _ hc with h|⟨t,ht,h⟩|⟨t,ht,m,y,h1,h2,h3⟩
  ·exact hne (Nat.eq_of_beq_eq_true h).symm
  ·exact hf.2.1 t (fun q=>hr (q▸ht)) h
  ·exact hf.2.2 m y h2 h3
 refine⟨?_,fun t ht h=>?_,fun m x hx h2=>?_⟩
 ·rw[cw,if_neg (Ne.symm hne)];exact hf.1
 ·rw[cw]at h
  by_cases q:t=d
  ·rw[if_pos q]at h;exact key (.inl h)
  ·rw[if_neg q]at h;exact hf.2.1 t ht h
 ·rcases rG s ups d v hx with h|⟨_,h⟩
  ·exact key (.inr ⟨_,h,h2⟩)
  ·exact hf.2.2 m x h h2
theorem xl{o:Oper}{q:Bool}{d z:Nat}{v:AV}{ups:List (Nm×Ob)}(hm:F6 fr E l o q s d v ups) (hne:d≠z) (hr:z∉iw l o) (hf:ni z s):ni z ((s.over ups).put (some d) v):=by
 have key:¬(aK v [z,0]∨∃p∈ups,cY p.2 [z,0]):=by
  intro hc
  rcases hm.m.ment _ hc with h|⟨t,ht,h⟩|⟨t,ht,m,y,h1,h2,h3⟩
  ·exact hne (Nat.eq_of_beq_eq_true h).symm
  ·exact hf.2.1 t (fun q=>hr (q▸ht)) h
  ·exact hf.2.2 m y h2 h3
 refine⟨?_,fun t ht h=>?_,fun m x hx h2=>?_⟩
 ·rw[cw,if_neg (Ne.symm hne)];exact hf.1
 ·rw[cw]at h
  by_cases q:t=d
  ·rw[if_pos q]at h;exact key (.inl h)
  ·rw[if_neg q]at h;exact hf.2.1 t ht h
 ·rcases rG s ups d v hx with h|⟨_,h⟩
  ·exact key (.inr ⟨_,h,h2⟩)
  ·exact hf.2.2 m x h h2
theorem Ix{z:Nat×Nat}{o:Oper}{q:Bool}{d:Nat}{v:AV}{ups:List (Nm×Ob)}(hm:F6 fr E l o q s d v ups) (hne:d≠z.2) (hr:z.2∉iw l o) (hf:jU l z s):jU l z ((s.over ups).put (some d) v):=by
 unfold jU at hf ⊢
 cases w:jX l z.1 with
 |true=>rw[w]at hf;exact xl hm hne hr hf
 |false=>rw[w]at hf;exact JW hm hne hr hf
theorem Ei{t k d e:Nat}{ob:Ob}(ho:∀n,¬cY ob n) (hne:d≠e) (hf:eC e s):eC e (Em t k d ob s):=by
 refine⟨fun i hi n hn h=>?_,fun m x hx=>?_⟩
 ·have h:aK (if i=d then .c (.own [d,0])else if i=t then .c (.hd k)else s.t i) n:=h
  by_cases q:i=d
  ·rw[if_pos q]at h
   have h:[d,0]=n:=h
   rw[←h]at hn
   exact hne (Nat.eq_of_beq_eq_true hn)
  ·rw[if_neg q]at h
   by_cases q2:i=t
   ·rw[if_pos q2]at h;exact h
   ·rw[if_neg q2]at h;exact hf.1 i hi n hn h
 ·have hx:(if m=[d,0]then some ob else if m=[t,0]then none else s.o m)=some x:=hx
  by_cases q:m=[d,0]
  ·rw[if_pos q]at hx
   obtain rfl:=Option.some.inj hx
   rw[q]
   refine⟨?_,fun n _=>ho n⟩
   show Nat.beq d e=false
   cases w:Nat.beq d e with
   |false=>rfl
   |true=>exact absurd (Nat.eq_of_beq_eq_true w) hne
  ·rw[if_neg q]at hx
   by_cases q2:m=[t,0]
   ·rw[if_pos q2]at hx;cases hx
   ·rw[if_neg q2]at hx;exact hf.2 m x hx
theorem Eb{t k d z:Nat}{ob:Ob}(ho:∀n,¬cY ob n) (hne:d≠z) (h1:∀i,i≠z→¬aK (s.t i) [z,0]) (h2:∀m x,s.o m=some x→¬cY x [z,0]):(∀i,i≠z→¬aK ((Em t k d ob s).t i) [z,0])∧∀m x,(Em t k d ob s).o m=some x→¬cY x [z,0]:=by
 refine⟨fun i hi h=>?_,fun m x hx h=>?_⟩
 ·have h:aK (if i=d then .c (.own [d,0])else if i=t then .c (.hd k)else s.t i) [z,0]:=h
  by_cases q:i=d
  ·rw[if_pos q]at h
   have h:[d,0]=[z,0]:=h
   injection h with h _
   exact hne h
  ·rw[if_neg q]at h
   by_cases q2:i=t
   ·rw[if_pos q2]at h;exact h
   ·rw[if_neg q2]at h;exact h1 i hi h
 ·have hx:(if m=[d,0]then some ob else if m=[t,0]then none else s.o m)=some x:=hx
  by_cases q:m=[d,0]
  ·rw[if_pos q]at hx
   obtain rfl:=Option.some.inj hx
   exact ho _ h
  ·rw[if_neg q]at hx
   by_cases q2:m=[t,0]
   ·rw[if_pos q2]at hx;cases hx
   ·rw[if_neg q2]at hx;exact h2 m x hx h
theorem El{t k d z:Nat}{ob:Ob}(h1:z≠d) (h2:z≠t):(Em t k d ob s).t z=s.t z:=by
 show(if z=d then _ else if z=t then _ else s.t z)=s.t z
 rw[if_neg h1,if_neg h2]
theorem Iy{z:Nat×Nat}{t k d:Nat}{ob:Ob}(ho:∀n,¬cY ob n) (hne:d≠z.2) (hzt:z.2≠t) (hf:jU l z s):jU l z (Em t k d ob s):=by
 unfold jU at hf ⊢
 cases w:jX l z.1 with
 |true =>
  rw[w]at hf
  exact⟨by rw[El (Ne.symm hne) hzt];exact hf.1,Eb ho hne hf.2.1 hf.2.2⟩
 |false =>
  rw[w]at hf
  exact⟨by rw[El (Ne.symm hne) hzt];exact hf.1,Eb ho hne hf.2.1 hf.2.2⟩
theorem K0{t k d db:Nat}{ob:Ob}{vb:AV}{ub:List (Nm×Ob)}(hub:∀p∈ub,cf db p.1=true) (h1:db≠d) (h2:db≠t):((Em t k d ob s).over ub).put (some db) vb=Em t k d ob ((s.over ub).put (some db) vb):=by
 refine St.ext' (fun i=>?_) fun m=>?_
 ·rw[cw]
  show(if i=db then vb else if i=d then _ else if i=t then _ else s.t i)=(if i=d then _ else if i=t then _ else((s.over ub).put (some db) vb).t i)
  rw[cw]
  by_cases q:i=db
  ·rw[if_pos q,if_neg (fun e=>h1 (q.symm.trans e)),if_neg (fun e=>h2 (q.symm.trans e)),if_pos q]
  ·rw[if_neg q,if_neg q];rfl
 ·show(match be ub m with|some x=>some x|none=>(if m=[d,0]then some ob else if m=[t,0]then none else s.o m))=(if m=[d,0]then some ob else if m=[t,0]then none else(match be ub m with|some x=>some x|none=>s.o m))
  cases w:be ub m with
  |none=>rfl
  |some x =>
   have hh:=hub _ (iL w)
   have n1:m≠[d,0]:=fun e=>by
    have hh:cf db m=true:=hh
    rw[e]at hh
    exact h1 (Nat.eq_of_beq_eq_true (show Nat.beq d db=true from hh)).symm
   have n2:m≠[t,0]:=fun e=>by
    have hh:cf db m=true:=hh
    rw[e]at hh
    exact h2 (Nat.eq_of_beq_eq_true (show Nat.beq t db=true from hh)).symm
   simp only[if_neg n1,if_neg n2]
theorem DN{a b:Oper}{qa qb:Bool}{da db:Nat}{va vb:AV}{ua ub:List (Nm×Ob)}(ha:F6 fr E l a qa s da va ua) (hb:F6 fr E l b qb ((s.over ua).put (some da) va) db vb ub) (hne:da≠db) (h1:da∉iw l b) (h2:db∉iw l a)
  (hcase:(ua=[]∧ub=[]∧qa=false∧qb=false)∨(eC da s∧eC db s)) :
  stm fr E l b s=some ((s.over ub).put (some db) vb)∧stm fr E l a ((s.over ub).put (some db) vb)=some ((((s.over ua).put (some da) va).over ub).put (some db) vb):=by
 have st:∀t,t≠da→((s.over ua).put (some da) va).t t=s.t t:=fun t ht=>by rw[cw,if_neg ht];rfl
 have st2:∀t,t≠db→((s.over ub).put (some db) vb).t t=s.t t:=fun t ht=>by rw[cw,if_neg ht];rfl
 have eb:stm fr E l b s=some ((s.over ub).put (some db) vb):=by
  refine hb.stm s (fun t ht=>(st t (fun q=>h1 (q▸ht))).symm) (fun t ht n hn=>?_) (fun q=>?_)
  ·rcases hcase with⟨rfl,_⟩|⟨f1,_⟩
   ·rfl
   ·rw[st t (fun q=>h1 (q▸ht))]at hn
    exact(i9 (fun p hp e=>f1.1 t (fun q=>h1 (q▸ht)) n (by rw[←e];exact ha.m.hd p hp) hn)).2.symm
  ·rcases hcase with⟨_,_,_,q'⟩|⟨_,f2⟩
   ·rw[q']at q;cases q
   ·exact f2
 refine⟨eb,?_⟩
 have ea:stm fr E l a ((s.over ub).put (some db) vb)=some ((((s.over ub).put (some db) vb).over ua).put (some da) va):=by
  refine ha.stm _ (fun t ht=>st2 t (fun q=>h2 (q▸ht))) (fun t ht n hn=>?_) (fun q=>?_)
  ·rcases hcase with⟨_,rfl,_⟩|⟨_,f2⟩
   ·rfl
   ·exact(i9 (fun p hp e=>f2.1 t (fun q=>h2 (q▸ht)) n (by rw[←e];exact hb.m.hd p hp) hn)).2
  ·rcases hcase with⟨_,_,q',_⟩|⟨f1,f2⟩
   ·rw[q']at q;cases q
   ·have hb0:F6 fr E l b qb s db vb ub:=⟨⟨hb.m.dst,fun s' g1 g2 g3=>hb.m.step s' (fun t ht=>(g1 t ht).trans (st t (fun q=>h1 (q▸ht))).symm) (fun t ht n hn=>by
      rw[st t (fun q=>h1 (q▸ht))]at hn
      rw[g2 t ht n hn]
      exact(i9 (fun p hp e=>f1.1 t (fun q=>h1 (q▸ht)) n (by rw[←e];exact ha.m.hd p hp) hn)).2.symm) g3,hb.m.hd,fun n hn=>by
       rcases hb.m.ment n hn with h|⟨t,ht,h⟩|⟨t,ht,m,y,g1,g2,g3⟩
       ·exact .inl h
       ·rw[st t (fun q=>h1 (q▸ht))]at h;exact .inr (.inl ⟨t,ht,h⟩)
       ·rw[st t (fun q=>h1 (q▸ht))]at g1
        rw[(i9 (fun p hp e=>f1.1 t (fun q=>h1 (q▸ht)) m (by rw[←e];exact ha.m.hd p hp) g1)).2]at g2
        exact .inr (.inr ⟨t,ht,m,y,g1,g2,g3⟩)⟩,fun s' g1 g2 g3=>hb.stm s' (fun t ht=>(g1 t ht).trans (st t (fun q=>h1 (q▸ht))).symm) (fun t ht n hn=>by
      rw[st t (fun q=>h1 (q▸ht))]at hn
      rw[g2 t ht n hn]
      exact(i9 (fun p hp e=>f1.1 t (fun q=>h1 (q▸ht)) n (by rw[←e];exact ha.m.hd p hp) hn)).2.symm) g3⟩
    exact tj hb0 (Ne.symm hne) h1 f1
 rw[ea]
 refine congrArg some (St.ext' (fun i=>?_) fun n=>?_)
 ·rw[cw,cw]
  show(if i=da then va else((s.over ub).put (some db) vb).t i)=(if i=db then vb else((s.over ua).put (some da) va).t i)
  rw[cw,cw]
  by_cases q:i=da
  ·rw[if_pos q,if_pos q,if_neg (fun q2=>hne (q.symm.trans q2))]
  ·rw[if_neg q,if_neg q];rfl
 ·show(match be ua n with|some ob=>some ob|none=>(match be ub n with|some ob=>some ob|none=>s.o n))=(match be ub n with|some ob=>some ob|none=>(match be ua n with|some ob=>some ob|none=>s.o n))
  cases q1:be ua n with
  |none=>rfl
  |some x =>
   cases q2:be ub n with
   |none=>rfl
   |some y =>
    exfalso
    have g1:=ha.m.hd _ (iL q1)
    have g2:=hb.m.hd _ (iL q2)
    rw[uv hne g1]at g2;cases g2
theorem Je{a b:Oper}{q:Bool}{da z:Nat}{va:AV}{ua:List (Nm×Ob)}(ha:F6 fr E l a q s da va ua) (hs:bS b=some z) (hg:b.guard=none) (hk:az E b=2) (hc:xG z s) (hf:eC da s) (hne:da≠z) (hra:z∉iw l a) (hrb:da∉iw l b){s2:St}(h:stm fr E l b ((s.over ua).put (some da) va)=some s2) :
  ∃s1',stm fr E l b s=some s1'∧stm fr E l a s1'=some s2:=by
 have st:∀t,t≠da→((s.over ua).put (some da) va).t t=s.t t:=fun t ht=>by rw[cw,if_neg ht];rfl
 have hzd:∀p∈ua,p.1≠[z,0]:=fun p hp e=>hne (Nat.eq_of_beq_eq_true (show Nat.beq z da=true from by
  have:=ha.m.hd p hp
  rw[e]at this;exact this)).symm
 obtain⟨ob0,ob,g1,g2,_,g4,g5⟩:=U5 hs hg hk (by rw[st z (Ne.symm hne)];exact hc.1) h
 rw[(i9 hzd).2]at g1
 have e1:stm fr E l b s=some (s.setO [z,0] ob):=g4 s (fun t ht=>(st t (fun q=>hrb (q▸ht))).symm) (i9 hzd).2.symm
 refine⟨_,e1,?_⟩
 have mo:∀n,cf da n=true→¬cY ob n:=fun n hn hm=>by
  rcases g5 n hm with h|⟨t,ht,h⟩
  ·exact(hf.2 _ ob0 g1).2 n hn h
  ·rw[st t (fun q=>hrb (q▸ht))]at h
   exact hf.1 t (fun q=>hrb (q▸ht)) n hn h
 have hf':eC da (s.setO [z,0] ob):=by
  refine⟨hf.1,fun m x hx=>?_⟩
  have hx:(bif Nm.eqb m [z,0]then some ob else s.o m)=some x:=hx
  cases w:Nm.eqb m [z,0]with
  |true =>
   rw[w]at hx
   obtain rfl:=Option.some.inj hx
   rw[bA.1 w]
   exact⟨(hf.2 _ ob0 g1).1,mo⟩
  |false=>rw[w]at hx;exact hf.2 m x hx
 have e2:=ha.stm (s.setO [z,0] ob) (fun _ _=>rfl) (fun t ht n hn=>by
  show(bif Nm.eqb n [z,0]then some ob else s.o n)=s.o n
  cases w:Nm.eqb n [z,0]with
  |true =>
   rw[bA.1 w]at hn
   exact absurd hn (hc.2.1 t (fun q=>hra (q▸ht)))
  |false=>rfl) (fun _=>hf')
 rw[e2,g2]
 refine congrArg some (St.ext' (fun i=>?_) fun n=>?_)
 ·show _=((s.over ua).put (some da) va).t i
  rw[cw,cw]
  rfl
 ·show(match be ua n with|some ob=>some ob|none=>(bif Nm.eqb n [z,0]then some ob else s.o n))=(bif Nm.eqb n [z,0]then some ob else(match be ua n with|some ob=>some ob|none=>s.o n))
  cases w:Nm.eqb n [z,0]with
  |false=>rfl
  |true=>rw[bA.1 w,(i9 (s:=s) (d:=da) (v:=va) hzd).1]
end
section
variable{fr:Bool}{E:aN}{l:List Oper}
theorem gQ{o:Oper}{s s1:St}{d:Nat}(hd:o.dst=some d) (hk:ny fr (az E o)=true) (h:stm fr E l o s=some s1):∃v ups q,F6 fr E l o q s d v ups∧(az E o≠1→q=false∧ups=[])∧s1=(s.over ups).put (some d) v∧(∀t,o.op = .alloc t→az E o=1→∃zc,v = .c (.pb [d,0] 0)∧ups=[([d,0], .box zc)]∧∀n,¬cd zc n)∧(BT o.op=true→az E o=1→∃el ty xs,v = .c (.own [d,0])∧ups=[([d,0], .arr el ty xs)]):=by
 have three:az E o=0∨(az E o=1∧fr=true)∨az E o=4:=by
  unfold ny at hk
  split at hk
  ·rename_i q;exact .inl q
  ·rename_i q;exact .inr (.inr q)
  ·rename_i q;exact .inr (.inl ⟨q,hk⟩)
  ·cases hk
 rcases three with h0|h1
 ·obtain⟨d',v,m,rfl⟩:=OL (fr:=fr) h0 h
  have:d'=d:=by
   have:=m.m.dst
   rw[hd]at this
   exact(Option.some.inj this).symm
  subst this
  exact⟨v,[],false,m,fun _=>⟨rfl,rfl⟩,rfl,fun t _ q=>(by rw[h0]at q;cases q),fun _ q=>(by rw[h0]at q;cases q)⟩
 ·obtain⟨v,ups,q,m,m2,m3,m4,m5⟩:=Ie h1 hd h
  exact⟨v,ups,q,m,fun w=>m2 (by rcases h1 with h|h;exact absurd h.1 w;exact h),m3,fun t ht _=>m4 t ht,fun hb _=>m5 hb⟩
theorem bi{n:Nat}{l:List Nat}(h:(!aY n l)=true):n∉l:=fun q=>by rw[cP.2 q]at h;cases h
theorem me{a b:Nat}(h:(!Nat.beq a b)=true):a≠b:=fun q=>by rw[q,Nat.beq_refl]at h;cases h
theorem zh{zs:List (Nat×Nat)}{L:List Nat}{s:St}{i:Nat}{o:Oper}{t d:Nat}(hI:xZ true l zs L s) (hi:i∈L) (ho:l[i]?=some o) (hok:GT E l (aX l []) zs i=true) (hfree:∀a∈L,aY a ((aX l []).getD i [])=false) (hat:jG o=some t) (hd:o.dst=some d) (k6:az E o=6):d≠t∧ni t s:=by
 obtain⟨I1,I2⟩:=hI rfl
 unfold GT at hok
 rw[ho]at hok
 dsimp only at hok
 rw[Bool.and_eq_true,Bool.and_eq_true,k6]at hok
 obtain⟨hk,hB,hC⟩:=hok
 have hk:(match jG o,o.dst with|some t,some d => !Nat.beq d t&&zs.any (fun z=>Nat.beq z.1 i&&Nat.beq z.2 t)|_,_=>false)=true:=hk
 rw[hat,hd]at hk
 dsimp only at hk
 rw[Bool.and_eq_true,List.any_eq_true]at hk
 obtain⟨hdt,z,hz,hze⟩:=hk
 have hdt:=me hdt
 rw[Bool.and_eq_true]at hze
 have z1:=Nat.eq_of_beq_eq_true hze.1
 have z2:=Nat.eq_of_beq_eq_true hze.2
 have htr:t∈iw l o:=by
  obtain⟨c,y,_,hop,_,hca,_⟩:=lV hat
  refine List.mem_append_left _ (List.mem_flatMap.2 ⟨.tmp t,?_,List.mem_singleton.2 rfl⟩)
  rw[hop]
  simp only[Op.operands,Call.operands,Array.toList_append,List.mem_append]
  right
  rw[hca]
  exact .head _
 refine⟨hdt,?_⟩
 rcases I2 z hz (z1▸hi)with⟨j,hj,p,hp,he⟩|h
 ·exfalso
  rw[z2]at he
  by_cases q:j=i
  ·subst q
   rw[ho]at hp
   obtain rfl:=Option.some.inj hp
   rw[hd]at he
   exact hdt (Option.some.inj he)
  ·have:=List.all_eq_true.1 hB j (List.mem_range.2 (List.getElem?_eq_some_iff.1 hp).1)
   rw[dl q,hp]at this
   dsimp only[Bool.false_or]at this
   rw[he]at this
   dsimp only at this
   rw[Bool.false_or,Bool.and_eq_true,hfree j hj,Bool.false_or]at this
   exact bi this.1 htr
 ·have hna:jX l z.1=true:=by
   unfold jX
   rw[z1,ho]
   dsimp only
   rw[hat]
  unfold jU at h
  rw[hna,z2]at h;exact h
theorem OT{zs:List (Nat×Nat)}{L L':List Nat}{s s1:St}{i:Nat}{o:Oper}(hI:xZ true l zs L s) (hi:i∈L) (ho:l[i]?=some o) (hok:GT E l (aX l []) zs i=true) (hfree:∀a∈L,aY a ((aX l []).getD i [])=false) (hlt:∀j∈L,j<l.length) (hs:stm true E l o s=some s1)
  (h1:∀j∈L',j∈L∧j≠i) (h2:∀j∈L,j≠i→j∈L'):stg E l o s=some s1∧xZ true l zs L' s1:=by
 obtain⟨I1,I2⟩:=hI rfl
 unfold GT at hok
 rw[ho]at hok
 dsimp only at hok
 rw[Bool.and_eq_true,Bool.and_eq_true]at hok
 obtain⟨hk,hB,hC⟩:=hok
 have B:∀j∈L,j≠i→∀p e,l[j]?=some p→p.dst=some e→e∉iw l o∧∀d,o.dst=some d→d≠e:=by
  intro j hj hne p e hp he
  have:=List.all_eq_true.1 hB j (List.mem_range.2 (hlt j hj))
  rw[dl hne,hp]at this
  dsimp only[Bool.false_or]at this
  rw[he]at this
  dsimp only at this
  rw[Bool.false_or,Bool.and_eq_true,hfree j hj,Bool.false_or]at this
  refine⟨bi this.1,fun d hd=>?_⟩
  have h3:=this.2
  rw[hd]at h3
  exact me h3
 have C:∀z∈zs,z.1∈L→z.1≠i→z.2∉iw l o∧∀d,o.dst=some d→d≠z.2∨Id l z o=true:=by
  intro z hz hzL hne
  have:=List.all_eq_true.1 hC z hz
  rw[dl hne,hfree _ hzL,Bool.false_or,Bool.false_or,Bool.and_eq_true]at this
  refine⟨bi this.1,fun d hd=>?_⟩
  have h3:=this.2
  rw[hd]at h3
  dsimp only at h3
  rw[Bool.or_eq_true]at h3
  exact h3.imp me id
 by_cases k2:az E o=2
 ·-- a store
  rw[k2]at hk
  have hk:(match bS o with|some d=>zs.any (fun z=>Nat.beq z.1 i&&Nat.beq z.2 d)|none=>false)=true:=hk
  have hg:o.guard=none:=l6 (E:=E) (o:=o) (by omega) (by omega)
  cases hss:bS o with
  |none=>rw[hss]at hk;cases hk
  |some d =>
   rw[hss]at hk
   dsimp only at hk
   rw[List.any_eq_true]at hk
   obtain⟨z,hz,hze⟩:=hk
   rw[Bool.and_eq_true]at hze
   have z1:=Nat.eq_of_beq_eq_true hze.1
   have z2:=Nat.eq_of_beq_eq_true hze.2
   have hdn:o.dst=none:=by
    unfold bS at hss
    split at hss
    ·assumption
    ·cases hss
   have hdr:d∈iw l o:=by
    unfold bS at hss
    split at hss
    ·rename_i T a x _ hop
     obtain rfl:=Option.some.inj hss
     exact List.mem_append_left _ (List.mem_flatMap.2 ⟨.tmp a,by rw[hop];simp[Op.operands],List.mem_singleton.2 rfl⟩)
    ·cases hss
   have hcl:xG d s:=by
    rcases I2 z hz (z1▸hi)with⟨j,hj,p,hp,he⟩|h
    ·exfalso
     rw[z2]at he
     by_cases q:j=i
     ·subst q
      rw[ho]at hp
      obtain rfl:=Option.some.inj hp
      rw[hdn]at he;cases he
     ·exact(B j hj q p d hp he).1 hdr
    ·have hna:jX l z.1=false:=by
      unfold jX
      rw[z1,ho]
      dsimp only
      cases w:jG o with
      |none=>rfl
      |some t =>
       obtain⟨_,_,_,_,_,_,w2⟩:=lV w
       rw[hdn]at w2;cases w2
     unfold jU at h
     rw[hna,z2]at h;exact h
   obtain⟨ob0,ob,g1,rfl,g3,_,g5⟩:=U5 hss hg k2 hcl.1 hs
   refine⟨g3,fun _=>⟨fun j hj p e hp he=>?_,fun z' hz' hzL=>?_⟩⟩
   ·obtain⟨hjL,hji⟩:=h1 j hj
    have hf:=I1 j hjL p e hp he
    have hb:=(B j hjL hji p e hp he).1
    refine⟨hf.1,fun m x hx=>?_⟩
    have hx:(bif Nm.eqb m [d,0]then some ob else s.o m)=some x:=hx
    cases w:Nm.eqb m [d,0]with
    |true =>
     rw[w]at hx
     obtain rfl:=Option.some.inj hx
     rw[bA.1 w]
     refine⟨(hf.2 _ ob0 g1).1,fun n hn hm=>?_⟩
     rcases g5 n hm with h|⟨t,ht,h⟩
     ·exact(hf.2 _ ob0 g1).2 n hn h
     ·exact hf.1 t (fun q=>hb (q▸ht)) n hn h
    |false=>rw[w]at hx;exact hf.2 m x hx
   ·obtain⟨hzL0,hzi⟩:=h1 _ hzL
    rcases I2 z' hz' hzL0 with⟨j,hj,p,hp,he⟩|h
    ·refine .inl ⟨j,h2 j hj (fun q=>?_),p,hp,he⟩
     subst q
     rw[ho]at hp
     obtain rfl:=Option.some.inj hp
     rw[hdn]at he;cases he
    ·have hcr:=(C z' hz' hzL0 hzi).1
     have key:(∀i,i≠z'.2→¬aK (s.t i) [z'.2,0])→(∀m x,s.o m=some x→¬cY x [z'.2,0])→∀m x,(s.setO [d,0] ob).o m=some x→¬cY x [z'.2,0]:=fun k1 k2 m x hx hm=>by
      have hx:(bif Nm.eqb m [d,0]then some ob else s.o m)=some x:=hx
      cases w:Nm.eqb m [d,0]with
      |true =>
       rw[w]at hx
       obtain rfl:=Option.some.inj hx
       rcases g5 _ hm with h3|⟨t,ht,h3⟩
       ·exact k2 _ ob0 g1 h3
       ·exact k1 t (fun q=>hcr (q▸ht)) h3
      |false=>rw[w]at hx;exact k2 m x hx hm
     right
     unfold jU at h ⊢
     cases w:jX l z'.1 with
     |true=>rw[w]at h;exact⟨h.1,h.2.1,key h.2.1 h.2.2⟩
     |false=>rw[w]at h;exact⟨h.1,h.2.1,key h.2.1 h.2.2⟩
 ·by_cases k6:az E o=6
  ·-- an append
   rw[k6]at hk
   have hk:(match jG o,o.dst with|some t,some d => !Nat.beq d t&&zs.any (fun z=>Nat.beq z.1 i&&Nat.beq z.2 t)|_,_=>false)=true:=hk
   cases hat:jG o with
   |none=>rw[hat]at hk;cases hk
   |some t =>
    cases hd:o.dst with
    |none=>rw[hat,hd]at hk;cases hk
    |some d =>
     rw[hat,hd]at hk
     dsimp only at hk
     rw[Bool.and_eq_true,List.any_eq_true]at hk
     obtain⟨hdt,z,hz,hze⟩:=hk
     have hdt:=me hdt
     rw[Bool.and_eq_true]at hze
     have z1:=Nat.eq_of_beq_eq_true hze.1
     have z2:=Nat.eq_of_beq_eq_true hze.2
     have htr:t∈iw l o:=by
      obtain⟨c,y,_,hop,_,hca,_⟩:=lV hat
      refine List.mem_append_left _ (List.mem_flatMap.2 ⟨.tmp t,?_,List.mem_singleton.2 rfl⟩)
      rw[hop]
      simp only[Op.operands,Call.operands,Array.toList_append,List.mem_append]
      right
      rw[hca]
      exact .head _
     have hcl:ni t s:=by
      rcases I2 z hz (z1▸hi)with⟨j,hj,p,hp,he⟩|h
      ·exfalso
       rw[z2]at he
       by_cases q:j=i
       ·subst q
        rw[ho]at hp
        obtain rfl:=Option.some.inj hp
        rw[hd]at he
        exact hdt (Option.some.inj he)
       ·exact(B j hj q p t hp he).1 htr
      ·have hna:jX l z.1=true:=by
        unfold jX
        rw[z1,ho]
        dsimp only
        rw[hat]
       unfold jU at h
       rw[hna,z2]at h;exact h
     obtain⟨k,ob,rfl,hom,g3,_⟩:=Uy hat hd k6 hcl (I1 i hi o d ho hd) hdt hs
     refine⟨g3,fun _=>⟨fun j hj p e hp he=>?_,fun z' hz' hzL=>?_⟩⟩
     ·obtain⟨hjL,hji⟩:=h1 j hj
      exact Ei hom ((B j hjL hji p e hp he).2 d hd) (I1 j hjL p e hp he)
     ·obtain⟨hzL0,hzi⟩:=h1 _ hzL
      obtain⟨c1,c2⟩:=C z' hz' hzL0 hzi
      have hdz:d≠z'.2:=by
       rcases c2 d hd with h|h
       ·exact h
       ·exfalso
        obtain⟨c,y,_,hop,_,_,_⟩:=lV hat
        unfold Id at h
        rw[hop]at h
        cases w:jX l z'.1<;>(rw[w]at h;cases h)
      rcases I2 z' hz' hzL0 with⟨j,hj,p,hp,he⟩|h
      ·refine .inl ⟨j,h2 j hj (fun q=>?_),p,hp,he⟩
       subst q
       rw[ho]at hp
       obtain rfl:=Option.some.inj hp
       rw[hd]at he
       exact hdz (Option.some.inj he)
      ·exact .inr (Iy hom hdz (fun q=>c1 (q▸htr)) h)
  -- what makes
  have hmk:ny true (az E o)=true:=by
   split at hk
   ·rename_i q;rw[q];rfl
   ·rename_i q;rw[q];rfl
   ·rename_i q;rw[q];rfl
   ·rename_i q;exact absurd q k2
   ·rename_i q;exact absurd q k6
   ·cases hk
  obtain⟨d,hd⟩:∃d,o.dst=some d:=by
   have hk0:az E o=0∨az E o=1∨az E o=4:=by
    unfold ny at hmk
    split at hmk
    ·rename_i q;exact .inl q
    ·rename_i q;exact .inr (.inr q)
    ·rename_i q;exact .inr (.inl q)
    ·cases hmk
   cases hd:o.dst with
   |some d=>exact⟨d,rfl⟩
   |none =>
    exfalso
    unfold az at hk0
    rw[hd]at hk0
    dsimp only at hk0
    rw[Bool.and_false]at hk0
    dsimp only[cond_false]at hk0
    cases q:ce o with
    |false=>rw[q]at hk0;rcases hk0 with h|h|h<;>cases h
    |true =>
     rw[q]at hk0
     dsimp only[cond_true]at hk0
     split at hk0<;>first|(rename_i w;cases w;done)|(rename_i w _;cases w;done)|(rcases hk0 with h|h|h<;>cases h)
  obtain⟨v,ups,q,m,m2,rfl,m4,m5⟩:=gQ hd hmk hs
  have hfd:=I1 i hi o d ho hd
  refine⟨m.m.step s (fun _ _=>rfl) (fun _ _ _ _=>rfl) (fun _=>hfd),fun _=>⟨fun j hj p e hp he=>?_,fun z hz hzL=>?_⟩⟩
  ·obtain⟨hjL,hji⟩:=h1 j hj
   obtain⟨b1,b2⟩:=B j hjL hji p e hp he
   exact tj m (b2 d hd) b1 (I1 j hjL p e hp he)
  ·obtain⟨hzL0,hzi⟩:=h1 _ hzL
   obtain⟨c1,c2⟩:=C z hz hzL0 hzi
   by_cases hdz:d=z.2
   ·rcases c2 d hd with h|h
    ·exact absurd hdz h
    ·refine .inr ?_
     have h1:BT o.op=true∨mF o.op=true:=by
      unfold Id at h
      cases w:jX l z.1 with
      |true=>rw[w]at h;exact .inl h
      |false=>rw[w]at h;exact .inr h
     have hv:iv E.τ o=false:=by
      unfold iv
      rcases h1 with h1|h1
      ·unfold BT at h1
       split at h1
       ·rename_i w;rw[w]
       ·cases h1
      ·unfold mF at h1
       split at h1
       ·rename_i w;rw[w]
       ·cases h1
     have hk1:az E o=1:=by
      unfold ny at hmk
      split at hmk
      ·rename_i q
       exfalso
       unfold az at q
       rw[hv,Bool.false_and,cond_false,hd]at q
       rcases h1 with h1|h1
       ·unfold BT at h1
        split at h1
        ·rename_i w;rw[w]at q;cases e:ce o<;>(rw[e]at q;cases q)
        ·cases h1
       ·unfold mF at h1
        split at h1
        ·rename_i w;rw[w]at q;cases e:ce o<;>(rw[e]at q;cases q)
        ·cases h1
      ·rename_i q
       exfalso
       unfold az at q
       rw[hv,Bool.false_and,cond_false,hd]at q
       rcases h1 with h1|h1
       ·unfold BT at h1
        split at h1
        ·rename_i w;rw[w]at q;cases e:ce o<;>(rw[e]at q;cases q)
        ·cases h1
       ·unfold mF at h1
        split at h1
        ·rename_i w;rw[w]at q;cases e:ce o<;>(rw[e]at q;cases q)
        ·cases h1
      ·assumption
      ·cases hmk
     unfold jU
     unfold Id at h
     cases w:jX l z.1 with
     |true =>
      rw[w]at h
      obtain⟨el,ty,xs,rfl,rfl⟩:=m5 h hk1
      dsimp only
      rw[←hdz]
      refine⟨by rw[cw,if_pos rfl],fun t ht=>?_,fun m x hx hm=>?_⟩
      ·rw[cw,if_neg ht]
       exact hfd.1 t ht _ (Nat.beq_refl _)
      ·rcases rG _ _ _ _ hx with h|⟨_,h⟩
       ·have:=Prod.mk.inj (List.mem_singleton.1 h)
        rw[this.2]at hm
        exact hm
       ·exact(hfd.2 m x h).2 [d,0] (Nat.beq_refl d) hm
     |false =>
      rw[w]at h
      obtain⟨t,ht⟩:∃t,o.op = .alloc t:=by
       have h:mF o.op=true:=h
       unfold mF at h
       split at h
       ·exact⟨_,by assumption⟩
       ·cases h
      obtain⟨zc,rfl,rfl,zm⟩:=m4 t ht hk1
      dsimp only
      rw[←hdz]
      refine⟨by rw[cw,if_pos rfl],fun t ht=>?_,fun m x hx hm=>?_⟩
      ·rw[cw,if_neg ht]
       exact hfd.1 t ht _ (Nat.beq_refl _)
      ·rcases rG _ _ _ _ hx with h|⟨_,h⟩
       ·have:=Prod.mk.inj (List.mem_singleton.1 h)
        rw[this.2]at hm
        exact zm _ hm
       ·exact(hfd.2 m x h).2 [d,0] (Nat.beq_refl d) hm
   ·rcases I2 z hz hzL0 with⟨j,hj,p,hp,he⟩|h
    ·refine .inl ⟨j,h2 j hj (fun q=>?_),p,hp,he⟩
     subst q
     rw[ho]at hp
     obtain rfl:=Option.some.inj hp
     rw[hd]at he
     exact hdz (Option.some.inj he)
    ·exact .inr (Ix m hdz c1 h)
theorem Nr{zs:List (Nat×Nat)}{L:List Nat}{s sa sb:St}{i j:Nat}{a b:Oper}(hI:xZ fr l zs L s) (hi:i∈L) (hj:j∈L) (ha:l[i]?=some a) (hb:l[j]?=some b) (hok:fr=true→GT E l (aX l []) zs j=true)
  (hok2:fr=true→GT E l (aX l []) zs i=true) (hfree2:∀x∈L,aY x ((aX l []).getD i [])=false) (hfree:∀x∈L,aY x ((aX l []).getD j [])=false) (hp:Bl E l (aX l []) fr i j=true) (g1:stm fr E l a s=some sa) (g2:stm fr E l b sa=some sb) (hji:i≠j) :
  ∃s1,stm fr E l b s=some s1∧stm fr E l a s1=some sb:=by
 unfold Bl at hp
 rw[ha,hb]at hp
 dsimp only at hp
 rw[hfree i hi,Bool.false_or]at hp
 cases hda:a.dst with
 |none=>rw[hda]at hp;cases hp
 |some da =>
  rw[hda]at hp
  dsimp only at hp
  rw[Bool.and_eq_true,Bool.and_eq_true,Bool.or_eq_true]at hp
  obtain⟨k1,n1,hp⟩:=hp
  rcases k1 with k1|k1
  case inr =>
   -- an append ahead of a maker
   rw[Bool.and_eq_true,Bool.and_eq_true]at k1
   obtain⟨⟨hfr,k6⟩,he⟩:=k1
   subst hfr
   have k6:=Nat.eq_of_beq_eq_true k6
   obtain⟨I1,I2⟩:=hI rfl
   unfold JT at he
   cases hat:jG a with
   |none=>rw[hat]at he;cases he
   |some t =>
    rw[hat]at he
    dsimp only at he
    rw[Bool.and_eq_true]at he
    cases hdb:b.dst with
    |none=>rw[hdb]at he;cases he.2
    |some db =>
     rw[hdb]at hp he
     dsimp only at hp he
     rw[Bool.and_eq_true,Bool.and_eq_true,Bool.or_eq_true]at hp
     obtain⟨k2,n2,n3⟩:=hp
     have nt:=bi he.1
     have nt2:=me he.2
     rcases k2 with k2|k2
     case inr =>
      rw[Bool.and_eq_true,Bool.and_eq_true,Bool.and_eq_true,k6]at k2
      cases k2.2.1
     obtain⟨hdt,hcl⟩:=zh hI hi ha (hok2 rfl) hfree2 hat hda k6
     obtain⟨k,ob,rfl,hom,_,g5⟩:=Uy hat hda k6 hcl (I1 i hi a da ha hda) hdt g1
     obtain⟨vb,ub,qb,mb,mb2,rfl,_⟩:=gQ hdb k2 g2
     have fb:=I1 j hj b db hb hdb
     have est:∀x∈iw l b,(Em t k da ob s).t x=s.t x:=fun x hx=>El (fun q=>bi n1 (q▸hx)) (fun q=>nt (q▸hx))
     have eso:∀x∈iw l b, ∀n,aK (s.t x) n→s.o n=(Em t k da ob s).o n:=fun x hx n hn=>by
      have q1:n≠[da,0]:=fun q=>(I1 i hi a da ha hda).1 x (fun q=>bi n1 (q▸hx)) n (by rw[q];exact Nat.beq_refl da) hn
      have q2:n≠[t,0]:=fun q=>hcl.2.1 x (fun q=>nt (q▸hx)) (by rw[←q];exact hn)
      show s.o n=(if n=[da,0]then some ob else if n=[t,0]then none else s.o n)
      rw[if_neg q1,if_neg q2]
     have eb:stm true E l b s=some ((s.over ub).put (some db) vb):=mb.stm s (fun x hx=>(est x hx).symm) (fun x hx n hn=>by
      rw[est x hx]at hn
      exact eso x hx n hn) (fun _=>fb)
     refine⟨_,eb,?_⟩
     have hub:=mb.m.hd
     have hdb1:db≠da:=Ne.symm (me n2)
     have mb0:F6 true E l b qb s db vb ub:=⟨⟨mb.m.dst,fun s' g1 g2 g3=>mb.m.step s' (fun x hx=>(g1 x hx).trans (est x hx).symm) (fun x hx n hn=>by
       rw[est x hx]at hn
       rw[g2 x hx n hn];exact eso x hx n hn) g3,hub,fun n hn=>by
        rcases mb.m.ment n hn with h|⟨x,hx,h⟩|⟨x,hx,m,y,q1,q2,q3⟩
        ·exact .inl h
        ·rw[est x hx]at h;exact .inr (.inl ⟨x,hx,h⟩)
        ·rw[est x hx]at q1
         rw[←eso x hx m q1]at q2
         exact .inr (.inr ⟨x,hx,m,y,q1,q2,q3⟩)⟩,fun s' g1 g2 g3=>mb.stm s' (fun x hx=>(g1 x hx).trans (est x hx).symm) (fun x hx n hn=>by
       rw[est x hx]at hn
       rw[g2 x hx n hn];exact eso x hx n hn) g3⟩
     rw[g5 _ (fun x hx=>by rw[cw,if_neg (fun(q:x=db)=>bi n3 (q▸hx))];rfl) (fun x hx n hn=>(i9 (fun p hp e=>fb.1 x (fun q=>bi n3 (q▸hx)) n (by rw[←e];exact hub p hp) hn)).2) (xl mb0 nt2 nt hcl) (tj mb0 hdb1 (bi n1) (I1 i hi a da ha hda))]
     rw[K0 hub hdb1 nt2]
  obtain⟨va,ua,qa,ma,ma2,rfl,_⟩:=gQ hda k1 g1
  cases hdb:b.dst with
  |some db =>
   rw[hdb]at hp
   dsimp only at hp
   rw[Bool.and_eq_true,Bool.and_eq_true,Bool.or_eq_true]at hp
   obtain⟨k2,n2,n3⟩:=hp
   rcases k2 with k2|k2
   case inr =>
    -- a maker ahead of an append
    rw[Bool.and_eq_true,Bool.and_eq_true,Bool.and_eq_true]at k2
    obtain⟨⟨hfr,k6⟩,_,he⟩:=k2
    subst hfr
    have k6:=Nat.eq_of_beq_eq_true k6
    obtain⟨I1,I2⟩:=hI rfl
    unfold JT at he
    cases hat:jG b with
    |none=>rw[hat]at he;cases he
    |some t =>
     rw[hat,hda]at he
     dsimp only at he
     rw[Bool.and_eq_true]at he
     have nt:=bi he.1
     have nt2:=me he.2
     have fa:=I1 i hi a da ha hda
     have fb:=I1 j hj b db hb hdb
     obtain⟨hdt,hcl⟩:=zh hI hj hb (hok rfl) hfree hat hdb k6
     have hua:=ma.m.hd
     have hab:=me n2
     obtain⟨k,ob,rfl,hom,_,g5⟩:=Uy hat hdb k6 (xl ma nt2 nt hcl) (tj ma hab (bi n3) fb) hdt g2
     have est:∀x∈iw l b,s.t x=((s.over ua).put (some da) va).t x:=fun x hx=>by rw[cw,if_neg (fun(q:x=da)=>bi n1 (q▸hx))];rfl
     refine⟨_,g5 s est (fun x hx n hn=>by
      rw[←est x hx]at hn
      exact(i9 (fun p hp e=>fa.1 x (fun q=>bi n1 (q▸hx)) n (by rw[←e];exact hua p hp) hn)).2.symm) hcl fb,?_⟩
     rw[ma.stm (Em t k db ob s) (fun x hx=>El (fun(q:x=db)=>bi n3 (q▸hx)) (fun(q:x=t)=>nt (q▸hx))) (fun x hx n hn=>by
      have q1:n≠[db,0]:=fun q=>fb.1 x (fun q=>bi n3 (q▸hx)) n (by rw[q];exact Nat.beq_refl db) hn
      have q2:n≠[t,0]:=fun q=>hcl.2.1 x (fun q=>nt (q▸hx)) (by rw[←q];exact hn)
      show(if n=[db,0]then some ob else if n=[t,0]then none else s.o n)=s.o n
      rw[if_neg q1,if_neg q2]) (fun _=>Ei hom (Ne.symm hab) fa)]
     rw[K0 hua hab nt2]
   obtain⟨vb,ub,qb,mb,mb2,rfl,_⟩:=gQ hdb k2 g2
   refine⟨_,DN ma mb (me n2) (bi n1) (bi n3) ?_⟩
   cases fr with
   |true =>
    obtain⟨I1,_⟩:=hI rfl
    exact .inr ⟨I1 i hi a da ha hda,I1 j hj b db hb hdb⟩
   |false =>
    have no1:∀{k:Nat},ny false k=true→k≠1:=fun h q=>by rw[q]at h;cases h
    obtain⟨x1,x2⟩:=ma2 (no1 k1)
    obtain⟨y1,y2⟩:=mb2 (no1 k2)
    exact .inl ⟨x2,y2,x1,y1⟩
  |none =>
   rw[hdb]at hp
   dsimp only at hp
   rw[Bool.and_eq_true]at hp
   obtain⟨hfr,hp⟩:=hp
   subst hfr
   cases hss:bS b with
   |none=>rw[hss]at hp;cases hp
   |some z =>
    rw[hss]at hp
    dsimp only at hp
    rw[Bool.and_eq_true,Bool.and_eq_true]at hp
    obtain⟨k2,n2,n3⟩:=hp
    have k2:=Nat.eq_of_beq_eq_true k2
    have hg:b.guard=none:=l6 (E:=E) (o:=b) (by omega) (by omega)
    obtain⟨I1,I2⟩:=hI rfl
    have hzr:z∈iw l b:=by
     unfold bS at hss
     split at hss
     ·rename_i T x y _ hop
      obtain rfl:=Option.some.inj hss
      exact List.mem_append_left _ (List.mem_flatMap.2 ⟨.tmp x,by rw[hop];simp[Op.operands],List.mem_singleton.2 rfl⟩)
     ·cases hss
    have hcl:xG z s:=by
     have hok:=hok rfl
     unfold GT at hok
     rw[hb]at hok
     dsimp only at hok
     rw[Bool.and_eq_true,Bool.and_eq_true,k2]at hok
     obtain⟨h1,h2,_⟩:=hok
     have h1:(match bS b with|some d=>zs.any (fun z=>Nat.beq z.1 j&&Nat.beq z.2 d)|none=>false)=true:=h1
     rw[hss]at h1
     dsimp only at h1
     rw[List.any_eq_true]at h1
     obtain⟨w,hw,hwe⟩:=h1
     rw[Bool.and_eq_true]at hwe
     have w1:=Nat.eq_of_beq_eq_true hwe.1
     have w2:=Nat.eq_of_beq_eq_true hwe.2
     rcases I2 w hw (w1▸hj)with⟨x,hx,p,hp,he⟩|h
     ·exfalso
      have hxl:x<l.length:=(List.getElem?_eq_some_iff.1 hp).1
      have:=List.all_eq_true.1 h2 x (List.mem_range.2 hxl)
      by_cases q:x=j
      ·subst q
       rw[hb]at hp
       obtain rfl:=Option.some.inj hp
       rw[hdb]at he;cases he
      ·rw[dl q,hp]at this
       dsimp only at this
       rw[he]at this
       dsimp only at this
       rw[Bool.false_or,Bool.and_eq_true,hfree x hx,Bool.false_or,w2]at this
       exact bi this.1 hzr
     ·have hna:jX l w.1=false:=by
       unfold jX
       rw[w1,hb]
       dsimp only
       cases v:jG b with
       |none=>rfl
       |some t =>
        obtain⟨_,_,_,_,_,_,v2⟩:=lV v
        rw[hdb]at v2;cases v2
      unfold jU at h
      rw[hna,w2]at h;exact h
    exact Je ma hss hg k2 hcl (I1 i hi a da ha hda) (me n2) (bi n3) (bi n1) g2
theorem bX (l:List Oper){i:Nat}{o:Oper}(ho:l[i]?=some o) (L:List Nat):bY l (i::L)=o::bY l L:=by
 unfold bY
 rw[List.filterMap_cons,ho]
def yH (E:aN) (l:List Oper) (rs:List (List Nat)) (j:Nat):Bool:=(match l[j]? with
 |some o => !Nat.beq (az E o) 1 && !Nat.beq (az E o) 4
 |none=>false)&&(List.range l.length).all (fun x=>Nat.beq x j || aY x (rs.getD j []))
structure uT (fr:Bool) (E:aN) (l:List Oper) (zs:List (Nat×Nat)) (L:List Nat):Prop where
 nd:L.Nodup
 lt:∀j∈L,j<l.length
 pr:cZ (Bl E l (aX l []) fr) L=true
 or:cZ (Bq l) L=true
 ok:fr=true→∀j∈L,(GT E l (aX l []) zs j || yH E l (aX l []) j)=true
 down:∀j o,j∉L→l[j]?=some o→∀a∈bD o,a∉L
theorem eP{R:Nat→Nat→Bool}:∀{pre post:List Nat}{i:Nat},cZ R (pre++i::post)=true→cZ R (pre++post)=true∧(∀x∈pre,R x i=true)∧∀x∈post,R i x=true
 |[],post,i,h=>by
  have h:(post.all (R i)&&cZ R post)=true:=h
  rw[Bool.and_eq_true]at h
  exact⟨h.2,fun x hx=>(by cases hx),fun x hx=>List.all_eq_true.1 h.1 x hx⟩
 |y::pre,post,i,h=>by
  have h:((pre++i::post).all (R y)&&cZ R (pre++i::post))=true:=h
  rw[Bool.and_eq_true]at h
  obtain⟨g1,g2,g3⟩:=eP h.2
  have ha:=List.all_eq_true.1 h.1
  refine⟨?_,fun x hx=>?_,g3⟩
  ·show((pre++post).all (R y)&&cZ R (pre++post))=true
   rw[Bool.and_eq_true]
   refine⟨List.all_eq_true.2 fun x hx=>ha x ?_,g1⟩
   rcases List.mem_append.1 hx with q|q
   ·exact List.mem_append_left _ q
   ·exact List.mem_append_right _ (List.mem_cons_of_mem _ q)
  ·rcases List.mem_cons.1 hx with rfl|hx
   ·exact ha i (List.mem_append_right _ (List.mem_cons_self ..))
   ·exact g2 x hx
theorem uT.del{zs:List (Nat×Nat)}{pre post:List Nat}{i:Nat}(h:uT fr E l zs (pre++i::post)) (hfree:∀o,l[i]?=some o→∀a∈bD o,a∉pre++i::post):uT fr E l zs (pre++post)∧(∀j,j∈pre++post↔j∈pre++i::post∧j≠i):=by
 have mem:∀j,j∈pre++post↔j∈pre++i::post∧j≠i:=by
  have hnd:=(List.perm_middle (a:=i) (l₁:=pre) (l₂:=post)).nodup_iff.1 h.nd
  have hi:=(List.nodup_cons.1 hnd).1
  intro j
  rw[List.mem_append,List.mem_append,List.mem_cons]
  constructor
  ·intro q
   refine⟨q.imp id .inr,fun e=>?_⟩
   subst e
   exact hi (List.mem_append.2 q)
  ·rintro ⟨q,hne⟩
   rcases q with q|q|q
   ·exact .inl q
   ·exact absurd q hne
   ·exact .inr q
 refine⟨⟨?_,fun j hj=>h.lt j ((mem j).1 hj).1,(eP h.pr).1,(eP h.or).1,fun e j hj=>h.ok e j ((mem j).1 hj).1,fun j o hj ho a ha q=>?_⟩,mem⟩
 ·have hnd:=(List.perm_middle (a:=i) (l₁:=pre) (l₂:=post)).nodup_iff.1 h.nd
  exact(List.nodup_cons.1 hnd).2
 ·have q:=((mem a).1 q).1
  by_cases e:j=i
  ·subst e;exact hfree o ho a ha q
  ·exact h.down j o (fun w=>hj ((mem j).2 ⟨w,e⟩)) ho a ha q
theorem uT.reach{zs:List (Nat×Nat)}{L:List Nat}(h:uT fr E l zs L){i:Nat}{o:Oper}(ho:l[i]?=some o) (hfree:∀a∈bD o,a∉L):∀x∈L,aY x ((aX l []).getD i [])=false:=by
 intro x hx
 cases q:aY x ((aX l []).getD i [])with
 |false=>rfl
 |true=>exact absurd hx (ol (l:=l) (D:=fun j=>j∉L) h.down i ho hfree (cP.1 q))
theorem uT.head{zs:List (Nat×Nat)}{L:List Nat}{i:Nat}{o:Oper}(h:uT fr E l zs (i::L)) (ho:l[i]?=some o) (hna:i∉bD o):∀a∈bD o,a∉i::L:=by
 intro a ha hm
 rcases List.mem_cons.1 hm with rfl|hm
 ·exact hna ha
 ·have:=(eP (pre:=[]) h.or).2.2 a hm
  unfold Bq at this
  rw[ho]at this
  exact bi this ha
theorem BP{i x:Nat}(h:yH E l (aX l []) i=true) (hx:x<l.length) (hne:x≠i):aY x ((aX l []).getD i [])=true:=by
 unfold yH at h
 rw[Bool.and_eq_true]at h
 have:=List.all_eq_true.1 h.2 x (List.mem_range.2 hx)
 rw[dl hne,Bool.false_or]at this
 exact this
theorem uT.okx{zs:List (Nat×Nat)}{L:List Nat}(h:uT fr E l zs L){i x:Nat}(e:fr=true) (hi:i∈L) (hx:x∈L) (hne:x≠i) (hf:∀y∈L,aY y ((aX l []).getD i [])=false):GT E l (aX l []) zs i=true:=by
 have:=h.ok e i hi
 rw[Bool.or_eq_true]at this
 rcases this with q|q
 ·exact q
 ·have:=BP q (h.lt x hx) hne
  rw[hf x hx]at this
  cases this
theorem Eu{zs:List (Nat×Nat)}(hself:∀j o,l[j]?=some o→j∉bD o){post:List Nat}{i:Nat}{b:Oper}(hb:l[i]?=some b):∀{pre:List Nat}{s y:St},uT fr E l zs (pre++i::post)→xZ fr l zs (pre++i::post) s→(∀a∈bD b,a∉pre++i::post) →
  oc fr E l (bY l (pre++i::post)) s=some y→oc fr E l (bY l (i::(pre++post))) s=some y
 |[],s,y,_,_,_,h=>h
 |x::pre,s,y,ho,hI,hf,h=>by
  obtain⟨a,ha⟩:∃a,l[x]?=some a:=⟨_,List.getElem?_eq_getElem (ho.lt x (List.mem_cons_self ..))⟩
  rw[List.cons_append,bX l ha]at h
  have h:(stm fr E l a s).bind (oc fr E l (bY l (pre++i::post)))=some y:=h
  obtain⟨sa,g1,g2⟩:=Option.bind_eq_some_iff.1 h
  have hfa:=ho.head ha (hself x a ha)
  obtain⟨o2,mem2⟩:=uT.del (pre:=[]) ho (fun o e=>by rw[ha]at e;obtain rfl:=Option.some.inj e;exact hfa)
  have hI2:xZ fr l zs (pre++i::post) sa:=by
   cases fr with
   |false=>intro e;cases e
   |true=>exact(OT hI (List.mem_cons_self ..) ha (ho.okx rfl (List.mem_cons_self ..) (x:=i) (List.mem_append_right _ (List.mem_cons_self ..)) (fun e=>(List.nodup_cons.1 ho.nd).1 (by rw[←e];exact List.mem_append_right _ (List.mem_cons_self ..))) (ho.reach ha hfa)) (ho.reach ha hfa) ho.lt g1 (fun j hj=>(mem2 j).1 hj) (fun j hj hne=>(mem2 j).2 ⟨hj,hne⟩)).2
  have h3:=Eu hself hb (pre:=pre) o2 hI2 (fun a ha q=>hf a ha (List.mem_cons_of_mem _ q)) g2
  rw[bX l hb]at h3
  have h3:(stm fr E l b sa).bind (oc fr E l (bY l (pre++post)))=some y:=h3
  obtain⟨sb,g4,g5⟩:=Option.bind_eq_some_iff.1 h3
  have him:i∈(x::pre)++i::post:=List.mem_append_right _ (List.mem_cons_self ..)
  have hxi:x≠i:=fun e=>by
   subst e
   exact(List.nodup_cons.1 ho.nd).1 (List.mem_append_right _ (List.mem_cons_self ..))
  obtain⟨s1,g6,g7⟩:=Nr hI (List.mem_cons_self ..) him ha hb (fun e=>ho.okx e him (List.mem_cons_self ..) hxi (ho.reach hb hf)) (fun e=>ho.okx e (List.mem_cons_self ..) him (Ne.symm hxi) (ho.reach ha hfa)) (ho.reach ha hfa) (ho.reach hb hf) ((eP (pre:=x::pre) ho.pr).2.1 x (List.mem_cons_self ..)) g1 g4 hxi
  rw[bX l hb,List.cons_append,bX l ha]
  show(stm fr E l b s).bind (fun t=>(stm fr E l a t).bind (oc fr E l (bY l (pre++post))))=some y
  rw[g6,Option.bind_some,g7,Option.bind_some]
  exact g5
theorem KX{zs:List (Nat×Nat)}(hself:∀j o,l[j]?=some o→j∉bD o) (hst:fr=false→∀(o:Oper) (s s1:St),o∈l→stm fr E l o s=some s1→stg E l o s=some s1):∀(n:Nat) (rem L:List Nat) (s y:St),uT fr E l zs L→(∀i,i∈L↔i∈rem)→L.length=n→xZ fr l zs L s→oc fr E l (bY l L) s=some y→∀π∈kK l n rem,xN E l (bY l π) s=some y
 |0,rem,L,s,y,_,_,hl,_,h,π,hπ=>by
  obtain rfl:=List.eq_nil_of_length_eq_zero hl
  obtain rfl:=List.mem_singleton.1 hπ
  exact h
 |n+1,rem,L,s,y,ho,hm,hl,hI,h,π,hπ=>by
  obtain⟨i,hi,hπ⟩:=List.mem_flatMap.1 hπ
  cases hf:eD l rem i with
  |false=>rw[hf]at hπ;cases hπ
  |true =>
   rw[hf]at hπ
   obtain⟨π',hπ',rfl⟩:=List.mem_map.1 hπ
   obtain⟨pre,post,rfl⟩:=List.append_of_mem ((hm i).2 hi)
   obtain⟨b,hb⟩:∃b,l[i]?=some b:=⟨_,List.getElem?_eq_getElem (ho.lt i ((hm i).2 hi))⟩
   have hfr:∀a∈bD b,a∉pre++i::post:=fun a ha q=>by
    unfold eD at hf
    rw[hb]at hf
    have:=List.all_eq_true.1 hf a ha
    exact bi this ((hm a).1 q)
   have h2:=Eu hself hb ho hI hfr h
   rw[bX l hb]at h2
   have h2:(stm fr E l b s).bind (oc fr E l (bY l (pre++post)))=some y:=h2
   obtain⟨s1,g1,g2⟩:=Option.bind_eq_some_iff.1 h2
   obtain⟨o2,mem2⟩:=uT.del ho (fun o e=>by rw[hb]at e;obtain rfl:=Option.some.inj e;exact hfr)
   have him:i∈pre++i::post:=List.mem_append_right _ (List.mem_cons_self ..)
   have both:stg E l b s=some s1∧xZ fr l zs (pre++post) s1:=by
    cases fr with
    |false=>exact⟨hst rfl b s s1 (List.mem_of_getElem? hb) g1,fun e=>by cases e⟩
    |true =>
     have hq:=ho.ok rfl i him
     rw[Bool.or_eq_true]at hq
     rcases hq with hq|hq
     ·exact OT hI him hb hq (ho.reach hb hfr) ho.lt g1 (fun j hj=>(mem2 j).1 hj) (fun j hj hne=>(mem2 j).2 ⟨hj,hne⟩)
     ·have hn:∀j,j∉pre++post:=fun j hj=>by
       obtain⟨q1,q2⟩:=(mem2 j).1 hj
       have:=BP hq (ho.lt j q1) q2
       rw[ho.reach hb hfr j q1]at this
       cases this
      have hk:az E b≠1∧az E b≠4:=by
       unfold yH at hq
       rw[hb]at hq
       dsimp only at hq
       rw[Bool.and_eq_true,Bool.and_eq_true]at hq
       refine⟨fun e=>?_,fun e=>?_⟩
       ·rw[e]at hq;cases hq.1.1
       ·rw[e]at hq;cases hq.1.2
      rw[lG ⟨fun e=>absurd e hk.1,hk.2⟩]at g1
      exact⟨g1,fun _=>⟨fun j hj=>absurd hj (hn j),fun z _ hz=>absurd hz (hn z.1)⟩⟩
   have ih:=KX hself hst n (dR i rem) (pre++post) s1 y o2 (fun j=>by rw[mem2,eT,hm]) (by simp at hl ⊢;omega) both.2 g2 π' hπ'
   rw[bX l hb]
   show(stg E l b s).bind (xN E l (bY l π'))=some y
   rw[both.1,Option.bind_some]
   exact ih
end
def yB (p:Nm→Bool):CV→Bool
 | .own m=>p m
 | .pb m _=>p m
 | .pa m _ _ _=>p m
 | .clo _ cs=>cs.any (fun q=>p q.1)
 | .mp m=>p m
 |_=>false
def BH (p:Nm→Bool):AV→Bool
 | .c x=>yB p x
 | .g cs=>cs.any (yB p)
 | .tup l=>l.any (fun q=>q.2.any (yB p))
def BI (p:Nm→Bool):Ob→Bool
 | .box cs=>cs.any (yB p)
 |_=>false
theorem BJ{p:Nm→Bool}{n:Nm}(hp:p n=true){c:CV}(h:eQ c n):yB p c=true:=by
 cases c with
 |own m=>obtain rfl:m=n:=h;exact hp
 |pb m k=>obtain rfl:m=n:=h;exact hp
 |pa m z i j=>obtain rfl:m=n:=h;exact hp
 |mp m=>obtain rfl:m=n:=h;exact hp
 |clo f cs=>obtain⟨q,hq,rfl⟩:=h;exact List.any_eq_true.2 ⟨q,hq,hp⟩
 |_=>exact h.elim
theorem uk{p:Nm→Bool}{n:Nm}(hp:p n=true){cs:List CV}(h:cd cs n):cs.any (yB p)=true:=by
 obtain⟨c,hc,hm⟩:=h
 exact List.any_eq_true.2 ⟨c,hc,BJ hp hm⟩
theorem sU{p:Nm→Bool}{n:Nm}(hp:p n=true){v:AV}(h:aK v n):BH p v=true:=by
 cases v with
 |c x=>exact BJ hp h
 |g cs=>exact uk hp h
 |tup l =>
  obtain⟨q,hq,hm⟩:=h
  exact List.any_eq_true.2 ⟨q,hq,uk hp hm⟩
theorem sV{p:Nm→Bool}{n:Nm}(hp:p n=true){x:Ob}(h:cY x n):BI p x=true:=by
 cases x with
 |box cs=>exact uk hp h
 |_=>exact h.elim
def Ao (d:Nat) (vs:List (Nat×AV)) (bs:List (Nm×Ob)):Bool :=
 vs.all (fun q=>Nat.beq q.1 d || !BH (cf d) q.2)&&bs.all (fun q => !cf d q.1 && !BI (cf d) q.2)
def Dn (d:Nat) (vs:List (Nat×AV)) (bs:List (Nm×Ob)):Bool :=
 (match dH vs d with | .c (.pb n 0)=>Nm.eqb n [d,0]|_=>false)&&(vs.all (fun q=>Nat.beq q.1 d || !BH (Nm.eqb [d,0]) q.2)&&bs.all (fun q => !BI (Nm.eqb [d,0]) q.2))
def Av (d:Nat) (vs:List (Nat×AV)) (bs:List (Nm×Ob)):Bool :=
 (match dH vs d with | .c (.own n)=>Nm.eqb n [d,0]|_=>false)&&(vs.all (fun q=>Nat.beq q.1 d || !BH (Nm.eqb [d,0]) q.2)&&bs.all (fun q => !BI (Nm.eqb [d,0]) q.2))
def zF (l:List Oper) (zs:List (Nat×Nat)) (L:List Nat) (vs:List (Nat×AV)) (bs:List (Nm×Ob)):Bool :=
 L.all (fun i=>match l[i]? with
  |some o=>(match o.dst with|some d=>Ao d vs bs|none=>true)
  |none=>true)&&zs.all (fun z=>L.any (fun i=>match l[i]? with
  |some o=>(match o.dst with|some d=>Nat.beq d z.2|none=>false)
  |none=>false) || bif jX l z.1 then Av z.2 vs bs else Dn z.2 vs bs)
theorem sW:∀{vs:List (Nat×AV)}{t:Nat},dH vs t = .c .dead∨∃q∈vs,q.1=t∧q.2=dH vs t
 |[],t => .inl rfl
 |p::r,t=>by
  show(bif Nat.beq p.1 t then p.2 else dH r t)=_∨∃q∈p::r,q.1=t∧q.2=(bif Nat.beq p.1 t then p.2 else dH r t)
  cases w:Nat.beq p.1 t with
  |true=>exact .inr ⟨p,List.mem_cons_self ..,Nat.eq_of_beq_eq_true w,rfl⟩
  |false =>
   rcases sW (vs:=r) (t:=t)with h|⟨q,hq,h1,h2⟩
   ·exact .inl h
   ·exact .inr ⟨q,List.mem_cons_of_mem _ hq,h1,h2⟩
theorem not_true{b:Bool}(h:(!b)=true):b≠true:=by cases b<;>simp_all
theorem yV{d:Nat}{es:List En}{ds:List DV}(h:Ao d (cC es ds) (fR es ds)=true):eC d (Fu es ds):=by
 unfold Ao at h
 rw[Bool.and_eq_true]at h
 refine⟨fun t ht n hn hm=>?_,fun m x hx=>?_⟩
 ·have hm:aK (dH (cC es ds) t) n:=hm
  rcases sW (vs:=cC es ds) (t:=t)with q|⟨q,hq,h1,h2⟩
  ·rw[q]at hm;exact hm
  ·have:=List.all_eq_true.1 h.1 q hq
   rw[h1,dl ht,Bool.false_or,h2]at this
   exact not_true this (sU hn hm)
 ·have:=List.all_eq_true.1 h.2 (m,x) (iL hx)
  rw[Bool.and_eq_true]at this
  refine⟨?_,fun n hn hm=>not_true this.2 (sV hn hm)⟩
  cases w:cf d m with
  |false=>rfl
  |true=>exact absurd w (not_true this.1)
theorem FR{d:Nat}{es:List En}{ds:List DV}(h:Dn d (cC es ds) (fR es ds)=true):xG d (Fu es ds):=by
 unfold Dn at h
 rw[Bool.and_eq_true,Bool.and_eq_true]at h
 have self:Nm.eqb [d,0] [d,0]=true:=bA.2 rfl
 refine⟨?_,fun t ht hm=>?_,fun m x hx hm=>?_⟩
 ·show dH (cC es ds) d=_
  have h1:=h.1
  split at h1
  ·rename_i n e
   rw[e,bA.1 h1]
  ·cases h1
 ·have hm:aK (dH (cC es ds) t) [d,0]:=hm
  rcases sW (vs:=cC es ds) (t:=t)with q|⟨q,hq,h1,h2⟩
  ·rw[q]at hm;exact hm
  ·have:=List.all_eq_true.1 h.2.1 q hq
   rw[h1,dl ht,Bool.false_or,h2]at this
   exact not_true this (sU self hm)
 ·exact not_true (List.all_eq_true.1 h.2.2 (m,x) (iL hx)) (sV self hm)
theorem Do{d:Nat}{es:List En}{ds:List DV}(h:Av d (cC es ds) (fR es ds)=true):ni d (Fu es ds):=by
 unfold Av at h
 rw[Bool.and_eq_true,Bool.and_eq_true]at h
 have self:Nm.eqb [d,0] [d,0]=true:=bA.2 rfl
 refine⟨?_,fun t ht hm=>?_,fun m x hx hm=>?_⟩
 ·show dH (cC es ds) d=_
  have h1:=h.1
  split at h1
  ·rename_i n e
   rw[e,bA.1 h1]
  ·cases h1
 ·have hm:aK (dH (cC es ds) t) [d,0]:=hm
  rcases sW (vs:=cC es ds) (t:=t)with q|⟨q,hq,h1,h2⟩
  ·rw[q]at hm;exact hm
  ·have:=List.all_eq_true.1 h.2.1 q hq
   rw[h1,dl ht,Bool.false_or,h2]at this
   exact not_true this (sU self hm)
 ·exact not_true (List.all_eq_true.1 h.2.2 (m,x) (iL hx)) (sV self hm)
theorem Gr{l:List Oper}{zs:List (Nat×Nat)}{L:List Nat}{es:List En}{ds:List DV}(h:zF l zs L (cC es ds) (fR es ds)=true){fr:Bool}:xZ fr l zs L (Fu es ds):=fun _=>by
 unfold zF at h
 rw[Bool.and_eq_true]at h
 refine⟨fun i hi o d ho hd=>?_,fun z hz _=>?_⟩
 ·have:=List.all_eq_true.1 h.1 i hi
  rw[ho]at this
  dsimp only at this
  rw[hd]at this
  exact yV this
 ·have:=List.all_eq_true.1 h.2 z hz
  rw[Bool.or_eq_true]at this
  refine this.imp (fun w=>?_) (fun w=>by
   unfold jU
   cases q:jX l z.1 with
   |true=>rw[q]at w;exact Do w
   |false=>rw[q]at w;exact FR w)
  rw[List.any_eq_true]at w
  obtain⟨i,hi,w⟩:=w
  cases ho:l[i]? with
  |none=>rw[ho]at w;cases w
  |some o =>
   rw[ho]at w
   dsimp only at w
   cases hd:o.dst with
   |none=>rw[hd]at w;cases w
   |some d =>
    rw[hd]at w
    exact⟨i,hi,o,ho,by rw[hd,Nat.eq_of_beq_eq_true w]⟩
theorem FL{R:Type}{E:aN}{l:List Oper}(fr:Bool) (zs:List (Nat×Nat)) (L:List Nat) (hb:(L.all (fun i=>Nat.blt i l.length)&&(List.range l.length).all (fun i=>aY i L))=true) (hnd:L.Nodup) (ha:oR l=true)
  (hp:cZ (Bl E l (aX l []) fr) L=true) (ho:cZ (Bq l) L=true) (hok:(!fr || L.all (fun j=>GT E l (aX l []) zs j || yH E l (aX l []) j))=true){es:List En}{x:TD (bg es)}(hs:(!fr || zF l zs L (cC es (au _ x)) (fR es (au _ x)))=true)
  {k:St→Option R}{y:R}(h:ls fr E l (bY l L) (d8 es x) k=some y):∀π∈Aq l,cB E l (bY l π) (d8 es x) k=some y:=by
 rw[Bool.and_eq_true]at hb
 have hm:∀i,i∈L↔i∈List.range l.length:=fun i=>⟨fun hi=>List.mem_range.2 (Nat.le_of_ble_eq_true (List.all_eq_true.1 hb.1 i hi)),fun hi=>cP.1 (List.all_eq_true.1 hb.2 i hi)⟩
 have hlen:L.length=l.length:=by
  have:L.Perm (List.range l.length):=(List.perm_ext_iff_of_nodup hnd List.nodup_range).2 hm
  rw[this.length_eq,List.length_range]
 have hself:∀j o,l[j]?=some o→j∉bD o:=fun j o hj q=>by
  have:=AE ha j o hj j q
  omega
 rw[qu]at h
 obtain⟨s1,h1,h2⟩:=Option.bind_eq_some_iff.1 h
 intro π hπ
 have hI:xZ fr l zs L (d8 es x):=by
  cases fr with
  |false=>intro e;cases e
  |true=>exact Gr hs
 have hst:fr=false→∀(o:Oper) (s s1:St),o∈l→stm fr E l o s=some s1→stg E l o s=some s1:=fun e o s s1 _ hq=>by
  subst e
  by_cases k4:az E o=4
  ·cases hd:o.dst with
   |none =>
    exfalso
    unfold az at k4
    rw[hd]at k4
    dsimp only at k4
    rw[Bool.and_false]at k4
    dsimp only[cond_false]at k4
    cases q:ce o with
    |false=>rw[q]at k4;cases k4
    |true =>
     rw[q]at k4
     dsimp only[cond_true]at k4
     split at k4<;>first|(rename_i w;cases w;done)|(rename_i w _;cases w;done)|cases k4
   |some d =>
    obtain⟨v,ups,q,m,m2,rfl,_⟩:=Ie (.inr k4) hd hq
    exact m.m.step s (fun _ _=>rfl) (fun _ _ _ _=>rfl) (fun w=>by rw[(m2 k4).1]at w;cases w)
  ·rw[lG ⟨fun _=>rfl,k4⟩]at hq
   exact hq
 have:=KX hself hst l.length (List.range l.length) L (d8 es x) s1 ⟨hnd,fun j hj=>List.mem_range.1 ((hm j).1 hj),hp,ho,fun e j hj=>by
  subst e
  exact List.all_eq_true.1 hok j hj,fun j o hj hjo a ha2 q=>by
   have:j<l.length:=(List.getElem?_eq_some_iff.1 hjo).1
   exact hj ((hm j).2 (List.mem_range.2 this))⟩ hm hlen hI h1 π hπ
 rw[qv,this]
 exact h2
def wr:CV→Bool
 | .own _=>false
 | .pb _ _=>false
 | .pa _ _ _ _=>false
 | .clo _ _=>false
 | .mp _=>false
 |_=>true
def CU:AV→Bool
 | .c x=>wr x
 | .g cs=>cs.all wr
 | .tup l=>l.all fun p=>p.2.all wr
def CW:Ob→Bool
 | .box cs=>cs.all wr
 |_=>true
theorem qq{c:CV}(h:wr c=true){n:Nm}:¬eQ c n:=by
 cases c<;>first|(cases h;done)|exact fun q=>q
theorem Fd{v:AV}(h:CU v=true){n:Nm}:¬aK v n:=by
 cases v with
 |c x=>exact qq h
 |g cs=>rintro ⟨c,hc,hm⟩;exact qq (List.all_eq_true.1 h c hc) hm
 |tup l=>rintro ⟨p,hp,c,hc,hm⟩;exact qq (List.all_eq_true.1 (List.all_eq_true.1 h p hp) c hc) hm
theorem Fe{x:Ob}(h:CW x=true){n:Nm}:¬cY x n:=by
 cases x with
 |box cs=>rintro ⟨c,hc,hm⟩;exact qq (List.all_eq_true.1 h c hc) hm
 |_=>exact fun q=>q
def uN{R:Type}(W:List Nm) (S:ac) (vs:List AV) (d:Nat) (o:Nm→Option Ob) (k:AV→List (Nm×Ob)→Option R):Option R :=
 bif Nat.beq (vs.length+S.gh.length) S.pars.length&&oB S.gh then(match iP o (aB 0 S.pars) vs with
  |some (ds,ts)=>bif i8 S.pars.length (aB 0 S.pars)&&(jc ts&&(d9 (ts.flatMap bK.lent)&&d9 (ts.flatMap bK.moved)))then(match rF (bg (aB 0 S.pars)) ds with
   |some x=>match S.g x with
    |some r=>match lW d o ts (S.ens.flatMap En.names) (fR S.ens (au _ r))with
     |some ups=>bif iA S d o ts (cC S.ens (au _ r)) (fR S.ens (au _ r)) ups&&(CU ((px (cC S.ens (au _ r)) S.pars.length S.res.length).ren d ts (S.ens.flatMap En.names))&&ups.all (fun p=>k9 p.1 W&&CW p.2))then
       k ((px (cC S.ens (au _ r)) S.pars.length S.res.length).ren d ts (S.ens.flatMap En.names)) ups else none
     |none=>none
    |none=>none
   |none=>none)else none
  |none=>none)else none
def Gd (E:aN) (o:Oper):Bool:=ce o&&(match o.op,o.dst with
 | .call { callee := .value (.func f), .. },some d=>(match E.Γ f d with
  |some S => !S.pars.all Bx
  |none=>false)
 |_,_=>false)
abbrev WL:=List (Nat×List Nm)
def Np (o:Oper):Nat:=match o.dst with
 |some d=>d
 |none=>(match bS o with|some a=>a+1000000|none=>0)
def Sy (k:Nat):WL→List Nm
 |[]=>[]
 |p::r=>bif Nat.beq p.1 k then p.2 else Sy k r
def I8 (W:WL) (o:Oper):List Nm:=Sy (Np o) W
def sy (W:WL):List Nm:=W.flatMap Prod.snd
theorem DJ{k:Nat}{n:Nm}:∀{W:WL},n∈Sy k W→n∈sy W
 |p::r,h=>by
  unfold Sy at h
  show n∈p.2++sy r
  cases q:Nat.beq p.1 k with
  |true=>simp_all
  |false=>rw[q]at h;exact List.mem_append_right _ (DJ h)
theorem zu{W:WL}{o:Oper}{n:Nm}(h:n∈I8 W o):n∈sy W:=DJ h
def Ls{R:Type}(W:WL) (E:aN) (o:Oper) (s:St) (k:St→Option R):Option R:=match o.dst with
 |none=>none
 |some d=>bif Nat.blt d E.N then(match o.op with
  | .call { callee := .value (.func f),args, .. }=>(match E.Γ f d with
   |some S=>uN (I8 W o) S (args.toList.map s.ev) d s.o (fun v ups=>k ((s.over ups).put (some d) v))
   |none=>none)
  |_=>none)else none
def JL (W:WL) (o:Oper):Bool:=ce o&&((match bS o with|some _=>true|none=>false)&&W.any fun q=>Nat.beq q.1 (Np o))
def Ag (W:WL) (E:aN) (o:Oper):Bool:=Gd E o || JL W o
def Ly{R:Type}(W:WL) (E:aN) (o:Oper) (s:St) (k:St→Option R):Option R:=match bS o with
 |some a=>(match s.t a with
  | .c (.pb n _)=>bif k9 n (I8 W o)then ov E o s k else none
  |_=>none)
 |none=>none
def GS{R:Type}(W:WL) (E:aN) (o:Oper) (s:St) (k:St→Option R):Option R:=match Gd E o with
 |true=>Ls W E o s k
 |false=>(match JL W o with
  |true=>Ly W E o s k
  |false=>zT false E o s k)
def oP{R:Type}(W:WL) (E:aN) (all:List Oper):List Oper→St→(St→Option R)→Option R
 |[],s,k=>k s
 |o::r,s,k=>match o.guard with
  |none=>GS W E o s (fun s'=>oP W E all r s' k)
  |some _=>cB E all [o] s (fun s'=>oP W E all r s' k)
theorem ss{R:Type}{W:List Nm}{S:ac}{vs:List AV}{d:Nat}{ob:Nm→Option Ob}(k:AV→List (Nm×Ob)→Option R):uN W S vs d ob k=(uN W S vs d ob (fun v ups=>some (v,ups))).bind fun p=>k p.1 p.2:=by
 unfold uN
 simp only[md,Option.bind_none]
 split
 ·grind
 ·rfl
theorem I6{R:Type}{W:WL}{E:aN}{o:Oper}{s:St}(k:St→Option R):Ls W E o s k=(Ls W E o s some).bind k:=by
 unfold Ls
 cases o.dst with
 |none=>rfl
 |some d =>
  dsimp only
  rw[md,Option.bind_none]
  congr 1
  split
  ·grind [split,ss]
  ·rfl
section
variable{W:WL}{T:List (Nat×Nm)}{E:aN}{l:List Oper}{o:Oper}{s s1:St}
theorem Cj{W:List Nm}{S:ac}{f:Nat}{xs:List Operand}{d:Nat}{v:AV}{ups:List (Nm×Ob)}(he:uN W S (xs.map s.ev) d s.o (fun v ups=>some (v,ups))=some (v,ups)) :
  (eC d s→lw (R:=St) S f .fn xs d s some=some ((s.over ups).put (some d) v))∧(∀n,¬aK v n)∧∀p∈ups,p.1∈W∧∀n,¬cY p.2 n:=by
 have nilG:∀{g:List (Nat×Nat×Option Nat)},oB g=true→g=[]:=fun{g}=>by cases g<;>simp[oB]
 have nilN:∀{g:List Nm},d9 g=true→g=[]:=fun{g}=>by cases g<;>simp[d9]
 unfold uN at he
 cases hc:(Nat.beq ((xs.map s.ev).length+S.gh.length) S.pars.length&&oB S.gh)with
 |false=>rw[hc]at he;cases he
 |true =>
  rw[hc]at he
  rw[Bool.and_eq_true]at hc
  obtain⟨h1,h2⟩:=hc
  dsimp only[cond_true]at he
  split at he
  ·rename_i ds ts e1
   cases hk:(i8 S.pars.length (aB 0 S.pars)&&(jc ts&&(d9 (ts.flatMap bK.lent)&&d9 (ts.flatMap bK.moved))))with
   |false=>rw[hk]at he;cases he
   |true =>
    rw[hk]at he
    dsimp only[cond_true]at he
    rw[Bool.and_eq_true,Bool.and_eq_true,Bool.and_eq_true]at hk
    obtain⟨k1,k2,k3,k4⟩:=hk
    split at he
    ·rename_i x e2
     split at he
     ·rename_i r e3
      split at he
      ·rename_i u e4
       cases ho:(iA S d s.o ts (cC S.ens (au _ r)) (fR S.ens (au _ r)) u&&(CU ((px (cC S.ens (au _ r)) S.pars.length S.res.length).ren d ts (S.ens.flatMap En.names))&&u.all (fun p=>k9 p.1 W&&CW p.2)))with
       |false=>rw[ho]at he;cases he
       |true =>
        rw[ho]at he
        obtain⟨g1,g2⟩:=Prod.mk.inj (Option.some.inj he)
        subst g2
        subst g1
        rw[Bool.and_eq_true,Bool.and_eq_true]at ho
        obtain⟨o1,o2,o3⟩:=ho
        refine⟨fun hf=>?_,fun n=>Fd o2,fun p hp=>?_⟩
        ·have gh:m6 s.o (xs.map s.ev) S.gh=xs.map s.ev:=by rw[nilG h2];rfl
         have fz:(bif S.shares then s.frzs (ts.flatMap bK.lent)else s)=s:=by
          cases q:S.shares with
          |false=>rfl
          |true=>rw[nilN k3];rfl
         have k3':(bif S.shares then d9 (ts.flatMap bK.lent)else true)=true:=by simp_all
         have hm:=nilN k4
         obtain⟨d1,d2⟩:=hf.drops ((S.ens.flatMap En.names).map (fun m=>d::m)) (fun n hn=>by
          obtain⟨m,_,rfl⟩:=List.mem_map.1 hn
          exact Nat.beq_refl d)
         unfold lw
         rw[show s.argsOf f .fn xs=some (xs.map s.ev)from rfl]
         dsimp only
         rw[gh,e1]
         dsimp only
         rw[fz]
         unfold mc
         rw[show s.argsOf f .fn xs=some (xs.map s.ev)from rfl]
         dsimp only
         rw[h1]
         simp only[cond_true,gh,e1,k1,k2,k3',Bool.true_and,e2,e3,hm,List.nil_append,d2,e4,o1]
         refine congrArg some (St.ext' (fun i=>?_) fun n=>?_)
         ·rw[cw,cw]
          by_cases q:i=d
          ·rw[if_pos q,if_pos q]
          ·rw[if_neg q,if_neg q]
           exact d1 i q
         ·show(match be u n with|some ob=>some ob|none=>_)=(match be u n with|some ob=>some ob|none=>_)
          rw[d2]
        ·have:=List.all_eq_true.1 o3 p hp
         rw[Bool.and_eq_true]at this
         exact⟨fu.1 this.1,fun n=>Fe this.2⟩
      ·cases he
     ·cases he
    ·cases he
  ·cases he
def gN (W:WL) (E:aN) (l:List Oper) (o:Oper) (s:St):Option St:=oP W E l [o] s some
def pu (W:WL) (E:aN) (l:List Oper):List Oper→St→Option St
 |[],s=>some s
 |o::r,s=>(gN W E l o s).bind (pu W E l r)
theorem yN (h:Gd E o=true):o.guard=none:=by
 grind [Gd,ce]
theorem yM (h:JL W o=true):o.guard=none:=by
 grind [JL,ce]
theorem L4 (h:Ag W E o=false):Gd E o=false∧JL W o=false:=by
 simp_all [Ag]
theorem Gp (h:Gd E o=true):gN W E l o s=Ls W E o s some:=by
 unfold gN
 simp only[oP]
 rw[yN h]
 dsimp only
 unfold GS
 rw[h]
theorem Gn (h:Gd E o=false) (h2:JL W o=true):gN W E l o s=Ly W E o s some:=by
 unfold gN
 simp only[oP]
 rw[yM h2]
 dsimp only
 unfold GS
 rw[h,h2]
theorem v6 (h:Ag W E o=false):gN W E l o s=stm false E l o s:=by
 obtain⟨h1,h2⟩:=L4 h
 unfold gN stm
 simp only[oP,ls]
 cases q:o.guard with
 |none =>
  simp_all [GS]
 |some _=>rfl
theorem Jf{R:Type}(k:St→Option R):Ly W E o s k=(Ly W E o s some).bind k:=by
 unfold Ly
 split
 ·split
  ·rw[md,Option.bind_none]
   congr 1
   exact sP _
  ·rfl
 ·rfl
theorem ym{R:Type}:∀{r:List Oper}{s:St}(k:St→Option R),oP W E l r s k=(pu W E l r s).bind k
 |[],s,k=>rfl
 |o::r,s,k=>by
  show _=((gN W E l o s).bind (pu W E l r)).bind k
  have e:oP W E l (o::r) s k=(gN W E l o s).bind (fun s'=>oP W E l r s' k):=by
   unfold gN
   simp only[oP]
   cases q:o.guard with
   |none =>
    grind [GS,Gd,I6,JL,Jf,wB]
   |some _=>dsimp only;exact pD _
  rw[e,Option.bind_assoc]
  exact congrArg _ (funext fun s'=>ym k)
theorem t8 (s:St) (d:Option Nat) (i:Nat) (v:AV):(s.put d v).t i=if d=some i then v else s.t i:=by
 cases d with
 |none=>rfl
 |some d =>
  grind [cw]
theorem zO (s:St){d t:Nat}(v:AV) (h:t≠d):(s.put (some d) v).t t=s.t t:=by rw[cw,if_neg h]
theorem wo (s:St) (d:Option Nat) (v:AV):(s.put d v).o=s.o:=by cases d<;>rfl
def zv (o:Oper):List Nat:=match o.op with
 | .store _ _ x=>Kr x
 |_=>[]
structure Wr (W:WL) (E:aN) (l:List Oper) (o:Oper) (s:St) (d:Option Nat) (v:AV) (ups:List (Nm×Ob)):Prop where
 dst:o.dst=d
 plain:∀n,¬aK v n
 inW:∀p∈ups,p.1∈I8 W o
 src:∀p∈ups, ∀n,cY p.2 n→(∃t∈zv o,t∈iw l o∧aK (s.t t) n)∨∃m y,s.o m=some y∧cY y n
 stm:∀s':St,(∀t∈iw l o,s'.t t=s.t t)→s'.o=s.o→gN W E l o s'=some ((s'.over ups).put d v)
 stg:∀s':St,(∀t∈iw l o,s'.t t=s.t t)→s'.o=s.o→(∀e,d=some e→eC e s')→stg E l o s'=some ((s'.over ups).put d v)
theorem Lt (hk:Gd E o=true) (h:gN W E l o s=some s1):∃d v ups,Wr W E l o s d v ups∧s1=(s.over ups).put d v:=by
 have hg:=yN hk
 rw[Gp hk]at h
 unfold Ls at h
 cases hd:o.dst with
 |none=>simp_all
 |some d =>
  rw[hd]at h
  dsimp only at h
  cases hN:Nat.blt d E.N with
  |false=>simp_all
  |true =>
   rw[hN]at h
   dsimp only[cond_true]at h
   split at h
   ·rename_i f args ts hop
    split at h
    ·rename_i S hS
     rw[ss]at h
     obtain⟨⟨v,ups⟩,h1,h2⟩:=Option.bind_eq_some_iff.1 h
     have ops:∀x∈args.toList,x∈o.op.operands:=fun x hx=>by
      simp_all [Op.operands,Call.operands]
     have evs:∀s':St,(∀t∈iw l o,s'.t t=s.t t)→args.toList.map s'.ev=args.toList.map s.ev:=fun s' h1=>List.map_congr_left fun x hx=>(oI h1 x (ops x hx)).symm
     obtain⟨_,c2,c3⟩:=Cj (f:=f) h1
     refine⟨some d,v,ups,⟨hd,c2,fun p hp=>(c3 p hp).1,fun p hp n hn=>absurd hn ((c3 p hp).2 n),fun s' g1 g2=>?_,fun s' g1 g2 g3=>?_⟩,(Option.some.inj h2).symm⟩
     ·grind [Gp,Ls,ss]
     ·grind [kC,ov,Cj]
    ·cases h
   ·cases h
theorem JS{x:Operand}{n:Nm}(hm:aK (s.ev x) n):∃t,x = .tmp t∧aK (s.t t) n:=by
 cases x with
 |tmp t=>exact⟨t,rfl,hm⟩
 |const v=>exact absurd hm (ow v n)
 |global g=>trivial
 |func f=>trivial
theorem WN{a off:Nat}{n:Nm}(l:List Oper) (hs:bS o=some a) (hi:s.t a = .c (.pb n off)) (h:ov E o s some=some s1) :
  ∃ob0 ob,s.o n=some ob0∧s1=s.over [(n,ob)]∧(∀s':St,(∀t∈iw l o,s'.t t=s.t t)→s'.o=s.o→ov E o s' some=some (s'.over [(n,ob)]))∧∀m,cY ob m→cY ob0 m∨∃t∈zv o,t∈iw l o∧aK (s.t t) m:=by
 obtain⟨T,x,hd,hop⟩:∃T x,o.dst=none∧o.op = .store T (.tmp a) x:=by
  grind [bS,split]
 have ovr:∀(s2:St) (ob:Ob),s2.setO n ob=s2.over [(n,ob)]:=fun s2 ob=>by
  refine St.ext' (fun _=>rfl) fun m=>?_
  show(bif Nm.eqb m n then some ob else s2.o m)=(match(bif Nm.eqb n m then some ob else none)with|some ob=>some ob|none=>s2.o m)
  by_cases q:m=n
  ·grind
  ·grind [Nm.eqb,bA]
 have form:∀s2:St,s2.t a = .c (.pb n off)→ov E o s2 some=(match E.τ.get T,fh (s2.ev x)with
   |some ti,some new=>bif (Nat.beq new.length ti.size&&new.all CV.fine)then(match s2.o n with
    |some (.box cs)=>bif Nat.ble (off+new.length) cs.length then some (s2.setO n (.box (xL cs off new)))else none
    |_=>none)else none
   |_,_=>none):=by
  intro s2 h2
  unfold ov
  rw[hop,hd]
  show(match fG E.τ (.store T (.tmp a) x) s2.ev s2.o with
   |some (c,v)=>bif dm E.N none then(match c with|true=>some (s2.put none v)|false=>none)else none
   |none=>match mw E.τ (.store T (.tmp a) x) none s2 with
    |some (c,s')=>(match c with|true=>some s'|false=>none)
    |none=>none)=_
  have hv:fG E.τ (.store T (.tmp a) x) s2.ev s2.o=none:=rfl
  rw[hv]
  dsimp only
  have hw:mw E.τ (.store T (.tmp a) x) none s2=(match E.τ.get T,s2.ev (.tmp a),fh (s2.ev x)with
   |some ti, .c p,some new=>bif (Nat.beq new.length ti.size&&new.all CV.fine)then(match n8 s2.o new p with
    |some (nm,ob)=>some (true,(s2.setO nm ob).put none (.c .dead))
    |none=>none)else none
   |_,_,_=>none):=rfl
  rw[hw,show s2.ev (.tmp a) = .c (.pb n off)from h2]
  cases E.τ.get T with
  |none=>rfl
  |some ti =>
   cases fh (s2.ev x)with
   |none=>rfl
   |some new =>
    dsimp only
    cases(Nat.beq new.length ti.size&&new.all CV.fine)with
    |false=>rfl
    |true =>
     dsimp only[cond_true]
     unfold n8
     dsimp only
     cases s2.o n with
     |none=>rfl
     |some ob =>
      cases ob with
      |box cs =>
       dsimp only
       cases Nat.ble (off+new.length) cs.length<;>rfl
      |_=>rfl
 have hx:x∈o.op.operands:=by rw[hop];simp[Op.operands]
 have hdr:a∈iw l o:=List.mem_append_left _ (List.mem_flatMap.2 ⟨.tmp a,by rw[hop];simp[Op.operands],List.mem_singleton.2 rfl⟩)
 rw[form s hi]at h
 cases hT:E.τ.get T with
 |none=>rw[hT]at h;cases h
 |some ti =>
  cases hc:fh (s.ev x)with
  |none=>rw[hT,hc]at h;cases h
  |some new =>
   rw[hT,hc]at h
   dsimp only at h
   cases hf:(Nat.beq new.length ti.size&&new.all CV.fine)with
   |false=>rw[hf]at h;cases h
   |true =>
    rw[hf]at h
    dsimp only[cond_true]at h
    cases ho:s.o n with
    |none=>rw[ho]at h;cases h
    |some ob =>
     rw[ho]at h
     cases ob with
     |box cs =>
      dsimp only at h
      cases hl:Nat.ble (off+new.length) cs.length with
      |false=>rw[hl]at h;cases h
      |true =>
       rw[hl]at h
       refine⟨_, .box (xL cs off new),rfl,(Option.some.inj h).symm.trans (ovr _ _),fun s' h1 h2=>?_,fun m hm=>?_⟩
       ·rw[form s' ((h1 a hdr).trans hi),hT, ←oI h1 x hx,hc,h2,ho]
        dsimp only
        rw[hf]
        dsimp only[cond_true]
        rw[hl]
        exact congrArg some (ovr _ _)
       ·rcases AW hm with hm|hm
        ·exact .inl hm
        ·right
         obtain⟨t,rfl,hm⟩:=JS (lP hc hm)
         exact⟨t,by unfold zv;rw[hop];exact List.mem_singleton.2 rfl,List.mem_append_left _ (List.mem_flatMap.2 ⟨.tmp t,Array.mem_toList_iff.2 hx,List.mem_singleton.2 rfl⟩),hm⟩
     |_=>cases h
theorem Lr (hc:Gd E o=false) (hk:JL W o=true) (h:gN W E l o s=some s1):∃d v ups,Wr W E l o s d v ups∧s1=(s.over ups).put d v:=by
 have hg:=yM hk
 rw[Gn hc hk]at h
 unfold Ly at h
 cases hs:bS o with
 |none=>simp_all
 |some a =>
  have hd:o.dst=none:=by
   grind [bS,split]
  have hra:a∈iw l o:=by
   unfold bS at hs
   split at hs
   ·rename_i T x y _ hop
    obtain rfl:=Option.some.inj hs
    exact List.mem_append_left _ (List.mem_flatMap.2 ⟨.tmp x,by rw[hop];simp[Op.operands],List.mem_singleton.2 rfl⟩)
   ·cases hs
  rw[hs]at h
  dsimp only at h
  split at h
  ·rename_i n off hi
   cases hW:k9 n (I8 W o)with
   |false=>simp_all
   |true =>
    rw[hW]at h
    obtain⟨ob0,ob,h1,h2,h3,h4⟩:=WN l hs hi h
    refine⟨none, .c .dead,[(n,ob)],⟨hd,fun m q=>q,fun p hp=>?_,fun p hp m hm=>?_,fun s' g1 g2=>?_,fun s' g1 g2 _=>?_⟩,h2⟩
    ·simp_all [fu]
    ·grind
    ·grind [Gn,Ly,Gd,JL,gN,St.over,St.put]
    ·rw[kC hg]
     exact h3 s' g1 g2
  ·cases h
theorem Ge (hk:Ag W E o=true) (h:gN W E l o s=some s1):∃d v ups,Wr W E l o s d v ups∧s1=(s.over ups).put d v:=by
 grind [Gd,Lt,Ag,Lr]
def pk (W:WL) (E:aN) (o:Oper):Bool := !Ag W E o&&(Nat.beq (az E o) 0 || Nat.beq (az E o) 4)
def KP (o:Oper):Bool:=ce o&&(match o.op with
 | .move _=>true
 | .assign _=>true
 |_=>false)
theorem GM (h:pk W E o=true):Ag W E o=false:=by
 simp_all [pk,Ag]
theorem DW (h:pk W E o=true):az E o=0∨az E o=4:=by
 simp_all [pk]
structure Pu (W:WL) (E:aN) (l:List Oper) (o:Oper) (s:St) (d:Nat) (v:AV):Prop where
 m:F6 false E l o false s d v []
 stm:∀s':St,(∀t∈iw l o,s'.t t=s.t t)→(KP o=false→∀t∈iw l o, ∀n,aK (s.t t) n→s'.o n=s.o n)→gN W E l o s'=some (s'.put (some d) v)
theorem Bg{d:Nat}(hk:pk W E o=true) (hd:o.dst=some d) (h:gN W E l o s=some s1):∃v,Pu W E l o s d v∧s1=s.put (some d) v:=by
 have hno:=GM hk
 have h0:=h
 rw[v6 hno]at h
 have hk2:=DW hk
 have hm:ny false (az E o)=true:=by rcases hk2 with q|q<;>rw[q]<;>rfl
 obtain⟨v,ups,q,m,m2,m3,_⟩:=gQ hd hm h
 obtain⟨rfl,rfl⟩:=m2 (by rcases hk2 with q|q<;>rw[q]<;>decide)
 refine⟨v,⟨m,fun s' h1 h2=>?_⟩,m3⟩
 cases hb:KP o with
 |false =>
  rw[v6 hno]
  exact m.stm s' h1 (h2 hb) (fun q=>by cases q)
 |true =>
  have hg:o.guard=none:=by
   grind [KP,ce]
  obtain⟨x,hx⟩:∃x,o.op = .move x∨o.op = .assign x:=by
   grind [KP,split]
  have hxo:x∈o.op.operands:=by rcases hx with e|e<;>rw[e]<;>simp[Op.operands]
  have hk4:az E o≠4∧az E o≠1:=by
   grind [az,ce,iv]
  have form:∀s2:St,gN W E l o s2=bif dm E.N (some d)then some (s2.put (some d) (s2.ev x))else none:=fun s2=>by
   rw[v6 hno,lG ⟨fun q=>absurd q hk4.2,hk4.1⟩,kC hg]
   unfold ov
   rcases hx with e|e<;>rw[e,hd]<;>rfl
  rw[form s]at h0
  rw[form s']
  cases hN:dm E.N (some d)with
  |false=>simp_all
  |true =>
   rw[hN]at h0
   have e1:s.put (some d) (s.ev x)=s.put (some d) v:=(Option.some.inj h0).trans m3
   have e2:s.ev x=v:=by
    have:(s.put (some d) (s.ev x)).t d=(s.put (some d) v).t d:=by rw[e1]
    rw[cw,cw,if_pos rfl,if_pos rfl]at this
    exact this
   rw[←oI h1 x hxo,e2]
   rfl
def SA (o:Oper):Bool:=ce o&&(match o.op with
 | .load _ _=>true
 |_=>false)
theorem JI{d:Nat}{v:AV}(hk:pk W E o=true) (hl:SA o=true) (hd:o.dst=some d) (h:gN W E l o s=some (s.put (some d) v)){n:Nm}(hm:aK v n):∃m y,s.o m=some y∧cY y n:=by
 have hg:o.guard=none:=by
  grind [SA,ce]
 obtain⟨t,a,hop⟩:∃t a,o.op = .load t a:=by
  grind [SA,split]
 have hv:iv E.τ o=true:=by unfold iv;rw[hop]
 have hk0:az E o=0:=by
  grind [az]
 rw[v6 (GM hk),lG ⟨fun q=>absurd (hk0.symm.trans q) (by decide),by rw[hk0];decide⟩,kC hg,Gg hv hd,hop]at h
 have hx:sD E.τ (.load t a) s.ev s.o=fG E.τ (.load t a) s.ev s.o:=by
  unfold sD
  split
  ·simp_all
  ·rename_i e;rw[e];rfl
 rw[hx]at h
 unfold fG at h
 dsimp only at h
 split at h
 ·rename_i c v2 e
  split at e
  ·split at e
   ·rename_i ti p _ hp v3 hl3
    obtain⟨rfl,rfl⟩:=Prod.mk.inj (Option.some.inj e)
    cases hN:Nat.blt d E.N with
    |false=>simp_all
    |true =>
     rw[hN]at h
     have e1:s.put (some d) v3=s.put (some d) v:=Option.some.inj h
     have e2:v3=v:=by
      have:(s.put (some d) v3).t d=(s.put (some d) v).t d:=by rw[e1]
      rw[cw,cw,if_pos rfl,if_pos rfl]at this
      exact this
     rw[←e2]at hm
     obtain⟨m,x,_,h1,h2⟩:=pG hl3 hm
     exact⟨m,x,h1,h2⟩
   ·cases e
  ·cases e
 ·cases h
def xR (t:Nat) (n:Nm) (T:List (Nat×Nm)):Bool:=T.any fun q=>Nat.beq q.1 t&&Nm.eqb q.2 n
theorem wJ{t:Nat}{n:Nm}{T:List (Nat×Nm)}:xR t n T=true↔(t,n)∈T:=by
 simp_all [xR,bA]
theorem zZ{t:Nat}{n:Nm}{T:List (Nat×Nm)}(h:(!xR t n T)=true):(t,n)∉T:=fun q=>by grind [wJ]
def clear (ns:List Nm) (T:List (Nat×Nm)) (l:List Oper) (o:Oper):Bool:=KP o || (iw l o).all fun t=>ns.all fun n => !xR t n T
def LX (d:Option Nat) (l:List Nat):Bool:=match d with
 |some d => !aY d l
 |none=>true
def SD:Option Nat→Option Nat→Bool
 |some d,some e => !Nat.beq d e
 |_,_=>true
def Bm (E:aN) (l:List Oper) (W:WL) (T:List (Nat×Nm)) (rs:List (List Nat)) (i j:Nat):Bool:=match l[i]?,l[j]? with
 |some a,some b=>aY i (rs.getD j []) || (LX a.dst (iw l b)&&(SD a.dst b.dst&&(LX b.dst (iw l a)&&((pk W E a&&pk W E b) || ((pk W E a&&(Ag W E b&&clear (I8 W b) T l a)) || (Ag W E a&&(pk W E b&&clear (I8 W a) T l b)))))))
 |_,_=>false
def Ng (E:aN) (l:List Oper) (W:WL) (T:List (Nat×Nm)) (rs:List (List Nat)) (i:Nat):Bool:=match l[i]? with
 |none=>false
 |some o=>(Ag W E o || pk W E o)&&((List.range l.length).all (fun j=>Nat.beq j i || (match l[j]? with
    |some p => !Ag W E p || (match p.dst with
     |some e=>(aY j (rs.getD i []) || !aY e (iw l o))&&(SD o.dst (some e)&&(sy W).all (fun n => !cf e n))
     |none=>true)
    |none=>true))&&(match o.dst with
   |some d=>(Ag W E o || (SA o || (iw l o).all (fun t=>(sy W).all fun n => !xR t n T || xR d n T)))&&(sy W).all (fun n => !cf d n)
   |none=>Ag W E o)&&(zv o).all (fun t=>(sy W).all fun n => !xR t n T))
def yJ (W:WL) (E:aN) (l:List Oper) (rs:List (List Nat)) (j:Nat):Bool:=(match l[j]? with
 |some o => !Ag W E o && !Nat.beq (az E o) 4
 |none=>false)&&(List.range l.length).all (fun x=>Nat.beq x j || aY x (rs.getD j []))
structure Cs (E:aN) (W:WL) (T:List (Nat×Nm)) (l:List Oper) (L:List Nat) (s:St):Prop where
 fr:∀j∈L, ∀o d,l[j]?=some o→Ag W E o=true→o.dst=some d→eC d s
 sl:L≠[]→∀t, ∀n∈sy W,(t,n)∉T→¬aK (s.t t) n
 ob:L≠[]→∀m x,s.o m=some x→∀n∈sy W,¬cY x n
theorem Jd{a b:Oper}{da db:Nat}{va vb:AV}(ha:Pu W E l a s da va) (hb:Pu W E l b (s.put (some da) va) db vb) (hne:da≠db) (h1:da∉iw l b) (h2:db∉iw l a) :
  gN W E l b s=some (s.put (some db) vb)∧gN W E l a (s.put (some db) vb)=some ((s.put (some da) va).put (some db) vb):=by
 refine⟨hb.stm s (fun t ht=>(zO s va (t:=t) (fun q:t=da=>h1 (q▸ht))).symm) (fun _ _ _ _ _=>rfl),?_⟩
 rw[ha.stm (s.put (some db) vb) (fun t ht=>zO s vb (fun q=>h2 (q▸ht))) (fun _ _ _ _ _=>rfl)]
 refine congrArg some (St.ext' (fun i=>?_) fun n=>rfl)
 rw[cw,cw,cw,cw]
 by_cases q:i=da
 ·rw[if_pos q,if_neg (fun q2=>hne (q.symm.trans q2)),if_pos q]
 ·rw[if_neg q,if_neg q]
theorem Bp (s:St) (ups:List (Nm×Ob)) (da:Nat) (va:AV) (db:Option Nat) (vb:AV) (h:db≠some da):(((s.put (some da) va).over ups).put db vb)=(((s.over ups).put db vb).put (some da) va):=by
 refine St.ext' (fun i=>?_) fun n=>?_
 ·rw[t8,cw,t8]
  show(if db=some i then vb else(s.put (some da) va).t i)=_
  rw[cw]
  by_cases q:i=da
  ·simp_all
  ·rw[if_neg q,if_neg q];rfl
 ·grind [wo,St.put,St.over]
theorem Jc{a b:Oper}{da:Nat}{db:Option Nat}{va vb:AV}{ub:List (Nm×Ob)}(ha:Pu W E l a s da va) (hb:Wr W E l b (s.put (some da) va) db vb ub) (hne:db≠some da) (h1:da∉iw l b) (h2:∀e,db=some e→e∉iw l a) (hc:KP a=false→∀t∈iw l a, ∀n∈I8 W b,¬aK (s.t t) n) :
  gN W E l b s=some ((s.over ub).put db vb)∧gN W E l a ((s.over ub).put db vb)=some (((s.put (some da) va).over ub).put db vb):=by
 refine⟨hb.stm s (fun t ht=>(zO s va (t:=t) (fun q:t=da=>h1 (q▸ht))).symm) rfl,?_⟩
 rw[ha.stm ((s.over ub).put db vb) (fun t ht=>by rw[t8,if_neg (fun e=>h2 t e ht)];rfl) (fun hm t ht n hn=>by
  rw[wo]
  exact(i9 (s:=s) (d:=0) (v := .c .dead) (n:=n) (fun p hp e=>hc hm t ht n (e▸hb.inW p hp) hn)).2),Bp s ub da va db vb hne]
theorem Jb{a b:Oper}{da:Option Nat}{db:Nat}{va vb:AV}{ua:List (Nm×Ob)}(ha:Wr W E l a s da va ua) (hb:Pu W E l b ((s.over ua).put da va) db vb) (hne:da≠some db) (h1:∀e,da=some e→e∉iw l b) (h2:db∉iw l a) (hc:KP b=false→∀t∈iw l b, ∀n∈I8 W a,¬aK (s.t t) n) :
  gN W E l b s=some (s.put (some db) vb)∧gN W E l a (s.put (some db) vb)=some (((s.over ua).put da va).put (some db) vb):=by
 have st:∀t∈iw l b,((s.over ua).put da va).t t=s.t t:=fun t ht=>by rw[t8,if_neg (fun e=>h1 t e ht)];rfl
 refine⟨hb.stm s (fun t ht=>(st t ht).symm) (fun hm t ht n hn=>?_),?_⟩
 ·rw[st t ht]at hn
  rw[wo]
  exact(i9 (s:=s) (d:=0) (v := .c .dead) (n:=n) (fun p hp e=>hc hm t ht n (e▸ha.inW p hp) hn)).2.symm
 rw[ha.stm (s.put (some db) vb) (fun t ht=>zO s vb (fun q=>h2 (q▸ht))) rfl,Bp s ua db vb da va hne]
theorem Ch{ns:List Nm}(h:clear ns T l o=true) (hm:KP o=false){t:Nat}(ht:t∈iw l o){n:Nm}(hn:n∈ns):(t,n)∉T:=by
 simp_all [clear,zZ]
theorem D5{d:Option Nat}{l:List Nat}(h:LX d l=true):∀e,d=some e→e∉l:=fun e he=>by
 subst he
 exact bi h
theorem Au{a b:Option Nat}(h:SD a b=true){e:Nat}(ha:a=some e):b≠some e:=fun hb=>by
 simp_all [SD]
theorem Nq{L:List Nat}{sa sb:St}{i j:Nat}{a b:Oper}(hI:Cs E W T l L s) (hi:i∈L) (ha:l[i]?=some a) (hb:l[j]?=some b) (hda:pk W E a=true→∃d,a.dst=some d) (hdb:pk W E b=true→∃d,b.dst=some d) (hfree:∀x∈L,aY x ((aX l []).getD j [])=false) (hp:Bm E l W T (aX l []) i j=true) (g1:gN W E l a s=some sa) (g2:gN W E l b sa=some sb) :
  ∃s1,gN W E l b s=some s1∧gN W E l a s1=some sb:=by
 unfold Bm at hp
 rw[ha,hb]at hp
 dsimp only at hp
 rw[hfree i hi,Bool.false_or,Bool.and_eq_true,Bool.and_eq_true,Bool.and_eq_true,Bool.or_eq_true,Bool.or_eq_true]at hp
 obtain⟨n1,n2,n3,hp⟩:=hp
 have n1:=D5 n1
 have n3:=D5 n3
 rcases hp with hp|hp|hp
 ·rw[Bool.and_eq_true]at hp
  obtain⟨da,hda⟩:=hda hp.1
  obtain⟨db,hdb⟩:=hdb hp.2
  obtain⟨va,ma,rfl⟩:=Bg hp.1 hda g1
  obtain⟨vb,mb,rfl⟩:=Bg hp.2 hdb g2
  exact⟨_,Jd ma mb (fun q=>Au n2 hda (q▸hdb)) (n1 da hda) (n3 db hdb)⟩
 ·rw[Bool.and_eq_true,Bool.and_eq_true]at hp
  obtain⟨da,hda⟩:=hda hp.1
  obtain⟨va,ma,rfl⟩:=Bg hp.1 hda g1
  obtain⟨db,vb,ub,mb,rfl⟩:=Ge hp.2.1 g2
  exact⟨_,Jc ma mb (fun q=>Au n2 hda (mb.dst.trans q)) (n1 da hda) (fun e he=>n3 e (mb.dst.trans he)) fun hm t ht n hn=>hI.sl (List.ne_nil_of_mem hi) t n (zu hn) (Ch hp.2.2 hm ht hn)⟩
 ·rw[Bool.and_eq_true,Bool.and_eq_true]at hp
  obtain⟨da,va,ua,ma,rfl⟩:=Ge hp.1 g1
  obtain⟨db,hdb⟩:=hdb hp.2.1
  obtain⟨vb,mb,rfl⟩:=Bg hp.2.1 hdb g2
  exact⟨_,Jb ma mb (fun q=>Au n2 (ma.dst.trans q) hdb) (fun e he=>n1 e (ma.dst.trans he)) (n3 db hdb) fun hm t ht n hn=>hI.sl (List.ne_nil_of_mem hi) t n (zu hn) (Ch hp.2.2 hm ht hn)⟩
theorem CX (h:pk W E o=true):∃d,o.dst=some d:=by
 grind [DW,az,ce,split,first,pk]
theorem OS{L L':List Nat}{i:Nat}(hI:Cs E W T l L s) (hi:i∈L) (ho:l[i]?=some o) (hok:Ng E l W T (aX l []) i=true) (hfree:∀a∈L,aY a ((aX l []).getD i [])=false) (hlt:∀j∈L,j<l.length) (hL:∀j∈L',j∈L∧j≠i) (hs:gN W E l o s=some s1):stg E l o s=some s1∧Cs E W T l L' s1:=by
 have hsl:=hI.sl (List.ne_nil_of_mem hi)
 have hob:=hI.ob (List.ne_nil_of_mem hi)
 unfold Ng at hok
 rw[ho]at hok
 dsimp only at hok
 have hok1:=(Bool.and_eq_true _ _).mp hok
 have hk:=(Bool.or_eq_true _ _).mp hok1.1
 have hok2:=(Bool.and_eq_true _ _).mp hok1.2
 have hvs:=hok2.2
 have hok3:=(Bool.and_eq_true _ _).mp hok2.1
 have hj:=hok3.1
 have ht:=hok3.2
 have other:∀j∈L', ∀p e,l[j]?=some p→Ag W E p=true→p.dst=some e→o.dst≠some e∧e∉iw l o∧∀n∈sy W,cf e n=false:=by
  grind [dl,Au,bi,cf]
 rcases hk with hw|hp
 ·obtain⟨d,v,ups,m,rfl⟩:=Ge hw hs
  refine⟨m.stg s (fun _ _=>rfl) rfl (fun e he=>hI.fr i hi o e ho hw (m.dst.trans he)),fun j hj' p e hp hwp he=>?_,fun _ t n hn htT hm=>?_,fun _ k x hx n hn hm=>?_⟩
  ·obtain⟨hne,hr,hWe⟩:=other j hj' p e hp hwp he
   have hf:=hI.fr j (hL j hj').1 p e hp hwp he
   refine⟨fun t ht n hn h=>?_,fun k x hx=>?_⟩
   ·rw[t8]at h
    by_cases q:d=some t
    ·rw[if_pos q]at h;exact m.plain n h
    ·rw[if_neg q]at h;exact hf.1 t ht n hn h
   ·rw[wo]at hx
    rcases rG s ups 0 (.c .dead) (n:=k) (x:=x) hx with h|⟨_,h⟩
    ·refine⟨hWe _ (zu (m.inW _ h)),fun n hn h2=>?_⟩
     rcases m.src _ h n h2 with⟨t,_,ht,h3⟩|⟨k2,y,h3,h4⟩
     ·exact hf.1 t (fun q=>hr (q▸ht)) n hn h3
     ·exact(hf.2 k2 y h3).2 n hn h4
    ·exact hf.2 k x h
  ·rw[t8]at hm
   by_cases q:d=some t
   ·rw[if_pos q]at hm;exact m.plain n hm
   ·rw[if_neg q]at hm;exact hsl t n hn htT hm
  ·rw[wo]at hx
   rcases rG s ups 0 (.c .dead) (n:=k) (x:=x) hx with h|⟨_,h⟩
   ·rcases m.src _ h n hm with⟨t,ht,_,h3⟩|⟨k2,y,h3,h4⟩
    ·grind [zZ]
    ·grind
   ·grind
 ·obtain⟨d,hd⟩:=CX hp
  obtain⟨v,m,rfl⟩:=Bg hp hd hs
  rw[hd]at ht
  dsimp only at ht
  rw[Bool.and_eq_true,GM hp,Bool.false_or,Bool.or_eq_true]at ht
  have hWd:∀n∈sy W,cf d n=false:=fun n hn=>by
   simp_all
  refine⟨m.m.m.step s (fun _ _=>rfl) (fun _ _ _ _=>rfl) (fun q=>by cases q),fun j hj' p e hpj hwp he=>?_,fun _ t n hn htT hm=>?_,fun _ k x hx n hn hm=>?_⟩
  ·obtain⟨hne,hr,_⟩:=other j hj' p e hpj hwp he
   exact tj m.m (fun q=>hne (q▸hd)) hr (hI.fr j (hL j hj').1 p e hpj hwp he)
  ·rw[cw]at hm
   by_cases q:t=d
   ·rw[if_pos q]at hm
    subst q
    rcases ht.1 with hc|hc
    ·grind [JI]
    ·rcases m.m.m.ment n (.inl hm)with h|⟨u,hu,h⟩|⟨u,hu,k,y,g1,g2,g3⟩
     ·simp_all
     ·grind [zZ,wJ]
     ·grind
   ·simp_all
  ·exact hob k x hx n hn hm
structure uS (E:aN) (W:WL) (T:List (Nat×Nm)) (l:List Oper) (L:List Nat):Prop where
 nd:L.Nodup
 lt:∀j∈L,j<l.length
 pr:cZ (Bm E l W T (aX l [])) L=true
 or:cZ (Bq l) L=true
 ok:∀j∈L,(Ng E l W T (aX l []) j || yJ W E l (aX l []) j)=true
 down:∀j o,j∉L→l[j]?=some o→∀a∈bD o,a∉L
theorem uS.del{pre post:List Nat}{i:Nat}(h:uS E W T l (pre++i::post)) (hfree:∀o,l[i]?=some o→∀a∈bD o,a∉pre++i::post):uS E W T l (pre++post)∧(∀j,j∈pre++post↔j∈pre++i::post∧j≠i):=by
 have mem:∀j,j∈pre++post↔j∈pre++i::post∧j≠i:=by
  have hnd:=(List.perm_middle (a:=i) (l₁:=pre) (l₂:=post)).nodup_iff.1 h.nd
  have hi:=(List.nodup_cons.1 hnd).1
  intro j
  rw[List.mem_append,List.mem_append,List.mem_cons]
  constructor
  ·grind
  ·grind
 refine⟨⟨?_,fun j hj=>h.lt j ((mem j).1 hj).1,(eP h.pr).1,(eP h.or).1,fun j hj=>h.ok j ((mem j).1 hj).1,fun j o hj ho a ha q=>?_⟩,mem⟩
 ·have hnd:=(List.perm_middle (a:=i) (l₁:=pre) (l₂:=post)).nodup_iff.1 h.nd
  exact(List.nodup_cons.1 hnd).2
 ·have q:=((mem a).1 q).1
  by_cases e:j=i
  ·simp_all
  ·exact h.down j o (fun w=>hj ((mem j).2 ⟨w,e⟩)) ho a ha q
theorem uS.reach{L:List Nat}(h:uS E W T l L){i:Nat}{o:Oper}(ho:l[i]?=some o) (hfree:∀a∈bD o,a∉L):∀x∈L,aY x ((aX l []).getD i [])=false:=by
 intro x hx
 cases q:aY x ((aX l []).getD i [])with
 |false=>rfl
 |true=>exact absurd hx (ol (l:=l) (D:=fun j=>j∉L) h.down i ho hfree (cP.1 q))
theorem uS.head{L:List Nat}{i:Nat}{o:Oper}(h:uS E W T l (i::L)) (ho:l[i]?=some o) (hna:i∉bD o):∀a∈bD o,a∉i::L:=by
 intro a ha hm
 rcases List.mem_cons.1 hm with rfl|hm
 ·exact hna ha
 ·have:=(eP (pre:=[]) h.or).2.2 a hm
  unfold Bq at this
  rw[ho]at this
  exact bi this ha
theorem yI{i x:Nat}(h:yJ W E l (aX l []) i=true) (hx:x<l.length) (hne:x≠i):aY x ((aX l []).getD i [])=true:=by
 grind [yJ,dl]
theorem uS.okx{L:List Nat}(h:uS E W T l L){i x:Nat}(hi:i∈L) (hx:x∈L) (hne:x≠i) (hf:∀y∈L,aY y ((aX l []).getD i [])=false):Ng E l W T (aX l []) i=true:=by
 have:=h.ok i hi
 rw[Bool.or_eq_true]at this
 rcases this with q|q
 ·exact q
 ·have:=yI q (h.lt x hx) hne
  rw[hf x hx]at this
  cases this
theorem Et (hself:∀j o,l[j]?=some o→j∉bD o){post:List Nat}{i:Nat}{b:Oper}(hb:l[i]?=some b):∀{pre:List Nat}{s y:St},uS E W T l (pre++i::post)→Cs E W T l (pre++i::post) s→(∀a∈bD b,a∉pre++i::post) →
  pu W E l (bY l (pre++i::post)) s=some y→pu W E l (bY l (i::(pre++post))) s=some y
 |[],s,y,_,_,_,h=>h
 |x::pre,s,y,ho,hI,hf,h=>by
  obtain⟨a,ha⟩:∃a,l[x]?=some a:=⟨_,List.getElem?_eq_getElem (ho.lt x (List.mem_cons_self ..))⟩
  rw[List.cons_append,bX l ha]at h
  have h:(gN W E l a s).bind (pu W E l (bY l (pre++i::post)))=some y:=h
  obtain⟨sa,g1,g2⟩:=Option.bind_eq_some_iff.1 h
  have hfa:=ho.head ha (hself x a ha)
  obtain⟨o2,mem2⟩:=uS.del (pre:=[]) ho (fun o e=>by rw[ha]at e;obtain rfl:=Option.some.inj e;exact hfa)
  have hI2:Cs E W T l (pre++i::post) sa :=
   (OS hI (List.mem_cons_self ..) ha (ho.okx (List.mem_cons_self ..) (x:=i) (List.mem_append_right _ (List.mem_cons_self ..)) (fun e=>(List.nodup_cons.1 ho.nd).1 (by rw[←e];exact List.mem_append_right _ (List.mem_cons_self ..))) (ho.reach ha hfa)) (ho.reach ha hfa) ho.lt (fun j hj=>(mem2 j).1 hj) g1).2
  have h3:=Et hself hb (pre:=pre) o2 hI2 (fun a ha q=>hf a ha (List.mem_cons_of_mem _ q)) g2
  rw[bX l hb]at h3
  have h3:(gN W E l b sa).bind (pu W E l (bY l (pre++post)))=some y:=h3
  obtain⟨sb,g4,g5⟩:=Option.bind_eq_some_iff.1 h3
  have him:i∈(x::pre)++i::post:=List.mem_append_right _ (List.mem_cons_self ..)
  obtain⟨s1,g6,g7⟩:=Nq hI (List.mem_cons_self ..) ha hb CX CX (ho.reach hb hf) ((eP (pre:=x::pre) ho.pr).2.1 x (List.mem_cons_self ..)) g1 g4
  rw[bX l hb,List.cons_append,bX l ha]
  show(gN W E l b s).bind (fun t=>(gN W E l a t).bind (pu W E l (bY l (pre++post))))=some y
  rw[g6,Option.bind_some,g7,Option.bind_some]
  exact g5
theorem KW (hself:∀j o,l[j]?=some o→j∉bD o):∀(n:Nat) (rem L:List Nat) (s y:St),uS E W T l L→(∀i,i∈L↔i∈rem)→L.length=n→Cs E W T l L s→pu W E l (bY l L) s=some y→∀π∈kK l n rem,xN E l (bY l π) s=some y
 |0,rem,L,s,y,_,_,hl,_,h,π,hπ=>by
  simp_all [bD,pu,bY,kK,xN]
 |n+1,rem,L,s,y,ho,hm,hl,hI,h,π,hπ=>by
  obtain⟨i,hi,hπ⟩:=List.mem_flatMap.1 hπ
  cases hf:eD l rem i with
  |false=>simp_all
  |true =>
   rw[hf]at hπ
   obtain⟨π',hπ',rfl⟩:=List.mem_map.1 hπ
   obtain⟨pre,post,rfl⟩:=List.append_of_mem ((hm i).2 hi)
   obtain⟨b,hb⟩:∃b,l[i]?=some b:=⟨_,List.getElem?_eq_getElem (ho.lt i ((hm i).2 hi))⟩
   have hfr:∀a∈bD b,a∉pre++i::post:=fun a ha q=>by
    simp_all [eD,bi]
   have h2:=Et hself hb ho hI hfr h
   rw[bX l hb]at h2
   have h2:(gN W E l b s).bind (pu W E l (bY l (pre++post)))=some y:=h2
   obtain⟨s1,g1,g2⟩:=Option.bind_eq_some_iff.1 h2
   obtain⟨o2,mem2⟩:=uS.del ho (fun o e=>by rw[hb]at e;obtain rfl:=Option.some.inj e;exact hfr)
   have him:i∈pre++i::post:=List.mem_append_right _ (List.mem_cons_self ..)
   have both:stg E l b s=some s1∧Cs E W T l (pre++post) s1:=by
    have hq:=ho.ok i him
    rw[Bool.or_eq_true]at hq
    rcases hq with hq|hq
    ·exact OS hI him hb hq (ho.reach hb hfr) ho.lt (fun j hj=>(mem2 j).1 hj) g1
    ·have hn:∀j,j∉pre++post:=fun j hj=>by
      obtain⟨q1,q2⟩:=(mem2 j).1 hj
      have:=yI hq (ho.lt j q1) q2
      rw[ho.reach hb hfr j q1]at this
      cases this
     have hk:Ag W E b=false∧az E b≠4:=by
      unfold yJ at hq
      rw[hb]at hq
      dsimp only at hq
      rw[Bool.and_eq_true,Bool.and_eq_true]at hq
      refine⟨?_,fun e=>?_⟩
      ·simp_all
      ·simp_all
     rw[v6 hk.1,lG ⟨fun _=>rfl,hk.2⟩]at g1
     have nil:pre++post=[]:=List.eq_nil_iff_forall_not_mem.2 hn
     exact⟨g1,⟨fun j hj=>absurd hj (hn j),fun q=>absurd nil q,fun q=>absurd nil q⟩⟩
   have ih:=KW hself n (dR i rem) (pre++post) s1 y o2 (fun j=>by rw[mem2,eT,hm]) (by simp at hl ⊢;omega) both.2 g2 π' hπ'
   rw[bX l hb]
   show(stg E l b s).bind (xN E l (bY l π'))=some y
   rw[both.1,Option.bind_some]
   exact ih
end
def zG (E:aN) (l:List Oper) (W:WL) (T:List (Nat×Nm)) (L:List Nat) (vs:List (Nat×AV)) (bs:List (Nm×Ob)):Bool :=
 L.all (fun i=>match l[i]? with
  |some o => !Ag W E o || (match o.dst with|some d=>Ao d vs bs|none=>true)
  |none=>true)&&(vs.all (fun q=>(sy W).all fun n=>xR q.1 n T || !BH (Nm.eqb n) q.2)&&bs.all (fun q => !BI (fun n=>k9 n (sy W)) q.2))
theorem EW{E:aN}{l:List Oper}{W:WL}{T:List (Nat×Nm)}{L:List Nat}{es:List En}{ds:List DV}(h:zG E l W T L (cC es ds) (fR es ds)=true):Cs E W T l L (Fu es ds):=by
 unfold zG at h
 rw[Bool.and_eq_true,Bool.and_eq_true]at h
 obtain⟨h1,h2,h3⟩:=h
 refine⟨fun i hi o d ho hw hd=>?_,fun _ t n hn ht hm=>?_,fun _ m x hx n hn hm=>?_⟩
 ·grind [yV]
 ·have hm:aK (dH (cC es ds) t) n:=hm
  rcases sW (vs:=cC es ds) (t:=t)with q|⟨q,hq,g1,g2⟩
  ·rw[q]at hm;exact hm
  ·grind [wJ,not_true,sU,Nm.eqb,bA]
 ·have:=List.all_eq_true.1 h3 (m,x) (iL hx)
  exact not_true this (sV (p:=fun n=>k9 n (sy W)) (fu.2 hn) hm)
theorem FK{R:Type}{E:aN}{l:List Oper}(W:WL) (T:List (Nat×Nm)) (L:List Nat) (hb:(L.all (fun i=>Nat.blt i l.length)&&(List.range l.length).all (fun i=>aY i L))=true) (hnd:L.Nodup) (ha:oR l=true)
  (hp:cZ (Bm E l W T (aX l [])) L=true) (ho:cZ (Bq l) L=true) (hok:L.all (fun j=>Ng E l W T (aX l []) j || yJ W E l (aX l []) j)=true){es:List En}{x:TD (bg es)}(hs:zG E l W T L (cC es (au _ x)) (fR es (au _ x))=true)
  {k:St→Option R}{y:R}(h:oP W E l (bY l L) (d8 es x) k=some y):∀π∈Aq l,cB E l (bY l π) (d8 es x) k=some y:=by
 rw[Bool.and_eq_true]at hb
 have hm:∀i,i∈L↔i∈List.range l.length:=fun i=>⟨fun hi=>List.mem_range.2 (Nat.le_of_ble_eq_true (List.all_eq_true.1 hb.1 i hi)),fun hi=>cP.1 (List.all_eq_true.1 hb.2 i hi)⟩
 have hlen:L.length=l.length:=by
  have:L.Perm (List.range l.length):=(List.perm_ext_iff_of_nodup hnd List.nodup_range).2 hm
  rw[this.length_eq,List.length_range]
 have hself:∀j o,l[j]?=some o→j∉bD o:=fun j o hj q=>by
  have:=AE ha j o hj j q
  omega
 rw[ym]at h
 obtain⟨s1,h1,h2⟩:=Option.bind_eq_some_iff.1 h
 intro π hπ
 have:=KW hself l.length (List.range l.length) L (d8 es x) s1 ⟨hnd,fun j hj=>List.mem_range.1 ((hm j).1 hj),hp,ho,fun j hj=>List.all_eq_true.1 hok j hj,fun j o hj hjo a ha2 q=>by
  have:j<l.length:=(List.getElem?_eq_some_iff.1 hjo).1
  exact hj ((hm j).2 (List.mem_range.2 this))⟩ hm hlen (EW hs) h1 π hπ
 rw[qv,this]
 exact h2
def Lw (E:aN) (l:List Oper) (i j:Nat):Bool:=match l[i]?,l[j]? with
 |some a,some b=>(match a.dst,b.dst with
  |some d,some e=>ny false (az E a)&&(ny false (az E b)&&(!aY d (iw l b)&&(!Nat.beq d e && !aY e (iw l a))))
  |_,_=>false)
 |_,_=>false
def B8 (E:aN) (l:List Oper):Nat→Option Nat→List Nat→List (List Nat)
 |0,_,_=>[[]]
 |n+1,last,rem=>rem.flatMap fun i=>bif eD l rem i && !(match last with|some j=>Nat.blt i j&&Lw E l j i|none=>false)then(B8 E l n (some i) (dR i rem)).map (fun π=>i::π)else []
section
variable{E:aN}{l:List Oper}
theorem B7:∀(n:Nat) (last:Option Nat) (rem π:List Nat),π∈kK l n rem→(∀j,last=some j→∀i r,π=i::r→(Nat.blt i j&&Lw E l j i)=false) →
  π∈B8 E l n last rem∨∃pre i j post,π=pre++i::j::post∧j<i∧Lw E l i j=true
 |0,last,rem,π,h,_ => .inl h
 |n+1,last,rem,π,h,hl=>by
  obtain⟨i,hi,hπ⟩:=List.mem_flatMap.1 h
  cases hf:eD l rem i with
  |false=>simp_all
  |true =>
   rw[hf]at hπ
   obtain⟨π',hπ',rfl⟩:=List.mem_map.1 hπ
   by_cases hd:∃j r,π'=j::r∧(Nat.blt j i&&Lw E l i j)=true
   ·obtain⟨j,r,rfl,q⟩:=hd
    rw[Bool.and_eq_true]at q
    exact .inr ⟨[],i,j,r,rfl,Nat.le_of_ble_eq_true q.1,q.2⟩
   ·rcases B7 n (some i) (dR i rem) π' hπ' (fun j hj i' r hr=>by
     obtain rfl:=Option.some.inj hj
     cases q:(Nat.blt i' i&&Lw E l i i')with
     |false=>rfl
     |true=>exact absurd ⟨i',r,hr,q⟩ hd)with g|⟨pre,a,b,post,rfl,g1,g2⟩
    ·grind [kK,B8]
    ·grind
theorem A8 (i j:Nat) (rem:List Nat):dR i (dR j rem)=dR j (dR i rem):=by
 simp_all [dR,List.filter_filter,Bool.and_comm]
theorem xb (ha:Nf l):∀(pre:List Nat){n:Nat}{rem:List Nat}{i j:Nat}{post:List Nat},pre++i::j::post∈kK l n rem→j<i→(∃b,l[j]?=some b)→pre++j::i::post∈kK l n rem
 |[],0,rem,i,j,post,h,_,_=>by trivial
 |[],1,rem,i,j,post,h,_,_=>by
  obtain⟨x,hx,hπ⟩:=List.mem_flatMap.1 h
  cases hf:eD l rem x with
  |false=>simp_all
  |true =>
   simp_all [Nf,kK]
 |[],n+2,rem,i,j,post,h,hij,⟨b,hb⟩=>by
  obtain⟨x,hx,hπ⟩:=List.mem_flatMap.1 h
  cases hf:eD l rem x with
  |false=>simp_all
  |true =>
   rw[hf]at hπ
   obtain⟨π',hπ',e⟩:=List.mem_map.1 hπ
   injection e with e1 e2
   subst e1;subst e2
   obtain⟨y,hy,hπ2⟩:=List.mem_flatMap.1 hπ'
   cases hf2:eD l (dR x rem) y with
   |false=>simp_all
   |true =>
    rw[hf2]at hπ2
    obtain⟨π2,hπ3,e⟩:=List.mem_map.1 hπ2
    injection e with e1 e2
    subst e1;subst e2
    have hy':=eT.1 hy
    have fy:eD l rem y=true:=by
     grind [eD,aY,dR,cP,eT,Nf,kK]
    have fx:eD l (dR y rem) x=true:=by
     grind [eD,aY,dR,cP,eT]
    refine List.mem_flatMap.2 ⟨y,hy'.1,?_⟩
    rw[fy]
    refine List.mem_map.2 ⟨x::π2,List.mem_flatMap.2 ⟨x,eT.2 ⟨hx,by omega⟩,?_⟩,rfl⟩
    rw[fx]
    refine List.mem_map.2 ⟨π2,?_,rfl⟩
    rw[A8]
    exact hπ3
 |p::pre,0,rem,i,j,post,h,_,_=>by trivial
 |p::pre,n+1,rem,i,j,post,h,hij,hb=>by
  obtain⟨x,hx,hπ⟩:=List.mem_flatMap.1 h
  refine List.mem_flatMap.2 ⟨x,hx,?_⟩
  cases hf:eD l rem x with
  |false=>simp_all
  |true =>
   rw[hf]at hπ
   obtain⟨π',hπ',e⟩:=List.mem_map.1 hπ
   injection e with e1 e2
   subst e1;subst e2
   exact List.mem_map.2 ⟨_,xb ha pre hπ' hij hb,rfl⟩
theorem yc{i j:Nat}(hs:Lw E l i j=true){post:List Nat}{y:St}:∀{pre:List Nat}{s:St},(∀x∈pre, ∃o,l[x]?=some o)→oc false E l (bY l (pre++j::i::post)) s=some y→oc false E l (bY l (pre++i::j::post)) s=some y
 |[],s,_,h=>by
  unfold Lw at hs
  cases hi:l[i]? with
  |none=>simp_all
  |some a =>
   cases hj:l[j]? with
   |none=>simp_all
   |some b =>
    rw[hi,hj]at hs
    dsimp only at hs
    cases hda:a.dst with
    |none=>simp_all
    |some d =>
     cases hdb:b.dst with
     |none=>simp_all
     |some e =>
      rw[hda,hdb]at hs
      dsimp only at hs
      rw[Bool.and_eq_true,Bool.and_eq_true,Bool.and_eq_true,Bool.and_eq_true]at hs
      obtain⟨k1,k2,n1,n2,n3⟩:=hs
      rw[List.nil_append,bX l hj,bX l hi]at h
      rw[List.nil_append,bX l hi,bX l hj]
      have h:(stm false E l b s).bind (fun t=>(stm false E l a t).bind (oc false E l (bY l post)))=some y:=h
      show(stm false E l a s).bind (fun t=>(stm false E l b t).bind (oc false E l (bY l post)))=some y
      obtain⟨sb,g1,h⟩:=Option.bind_eq_some_iff.1 h
      obtain⟨sa,g2,h⟩:=Option.bind_eq_some_iff.1 h
      obtain⟨vb,ub,qb,mb,mb2,rfl,_⟩:=gQ hdb k2 g1
      obtain⟨va,ua,qa,ma,ma2,rfl,_⟩:=gQ hda k1 g2
      have no1:∀{k:Nat},ny false k=true→k≠1:=fun h q=>by rw[q]at h;cases h
      obtain⟨x1,x2⟩:=ma2 (no1 k1)
      obtain⟨y1,y2⟩:=mb2 (no1 k2)
      obtain⟨e1,e2⟩:=DN mb ma (Ne.symm (me n2)) (bi n3) (bi n1) (.inl ⟨y2,x2,y1,x1⟩)
      rw[e1,Option.bind_some,e2,Option.bind_some]
      exact h
 |x::pre,s,hp,h=>by
  obtain⟨o,ho⟩:=hp x (List.mem_cons_self ..)
  rw[List.cons_append,bX l ho]at h ⊢
  have h:(stm false E l o s).bind (oc false E l (bY l (pre++j::i::post)))=some y:=h
  show(stm false E l o s).bind (oc false E l (bY l (pre++i::j::post)))=some y
  obtain⟨s1,g1,g2⟩:=Option.bind_eq_some_iff.1 h
  rw[g1,Option.bind_some]
  exact yc hs (fun z hz=>hp z (List.mem_cons_of_mem _ hz)) g2
def wt:List Nat→Nat
 |[]=>0
 |x::r=>x*(r.length+1)+wt r
theorem DI{i j:Nat}(h:j<i){post:List Nat}:∀(pre:List Nat),wt (pre++j::i::post)<wt (pre++i::j::post)
 |[]=>by
  grind [wt]
 |x::pre=>by
  have:=DI h (post:=post) pre
  simp only[List.cons_append,wt,List.length_append,List.length_cons]
  omega
theorem B6:∀{n:Nat}{rem π:List Nat},π∈kK l n rem→∀x∈π, ∃o,l[x]?=some o
 |0,rem,π,h,x,hx=>by simp_all [kK]
 |n+1,rem,π,h,x,hx=>by
  obtain⟨i,hi,hπ⟩:=List.mem_flatMap.1 h
  cases hf:eD l rem i with
  |false=>simp_all
  |true =>
   rw[hf]at hπ
   obtain⟨π',hπ',rfl⟩:=List.mem_map.1 hπ
   rcases List.mem_cons.1 hx with rfl|hx
   ·grind [eD]
   ·exact B6 hπ' x hx
theorem Lx (s s1:St){o:Oper}(hq:stm false E l o s=some s1):stg E l o s=some s1:=by
 by_cases k4:az E o=4
 ·cases hd:o.dst with
  |none =>
   grind [az,ce,split,first]
  |some d =>
   obtain⟨v,ups,q,m,m2,rfl,_⟩:=Ie (.inr k4) hd hq
   exact m.m.step s (fun _ _=>rfl) (fun _ _ _ _=>rfl) (fun w=>by rw[(m2 k4).1]at w;cases w)
 ·simp_all [lG]
theorem DP:∀{r:List Oper}{s y:St},oc false E l r s=some y→xN E l r s=some y
 |[],s,y,h=>h
 |o::r,s,y,h=>by
  have h:(stm false E l o s).bind (oc false E l r)=some y:=h
  obtain⟨s1,g1,g2⟩:=Option.bind_eq_some_iff.1 h
  show(stg E l o s).bind (xN E l r)=some y
  rw[Lx s s1 g1,Option.bind_some]
  exact DP g2
theorem JR{R:Type}(ha:oR l=true){s:St}{k:St→Option R}{y:R}(h:∀π∈B8 E l l.length none (List.range l.length),ls false E l (bY l π) s k=some y):∀π∈Aq l,cB E l (bY l π) s k=some y:=by
 have all:∀(m:Nat) (π:List Nat),wt π≤m→π∈Aq l→∃s1,oc false E l (bY l π) s=some s1∧k s1=some y:=by
  intro m
  induction m using Nat.strongRecOn with
  |_ m ih =>
   intro π hw hπ
   rcases B7 (E:=E) l.length none (List.range l.length) π hπ (fun j hj=>by cases hj)with g|⟨pre,i,j,post,rfl,g1,g2⟩
   ·have:=h π g
    rw[qu]at this
    obtain⟨s1,e1,e2⟩:=Option.bind_eq_some_iff.1 this
    exact⟨s1,e1,e2⟩
   ·have hx:=B6 hπ
    have hlt:=DI g1 (post:=post) pre
    obtain⟨s1,e1,e2⟩:=ih (wt (pre++j::i::post)) (by omega) (pre++j::i::post) (Nat.le_refl _) (xb (AE ha) pre hπ g1 (hx j (List.mem_append_right _ (List.mem_cons_of_mem _ (List.mem_cons_self ..)))))
    exact⟨s1,yc g2 (fun x hp=>hx x (List.mem_append_left _ hp)) e1,e2⟩
 intro π hπ
 obtain⟨s1,e1,e2⟩:=all (wt π) π (Nat.le_refl _) hπ
 rw[qv,DP e1]
 exact e2
end
section
variable{P:Program}{X:qT}{L:Nm→Value}{I:Nat→Prop}{s:St}{a:Act}{w:World}{R:Type}
def RL:Ex→Exit→Prop
 | .normal, .normal=>True
 | .exit i, .exit j=>i=j
 | .ret, .ret=>True
 |_,_=>False
def mS (X:qT) (L:Nm→Value) (k:Ex→St→Option R) (y:R) (e:Exit) (a:Act) (w:World):Prop :=
 ∃x s' L' I',RL x e∧bB X L' I' s' a w∧(∀n,iy n=true→L' n=L n)∧k x s'=some y
def zk (E:aN) (id:Nat) (ops:Array Oper):Prop:=∀S,E.Ω id=some S→oR ops.toList=true∧∀x y,S.g x=some y→∀π∈Aq ops.toList,cB E ops.toList (bY ops.toList π) (d8 S.ent x) (fun s'=>gT E.N S.out s')=some y
def eR (E:aN):Code→Prop
 | .region id ops _=>zk E id ops
 | .seq a b=>eR E a∧eR E b
 | .cond _ a b=>eR E a∧eR E b
 | .block _ c=>eR E c
 | .loop c=>eR E c∧∀S,E.Λ (key c)=some S→∃f:Nat→TD (bg S.ent)→Option (EX S.exs),(∀x,f 0 x=none)∧(∃n,S.g=f n)∧∀n x,f (n+1) x=j4 E c S (f n) x
 |_=>True
theorem OW{x y:Ex}(h:Ex.eqb x y=true):x=y:=by
 cases x<;>cases y<;>first|rfl|(cases h;done)|exact congrArg Ex.exit (Nat.eq_of_beq_eq_true h)
theorem xc{N:Nat}:∀{l:List (Ex×List En)}{x:Ex}{s:St}{y:EX l},B9 N l x s=some y→∃es, ∃z:TD (bg es),gT N es s=some z∧∀(R:Type) (k:Ex→St→Option R),Ek l y k=k x (d8 es z)
 |[],_,_,_,h=>by cases h
 |[e],x,s,y,h=>by
  unfold B9 at h
  cases q:Ex.eqb e.1 x with
  |false=>rw[q]at h;cases h
  |true =>
   rw[q]at h
   have:=OW q
   exact⟨e.2,y,h,fun R k=>by show k e.1 _=_;rw[this]⟩
 |e::f::r,x,s,y,h=>by
  unfold B9 at h
  cases q:Ex.eqb e.1 x with
  |false =>
   rw[q]at h
   simp only[cond_false]at h
   split at h
   ·rename_i y' e1
    obtain rfl:=Option.some.inj h
    obtain⟨es,z,g1,g2⟩:=xc e1
    exact⟨es,z,g1,fun R k=>g2 R k⟩
   ·cases h
  |true =>
   grind [split,OW,EX,B9,bg,gT,Ek,d8]
theorem jx (h:bB X L I s a w){es:List En}{x:TD (bg es)}(e:gT X.N es s=some x):∃L' I',bB X L' I' (d8 es x) a w∧∀n,iy n=true→L' n=L n:=by
 obtain⟨L',I',h1,_,h2⟩:=v9 h e (us:=es.map fun e=>a.tmps.getD e.slot undef) (by
  clear e x
  induction es with
  |nil=>trivial
  |cons en es ih=>exact⟨h.slot en.slot,ih⟩) (a':=a) h.defers h.size (fun i en u z1 z2=>by
   rw[List.getElem?_map,z1]at z2
   exact Option.some.inj z2)
 exact⟨L',I',h1,h2⟩
theorem mS.trans{k:Ex→St→Option R}{y:R}{L1:Nm→Value}{e:Exit}(hk:∀n,iy n=true→L1 n=L n) (h:mS X L1 k y e a w):mS X L k y e a w:=by
 simp_all [iy,mS]
theorem Dg{E:aN}(hE:tV P X.K E) (hN:E.N=X.N) (h:bB X L I s a w){id:Nat}{ops:Array Oper}(hr:zk E id ops){k:Ex→St→Option R}{y:R}(e:uB E (.region id ops true) s k=some y) :
  (Code.region id ops true).wp P (mS X L k y) a w:=by
 simp only[uB]at e
 cases q:uM ops.toList (ot E ops.toList)with
 |false =>
  rw[q]at e
  simp only[cond_false]at e
  unfold KY at e
  split at e
  ·rename_i S hS
   split at e
   ·rename_i x hx
    split at e
    ·rename_i z hz
     obtain⟨ha,hall⟩:=hr S hS
     have hall:=hall x z hz
     rw[hN]at hx
     obtain⟨L1,I1,h1,hk1⟩:=jx h hx
     refine wp_region_any hE.mo ?_
     have hg:bB X L1 I1 (d8 S.ent x) a { w with drawn:=w.drawn+1 }:=h1.grows (bn.drew _ w)
     have:=FP (L:=L) (k:=fun s'=>gT E.N S.out s') (y:=z) (Q:=mS X L k y) (l:=ops.toList) hE hN (AE ha) (fun a' w' hp=>by
      obtain⟨s',L',I',r1,r2,r3⟩:=hp
      rw[hN]at r3
      obtain⟨L2,I2,h2,hk2⟩:=jx r1 r3
      exact⟨.normal,_,L2,I2,trivial,h2,fun n hn=>(hk2 n hn).trans (r2 n hn),e⟩) ops.toList.length (List.range ops.toList.length) (Array.replicate ops.size false) (by simp) ⟨by simp,fun i hi=>List.mem_range.1 hi,List.nodup_range,fun i hi=>by
       have hi':i<ops.size:=by trivial
       simp[hi']⟩ hg hk1 hall
     rw[Array.length_toList]at this
     exact this
    ·cases e
   ·cases e
  ·cases e
 |true =>
  rw[q]at e
  simp only[cond_true]at e
  refine wp_region_any hE.mo ?_
  have hg:bB X L I s a { w with drawn:=w.drawn+1 }:=h.grows (bn.drew _ w)
  have hle:=yi E ops.toList
  obtain⟨hl,hlen⟩:=C9 hle q
  have:=Iv (L:=L) (k:=k .normal) (y:=y) (Q:=mS X L k y) (l:=ops.toList) hE hN (fun a' w' hp=>by
   obtain⟨s',L',I',r1,r2,r3⟩:=hp
   exact⟨.normal,s',L',I',trivial,r1,r2,r3⟩) ops.size (ft ops.toList (ot E ops.toList)) (gU ops.toList (ot E ops.toList)) (Array.replicate ops.size false) (by
    rw[hlen,Array.length_toList]) (by rw[←Array.length_toList];exact hl) hg (fun _ _=>rfl) e
  exact this
theorem Dd{E:aN}(hE:tV P X.K E) (hN:E.N=X.N):∀(c:Code),eR E c→∀{R:Type}{k:Ex→St→Option R}{y:R}{L:Nm→Value}{I:Nat→Prop}{s:St}{a:Act}{w:World},bB X L I s a w→uB E c s k=some y →
  c.wp P (mS X L k y) a w:=by
 intro c
 induction c with
 |skip=>intro _ R k y L I s a w h e;exact wp_skip ⟨.normal,s,L,I,trivial,h,fun _ _=>rfl,e⟩
 |exit id=>intro _ R k y L I s a w h e;exact wp_exit ⟨.exit id,s,L,I,rfl,h,fun _ _=>rfl,e⟩
 |ret=>intro _ R k y L I s a w h e;exact wp_ret ⟨.ret,s,L,I,trivial,h,fun _ _=>rfl,e⟩
 |region id ops draw =>
  intro hl R k y L I s a w h e
  cases draw with
  |true=>exact Dg hE hN h hl e
  |false =>
   refine wp_region_list ?_
   refine wz (L:=L) (k:=k .normal) (y:=y) (all:=ops.toList) hE hN (fun a' w' hp=>?_) h (fun _ _=>rfl) e
   obtain⟨s',L',I',r1,r2,r3⟩:=hp
   exact⟨.normal,s',L',I',trivial,r1,r2,r3⟩
 |seq x z ihx ihz =>
  intro hl R k y L I s a w h e
  refine wp_seq (Go.wp_mono (ihx hl.1 h e) fun en a' w' hp=>?_)
  obtain⟨x',s',L',I',h1,r1,r2,r3⟩:=hp
  cases x' with
  |normal =>
   cases en<;>try exact h1.elim
   exact Go.wp_mono (ihz hl.2 r1 r3) fun _ _ _ q=>mS.trans r2 q
  |exit i =>
   cases en<;>try exact h1.elim
   exact⟨.exit i,s',L',I',h1,r1,r2,r3⟩
  |ret =>
   cases en<;>try exact h1.elim
   exact⟨.ret,s',L',I',h1,r1,r2,r3⟩
 |cond c x z ihx ihz =>
  intro hl R k y L I s a w h e
  simp only[uB]at e
  split at e
  ·rename_i b hb
   have hv:=h.ev c
   rw[wR hb]at hv
   have hv:a.eval c = .bool b:=List.head_eq_of_cons_eq hv
   cases b with
   |true=>simp only[qA hb]at e;exact wp_cond_true hv (ihx hl.1 h e)
   |false=>simp only[qA hb]at e;exact wp_cond_false hv (ihz hl.2 h e)
  ·cases e
 |block id c ih =>
  intro hl R k y L I s a w h e
  refine wp_block (Go.wp_mono (ih hl h e) fun en a' w' hp=>?_)
  obtain⟨x',s',L',I',h1,r1,r2,r3⟩:=hp
  cases x' with
  |normal =>
   cases en<;>try exact h1.elim
   exact⟨.normal,s',L',I',trivial,r1,r2,r3⟩
  |exit i =>
   cases en with
   |exit j =>
    obtain rfl:i=j:=h1
    dsimp only at r3
    show if i=id then mS X L k y .normal a' w' else mS X L k y (.exit i) a' w'
    cases q:Nat.beq i id with
    |true =>
     rw[q]at r3
     rw[if_pos (Nat.eq_of_beq_eq_true q)]
     exact⟨.normal,s',L',I',trivial,r1,r2,r3⟩
    |false =>
     rw[q]at r3
     rw[if_neg (Nat.ne_of_beq_eq_false q)]
     exact⟨.exit i,s',L',I',rfl,r1,r2,r3⟩
   |_=>exact h1.elim
  |ret =>
   cases en<;>try exact h1.elim
   exact⟨.ret,s',L',I',trivial,r1,r2,r3⟩
 |loop c ih =>
  intro hl R k y L I s a w h e
  simp only[uB]at e
  split at e
  ·rename_i S hS
   split at e
   ·rename_i x hx
    split at e
    ·rename_i z hz
     obtain⟨f,f0,⟨n,hn⟩,fs⟩:=hl.2 S hS
     rw[hn]at hz
     rw[hN]at hx
     obtain⟨L1,I1,h1,hk1⟩:=jx h hx
     refine wp_loop_rounds n ?_
     have main:∀n x,f n x=some z→∀{L1:Nm→Value}{I1:Nat→Prop}{a:Act}{w:World},bB X L1 I1 (d8 S.ent x) a w→(∀n,iy n=true→L1 n=L n)→Code.rounds P c (mS X L k y) n a w:=by
      intro n
      induction n with
      |zero=>simp_all
      |succ n ihn =>
       intro x hx L1 I1 a w h1 hk1
       rw[fs]at hx
       rw[rounds_succ]
       refine Go.wp_mono (ih hl.1 h1 hx) fun en a' w' hp=>?_
       obtain⟨x',s',L',I',g1,r1,r2,r3⟩:=hp
       have ends:∀{ex:Ex},RL ex en→B9 E.N S.exs ex s'=some z→mS X L k y en a' w':=by
        grind [xc,jx,eR,uB,mS]
       cases x' with
       |normal =>
        cases en<;>try exact g1.elim
        dsimp only at r3
        split at r3
        ·rename_i x2 hx2
         rw[hN]at hx2
         obtain⟨L2,I2,h2,hk2⟩:=jx r1 hx2
         exact ihn x2 r3 h2 (fun n hn=>(hk2 n hn).trans ((r2 n hn).trans (hk1 n hn)))
        ·cases r3
       |exit i =>
        cases en<;>try exact g1.elim
        exact ends (ex := .exit i) g1 r3
       |ret =>
        cases en<;>try exact g1.elim
        exact ends (ex := .ret) g1 r3
     exact main n x hz h1 hk1
    ·cases e
   ·cases e
  ·cases e
 |_=>intro _ R k y L I s a w h e;cases e
end
section
variable{P:Program}{X:qT}{L:Nm→Value}{I:Nat→Prop}{s:St}{a:Act}{w:World}
theorem bB.extend (h:bB X L I s a w){N r:Nat}(hr:r≤X.N) (hN:r≤N):bB { X with N:=N } L I (s.cut r) { tmps:=first r a.tmps++Array.replicate (N-(first r a.tmps).size) undef,defers:=[] } w:=by
 have hs:=h.size
 have hfs:(first r a.tmps).size=r:=by unfold first;simp;omega
 refine⟨rfl,?_,fun i hi=>?_,fun i hi=>?_,h.obj,h.sep,h.own,h.imm,h.sub,h.step,h.glob⟩
 ·show(first r a.tmps++Array.replicate (N-(first r a.tmps).size) undef).size=N
  simp[hfs];omega
 ·by_cases q:i<r
  ·have e1:(s.cut r).t i=s.t i:=by
    show(bif Nat.blt i r then s.t i else .c .dead)=_
    rw[show Nat.blt i r=true from Nat.ble_eq_true_of_le q];rfl
   have e2:(first r a.tmps++Array.replicate (N-(first r a.tmps).size) undef).getD i undef=a.tmps.getD i undef:=by
    rw[Array.getD_eq_getD_getElem?,Array.getD_eq_getD_getElem?,Array.getElem?_append_left (by rw[hfs];exact q)]
    unfold first
    rw[List.getElem?_toArray,List.getElem?_take,if_pos q]
    simp
   rw[e1,e2];exact h.tmp i (by omega)
  ·have e1:(s.cut r).t i = .c .dead:=by
    show(bif Nat.blt i r then s.t i else .c .dead)=_
    rw[show Nat.blt i r=false from by cases z:Nat.blt i r with|false=>rfl|true=>exact absurd (Nat.le_of_ble_eq_true z) q];rfl
   rw[e1];trivial
 ·have hi:N≤i:=hi
  show(bif Nat.blt i r then s.t i else .c .dead)=_
  rw[show Nat.blt i r=false from by cases z:Nat.blt i r with|false=>rfl|true=>exact absurd (Nat.le_of_ble_eq_true z) (by show ¬(i<r);omega)];rfl
def sN (a:Act):ResultVar→Sem Value
 | .tmp t=>pure (a.tmps.getD t undef)
 | .cell b t=>do loadVar t (←asAddr (a.tmps.getD b undef))
theorem zN (h:bB X L I s a w) {τ:kb}(hτ:cS P τ){v:ResultVar}{x:AV}(e:CM τ s v=some x) :
  ∃u,(sN a v).run P w = .ok u w∧RA L I w (AL s.o) x u:=by
 cases v with
 |tmp t=>obtain rfl:=Option.some.inj e;exact⟨_,by simp[sN],h.slot t⟩
 |cell b t =>
  simp only[CM]at e
  split at e
  ·rename_i ti p e1 e2
   have r:=h.slot b
   rw[e2]at r
   obtain⟨b',off,vs,e4,hl,hc,hr,h1⟩:=oQ h e r
   refine⟨_,?_,hr⟩
   have:=sJ (P:=P) (hτ t ti e1) hl hc h1
   show(do loadVar t (←asAddr (a.tmps.getD b undef))).run P w=_
   rw[e4]
   simp[asAddr,this,Result.andThen]
  ·cases e
theorem qZ (h:bB X L I s a w) {τ:kb}(hτ:cS P τ):∀{vs:List ResultVar}{xs:List AV},qn τ s vs=some xs →
  ∃us,(vs.mapM (sN a)).run P w = .ok us w∧aD (RA L I w (AL s.o)) xs us
 |[],_,e=>by obtain rfl:=Option.some.inj e;exact⟨[],by simp,trivial⟩
 |v::vs,_,e=>by
  simp only[qn]at e
  split at e
  ·rename_i x xs e1 e2
   obtain rfl:=Option.some.inj e
   obtain⟨u,g1,g2⟩:=zN h hτ e1
   obtain⟨us,g3,g4⟩:=qZ h hτ e2
   exact⟨u::us,by simp[List.mapM_cons,g1,g3,Result.andThen],g2,g4⟩
  ·cases e
theorem ve {τ:kb}:∀{vs:List ResultVar}{xs:List AV},qn τ s vs=some xs→xs.length=vs.length
 |[],_,e=>by obtain rfl:=Option.some.inj e;rfl
 |v::vs,_,e=>by
  simp only[qn]at e
  split at e
  ·rename_i x xs e1 e2
   obtain rfl:=Option.some.inj e
   simp[ve e2]
  ·cases e
theorem AZ{fn:Func}{us:List Value}(h:(fn.results.toList.mapM (sN a)).run P w = .ok us w) :
  (results fn a.tmps).run P w = .ok (if h:us.toArray.size=1 then us.toArray[0]else .tuple us.toArray) w:=by
 show(do
  let vs ←fn.results.mapM (sN a)
  pure (if h:vs.size=1 then vs[0]else Value.tuple vs)).run P w=_
 rw[Array.mapM_eq_mapM_toList]
 simp[h,Result.andThen]
def gF (f:Nat→Value):Nat→List Cr→List Value
 |_,[]=>[]
 |i, .c (.b _ _)::r=>f i::gF f (i+1) r
 |i, .p _::r=>f i::gF f (i+1) r
 |i, .h _::r=>f i::gF f (i+1) r
 |i,_::r=>gF f (i+1) r
theorem ta{L':Nm→Value}{I':Nat→Prop}{w':World}{A A':Nm→Option (Nat×Nat)}(hk:∀n,iy n=true→L' n=L n):∀{cs:List CV}{us:List Value},cs.all Ij=true→aD (RC L I w A) cs us→aD (RC L' I' w' A') cs us
 |[],[],_,_=>trivial
 |[],_::_,_,r=>r.elim
 |_::_,[],_,r=>r.elim
 |c::cs,u::us,q,r=>by
  rw[List.all_cons,Bool.and_eq_true]at q
  refine⟨?_,ta hk q.2 r.2⟩
  have q:=q.1
  have r:=r.1
  cases c with
  |own n =>
   obtain⟨x1,x2,x3,r1,r2⟩:=r
   exact⟨x1,x2,x3,r1,by rw[hk n q];exact r2⟩
  |v ty x=>exact cK.plain ty (by simpa [Ij]using q) r
  |_=>cases q
theorem sO{L':Nm→Value}{I':Nat→Prop}{w':World}{A A':Nm→Option (Nat×Nat)}{f:Nat→AV}{g:Nat→Value}(h:∀i,RA L I w A (f i) (g i)) (hk:∀n,iy n=true→L' n=L n):∀{ps:List Cr}{k:Nat}{l:List AV},
  zS f k ps=some l→aD (RA L' I' w' A') l (gF g k ps)
 |[],_,_,e=>by obtain rfl:=Option.some.inj e;trivial
 |p::ps,k,_,e=>by
  simp only[zS]at e
  split at e
  ·rename_i l e1
   have ih:=sO (L':=L') (I':=I') (w':=w') (A':=A') h hk e1
   have one:rR (f k)=true→RA L' I' w' A' (f k) (g k):=by
    intro q
    have r:=h k
    unfold rR at q
    split at q
    ·rename_i n o en
     rw[en]at r ⊢
     obtain⟨b,off,r1,r2⟩:=r
     exact⟨b,off,by rw[hk n q];exact r1,r2⟩
    ·rename_i n en
     rw[en]at r ⊢
     obtain⟨x1,x2,x3,r1,r2⟩:=r
     exact⟨x1,x2,x3,r1,by rw[hk n q];exact r2⟩
    ·rename_i cs en
     rw[en]at r ⊢
     obtain⟨vs,r1,r⟩:=r
     exact⟨vs,r1,ta hk q r⟩
    ·cases q
   have two:∀{l2:List AV},(bif rR (f k)then some (f k::l)else none)=some l2→aD (RA L' I' w' A') l2 (g k::gF g (k+1) ps):=by
    intro l2 e
    cases q:rR (f k)with
    |false=>rw[q]at e;cases e
    |true=>rw[q]at e;obtain rfl:=Option.some.inj e;exact⟨one q,ih⟩
   cases p with
   |c q =>
    cases q with
    |i t=>obtain rfl:=Option.some.inj e;exact ih
    |o _ t=>obtain rfl:=Option.some.inj e;exact ih
    |b _ t=>exact two e
    |q _ _=>obtain rfl:=Option.some.inj e;exact ih
    |m _ _ _=>obtain rfl:=Option.some.inj e;exact ih
    |f _ _=>obtain rfl:=Option.some.inj e;exact ih
    |e=>obtain rfl:=Option.some.inj e;exact ih
    |l=>obtain rfl:=Option.some.inj e;exact ih
   |g ps'=>obtain rfl:=Option.some.inj e;exact ih
   |p ps'=>exact two e
   |h ps'=>exact two e
  ·cases e
theorem rH{g:Nat→Value}:∀{ps:List Cr}{k i:Nat}{e:En}{u:Value},(gq k ps)[i]?=some e→(gF g k ps)[i]?=some u→u=g e.slot∧e.slot<k+ps.length
 |[],_,_,_,_,h,_=>by cases h
 |p::ps,k,i,e,u,h,h'=>by
  have rest:(gq (k+1) ps)[i]?=some e→(gF g (k+1) ps)[i]?=some u→u=g e.slot∧e.slot<k+(ps.length+1):=fun h h'=>by
   obtain⟨g1,g2⟩:=rH h h';exact⟨g1,by omega⟩
  have cons:∀{en:En},en.slot=k→(en::gq (k+1) ps)[i]?=some e→(g k::gF g (k+1) ps)[i]?=some u→u=g e.slot∧e.slot<k+(ps.length+1):=by
   intro en he h h'
   cases i with
   |zero=>obtain rfl:=Option.some.inj h;obtain rfl:=Option.some.inj h';exact⟨by rw[he],by omega⟩
   |succ i=>obtain⟨g1,g2⟩:=rH (i:=i) h h';exact⟨g1,by omega⟩
  cases p with
  |c q =>
   cases q with
   |i t=>exact rest h h'
   |o _ t=>exact rest h h'
   |b _ t=>exact cons rfl h h'
   |q _ _=>exact rest h h'
   |m _ _ _=>exact rest h h'
   |f _ _=>exact rest h h'
   |e=>exact rest h h'
   |l=>exact rest h h'
  |g ps'=>exact rest h h'
  |p ps'=>exact cons rfl h h'
  |h ps'=>exact cons rfl h h'
theorem jf{g:Nat→Value}:∀(ps:List Cr) (k:Nat),(gq k ps).length=(gF g k ps).length
 |[],_=>rfl
 |p::ps,k=>by
  cases p with
  |c q=>cases q<;>simp[gq,gF,jf (g:=g) ps (k+1)]
  |g ps'=>simp[gq,gF,jf (g:=g) ps (k+1)]
  |p ps'=>simp[gq,gF,jf (g:=g) ps (k+1)]
  |h ps'=>simp[gq,gF,jf (g:=g) ps (k+1)]
theorem wh:∀{rs:List (Bool×List PS)}{k i:Nat}{e:En},(kX k rs)[i]?=some e→e.slot=k+i
 |[],_,_,_,h=>by cases h
 |(b,ps)::rs,k,0,e,h=>by
  obtain rfl:=Option.some.inj (show some (Ks k b ps)=some e from h)
  cases b<;>(cases ps<;>rfl)
 |(b,ps)::rs,k,i+1,e,h=>by
  have h:(kX (k+1) rs)[i]?=some e:=h
  rw[wh h];omega
theorem od:∀(rs:List (Bool×List PS)) (k:Nat),(kX k rs).length=rs.length
 |[],_=>rfl
 |(b,ps)::rs,k=>by simp[kX,od rs]
theorem yu:∀{rs:List (Nat×Nm×List PS)}{k i:Nat}{e:En},(BB k rs)[i]?=some e→e.slot=k+i
 |[],_,_,_,h=>by cases h
 |p::rs,k,0,e,h=>by obtain rfl:=Option.some.inj h;rfl
 |p::rs,k,i+1,e,h=>by
  have h:(BB (k+1) rs)[i]?=some e:=h
  rw[yu h];omega
theorem RA.getD{A:Nm→Option (Nat×Nat)}{xs:List AV}{us:List Value}(h:aD (RA L I w A) xs us) (i:Nat):RA L I w A (xs.getD i (.c .dead)) (us.getD i undef):=by
 rw[List.getD_eq_getElem?_getD,List.getD_eq_getElem?_getD]
 cases e:xs[i]? with
 |none=>exact trivial
 |some x=>obtain⟨u,e2,r⟩:=h.get e;rw[e2];exact r
theorem BA{A:Nm→Option (Nat×Nat)}{xs:List AV}{us:List Value}(h:aD (RA L I w A) xs us):∀nb:List (Nat×Nm×List PS),aD (RA L I w A) (nb.map fun p=>xs.getD p.1 (.c .dead)) (nb.map fun p=>us.getD p.1 undef)
 |[]=>trivial
 |p::nb=>⟨RA.getD h p.1,BA h nb⟩
theorem Jk{a'':Act}{np:Nat}{us:List Value}(h:∀j u,us[j]?=some u→a''.tmps.getD (np+j) undef=u):(if h:us.toArray.size=1 then us.toArray[0]else .tuple us.toArray)=A6 a'' np us.length:=by
 match us with
 |[u]=>rw[dif_pos (show #[u].size=1 from rfl)];exact(h 0 u rfl).symm
 |[]=>simp[A6]
 |u::v::r =>
  have:∀l:List Value,(∀j u,l[j]?=some u→a''.tmps.getD (np+j) undef=u)→(List.range l.length).map (fun j=>a''.tmps.getD (np+j) undef)=l:=by
   intro l hl
   apply List.ext_getElem?
   intro i
   rw[List.getElem?_map]
   rcases Nat.lt_or_ge i l.length with q|q
   ·rw[List.getElem?_range q]
    exact(congrArg some (hl i _ (List.getElem?_eq_getElem q))).trans (List.getElem?_eq_getElem q).symm
   ·rw[List.getElem?_eq_none (by simpa using q),List.getElem?_eq_none q];rfl
  have:=this _ h
  rw[dif_neg (by simp)]
  show _=Value.tuple ((List.range (u::v::r).length).map fun j=>a''.tmps.getD (np+j) undef).toArray
  rw[this]
theorem NM{E:aN}{K:gA}(hE:tV P K E){f:FuncId}{fn:Func}{c:Code}{S:ac}(hf:P.funcs[f]?=some fn) (hb:fn.body=some c) (hN:E.N=fn.ntmps) (hn:S.pars.length≤fn.ntmps) (hr:fn.results.size=S.res.length)
  (hl:eR E c) (hg:∀x r,S.g x=some r→aF E fn S x=some r):nX P K f S:=by
 intro Y L I a w x r hx h hK hY hw
 subst hK
 refine calls_of_wp hf hb ?_
 have hreal:S.real≤S.pars.length:=by unfold ac.real;omega
 have h1:=h.extend (N:=fn.ntmps) (r:=S.real) (by rw[hY];exact hreal) (by omega)
 have e:=hg x r hx
 unfold aF at e
 rw[hb]at e
 dsimp only at e
 refine Go.wp_mono (Dd hE (X:={ Y with N:=fn.ntmps }) hN c hl h1 e) fun en a' w' hp=>?_
 obtain⟨ex,s',L',I',hx',r1,r2,r3⟩:=hp
 have fin:Jj E fn S (d8 (aB 0 S.pars) x) s'=some r→a'.defers=[]∧∃v,(results fn a'.tmps).run P w' = .ok v w' ∧
   ∃v' L2 I2 a2,Ending.returned v = .returned v'∧bB { Y with N:=S.pars.length+(S.res.length+S.nb.length) } L2 I2 (d8 S.ens r) a2 w'∧(∀n,iy n=true→L2 n=L n)∧v'=A6 a2 S.pars.length S.res.length:=by
  intro e
  refine⟨r1.defers,?_⟩
  unfold Jj at e
  split at e
  ·rename_i rs os e1 e2
   obtain⟨us,g1,g2⟩:=qZ r1 hE.τ e1
   have hul:us.length=S.res.length:=by
    rw[←g2.len,ve e1, ←hr];simp
   have hos:=sO (L':=L') (I':=I') (w':=w') (A':=AL s'.o) (g:=fun i=>a.tmps.getD i undef) (fun i=>h.slot i) r2 e2
   have hsz:a.tmps.size=S.pars.length:=by rw[h.size,hY]
   let bs:=S.nb.map fun p=>us.getD p.1 undef
   have hbl:bs.length=S.nb.length:=List.length_map ..
   have hat:∀j u,us[j]?=some u→(a.tmps++us.toArray++bs.toArray).getD (S.pars.length+j) undef=u:=by
    intro j u hj
    have hjl:j<us.length:=(List.getElem?_eq_some_iff.1 hj).1
    rw[Array.getD_eq_getD_getElem?,Array.getElem?_append_left (by simp;omega),Array.getElem?_append_right (by omega),hsz,Nat.add_sub_cancel_left]
    simp[hj]
   have hat2:∀j u,bs[j]?=some u→(a.tmps++us.toArray++bs.toArray).getD (S.pars.length+S.res.length+j) undef=u:=by
    intro j u hj
    have:(a.tmps++us.toArray).size=S.pars.length+S.res.length:=by simp[hsz,hul]
    rw[Array.getD_eq_getD_getElem?,Array.getElem?_append_right (by omega),this,Nat.add_sub_cancel_left,List.getElem?_toArray,hj];rfl
   obtain⟨L2,I2,k1,_,k3⟩:=v9 r1 e (hos.append (g2.append (BA g2 S.nb))) (a':=⟨a.tmps++us.toArray++bs.toArray,[]⟩) rfl (by simp[hsz,hul,hbl]) (fun i en u z1 z2=>by
    unfold dk at z1
    rcases Nat.lt_or_ge i (gq 0 S.pars).length with q|q
    ·rw[List.getElem?_append_left q]at z1
     rw[List.getElem?_append_left (by rw[←jf];exact q)]at z2
     obtain⟨y1,y2⟩:=rH z1 z2
     rw[y1,Array.getD_eq_getD_getElem?,Array.append_assoc,Array.getElem?_append_left (by omega), ←Array.getD_eq_getD_getElem?]
    ·rw[List.getElem?_append_right q]at z1
     rw[List.getElem?_append_right (by rw[←jf];exact q), ←jf]at z2
     generalize i-(gq 0 S.pars).length=m at z1 z2
     rcases Nat.lt_or_ge m S.res.length with q2|q2
     ·rw[List.getElem?_append_left (by rw[od];exact q2)]at z1
      rw[List.getElem?_append_left (by omega)]at z2
      rw[wh z1]
      exact hat _ u z2
     ·rw[List.getElem?_append_right (by rw[od];exact q2),od]at z1
      rw[List.getElem?_append_right (by omega),hul]at z2
      rw[yu z1]
      exact hat2 _ u z2)
   refine⟨_,AZ g1,_,L2,I2,⟨a.tmps++us.toArray++bs.toArray,[]⟩,rfl,k1,fun n hn=>(k3 n hn).trans (r2 n hn),?_⟩
   rw[←hul]
   exact Jk (a'':=⟨a.tmps++us.toArray++bs.toArray,[]⟩) hat
  ·cases e
 cases ex with
 |normal =>
  cases en<;>try exact hx'.elim
  exact fin r3
 |exit i=>cases r3
 |ret =>
  cases en<;>try exact hx'.elim
  exact fin r3
end
def Gl (sz:TypeId→Nat) (r:TypeId→Option Ty):Nat→List Field→Option Ty
 |_,[]=>none
 |off,[f]=>match r f.type with
  |some t=>bif Nat.beq f.offset off&&Nat.beq (sz f.type) t.sz then some t else none
  |none=>none
 |off,f::g::l=>match r f.type with
  |some t=>bif Nat.beq f.offset off&&Nat.beq (sz f.type) t.sz then(match Gl sz r (off+t.sz) (g::l)with
   |some u=>some (.pr t u)
   |none=>none)else none
  |none=>none
def AR (P:Program):Nat→TypeId→Option Ty
 |0,_=>none
 |n+1,T=>match P.underlying T with
  |some (.int k)=>some (.int k)
  |some .bool=>some .bool
  |some .string=>some .str
  |some (.slice e)=>match AR P n e with
   |some t=>bif Nat.beq (P.cellsOf e) t.sz then some (.sl t)else none
   |none=>none
  |some (.struct fs)=>match Gl P.cellsOf (AR P n) 0 fs.toList with
   |some t=>bif Nat.beq (P.cellsOf T) t.sz then some t else none
   |none=>none
  |_=>none
def tU:(t:Ty)→t.den→Prop
 | .int k,n=>(Lit.int k n).wf=true
 | .bool,_=>True
 | .str,s=>ByteArray.size s≤maxLen
 | .sl t,xs=>List.length xs≤maxLen∧∀x∈(show List t.den from xs),tU t x
 | .pr a b,x=>tU a x.1∧tU b x.2
section
variable{H:Type}{enc:TypeId×Value→H}{P:Program}{w:World}{sp:Nat→Bool}{held:Bool}
theorem FS{a:Addr}{n:Nat}{cs:List Value}(h:w.cells? 0 a n=some cs):cs.length=n∧∀j u,cs[j]?=some u→w.cell? (a.add j)=some u:=by
 unfold World.cells? at h
 split at h
 ·have hl:=mapM_some_length h
  refine⟨by simpa using hl,fun j u hu=>?_⟩
  have hj:j<n:=by
   grind
  have:=mapM_some_get h j j (by simp[hj])
  rw[this,hu]
 ·cases h
theorem FT{a:Addr}{u:Value}(h:w.cell? a=some u):a=⟨a.block,a.off,none⟩∧a.block<w.heap.size:=by
 have hspot:a.spot=none:=by
  cases hsp:a.spot with
  |none=>rfl
  |some s =>
   grind [split,World.cell?]
 exact⟨by cases a;simp_all,World.block_lt_of_cell? w a h⟩
theorem F0 (b off j:Nat):(⟨b,off,none⟩:Addr).add j=⟨b,off+j,none⟩:=by
 unfold Addr.add
 by_cases h:j=0
 ·subst h;rfl
 ·simp_all
def IW (w:World) (t:Ty) (cs:List Value):Prop:=∃d:t.den,cK (fun b=>b<w.heap.size) w t d cs∧tU t d
theorem vw {α β:Type}{R:Nat→α→β→Prop}:∀{n:Nat},(∀i,i<n→∃a b,R i a b)→∃(xs:List α) (ys:List β),xs.length=n∧ys.length=n∧∀(i:Nat) (x:α) (y:β),xs[i]?=some x→ys[i]?=some y→R i x y
 |0,_=>⟨[],[],rfl,rfl,fun _ _ _ h=>by cases h⟩
 |n+1,h=>by
  obtain⟨xs,ys,h1,h2,h3⟩:=vw (n:=n) (fun i hi=>h i (by omega))
  obtain⟨a,b,hab⟩:=h n (by omega)
  refine⟨xs++[a],ys++[b],by simp[h1],by simp[h2],fun i x y hx hy=>?_⟩
  rcases Nat.lt_or_ge i n with q|q
  ·grind
  ·grind
theorem vB {α β:Type}{R:α→β→Prop}:∀{xs:List α}{ys:List β},xs.length=ys.length→(∀(i:Nat) (x:α) (y:β),xs[i]?=some x→ys[i]?=some y→R x y)→aD R xs ys
 |[],[],_,_=>trivial
 |x::xs,y::ys,h,g=>⟨g 0 x y rfl rfl,vB (by simpa using h) (fun i a b ha hb=>g (i+1) a b ha hb)⟩
 |[],_::_,h,_=>by cases h
 |_::_,[],h,_=>by cases h
theorem vu{sz:Nat}:∀{css:List (List Value)},(∀cs∈css,cs.length=sz)→∀{j:Nat}{u:Value},css.flatten[j]?=some u→∃i k cs,j=i*sz+k∧css[i]?=some cs∧cs[k]?=some u
 |[],_,_,_,h=>by simp at h
 |c::css,hl,j,u,h=>by
  rw[List.flatten_cons]at h
  have hc:=hl c (List.mem_cons_self ..)
  rcases Nat.lt_or_ge j c.length with q|q
  ·rw[List.getElem?_append_left q]at h
   exact⟨0,j,c,by omega,rfl,h⟩
  ·rw[List.getElem?_append_right q]at h
   obtain⟨i,k,cs,h1,h2,h3⟩:=vu (fun x hx=>hl x (List.mem_cons_of_mem _ hx)) h
   exact⟨i+1,k,cs,by rw[Nat.add_mul];omega,h2,h3⟩
theorem Jm{e:Nat}{t:Ty}{n:Nat}(ih:∀cs (x:DataW H×List MemPlace),DataW.trod enc P w 0 sp held n e cs=some x→IW w t cs) (hsz:P.cellsOf e=t.sz){a:Addr}{len cap:Nat}(hl:len≤cap) (hc:cap≤maxLen)
  {el:Nat→Option (DataW H×List MemPlace)}(hel:∀i,i<len→(w.cells? 0 (a.add (i*P.cellsOf e)) (P.cellsOf e)).bind (DataW.trod enc P w 0 sp held n e)=el i) (hs:∀i,i<len→(el i).isSome=true):IW w (.sl t) [.slice (some a) len cap]:=by
 have each:∀i,i<len→∃(d:t.den) (cs:List Value),(cK (fun b=>b<w.heap.size) w t d cs∧tU t d)∧(∀k u,cs[k]?=some u→w.cell? ((a.add (i*t.sz)).add k)=some u)∧cs.length=t.sz:=by
  intro i hi
  have h1:=hel i hi
  have h2:=hs i hi
  cases he:el i with
  |none=>simp_all
  |some y =>
   rw[he,Option.bind_eq_some_iff]at h1
   obtain⟨cs,h3,h4⟩:=h1
   obtain⟨d,h5⟩:=ih cs y h4
   rw[hsz]at h3
   obtain⟨h6,h7⟩:=FS h3
   exact⟨d,cs,h5,h7,h6⟩
 obtain⟨xs,css,g1,g2,g3⟩:=vw each
 have add2:∀(i k:Nat),(a.add i).add k=a.add (i+k):=by
  intro i k
  unfold Addr.add
  by_cases hi:i=0
  ·simp_all
  ·grind
 have hcl:∀cs∈css,cs.length=t.sz:=by
  intro cs hcs
  obtain⟨i,hi⟩:=List.getElem?_of_mem hcs
  have hlt:i<xs.length:=by have:=(List.getElem?_eq_some_iff.1 hi).1;omega
  exact(g3 i _ cs (List.getElem?_eq_getElem hlt) hi).2.2
 refine⟨xs,⟨some a,cap,css,by rw[g1],by rw[g1];exact hl,vB (by omega) (fun i x cs hx hcs=>(g3 i x cs hx hcs).1.1),?_⟩,by rw[g1];omega,fun x hx=>?_⟩
 ·cases hxs:xs with
  |nil=>exact .inl rfl
  |cons x0 r =>
   refine .inr ?_
   have h0:0<len:=by grind
   have hcss:0<css.length:=by omega
   have e0:=g3 0 xs[0] css[0] (List.getElem?_eq_getElem (by omega)) (List.getElem?_eq_getElem hcss)
   have hp:=t.sz_pos
   have hk0:0<css[0].length:=by omega
   have c0:=e0.2.1 0 css[0][0] (List.getElem?_eq_getElem hk0)
   rw[add2,show 0*t.sz+0=0 by omega]at c0
   obtain⟨hsp,s3⟩:=FT (show w.cell? a=_ from c0)
   refine⟨a.block,a.off,by rw[←hsp],s3,fun j u hu=>?_⟩
   obtain⟨i,k,cs,q1,q2,q3⟩:=vu hcl hu
   have hlt:i<xs.length:=by grind
   have c1:=(g3 i _ cs (List.getElem?_eq_getElem hlt) q2).2.1 k u q3
   rw[add2,hsp,F0]at c1
   rw[q1]
   exact c1
 ·obtain⟨i,hi⟩:=List.getElem?_of_mem hx
  have hlt:i<css.length:=by grind
  exact(g3 i x _ hi (List.getElem?_eq_getElem hlt)).1.2
theorem DR{n:Nat}{r:TypeId→Option Ty}(ih:∀T t,r T=some t→∀cs (x:DataW H×List MemPlace),DataW.trod enc P w 0 sp held n T cs=some x→IW w t cs){cs:List Value}:∀(fs:List Field) (off:Nat) (t:Ty),Gl P.cellsOf r off fs=some t →
  (∀f∈fs, ∃x,DataW.trod enc P w 0 sp held n f.type ((cs.drop f.offset).take (P.cellsOf f.type))=some x)→(cs.drop off).length=t.sz→IW w t (cs.drop off)
 |[],_,_,h,_,_=>by cases h
 |[f],off,t,h,hf,hl=>by
  simp only[Gl]at h
  split at h
  ·rename_i u hu
   cases q:(Nat.beq f.offset off&&Nat.beq (P.cellsOf f.type) u.sz)with
   |false=>simp_all
   |true =>
    rw[q]at h
    obtain rfl:=Option.some.inj h
    rw[Bool.and_eq_true]at q
    obtain⟨x,hx⟩:=hf f (List.mem_cons_self ..)
    rw[Nat.eq_of_beq_eq_true q.1,Nat.eq_of_beq_eq_true q.2,List.take_of_length_le (by omega)]at hx
    exact ih _ _ hu _ x hx
  ·cases h
 |f::g::l,off,t,h,hf,hl=>by
  simp only[Gl]at h
  split at h
  ·rename_i u hu
   cases q:(Nat.beq f.offset off&&Nat.beq (P.cellsOf f.type) u.sz)with
   |false=>simp_all
   |true =>
    rw[q]at h
    simp only[cond_true]at h
    rw[Bool.and_eq_true]at q
    split at h
    ·rename_i v hv
     obtain rfl:=Option.some.inj h
     obtain⟨x,hx⟩:=hf f (List.mem_cons_self ..)
     rw[Nat.eq_of_beq_eq_true q.1,Nat.eq_of_beq_eq_true q.2]at hx
     obtain⟨d1,r1,f1⟩:=ih _ _ hu _ x hx
     have hl2:(cs.drop (off+u.sz)).length=v.sz:=by
      rw[←List.drop_drop,List.length_drop,hl]
      show u.sz+v.sz-u.sz=_
      omega
     obtain⟨d2,r2,f2⟩:=DR ih (g::l) (off+u.sz) v hv (fun y hy=>hf y (List.mem_cons_of_mem _ hy)) hl2
     refine⟨(d1,d2),⟨_,_,?_,r1,r2⟩,f1,f2⟩
     rw[←List.drop_drop,List.take_append_drop]
    ·cases h
  ·cases h
theorem oh:∀(n:Nat) (T:TypeId) (t:Ty),AR P n T=some t→∀(fuel:Nat) (cs:List Value) (x:DataW H×List MemPlace),DataW.trod enc P w 0 sp held fuel T cs=some x→IW w t cs
 |0,_,_,h,_,_,_,_=>by cases h
 |n+1,T,t,h,fuel,cs,x,hx=>by
  unfold AR at h
  split at h
  ·rename_i k hu
   obtain rfl:=Option.some.inj h
   obtain⟨m,rfl,_,hw⟩:=DataW.trod_int hu hx
   exact⟨m,rfl,hw⟩
  ·rename_i hu
   obtain rfl:=Option.some.inj h
   obtain⟨m,rfl,_⟩:=DataW.trod_bool hu hx
   exact⟨m,rfl,trivial⟩
  ·rename_i hu
   obtain rfl:=Option.some.inj h
   obtain⟨s,rfl,_,hs⟩:=DataW.trod_string hu hx
   exact⟨s,rfl,hs⟩
  ·rename_i e hu
   split at h
   ·rename_i u he
    cases q:Nat.beq (P.cellsOf e) u.sz with
    |false=>simp_all
    |true =>
     rw[q]at h
     obtain rfl:=Option.some.inj h
     rcases DataW.trod_slice hu hx with⟨rfl,_⟩|⟨a,len,cap,elems,rest,m,rfl,rfl,rfl,_,hl,hm,hlen,hel,_,_⟩
     ·exact⟨[],⟨none,0,[],rfl,Nat.le_refl _,trivial, .inl rfl⟩,Nat.zero_le _,fun x hx=>by cases hx⟩
     ·exact Jm (fun cs y hy=>oh n e u he m cs y hy) (Nat.eq_of_beq_eq_true q) hl hm hel (fun i hi=>by rw[List.getElem?_eq_getElem (by omega)];rfl)
   ·cases h
  ·rename_i fs hu
   split at h
   ·rename_i u hf
    cases q:Nat.beq (P.cellsOf T) u.sz with
    |false=>simp_all
    |true =>
     rw[q]at h
     obtain rfl:=Option.some.inj h
     obtain⟨xs,m,rfl,rfl,hcl,hxl,hel⟩:=DataW.trod_struct hu hx
     have:=DR (P:=P) (fun T t ht cs y hy=>oh n T t ht m cs y hy) (cs:=cs) fs.toList 0 u hf (fun f hfm=>by
      obtain⟨i,hi⟩:=List.getElem?_of_mem hfm
      have hi':fs[i]?=some f:=by simpa using hi
      have hlt:i<xs.length:=by rw[hxl];exact(Array.getElem?_eq_some_iff.1 hi').1
      refine⟨xs[i],?_⟩
      rw[hel i f hi',List.getElem?_eq_getElem hlt]) (by rw[List.drop_zero,hcl];exact Nat.eq_of_beq_eq_true q)
     simpa using this
   ·cases h
  ·cases h
end
def flat:Ty→List Ty
 | .pr a b=>flat a++flat b
 | .int k=>[.int k]
 | .bool=>[.bool]
 | .str=>[.str]
 | .sl t=>[.sl t]
def zd:(t:Ty)→t.den→List DV
 | .pr a b,x=>zd a x.1++zd b x.2
 | .int k,x=>[⟨.int k,x⟩]
 | .bool,x=>[⟨.bool,x⟩]
 | .str,x=>[⟨.str,x⟩]
 | .sl t,x=>[⟨.sl t,x⟩]
def DV.cv (d:DV):CV := .v d.t d.x
theorem Eo:∀(t:Ty) (x:t.den),(zd t x).map DV.t=flat t
 | .pr a b,x=>by simp only[zd,flat,List.map_append,Eo a,Eo b]
 | .int k,x=>rfl
 | .bool,x=>rfl
 | .str,x=>rfl
 | .sl t,x=>rfl
theorem uL:∀(t:Ty) (x:t.den),(zd t x).map DV.cv=split t x
 | .pr a b,x=>by simp only[zd,split,List.map_append,uL a,uL b]
 | .int k,x=>rfl
 | .bool,x=>rfl
 | .str,x=>rfl
 | .sl t,x=>rfl
theorem xe:∀(t:Ty) (x:t.den),tU t x→∀d∈zd t x,tU d.t d.x
 | .pr a b,x,h,d,hd=>by
  rcases List.mem_append.1 hd with q|q
  ·exact xe a _ h.1 d q
  ·exact xe b _ h.2 d q
 | .int k,x,h,d,hd=>by grind [tU,zd]
 | .bool,x,h,d,hd=>by grind [tU,zd]
 | .str,x,h,d,hd=>by grind [tU,zd]
 | .sl t,x,h,d,hd=>by grind [tU,zd]
theorem Ff{t u:Ty}{r:List Ty}{d:DV}{ds:List DV}{x:t.den}{y:TD (u::r)}(h1:d.as t=some x) (h2:rF (u::r) ds=some y):rF (t::u::r) (d::ds)=some (x,y):=by
 unfold rF
 rw[h1,h2]
theorem yk:∀ds:List DV, ∃x,rF (ds.map DV.t) ds=some x
 |[]=>⟨(),rfl⟩
 |[d]=>⟨d.x,kx d.x⟩
 |d::e::r=>by
  obtain⟨x,hx⟩:=yk (e::r)
  exact⟨(d.x,x),Ff (kx d.x) hx⟩
structure jr where
 t:Ty
 agg:Bool
 x:t.den
 u:Value
def jr.par (a:jr):Cr:=bif a.agg then .g ((flat a.t).map .i)else .c (.i a.t)
def jr.dv (a:jr):List DV:=bif a.agg then zd a.t a.x else [⟨a.t,a.x⟩]
def jr.av (a:jr):AV:=bif a.agg then .g (split a.t a.x)else .c (.v a.t a.x)
def jr.ok (w:World) (a:jr):Prop:=tU a.t a.x∧(a.agg=true→∃vs,a.u = .agg vs.toArray∧cK (fun b=>b<w.heap.size) w a.t a.x vs)∧(a.agg=false→cK (fun b=>b<w.heap.size) w a.t a.x [a.u])
theorem yy (nm:Nat→PS→Nm):∀(ts:List Ty) (k:Nat) (ds:List DV),ds.length=ts.length→gG nm k (ts.map .i) ds=ds.map DV.cv∧ui nm k (ts.map .i) ds=[]
 |[],_,[],_=>⟨rfl,rfl⟩
 |[],_,_::_,h=>by cases h
 |_::_,_,[],h=>by cases h
 |t::ts,k,d::ds,h=>by
  obtain⟨h1,h2⟩:=yy nm ts (k+1) ds (by simpa using h)
  constructor
  ·simp_all [pE,gG,DV.cv,ui]
  ·trivial
def vA:Nat→List jr→List (Nat×AV)
 |_,[]=>[]
 |k,a::r=>(k,a.av)::vA (k+1) r
theorem D9:∀(l:List jr) (k:Nat),cC (aB k (l.map jr.par)) (l.flatMap jr.dv)=vA k l∧fR (aB k (l.map jr.par)) (l.flatMap jr.dv)=[]∧bg (aB k (l.map jr.par))=(l.flatMap jr.dv).map DV.t
 |[],_=>⟨rfl,rfl,rfl⟩
 |a::r,k=>by
  obtain⟨h1,h2,h3⟩:=D9 r (k+1)
  obtain⟨t,agg,x,u⟩:=a
  cases agg with
  |true =>
   have hl:(zd t x).length=(flat t).length:=by rw[←Eo t x,List.length_map]
   have hl2:(zd t x).length=((flat t).map PS.i).length:=by rw[List.length_map];exact hl
   obtain⟨c1,c2⟩:=yy (rJ k) (flat t) 0 (zd t x) hl
   refine⟨?_,?_,?_⟩
   ·show(k,AV.g (gG (rJ k) 0 ((flat t).map PS.i) ((zd t x++r.flatMap jr.dv).take ((flat t).map PS.i).length)))::cC (aB (k+1) (r.map jr.par)) ((zd t x++r.flatMap jr.dv).drop ((flat t).map PS.i).length)=_
    rw[←hl2,List.take_left,List.drop_left,h1,c1,uL];rfl
   ·show ui (rJ k) 0 ((flat t).map PS.i) ((zd t x++r.flatMap jr.dv).take ((flat t).map PS.i).length)++fR (aB (k+1) (r.map jr.par)) ((zd t x++r.flatMap jr.dv).drop ((flat t).map PS.i).length)=_
    rw[←hl2,List.take_left,List.drop_left,h2,c2];rfl
   ·show((flat t).map PS.i).map PS.ty++bg (aB (k+1) (r.map jr.par))=(zd t x++r.flatMap jr.dv).map DV.t
    rw[h3,List.map_append,Eo,List.map_map]
    congr 1
    exact(List.map_congr_left fun _ _=>rfl).trans (List.map_id _)
  |false =>
   refine⟨?_,?_,?_⟩
   ·show(k,AV.c (.v t x))::cC (aB (k+1) (r.map jr.par)) (r.flatMap jr.dv)=_
    rw[h1];rfl
   ·trivial
   ·show t::bg (aB (k+1) (r.map jr.par))=t::(r.flatMap jr.dv).map DV.t
    rw[h3]
theorem yE{L:Nm→Value}{I:Nat→Prop}{w:World}{A:Nm→Option (Nat×Nat)}:∀(l:List jr) (k i:Nat),(∀a∈l,RA L I w A a.av a.u)→RA L I w A (dH (vA k l) (k+i)) ((l.map jr.u).getD i undef)
 |[],_,_,_=>trivial
 |a::r,k,0,h=>by
  simp_all [jr.av,dH,vA]
 |a::r,k,i+1,h=>by
  show RA L I w A (bif Nat.beq k (k+(i+1))then a.av else dH (vA (k+1) r) (k+(i+1))) _
  rw[dl (by omega:k≠k+(i+1)),show k+(i+1)=(k+1)+i by omega]
  exact yE r (k+1) i (fun b hb=>h b (List.mem_cons_of_mem _ hb))
theorem Ec:∀(l:List jr) (k i:Nat),k+l.length≤i→dH (vA k l) i = .c .dead
 |[],_,_,_=>rfl
 |a::r,k,i,h=>by
  show(bif Nat.beq k i then a.av else dH (vA (k+1) r) i)=_
  have h:k+(r.length+1)≤i:=h
  rw[dl (by omega:k≠i)]
  exact Ec r (k+1) i (by omega)
theorem vh:∀(l:List jr) (k:Nat),gq k (l.map jr.par)=[]
 |[],_=>rfl
 |a::r,k=>by
  obtain⟨t,agg,x,u⟩:=a
  have:=vh r (k+1)
  cases agg<;>exact this
def IX (ts:List Ty) (x:TD ts):Prop:=∀d∈au ts x,tU d.t d.x
theorem qG{n:Nat}{xs:Array Value}(h:xs.size≤n):first n xs=xs:=by
 grind [first]
theorem Fy{P:Program}{K:gA}{f:FuncId}{pars:List Cr}{g:Nat→TD (bg (aB 0 pars))→Option (TD (bg (dk pars [(false,[.i .bool])] [])))}
  (obs:∀n,nX P K f { pars:=pars,res:=[(false,[.i .bool])],g:=g n }) (pure:∀x,IX _ x→∃n r,g n x=some r∧au _ r=[⟨.bool,true⟩])
  {W:World}(hK:K.ok W) (hKb:∀b,K.blk b→b<W.heap.size){l:List jr}(hl:l.map jr.par=pars) (hok:∀a∈l,a.ok W) :
  Calls P f (l.map jr.u).toArray W fun e w'=>e = .returned (.bool true)∧RowKit.Below W.heap.size W w':=by
 subst hl
 obtain⟨m1,m2,m3⟩:=D9 l 0
 obtain⟨x,hx⟩:∃x,rF (bg (aB 0 (l.map jr.par))) (l.flatMap jr.dv)=some x:=by
  rw[m3];exact yk _
 have hux:=mA hx
 obtain⟨n,r,hr,hur⟩:=pure x (fun d hd=>by
  rw[hux]at hd
  obtain⟨a,ha,hd⟩:=List.mem_flatMap.1 hd
  have hf:=(hok a ha).1
  obtain⟨t,agg,y,u⟩:=a
  cases agg with
  |true=>exact xe t y hf d hd
  |false=>obtain rfl:=List.mem_singleton.1 hd;exact hf)
 let Y:qT:={ K:=K,N:=l.length,w0:=W,E:=fun _ _=>False,I0:=fun b=>b<W.heap.size }
 have hst:d8 (aB 0 (l.map jr.par)) x=⟨dH (vA 0 l),fun _=>none⟩:=by
  unfold d8 Fu
  rw[hux,m1,m2]
  rfl
 have hrel:bB Y (fun _=>undef) (fun b=>b<W.heap.size) (d8 (aB 0 (l.map jr.par)) x) ⟨(l.map jr.u).toArray,[]⟩ W:=by
  rw[hst]
  refine⟨rfl,by simp[Y],fun i hi=>?_,fun i hi=>Ec l 0 i (by show 0+l.length≤i;have:l.length≤i:=hi;omega),fun _ _ h=>(by cases h),fun _ _ _ _ h=>(by cases h),fun _ _ h=>(by cases h),fun b hb=>⟨hb, .inl hb⟩,fun b hb=>hb,bn.refl _ _,hK,hKb⟩
  have:=yE (L:=fun _=>undef) (I:=fun b=>b<W.heap.size) (w:=W) (A:=AL (fun _=>none)) l 0 i (fun a ha=>by
   obtain⟨_,h2,h3⟩:=hok a ha
   obtain⟨t,agg,y,u⟩:=a
   cases agg with
   |true=>obtain⟨vs,h4,h5⟩:=h2 rfl;exact⟨vs,h4,fH t h5⟩
   |false=>exact h3 rfl)
  rw[Nat.zero_add]at this
  simpa using this
 have hc:=obs n Y _ _ ⟨(l.map jr.u).toArray,[]⟩ W x r hr hrel rfl (by simp[Y]) rfl
 rw[show first (ac.real { pars:=l.map jr.par,res:=[(false,[.i .bool])],g:=g n }) (⟨(l.map jr.u).toArray,[]⟩:Act).tmps=(l.map jr.u).toArray from qG (by unfold ac.real;simp)]at hc
 refine hc.mono fun e w' h=>?_
 obtain⟨v,L',I',a',rfl,hR,_,rfl⟩:=h
 have hs:=hR.slot (l.map jr.par).length
 have hlk:(d8 (ac.ens { pars:=l.map jr.par,res:=[(false,[.i .bool])],g:=g n }) r).t (l.map jr.par).length = .c (.v .bool true):=by
  unfold d8 Fu
  rw[show au (bg (ac.ens { pars:=l.map jr.par,res:=[(false,[.i .bool])],g:=g n })) r=[⟨.bool,true⟩]from hur]
  show dH (cC (gq 0 (l.map jr.par)++_) _) _=_
  rw[vh]
  show(bif Nat.beq (l.map jr.par).length (l.map jr.par).length then _ else _)=_
  rw[Nat.beq_refl];rfl
 rw[hlk]at hs
 have hs:a'.tmps.getD (l.map jr.par).length undef = .bool true:=List.head_eq_of_cons_eq hs
 exact⟨congrArg Ending.returned hs,bn.below hR.step⟩
end AM
end Go.Proofs.YtobpcllkonomlaaGreatDoor
