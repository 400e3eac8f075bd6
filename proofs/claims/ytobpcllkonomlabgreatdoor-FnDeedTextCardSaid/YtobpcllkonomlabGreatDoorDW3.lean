/- Regions of which the orders are too many to list: what only makes (a value, a box, what a call hands back) may stand on either side of its like, a store into a box that one slot alone leads to may be overtaken. No condition. And what follows it: see the remarks. -/
import Derived.Test.YtobpcllkonomlabGreatDoorDW2
import Derived.ChangeArms
import Derived.Carry
import Derived.ChangeShapes
namespace Go.Proofs.YtobpcllkonomlabGreatDoor
namespace AM
open Go
set_option linter.unusedVariables false
set_option linter.unusedSimpArgs false
def stg (E:aK) (l:List Oper) (o:Oper) (s:St):Option St:=cT E l [o] s some
def yp (E:aK) (l:List Oper):List Oper→St→Option St
 |[],s=>some s
 |o::r,s=>(stg E l o s).bind (yp E l r)
theorem qC{R:Type}{E:aK}{all:List Oper}:∀{l:List Oper}{s:St}(k:St→Option R),cT E all l s k=(yp E all l s).bind k
 |[],s,k=>rfl
 |o::r,s,k=>by
  show _=((stg E all o s).bind (yp E all r)).bind k
  rw[pL]
  unfold stg
  cases cT E all [o] s some with
  |none=>rfl
  |some s1=>exact qC k
def CU (l:List Oper) (o:Oper):Option (Option Nat×Bool):=match o.guard with
 |none=>none
 |some (j,w)=>some ((l[j]?).bind (·.dst),w)
def gd (l:List Oper) (o:Oper) (s:St):Option Bool:=match CU l o with
 |none=>some true
 |some (none,_)=>none
 |some (some t,w)=>match mi (s.t t)with
  |some b=>some (b==w)
  |none=>bif kp (s.t t)then some false else none
theorem GW{s:St}{t:Nat}{b:Bool}(h:mi (s.t t)=some b):s.know (.tmp t) b=s:=by
 have e:s.t t = .c (.v .bool b):=by
  cases q:s.t t with
  |c x =>
   rw[q]at h
   cases x with
   |v ty y =>
    cases ty with
    |bool=>simp_all [mi,St.know]
    |_=>cases h
   |_=>cases h
  |_=>rw[q]at h;cases h
 show St.mk _ _=s
 cases s with
 |mk ts os =>
  congr 1
  funext i
  show(bif Nat.beq i t then _ else ts i)=ts i
  cases q:Nat.beq i t with
  |false=>rfl
  |true=>simp_all
theorem At{E:aK}{l:List Oper}{o:Oper}{s:St}:stg E l o s=match gd l o s with
  |some true=>pm E o s some
  |some false=>bif dm E.N o.dst then some (s.put o.dst nH)else none
  |none=>none:=by
 unfold stg gd CU
 simp only[cT]
 cases hg:o.guard with
 |none=>rfl
 |some gw =>
  obtain⟨j,w⟩:=gw
  dsimp only
  cases ht:(l[j]?).bind (·.dst)with
  |none=>rfl
  |some t =>
   dsimp only
   cases hb:mi (s.t t)with
   |none=>cases q:kp (s.t t)<;>cases q2:dm E.N o.dst<;>rfl
   |some b =>
    have hk:=GW hb
    dsimp only
    cases b<;>cases w<;>(dsimp only;rw[hk];rfl)
def Mf:Operand→List Nat
 | .tmp t=>[t]
 |_=>[]
def WR (l:List Oper) (o:Oper):List Nat:=match CU l o with
 |some (some t,_)=>[t]
 |_=>[]
def gR (l:List Oper) (o:Oper):List Nat:=o.op.operands.toList.flatMap Mf++WR l o
theorem FA{l:List Oper}{o:Oper}{s s':St}(h:∀t∈gR l o,s'.t t=s.t t):gd l o s'=gd l o s:=by
 have h:∀t∈WR l o,s'.t t=s.t t:=fun t ht=>h t (List.mem_append_right _ ht)
 unfold gd
 unfold WR at h
 cases hg:CU l o with
 |none=>rfl
 |some p =>
  obtain⟨a,w⟩:=p
  cases a with
  |none=>rfl
  |some t =>
   simp_all
theorem oO{l:List Oper}{o:Oper}{s s':St}(h:∀t∈gR l o,s'.t t=s.t t):∀x∈o.op.operands,s.ev x=s'.ev x:=fun x hx=>by
 cases x with
 |tmp t=>exact(h t (List.mem_append_left _ (List.mem_flatMap.2 ⟨_,Array.mem_toList_iff.2 hx,List.mem_singleton.2 rfl⟩))).symm
 |_=>rfl
theorem ug{l:List Oper}{o:Oper}{s:St}{x:Operand}{n:Nm}(hx:x∈o.op.operands) (hm:aD (s.ev x) n):∃t∈gR l o,aD (s.t t) n:=by
 cases x with
 |tmp t=>exact⟨t,List.mem_append_left _ (List.mem_flatMap.2 ⟨_,Array.mem_toList_iff.2 hx,List.mem_singleton.2 rfl⟩),hm⟩
 |const v=>exact absurd hm (oA v n)
 |global g=>trivial
 |func f=>trivial
def cP:Ob→Nm→Prop
 | .box cs,n=>bR cs n
 |_,_=>False
def ca (d:Nat):Nm→Bool
 |[]=>false
 |x::_=>Nat.beq x d
theorem uG{d e:Nat}(h:d≠e){n:Nm}(hd:ca d n=true):ca e n=false:=by
 cases n with
 |nil=>cases hd
 |cons x r =>
  simp_all [dH,ca]
def iq (τ:lj) (o:Oper):Bool:=match o.op with
 | .move _=>true
 | .assign _=>true
 | .load _ _=>true
 | .fieldAddr _ _ _=>true
 | .field _ _ _=>true
 | .nilCheck _=>true
 | .extract _ _=>true
 | .binOp _ _ _ _ _=>true
 | .unOp _ _ _=>true
 | .pick _ _ _=>true
 | .convert q d _ => !Nat.beq q d
 | .call { callee := .builtin .len, .. }=>true
 | .indexAddr _ _ _=>true
 | .build _ _=>true
 | .slice t _ _ _ none=>(match τ.get t with
  |some ti=>Nat.beq ti.kind 5
  |none=>false)
 |_=>false
def CR (n:Nm) (off sz:Nat) (j:Int):Nat→Nat→Option AV
 |_,0=>none
 |c,m+1=>bif decide (j=(c:Int))then some (.c (.pb n (off+c*sz)))else CR n off sz j (c+1) m
def yC (τ:lj) (op:Op) (e:Operand→AV):Option AV:=match op with
 | .indexAddr t x i=>match τ.get t,e x,e i with
  |some ti, .c (.pb n off), .c (.v (.int _) j)=>bif Nat.beq ti.kind 4 then(match τ.get ti.el with
   |some te=>bif Nat.blt 0 te.size then CR n off te.size j 0 (ti.size / te.size)else none
   |none=>none)else none
  |_,_,_=>none
 |_=>none
def sD (τ:lj) (op:Op) (e:Operand→AV) (o:Nm→Option Ob):Option (Bool×AV):=match fB τ op e o with
 |some r=>some r
 |none=>match yC τ op e with
  |some v=>some (true,v)
  |none=>none
theorem J0{R:Type}{s:St}{d:Nat}{n:Nm}{off sz:Nat}{j:Int}{k:St→Option R}:∀(m c:Nat),rX s d n off sz j k c m=(CR n off sz j c m).bind fun v=>k (s.put (some d) v)
 |0,c=>rfl
 |m+1,c=>by
  show(bif decide (j=(c:Int))then _ else rX s d n off sz j k (c+1) m)=(bif decide (j=(c:Int))then _ else CR n off sz j (c+1) m).bind _
  rw[J0 m (c+1)]
  cases decide (j=(c:Int))<;>rfl
theorem NW{R:Type} {τ:lj}{op:Op}{d:Nat}{s:St}{k:St→Option R}:tY τ op d s k=(yC τ op s.ev).bind fun v=>k (s.put (some d) v):=by
 cases op with
 |indexAddr t x i =>
  grind [rX,CR,split,J0,tY,yC,St.ev,St.put]
 |_=>rfl
theorem zJ{n:Nm}{off sz:Nat}{j:Int}{v:AV}:∀{m c:Nat},CR n off sz j c m=some v→∃k,v = .c (.pb n k)
 |0,c,h=>by cases h
 |m+1,c,h=>by
  have h:(bif decide (j=(c:Int))then some (AV.c (.pb n (off+c*sz)))else CR n off sz j (c+1) m)=some v:=h
  cases q:decide (j=(c:Int))with
  |true=>grind
  |false=>rw[q]at h;exact zJ h
theorem Io {τ:lj}{op:Op}{e:Operand→AV}{v:AV}(h:yC τ op e=some v){n:Nm}(hm:aD v n):∃x∈op.operands,aD (e x) n:=by
 cases op with
 |indexAddr t x i =>
  unfold yC at h
  dsimp only at h
  split at h
  ·rename_i ti m off ik j e1 e2 e3
   refine⟨x,by simp[Op.operands],?_⟩
   rw[e2]
   generalize Nat.beq ti.kind 4=q at h
   cases q with
   |false=>cases h
   |true =>
    dsimp only[cond_true]at h
    split at h
    ·rename_i te e4
     generalize Nat.blt 0 te.size=q2 at h
     cases q2 with
     |false=>cases h
     |true =>
      obtain⟨k,rfl⟩:=zJ (show CR m off te.size j 0 (ti.size / te.size)=some v from h)
      exact hm
    ·cases h
  ·cases h
 |_=>cases h
theorem Ez {τ:lj}{op:Op}{e e':Operand→AV}(h:∀x∈op.operands,e x=e' x):yC τ op e=yC τ op e':=by
 cases op with
 |indexAddr t x i =>
  simp_all [yC,Op.operands]
 |_=>rfl
theorem Du {τ:lj}{op:Op}{e e':Operand→AV}{o:Nm→Option Ob}(h:∀x∈op.operands,e x=e' x):sD τ op e o=sD τ op e' o:=by
 unfold sD
 rw[t9 h,Ez h]
section
variable{E:aK}{l:List Oper}{o:Oper}{s s1:St}
theorem IN (h:iq E.τ o=true){d:Nat}(hd:o.dst=some d):pm (R:=St) E o s some=match sD E.τ o.op s.ev s.o with
  |some (c,v)=>bif Nat.blt d E.N then(match c with|true=>some (s.put (some d) v)|false=>none)else none
  |none=>none:=by
 have hc:∀(op:Op),o.op=op→(∀e nm,rt E.τ op e nm=none)→(∀d s,mE E.τ op d s=none) →
   (match fB E.τ op s.ev s.o with
    |some (c,v)=>bif dm E.N o.dst then(match c with|true=>some (s.put o.dst v)|false=>none)else none
    |none=>match o.dst with
     |some d=>bif Nat.blt d E.N then(match rt E.τ op (s.drop [d,0]).ev [d,0]with
      |some (c,ob,v)=>(match c with|true=>some (((s.drop [d,0]).setO [d,0] ob).put (some d) v)|false=>none)
      |none=>match mE E.τ op (some d) s with
       |some (c,s')=>(match c with|true=>some s'|false=>none)
       |none=>tY (R:=St) E.τ op d s some)else none
     |none=>match mE E.τ op none s with
      |some (c,s')=>(match c with|true=>some s'|false=>none)
      |none=>none)=(match sD E.τ op s.ev s.o with
    |some (c,v)=>bif Nat.blt d E.N then(match c with|true=>some (s.put (some d) v)|false=>none)else none
    |none=>none):=by
  intro op _ hm hw
  rw[hd]
  unfold sD
  cases fB E.τ op s.ev s.o with
  |some p=>rfl
  |none =>
   dsimp only
   rw[hm,hw]
   dsimp only
   rw[NW]
   cases yC E.τ op s.ev<;>cases Nat.blt d E.N<;>rfl
 unfold iq at h
 unfold pm
 cases hop:o.op with
 |indexAddr t x i=>exact hc _ hop (fun _ _=>rfl) fun _ _=>rfl
 |slice t x lo hi mx =>
  rw[hop]at h
  cases mx with
  |some y=>cases h
  |none =>
   refine hc _ hop (fun _ _=>rfl) fun d' s'=>?_
   dsimp only at h
   unfold mE
   dsimp only
   cases hti:E.τ.get t with
   |none=>rfl
   |some ti =>
    rw[hti]at h
    have h5:ti.kind=5:=Nat.eq_of_beq_eq_true h
    have h3:Nat.beq ti.kind 3=false:=by rw[h5];rfl
    split
    ·rename_i ti' n e1 e2
     obtain rfl:=Option.some.inj e1
     rw[h3];rfl
    ·rfl
 |move x=>exact hc _ hop (fun _ _=>rfl) fun _ _=>rfl
 |assign x=>exact hc _ hop (fun _ _=>rfl) fun _ _=>rfl
 |load t x=>exact hc _ hop (fun _ _=>rfl) fun _ _=>rfl
 |build t ps=>exact hc _ hop (fun _ _=>rfl) fun _ _=>rfl
 |fieldAddr t x f=>exact hc _ hop (fun _ _=>rfl) fun _ _=>rfl
 |field t x f=>exact hc _ hop (fun _ _=>rfl) fun _ _=>rfl
 |nilCheck x=>exact hc _ hop (fun _ _=>rfl) fun _ _=>rfl
 |extract x i=>exact hc _ hop (fun _ _=>rfl) fun _ _=>rfl
 |binOp a b c d e=>exact hc _ hop (fun _ _=>rfl) fun _ _=>rfl
 |unOp a b c=>exact hc _ hop (fun _ _=>rfl) fun _ _=>rfl
 |pick a b c=>exact hc _ hop (fun _ _=>rfl) fun _ _=>rfl
 |convert a b c =>
  rw[hop]at h
  have h3:Nat.beq a b=false:=by simp_all
  refine hc _ hop (fun _ _=>rfl) fun d' s'=>?_
  unfold mE
  dsimp only
  split
  ·rw[h3];rfl
  ·rfl
 |call c =>
  obtain⟨cl,xs,ts⟩:=c
  rw[hop]at h
  cases cl with
  |builtin b=>cases b<;>first|exact hc _ hop (fun _ _=>rfl) (fun _ _=>rfl)|cases h
  |_=>cases h
 |_=>rw[hop]at h;cases h
theorem Kg {τ:lj}{op:BinOp}{xt:Nat}{x y:AV}{c:Bool}{v:AV}(h:bin τ op xt x y=some (c,v)) (n:Nm):¬aD v n:=by
 have one:∀{k:IntKind}{a b:Int}{op:BinOp}{r:Bool×CV},J1 op k a b=some r→¬dK r.2 n:=by
  intro k a b op r hr
  unfold J1 at hr
  cases op<;>first|(cases hr;done)|(obtain rfl:=Option.some.inj hr;exact fun q=>q)
 have two:∀{a b:ByteArray}{op:BinOp}{r:Bool×CV},I7 op a b=some r→¬dK r.2 n:=by
  intro a b op r hr
  unfold I7 at hr
  cases op<;>first|(cases hr;done)|(obtain rfl:=Option.some.inj hr;exact fun q=>q)
 have three:∀{a b:Bool}{op:BinOp}{r:Bool×CV},Kh op a b=some r→¬dK r.2 n:=by
  intro a b op r hr
  unfold Kh at hr
  cases op<;>first|(cases hr;done)|(obtain rfl:=Option.some.inj hr;exact fun q=>q)
 unfold bin at h
 split at h
 ·split at h
  ·obtain⟨rfl,rfl⟩:=Prod.mk.inj (Option.some.inj h);exact fun q=>q
  ·obtain⟨rfl,rfl⟩:=Prod.mk.inj (Option.some.inj h);exact fun q=>q
  ·grind [bin,aD]
 ·grind [bin,aD]
 ·grind [bin,aD]
 ·split at h
  ·split at h
   ·split at h
    ·obtain⟨rfl,rfl⟩:=Prod.mk.inj (Option.some.inj h);exact fun q=>q
    ·obtain⟨rfl,rfl⟩:=Prod.mk.inj (Option.some.inj h);exact fun q=>q
    ·cases h
   ·cases h
  ·cases h
 ·cases h
theorem qA{cs:List CV}{off k:Nat}{agg:Bool}{v:AV}(h:part cs off k agg=some v){n:Nm}(hm:aD v n):bR cs n:=by
 unfold part at h
 cases q:Nat.ble (off+k) cs.length with
 |false=>simp_all
 |true =>
  rw[q]at h
  have h:qF agg ((cs.drop off).take k)=some v:=h
  have sub:∀{c:CV},c∈(cs.drop off).take k→c∈cs:=fun hc=>List.mem_of_mem_drop (List.mem_of_mem_take hc)
  unfold qF at h
  split at h
  ·grind [part,aD,bR]
  ·grind [part,aD,bR]
  ·cases h
theorem pR{ob:Nm→Option Ob}{k:Nat}{agg:Bool}{p:CV}{v:AV}(h:loadCells ob k agg p=some v){n:Nm}(hm:aD v n):∃m x,dK p m∧ob m=some x∧cP x n:=by
 cases p with
 |pb m off =>
  unfold loadCells at h
  dsimp only at h
  split at h
  ·rename_i cs e
   exact⟨m,_,rfl,e,qA h hm⟩
  ·cases h
 |pa m z i j =>
  unfold loadCells at h
  dsimp only at h
  split at h
  ·exact absurd (qA h hm) (n8 _ _ _)
  ·cases h
 |pe t x j=>exact absurd (qA (show part (split t x) j k agg=some v from h) hm) (n8 _ _ _)
 |_=>cases h
theorem xK{pl:Nat→Option (Nat×Nat)}:∀{ps:List (Nat×AV)}{cs out:List CV},tA pl cs ps=some out→∀{n:Nm},bR out n→bR cs n∨∃p∈ps,aD p.2 n
 |[],cs,out,h,n,hm=>by
  simp_all [tA,bR,aD]
 |p::ps,cs,out,h,n,hm=>by
  simp only[tA]at h
  split at h
  ·rename_i off k new _ hn
   cases q:(Nat.beq new.length k&&Nat.ble (off+k) cs.length)with
   |false=>simp_all
   |true =>
    rw[q,cond_true]at h
    rcases xK h hm with g|⟨p',hp,g⟩
    ·grind [bR,yn,lZ]
    ·grind
  ·cases h
theorem KN {τ:lj}(hv:iq τ o=true){e:Operand→AV}{ob ob':Nm→Option Ob}(ho:∀x∈o.op.operands, ∀n,aD (e x) n→ob' n=ob n):fB τ o.op e ob'=fB τ o.op e ob:=by
 unfold iq at hv
 cases hop:o.op with
 |build t ps=>rfl
 |load t a =>
  rw[hop]at ho
  unfold fB
  dsimp only
  cases τ.get t with
  |none=>rfl
  |some ti =>
   cases he:e a with
   |c p =>
    have h1:∀n,dK p n→ob' n=ob n:=fun n hn=>ho a (by simp[Op.operands]) n (by rw[he];exact hn)
    dsimp only
    have:loadCells ob' ti.size ti.agg p=loadCells ob ti.size ti.agg p:=by
     cases p with
     |pb m off=>unfold loadCells;dsimp only;rw[h1 m rfl]
     |pa m z i j=>unfold loadCells;dsimp only;rw[h1 m rfl]
     |_=>rfl
    rw[this]
   |_=>rfl
 |indexAddr t a i =>
  rw[hop]at ho
  unfold fB
  dsimp only
  cases τ.get t with
  |none=>rfl
  |some ti =>
   cases he:e a with
   |c p =>
    have h1:∀n,dK p n→ob' n=ob n:=fun n hn=>ho a (by simp[Op.operands]) n (by rw[he];exact hn)
    have:∀k j,kI ob' k j p=kI ob k j p:=by
     intro k j
     cases p with
     |own m=>unfold kI;dsimp only;rw[h1 m rfl]
     |v t x=>cases t<;>rfl
     |_=>rfl
    cases hi:e i with
    |c q =>
     grind
    |_=>rfl
   |_=>rfl
 |convert q d a =>
  rw[hop]at ho
  unfold fB
  dsimp only
  cases τ.get q with
  |none=>rfl
  |some tq =>
   dsimp only
   cases τ.get d with
   |none=>rfl
   |some ti =>
    cases he:e a with
    |c p =>
     cases p with
     |own m=>dsimp only;rw[ho a (by simp[Op.operands]) m (by rw[he];exact rfl)]
     |v t x =>
      cases t with
      |sl u=>cases u<;>first|rfl|(rename_i ik;cases ik<;>rfl)
      |_=>rfl
     |_=>rfl
    |_=>rfl
 |slice t x lo hi mx=>cases mx<;>rfl
 |move x=>rfl
 |assign x=>rfl
 |fieldAddr t x f=>rfl
 |field t x f=>rfl
 |nilCheck x=>rfl
 |extract x i=>rfl
 |binOp a b c d e=>rfl
 |unOp a b c=>rfl
 |pick a b c=>rfl
 |call c =>
  obtain⟨cl,xs,ts⟩:=c
  rw[hop]at hv ho
  cases cl with
  |builtin b =>
   cases b<;>try (cases hv;done)
   have one:∀x∈xs.toList, ∀p,e x = .c p→lenOf ob' p=lenOf ob p:=by
    intro x hx p he
    have h1:∀n,dK p n→ob' n=ob n:=fun n hn=>ho x (by simp[Op.operands,Call.operands];simpa using hx) n (by rw[he];exact hn)
    cases p with
    |own m=>unfold lenOf;dsimp only;rw[h1 m rfl]
    |v t x=>cases t<;>rfl
    |_=>rfl
   unfold fB
   dsimp only
   cases hl:xs.toList with
   |nil=>rfl
   |cons x r =>
    grind
  |_=>cases hv
 |_=>rw[hop]at hv;cases hv
theorem IQ {τ:lj}(hv:iq τ o=true){e:Operand→AV}{ob:Nm→Option Ob}{c:Bool}{v:AV}(h:fB τ o.op e ob=some (c,v)){n:Nm}(hm:aD v n) :
  (∃x∈o.op.operands,aD (e x) n)∨∃x∈o.op.operands, ∃m y,aD (e x) m∧ob m=some y∧cP y n:=by
 unfold iq at hv
 cases hop:o.op with
 |build t ps =>
  rw[hop]at h
  left
  unfold fB at h
  dsimp only at h
  have key:∀{pl:Nat→Option (Nat×Nat)}{zc cs:List CV},(∀n,¬bR zc n)→tA pl zc (ps.toList.map fun p=>(p.1,e p.2))=some cs→bR cs n→∃x∈(Op.build t ps).operands,aD (e x) n:=fun hz hf hc=>by
   rcases xK hf hc with q|⟨p,hp,q⟩
   ·simp_all
   ·obtain⟨p',hp',rfl⟩:=List.mem_map.1 hp
    exact⟨p'.2,Array.mem_def.2 (List.mem_map.2 ⟨p',hp',rfl⟩),q⟩
  split at h
  ·rename_i ti _
   split at h
   ·rename_i zc hz
    have zm:=fun n=>Ak hz n
    cases q1:Nat.beq ti.kind 2 with
    |true =>
     rw[q1,cond_true]at h
     split at h
     ·rename_i cs hf
      obtain⟨_,rfl⟩:=Prod.mk.inj (Option.some.inj h)
      exact key zm hf hm
     ·cases h
    |false =>
     rw[q1,cond_false]at h
     cases q2:Nat.beq ti.kind 4 with
     |false=>rw[q2]at h;cases h
     |true =>
      rw[q2,cond_true]at h
      split at h
      ·split at h
       ·rename_i cs hf
        obtain⟨_,rfl⟩:=Prod.mk.inj (Option.some.inj h)
        exact key zm hf hm
       ·cases h
      ·cases h
   ·cases h
  ·cases h
 |move x=>rw[hop]at h;obtain⟨_,rfl⟩:=Prod.mk.inj (Option.some.inj h);exact .inl ⟨x,by simp[Op.operands],hm⟩
 |assign x=>rw[hop]at h;obtain⟨_,rfl⟩:=Prod.mk.inj (Option.some.inj h);exact .inl ⟨x,by simp[Op.operands],hm⟩
 |slice t x lo hi mx =>
  rw[hop]at h hv
  cases mx with
  |some y=>cases hv
  |none =>
   dsimp only at hv
   unfold fB at h
   dsimp only at h
   split at h
   ·generalize Nat.beq _ 5=q at h
    cases q with
    |false=>cases h
    |true =>
     dsimp only[cond_true]at h
     split at h<;>first|(cases h;done)|(obtain⟨_,rfl⟩:=Prod.mk.inj (Option.some.inj h);exact hm.elim)
   ·rename_i ti t' xs e1 e2
    rw[e1]at hv
    have h5:ti.kind=5:=Nat.eq_of_beq_eq_true hv
    have h3:Nat.beq ti.kind 3=false:=by rw[h5];rfl
    rw[h3]at h
    cases h
   ·cases h
 |load t a =>
  rw[hop]at h
  unfold fB at h
  dsimp only at h
  split at h
  ·rename_i ti p e1 e2
   split at h
   ·rename_i v' e3
    obtain⟨_,rfl⟩:=Prod.mk.inj (Option.some.inj h)
    obtain⟨m,y,h1,h2,h3⟩:=pR e3 hm
    exact .inr ⟨a,by simp[Op.operands],m,y,by rw[e2];exact h1,h2,h3⟩
   ·cases h
  ·cases h
 |indexAddr t a i =>
  rw[hop]at h
  unfold fB at h
  dsimp only at h
  split at h
  ·rename_i ti p ik j e1 e2 e3
   cases q:Nat.beq ti.kind 3 with
   |false=>rw[q]at h;cases h
   |true =>
    rw[q]at h
    dsimp only[cond_true]at h
    split at h
    ·refine .inl ⟨a,by simp[Op.operands],?_⟩
     rw[e2]
     cases p with
     |own m =>
      unfold kI at h
      dsimp only at h
      split at h
      ·rename_i u xs _
       cases q:Nat.beq _ u.sz with
       |false=>rw[q]at h;cases h
       |true=>rw[q]at h;obtain⟨_,rfl⟩:=Prod.mk.inj (Option.some.inj h);exact hm
      ·cases h
     |v t x =>
      cases t with
      |sl u =>
       unfold kI at h
       dsimp only at h
       cases q:Nat.beq _ u.sz with
       |false=>rw[q]at h;cases h
       |true=>rw[q]at h;obtain⟨_,rfl⟩:=Prod.mk.inj (Option.some.inj h);exact hm.elim
      |_=>cases h
     |_=>cases h
    ·cases h
  ·cases h
 |convert q d a =>
  rw[hop]at h
  exfalso
  unfold fB at h
  dsimp only at h
  have fin:∀{b:Bool}{w:CV},(¬dK w n)→(bif b then some (true,AV.c w)else none)=some (c,v)→False:=fun{b w} hw q=>by
   cases b with
   |false=>cases q
   |true=>obtain⟨_,rfl⟩:=Prod.mk.inj (Option.some.inj q);exact hw hm
  split at h
  ·cases h
  ·split at h
   ·exact fin (w := .v _ _) (fun q=>q) h
   ·exact fin (w := .v _ _) (fun q=>q) h
   ·exact fin (w := .v _ _) (fun q=>q) h
   ·exact fin (w := .v _ _) (fun q=>q) h
   ·split at h
    ·exact fin (w := .v _ _) (fun q=>q) h
    ·cases h
   ·cases h
 |fieldAddr t x f =>
  rw[hop]at h
  unfold fB at h
  dsimp only at h
  split at h
  ·rename_i ti p e1 e2
   cases q:Nat.beq ti.kind 2 with
   |false=>rw[q]at h;cases h
   |true =>
    rw[q]at h
    dsimp only[cond_true]at h
    split at h
    ·split at h
     ·rename_i fd _ _ q' e4
      obtain⟨_,rfl⟩:=Prod.mk.inj (Option.some.inj h)
      refine .inl ⟨x,by simp[Op.operands],?_⟩
      rw[e2]
      cases p with
      |pb m k=>obtain rfl:=Option.some.inj (show some (CV.pb m (k+fd.1))=some q' from e4);exact hm
      |pa m z k j=>obtain rfl:=Option.some.inj (show some (CV.pa m z k (j+fd.1))=some q' from e4);exact hm
      |pe u y j=>obtain rfl:=Option.some.inj (show some (CV.pe u y (j+fd.1))=some q' from e4);exact hm
      |_=>cases e4
     ·cases h
    ·cases h
  ·cases h
 |field t x f =>
  rw[hop]at h
  unfold fB at h
  dsimp only at h
  split at h
  ·rename_i ti cs e1 e2
   cases q:Nat.beq ti.kind 2 with
   |false=>rw[q]at h;cases h
   |true =>
    rw[q]at h
    dsimp only[cond_true]at h
    split at h
    ·split at h
     ·rename_i fd _ v' e4
      obtain⟨_,rfl⟩:=Prod.mk.inj (Option.some.inj h)
      refine .inl ⟨x,by simp[Op.operands],?_⟩
      rw[e2]
      exact qA e4 hm
     ·cases h
    ·cases h
  ·cases h
 |nilCheck x =>
  rw[hop]at h
  unfold fB at h
  dsimp only at h
  refine .inl ⟨x,by simp[Op.operands],?_⟩
  split at h
  ·rename_i e2;rw[e2];obtain⟨_,rfl⟩:=Prod.mk.inj (Option.some.inj h);exact hm
  ·rename_i e2;rw[e2];obtain⟨_,rfl⟩:=Prod.mk.inj (Option.some.inj h);exact hm
  ·rename_i e2;rw[e2];obtain⟨_,rfl⟩:=Prod.mk.inj (Option.some.inj h);exact hm
  ·cases h
 |extract x i =>
  rw[hop]at h
  unfold fB at h
  dsimp only at h
  split at h
  ·rename_i cs e2
   split at h
   ·rename_i p e3
    split at h
    ·rename_i v' e4
     obtain⟨_,rfl⟩:=Prod.mk.inj (Option.some.inj h)
     refine .inl ⟨x,by simp[Op.operands],?_⟩
     rw[e2]
     refine⟨p,List.mem_of_getElem? e3,?_⟩
     unfold qF at e4
     split at e4
     ·rename_i e5 _;obtain rfl:=Option.some.inj e4;exact hm
     ·rename_i cc e5 e6;obtain rfl:=Option.some.inj e4;rw[e6];exact⟨cc,List.mem_singleton.2 rfl,hm⟩
     ·cases e4
    ·cases h
   ·cases h
  ·cases h
 |binOp a b x y z =>
  rw[hop]at h
  unfold fB at h
  dsimp only at h
  split at h
  ·exfalso
   unfold AK at h
   split at h
   ·cases h
   ·split at h
    ·rename_i ti _ k b' _
     generalize Nat.beq _ (wD _)=q at h
     cases q with
     |false=>cases h
     |true =>
      dsimp only[cond_true]at h
      unfold JI at h
      split at h
      ·obtain⟨_,rfl⟩:=Prod.mk.inj (Option.some.inj h);exact hm
      ·obtain⟨_,rfl⟩:=Prod.mk.inj (Option.some.inj h);exact hm
      ·cases h
    ·cases h
  ·exact absurd hm (Kg h n)
 |unOp a b x =>
  rw[hop]at h
  exfalso
  unfold fB at h
  dsimp only at h
  split at h
  ·obtain⟨_,rfl⟩:=Prod.mk.inj (Option.some.inj h);exact hm
  ·obtain⟨_,rfl⟩:=Prod.mk.inj (Option.some.inj h);exact hm
  ·cases h
 |pick x a b =>
  rw[hop]at h
  unfold fB at h
  dsimp only at h
  split at h
  ·rename_i y e2
   obtain⟨_,rfl⟩:=Prod.mk.inj (Option.some.inj h)
   unfold AE at hm
   split at hm
   ·exact hm.elim
   ·cases y with
    |true=>exact .inl ⟨a,by simp[Op.operands],hm⟩
    |false=>exact .inl ⟨b,by simp[Op.operands],hm⟩
  ·cases h
 |call c =>
  obtain⟨cl,xs,ts⟩:=c
  rw[hop]at hv h
  exfalso
  cases cl with
  |builtin b =>
   cases b<;>try (cases hv;done)
   unfold fB at h
   dsimp only at h
   split at h
   ·split at h
    ·split at h
     ·rename_i ti _
      generalize (Nat.beq ti.kind (s8 _) && !Nat.beq ti.kind 0)=q at h
      cases q with
      |false=>cases h
      |true=>obtain⟨_,rfl⟩:=Prod.mk.inj (Option.some.inj h);exact hm
     ·cases h
    ·cases h
   ·rename_i e1 _;cases e1
   ·rename_i e1 _;cases e1
   ·cases h
  |_=>cases hv
 |_=>rw[hop]at hv;cases hv
theorem IS {τ:lj}(hv:iq τ o=true){e:Operand→AV}{ob ob':Nm→Option Ob}(ho:∀x∈o.op.operands, ∀n,aD (e x) n→ob' n=ob n):sD τ o.op e ob'=sD τ o.op e ob:=by
 unfold sD
 rw[KN hv ho]
theorem F4 {τ:lj}(hv:iq τ o=true){e:Operand→AV}{ob:Nm→Option Ob}{c:Bool}{v:AV}(h:sD τ o.op e ob=some (c,v)){n:Nm}(hm:aD v n) :
  (∃x∈o.op.operands,aD (e x) n)∨∃x∈o.op.operands, ∃m y,aD (e x) m∧ob m=some y∧cP y n:=by
 unfold sD at h
 cases hq:fB τ o.op e ob with
 |some r =>
  rw[hq]at h
  obtain rfl:=Option.some.inj h
  exact IQ hv hq hm
 |none =>
  rw[hq]at h
  cases ha:yC τ o.op e with
  |none=>rw[ha]at h;cases h
  |some u =>
   rw[ha]at h
   obtain⟨_,rfl⟩:=Prod.mk.inj (Option.some.inj h)
   exact .inl (Io ha hm)
end
def dR (d:Nat) (s:St):Prop:=(∀t,t≠d→∀n,ca d n=true→¬aD (s.t t) n)∧∀m ob,s.o m=some ob→ca d m=false∧∀n,ca d n=true→¬cP ob n
def vZ (d:Nat) (s:St):Prop:=s.t d = .c (.pb [d,0] 0)∧(∀t,t≠d→¬aD (s.t t) [d,0])∧∀m ob,s.o m=some ob→¬cP ob [d,0]
theorem CV.drop_id{n:Nm}{c:CV}(h:¬dK c n):c.drop n=c:=by
 cases c with
 |own m=>show(bif Nm.eqb m n then CV.dead else .own m)=_;rw[aV.2 h];rfl
 |pb m k=>show(bif Nm.eqb m n then CV.dead else .pb m k)=_;rw[aV.2 h];rfl
 |pa m z i j=>show(bif Nm.eqb m n then CV.dead else .pa m z i j)=_;rw[aV.2 h];rfl
 |mp m=>show(bif Nm.eqb m n then CV.dead else .mp m)=_;rw[aV.2 h];rfl
 |clo f cs =>
  grind [Nm.eqb,aV,dK,CV.drop,AV.drop,Ob.drop,St.drop]
 |_=>rfl
theorem Pk.drop_id{n:Nm}{cs:List CV}(h:¬bR cs n):cs.map (CV.drop n)=cs:=by
 induction cs with
 |nil=>rfl
 |cons c cs ih =>
  grind [CV.drop_id,bR,CV.drop,AV.drop,Ob.drop,St.drop]
theorem AV.drop_id{n:Nm}{v:AV}(h:¬aD v n):v.drop n=v:=by
 cases v with
 |c x=>exact congrArg AV.c (CV.drop_id h)
 |g cs=>exact congrArg AV.g (Pk.drop_id h)
 |tup l =>
  refine congrArg AV.tup ?_
  induction l with
  |nil=>rfl
  |cons p l ih =>
   simp_all [Pk.drop_id,aD,CV.drop,AV.drop,Ob.drop,St.drop]
theorem Ob.drop_id{n:Nm}{x:Ob}(h:¬cP x n):x.drop n=x:=by
 cases x with
 |box cs=>exact congrArg Ob.box (Pk.drop_id h)
 |_=>rfl
theorem dR.o_none{d:Nat}{s:St}(h:dR d s){n:Nm}(hn:ca d n=true):s.o n=none:=by
 cases q:s.o n with
 |none=>rfl
 |some ob=>rw[(h.2 n ob q).1]at hn;cases hn
theorem dR.drops{d:Nat}{s:St}(h:dR d s):∀(ns:List Nm),(∀n∈ns,ca d n=true)→(∀t,t≠d→(s.drops ns).t t=s.t t)∧(s.drops ns).o=s.o
 |[],_=>⟨fun _ _=>rfl,rfl⟩
 |n::ns,hn=>by
  have h0:=hn n (List.mem_cons_self ..)
  have e1:∀t,t≠d→(s.drop n).t t=s.t t:=fun t ht=>AV.drop_id (h.1 t ht n h0)
  have e2:(s.drop n).o=s.o:=by
   funext m
   show(bif Nm.eqb m n then none else(s.o m).map (Ob.drop n))=s.o m
   cases q:Nm.eqb m n with
   |true=>rw[bA.1 q,h.o_none h0];rfl
   |false =>
    cases q2:s.o m with
    |none=>rfl
    |some ob=>exact congrArg some (Ob.drop_id ((h.2 m ob q2).2 n h0))
  have h':dR d (s.drop n):=⟨fun t ht k hk=>by rw[e1 t ht];exact h.1 t ht k hk,fun m ob hm=>by rw[e2]at hm;exact h.2 m ob hm⟩
  obtain⟨g1,g2⟩:=h'.drops ns (fun k hk=>hn k (List.mem_cons_of_mem _ hk))
  exact⟨fun t ht=>(g1 t ht).trans (e1 t ht),g2.trans e2⟩
theorem dR.ev{d:Nat}{s:St}(h:dR d s){n:Nm}(hn:ca d n=true){x:Operand}(hx:x ≠ .tmp d):(s.drop n).ev x=s.ev x:=by
 cases x with
 |tmp t=>exact((h.drops [n] (fun k hk=>by rw[List.mem_singleton.1 hk];exact hn)).1 t (fun e=>hx (by rw[e])))
 |_=>rfl
def IH:bK→Bool
 | .no=>true
 | .ln _=>true
 |_=>false
def Cr:Di→Bool
 | .p _=>false
 |_=>true
def jH{R:Type}(S:aa) (vs:List AV) (d:Nat) (o:Nm→Option Ob) (k:AV→List (Nm×Ob)→Option R):Option R :=
 bif Nat.beq (vs.length+S.gh.length) S.pars.length&&(oH S.gh&&S.pars.all Cr)then(match gY o (au 0 S.pars) vs with
  |some (ds,ts)=>bif iI S.pars.length (au 0 S.pars)&&(iN ts&&((bif S.shares then eA (ts.flatMap bK.lent)else true)&&(eA ((ts.flatMap bK.pair).map Prod.snd)&&ts.all IH)))then(match qU (be (au 0 S.pars)) ds with
   |some x=>match S.g x with
    |some r=>match lN d (fun _=>none) ts (S.ens.flatMap En.names) (eX S.ens (ai _ r))with
     |some ups=>bif ii S d (fun _=>none) ts (cN S.ens (ai _ r)) (eX S.ens (ai _ r)) ups then k ((pF (cN S.ens (ai _ r)) S.pars.length S.res.length).ren d ts (S.ens.flatMap En.names)) ups else none
     |none=>none
    |none=>none
   |none=>none)else none
  |none=>none)else none
def mP:Op→Bool
 | .alloc _=>true
 |_=>false
def AY:Op→Bool
 | .buildSlice _ _ ⟨[]⟩=>true
 |_=>false
def jM (o:Oper):Option Nat:=match o.op,o.dst with
 | .call { callee := .builtin .append,args:=⟨[.tmp t,_]⟩, .. },some _=>some t
 |_,_=>none
def dL (o:Oper):Bool:=match o.guard with
 |none=>true
 |some _=>false
def aA (E:aK) (o:Oper):Nat:=bif iq E.τ o&&(match o.dst with|some _=>true|none=>false)then 0 else bif dL o then(match o.op,o.dst with
 | .call { callee := .value (.func f), .. },some d=>(match E.Γ f d with
  |some S=>bif eA (S.ens.flatMap En.names)then 4 else 1
  |none=>3)
 | .alloc _,some _=>1
 | .buildSlice _ _ ⟨[]⟩,some _=>1
 | .store _ (.tmp _) _,none=>2
 | .call { callee := .builtin .append,args:=⟨[.tmp _,_]⟩, .. },some _=>6
 |_,_=>3)else 3
def AQ{R:Type}(E:aK) (o:Oper) (s:St) (k:St→Option R):Option R:=match o.dst with
 |none=>none
 |some d=>bif Nat.blt d E.N then(match o.op with
  | .call { callee := .value (.func f),args, .. }=>(match E.Γ f d with
   |some S=>jH S (args.toList.map s.ev) d s.o (fun v ups=>k ((s.over ups).put (some d) v))
   |none=>none)
  |op=>(match rt E.τ op s.ev [d,0]with
   |some (c,ob,v)=>(match c with|true=>k ((s.over [([d,0],ob)]).put (some d) v)|false=>none)
   |none=>none))else none
def AH{R:Type}(fr:Bool) (E:aK) (o:Oper) (s:St) (k:St→Option R):Option R:=match aA E o with
 |1=>(match fr with|true=>AQ E o s k|false=>pm E o s k)
 |4=>AQ E o s k
 |_=>pm E o s k
def lO{R:Type}(fr:Bool) (E:aK) (all:List Oper):List Oper→St→(St→Option R)→Option R
 |[],s,k=>k s
 |o::r,s,k=>match o.guard with
  |none=>AH fr E o s (fun s'=>lO fr E all r s' k)
  |some _=>cT E all [o] s (fun s'=>lO fr E all r s' k)
structure MX (E:aK) (l:List Oper) (o:Oper) (q:Bool) (s:St) (d:Nat) (v:AV) (ups:List (Nm×Ob)):Prop where
 dst:o.dst=some d
 step:∀s':St,(∀t∈gR l o,s'.t t=s.t t)→(∀t∈gR l o, ∀n,aD (s.t t) n→s'.o n=s.o n)→(q=true→dR d s')→stg E l o s'=some ((s'.over ups).put (some d) v)
 hd:∀p∈ups,ca d p.1=true
 ment:∀n,(aD v n∨∃p∈ups,cP p.2 n)→ca d n=true∨(∃t∈gR l o,aD (s.t t) n)∨∃t∈gR l o, ∃m y,aD (s.t t) m∧s.o m=some y∧cP y n
section
variable{E:aK}{l:List Oper}{o:Oper}{s s1:St}
theorem Lo (hk:aA E o=0) (h:stg E l o s=some s1):∃d v,MX E l o false s d v []∧s1=(s.over []).put (some d) v:=by
 obtain⟨hv,d,hd⟩:iq E.τ o=true∧∃d,o.dst=some d:=by
  grind [aA,iq,dL,split,eA,En.names]
 rw[At]at h
 cases hg:gd l o s with
 |none=>simp_all
 |some b =>
  rw[hg]at h
  cases b with
  |false =>
   have h:(bif dm E.N o.dst then some (s.put o.dst nH)else none)=some s1:=h
   cases hN:dm E.N o.dst with
   |false=>simp_all
   |true =>
    rw[hN,hd]at h
    refine⟨d,nH,⟨hd,fun s' h1 _ _=>?_,fun p hp=>(by cases hp),fun n hn=>?_⟩,(Option.some.inj h).symm⟩
    ·rw[At,FA h1,hg]
     dsimp only
     rw[hN,hd];rfl
    ·rcases hn with hn|⟨p,hp,_⟩
     ·trivial
     ·cases hp
  |true =>
   have h:pm (R:=St) E o s some=some s1:=h
   rw[IN hv hd]at h
   cases hq:sD E.τ o.op s.ev s.o with
   |none=>simp_all
   |some r =>
    obtain⟨c,v⟩:=r
    rw[hq]at h
    dsimp only at h
    cases hN:Nat.blt d E.N with
    |false=>simp_all
    |true =>
     rw[hN]at h
     cases c with
     |false=>cases h
     |true =>
      refine⟨d,v,⟨hd,fun s' h1 h2 _=>?_,fun p hp=>(by cases hp),fun n hn=>?_⟩,(Option.some.inj h).symm⟩
      ·rw[At,FA h1,hg]
       dsimp only
       rw[IN hv hd, ←Du (oO h1),IS hv (ob:=s.o) (fun x hx n hn=>by
        obtain⟨t,ht,hm⟩:=ug (l:=l) hx hn
        exact h2 t ht n hm),hq]
       dsimp only
       rw[hN];rfl
      ·rcases hn with hn|⟨p,hp,_⟩
       ·rcases F4 hv hq hn with⟨x,hx,hm⟩|⟨x,hx,m,y,hm,g1,g2⟩
        ·exact .inr (.inl (ug hx hm))
        ·obtain⟨t,ht,hm⟩:=ug (l:=l) hx hm
         exact .inr (.inr ⟨t,ht,m,y,hm,g1,g2⟩)
       ·cases hp
theorem sw{R:Type}{S:aa}{vs:List AV}{d:Nat}{ob:Nm→Option Ob}(k:AV→List (Nm×Ob)→Option R):jH S vs d ob k=(jH S vs d ob (fun v ups=>some (v,ups))).bind fun p=>k p.1 p.2:=by
 unfold jH
 simp only[mq,Option.bind_none]
 split
 ·grind
 ·rfl
theorem xy{n:Nm}{ts:List bK}(h:ts.all IH=true):ga n ts = .no:=by
 induction ts with
 |nil=>rfl
 |cons t ts ih =>
  rw[List.all_cons,Bool.and_eq_true]at h
  cases t with
  |no=>exact ih h.2
  |ln m=>exact ih h.2
  |_=>cases h.1
theorem uy{ts:List bK}(h:ts.all IH=true):ts.flatMap bK.moved=[]∧ts.flatMap bK.pair=[]:=by
 induction ts with
 |nil=>trivial
 |cons t ts ih =>
  rw[List.all_cons,Bool.and_eq_true]at h
  obtain⟨g1,g2⟩:=ih h.2
  rw[List.flatMap_cons,List.flatMap_cons,g1,g2]
  cases t with
  |no=>trivial
  |ln m=>trivial
  |_=>cases h.1
theorem yI{d:Nat}{ob ob':Nm→Option Ob}{ts:List bK}{names:List Nm}(h:ts.all IH=true):∀(oe:List (Nm×Ob)),lN d ob ts names oe=lN d ob' ts names oe
 |[]=>rfl
 |(m,x)::r=>by
  unfold lN
  rw[yI (ob:=ob) (ob':=ob') h r]
  have:v0 d ob ts names m x=v0 d ob' ts names m x:=by
   unfold v0
   rw[xy h]
  rw[this]
theorem Er{S:aa}{d:Nat}{ob ob':Nm→Option Ob}{ts:List bK}{te:List (Nat×AV)}{oe ups:List (Nm×Ob)}(h:ts.all IH=true):ii S d ob ts te oe ups=ii S d ob' ts te oe ups:=by
 unfold ii
 rw[(uy h).2];rfl
theorem ww{d:Nat}{ts:List bK}{names:List Nm}(h:ts.all IH=true){c:CV}{n:Nm}(hm:dK (pG d ts names c) n):ca d n=true:=by
 have one:∀{p q:Nm×Nat},yq d ts names p=some q→ca d q.1=true:=by
  intro p q e
  unfold yq at e
  rw[xy h]at e
  dsimp only at e
  cases k:lx p.1 names with
  |false=>simp_all
  |true=>rw[k]at e;obtain rfl:=Option.some.inj e;exact Nat.beq_refl d
 cases c with
 |own m=>obtain rfl:d::m=n:=hm;exact Nat.beq_refl d
 |pb m k =>
  grind [dK,yq,IH,pG,ca]
 |clo f cs =>
  have hm:dK (match rr d ts names cs with|some q=>CV.clo f q|none => .dead) n:=hm
  cases e:rr d ts names cs with
  |none=>rw[e]at hm;exact hm.elim
  |some q =>
   rw[e]at hm
   have all:∀{cs:List (Nm×Nat)}{q:List (Nm×Nat)},rr d ts names cs=some q→∀p∈q,ca d p.1=true:=by
    intro cs
    induction cs with
    |nil=>intro q e p hp;obtain rfl:=Option.some.inj e;cases hp
    |cons c cs ih =>
     grind [rr,yq]
   obtain⟨p,hp,rfl⟩:=hm
   exact all e p hp
 |v t x=>trivial
 |er b=>trivial
 |_=>trivial
theorem Jd{d:Nat}{ts:List bK}{names:List Nm}(h:ts.all IH=true){v:AV}{n:Nm}(hm:aD (v.ren d ts names) n):ca d n=true:=by
 cases v with
 |c x=>exact ww h hm
 |g cs =>
  obtain⟨c,hc,hm⟩:=hm
  obtain⟨x,_,rfl⟩:=List.mem_map.1 hc
  exact ww h hm
 |tup ps =>
  obtain⟨p,hp,c,hc,hm⟩:=hm
  obtain⟨x,_,rfl⟩:=List.mem_map.1 hp
  obtain⟨y,_,rfl⟩:=List.mem_map.1 hc
  exact ww h hm
theorem EM{d:Nat}{ob:Nm→Option Ob}{ts:List bK}{names:List Nm}(h:ts.all IH=true):∀{oe ups:List (Nm×Ob)},lN d ob ts names oe=some ups→∀p∈ups,ca d p.1=true∧∀n,cP p.2 n→ca d n=true
 |[],ups,e,p,hp=>by obtain rfl:=Option.some.inj e;cases hp
 |(m,x)::r,ups,e,p,hp=>by
  unfold lN at e
  cases e1:v0 d ob ts names m x with
  |none=>simp_all
  |some a =>
   cases e2:lN d ob ts names r with
   |none=>simp_all
   |some b =>
    rw[e1,e2]at e
    obtain rfl:=Option.some.inj e
    rcases List.mem_cons.1 hp with rfl|hp
    ·unfold v0 at e1
     rw[xy h]at e1
     dsimp only at e1
     cases x with
     |arr z t xs=>obtain rfl:=Option.some.inj e1;exact⟨Nat.beq_refl d,fun n q=>q.elim⟩
     |box cells =>
      obtain rfl:=Option.some.inj e1
      refine⟨Nat.beq_refl d,fun n q=>?_⟩
      obtain⟨c,hc,hm⟩:=q
      obtain⟨y,_,rfl⟩:=List.mem_map.1 hc
      exact ww h hm
     |mp _ _ _ _=>cases e1
    ·exact EM h e2 p hp
theorem Gj{ob ob':Nm→Option Ob}{nm:Nm}{p:PS}{c:CV}(h:∀n,dK c n→ob' n=ob n):dE ob' nm p c=dE ob nm p c:=by
 cases c with
 |own m =>
  have e:=h m rfl
  have g:∀e0 t,A9 ob' e0 t m=A9 ob e0 t m:=fun e0 t=>by unfold A9;rw[e]
  cases p with
  |i t=>cases t with
   |sl u =>
    show(match A9 ob' none u m with|some xs=>some (DV.mk (.sl u) xs,bK.ln m)|none=>none)=_
    rw[g];rfl
   |_=>rfl
  |o e0 t =>
   simp_all [dK,dE]
  |b e0 t =>
   simp_all [dK,dE]
  |l =>
   simp_all [A0,dK,dE]
  |_=>rfl
 |mp m =>
  have e:=h m rfl
  cases p with
  |m kt vt ka =>
   simp_all [NO,dK,dE]
  |i t=>rfl
  |_=>rfl
 |v ty x=>cases p<;>first|rfl|(cases ty<;>rfl)|(rename_i t;cases t<;>rfl)
 |_=>cases p<;>first|rfl|(rename_i t;cases t<;>rfl)
theorem rK{ob ob':Nm→Option Ob}{nm:Nat→PS→Nm}:∀{k:Nat}{ps:List PS}{cs:List CV},(∀n,bR cs n→ob' n=ob n)→ef ob' nm k ps cs=ef ob nm k ps cs
 |_,[],[],_=>rfl
 |_,[],_::_,_=>rfl
 |_,_::_,[],_=>rfl
 |k,p::ps,c::cs,h=>by
  unfold ef
  rw[Gj (fun n hn=>h n ⟨c,List.mem_cons_self ..,hn⟩),rK (fun n ⟨x,hx,hn⟩=>h n ⟨x,List.mem_cons_of_mem _ hx,hn⟩)]
theorem vg{ob ob':Nm→Option Ob}{e:En}{v:AV}(h:∀n,aD v n→ob' n=ob n) (hp:(∃i p,e = .val i p)∨∃i ps,e = .agg i ps):jF ob' e v=jF ob e v:=by
 rcases hp with⟨i,p,rfl⟩|⟨i,ps,rfl⟩
 ·cases v with
  |c x=>exact rK (fun n ⟨y,hy,hn⟩=>h n (by rw[List.mem_singleton.1 hy]at hn;exact hn))
  |_=>rfl
 ·cases v with
  |g cs=>exact rK h
  |_=>rfl
theorem zN{ob ob':Nm→Option Ob}:∀{ps:List Di}{k:Nat}{vs:List AV},ps.all Cr=true→(∀v∈vs, ∀n,aD v n→ob' n=ob n)→gY ob' (au k ps) vs=gY ob (au k ps) vs
 |[],_,[],_,_=>rfl
 |[],_,_::_,_,_=>rfl
 |p::ps,k,[],_,_=>by cases p<;>rfl
 |p::ps,k,v::vs,hb,h=>by
  rw[List.all_cons,Bool.and_eq_true]at hb
  have ih:=zN (k:=k+1) hb.2 (fun u hu=>h u (List.mem_cons_of_mem _ hu))
  have hv:=h v (List.mem_cons_self ..)
  cases p with
  |p ps=>cases hb.1
  |c q =>
   show(match jF ob' (.val k q) v,gY ob' (au (k+1) ps) vs with|some (ds,ts),some (ds',ts')=>some (ds++ds',ts++ts')|_,_=>none)=_
   rw[ih,vg hv (.inl ⟨_,_,rfl⟩)];rfl
  |g q =>
   show(match jF ob' (.agg k q) v,gY ob' (au (k+1) ps) vs with|some (ds,ts),some (ds',ts')=>some (ds++ds',ts++ts')|_,_=>none)=_
   rw[ih,vg hv (.inr ⟨_,_,rfl⟩)];rfl
  |h q =>
   show(match jF ob' (.agg k q) v,gY ob' (au (k+1) ps) vs with|some (ds,ts),some (ds',ts')=>some (ds++ds',ts++ts')|_,_=>none)=_
   rw[ih,vg hv (.inr ⟨_,_,rfl⟩)];rfl
theorem oS{S:aa}{vs:List AV}{d:Nat}{ob:Nm→Option Ob}{v:AV}{ups:List (Nm×Ob)}:jH S vs d ob (fun v ups=>some (v,ups))=some (v,ups) ↔
  (vs.length+S.gh.length=S.pars.length∧S.gh=[]∧S.pars.all Cr=true)∧∃ds ts x r,gY ob (au 0 S.pars) vs=some (ds,ts)∧(iI S.pars.length (au 0 S.pars)=true∧iN ts=true∧(bif S.shares then eA (ts.flatMap bK.lent)else true)=true∧ts.all IH=true) ∧
   qU (be (au 0 S.pars)) ds=some x∧S.g x=some r∧lN d (fun _=>none) ts (S.ens.flatMap En.names) (eX S.ens (ai _ r))=some ups∧ii S d (fun _=>none) ts (cN S.ens (ai _ r)) (eX S.ens (ai _ r)) ups=true ∧
   v=(pF (cN S.ens (ai _ r)) S.pars.length S.res.length).ren d ts (S.ens.flatMap En.names):=by
 have nilG:∀{g:List (Nat×Nat×Option Nat)},oH g=true↔g=[]:=fun{g}=>by cases g<;>simp[oH]
 have nilP:∀{ts:List bK},ts.all IH=true→eA ((ts.flatMap bK.pair).map Prod.snd)=true:=fun{ts} h=>by rw[(uy h).2];rfl
 unfold jH
 constructor
 ·intro h
  cases hc:(Nat.beq (vs.length+S.gh.length) S.pars.length&&(oH S.gh&&S.pars.all Cr))with
  |false=>rw[hc]at h;cases h
  |true =>
   rw[hc]at h
   rw[Bool.and_eq_true,Bool.and_eq_true]at hc
   refine⟨⟨Nat.eq_of_beq_eq_true hc.1,nilG.1 hc.2.1,hc.2.2⟩,?_⟩
   dsimp only[cond_true]at h
   split at h
   ·rename_i ds ts e1
    cases hk:(iI S.pars.length (au 0 S.pars)&&(iN ts&&((bif S.shares then eA (ts.flatMap bK.lent)else true)&&(eA ((ts.flatMap bK.pair).map Prod.snd)&&ts.all IH))))with
    |false=>rw[hk]at h;cases h
    |true =>
     rw[hk]at h
     dsimp only[cond_true]at h
     rw[Bool.and_eq_true,Bool.and_eq_true,Bool.and_eq_true,Bool.and_eq_true]at hk
     split at h
     ·rename_i x e2
      split at h
      ·rename_i r e3
       split at h
       ·rename_i u e4
        cases ho:ii S d (fun _=>none) ts (cN S.ens (ai _ r)) (eX S.ens (ai _ r)) u with
        |false=>rw[ho]at h;cases h
        |true =>
         rw[ho]at h
         obtain⟨g1,g2⟩:=Prod.mk.inj (Option.some.inj h)
         subst g2
         exact⟨ds,ts,x,r,e1,⟨hk.1,hk.2.1,hk.2.2.1,hk.2.2.2.2⟩,e2,e3,e4,ho,g1.symm⟩
       ·cases h
      ·cases h
     ·cases h
   ·cases h
 ·rintro ⟨⟨h1,h2,h3⟩,ds,ts,x,r,e1,⟨k1,k2,k3,k4⟩,e2,e3,e4,e5,rfl⟩
  rw[show Nat.beq (vs.length+S.gh.length) S.pars.length=true from by rw[h1];exact Nat.beq_refl _,nilG.2 h2,h3]
  simp only[Bool.true_and,cond_true,e1,k1,k2,k3,nilP k4,k4,e2,e3,e4,e5]
theorem Es{S:aa}{vs:List AV}{d:Nat}{ob ob':Nm→Option Ob}(h:∀v∈vs, ∀n,aD v n→ob' n=ob n){v:AV}{ups:List (Nm×Ob)}(he:jH S vs d ob (fun v ups=>some (v,ups))=some (v,ups)):jH S vs d ob' (fun v ups=>some (v,ups))=some (v,ups):=by
 grind [oS,zN]
theorem Dc{S:aa}{vs:List AV}{d:Nat}{ob:Nm→Option Ob}{v:AV}{ups:List (Nm×Ob)}(he:jH S vs d ob (fun v ups=>some (v,ups))=some (v,ups)):(∀n,aD v n→ca d n=true)∧∀p∈ups,ca d p.1=true∧∀n,cP p.2 n→ca d n=true:=by
 obtain⟨_,ds,ts,x,r,_,⟨_,_,_,k4⟩,_,_,e4,_,rfl⟩:=oS.1 he
 exact⟨fun n hn=>Jd k4 hn,EM k4 e4⟩
theorem St.ext'{s s':St}(h1:∀i,s.t i=s'.t i) (h2:∀n,s.o n=s'.o n):s=s':=by
 cases s;cases s'
 congr 1
 ·grind
 ·grind
theorem cO (s:St) (d i:Nat) (v:AV):(s.put (some d) v).t i=if i=d then v else s.t i:=by
 simp_all [St.put]
theorem dR.drops0{d:Nat}{s:St}{ns:List Nm}(h:ns≠[]→dR d s) (hn:∀n∈ns,ca d n=true):(∀t,t≠d→(s.drops ns).t t=s.t t)∧(s.drops ns).o=s.o:=by
 cases ns with
 |nil=>exact⟨fun _ _=>rfl,rfl⟩
 |cons n ns=>exact(h (fun q=>by cases q)).drops _ hn
theorem Et{S:aa}{vs:List AV}{d:Nat}{ob:Nm→Option Ob}{v:AV}{ups:List (Nm×Ob)}(hn:S.ens.flatMap En.names=[]) (he:jH S vs d ob (fun v ups=>some (v,ups))=some (v,ups)):ups=[]:=by
 obtain⟨_,ds,ts,x,r,_,_,_,_,e4,_,rfl⟩:=oS.1 he
 have:eX S.ens (ai (be (du S.pars S.res S.nb)) r)=[]:=by
  rcases hmb:eX S.ens (ai (be (du S.pars S.res S.nb)) r)with _|⟨z,l⟩
  ·rfl
  ·have:=oD (q:=z) (by rw[hmb];exact List.mem_cons_self ..)
   rw[hn]at this;cases this
 rw[this]at e4
 exact(Option.some.inj e4).symm
theorem Ke{S:aa}{f:Nat}{xs:List Operand}{d:Nat}{v:AV}{ups:List (Nm×Ob)}(hf:S.ens.flatMap En.names≠[]→dR d s) (he:jH S (xs.map s.ev) d s.o (fun v ups=>some (v,ups))=some (v,ups)):lP (R:=St) S f .fn xs d s some=some ((s.over ups).put (some d) v):=by
 obtain⟨⟨h1,h2,h3⟩,ds,ts,x,r,e1,⟨k1,k2,k3,k4⟩,e2,e3,e4,e5,rfl⟩:=oS.1 he
 have hm:=(uy k4).1
 have gh:ni s.o (xs.map s.ev) S.gh=xs.map s.ev:=by rw[h2];rfl
 have fz:(bif S.shares then s.frzs (ts.flatMap bK.lent)else s)=s:=by
  cases q:S.shares with
  |false=>rfl
  |true =>
   rw[q]at k3
   have k3:eA (ts.flatMap bK.lent)=true:=k3
   cases q2:ts.flatMap bK.lent with
   |nil=>rfl
   |cons a b=>rw[q2]at k3;cases k3
 obtain⟨d1,d2⟩:=dR.drops0 (ns:=(S.ens.flatMap En.names).map (fun m=>d::m)) (fun q=>hf (fun e=>q (by rw[e];rfl))) (fun n hn=>by
  obtain⟨m,_,rfl⟩:=List.mem_map.1 hn
  exact Nat.beq_refl d)
 unfold lP
 rw[show s.argsOf f .fn xs=some (xs.map s.ev)from rfl]
 dsimp only
 rw[gh,e1]
 dsimp only
 rw[fz]
 unfold ml
 rw[show s.argsOf f .fn xs=some (xs.map s.ev)from rfl]
 dsimp only
 rw[show Nat.beq ((xs.map s.ev).length+S.gh.length) S.pars.length=true from by rw[h1];exact Nat.beq_refl _]
 simp only[cond_true,gh,e1,k1,k2,k3,Bool.true_and,e2,e3,hm,List.nil_append,yI (ob:=(s.drops ((S.ens.flatMap En.names).map (fun m=>d::m))).o) (ob':=fun _=>none) k4,e4,Er (ob:=(s.drops ((S.ens.flatMap En.names).map (fun m=>d::m))).o) (ob':=fun _=>none) k4,e5]
 refine congrArg some (St.ext' (fun i=>?_) fun n=>?_)
 ·rw[cO,cO]
  by_cases q:i=d
  ·simp_all
  ·rw[if_neg q,if_neg q]
   exact d1 i q
 ·show(match bk ups n with|some ob=>some ob|none=>_)=(match bk ups n with|some ob=>some ob|none=>_)
  rw[d2]
end
def stm (fr:Bool) (E:aK) (l:List Oper) (o:Oper) (s:St):Option St:=lO fr E l [o] s some
def nB (fr:Bool) (E:aK) (l:List Oper):List Oper→St→Option St
 |[],s=>some s
 |o::r,s=>(stm fr E l o s).bind (nB fr E l r)
section
variable{fr:Bool}{E:aK}{l:List Oper}{o:Oper}{s s1:St}
theorem CE{R:Type}(k:St→Option R):AQ E o s k=(AQ E o s some).bind k:=by
 unfold AQ
 cases o.dst with
 |none=>rfl
 |some d =>
  grind [split,sw,jH]
theorem xf{R:Type}(k:St→Option R):AH fr E o s k=(AH fr E o s some).bind k:=by
 unfold AH
 split
 ·grind [qD,CE]
 ·exact CE k
 ·exact qD k
theorem qB{R:Type}:∀{r:List Oper}{s:St}(k:St→Option R),lO fr E l r s k=(nB fr E l r s).bind k
 |[],s,k=>rfl
 |o::r,s,k=>by
  show lO fr E l (o::r) s k=((stm fr E l o s).bind (nB fr E l r)).bind k
  unfold stm
  unfold lO
  cases hg:o.guard with
  |none =>
   dsimp only
   rw[xf,xf (k:=fun s'=>lO fr E l [] s' some)]
   cases AH fr E o s some with
   |none=>rfl
   |some s1=>exact qB k
  |some g =>
   dsimp only
   rw[pL,pL (k:=fun s'=>lO fr E l [] s' some)]
   cases cT E l [o] s some with
   |none=>rfl
   |some s1=>exact qB k
theorem lR (h:(aA E o=1→fr=false)∧aA E o≠4):stm fr E l o s=stg E l o s:=by
 unfold stm stg lO
 cases hg:o.guard with
 |none =>
  dsimp only
  have e:AH fr E o s (fun s'=>lO fr E l [] s' some)=pm E o s (fun s'=>some s'):=by
   unfold AH
   split
   ·rename_i q
    rw[h.1 q];rfl
   ·omega
   ·rfl
  rw[e]
  show pm E o s (fun s'=>some s')=cT E l [o] s some
  unfold cT
  rw[hg];rfl
 |some g=>rfl
theorem mh (h:aA E o≠0) (h2:aA E o≠3):o.guard=none:=by
 grind [aA,iq,dL]
theorem As (h:(aA E o=1∧fr=true)∨aA E o=4):stm fr E l o s=AQ E o s some:=by
 have hg:o.guard=none:=mh (E:=E) (o:=o) (by rcases h with h|h<;>omega) (by rcases h with h|h<;>omega)
 unfold stm lO
 rw[hg]
 dsimp only
 unfold AH
 rcases h with⟨h,rfl⟩|h
 ·rw[h];rfl
 ·rw[h];rfl
theorem kO (hg:o.guard=none):stg E l o s=pm E o s some:=by
 rw[At]
 unfold gd CU
 rw[hg]
structure Iz (fr:Bool) (E:aK) (l:List Oper) (o:Oper) (q:Bool) (s:St) (d:Nat) (v:AV) (ups:List (Nm×Ob)):Prop where
 m:MX E l o q s d v ups
 stm:∀s':St,(∀t∈gR l o,s'.t t=s.t t)→(∀t∈gR l o, ∀n,aD (s.t t) n→s'.o n=s.o n)→(q=true→dR d s')→stm fr E l o s'=some ((s'.over ups).put (some d) v)
theorem QZ (hk:aA E o=0) (h:stm fr E l o s=some s1):∃d v,Iz fr E l o false s d v []∧s1=(s.over []).put (some d) v:=by
 have e:∀s,stm fr E l o s=stg E l o s:=fun s=>lR ⟨fun q=>(by rw[hk]at q;cases q),by rw[hk];decide⟩
 rw[e]at h
 obtain⟨d,v,h1,h2⟩:=Lo hk h
 exact⟨d,v,⟨h1,fun s' a b c=>(e s').trans (h1.step s' a b c)⟩,h2⟩
theorem JP (hk:(aA E o=1∧fr=true)∨aA E o=4){d:Nat}(hd:o.dst=some d) (h:stm fr E l o s=some s1):∃v ups q,Iz fr E l o q s d v ups∧(aA E o=4→q=false∧ups=[])∧s1=(s.over ups).put (some d) v∧(∀t,o.op = .alloc t→∃zc,v = .c (.pb [d,0] 0)∧ups=[([d,0], .box zc)]∧∀n,¬bR zc n)∧(AY o.op=true→∃el ty xs,v = .c (.own [d,0])∧ups=[([d,0], .arr el ty xs)]):=by
 have hg:o.guard=none:=mh (E:=E) (o:=o) (by rcases hk with h|h<;>omega) (by rcases hk with h|h<;>omega)
 rw[As hk]at h
 unfold AQ at h
 rw[hd]at h
 dsimp only at h
 cases hN:Nat.blt d E.N with
 |false=>simp_all
 |true =>
  rw[hN]at h
  dsimp only[cond_true]at h
  split at h
  ·rename_i f args ts hop
   cases hS:E.Γ f d with
   |none=>simp_all
   |some S =>
    rw[hS]at h
    dsimp only at h
    rw[sw]at h
    cases hc:jH S (args.toList.map s.ev) d s.o (fun v ups=>some (v,ups))with
    |none=>simp_all
    |some r =>
     obtain⟨v,ups⟩:=r
     rw[hc]at h
     obtain rfl:=(Option.some.inj h).symm
     have ops:∀x∈args.toList,x∈o.op.operands:=fun x hx=>by
      simp_all [Op.operands,Call.operands]
     have key:∀s':St,(∀t∈gR l o,s'.t t=s.t t)→(∀t∈gR l o, ∀n,aD (s.t t) n→s'.o n=s.o n)→jH S (args.toList.map s'.ev) d s'.o (fun v ups=>some (v,ups))=some (v,ups):=by
      intro s' h1 h2
      have e1:args.toList.map s'.ev=args.toList.map s.ev:=List.map_congr_left fun x hx=>(oO h1 x (ops x hx)).symm
      rw[e1]
      refine Es (ob:=s.o) (fun u hu n hn=>?_) hc
      obtain⟨x,hx,rfl⟩:=List.mem_map.1 hu
      obtain⟨t,ht,hm⟩:=ug (l:=l) (ops x hx) hn
      exact h2 t ht n hm
     have mt:=Dc hc
     have knd:eA (S.ens.flatMap En.names)=true∧aA E o=4∨eA (S.ens.flatMap En.names)=false∧aA E o≠4:=by
      grind [aA,eA,En.names,iq,dL]
     have nilN:eA (S.ens.flatMap En.names)=true→S.ens.flatMap En.names=[]:=fun q=>by
      cases w:S.ens.flatMap En.names with
      |nil=>rfl
      |cons a b=>rw[w]at q;cases q
     refine⟨v,ups, !eA (S.ens.flatMap En.names),⟨⟨hd,fun s' h1 h2 h3=>?_,fun p hp=>(mt.2 p hp).1,fun n hn => .inl ?_⟩,fun s' h1 h2 h3=>?_⟩,fun h4=>?_,rfl,fun t ht=>?_,fun hb=>(by rw[hop]at hb;cases hb)⟩
     ·grind [kO,Ke,eA,En.names,key,pm]
     ·rcases hn with hn|⟨p,hp,hn⟩
      ·simp_all
      ·grind
     ·grind [As,AQ,sw,key]
     ·grind [Et]
     ·simp_all
  ·rename_i hno
   have hal:(∃t,o.op = .alloc t)∨∃t n,o.op = .buildSlice t n ⟨[]⟩:=by
    grind [aA,iq,dL,split]
   have hn:dL o=true:=by unfold dL;rw[hg]
   have hvv:iq E.τ o=false:=by unfold iq;rcases hal with⟨t,hop⟩|⟨t,n,hop⟩<;>rw[hop]
   have k4:aA E o≠4:=by
    grind [aA]
   have hvo:∀s':St,fB E.τ o.op s'.ev s'.o=none:=fun s'=>by rcases hal with⟨t,hop⟩|⟨t,n,hop⟩<;>rw[hop]<;>rfl
   have hmo:∀e e':Operand→AV,rt E.τ o.op e [d,0]=rt E.τ o.op e' [d,0]:=fun e e'=>by rcases hal with⟨t,hop⟩|⟨t,n,hop⟩<;>rw[hop]<;>rfl
   have hK:∀ s':St,pm (R := St) E o s' some = (match fB E.τ o.op s'.ev s'.o with
        |some (c,v)=>bif dm E.N (some d)then(match c with|true=>some (s'.put (some d) v)|false=>none)else none
        |none=>bif Nat.blt d E.N then(match rt E.τ o.op (s'.drop [d,0]).ev [d,0]with
         |some (c,ob,v)=>(match c with|true=>some (((s'.drop [d,0]).setO [d,0] ob).put (some d) v)|false=>none)
         |none=>match mE E.τ o.op (some d) s' with
          |some (c,s'')=>(match c with|true=>some s''|false=>none)
          |none=>tY E.τ o.op d s' some)else none):=fun s'=>by
    unfold pm
    rw[hd]
    rcases hal with⟨t,hop⟩|⟨t,n,hop⟩<;>rw[hop]<;>rfl
   have hM:∀c ob v,rt E.τ o.op s.ev [d,0]=some (c,ob,v)→(mP o.op=true∧v = .c (.pb [d,0] 0)∧∃zc,ob = .box zc∧∀n,¬bR zc n)∨(AY o.op=true∧v = .c (.own [d,0])∧∃el ty xs,ob = .arr el ty xs):=fun c ob v hm=>by
    rcases hal with⟨t,hop⟩|⟨t,n,hop⟩
    ·left
     rw[hop]at hm ⊢
     have hm:(match E.τ.get t with
      |some ti=>match ti.z0 with
       |some zc=>some (true,Ob.box zc,AV.c (.pb [d,0] 0))
       |none=>none
      |none=>none)=some (c,ob,v):=hm
     cases ht:E.τ.get t with
     |none=>simp_all
     |some ti =>
      cases hz:ti.z0 with
      |none=>simp_all
      |some zc =>
       rw[ht]at hm
       dsimp only at hm
       rw[hz]at hm
       obtain⟨_,h2⟩:=Prod.mk.inj (Option.some.inj hm)
       obtain⟨h2,h3⟩:=Prod.mk.inj h2
       exact⟨rfl,h3.symm,zc,h2.symm,fun n=>Ak hz n⟩
    ·right
     rw[hop]at hm ⊢
     refine⟨rfl,?_⟩
     have hm:(match E.τ.get t with
      |some ti=>bif Nat.beq ti.kind 3 then(match E.τ.get ti.el with
       |some te=>match te.ty with
        |some ty=>bif Nat.ble (n*te.size) 65536 then(match rows ty (List.replicate n ty.zero) []with
         |some xs=>some (true,Ob.arr ti.el ty xs,AV.c (.own [d,0]))
         |none=>none)else none
        |none=>none
       |none=>none)else none
      |none=>none)=some (c,ob,v):=hm
     split at hm
     ·grind
     ·cases hm
   cases hmm:rt E.τ o.op s.ev [d,0]with
   |none=>simp_all
   |some r =>
    obtain⟨c,ob,v⟩:=r
    rw[hmm]at h
    dsimp only at h
    cases c with
    |false=>cases h
    |true =>
     obtain rfl:=(Option.some.inj h).symm
     have hM:=hM _ _ _ hmm
     have vm:∀n,aD v n→n=[d,0]:=fun n hn=>by
      rcases hM with⟨_,rfl,_⟩|⟨_,rfl,_⟩
      ·exact(show [d,0]=n from hn).symm
      ·exact(show [d,0]=n from hn).symm
     have om:∀n,¬cP ob n:=fun n hn=>by
      rcases hM with⟨_,_,zc,rfl,zm⟩|⟨_,_,el,ty,xs,rfl⟩
      ·exact zm n hn
      ·exact hn
     refine⟨_,_,true,⟨⟨hd,fun s' h1 h2 h3=>?_,fun p hp=>?_,fun n hn=>?_⟩,fun s' h1 h2 h3=>?_⟩,fun h4=>absurd h4 k4,rfl,fun t ht=>?_,fun hb=>?_⟩
     ·rw[kO hg]
      have hf':=h3 rfl
      obtain⟨d1,d2⟩:=hf'.drops [[d,0]] (fun n hn=>by rw[List.mem_singleton.1 hn];exact Nat.beq_refl d)
      have e1:pm (R:=St) E o s' some=some (((s'.drop [d,0]).setO [d,0] ob).put (some d) v):=by
       grind
      rw[e1]
      refine congrArg some (St.ext' (fun i=>?_) fun n=>?_)
      ·rw[cO,cO]
       by_cases q:i=d
       ·simp_all
       ·rw[if_neg q,if_neg q];exact d1 i q
      ·show(bif Nm.eqb n [d,0]then some ob else(s'.drop [d,0]).o n)=(match(bif Nm.eqb [d,0] n then some ob else none)with|some ob=>some ob|none=>s'.o n)
       rw[show(s'.drop [d,0]).o n=s'.o n from congrFun d2 n]
       cases q:Nm.eqb n [d,0]with
       |true=>rw[bA.1 q];simp[Nm.eqb]
       |false =>
        grind [Nm.eqb,aV]
     ·rw[List.mem_singleton.1 hp];exact Nat.beq_refl d
     ·rcases hn with hn|⟨p,hp,hn⟩
      ·rw[vm n hn]
       exact .inl (Nat.beq_refl d)
      ·simp_all
     ·grind [As,AQ,rt]
     ·grind [aA,stm,St.over,bR,AY,St.put]
     ·rcases hM with⟨ha,_⟩|⟨_,rfl,el,ty,xs,rfl⟩
      ·exfalso
       rcases hal with⟨t,hop⟩|⟨t,n,hop⟩
       ·rw[hop]at hb;cases hb
       ·rw[hop]at ha;cases ha
      ·simp_all
end
def bU (o:Oper):Option Nat:=match o.dst,o.op with
 |none, .store _ (.tmp a) _=>some a
 |_,_=>none
section
variable{fr:Bool}{E:aK}{l:List Oper}{o:Oper}{s s1:St}
theorem BW{cs new:List CV}{off:Nat}{n:Nm}(h:bR (yn cs off new) n):bR cs n∨bR new n:=by
 grind [yn,bR]
theorem XT{d:Nat}(hs:bU o=some d) (hg:o.guard=none) (hk:aA E o=2) (hi:s.t d = .c (.pb [d,0] 0)) (h:stm fr E l o s=some s1) :
  ∃ob0 ob,s.o [d,0]=some ob0∧s1=s.setO [d,0] ob∧stg E l o s=some s1∧(∀s':St,(∀t∈gR l o,s'.t t=s.t t)→s'.o [d,0]=s.o [d,0]→stm fr E l o s'=some (s'.setO [d,0] ob))∧∀n,cP ob n→cP ob0 n∨∃t∈gR l o,aD (s.t t) n:=by
 have hss:∀s,stm fr E l o s=stg E l o s:=fun s=>lR ⟨fun q=>(by rw[hk]at q;cases q),by rw[hk];decide⟩
 obtain⟨T,x,hd,hop⟩:∃T x,o.dst=none∧o.op = .store T (.tmp d) x:=by
  grind [bU,split]
 have form:∀s2:St,s2.t d = .c (.pb [d,0] 0)→stg E l o s2=(match E.τ.get T,fP (s2.ev x)with
   |some ti,some new=>bif (Nat.beq new.length ti.size&&new.all CV.fine)then(match s2.o [d,0]with
    |some (.box cs)=>bif Nat.ble (0+new.length) cs.length then some (s2.setO [d,0] (.box (yn cs 0 new)))else none
    |_=>none)else none
   |_,_=>none):=by
  intro s2 h2
  rw[kO hg]
  unfold pm
  rw[hop,hd]
  show(match fB E.τ (.store T (.tmp d) x) s2.ev s2.o with
   |some (c,v)=>bif dm E.N none then(match c with|true=>some (s2.put none v)|false=>none)else none
   |none=>match mE E.τ (.store T (.tmp d) x) none s2 with
    |some (c,s')=>(match c with|true=>some s'|false=>none)
    |none=>none)=_
  have hv:fB E.τ (.store T (.tmp d) x) s2.ev s2.o=none:=rfl
  rw[hv]
  dsimp only
  have hw:mE E.τ (.store T (.tmp d) x) none s2=(match E.τ.get T,s2.ev (.tmp d),fP (s2.ev x)with
   |some ti, .c p,some new=>bif (Nat.beq new.length ti.size&&new.all CV.fine)then(match n7 s2.o new p with
    |some (nm,ob)=>some (true,(s2.setO nm ob).put none (.c .dead))
    |none=>none)else none
   |_,_,_=>none):=rfl
  rw[hw,show s2.ev (.tmp d) = .c (.pb [d,0] 0)from h2]
  cases E.τ.get T with
  |none=>rfl
  |some ti =>
   cases fP (s2.ev x)with
   |none=>rfl
   |some new =>
    dsimp only
    cases(Nat.beq new.length ti.size&&new.all CV.fine)with
    |false=>rfl
    |true =>
     dsimp only[cond_true]
     unfold n7
     dsimp only
     cases s2.o [d,0]with
     |none=>rfl
     |some ob =>
      cases ob with
      |box cs =>
       dsimp only
       cases Nat.ble (0+new.length) cs.length<;>rfl
      |_=>rfl
 have hx:x∈o.op.operands:=by rw[hop];simp[Op.operands]
 have hdr:d∈gR l o:=List.mem_append_left _ (List.mem_flatMap.2 ⟨.tmp d,by rw[hop];simp[Op.operands],List.mem_singleton.2 rfl⟩)
 rw[hss]at h
 have hsg:=h
 rw[form s hi]at h
 cases hT:E.τ.get T with
 |none=>rw[hT]at h;cases h
 |some ti =>
  cases hc:fP (s.ev x)with
  |none=>rw[hT,hc]at h;cases h
  |some new =>
   rw[hT,hc]at h
   dsimp only at h
   cases hf:(Nat.beq new.length ti.size&&new.all CV.fine)with
   |false=>rw[hf]at h;cases h
   |true =>
    rw[hf]at h
    dsimp only[cond_true]at h
    cases ho:s.o [d,0]with
    |none=>rw[ho]at h;cases h
    |some ob =>
     rw[ho]at h
     cases ob with
     |box cs =>
      dsimp only at h
      cases hl:Nat.ble (0+new.length) cs.length with
      |false=>rw[hl]at h;cases h
      |true =>
       rw[hl]at h
       refine⟨_, .box (yn cs 0 new),rfl,(Option.some.inj h).symm,hsg,fun s' h1 h2=>?_,fun n hn=>?_⟩
       ·rw[hss,form s' ((h1 d hdr).trans hi),hT, ←oO h1 x hx,hc]
        dsimp only
        rw[hf,h2]
        dsimp only[cond_true]
        rw[hl];rfl
       ·rcases BW hn with hn|hn
        ·exact .inl hn
        ·exact .inr (ug hx (lZ hc hn))
     |_=>cases h
end
def nv (t:Nat) (s:St):Prop:=s.t t = .c (.own [t,0])∧(∀i,i≠t→¬aD (s.t i) [t,0])∧∀m ob,s.o m=some ob→¬cP ob [t,0]
def BD (t k d:Nat) (ob:Ob) (s:St):St:=⟨fun i=>if i=d then .c (.own [d,0])else if i=t then .c (.hd k)else s.t i,fun m=>if m=[d,0]then some ob else if m=[t,0]then none else s.o m⟩
theorem CV.past_id{n:Nm}{k:Nat}{c:CV}(h:¬dK c n):c.past n k=c:=by
 cases c with
 |own m =>
  grind [Nm.eqb,aV,dK,CV.past,AV.past,Ob.past,St.past]
 |_=>exact CV.drop_id h
theorem Pk.past_id{n:Nm}{k:Nat}{cs:List CV}(h:¬bR cs n):cs.map (CV.past n k)=cs:=by
 have e:cs.map (CV.past n k)=cs.map (fun c=>c):=List.map_congr_left fun c hc=>CV.past_id (fun q=>h ⟨c,hc,q⟩)
 rw[e,List.map_id']
theorem AV.past_id{n:Nm}{k:Nat}{v:AV}(h:¬aD v n):v.past n k=v:=by
 cases v with
 |c x=>exact congrArg AV.c (CV.past_id h)
 |g cs=>exact congrArg AV.g (Pk.past_id h)
 |tup l =>
  refine congrArg AV.tup ?_
  have e:l.map (fun p=>(p.1,p.2.map (CV.past n k)))=l.map (fun p=>p):=List.map_congr_left fun p hp=>Prod.ext rfl (Pk.past_id (fun q=>h ⟨p,hp,q⟩))
  rw[e,List.map_id']
theorem Ob.past_id{n:Nm}{k:Nat}{x:Ob}(h:¬cP x n):x.past n k=x:=by
 cases x with
 |box cs=>exact congrArg Ob.box (Pk.past_id h)
 |arr=>rfl
 |mp=>rfl
theorem NS{t k d:Nat}{s:St}{ob:Ob}(hc:nv t s) (hf:dR d s) (hne:d≠t):(((s.past [t,0] k).drop [d,0]).setO [d,0] ob).put (some d) (.c (.own [d,0]))=BD t k d ob s:=by
 have hdt:([d,0]:Nm)≠[t,0]:=fun q=>hne (by injection q)
 refine St.ext' (fun i=>?_) fun m=>?_
 ·rw[cO]
  show(if i=d then _ else((s.t i).past [t,0] k).drop [d,0])=(if i=d then _ else if i=t then _ else _)
  by_cases q:i=d
  ·simp_all
  ·rw[if_neg q,if_neg q]
   by_cases q2:i=t
   ·rw[if_pos q2,q2,hc.1]
    show AV.c (CV.drop [d,0] (bif Nm.eqb [t,0] [t,0]then CV.hd k else CV.own [t,0]))=_
    rw[nJ];rfl
   ·rw[if_neg q2,AV.past_id (hc.2.1 i q2)]
    exact AV.drop_id (hf.1 i q [d,0] (Nat.beq_refl d))
 ·show(bif Nm.eqb m [d,0]then some ob else bif Nm.eqb m [d,0]then none else(bif Nm.eqb m [t,0]then none else(s.o m).map (Ob.past [t,0] k)).map (Ob.drop [d,0]))=(if m=[d,0]then some ob else if m=[t,0]then none else s.o m)
  cases q:Nm.eqb m [d,0]with
  |true=>grind [bA]
  |false =>
   rw[if_neg (aV.1 q)]
   cases q2:Nm.eqb m [t,0]with
   |true=>grind [bA]
   |false =>
    rw[if_neg (aV.1 q2)]
    cases ho:s.o m with
    |none=>rfl
    |some x =>
     show some ((x.past [t,0] k).drop [d,0])=some x
     rw[Ob.past_id (hc.2.2 m x ho),Ob.drop_id ((hf.2 m x ho).2 [d,0] (Nat.beq_refl d))]
def vA (o:Nm→Option Ob):AV→Option ((t:Ty)→Option (List t.den))
 | .c y=>some fun t=>source o t y
 |_=>none
def Df (τ:lj) (ats:List TypeId) (ob0:Option Ob) (f:Option ((t:Ty)→Option (List t.den))):Option (Bool×Nat×Ob):=match f,ats with
 |some f,[at_,bt_]=>match τ.get at_ with
  |some ti=>bif (Nat.beq ti.kind 3&&Nat.beq at_ bt_)then(match τ.get ti.el with
   |some te=>match te.ty with
    |some ty=>bif Nat.ble te.bytes 4096 then(match ob0 with
     |some (.arr q u xs)=>bif Nat.beq q ti.el then(match Ty.same u ty with
      |some ⟨h⟩=>match f ty with
       |some ys=>some (aO ((Ty.cast (congrArg Ty.sl h) xs).length+ys.length),(Ty.cast (congrArg Ty.sl h) xs).length, .arr ti.el ty (Ty.cast (congrArg Ty.sl h) xs++ys))
       |none=>none
      |none=>none)else none
     |_=>none)else none
    |none=>none
   |none=>none)else none
  |none=>none
 |_,_=>none
theorem KL {τ:lj}{c:Call}{d t:Nat}{y:Operand}{s:St}(hc:c.callee = .builtin .append) (ha:c.args.toList=[.tmp t,y]) (ht:s.t t = .c (.own [t,0])) :
  mE τ (.call c) (some d) s=(Df τ c.argTypes.toList (s.o [t,0]) (vA s.o (s.ev y))).map fun r=>(r.1,(((s.past [t,0] r.2.1).drop [d,0]).setO [d,0] r.2.2).put (some d) (.c (.own [d,0]))):=by
 obtain⟨callee,args,argTypes⟩:=c
 obtain rfl:=hc
 have ha:args.toList=[.tmp t,y]:=ha
 unfold mE
 dsimp only
 rw[ha]
 show(match(some d:Option Nat),[s.t t,s.ev y],argTypes.toList with
  |some d,[.c x, .c y],[at_,bt_]=>_
  |_,_,_=>none)=_
 rw[ht]
 unfold Df
 generalize s.ev y=Y
 generalize argTypes.toList=ats
 cases Y with
 |g=>cases ats<;>rfl
 |tup=>cases ats<;>rfl
 |c Y =>
  match ats with
  |[]=>rfl
  |[_]=>rfl
  |_::_::_::_=>rfl
  |[at_,bt_] =>
   unfold vA
   dsimp only
   cases τ.get at_ with
   |none=>rfl
   |some ti =>
    dsimp only
    cases(Nat.beq ti.kind 3&&Nat.beq at_ bt_)with
    |false=>rfl
    |true =>
     dsimp only[cond_true]
     cases τ.get ti.el with
     |none=>rfl
     |some te =>
      dsimp only
      cases te.ty with
      |none=>rfl
      |some ty =>
       dsimp only
       cases Nat.ble te.bytes 4096 with
       |false=>rfl
       |true =>
        dsimp only[cond_true]
        cases s.o [t,0]with
        |none=>rfl
        |some ob =>
         cases ob with
         |box=>rfl
         |mp=>rfl
         |arr q u xs =>
          dsimp only
          cases Nat.beq q ti.el with
          |false=>rfl
          |true =>
           dsimp only[cond_true]
           cases Ty.same u ty with
           |none=>rfl
           |some h =>
            dsimp only
            cases source s.o ty Y<;>rfl
theorem Dy{o o':Nm→Option Ob}{t:Ty}{c:CV}(h:∀n,dK c n→o' n=o n):source o' t c=source o t c:=by
 cases c with
 |own m=>simp_all [source,dK]
 |_=>rfl
theorem Ge{o o':Nm→Option Ob}{y:AV}(h:∀n,aD y n→o' n=o n):vA o' y=vA o y:=by
 cases y with
 |g=>rfl
 |tup=>rfl
 |c y=>grind [Dy,aD,vA]
theorem Km {τ:lj}{ats:List TypeId}{ob0:Option Ob}{f:Option ((t:Ty)→Option (List t.den))}:∀r,Df τ ats ob0 f=some r→∀n,¬cP r.2.2 n:=by
 have key:∀x:Option (Bool×Nat×Ob),(match x with|some r=>(match r.2.2 with | .arr _ _ _=>true|_=>false)|none=>true)=true→∀r,x=some r→∀n,¬cP r.2.2 n:=fun x hx r hr n hn=>by
  grind [Df,cP]
 refine key _ ?_
 unfold Df
 match f,ats with
 |none,_=>rfl
 |some f,[]=>rfl
 |some f,[_]=>rfl
 |some f,_::_::_::_=>rfl
 |some f,[at_,bt_] =>
  dsimp only
  cases τ.get at_ with
  |none=>rfl
  |some ti =>
   dsimp only
   cases(Nat.beq ti.kind 3&&Nat.beq at_ bt_)with
   |false=>rfl
   |true =>
    dsimp only[cond_true]
    cases τ.get ti.el with
    |none=>rfl
    |some te =>
     grind
section
variable{fr:Bool}{E:aK}{l:List Oper}{o:Oper}{s s1:St}
theorem l7{t:Nat}(h:jM o=some t):∃c y d,o.op = .call c∧c.callee = .builtin .append∧c.args.toList=[.tmp t,y]∧o.dst=some d:=by
 grind [jM,split]
theorem Xq{t d:Nat}(ha:jM o=some t) (hd:o.dst=some d) (hk:aA E o=6) (hc:nv t s) (hf:dR d s) (hne:d≠t) (h:stm fr E l o s=some s1) :
  ∃k ob,s1=BD t k d ob s∧(∀n,¬cP ob n)∧stg E l o s=some s1∧∀s':St,(∀i∈gR l o,s'.t i=s.t i)→(∀i∈gR l o, ∀n,aD (s.t i) n→s'.o n=s.o n)→nv t s'→dR d s'→stm fr E l o s'=some (BD t k d ob s'):=by
 have hss:∀s,stm fr E l o s=stg E l o s:=fun s=>lR ⟨fun q=>(by rw[hk]at q;cases q),by rw[hk];decide⟩
 have hg:o.guard=none:=mh (E:=E) (o:=o) (by omega) (by omega)
 obtain⟨c,y,d',hop,hcc,hca,hd'⟩:=l7 ha
 obtain rfl:d=d':=Option.some.inj (hd.symm.trans hd')
 have hyo:y∈o.op.operands:=by
  rw[hop]
  simp only[Op.operands,Call.operands,Array.mem_append]
  right
  rw[←Array.mem_toList_iff,hca]
  exact .tail _ (.head _)
 have hto:t∈gR l o:=List.mem_append_left _ (List.mem_flatMap.2 ⟨.tmp t,by
  rw[hop]
  simp only[Op.operands,Call.operands,Array.toList_append,List.mem_append]
  right
  rw[hca]
  exact .head _,List.mem_singleton.2 rfl⟩)
 have form:∀s2:St,nv t s2→dR d s2→stg E l o s2=(match Df E.τ c.argTypes.toList (s2.o [t,0]) (vA s2.o (s2.ev y))with
   |some r=>bif Nat.blt d E.N then(match r.1 with|true=>some (BD t r.2.1 d r.2.2 s2)|false=>none)else none
   |none=>none):=by
  intro s2 h2 h3
  rw[kO hg]
  have hvo:fB E.τ (.call c) s2.ev s2.o=none:=by
   obtain⟨callee,args,argTypes⟩:=c
   obtain rfl:=hcc
   rfl
  have hmo:rt E.τ (.call c) (s2.drop [d,0]).ev [d,0]=none:=rfl
  have e1:pm (R := St) E o s2 some = (match fB E.τ (.call c) s2.ev s2.o with
        |some (c,v)=>bif dm E.N (some d)then(match c with|true=>some (s2.put (some d) v)|false=>none)else none
        |none=>bif Nat.blt d E.N then(match rt E.τ (.call c) (s2.drop [d,0]).ev [d,0]with
         |some (c,ob,v)=>(match c with|true=>some (((s2.drop [d,0]).setO [d,0] ob).put (some d) v)|false=>none)
         |none=>match mE E.τ (.call c) (some d) s2 with
          |some (c,s'')=>(match c with|true=>some s''|false=>none)
          |none=>tY E.τ (.call c) d s2 some)else none):=by
   unfold pm
   rw[hd,hop]
   obtain⟨callee,args,argTypes⟩:=c
   obtain rfl:=hcc
   rfl
  rw[e1,hvo,hmo,KL hcc hca h2.1]
  dsimp only
  cases Df E.τ c.argTypes.toList (s2.o [t,0]) (vA s2.o (s2.ev y))with
  |none=>cases Nat.blt d E.N<;>rfl
  |some r =>
   cases Nat.blt d E.N with
   |false=>rfl
   |true =>
    dsimp only[cond_true,Option.map_some]
    rw[NS h2 h3 hne]
 rw[hss]at h
 have hsg:=h
 rw[form s hc hf]at h
 cases hr:Df E.τ c.argTypes.toList (s.o [t,0]) (vA s.o (s.ev y))with
 |none=>rw[hr]at h;cases h
 |some r =>
  rw[hr]at h
  obtain⟨b,k,ob⟩:=r
  dsimp only at h
  cases hN:Nat.blt d E.N with
  |false=>rw[hN]at h;cases h
  |true =>
   rw[hN,cond_true]at h
   cases b with
   |false=>cases h
   |true =>
    refine⟨k,ob,(Option.some.inj h).symm,Km _ hr,hsg,fun s' h1 h2 h3 h4=>?_⟩
    rw[hss,form s' h3 h4, ←oO h1 y hyo,h2 t hto [t,0] (by rw[hc.1];exact rfl),Ge (o:=s.o) (fun n hn=>by
     obtain⟨i,hi,hm⟩:=ug (l:=l) hyo hn
     exact h2 i hi n hm),hr]
    dsimp only
    rw[hN];rfl
end
def mO (l:List Oper) (i:Nat):Bool:=match l[i]? with
 |some o=>(match jM o with|some _=>true|none=>false)
 |none=>false
def JO (l:List Oper) (z:Nat×Nat) (o:Oper):Bool:=bif mO l z.1 then AY o.op else mP o.op
def Jl (E:aK) (l:List Oper) (rs:List (List Nat)) (zs:List (Nat×Nat)) (i:Nat):Bool:=match l[i]? with
  |none=>false
  |some o =>
    (match aA E o with
      |0=>true
      |1=>true
      |4=>true
      |2=>(match bU o with|some d=>zs.any (fun z=>Nat.beq z.1 i&&Nat.beq z.2 d)|none=>false)
      |6=>(match jM o,o.dst with|some t,some d => !Nat.beq d t&&zs.any (fun z=>Nat.beq z.1 i&&Nat.beq z.2 t)|_,_=>false)
      |_=>false) &&
    ((List.range l.length).all (fun j=>Nat.beq j i || (match l[j]? with
      |some p=>(match p.dst with
        |some e=>(aP j (rs.getD i []) || !aP e (gR l o))&&(match o.dst with|some d => !Nat.beq d e|none=>true)
        |none=>true)
      |none=>true)) &&
     zs.all (fun z=>Nat.beq z.1 i || (aP z.1 (rs.getD i []) || (!aP z.2 (gR l o)&&(match o.dst with|some d => !Nat.beq d z.2 || JO l z o|none=>true)))))
def nE (fr:Bool):Nat→Bool
 |0=>true
 |4=>true
 |1=>fr
 |_=>false
def LA (l:List Oper) (a b:Oper):Bool:=match jM a with
 |some t => !aP t (gR l b)&&(match b.dst with|some e => !Nat.beq e t|none=>false)
 |none=>false
def Cg (E:aK) (l:List Oper) (rs:List (List Nat)) (fr:Bool) (i j:Nat):Bool:=match l[i]?,l[j]? with
 |some a,some b=>aP i (rs.getD j []) || (match a.dst with
  |some d=>(nE fr (aA E a) || (fr&&Nat.beq (aA E a) 6&&LA l a b))&&(!aP d (gR l b)&&(match b.dst with
   |some e=>(nE fr (aA E b) || (fr&&Nat.beq (aA E b) 6&&(nE fr (aA E a)&&LA l b a)))&&(!Nat.beq d e && !aP e (gR l a))
   |none=>fr&&(match bU b with
    |some z=>Nat.beq (aA E b) 2&&(!Nat.beq d z && !aP z (gR l a))
    |none=>false)))
  |none=>false)
 |_,_=>false
def Cl (l:List Oper) (i j:Nat):Bool:=match l[i]? with
 |some a => !aP j (bJ a)
 |none=>false
def j0 (l:List Oper) (z:Nat×Nat) (s:St):Prop:=match mO l z.1 with
 |true=>nv z.2 s
 |false=>vZ z.2 s
def ye (fr:Bool) (l:List Oper) (zs:List (Nat×Nat)) (L:List Nat) (s:St):Prop:=fr=true →
 (∀i∈L, ∀o d,l[i]?=some o→o.dst=some d→dR d s)∧∀z∈zs,z.1∈L→(∃i∈L, ∃o,l[i]?=some o∧o.dst=some z.2)∨j0 l z s
theorem iv{n:Nm}{x:Ob}:∀{ups:List (Nm×Ob)},bk ups n=some x→(n,x)∈ups
 |[],h=>by cases h
 |p::r,h=>by
  have h:(bif Nm.eqb p.1 n then some p.2 else bk r n)=some x:=h
  cases q:Nm.eqb p.1 n with
  |true =>
   grind [bA]
  |false=>rw[q]at h;exact List.mem_cons_of_mem _ (iv h)
theorem rM (s:St) (ups:List (Nm×Ob)) (d:Nat) (v:AV){n:Nm}{x:Ob}(h:((s.over ups).put (some d) v).o n=some x):(n,x)∈ups∨(bk ups n=none∧s.o n=some x):=by
 grind [bk,iv,St.over,St.put]
theorem iJ{s:St}{ups:List (Nm×Ob)}{d:Nat}{v:AV}{n:Nm}(h:∀p∈ups,p.1≠n):bk ups n=none∧((s.over ups).put (some d) v).o n=s.o n:=by
 have:bk ups n=none:=by
  cases q:bk ups n with
  |none=>rfl
  |some x=>exact absurd rfl (h _ (iv q))
 refine⟨this,?_⟩
 show(match bk ups n with|some ob=>some ob|none=>s.o n)=s.o n
 rw[this]
section
variable{fr:Bool}{E:aK}{l:List Oper}{s s1:St}
theorem tw{o:Oper}{q:Bool}{d e:Nat}{v:AV}{ups:List (Nm×Ob)}(hm:Iz fr E l o q s d v ups) (hne:d≠e) (hr:e∉gR l o) (hf:dR e s):dR e ((s.over ups).put (some d) v):=by
 have key:∀n,ca e n=true→¬(aD v n∨∃p∈ups,cP p.2 n):=by
  intro n hn hc
  rcases hm.m.ment n hc with h|⟨t,ht,h⟩|⟨t,ht,m,y,h1,h2,h3⟩
  ·grind [uG]
  ·exact hf.1 t (fun q=>hr (q▸ht)) n hn h
  ·exact(hf.2 m y h2).2 n hn h3
 refine⟨fun t ht n hn h=>?_,fun m x hx=>?_⟩
 ·rw[cO]at h
  by_cases q:t=d
  ·simp_all
  ·rw[if_neg q]at h;exact hf.1 t ht n hn h
 ·rcases rM s ups d v hx with h|⟨_,h⟩
  ·exact⟨uG hne (hm.m.hd _ h),fun n hn h2=>key n hn (.inr ⟨_,h,h2⟩)⟩
  ·exact hf.2 m x h
theorem LD{o:Oper}{q:Bool}{d z:Nat}{v:AV}{ups:List (Nm×Ob)}(hm:Iz fr E l o q s d v ups) (hne:d≠z) (hr:z∉gR l o) (hf:vZ z s):vZ z ((s.over ups).put (some d) v):=by
 have key:¬(aD v [z,0]∨∃p∈ups,cP p.2 [z,0]):=by
  intro hc
  rcases hm.m.ment _ hc with h|⟨t,ht,h⟩|⟨t,ht,m,y,h1,h2,h3⟩
  ·exact hne (Nat.eq_of_beq_eq_true h).symm
  ·exact hf.2.1 t (fun q=>hr (q▸ht)) h
  ·exact hf.2.2 m y h2 h3
 refine⟨?_,fun t ht h=>?_,fun m x hx h2=>?_⟩
 ·rw[cO,if_neg (Ne.symm hne)];exact hf.1
 ·rw[cO]at h
  by_cases q:t=d
  ·simp_all
  ·rw[if_neg q]at h;exact hf.2.1 t ht h
 ·rcases rM s ups d v hx with h|⟨_,h⟩
  ·grind
  ·exact hf.2.2 m x h h2
theorem xV{o:Oper}{q:Bool}{d z:Nat}{v:AV}{ups:List (Nm×Ob)}(hm:Iz fr E l o q s d v ups) (hne:d≠z) (hr:z∉gR l o) (hf:nv z s):nv z ((s.over ups).put (some d) v):=by
 have key:¬(aD v [z,0]∨∃p∈ups,cP p.2 [z,0]):=by
  intro hc
  rcases hm.m.ment _ hc with h|⟨t,ht,h⟩|⟨t,ht,m,y,h1,h2,h3⟩
  ·exact hne (Nat.eq_of_beq_eq_true h).symm
  ·exact hf.2.1 t (fun q=>hr (q▸ht)) h
  ·exact hf.2.2 m y h2 h3
 refine⟨?_,fun t ht h=>?_,fun m x hx h2=>?_⟩
 ·rw[cO,if_neg (Ne.symm hne)];exact hf.1
 ·rw[cO]at h
  by_cases q:t=d
  ·simp_all
  ·rw[if_neg q]at h;exact hf.2.1 t ht h
 ·rcases rM s ups d v hx with h|⟨_,h⟩
  ·grind
  ·exact hf.2.2 m x h h2
theorem Kc{z:Nat×Nat}{o:Oper}{q:Bool}{d:Nat}{v:AV}{ups:List (Nm×Ob)}(hm:Iz fr E l o q s d v ups) (hne:d≠z.2) (hr:z.2∉gR l o) (hf:j0 l z s):j0 l z ((s.over ups).put (some d) v):=by
 grind [j0,mO,xV,LD]
theorem FB{t k d e:Nat}{ob:Ob}(ho:∀n,¬cP ob n) (hne:d≠e) (hf:dR e s):dR e (BD t k d ob s):=by
 refine⟨fun i hi n hn h=>?_,fun m x hx=>?_⟩
 ·have h:aD (if i=d then .c (.own [d,0])else if i=t then .c (.hd k)else s.t i) n:=h
  by_cases q:i=d
  ·rw[if_pos q]at h
   have h:[d,0]=n:=h
   rw[←h]at hn
   exact hne (Nat.eq_of_beq_eq_true hn)
  ·rw[if_neg q]at h
   by_cases q2:i=t
   ·rw[if_pos q2]at h;exact h
   ·grind [cP,dR,BD]
 ·have hx:(if m=[d,0]then some ob else if m=[t,0]then none else s.o m)=some x:=hx
  by_cases q:m=[d,0]
  ·rw[if_pos q]at hx
   obtain rfl:=Option.some.inj hx
   rw[q]
   refine⟨?_,fun n _=>ho n⟩
   show Nat.beq d e=false
   cases w:Nat.beq d e with
   |false=>rfl
   |true=>simp_all
  ·grind [cP,dR,BD]
theorem Fm{t k d z:Nat}{ob:Ob}(ho:∀n,¬cP ob n) (hne:d≠z) (h1:∀i,i≠z→¬aD (s.t i) [z,0]) (h2:∀m x,s.o m=some x→¬cP x [z,0]):(∀i,i≠z→¬aD ((BD t k d ob s).t i) [z,0])∧∀m x,(BD t k d ob s).o m=some x→¬cP x [z,0]:=by
 refine⟨fun i hi h=>?_,fun m x hx h=>?_⟩
 ·have h:aD (if i=d then .c (.own [d,0])else if i=t then .c (.hd k)else s.t i) [z,0]:=h
  by_cases q:i=d
  ·rw[if_pos q]at h
   have h:[d,0]=[z,0]:=h
   injection h with h _
   exact hne h
  ·rw[if_neg q]at h
   by_cases q2:i=t
   ·rw[if_pos q2]at h;exact h
   ·simp_all
 ·grind [cP,aD,BD]
theorem FF{t k d z:Nat}{ob:Ob}(h1:z≠d) (h2:z≠t):(BD t k d ob s).t z=s.t z:=by
 simp_all [BD]
theorem Kd{z:Nat×Nat}{t k d:Nat}{ob:Ob}(ho:∀n,¬cP ob n) (hne:d≠z.2) (hzt:z.2≠t) (hf:j0 l z s):j0 l z (BD t k d ob s):=by
 unfold j0 at hf ⊢
 cases w:mO l z.1 with
 |true =>
  rw[w]at hf
  exact⟨by rw[FF (Ne.symm hne) hzt];exact hf.1,Fm ho hne hf.2.1 hf.2.2⟩
 |false =>
  rw[w]at hf
  exact⟨by rw[FF (Ne.symm hne) hzt];exact hf.1,Fm ho hne hf.2.1 hf.2.2⟩
theorem MT{t k d db:Nat}{ob:Ob}{vb:AV}{ub:List (Nm×Ob)}(hub:∀p∈ub,ca db p.1=true) (h1:db≠d) (h2:db≠t):((BD t k d ob s).over ub).put (some db) vb=BD t k d ob ((s.over ub).put (some db) vb):=by
 refine St.ext' (fun i=>?_) fun m=>?_
 ·rw[cO]
  show(if i=db then vb else if i=d then _ else if i=t then _ else s.t i)=(if i=d then _ else if i=t then _ else((s.over ub).put (some db) vb).t i)
  rw[cO]
  by_cases q:i=db
  ·simp_all
  ·rw[if_neg q,if_neg q];rfl
 ·show(match bk ub m with|some x=>some x|none=>(if m=[d,0]then some ob else if m=[t,0]then none else s.o m))=(if m=[d,0]then some ob else if m=[t,0]then none else(match bk ub m with|some x=>some x|none=>s.o m))
  cases w:bk ub m with
  |none=>rfl
  |some x =>
   have hh:=hub _ (iv w)
   have n1:m≠[d,0]:=fun e=>by
    simp_all [ca]
   have n2:m≠[t,0]:=fun e=>by
    simp_all [ca]
   simp only[if_neg n1,if_neg n2]
theorem EP{a b:Oper}{qa qb:Bool}{da db:Nat}{va vb:AV}{ua ub:List (Nm×Ob)}(ha:Iz fr E l a qa s da va ua) (hb:Iz fr E l b qb ((s.over ua).put (some da) va) db vb ub) (hne:da≠db) (h1:da∉gR l b) (h2:db∉gR l a)
  (hcase:(ua=[]∧ub=[]∧qa=false∧qb=false)∨(dR da s∧dR db s)) :
  stm fr E l b s=some ((s.over ub).put (some db) vb)∧stm fr E l a ((s.over ub).put (some db) vb)=some ((((s.over ua).put (some da) va).over ub).put (some db) vb):=by
 have st:∀t,t≠da→((s.over ua).put (some da) va).t t=s.t t:=fun t ht=>by rw[cO,if_neg ht];rfl
 have st2:∀t,t≠db→((s.over ub).put (some db) vb).t t=s.t t:=fun t ht=>by rw[cO,if_neg ht];rfl
 have eb:stm fr E l b s=some ((s.over ub).put (some db) vb):=by
  refine hb.stm s (fun t ht=>(st t (fun q=>h1 (q▸ht))).symm) (fun t ht n hn=>?_) (fun q=>?_)
  ·rcases hcase with⟨rfl,_⟩|⟨f1,_⟩
   ·rfl
   ·rw[st t (fun q=>h1 (q▸ht))]at hn
    exact(iJ (fun p hp e=>f1.1 t (fun q=>h1 (q▸ht)) n (by rw[←e];exact ha.m.hd p hp) hn)).2.symm
  ·simp_all
 refine⟨eb,?_⟩
 have ea:stm fr E l a ((s.over ub).put (some db) vb)=some ((((s.over ub).put (some db) vb).over ua).put (some da) va):=by
  refine ha.stm _ (fun t ht=>st2 t (fun q=>h2 (q▸ht))) (fun t ht n hn=>?_) (fun q=>?_)
  ·rcases hcase with⟨_,rfl,_⟩|⟨_,f2⟩
   ·rfl
   ·exact(iJ (fun p hp e=>f2.1 t (fun q=>h2 (q▸ht)) n (by rw[←e];exact hb.m.hd p hp) hn)).2
  ·rcases hcase with⟨_,_,q',_⟩|⟨f1,f2⟩
   ·simp_all
   ·have hb0:Iz fr E l b qb s db vb ub:=⟨⟨hb.m.dst,fun s' g1 g2 g3=>hb.m.step s' (fun t ht=>(g1 t ht).trans (st t (fun q=>h1 (q▸ht))).symm) (fun t ht n hn=>by
      rw[st t (fun q=>h1 (q▸ht))]at hn
      rw[g2 t ht n hn]
      exact(iJ (fun p hp e=>f1.1 t (fun q=>h1 (q▸ht)) n (by rw[←e];exact ha.m.hd p hp) hn)).2.symm) g3,hb.m.hd,fun n hn=>by
       rcases hb.m.ment n hn with h|⟨t,ht,h⟩|⟨t,ht,m,y,g1,g2,g3⟩
       ·exact .inl h
       ·rw[st t (fun q=>h1 (q▸ht))]at h;exact .inr (.inl ⟨t,ht,h⟩)
       ·rw[st t (fun q=>h1 (q▸ht))]at g1
        rw[(iJ (fun p hp e=>f1.1 t (fun q=>h1 (q▸ht)) m (by rw[←e];exact ha.m.hd p hp) g1)).2]at g2
        exact .inr (.inr ⟨t,ht,m,y,g1,g2,g3⟩)⟩,fun s' g1 g2 g3=>hb.stm s' (fun t ht=>(g1 t ht).trans (st t (fun q=>h1 (q▸ht))).symm) (fun t ht n hn=>by
      rw[st t (fun q=>h1 (q▸ht))]at hn
      rw[g2 t ht n hn]
      exact(iJ (fun p hp e=>f1.1 t (fun q=>h1 (q▸ht)) n (by rw[←e];exact ha.m.hd p hp) hn)).2.symm) g3⟩
    exact tw hb0 (Ne.symm hne) h1 f1
 rw[ea]
 refine congrArg some (St.ext' (fun i=>?_) fun n=>?_)
 ·rw[cO,cO]
  show(if i=da then va else((s.over ub).put (some db) vb).t i)=(if i=db then vb else((s.over ua).put (some da) va).t i)
  rw[cO,cO]
  by_cases q:i=da
  ·rw[if_pos q,if_pos q,if_neg (fun q2=>hne (q.symm.trans q2))]
  ·rw[if_neg q,if_neg q];rfl
 ·show(match bk ua n with|some ob=>some ob|none=>(match bk ub n with|some ob=>some ob|none=>s.o n))=(match bk ub n with|some ob=>some ob|none=>(match bk ua n with|some ob=>some ob|none=>s.o n))
  cases q1:bk ua n with
  |none=>rfl
  |some x =>
   cases q2:bk ub n with
   |none=>rfl
   |some y =>
    exfalso
    have g1:=ha.m.hd _ (iv q1)
    have g2:=hb.m.hd _ (iv q2)
    rw[uG hne g1]at g2;cases g2
theorem KV{a b:Oper}{q:Bool}{da z:Nat}{va:AV}{ua:List (Nm×Ob)}(ha:Iz fr E l a q s da va ua) (hs:bU b=some z) (hg:b.guard=none) (hk:aA E b=2) (hc:vZ z s) (hf:dR da s) (hne:da≠z) (hra:z∉gR l a) (hrb:da∉gR l b){s2:St}(h:stm fr E l b ((s.over ua).put (some da) va)=some s2) :
  ∃s1',stm fr E l b s=some s1'∧stm fr E l a s1'=some s2:=by
 have st:∀t,t≠da→((s.over ua).put (some da) va).t t=s.t t:=fun t ht=>by rw[cO,if_neg ht];rfl
 have hzd:∀p∈ua,p.1≠[z,0]:=fun p hp e=>hne (Nat.eq_of_beq_eq_true (show Nat.beq z da=true from by
  have:=ha.m.hd p hp
  rw[e]at this;exact this)).symm
 obtain⟨ob0,ob,g1,g2,_,g4,g5⟩:=XT hs hg hk (by rw[st z (Ne.symm hne)];exact hc.1) h
 rw[(iJ hzd).2]at g1
 have e1:stm fr E l b s=some (s.setO [z,0] ob):=g4 s (fun t ht=>(st t (fun q=>hrb (q▸ht))).symm) (iJ hzd).2.symm
 refine⟨_,e1,?_⟩
 have mo:∀n,ca da n=true→¬cP ob n:=fun n hn hm=>by
  grind [bU,aA,vZ,dR,gR,stm,St.over,St.put]
 have hf':dR da (s.setO [z,0] ob):=by
  refine⟨hf.1,fun m x hx=>?_⟩
  have hx:(bif Nm.eqb m [z,0]then some ob else s.o m)=some x:=hx
  cases w:Nm.eqb m [z,0]with
  |true =>
   rw[w]at hx
   obtain rfl:=Option.some.inj hx
   rw[bA.1 w]
   exact⟨(hf.2 _ ob0 g1).1,mo⟩
  |false=>rw[w]at hx;exact hf.2 m x hx
 have e2:=ha.stm (s.setO [z,0] ob) (fun _ _=>rfl) (fun t ht n hn=>by
  show(bif Nm.eqb n [z,0]then some ob else s.o n)=s.o n
  cases w:Nm.eqb n [z,0]with
  |true =>
   rw[bA.1 w]at hn
   exact absurd hn (hc.2.1 t (fun q=>hra (q▸ht)))
  |false=>rfl) (fun _=>hf')
 rw[e2,g2]
 refine congrArg some (St.ext' (fun i=>?_) fun n=>?_)
 ·show _=((s.over ua).put (some da) va).t i
  rw[cO,cO]
  rfl
 ·show(match bk ua n with|some ob=>some ob|none=>(bif Nm.eqb n [z,0]then some ob else s.o n))=(bif Nm.eqb n [z,0]then some ob else(match bk ua n with|some ob=>some ob|none=>s.o n))
  cases w:Nm.eqb n [z,0]with
  |false=>rfl
  |true=>rw[bA.1 w,(iJ (s:=s) (d:=da) (v:=va) hzd).1]
end
section
variable{fr:Bool}{E:aK}{l:List Oper}
theorem gC{o:Oper}{s s1:St}{d:Nat}(hd:o.dst=some d) (hk:nE fr (aA E o)=true) (h:stm fr E l o s=some s1):∃v ups q,Iz fr E l o q s d v ups∧(aA E o≠1→q=false∧ups=[])∧s1=(s.over ups).put (some d) v∧(∀t,o.op = .alloc t→aA E o=1→∃zc,v = .c (.pb [d,0] 0)∧ups=[([d,0], .box zc)]∧∀n,¬bR zc n)∧(AY o.op=true→aA E o=1→∃el ty xs,v = .c (.own [d,0])∧ups=[([d,0], .arr el ty xs)]):=by
 have three:aA E o=0∨(aA E o=1∧fr=true)∨aA E o=4:=by
  grind [nE,split]
 rcases three with h0|h1
 ·obtain⟨d',v,m,rfl⟩:=QZ (fr:=fr) h0 h
  have:d'=d:=by
   have:=m.m.dst
   rw[hd]at this
   exact(Option.some.inj this).symm
  subst this
  exact⟨v,[],false,m,fun _=>⟨rfl,rfl⟩,rfl,fun t _ q=>(by rw[h0]at q;cases q),fun _ q=>(by rw[h0]at q;cases q)⟩
 ·grind [JP]
theorem bf{n:Nat}{l:List Nat}(h:(!aP n l)=true):n∉l:=fun q=>by grind [cD]
theorem lz{a b:Nat}(h:(!Nat.beq a b)=true):a≠b:=fun q=>by simp_all
theorem Ad{zs:List (Nat×Nat)}{L:List Nat}{s:St}{i:Nat}{o:Oper}{t d:Nat}(hI:ye true l zs L s) (hi:i∈L) (ho:l[i]?=some o) (hok:Jl E l (aN l []) zs i=true) (hfree:∀a∈L,aP a ((aN l []).getD i [])=false) (hat:jM o=some t) (hd:o.dst=some d) (k6:aA E o=6):d≠t∧nv t s:=by
 obtain⟨I1,I2⟩:=hI rfl
 unfold Jl at hok
 rw[ho]at hok
 dsimp only at hok
 rw[Bool.and_eq_true,Bool.and_eq_true,k6]at hok
 obtain⟨hk,hB,hC⟩:=hok
 have hk:(match jM o,o.dst with|some t,some d => !Nat.beq d t&&zs.any (fun z=>Nat.beq z.1 i&&Nat.beq z.2 t)|_,_=>false)=true:=hk
 rw[hat,hd]at hk
 dsimp only at hk
 rw[Bool.and_eq_true,List.any_eq_true]at hk
 obtain⟨hdt,z,hz,hze⟩:=hk
 have hdt:=lz hdt
 rw[Bool.and_eq_true]at hze
 have z1:=Nat.eq_of_beq_eq_true hze.1
 have z2:=Nat.eq_of_beq_eq_true hze.2
 have htr:t∈gR l o:=by
  obtain⟨c,y,_,hop,_,hca,_⟩:=l7 hat
  refine List.mem_append_left _ (List.mem_flatMap.2 ⟨.tmp t,?_,List.mem_singleton.2 rfl⟩)
  rw[hop]
  simp only[Op.operands,Call.operands,Array.toList_append,List.mem_append]
  right
  rw[hca]
  exact .head _
 refine⟨hdt,?_⟩
 rcases I2 z hz (z1▸hi)with⟨j,hj,p,hp,he⟩|h
 ·grind [dH,bf]
 ·simp_all [mO,j0]
theorem Q2{zs:List (Nat×Nat)}{L L':List Nat}{s s1:St}{i:Nat}{o:Oper}(hI:ye true l zs L s) (hi:i∈L) (ho:l[i]?=some o) (hok:Jl E l (aN l []) zs i=true) (hfree:∀a∈L,aP a ((aN l []).getD i [])=false) (hlt:∀j∈L,j<l.length) (hs:stm true E l o s=some s1)
  (h1:∀j∈L',j∈L∧j≠i) (h2:∀j∈L,j≠i→j∈L'):stg E l o s=some s1∧ye true l zs L' s1:=by
 obtain⟨I1,I2⟩:=hI rfl
 unfold Jl at hok
 rw[ho]at hok
 dsimp only at hok
 rw[Bool.and_eq_true,Bool.and_eq_true]at hok
 obtain⟨hk,hB,hC⟩:=hok
 have B:∀j∈L,j≠i→∀p e,l[j]?=some p→p.dst=some e→e∉gR l o∧∀d,o.dst=some d→d≠e:=by
  grind [dH,bf,lz]
 have C:∀z∈zs,z.1∈L→z.1≠i→z.2∉gR l o∧∀d,o.dst=some d→d≠z.2∨JO l z o=true:=by
  grind [dH,bf,lz]
 by_cases k2:aA E o=2
 ·-- a store
  rw[k2]at hk
  have hk:(match bU o with|some d=>zs.any (fun z=>Nat.beq z.1 i&&Nat.beq z.2 d)|none=>false)=true:=hk
  have hg:o.guard=none:=mh (E:=E) (o:=o) (by omega) (by omega)
  cases hss:bU o with
  |none=>rw[hss]at hk;cases hk
  |some d =>
   rw[hss]at hk
   dsimp only at hk
   rw[List.any_eq_true]at hk
   obtain⟨z,hz,hze⟩:=hk
   rw[Bool.and_eq_true]at hze
   have z1:=Nat.eq_of_beq_eq_true hze.1
   have z2:=Nat.eq_of_beq_eq_true hze.2
   have hdn:o.dst=none:=by
    grind [bU,split]
   have hdr:d∈gR l o:=by
    unfold bU at hss
    split at hss
    ·rename_i T a x _ hop
     obtain rfl:=Option.some.inj hss
     exact List.mem_append_left _ (List.mem_flatMap.2 ⟨.tmp a,by rw[hop];simp[Op.operands],List.mem_singleton.2 rfl⟩)
    ·cases hss
   have hcl:vZ d s:=by
    grind [mO,jM,l7,j0]
   obtain⟨ob0,ob,g1,rfl,g3,_,g5⟩:=XT hss hg k2 hcl.1 hs
   refine⟨g3,fun _=>⟨fun j hj p e hp he=>?_,fun z' hz' hzL=>?_⟩⟩
   ·obtain⟨hjL,hji⟩:=h1 j hj
    have hf:=I1 j hjL p e hp he
    have hb:=(B j hjL hji p e hp he).1
    refine⟨hf.1,fun m x hx=>?_⟩
    have hx:(bif Nm.eqb m [d,0]then some ob else s.o m)=some x:=hx
    cases w:Nm.eqb m [d,0]with
    |true =>
     rw[w]at hx
     obtain rfl:=Option.some.inj hx
     rw[bA.1 w]
     refine⟨(hf.2 _ ob0 g1).1,fun n hn hm=>?_⟩
     rcases g5 n hm with h|⟨t,ht,h⟩
     ·exact(hf.2 _ ob0 g1).2 n hn h
     ·exact hf.1 t (fun q=>hb (q▸ht)) n hn h
    |false=>rw[w]at hx;exact hf.2 m x hx
   ·obtain⟨hzL0,hzi⟩:=h1 _ hzL
    rcases I2 z' hz' hzL0 with⟨j,hj,p,hp,he⟩|h
    ·refine .inl ⟨j,h2 j hj (fun q=>?_),p,hp,he⟩
     subst q
     rw[ho]at hp
     obtain rfl:=Option.some.inj hp
     rw[hdn]at he;cases he
    ·have hcr:=(C z' hz' hzL0 hzi).1
     have key:(∀i,i≠z'.2→¬aD (s.t i) [z'.2,0])→(∀m x,s.o m=some x→¬cP x [z'.2,0])→∀m x,(s.setO [d,0] ob).o m=some x→¬cP x [z'.2,0]:=fun k1 k2 m x hx hm=>by
      have hx:(bif Nm.eqb m [d,0]then some ob else s.o m)=some x:=hx
      cases w:Nm.eqb m [d,0]with
      |true =>
       grind
      |false=>grind
     right
     unfold j0 at h ⊢
     cases w:mO l z'.1 with
     |true=>rw[w]at h;exact⟨h.1,h.2.1,key h.2.1 h.2.2⟩
     |false=>rw[w]at h;exact⟨h.1,h.2.1,key h.2.1 h.2.2⟩
 ·by_cases k6:aA E o=6
  ·-- an append
   rw[k6]at hk
   have hk:(match jM o,o.dst with|some t,some d => !Nat.beq d t&&zs.any (fun z=>Nat.beq z.1 i&&Nat.beq z.2 t)|_,_=>false)=true:=hk
   cases hat:jM o with
   |none=>rw[hat]at hk;cases hk
   |some t =>
    cases hd:o.dst with
    |none=>rw[hat,hd]at hk;cases hk
    |some d =>
     rw[hat,hd]at hk
     dsimp only at hk
     rw[Bool.and_eq_true,List.any_eq_true]at hk
     obtain⟨hdt,z,hz,hze⟩:=hk
     have hdt:=lz hdt
     rw[Bool.and_eq_true]at hze
     have z1:=Nat.eq_of_beq_eq_true hze.1
     have z2:=Nat.eq_of_beq_eq_true hze.2
     have htr:t∈gR l o:=by
      obtain⟨c,y,_,hop,_,hca,_⟩:=l7 hat
      refine List.mem_append_left _ (List.mem_flatMap.2 ⟨.tmp t,?_,List.mem_singleton.2 rfl⟩)
      rw[hop]
      simp only[Op.operands,Call.operands,Array.toList_append,List.mem_append]
      right
      rw[hca]
      exact .head _
     have hcl:nv t s:=by
      grind [mO,j0]
     obtain⟨k,ob,rfl,hom,g3,_⟩:=Xq hat hd k6 hcl (I1 i hi o d ho hd) hdt hs
     refine⟨g3,fun _=>⟨fun j hj p e hp he=>?_,fun z' hz' hzL=>?_⟩⟩
     ·obtain⟨hjL,hji⟩:=h1 j hj
      exact FB hom ((B j hjL hji p e hp he).2 d hd) (I1 j hjL p e hp he)
     ·obtain⟨hzL0,hzi⟩:=h1 _ hzL
      obtain⟨c1,c2⟩:=C z' hz' hzL0 hzi
      have hdz:d≠z'.2:=by
       rcases c2 d hd with h|h
       ·exact h
       ·exfalso
        obtain⟨c,y,_,hop,_,_,_⟩:=l7 hat
        unfold JO at h
        rw[hop]at h
        cases w:mO l z'.1<;>(rw[w]at h;cases h)
      rcases I2 z' hz' hzL0 with⟨j,hj,p,hp,he⟩|h
      ·refine .inl ⟨j,h2 j hj (fun q=>?_),p,hp,he⟩
       subst q
       rw[ho]at hp
       obtain rfl:=Option.some.inj hp
       rw[hd]at he
       exact hdz (Option.some.inj he)
      ·exact .inr (Kd hom hdz (fun q=>c1 (q▸htr)) h)
  -- what makes
  have hmk:nE true (aA E o)=true:=by
   split at hk
   ·rename_i q;rw[q];rfl
   ·rename_i q;rw[q];rfl
   ·rename_i q;rw[q];rfl
   ·trivial
   ·trivial
   ·cases hk
  obtain⟨d,hd⟩:∃d,o.dst=some d:=by
   grind [aA,nE,split,dL,first]
  obtain⟨v,ups,q,m,m2,rfl,m4,m5⟩:=gC hd hmk hs
  have hfd:=I1 i hi o d ho hd
  refine⟨m.m.step s (fun _ _=>rfl) (fun _ _ _ _=>rfl) (fun _=>hfd),fun _=>⟨fun j hj p e hp he=>?_,fun z hz hzL=>?_⟩⟩
  ·obtain⟨hjL,hji⟩:=h1 j hj
   obtain⟨b1,b2⟩:=B j hjL hji p e hp he
   exact tw m (b2 d hd) b1 (I1 j hjL p e hp he)
  ·obtain⟨hzL0,hzi⟩:=h1 _ hzL
   obtain⟨c1,c2⟩:=C z hz hzL0 hzi
   by_cases hdz:d=z.2
   ·rcases c2 d hd with h|h
    ·exact absurd hdz h
    ·refine .inr ?_
     have h1:AY o.op=true∨mP o.op=true:=by
      grind [JO,mO]
     have hv:iq E.τ o=false:=by
      unfold iq
      rcases h1 with h1|h1
      ·grind [AY,split]
      ·grind [mP,split]
     have hk1:aA E o=1:=by
      unfold nE at hmk
      split at hmk
      ·rename_i q
       exfalso
       unfold aA at q
       rw[hv,Bool.false_and,cond_false,hd]at q
       rcases h1 with h1|h1
       ·unfold AY at h1
        split at h1
        ·grind
        ·cases h1
       ·unfold mP at h1
        split at h1
        ·grind
        ·cases h1
      ·rename_i q
       exfalso
       unfold aA at q
       rw[hv,Bool.false_and,cond_false,hd]at q
       rcases h1 with h1|h1
       ·unfold AY at h1
        split at h1
        ·grind
        ·cases h1
       ·unfold mP at h1
        split at h1
        ·grind
        ·cases h1
      ·assumption
      ·cases hmk
     unfold j0
     unfold JO at h
     cases w:mO l z.1 with
     |true =>
      rw[w]at h
      obtain⟨el,ty,xs,rfl,rfl⟩:=m5 h hk1
      dsimp only
      rw[←hdz]
      refine⟨by rw[cO,if_pos rfl],fun t ht=>?_,fun m x hx hm=>?_⟩
      ·rw[cO,if_neg ht]
       exact hfd.1 t ht _ (Nat.beq_refl _)
      ·rcases rM _ _ _ _ hx with h|⟨_,h⟩
       ·have:=Prod.mk.inj (List.mem_singleton.1 h)
        rw[this.2]at hm
        exact hm
       ·exact(hfd.2 m x h).2 [d,0] (Nat.beq_refl d) hm
     |false =>
      rw[w]at h
      obtain⟨t,ht⟩:∃t,o.op = .alloc t:=by
       have h:mP o.op=true:=h
       unfold mP at h
       split at h
       ·grind
       ·cases h
      obtain⟨zc,rfl,rfl,zm⟩:=m4 t ht hk1
      dsimp only
      rw[←hdz]
      refine⟨by rw[cO,if_pos rfl],fun t ht=>?_,fun m x hx hm=>?_⟩
      ·rw[cO,if_neg ht]
       exact hfd.1 t ht _ (Nat.beq_refl _)
      ·rcases rM _ _ _ _ hx with h|⟨_,h⟩
       ·have:=Prod.mk.inj (List.mem_singleton.1 h)
        rw[this.2]at hm
        exact zm _ hm
       ·exact(hfd.2 m x h).2 [d,0] (Nat.beq_refl d) hm
   ·rcases I2 z hz hzL0 with⟨j,hj,p,hp,he⟩|h
    ·refine .inl ⟨j,h2 j hj (fun q=>?_),p,hp,he⟩
     subst q
     rw[ho]at hp
     obtain rfl:=Option.some.inj hp
     rw[hd]at he
     exact hdz (Option.some.inj he)
    ·exact .inr (Kc m hdz c1 h)
theorem Pv{zs:List (Nat×Nat)}{L:List Nat}{s sa sb:St}{i j:Nat}{a b:Oper}(hI:ye fr l zs L s) (hi:i∈L) (hj:j∈L) (ha:l[i]?=some a) (hb:l[j]?=some b) (hok:fr=true→Jl E l (aN l []) zs j=true)
  (hok2:fr=true→Jl E l (aN l []) zs i=true) (hfree2:∀x∈L,aP x ((aN l []).getD i [])=false) (hfree:∀x∈L,aP x ((aN l []).getD j [])=false) (hp:Cg E l (aN l []) fr i j=true) (g1:stm fr E l a s=some sa) (g2:stm fr E l b sa=some sb) (hji:i≠j) :
  ∃s1,stm fr E l b s=some s1∧stm fr E l a s1=some sb:=by
 unfold Cg at hp
 rw[ha,hb]at hp
 dsimp only at hp
 rw[hfree i hi,Bool.false_or]at hp
 cases hda:a.dst with
 |none=>rw[hda]at hp;cases hp
 |some da =>
  rw[hda]at hp
  dsimp only at hp
  rw[Bool.and_eq_true,Bool.and_eq_true,Bool.or_eq_true]at hp
  obtain⟨k1,n1,hp⟩:=hp
  rcases k1 with k1|k1
  case inr =>
   -- an append ahead of a maker
   rw[Bool.and_eq_true,Bool.and_eq_true]at k1
   obtain⟨⟨hfr,k6⟩,he⟩:=k1
   subst hfr
   have k6:=Nat.eq_of_beq_eq_true k6
   obtain⟨I1,I2⟩:=hI rfl
   unfold LA at he
   cases hat:jM a with
   |none=>rw[hat]at he;cases he
   |some t =>
    rw[hat]at he
    dsimp only at he
    rw[Bool.and_eq_true]at he
    cases hdb:b.dst with
    |none=>rw[hdb]at he;cases he.2
    |some db =>
     rw[hdb]at hp he
     dsimp only at hp he
     rw[Bool.and_eq_true,Bool.and_eq_true,Bool.or_eq_true]at hp
     obtain⟨k2,n2,n3⟩:=hp
     have nt:=bf he.1
     have nt2:=lz he.2
     rcases k2 with k2|k2
     case inr =>
      rw[Bool.and_eq_true,Bool.and_eq_true,Bool.and_eq_true,k6]at k2
      cases k2.2.1
     obtain⟨hdt,hcl⟩:=Ad hI hi ha (hok2 rfl) hfree2 hat hda k6
     obtain⟨k,ob,rfl,hom,_,g5⟩:=Xq hat hda k6 hcl (I1 i hi a da ha hda) hdt g1
     obtain⟨vb,ub,qb,mb,mb2,rfl,_⟩:=gC hdb k2 g2
     have fb:=I1 j hj b db hb hdb
     have est:∀x∈gR l b,(BD t k da ob s).t x=s.t x:=fun x hx=>FF (fun q=>bf n1 (q▸hx)) (fun q=>nt (q▸hx))
     have eso:∀x∈gR l b, ∀n,aD (s.t x) n→s.o n=(BD t k da ob s).o n:=fun x hx n hn=>by
      have q1:n≠[da,0]:=fun q=>(I1 i hi a da ha hda).1 x (fun q=>bf n1 (q▸hx)) n (by rw[q];exact Nat.beq_refl da) hn
      have q2:n≠[t,0]:=fun q=>hcl.2.1 x (fun q=>nt (q▸hx)) (by rw[←q];exact hn)
      show s.o n=(if n=[da,0]then some ob else if n=[t,0]then none else s.o n)
      rw[if_neg q1,if_neg q2]
     have eb:stm true E l b s=some ((s.over ub).put (some db) vb):=mb.stm s (fun x hx=>(est x hx).symm) (fun x hx n hn=>by
      rw[est x hx]at hn
      exact eso x hx n hn) (fun _=>fb)
     refine⟨_,eb,?_⟩
     have hub:=mb.m.hd
     have hdb1:db≠da:=Ne.symm (lz n2)
     have mb0:Iz true E l b qb s db vb ub:=⟨⟨mb.m.dst,fun s' g1 g2 g3=>mb.m.step s' (fun x hx=>(g1 x hx).trans (est x hx).symm) (fun x hx n hn=>by
       rw[est x hx]at hn
       rw[g2 x hx n hn];exact eso x hx n hn) g3,hub,fun n hn=>by
        rcases mb.m.ment n hn with h|⟨x,hx,h⟩|⟨x,hx,m,y,q1,q2,q3⟩
        ·exact .inl h
        ·rw[est x hx]at h;exact .inr (.inl ⟨x,hx,h⟩)
        ·rw[est x hx]at q1
         rw[←eso x hx m q1]at q2
         exact .inr (.inr ⟨x,hx,m,y,q1,q2,q3⟩)⟩,fun s' g1 g2 g3=>mb.stm s' (fun x hx=>(g1 x hx).trans (est x hx).symm) (fun x hx n hn=>by
       rw[est x hx]at hn
       rw[g2 x hx n hn];exact eso x hx n hn) g3⟩
     rw[g5 _ (fun x hx=>by rw[cO,if_neg (fun(q:x=db)=>bf n3 (q▸hx))];rfl) (fun x hx n hn=>(iJ (fun p hp e=>fb.1 x (fun q=>bf n3 (q▸hx)) n (by rw[←e];exact hub p hp) hn)).2) (xV mb0 nt2 nt hcl) (tw mb0 hdb1 (bf n1) (I1 i hi a da ha hda))]
     rw[MT hub hdb1 nt2]
  obtain⟨va,ua,qa,ma,ma2,rfl,_⟩:=gC hda k1 g1
  cases hdb:b.dst with
  |some db =>
   rw[hdb]at hp
   dsimp only at hp
   rw[Bool.and_eq_true,Bool.and_eq_true,Bool.or_eq_true]at hp
   obtain⟨k2,n2,n3⟩:=hp
   rcases k2 with k2|k2
   case inr =>
    -- a maker ahead of an append
    rw[Bool.and_eq_true,Bool.and_eq_true,Bool.and_eq_true]at k2
    obtain⟨⟨hfr,k6⟩,_,he⟩:=k2
    subst hfr
    have k6:=Nat.eq_of_beq_eq_true k6
    obtain⟨I1,I2⟩:=hI rfl
    unfold LA at he
    cases hat:jM b with
    |none=>rw[hat]at he;cases he
    |some t =>
     rw[hat,hda]at he
     dsimp only at he
     rw[Bool.and_eq_true]at he
     have nt:=bf he.1
     have nt2:=lz he.2
     have fa:=I1 i hi a da ha hda
     have fb:=I1 j hj b db hb hdb
     obtain⟨hdt,hcl⟩:=Ad hI hj hb (hok rfl) hfree hat hdb k6
     have hua:=ma.m.hd
     have hab:=lz n2
     obtain⟨k,ob,rfl,hom,_,g5⟩:=Xq hat hdb k6 (xV ma nt2 nt hcl) (tw ma hab (bf n3) fb) hdt g2
     have est:∀x∈gR l b,s.t x=((s.over ua).put (some da) va).t x:=fun x hx=>by rw[cO,if_neg (fun(q:x=da)=>bf n1 (q▸hx))];rfl
     refine⟨_,g5 s est (fun x hx n hn=>by
      rw[←est x hx]at hn
      exact(iJ (fun p hp e=>fa.1 x (fun q=>bf n1 (q▸hx)) n (by rw[←e];exact hua p hp) hn)).2.symm) hcl fb,?_⟩
     rw[ma.stm (BD t k db ob s) (fun x hx=>FF (fun(q:x=db)=>bf n3 (q▸hx)) (fun(q:x=t)=>nt (q▸hx))) (fun x hx n hn=>by
      have q1:n≠[db,0]:=fun q=>fb.1 x (fun q=>bf n3 (q▸hx)) n (by rw[q];exact Nat.beq_refl db) hn
      have q2:n≠[t,0]:=fun q=>hcl.2.1 x (fun q=>nt (q▸hx)) (by rw[←q];exact hn)
      show(if n=[db,0]then some ob else if n=[t,0]then none else s.o n)=s.o n
      rw[if_neg q1,if_neg q2]) (fun _=>FB hom (Ne.symm hab) fa)]
     rw[MT hua hab nt2]
   obtain⟨vb,ub,qb,mb,mb2,rfl,_⟩:=gC hdb k2 g2
   refine⟨_,EP ma mb (lz n2) (bf n1) (bf n3) ?_⟩
   cases fr with
   |true =>
    obtain⟨I1,_⟩:=hI rfl
    exact .inr ⟨I1 i hi a da ha hda,I1 j hj b db hb hdb⟩
   |false =>
    have no1:∀{k:Nat},nE false k=true→k≠1:=fun h q=>by rw[q]at h;cases h
    obtain⟨x1,x2⟩:=ma2 (no1 k1)
    obtain⟨y1,y2⟩:=mb2 (no1 k2)
    exact .inl ⟨x2,y2,x1,y1⟩
  |none =>
   rw[hdb]at hp
   dsimp only at hp
   rw[Bool.and_eq_true]at hp
   obtain⟨hfr,hp⟩:=hp
   subst hfr
   cases hss:bU b with
   |none=>rw[hss]at hp;cases hp
   |some z =>
    rw[hss]at hp
    dsimp only at hp
    rw[Bool.and_eq_true,Bool.and_eq_true]at hp
    obtain⟨k2,n2,n3⟩:=hp
    have k2:=Nat.eq_of_beq_eq_true k2
    have hg:b.guard=none:=mh (E:=E) (o:=b) (by omega) (by omega)
    obtain⟨I1,I2⟩:=hI rfl
    have hzr:z∈gR l b:=by
     unfold bU at hss
     split at hss
     ·rename_i T x y _ hop
      obtain rfl:=Option.some.inj hss
      exact List.mem_append_left _ (List.mem_flatMap.2 ⟨.tmp x,by rw[hop];simp[Op.operands],List.mem_singleton.2 rfl⟩)
     ·cases hss
    have hcl:vZ z s:=by
     have hok:=hok rfl
     unfold Jl at hok
     rw[hb]at hok
     dsimp only at hok
     rw[Bool.and_eq_true,Bool.and_eq_true,k2]at hok
     obtain⟨h1,h2,_⟩:=hok
     have h1:(match bU b with|some d=>zs.any (fun z=>Nat.beq z.1 j&&Nat.beq z.2 d)|none=>false)=true:=h1
     rw[hss]at h1
     dsimp only at h1
     rw[List.any_eq_true]at h1
     obtain⟨w,hw,hwe⟩:=h1
     rw[Bool.and_eq_true]at hwe
     have w1:=Nat.eq_of_beq_eq_true hwe.1
     have w2:=Nat.eq_of_beq_eq_true hwe.2
     rcases I2 w hw (w1▸hj)with⟨x,hx,p,hp,he⟩|h
     ·grind [dH,bf]
     ·simp_all [mO,jM,l7,j0]
    exact KV ma hss hg k2 hcl (I1 i hi a da ha hda) (lz n2) (bf n3) (bf n1) g2
theorem cn (l:List Oper){i:Nat}{o:Oper}(ho:l[i]?=some o) (L:List Nat):co l (i::L)=o::co l L:=by
 simp_all [co]
def zw (E:aK) (l:List Oper) (rs:List (List Nat)) (j:Nat):Bool:=(match l[j]? with
 |some o => !Nat.beq (aA E o) 1 && !Nat.beq (aA E o) 4
 |none=>false)&&(List.range l.length).all (fun x=>Nat.beq x j || aP x (rs.getD j []))
structure vq (fr:Bool) (E:aK) (l:List Oper) (zs:List (Nat×Nat)) (L:List Nat):Prop where
 nd:L.Nodup
 lt:∀j∈L,j<l.length
 pr:dl (Cg E l (aN l []) fr) L=true
 or:dl (Cl l) L=true
 ok:fr=true→∀j∈L,(Jl E l (aN l []) zs j || zw E l (aN l []) j)=true
 down:∀j o,j∉L→l[j]?=some o→∀a∈bJ o,a∉L
theorem eP{R:Nat→Nat→Bool}:∀{pre post:List Nat}{i:Nat},dl R (pre++i::post)=true→dl R (pre++post)=true∧(∀x∈pre,R x i=true)∧∀x∈post,R i x=true
 |[],post,i,h=>by
  simp_all [dl]
 |y::pre,post,i,h=>by
  have h:((pre++i::post).all (R y)&&dl R (pre++i::post))=true:=h
  rw[Bool.and_eq_true]at h
  obtain⟨g1,g2,g3⟩:=eP h.2
  have ha:=List.all_eq_true.1 h.1
  refine⟨?_,fun x hx=>?_,g3⟩
  ·simp_all [dl]
  ·grind
theorem vq.del{zs:List (Nat×Nat)}{pre post:List Nat}{i:Nat}(h:vq fr E l zs (pre++i::post)) (hfree:∀o,l[i]?=some o→∀a∈bJ o,a∉pre++i::post):vq fr E l zs (pre++post)∧(∀j,j∈pre++post↔j∈pre++i::post∧j≠i):=by
 have mem:∀j,j∈pre++post↔j∈pre++i::post∧j≠i:=by
  have hnd:=(List.perm_middle (a:=i) (l₁:=pre) (l₂:=post)).nodup_iff.1 h.nd
  have hi:=(List.nodup_cons.1 hnd).1
  intro j
  rw[List.mem_append,List.mem_append,List.mem_cons]
  constructor
  ·grind
  ·grind
 refine⟨⟨?_,fun j hj=>h.lt j ((mem j).1 hj).1,(eP h.pr).1,(eP h.or).1,fun e j hj=>h.ok e j ((mem j).1 hj).1,fun j o hj ho a ha q=>?_⟩,mem⟩
 ·have hnd:=(List.perm_middle (a:=i) (l₁:=pre) (l₂:=post)).nodup_iff.1 h.nd
  exact(List.nodup_cons.1 hnd).2
 ·have q:=((mem a).1 q).1
  by_cases e:j=i
  ·simp_all
  ·exact h.down j o (fun w=>hj ((mem j).2 ⟨w,e⟩)) ho a ha q
theorem vq.reach{zs:List (Nat×Nat)}{L:List Nat}(h:vq fr E l zs L){i:Nat}{o:Oper}(ho:l[i]?=some o) (hfree:∀a∈bJ o,a∉L):∀x∈L,aP x ((aN l []).getD i [])=false:=by
 intro x hx
 cases q:aP x ((aN l []).getD i [])with
 |false=>rfl
 |true=>exact absurd hx (ot (l:=l) (D:=fun j=>j∉L) h.down i ho hfree (cD.1 q))
theorem vq.head{zs:List (Nat×Nat)}{L:List Nat}{i:Nat}{o:Oper}(h:vq fr E l zs (i::L)) (ho:l[i]?=some o) (hna:i∉bJ o):∀a∈bJ o,a∉i::L:=by
 intro a ha hm
 rcases List.mem_cons.1 hm with rfl|hm
 ·exact hna ha
 ·have:=(eP (pre:=[]) h.or).2.2 a hm
  unfold Cl at this
  rw[ho]at this
  exact bf this ha
theorem CL{i x:Nat}(h:zw E l (aN l []) i=true) (hx:x<l.length) (hne:x≠i):aP x ((aN l []).getD i [])=true:=by
 grind [zw,dH]
theorem vq.okx{zs:List (Nat×Nat)}{L:List Nat}(h:vq fr E l zs L){i x:Nat}(e:fr=true) (hi:i∈L) (hx:x∈L) (hne:x≠i) (hf:∀y∈L,aP y ((aN l []).getD i [])=false):Jl E l (aN l []) zs i=true:=by
 have:=h.ok e i hi
 rw[Bool.or_eq_true]at this
 rcases this with q|q
 ·exact q
 ·have:=CL q (h.lt x hx) hne
  rw[hf x hx]at this
  cases this
theorem FM{zs:List (Nat×Nat)}(hself:∀j o,l[j]?=some o→j∉bJ o){post:List Nat}{i:Nat}{b:Oper}(hb:l[i]?=some b):∀{pre:List Nat}{s y:St},vq fr E l zs (pre++i::post)→ye fr l zs (pre++i::post) s→(∀a∈bJ b,a∉pre++i::post) →
  nB fr E l (co l (pre++i::post)) s=some y→nB fr E l (co l (i::(pre++post))) s=some y
 |[],s,y,_,_,_,h=>h
 |x::pre,s,y,ho,hI,hf,h=>by
  obtain⟨a,ha⟩:∃a,l[x]?=some a:=⟨_,List.getElem?_eq_getElem (ho.lt x (List.mem_cons_self ..))⟩
  rw[List.cons_append,cn l ha]at h
  have h:(stm fr E l a s).bind (nB fr E l (co l (pre++i::post)))=some y:=h
  obtain⟨sa,g1,g2⟩:=Option.bind_eq_some_iff.1 h
  have hfa:=ho.head ha (hself x a ha)
  obtain⟨o2,mem2⟩:=vq.del (pre:=[]) ho (fun o e=>by rw[ha]at e;obtain rfl:=Option.some.inj e;exact hfa)
  have hI2:ye fr l zs (pre++i::post) sa:=by
   cases fr with
   |false=>intro e;cases e
   |true=>exact(Q2 hI (List.mem_cons_self ..) ha (ho.okx rfl (List.mem_cons_self ..) (x:=i) (List.mem_append_right _ (List.mem_cons_self ..)) (fun e=>(List.nodup_cons.1 ho.nd).1 (by rw[←e];exact List.mem_append_right _ (List.mem_cons_self ..))) (ho.reach ha hfa)) (ho.reach ha hfa) ho.lt g1 (fun j hj=>(mem2 j).1 hj) (fun j hj hne=>(mem2 j).2 ⟨hj,hne⟩)).2
  have h3:=FM hself hb (pre:=pre) o2 hI2 (fun a ha q=>hf a ha (List.mem_cons_of_mem _ q)) g2
  rw[cn l hb]at h3
  have h3:(stm fr E l b sa).bind (nB fr E l (co l (pre++post)))=some y:=h3
  obtain⟨sb,g4,g5⟩:=Option.bind_eq_some_iff.1 h3
  have him:i∈(x::pre)++i::post:=List.mem_append_right _ (List.mem_cons_self ..)
  have hxi:x≠i:=fun e=>by
   subst e
   exact(List.nodup_cons.1 ho.nd).1 (List.mem_append_right _ (List.mem_cons_self ..))
  obtain⟨s1,g6,g7⟩:=Pv hI (List.mem_cons_self ..) him ha hb (fun e=>ho.okx e him (List.mem_cons_self ..) hxi (ho.reach hb hf)) (fun e=>ho.okx e (List.mem_cons_self ..) him (Ne.symm hxi) (ho.reach ha hfa)) (ho.reach ha hfa) (ho.reach hb hf) ((eP (pre:=x::pre) ho.pr).2.1 x (List.mem_cons_self ..)) g1 g4 hxi
  rw[cn l hb,List.cons_append,cn l ha]
  show(stm fr E l b s).bind (fun t=>(stm fr E l a t).bind (nB fr E l (co l (pre++post))))=some y
  rw[g6,Option.bind_some,g7,Option.bind_some]
  exact g5
theorem MP{zs:List (Nat×Nat)}(hself:∀j o,l[j]?=some o→j∉bJ o) (hst:fr=false→∀(o:Oper) (s s1:St),o∈l→stm fr E l o s=some s1→stg E l o s=some s1):∀(n:Nat) (rem L:List Nat) (s y:St),vq fr E l zs L→(∀i,i∈L↔i∈rem)→L.length=n→ye fr l zs L s→nB fr E l (co l L) s=some y→∀π∈nI l n rem,yp E l (co l π) s=some y
 |0,rem,L,s,y,_,_,hl,_,h,π,hπ=>by
  simp_all [bJ,stm,stg,ye,nB,co,nI,yp]
 |n+1,rem,L,s,y,ho,hm,hl,hI,h,π,hπ=>by
  obtain⟨i,hi,hπ⟩:=List.mem_flatMap.1 hπ
  cases hf:eD l rem i with
  |false=>simp_all
  |true =>
   rw[hf]at hπ
   obtain⟨π',hπ',rfl⟩:=List.mem_map.1 hπ
   obtain⟨pre,post,rfl⟩:=List.append_of_mem ((hm i).2 hi)
   obtain⟨b,hb⟩:∃b,l[i]?=some b:=⟨_,List.getElem?_eq_getElem (ho.lt i ((hm i).2 hi))⟩
   have hfr:∀a∈bJ b,a∉pre++i::post:=fun a ha q=>by
    simp_all [eD,bf]
   have h2:=FM hself hb ho hI hfr h
   rw[cn l hb]at h2
   have h2:(stm fr E l b s).bind (nB fr E l (co l (pre++post)))=some y:=h2
   obtain⟨s1,g1,g2⟩:=Option.bind_eq_some_iff.1 h2
   obtain⟨o2,mem2⟩:=vq.del ho (fun o e=>by rw[hb]at e;obtain rfl:=Option.some.inj e;exact hfr)
   have him:i∈pre++i::post:=List.mem_append_right _ (List.mem_cons_self ..)
   have both:stg E l b s=some s1∧ye fr l zs (pre++post) s1:=by
    cases fr with
    |false=>exact⟨hst rfl b s s1 (List.mem_of_getElem? hb) g1,fun e=>by cases e⟩
    |true =>
     have hq:=ho.ok rfl i him
     rw[Bool.or_eq_true]at hq
     rcases hq with hq|hq
     ·exact Q2 hI him hb hq (ho.reach hb hfr) ho.lt g1 (fun j hj=>(mem2 j).1 hj) (fun j hj hne=>(mem2 j).2 ⟨hj,hne⟩)
     ·have hn:∀j,j∉pre++post:=fun j hj=>by
       obtain⟨q1,q2⟩:=(mem2 j).1 hj
       have:=CL hq (ho.lt j q1) q2
       rw[ho.reach hb hfr j q1]at this
       cases this
      have hk:aA E b≠1∧aA E b≠4:=by
       unfold zw at hq
       rw[hb]at hq
       dsimp only at hq
       rw[Bool.and_eq_true,Bool.and_eq_true]at hq
       refine⟨fun e=>?_,fun e=>?_⟩
       ·simp_all
       ·simp_all
      rw[lR ⟨fun e=>absurd e hk.1,hk.2⟩]at g1
      exact⟨g1,fun _=>⟨fun j hj=>absurd hj (hn j),fun z _ hz=>absurd hz (hn z.1)⟩⟩
   have ih:=MP hself hst n (dD i rem) (pre++post) s1 y o2 (fun j=>by rw[mem2,eW,hm]) (by simp at hl ⊢;omega) both.2 g2 π' hπ'
   rw[cn l hb]
   show(stg E l b s).bind (yp E l (co l π'))=some y
   rw[both.1,Option.bind_some]
   exact ih
end
def oX (p:Nm→Bool):CV→Bool
 | .own m=>p m
 | .pb m _=>p m
 | .pa m _ _ _=>p m
 | .clo _ cs=>cs.any (fun q=>p q.1)
 | .mp m=>p m
 |_=>false
def zo (p:Nm→Bool):AV→Bool
 | .c x=>oX p x
 | .g cs=>cs.any (oX p)
 | .tup l=>l.any (fun q=>q.2.any (oX p))
def CC (p:Nm→Bool):Ob→Bool
 | .box cs=>cs.any (oX p)
 |_=>false
theorem CD{p:Nm→Bool}{n:Nm}(hp:p n=true){c:CV}(h:dK c n):oX p c=true:=by
 cases c with
 |own m=>grind [dK,oX]
 |pb m k=>grind [dK,oX]
 |pa m z i j=>grind [dK,oX]
 |mp m=>grind [dK,oX]
 |clo f cs=>grind [dK,oX]
 |_=>exact h.elim
theorem uw{p:Nm→Bool}{n:Nm}(hp:p n=true){cs:List CV}(h:bR cs n):cs.any (oX p)=true:=by
 grind [CD,bR,oX]
theorem sV{p:Nm→Bool}{n:Nm}(hp:p n=true){v:AV}(h:aD v n):zo p v=true:=by
 cases v with
 |c x=>exact CD hp h
 |g cs=>exact uw hp h
 |tup l =>
  grind [uw,aD,zo]
theorem sW{p:Nm→Bool}{n:Nm}(hp:p n=true){x:Ob}(h:cP x n):CC p x=true:=by
 cases x with
 |box cs=>exact uw hp h
 |_=>exact h.elim
def Bc (d:Nat) (vs:List (Nat×AV)) (bs:List (Nm×Ob)):Bool :=
 vs.all (fun q=>Nat.beq q.1 d || !zo (ca d) q.2)&&bs.all (fun q => !ca d q.1 && !CC (ca d) q.2)
def Em (d:Nat) (vs:List (Nat×AV)) (bs:List (Nm×Ob)):Bool :=
 (match d6 vs d with | .c (.pb n 0)=>Nm.eqb n [d,0]|_=>false)&&(vs.all (fun q=>Nat.beq q.1 d || !zo (Nm.eqb [d,0]) q.2)&&bs.all (fun q => !CC (Nm.eqb [d,0]) q.2))
def Bk (d:Nat) (vs:List (Nat×AV)) (bs:List (Nm×Ob)):Bool :=
 (match d6 vs d with | .c (.own n)=>Nm.eqb n [d,0]|_=>false)&&(vs.all (fun q=>Nat.beq q.1 d || !zo (Nm.eqb [d,0]) q.2)&&bs.all (fun q => !CC (Nm.eqb [d,0]) q.2))
def Au (l:List Oper) (zs:List (Nat×Nat)) (L:List Nat) (vs:List (Nat×AV)) (bs:List (Nm×Ob)):Bool :=
 L.all (fun i=>match l[i]? with
  |some o=>(match o.dst with|some d=>Bc d vs bs|none=>true)
  |none=>true)&&zs.all (fun z=>L.any (fun i=>match l[i]? with
  |some o=>(match o.dst with|some d=>Nat.beq d z.2|none=>false)
  |none=>false) || bif mO l z.1 then Bk z.2 vs bs else Em z.2 vs bs)
theorem sX:∀{vs:List (Nat×AV)}{t:Nat},d6 vs t = .c .dead∨∃q∈vs,q.1=t∧q.2=d6 vs t
 |[],t => .inl rfl
 |p::r,t=>by
  show(bif Nat.beq p.1 t then p.2 else d6 r t)=_∨∃q∈p::r,q.1=t∧q.2=(bif Nat.beq p.1 t then p.2 else d6 r t)
  cases w:Nat.beq p.1 t with
  |true=>simp_all
  |false =>
   rcases sX (vs:=r) (t:=t)with h|⟨q,hq,h1,h2⟩
   ·exact .inl h
   ·grind
theorem not_true{b:Bool}(h:(!b)=true):b≠true:=by simp_all
theorem zQ{d:Nat}{es:List En}{ds:List DV}(h:Bc d (cN es ds) (eX es ds)=true):dR d (GI es ds):=by
 unfold Bc at h
 rw[Bool.and_eq_true]at h
 refine⟨fun t ht n hn hm=>?_,fun m x hx=>?_⟩
 ·have hm:aD (d6 (cN es ds) t) n:=hm
  rcases sX (vs:=cN es ds) (t:=t)with q|⟨q,hq,h1,h2⟩
  ·rw[q]at hm;exact hm
  ·grind [dH,not_true,sV]
 ·have:=List.all_eq_true.1 h.2 (m,x) (iv hx)
  rw[Bool.and_eq_true]at this
  refine⟨?_,fun n hn hm=>not_true this.2 (sW hn hm)⟩
  cases w:ca d m with
  |false=>rfl
  |true=>simp_all
theorem Ig{d:Nat}{es:List En}{ds:List DV}(h:Em d (cN es ds) (eX es ds)=true):vZ d (GI es ds):=by
 unfold Em at h
 rw[Bool.and_eq_true,Bool.and_eq_true]at h
 have self:Nm.eqb [d,0] [d,0]=true:=bA.2 rfl
 refine⟨?_,fun t ht hm=>?_,fun m x hx hm=>?_⟩
 ·show d6 (cN es ds) d=_
  have h1:=h.1
  split at h1
  ·simp_all [bA]
  ·cases h1
 ·have hm:aD (d6 (cN es ds) t) [d,0]:=hm
  rcases sX (vs:=cN es ds) (t:=t)with q|⟨q,hq,h1,h2⟩
  ·rw[q]at hm;exact hm
  ·grind [dH,not_true,sV]
 ·exact not_true (List.all_eq_true.1 h.2.2 (m,x) (iv hx)) (sW self hm)
theorem Eo{d:Nat}{es:List En}{ds:List DV}(h:Bk d (cN es ds) (eX es ds)=true):nv d (GI es ds):=by
 unfold Bk at h
 rw[Bool.and_eq_true,Bool.and_eq_true]at h
 have self:Nm.eqb [d,0] [d,0]=true:=bA.2 rfl
 refine⟨?_,fun t ht hm=>?_,fun m x hx hm=>?_⟩
 ·show d6 (cN es ds) d=_
  have h1:=h.1
  split at h1
  ·simp_all [bA]
  ·cases h1
 ·have hm:aD (d6 (cN es ds) t) [d,0]:=hm
  rcases sX (vs:=cN es ds) (t:=t)with q|⟨q,hq,h1,h2⟩
  ·rw[q]at hm;exact hm
  ·grind [dH,not_true,sV]
 ·exact not_true (List.all_eq_true.1 h.2.2 (m,x) (iv hx)) (sW self hm)
theorem IZ{l:List Oper}{zs:List (Nat×Nat)}{L:List Nat}{es:List En}{ds:List DV}(h:Au l zs L (cN es ds) (eX es ds)=true){fr:Bool}:ye fr l zs L (GI es ds):=fun _=>by
 unfold Au at h
 rw[Bool.and_eq_true]at h
 refine⟨fun i hi o d ho hd=>?_,fun z hz _=>?_⟩
 ·grind [zQ]
 ·have:=List.all_eq_true.1 h.2 z hz
  rw[Bool.or_eq_true]at this
  refine this.imp (fun w=>?_) (fun w=>by
   unfold j0
   cases q:mO l z.1 with
   |true=>rw[q]at w;exact Eo w
   |false=>rw[q]at w;exact Ig w)
  rw[List.any_eq_true]at w
  obtain⟨i,hi,w⟩:=w
  cases ho:l[i]? with
  |none=>simp_all
  |some o =>
   rw[ho]at w
   dsimp only at w
   cases hd:o.dst with
   |none=>simp_all
   |some d =>
    rw[hd]at w
    exact⟨i,hi,o,ho,by rw[hd,Nat.eq_of_beq_eq_true w]⟩
theorem G9{R:Type}{E:aK}{l:List Oper}(fr:Bool) (zs:List (Nat×Nat)) (L:List Nat) (hb:(L.all (fun i=>Nat.blt i l.length)&&(List.range l.length).all (fun i=>aP i L))=true) (hnd:L.Nodup) (ha:oZ l=true)
  (hp:dl (Cg E l (aN l []) fr) L=true) (ho:dl (Cl l) L=true) (hok:(!fr || L.all (fun j=>Jl E l (aN l []) zs j || zw E l (aN l []) j))=true){es:List En}{x:TD (be es)}(hs:(!fr || Au l zs L (cN es (ai _ x)) (eX es (ai _ x)))=true)
  {k:St→Option R}{y:R}(h:lO fr E l (co l L) (d5 es x) k=some y):∀π∈Bd l,cT E l (co l π) (d5 es x) k=some y:=by
 rw[Bool.and_eq_true]at hb
 have hm:∀i,i∈L↔i∈List.range l.length:=fun i=>⟨fun hi=>List.mem_range.2 (Nat.le_of_ble_eq_true (List.all_eq_true.1 hb.1 i hi)),fun hi=>cD.1 (List.all_eq_true.1 hb.2 i hi)⟩
 have hlen:L.length=l.length:=by
  have:L.Perm (List.range l.length):=(List.perm_ext_iff_of_nodup hnd List.nodup_range).2 hm
  rw[this.length_eq,List.length_range]
 have hself:∀j o,l[j]?=some o→j∉bJ o:=fun j o hj q=>by
  have:=Bs ha j o hj j q
  omega
 rw[qB]at h
 obtain⟨s1,h1,h2⟩:=Option.bind_eq_some_iff.1 h
 intro π hπ
 have hI:ye fr l zs L (d5 es x):=by
  cases fr with
  |false=>intro e;cases e
  |true=>exact IZ hs
 have hst:fr=false→∀(o:Oper) (s s1:St),o∈l→stm fr E l o s=some s1→stg E l o s=some s1:=fun e o s s1 _ hq=>by
  subst e
  by_cases k4:aA E o=4
  ·cases hd:o.dst with
   |none =>
    grind [aA,dL,split,first]
   |some d =>
    obtain⟨v,ups,q,m,m2,rfl,_⟩:=JP (.inr k4) hd hq
    exact m.m.step s (fun _ _=>rfl) (fun _ _ _ _=>rfl) (fun w=>by rw[(m2 k4).1]at w;cases w)
  ·simp_all [lR]
 have:=MP hself hst l.length (List.range l.length) L (d5 es x) s1 ⟨hnd,fun j hj=>List.mem_range.1 ((hm j).1 hj),hp,ho,fun e j hj=>by
  subst e
  exact List.all_eq_true.1 hok j hj,fun j o hj hjo a ha2 q=>by
   have:j<l.length:=(List.getElem?_eq_some_iff.1 hjo).1
   exact hj ((hm j).2 (List.mem_range.2 this))⟩ hm hlen hI h1 π hπ
 rw[qC,this]
 exact h2
def w7:CV→Bool
 | .own _=>false
 | .pb _ _=>false
 | .pa _ _ _ _=>false
 | .clo _ _=>false
 | .mp _=>false
 |_=>true
def DO:AV→Bool
 | .c x=>w7 x
 | .g cs=>cs.all w7
 | .tup l=>l.all fun p=>p.2.all w7
def DP:Ob→Bool
 | .box cs=>cs.all w7
 |_=>true
theorem qz{c:CV}(h:w7 c=true){n:Nm}:¬dK c n:=by
 cases c<;>first|(cases h;done)|exact fun q=>q
theorem Gn{v:AV}(h:DO v=true){n:Nm}:¬aD v n:=by
 cases v with
 |c x=>exact qz h
 |g cs=>rintro ⟨c,hc,hm⟩;exact qz (List.all_eq_true.1 h c hc) hm
 |tup l=>rintro ⟨p,hp,c,hc,hm⟩;exact qz (List.all_eq_true.1 (List.all_eq_true.1 h p hp) c hc) hm
theorem Gp{x:Ob}(h:DP x=true){n:Nm}:¬cP x n:=by
 cases x with
 |box cs=>rintro ⟨c,hc,hm⟩;exact qz (List.all_eq_true.1 h c hc) hm
 |_=>exact fun q=>q
def vj{R:Type}(W:List Nm) (S:aa) (vs:List AV) (d:Nat) (o:Nm→Option Ob) (k:AV→List (Nm×Ob)→Option R):Option R :=
 bif Nat.beq (vs.length+S.gh.length) S.pars.length&&oH S.gh then(match gY o (au 0 S.pars) vs with
  |some (ds,ts)=>bif iI S.pars.length (au 0 S.pars)&&(iN ts&&(eA (ts.flatMap bK.lent)&&eA (ts.flatMap bK.moved)))then(match qU (be (au 0 S.pars)) ds with
   |some x=>match S.g x with
    |some r=>match lN d o ts (S.ens.flatMap En.names) (eX S.ens (ai _ r))with
     |some ups=>bif ii S d o ts (cN S.ens (ai _ r)) (eX S.ens (ai _ r)) ups&&(DO ((pF (cN S.ens (ai _ r)) S.pars.length S.res.length).ren d ts (S.ens.flatMap En.names))&&ups.all (fun p=>lx p.1 W&&DP p.2))then
       k ((pF (cN S.ens (ai _ r)) S.pars.length S.res.length).ren d ts (S.ens.flatMap En.names)) ups else none
     |none=>none
    |none=>none
   |none=>none)else none
  |none=>none)else none
def JY (E:aK) (o:Oper):Bool:=dL o&&(match o.op,o.dst with
 | .call { callee := .value (.func f), .. },some d=>(match E.Γ f d with
  |some S => !S.pars.all Cr
  |none=>false)
 |_,_=>false)
abbrev WL:=List (Nat×List Nm)
def Pp (o:Oper):Nat:=match o.dst with
 |some d=>d
 |none=>(match bU o with|some a=>a+1000000|none=>0)
def V2 (k:Nat):WL→List Nm
 |[]=>[]
 |p::r=>bif Nat.beq p.1 k then p.2 else V2 k r
def KM (W:WL) (o:Oper):List Nm:=V2 (Pp o) W
def sC (W:WL):List Nm:=W.flatMap Prod.snd
theorem EL{k:Nat}{n:Nm}:∀{W:WL},n∈V2 k W→n∈sC W
 |p::r,h=>by
  unfold V2 at h
  show n∈p.2++sC r
  cases q:Nat.beq p.1 k with
  |true=>rw[q]at h;exact List.mem_append_left _ h
  |false=>rw[q]at h;exact List.mem_append_right _ (EL h)
theorem Am{W:WL}{o:Oper}{n:Nm}(h:n∈KM W o):n∈sC W:=EL h
def M7{R:Type}(W:WL) (E:aK) (o:Oper) (s:St) (k:St→Option R):Option R:=match o.dst with
 |none=>none
 |some d=>bif Nat.blt d E.N then(match o.op with
  | .call { callee := .value (.func f),args, .. }=>(match E.Γ f d with
   |some S=>vj (KM W o) S (args.toList.map s.ev) d s.o (fun v ups=>k ((s.over ups).put (some d) v))
   |none=>none)
  |_=>none)else none
def MM (W:WL) (o:Oper):Bool:=dL o&&((match bU o with|some _=>true|none=>false)&&W.any fun q=>Nat.beq q.1 (Pp o))
def zD (W:WL) (E:aK) (o:Oper):Bool:=JY E o || MM W o
def Nf{R:Type}(W:WL) (E:aK) (o:Oper) (s:St) (k:St→Option R):Option R:=match bU o with
 |some a=>(match s.t a with
  | .c (.pb n _)=>bif lx n (KM W o)then pm E o s k else none
  |_=>none)
 |none=>none
def Jk{R:Type}(W:WL) (E:aK) (o:Oper) (s:St) (k:St→Option R):Option R:=match JY E o with
 |true=>M7 W E o s k
 |false=>(match MM W o with
  |true=>Nf W E o s k
  |false=>AH false E o s k)
def oW{R:Type}(W:WL) (E:aK) (all:List Oper):List Oper→St→(St→Option R)→Option R
 |[],s,k=>k s
 |o::r,s,k=>match o.guard with
  |none=>Jk W E o s (fun s'=>oW W E all r s' k)
  |some _=>cT E all [o] s (fun s'=>oW W E all r s' k)
theorem oR{R:Type}{W:List Nm}{S:aa}{vs:List AV}{d:Nat}{ob:Nm→Option Ob}(k:AV→List (Nm×Ob)→Option R):vj W S vs d ob k=(vj W S vs d ob (fun v ups=>some (v,ups))).bind fun p=>k p.1 p.2:=by
 unfold vj
 simp only[mq,Option.bind_none]
 split
 ·simp only[mq,Option.bind_none]
  split
  ·split
   ·split
    ·simp only[mq,Option.bind_none,Option.bind_some]
    ·rfl
   ·rfl
  ·rfl
 ·rfl
theorem KK{R:Type}{W:WL}{E:aK}{o:Oper}{s:St}(k:St→Option R):M7 W E o s k=(M7 W E o s some).bind k:=by
 unfold M7
 cases o.dst with
 |none=>rfl
 |some d =>
  dsimp only
  rw[mq,Option.bind_none]
  congr 1
  split
  ·split
   ·rw[oR (k:=fun v ups=>k ((s.over ups).put (some d) v)),oR (k:=fun v ups=>some ((s.over ups).put (some d) v)),Option.bind_assoc]
    rfl
   ·rfl
  ·rfl
section
variable{W:WL}{T:List (Nat×Nm)}{E:aK}{l:List Oper}{o:Oper}{s s1:St}
theorem Da{W:List Nm}{S:aa}{f:Nat}{xs:List Operand}{d:Nat}{v:AV}{ups:List (Nm×Ob)}(he:vj W S (xs.map s.ev) d s.o (fun v ups=>some (v,ups))=some (v,ups)) :
  (dR d s→lP (R:=St) S f .fn xs d s some=some ((s.over ups).put (some d) v))∧(∀n,¬aD v n)∧∀p∈ups,p.1∈W∧∀n,¬cP p.2 n:=by
 have nilG:∀{g:List (Nat×Nat×Option Nat)},oH g=true→g=[]:=fun{g}=>by cases g<;>simp[oH]
 have nilN:∀{g:List Nm},eA g=true→g=[]:=fun{g}=>by cases g<;>simp[eA]
 unfold vj at he
 cases hc:(Nat.beq ((xs.map s.ev).length+S.gh.length) S.pars.length&&oH S.gh)with
 |false=>rw[hc]at he;cases he
 |true =>
  rw[hc]at he
  rw[Bool.and_eq_true]at hc
  obtain⟨h1,h2⟩:=hc
  dsimp only[cond_true]at he
  split at he
  ·rename_i ds ts e1
   cases hk:(iI S.pars.length (au 0 S.pars)&&(iN ts&&(eA (ts.flatMap bK.lent)&&eA (ts.flatMap bK.moved))))with
   |false=>rw[hk]at he;cases he
   |true =>
    rw[hk]at he
    dsimp only[cond_true]at he
    rw[Bool.and_eq_true,Bool.and_eq_true,Bool.and_eq_true]at hk
    obtain⟨k1,k2,k3,k4⟩:=hk
    split at he
    ·rename_i x e2
     split at he
     ·rename_i r e3
      split at he
      ·rename_i u e4
       cases ho:(ii S d s.o ts (cN S.ens (ai _ r)) (eX S.ens (ai _ r)) u&&(DO ((pF (cN S.ens (ai _ r)) S.pars.length S.res.length).ren d ts (S.ens.flatMap En.names))&&u.all (fun p=>lx p.1 W&&DP p.2)))with
       |false=>rw[ho]at he;cases he
       |true =>
        rw[ho]at he
        obtain⟨g1,g2⟩:=Prod.mk.inj (Option.some.inj he)
        subst g2
        subst g1
        rw[Bool.and_eq_true,Bool.and_eq_true]at ho
        obtain⟨o1,o2,o3⟩:=ho
        refine⟨fun hf=>?_,fun n=>Gn o2,fun p hp=>?_⟩
        ·have gh:ni s.o (xs.map s.ev) S.gh=xs.map s.ev:=by rw[nilG h2];rfl
         have fz:(bif S.shares then s.frzs (ts.flatMap bK.lent)else s)=s:=by
          cases q:S.shares with
          |false=>rfl
          |true=>rw[nilN k3];rfl
         have k3':(bif S.shares then eA (ts.flatMap bK.lent)else true)=true:=by rw[k3];cases S.shares<;>rfl
         have hm:=nilN k4
         obtain⟨d1,d2⟩:=hf.drops ((S.ens.flatMap En.names).map (fun m=>d::m)) (fun n hn=>by
          obtain⟨m,_,rfl⟩:=List.mem_map.1 hn
          exact Nat.beq_refl d)
         unfold lP
         rw[show s.argsOf f .fn xs=some (xs.map s.ev)from rfl]
         dsimp only
         rw[gh,e1]
         dsimp only
         rw[fz]
         unfold ml
         rw[show s.argsOf f .fn xs=some (xs.map s.ev)from rfl]
         dsimp only
         rw[h1]
         simp only[cond_true,gh,e1,k1,k2,k3',Bool.true_and,e2,e3,hm,List.nil_append,d2,e4,o1]
         refine congrArg some (St.ext' (fun i=>?_) fun n=>?_)
         ·rw[cO,cO]
          by_cases q:i=d
          ·rw[if_pos q,if_pos q]
          ·rw[if_neg q,if_neg q]
           exact d1 i q
         ·show(match bk u n with|some ob=>some ob|none=>_)=(match bk u n with|some ob=>some ob|none=>_)
          rw[d2]
        ·have:=List.all_eq_true.1 o3 p hp
         rw[Bool.and_eq_true]at this
         exact⟨fR.1 this.1,fun n=>Gp this.2⟩
      ·cases he
     ·cases he
    ·cases he
  ·cases he
def gJ (W:WL) (E:aK) (l:List Oper) (o:Oper) (s:St):Option St:=oW W E l [o] s some
def rk (W:WL) (E:aK) (l:List Oper):List Oper→St→Option St
 |[],s=>some s
 |o::r,s=>(gJ W E l o s).bind (rk W E l r)
theorem zG (h:JY E o=true):o.guard=none:=by
 unfold JY dL at h
 cases q:o.guard with
 |none=>rfl
 |some _=>rw[q]at h;cases h
theorem zE (h:MM W o=true):o.guard=none:=by
 unfold MM dL at h
 cases q:o.guard with
 |none=>rfl
 |some _=>rw[q]at h;cases h
theorem NK (h:zD W E o=false):JY E o=false∧MM W o=false:=by
 unfold zD at h
 rw[Bool.or_eq_false_iff]at h
 exact h
theorem IX (h:JY E o=true):gJ W E l o s=M7 W E o s some:=by
 unfold gJ
 simp only[oW]
 rw[zG h]
 dsimp only
 unfold Jk
 rw[h]
theorem IW (h:JY E o=false) (h2:MM W o=true):gJ W E l o s=Nf W E o s some:=by
 unfold gJ
 simp only[oW]
 rw[zE h2]
 dsimp only
 unfold Jk
 rw[h,h2]
theorem wP (h:zD W E o=false):gJ W E l o s=stm false E l o s:=by
 obtain⟨h1,h2⟩:=NK h
 unfold gJ stm
 simp only[oW,lO]
 cases q:o.guard with
 |none =>
  dsimp only
  unfold Jk
  rw[h1,h2]
 |some _=>rfl
theorem KX{R:Type}(k:St→Option R):Nf W E o s k=(Nf W E o s some).bind k:=by
 unfold Nf
 split
 ·split
  ·rw[mq,Option.bind_none]
   congr 1
   exact qD _
  ·rfl
 ·rfl
theorem yY{R:Type}:∀{r:List Oper}{s:St}(k:St→Option R),oW W E l r s k=(rk W E l r s).bind k
 |[],s,k=>rfl
 |o::r,s,k=>by
  show _=((gJ W E l o s).bind (rk W E l r)).bind k
  have e:oW W E l (o::r) s k=(gJ W E l o s).bind (fun s'=>oW W E l r s' k):=by
   unfold gJ
   simp only[oW]
   cases q:o.guard with
   |none =>
    dsimp only
    unfold Jk
    cases JY E o with
    |true=>dsimp only;exact KK _
    |false =>
     dsimp only
     cases MM W o with
     |true=>dsimp only;exact KX _
     |false=>dsimp only;exact xf _
   |some _=>dsimp only;exact pL _
  rw[e,Option.bind_assoc]
  exact congrArg _ (funext fun s'=>yY k)
theorem uh (s:St) (d:Option Nat) (i:Nat) (v:AV):(s.put d v).t i=if d=some i then v else s.t i:=by
 cases d with
 |none=>rw[if_neg (by simp)];rfl
 |some d =>
  rw[cO]
  by_cases q:i=d
  ·rw[if_pos q,if_pos (by rw[q])]
  ·rw[if_neg q,if_neg (fun e=>q (Option.some.inj e).symm)]
theorem AC (s:St){d t:Nat}(v:AV) (h:t≠d):(s.put (some d) v).t t=s.t t:=by rw[cO,if_neg h]
theorem ui (s:St) (d:Option Nat) (v:AV):(s.put d v).o=s.o:=by cases d<;>rfl
def An (o:Oper):List Nat:=match o.op with
 | .store _ _ x=>Mf x
 |_=>[]
structure Wr (W:WL) (E:aK) (l:List Oper) (o:Oper) (s:St) (d:Option Nat) (v:AV) (ups:List (Nm×Ob)):Prop where
 dst:o.dst=d
 plain:∀n,¬aD v n
 inW:∀p∈ups,p.1∈KM W o
 src:∀p∈ups, ∀n,cP p.2 n→(∃t∈An o,t∈gR l o∧aD (s.t t) n)∨∃m y,s.o m=some y∧cP y n
 stm:∀s':St,(∀t∈gR l o,s'.t t=s.t t)→s'.o=s.o→gJ W E l o s'=some ((s'.over ups).put d v)
 stg:∀s':St,(∀t∈gR l o,s'.t t=s.t t)→s'.o=s.o→(∀e,d=some e→dR e s')→stg E l o s'=some ((s'.over ups).put d v)
theorem M8 (hk:JY E o=true) (h:gJ W E l o s=some s1):∃d v ups,Wr W E l o s d v ups∧s1=(s.over ups).put d v:=by
 have hg:=zG hk
 rw[IX hk]at h
 unfold M7 at h
 cases hd:o.dst with
 |none=>rw[hd]at h;cases h
 |some d =>
  rw[hd]at h
  dsimp only at h
  cases hN:Nat.blt d E.N with
  |false=>rw[hN]at h;cases h
  |true =>
   rw[hN]at h
   dsimp only[cond_true]at h
   split at h
   ·rename_i f args ts hop
    split at h
    ·rename_i S hS
     rw[oR]at h
     obtain⟨⟨v,ups⟩,h1,h2⟩:=Option.bind_eq_some_iff.1 h
     have ops:∀x∈args.toList,x∈o.op.operands:=fun x hx=>by
      rw[hop];simp[Op.operands,Call.operands];exact .inr (by simpa using hx)
     have evs:∀s':St,(∀t∈gR l o,s'.t t=s.t t)→args.toList.map s'.ev=args.toList.map s.ev:=fun s' h1=>List.map_congr_left fun x hx=>(oO h1 x (ops x hx)).symm
     obtain⟨_,c2,c3⟩:=Da (f:=f) h1
     refine⟨some d,v,ups,⟨hd,c2,fun p hp=>(c3 p hp).1,fun p hp n hn=>absurd hn ((c3 p hp).2 n),fun s' g1 g2=>?_,fun s' g1 g2 g3=>?_⟩,(Option.some.inj h2).symm⟩
     ·rw[IX hk]
      unfold M7
      rw[hd,hop]
      dsimp only
      rw[hN,hS]
      dsimp only[cond_true]
      rw[oR,evs s' g1,g2,h1]
      rfl
     ·rw[kO hg]
      unfold pm
      rw[hop,hd]
      dsimp only
      rw[hS]
      dsimp only
      rw[hN]
      dsimp only[cond_true]
      exact(Da (s:=s') (by rw[evs s' g1,g2];exact h1)).1 (g3 d rfl)
    ·cases h
   ·cases h
theorem Lz{x:Operand}{n:Nm}(hm:aD (s.ev x) n):∃t,x = .tmp t∧aD (s.t t) n:=by
 cases x with
 |tmp t=>exact⟨t,rfl,hm⟩
 |const v=>exact absurd hm (oA v n)
 |global g=>exact hm.elim
 |func f=>exact hm.elim
theorem Y3{a off:Nat}{n:Nm}(l:List Oper) (hs:bU o=some a) (hi:s.t a = .c (.pb n off)) (h:pm E o s some=some s1) :
  ∃ob0 ob,s.o n=some ob0∧s1=s.over [(n,ob)]∧(∀s':St,(∀t∈gR l o,s'.t t=s.t t)→s'.o=s.o→pm E o s' some=some (s'.over [(n,ob)]))∧∀m,cP ob m→cP ob0 m∨∃t∈An o,t∈gR l o∧aD (s.t t) m:=by
 obtain⟨T,x,hd,hop⟩:∃T x,o.dst=none∧o.op = .store T (.tmp a) x:=by
  unfold bU at hs
  split at hs
  ·rename_i T a x h1 h2
   obtain rfl:=Option.some.inj hs
   exact⟨T,x,h1,h2⟩
  ·cases hs
 have ovr:∀(s2:St) (ob:Ob),s2.setO n ob=s2.over [(n,ob)]:=fun s2 ob=>by
  refine St.ext' (fun _=>rfl) fun m=>?_
  show(bif Nm.eqb m n then some ob else s2.o m)=(match(bif Nm.eqb n m then some ob else none)with|some ob=>some ob|none=>s2.o m)
  by_cases q:m=n
  ·rw[q,bA.2 rfl];rfl
  ·have q1:Nm.eqb m n=false:=by
    cases w:Nm.eqb m n with
    |false=>rfl
    |true=>exact absurd (bA.1 w) q
   have q2:Nm.eqb n m=false:=by
    cases w:Nm.eqb n m with
    |false=>rfl
    |true=>exact absurd (bA.1 w).symm q
   rw[q1,q2];rfl
 have form:∀s2:St,s2.t a = .c (.pb n off)→pm E o s2 some=(match E.τ.get T,fP (s2.ev x)with
   |some ti,some new=>bif (Nat.beq new.length ti.size&&new.all CV.fine)then(match s2.o n with
    |some (.box cs)=>bif Nat.ble (off+new.length) cs.length then some (s2.setO n (.box (yn cs off new)))else none
    |_=>none)else none
   |_,_=>none):=by
  intro s2 h2
  unfold pm
  rw[hop,hd]
  show(match fB E.τ (.store T (.tmp a) x) s2.ev s2.o with
   |some (c,v)=>bif dm E.N none then(match c with|true=>some (s2.put none v)|false=>none)else none
   |none=>match mE E.τ (.store T (.tmp a) x) none s2 with
    |some (c,s')=>(match c with|true=>some s'|false=>none)
    |none=>none)=_
  have hv:fB E.τ (.store T (.tmp a) x) s2.ev s2.o=none:=rfl
  rw[hv]
  dsimp only
  have hw:mE E.τ (.store T (.tmp a) x) none s2=(match E.τ.get T,s2.ev (.tmp a),fP (s2.ev x)with
   |some ti, .c p,some new=>bif (Nat.beq new.length ti.size&&new.all CV.fine)then(match n7 s2.o new p with
    |some (nm,ob)=>some (true,(s2.setO nm ob).put none (.c .dead))
    |none=>none)else none
   |_,_,_=>none):=rfl
  rw[hw,show s2.ev (.tmp a) = .c (.pb n off)from h2]
  cases E.τ.get T with
  |none=>rfl
  |some ti =>
   cases fP (s2.ev x)with
   |none=>rfl
   |some new =>
    dsimp only
    cases(Nat.beq new.length ti.size&&new.all CV.fine)with
    |false=>rfl
    |true =>
     dsimp only[cond_true]
     unfold n7
     dsimp only
     cases s2.o n with
     |none=>rfl
     |some ob =>
      cases ob with
      |box cs =>
       dsimp only
       cases Nat.ble (off+new.length) cs.length<;>rfl
      |_=>rfl
 have hx:x∈o.op.operands:=by rw[hop];simp[Op.operands]
 have hdr:a∈gR l o:=List.mem_append_left _ (List.mem_flatMap.2 ⟨.tmp a,by rw[hop];simp[Op.operands],List.mem_singleton.2 rfl⟩)
 rw[form s hi]at h
 cases hT:E.τ.get T with
 |none=>rw[hT]at h;cases h
 |some ti =>
  cases hc:fP (s.ev x)with
  |none=>rw[hT,hc]at h;cases h
  |some new =>
   rw[hT,hc]at h
   dsimp only at h
   cases hf:(Nat.beq new.length ti.size&&new.all CV.fine)with
   |false=>rw[hf]at h;cases h
   |true =>
    rw[hf]at h
    dsimp only[cond_true]at h
    cases ho:s.o n with
    |none=>rw[ho]at h;cases h
    |some ob =>
     rw[ho]at h
     cases ob with
     |box cs =>
      dsimp only at h
      cases hl:Nat.ble (off+new.length) cs.length with
      |false=>rw[hl]at h;cases h
      |true =>
       rw[hl]at h
       refine⟨_, .box (yn cs off new),rfl,(Option.some.inj h).symm.trans (ovr _ _),fun s' h1 h2=>?_,fun m hm=>?_⟩
       ·rw[form s' ((h1 a hdr).trans hi),hT, ←oO h1 x hx,hc,h2,ho]
        dsimp only
        rw[hf]
        dsimp only[cond_true]
        rw[hl]
        exact congrArg some (ovr _ _)
       ·rcases BW hm with hm|hm
        ·exact .inl hm
        ·right
         obtain⟨t,rfl,hm⟩:=Lz (lZ hc hm)
         exact⟨t,by unfold An;rw[hop];exact List.mem_singleton.2 rfl,List.mem_append_left _ (List.mem_flatMap.2 ⟨.tmp t,Array.mem_toList_iff.2 hx,List.mem_singleton.2 rfl⟩),hm⟩
     |_=>cases h
theorem M6 (hc:JY E o=false) (hk:MM W o=true) (h:gJ W E l o s=some s1):∃d v ups,Wr W E l o s d v ups∧s1=(s.over ups).put d v:=by
 have hg:=zE hk
 rw[IW hc hk]at h
 unfold Nf at h
 cases hs:bU o with
 |none=>rw[hs]at h;cases h
 |some a =>
  have hd:o.dst=none:=by
   unfold bU at hs
   split at hs
   ·assumption
   ·cases hs
  have hra:a∈gR l o:=by
   unfold bU at hs
   split at hs
   ·rename_i T x y _ hop
    obtain rfl:=Option.some.inj hs
    exact List.mem_append_left _ (List.mem_flatMap.2 ⟨.tmp x,by rw[hop];simp[Op.operands],List.mem_singleton.2 rfl⟩)
   ·cases hs
  rw[hs]at h
  dsimp only at h
  split at h
  ·rename_i n off hi
   cases hW:lx n (KM W o)with
   |false=>rw[hW]at h;cases h
   |true =>
    rw[hW]at h
    obtain⟨ob0,ob,h1,h2,h3,h4⟩:=Y3 l hs hi h
    refine⟨none, .c .dead,[(n,ob)],⟨hd,fun m q=>q,fun p hp=>?_,fun p hp m hm=>?_,fun s' g1 g2=>?_,fun s' g1 g2 _=>?_⟩,h2⟩
    ·rw[List.mem_singleton.1 hp];exact fR.1 hW
    ·rw[List.mem_singleton.1 hp]at hm
     rcases h4 m hm with q|q
     ·exact .inr ⟨n,ob0,h1,q⟩
     ·exact .inl q
    ·rw[IW hc hk]
     unfold Nf
     rw[hs]
     dsimp only
     rw[g1 a hra,hi]
     dsimp only
     rw[hW]
     exact h3 s' g1 g2
    ·rw[kO hg]
     exact h3 s' g1 g2
  ·cases h
theorem IL (hk:zD W E o=true) (h:gJ W E l o s=some s1):∃d v ups,Wr W E l o s d v ups∧s1=(s.over ups).put d v:=by
 cases hc:JY E o with
 |true=>exact M8 hc h
 |false =>
  unfold zD at hk
  rw[hc,Bool.false_or]at hk
  exact M6 hc hk h
def pk (W:WL) (E:aK) (o:Oper):Bool := !zD W E o&&(Nat.beq (aA E o) 0 || Nat.beq (aA E o) 4)
def MJ (o:Oper):Bool:=dL o&&(match o.op with
 | .move _=>true
 | .assign _=>true
 |_=>false)
theorem Jg (h:pk W E o=true):zD W E o=false:=by
 unfold pk at h
 cases q:zD W E o with
 |false=>rfl
 |true=>rw[q]at h;cases h
theorem E4 (h:pk W E o=true):aA E o=0∨aA E o=4:=by
 unfold pk at h
 rw[Bool.and_eq_true,Bool.or_eq_true]at h
 exact h.2.imp Nat.eq_of_beq_eq_true Nat.eq_of_beq_eq_true
structure Pu (W:WL) (E:aK) (l:List Oper) (o:Oper) (s:St) (d:Nat) (v:AV):Prop where
 m:Iz false E l o false s d v []
 stm:∀s':St,(∀t∈gR l o,s'.t t=s.t t)→(MJ o=false→∀t∈gR l o, ∀n,aD (s.t t) n→s'.o n=s.o n)→gJ W E l o s'=some (s'.put (some d) v)
theorem Ca{d:Nat}(hk:pk W E o=true) (hd:o.dst=some d) (h:gJ W E l o s=some s1):∃v,Pu W E l o s d v∧s1=s.put (some d) v:=by
 have hno:=Jg hk
 have h0:=h
 rw[wP hno]at h
 have hk2:=E4 hk
 have hm:nE false (aA E o)=true:=by rcases hk2 with q|q<;>rw[q]<;>rfl
 obtain⟨v,ups,q,m,m2,m3,_⟩:=gC hd hm h
 obtain⟨rfl,rfl⟩:=m2 (by rcases hk2 with q|q<;>rw[q]<;>decide)
 refine⟨v,⟨m,fun s' h1 h2=>?_⟩,m3⟩
 cases hb:MJ o with
 |false =>
  rw[wP hno]
  exact m.stm s' h1 (h2 hb) (fun q=>by cases q)
 |true =>
  have hg:o.guard=none:=by
   unfold MJ dL at hb
   cases q:o.guard with
   |none=>rfl
   |some _=>rw[q]at hb;cases hb
  obtain⟨x,hx⟩:∃x,o.op = .move x∨o.op = .assign x:=by
   unfold MJ at hb
   rw[Bool.and_eq_true]at hb
   have hb:=hb.2
   split at hb
   ·rename_i x e;exact⟨x, .inl e⟩
   ·rename_i x e;exact⟨x, .inr e⟩
   ·cases hb
  have hxo:x∈o.op.operands:=by rcases hx with e|e<;>rw[e]<;>simp[Op.operands]
  have hk4:aA E o≠4∧aA E o≠1:=by
   unfold aA dL
   rw[hg]
   rcases hx with e|e<;>rw[e]<;>(constructor<;>(intro q;revert q;cases(iq E.τ o&&(match o.dst with|some _=>true|none=>false))<;>(intro q;cases q)))
  have form:∀s2:St,gJ W E l o s2=bif dm E.N (some d)then some (s2.put (some d) (s2.ev x))else none:=fun s2=>by
   rw[wP hno,lR ⟨fun q=>absurd q hk4.2,hk4.1⟩,kO hg]
   unfold pm
   rcases hx with e|e<;>rw[e,hd]<;>rfl
  rw[form s]at h0
  rw[form s']
  cases hN:dm E.N (some d)with
  |false=>rw[hN]at h0;cases h0
  |true =>
   rw[hN]at h0
   have e1:s.put (some d) (s.ev x)=s.put (some d) v:=(Option.some.inj h0).trans m3
   have e2:s.ev x=v:=by
    have:(s.put (some d) (s.ev x)).t d=(s.put (some d) v).t d:=by rw[e1]
    rw[cO,cO,if_pos rfl,if_pos rfl]at this
    exact this
   rw[←oO h1 x hxo,e2]
   rfl
def V4 (o:Oper):Bool:=dL o&&(match o.op with
 | .load _ _=>true
 |_=>false)
theorem Ls{d:Nat}{v:AV}(hk:pk W E o=true) (hl:V4 o=true) (hd:o.dst=some d) (h:gJ W E l o s=some (s.put (some d) v)){n:Nm}(hm:aD v n):∃m y,s.o m=some y∧cP y n:=by
 have hg:o.guard=none:=by
  unfold V4 dL at hl
  cases q:o.guard with
  |none=>rfl
  |some _=>rw[q]at hl;cases hl
 obtain⟨t,a,hop⟩:∃t a,o.op = .load t a:=by
  unfold V4 at hl
  rw[Bool.and_eq_true]at hl
  have hl:=hl.2
  split at hl
  ·rename_i t a e;exact⟨t,a,e⟩
  ·cases hl
 have hv:iq E.τ o=true:=by unfold iq;rw[hop]
 have hk0:aA E o=0:=by
  unfold aA
  rw[hv,hd];rfl
 rw[wP (Jg hk),lR ⟨fun q=>absurd (hk0.symm.trans q) (by decide),by rw[hk0];decide⟩,kO hg,IN hv hd,hop]at h
 have hx:sD E.τ (.load t a) s.ev s.o=fB E.τ (.load t a) s.ev s.o:=by
  unfold sD
  split
  ·rename_i e;exact e.symm
  ·rename_i e;rw[e];rfl
 rw[hx]at h
 unfold fB at h
 dsimp only at h
 split at h
 ·rename_i c v2 e
  split at e
  ·split at e
   ·rename_i ti p _ hp v3 hl3
    obtain⟨rfl,rfl⟩:=Prod.mk.inj (Option.some.inj e)
    cases hN:Nat.blt d E.N with
    |false=>rw[hN]at h;cases h
    |true =>
     rw[hN]at h
     have e1:s.put (some d) v3=s.put (some d) v:=Option.some.inj h
     have e2:v3=v:=by
      have:(s.put (some d) v3).t d=(s.put (some d) v).t d:=by rw[e1]
      rw[cO,cO,if_pos rfl,if_pos rfl]at this
      exact this
     rw[←e2]at hm
     obtain⟨m,x,_,h1,h2⟩:=pR hl3 hm
     exact⟨m,x,h1,h2⟩
   ·cases e
  ·cases e
 ·cases h
def yx (t:Nat) (n:Nm) (T:List (Nat×Nm)):Bool:=T.any fun q=>Nat.beq q.1 t&&Nm.eqb q.2 n
theorem xq{t:Nat}{n:Nm}{T:List (Nat×Nm)}:yx t n T=true↔(t,n)∈T:=by
 unfold yx
 rw[List.any_eq_true]
 constructor
 ·rintro ⟨⟨a,b⟩,hq,h⟩
  rw[Bool.and_eq_true]at h
  obtain rfl:=Nat.eq_of_beq_eq_true h.1
  obtain rfl:=bA.1 h.2
  exact hq
 ·intro h
  exact⟨_,h,by rw[Bool.and_eq_true];exact⟨Nat.beq_refl t,bA.2 rfl⟩⟩
theorem AO{t:Nat}{n:Nm}{T:List (Nat×Nm)}(h:(!yx t n T)=true):(t,n)∉T:=fun q=>by rw[xq.2 q]at h;cases h
def clear (ns:List Nm) (T:List (Nat×Nm)) (l:List Oper) (o:Oper):Bool:=MJ o || (gR l o).all fun t=>ns.all fun n => !yx t n T
def NB (d:Option Nat) (l:List Nat):Bool:=match d with
 |some d => !aP d l
 |none=>true
def Xp:Option Nat→Option Nat→Bool
 |some d,some e => !Nat.beq d e
 |_,_=>true
def Ch (E:aK) (l:List Oper) (W:WL) (T:List (Nat×Nm)) (rs:List (List Nat)) (i j:Nat):Bool:=match l[i]?,l[j]? with
 |some a,some b=>aP i (rs.getD j []) || (NB a.dst (gR l b)&&(Xp a.dst b.dst&&(NB b.dst (gR l a)&&((pk W E a&&pk W E b) || ((pk W E a&&(zD W E b&&clear (KM W b) T l a)) || (zD W E a&&(pk W E b&&clear (KM W a) T l b)))))))
 |_,_=>false
def Pm (E:aK) (l:List Oper) (W:WL) (T:List (Nat×Nm)) (rs:List (List Nat)) (i:Nat):Bool:=match l[i]? with
 |none=>false
 |some o=>(zD W E o || pk W E o)&&((List.range l.length).all (fun j=>Nat.beq j i || (match l[j]? with
    |some p => !zD W E p || (match p.dst with
     |some e=>(aP j (rs.getD i []) || !aP e (gR l o))&&(Xp o.dst (some e)&&(sC W).all (fun n => !ca e n))
     |none=>true)
    |none=>true))&&(match o.dst with
   |some d=>(zD W E o || (V4 o || (gR l o).all (fun t=>(sC W).all fun n => !yx t n T || yx d n T)))&&(sC W).all (fun n => !ca d n)
   |none=>zD W E o)&&(An o).all (fun t=>(sC W).all fun n => !yx t n T))
def zy (W:WL) (E:aK) (l:List Oper) (rs:List (List Nat)) (j:Nat):Bool:=(match l[j]? with
 |some o => !zD W E o && !Nat.beq (aA E o) 4
 |none=>false)&&(List.range l.length).all (fun x=>Nat.beq x j || aP x (rs.getD j []))
structure Dj (E:aK) (W:WL) (T:List (Nat×Nm)) (l:List Oper) (L:List Nat) (s:St):Prop where
 fr:∀j∈L, ∀o d,l[j]?=some o→zD W E o=true→o.dst=some d→dR d s
 sl:L≠[]→∀t, ∀n∈sC W,(t,n)∉T→¬aD (s.t t) n
 ob:L≠[]→∀m x,s.o m=some x→∀n∈sC W,¬cP x n
theorem KU{a b:Oper}{da db:Nat}{va vb:AV}(ha:Pu W E l a s da va) (hb:Pu W E l b (s.put (some da) va) db vb) (hne:da≠db) (h1:da∉gR l b) (h2:db∉gR l a) :
  gJ W E l b s=some (s.put (some db) vb)∧gJ W E l a (s.put (some db) vb)=some ((s.put (some da) va).put (some db) vb):=by
 refine⟨hb.stm s (fun t ht=>(AC s va (t:=t) (fun q:t=da=>h1 (q▸ht))).symm) (fun _ _ _ _ _=>rfl),?_⟩
 rw[ha.stm (s.put (some db) vb) (fun t ht=>AC s vb (fun q=>h2 (q▸ht))) (fun _ _ _ _ _=>rfl)]
 refine congrArg some (St.ext' (fun i=>?_) fun n=>rfl)
 rw[cO,cO,cO,cO]
 by_cases q:i=da
 ·rw[if_pos q,if_neg (fun q2=>hne (q.symm.trans q2)),if_pos q]
 ·rw[if_neg q,if_neg q]
theorem Cj (s:St) (ups:List (Nm×Ob)) (da:Nat) (va:AV) (db:Option Nat) (vb:AV) (h:db≠some da):(((s.put (some da) va).over ups).put db vb)=(((s.over ups).put db vb).put (some da) va):=by
 refine St.ext' (fun i=>?_) fun n=>?_
 ·rw[uh,cO,uh]
  show(if db=some i then vb else(s.put (some da) va).t i)=_
  rw[cO]
  by_cases q:i=da
  ·rw[if_pos q,if_pos q,if_neg (fun e=>h (q▸e))]
  ·rw[if_neg q,if_neg q];rfl
 ·rw[ui]
  show _=((s.over ups).put db vb).o n
  rw[ui];rfl
theorem KT{a b:Oper}{da:Nat}{db:Option Nat}{va vb:AV}{ub:List (Nm×Ob)}(ha:Pu W E l a s da va) (hb:Wr W E l b (s.put (some da) va) db vb ub) (hne:db≠some da) (h1:da∉gR l b) (h2:∀e,db=some e→e∉gR l a) (hc:MJ a=false→∀t∈gR l a, ∀n∈KM W b,¬aD (s.t t) n) :
  gJ W E l b s=some ((s.over ub).put db vb)∧gJ W E l a ((s.over ub).put db vb)=some (((s.put (some da) va).over ub).put db vb):=by
 refine⟨hb.stm s (fun t ht=>(AC s va (t:=t) (fun q:t=da=>h1 (q▸ht))).symm) rfl,?_⟩
 rw[ha.stm ((s.over ub).put db vb) (fun t ht=>by rw[uh,if_neg (fun e=>h2 t e ht)];rfl) (fun hm t ht n hn=>by
  rw[ui]
  exact(iJ (s:=s) (d:=0) (v := .c .dead) (n:=n) (fun p hp e=>hc hm t ht n (e▸hb.inW p hp) hn)).2),Cj s ub da va db vb hne]
theorem KS{a b:Oper}{da:Option Nat}{db:Nat}{va vb:AV}{ua:List (Nm×Ob)}(ha:Wr W E l a s da va ua) (hb:Pu W E l b ((s.over ua).put da va) db vb) (hne:da≠some db) (h1:∀e,da=some e→e∉gR l b) (h2:db∉gR l a) (hc:MJ b=false→∀t∈gR l b, ∀n∈KM W a,¬aD (s.t t) n) :
  gJ W E l b s=some (s.put (some db) vb)∧gJ W E l a (s.put (some db) vb)=some (((s.over ua).put da va).put (some db) vb):=by
 have st:∀t∈gR l b,((s.over ua).put da va).t t=s.t t:=fun t ht=>by rw[uh,if_neg (fun e=>h1 t e ht)];rfl
 refine⟨hb.stm s (fun t ht=>(st t ht).symm) (fun hm t ht n hn=>?_),?_⟩
 ·rw[st t ht]at hn
  rw[ui]
  exact(iJ (s:=s) (d:=0) (v := .c .dead) (n:=n) (fun p hp e=>hc hm t ht n (e▸ha.inW p hp) hn)).2.symm
 rw[ha.stm (s.put (some db) vb) (fun t ht=>AC s vb (fun q=>h2 (q▸ht))) rfl,Cj s ua db vb da va hne]
theorem C8{ns:List Nm}(h:clear ns T l o=true) (hm:MJ o=false){t:Nat}(ht:t∈gR l o){n:Nm}(hn:n∈ns):(t,n)∉T:=by
 unfold clear at h
 rw[hm,Bool.false_or]at h
 exact AO (List.all_eq_true.1 (List.all_eq_true.1 h t ht) n hn)
theorem Fh{d:Option Nat}{l:List Nat}(h:NB d l=true):∀e,d=some e→e∉l:=fun e he=>by
 subst he
 exact bf h
theorem Bi{a b:Option Nat}(h:Xp a b=true){e:Nat}(ha:a=some e):b≠some e:=fun hb=>by
 subst ha;subst hb
 exact lz h rfl
theorem Pt{L:List Nat}{sa sb:St}{i j:Nat}{a b:Oper}(hI:Dj E W T l L s) (hi:i∈L) (ha:l[i]?=some a) (hb:l[j]?=some b) (hda:pk W E a=true→∃d,a.dst=some d) (hdb:pk W E b=true→∃d,b.dst=some d) (hfree:∀x∈L,aP x ((aN l []).getD j [])=false) (hp:Ch E l W T (aN l []) i j=true) (g1:gJ W E l a s=some sa) (g2:gJ W E l b sa=some sb) :
  ∃s1,gJ W E l b s=some s1∧gJ W E l a s1=some sb:=by
 unfold Ch at hp
 rw[ha,hb]at hp
 dsimp only at hp
 rw[hfree i hi,Bool.false_or,Bool.and_eq_true,Bool.and_eq_true,Bool.and_eq_true,Bool.or_eq_true,Bool.or_eq_true]at hp
 obtain⟨n1,n2,n3,hp⟩:=hp
 have n1:=Fh n1
 have n3:=Fh n3
 rcases hp with hp|hp|hp
 ·rw[Bool.and_eq_true]at hp
  obtain⟨da,hda⟩:=hda hp.1
  obtain⟨db,hdb⟩:=hdb hp.2
  obtain⟨va,ma,rfl⟩:=Ca hp.1 hda g1
  obtain⟨vb,mb,rfl⟩:=Ca hp.2 hdb g2
  exact⟨_,KU ma mb (fun q=>Bi n2 hda (q▸hdb)) (n1 da hda) (n3 db hdb)⟩
 ·rw[Bool.and_eq_true,Bool.and_eq_true]at hp
  obtain⟨da,hda⟩:=hda hp.1
  obtain⟨va,ma,rfl⟩:=Ca hp.1 hda g1
  obtain⟨db,vb,ub,mb,rfl⟩:=IL hp.2.1 g2
  exact⟨_,KT ma mb (fun q=>Bi n2 hda (mb.dst.trans q)) (n1 da hda) (fun e he=>n3 e (mb.dst.trans he)) fun hm t ht n hn=>hI.sl (List.ne_nil_of_mem hi) t n (Am hn) (C8 hp.2.2 hm ht hn)⟩
 ·rw[Bool.and_eq_true,Bool.and_eq_true]at hp
  obtain⟨da,va,ua,ma,rfl⟩:=IL hp.1 g1
  obtain⟨db,hdb⟩:=hdb hp.2.1
  obtain⟨vb,mb,rfl⟩:=Ca hp.2.1 hdb g2
  exact⟨_,KS ma mb (fun q=>Bi n2 (ma.dst.trans q) hdb) (fun e he=>n1 e (ma.dst.trans he)) (n3 db hdb) fun hm t ht n hn=>hI.sl (List.ne_nil_of_mem hi) t n (Am hn) (C8 hp.2.2 hm ht hn)⟩
theorem DQ (h:pk W E o=true):∃d,o.dst=some d:=by
 cases q:o.dst with
 |some d=>exact⟨d,rfl⟩
 |none =>
  exfalso
  have hk:=E4 h
  unfold aA at hk
  rw[q]at hk
  dsimp only at hk
  rw[Bool.and_false]at hk
  dsimp only[cond_false]at hk
  cases g:dL o with
  |false=>rw[g]at hk;rcases hk with w|w<;>cases w
  |true =>
   rw[g]at hk
   dsimp only[cond_true]at hk
   split at hk<;>first|(rename_i w;cases w;done)|(rename_i w _;cases w;done)|(rcases hk with w|w<;>cases w)
theorem Q1{L L':List Nat}{i:Nat}(hI:Dj E W T l L s) (hi:i∈L) (ho:l[i]?=some o) (hok:Pm E l W T (aN l []) i=true) (hfree:∀a∈L,aP a ((aN l []).getD i [])=false) (hlt:∀j∈L,j<l.length) (hL:∀j∈L',j∈L∧j≠i) (hs:gJ W E l o s=some s1):stg E l o s=some s1∧Dj E W T l L' s1:=by
 have hsl:=hI.sl (List.ne_nil_of_mem hi)
 have hob:=hI.ob (List.ne_nil_of_mem hi)
 unfold Pm at hok
 rw[ho]at hok
 dsimp only at hok
 have hok1:=(Bool.and_eq_true _ _).mp hok
 have hk:=(Bool.or_eq_true _ _).mp hok1.1
 have hok2:=(Bool.and_eq_true _ _).mp hok1.2
 have hvs:=hok2.2
 have hok3:=(Bool.and_eq_true _ _).mp hok2.1
 have hj:=hok3.1
 have ht:=hok3.2
 have other:∀j∈L', ∀p e,l[j]?=some p→zD W E p=true→p.dst=some e→o.dst≠some e∧e∉gR l o∧∀n∈sC W,ca e n=false:=by
  intro j hj' p e hp hw he
  obtain⟨hjL,hne⟩:=hL j hj'
  have:=List.all_eq_true.1 hj j (List.mem_range.2 (hlt j hjL))
  rw[dH hne,hp,Bool.false_or]at this
  dsimp only at this
  rw[hw,he,Bool.not_true,Bool.false_or]at this
  dsimp only at this
  rw[hfree j hjL,Bool.false_or,Bool.and_eq_true,Bool.and_eq_true]at this
  refine⟨fun q=>Bi this.2.1 q rfl,bf this.1,fun n hn=>?_⟩
  have:=List.all_eq_true.1 this.2.2 n hn
  cases q:ca e n with
  |false=>rfl
  |true=>rw[q]at this;cases this
 rcases hk with hw|hp
 ·obtain⟨d,v,ups,m,rfl⟩:=IL hw hs
  refine⟨m.stg s (fun _ _=>rfl) rfl (fun e he=>hI.fr i hi o e ho hw (m.dst.trans he)),fun j hj' p e hp hwp he=>?_,fun _ t n hn htT hm=>?_,fun _ k x hx n hn hm=>?_⟩
  ·obtain⟨hne,hr,hWe⟩:=other j hj' p e hp hwp he
   have hf:=hI.fr j (hL j hj').1 p e hp hwp he
   refine⟨fun t ht n hn h=>?_,fun k x hx=>?_⟩
   ·rw[uh]at h
    by_cases q:d=some t
    ·rw[if_pos q]at h;exact m.plain n h
    ·rw[if_neg q]at h;exact hf.1 t ht n hn h
   ·rw[ui]at hx
    rcases rM s ups 0 (.c .dead) (n:=k) (x:=x) hx with h|⟨_,h⟩
    ·refine⟨hWe _ (Am (m.inW _ h)),fun n hn h2=>?_⟩
     rcases m.src _ h n h2 with⟨t,_,ht,h3⟩|⟨k2,y,h3,h4⟩
     ·exact hf.1 t (fun q=>hr (q▸ht)) n hn h3
     ·exact(hf.2 k2 y h3).2 n hn h4
    ·exact hf.2 k x h
  ·rw[uh]at hm
   by_cases q:d=some t
   ·rw[if_pos q]at hm;exact m.plain n hm
   ·rw[if_neg q]at hm;exact hsl t n hn htT hm
  ·rw[ui]at hx
   rcases rM s ups 0 (.c .dead) (n:=k) (x:=x) hx with h|⟨_,h⟩
   ·rcases m.src _ h n hm with⟨t,ht,_,h3⟩|⟨k2,y,h3,h4⟩
    ·exact hsl t n hn (AO (List.all_eq_true.1 (List.all_eq_true.1 hvs t ht) n hn)) h3
    ·exact hob k2 y h3 n hn h4
   ·exact hob k x h n hn hm
 ·obtain⟨d,hd⟩:=DQ hp
  obtain⟨v,m,rfl⟩:=Ca hp hd hs
  rw[hd]at ht
  dsimp only at ht
  rw[Bool.and_eq_true,Jg hp,Bool.false_or,Bool.or_eq_true]at ht
  have hWd:∀n∈sC W,ca d n=false:=fun n hn=>by
   have:=List.all_eq_true.1 ht.2 n hn
   cases q:ca d n with
   |false=>rfl
   |true=>rw[q]at this;cases this
  refine⟨m.m.m.step s (fun _ _=>rfl) (fun _ _ _ _=>rfl) (fun q=>by cases q),fun j hj' p e hpj hwp he=>?_,fun _ t n hn htT hm=>?_,fun _ k x hx n hn hm=>?_⟩
  ·obtain⟨hne,hr,_⟩:=other j hj' p e hpj hwp he
   exact tw m.m (fun q=>hne (q▸hd)) hr (hI.fr j (hL j hj').1 p e hpj hwp he)
  ·rw[cO]at hm
   by_cases q:t=d
   ·rw[if_pos q]at hm
    subst q
    rcases ht.1 with hc|hc
    ·obtain⟨k2,y,h3,h4⟩:=Ls hp hc hd hs hm
     exact hob k2 y h3 n hn h4
    ·rcases m.m.m.ment n (.inl hm)with h|⟨u,hu,h⟩|⟨u,hu,k,y,g1,g2,g3⟩
     ·rw[hWd n hn]at h;cases h
     ·have:=List.all_eq_true.1 (List.all_eq_true.1 hc u hu) n hn
      rw[Bool.or_eq_true]at this
      rcases this with w|w
      ·exact hsl u n hn (AO w) h
      ·exact htT (xq.1 w)
     ·exact hob k y g2 n hn g3
   ·rw[if_neg q]at hm;exact hsl t n hn htT hm
  ·exact hob k x hx n hn hm
structure vp (E:aK) (W:WL) (T:List (Nat×Nm)) (l:List Oper) (L:List Nat):Prop where
 nd:L.Nodup
 lt:∀j∈L,j<l.length
 pr:dl (Ch E l W T (aN l [])) L=true
 or:dl (Cl l) L=true
 ok:∀j∈L,(Pm E l W T (aN l []) j || zy W E l (aN l []) j)=true
 down:∀j o,j∉L→l[j]?=some o→∀a∈bJ o,a∉L
theorem vp.del{pre post:List Nat}{i:Nat}(h:vp E W T l (pre++i::post)) (hfree:∀o,l[i]?=some o→∀a∈bJ o,a∉pre++i::post):vp E W T l (pre++post)∧(∀j,j∈pre++post↔j∈pre++i::post∧j≠i):=by
 have mem:∀j,j∈pre++post↔j∈pre++i::post∧j≠i:=by
  have hnd:=(List.perm_middle (a:=i) (l₁:=pre) (l₂:=post)).nodup_iff.1 h.nd
  have hi:=(List.nodup_cons.1 hnd).1
  intro j
  rw[List.mem_append,List.mem_append,List.mem_cons]
  constructor
  ·intro q
   refine⟨q.imp id .inr,fun e=>?_⟩
   subst e
   exact hi (List.mem_append.2 q)
  ·rintro ⟨q,hne⟩
   rcases q with q|q|q
   ·exact .inl q
   ·exact absurd q hne
   ·exact .inr q
 refine⟨⟨?_,fun j hj=>h.lt j ((mem j).1 hj).1,(eP h.pr).1,(eP h.or).1,fun j hj=>h.ok j ((mem j).1 hj).1,fun j o hj ho a ha q=>?_⟩,mem⟩
 ·have hnd:=(List.perm_middle (a:=i) (l₁:=pre) (l₂:=post)).nodup_iff.1 h.nd
  exact(List.nodup_cons.1 hnd).2
 ·have q:=((mem a).1 q).1
  by_cases e:j=i
  ·subst e;exact hfree o ho a ha q
  ·exact h.down j o (fun w=>hj ((mem j).2 ⟨w,e⟩)) ho a ha q
theorem vp.reach{L:List Nat}(h:vp E W T l L){i:Nat}{o:Oper}(ho:l[i]?=some o) (hfree:∀a∈bJ o,a∉L):∀x∈L,aP x ((aN l []).getD i [])=false:=by
 intro x hx
 cases q:aP x ((aN l []).getD i [])with
 |false=>rfl
 |true=>exact absurd hx (ot (l:=l) (D:=fun j=>j∉L) h.down i ho hfree (cD.1 q))
theorem vp.head{L:List Nat}{i:Nat}{o:Oper}(h:vp E W T l (i::L)) (ho:l[i]?=some o) (hna:i∉bJ o):∀a∈bJ o,a∉i::L:=by
 intro a ha hm
 rcases List.mem_cons.1 hm with rfl|hm
 ·exact hna ha
 ·have:=(eP (pre:=[]) h.or).2.2 a hm
  unfold Cl at this
  rw[ho]at this
  exact bf this ha
theorem zx{i x:Nat}(h:zy W E l (aN l []) i=true) (hx:x<l.length) (hne:x≠i):aP x ((aN l []).getD i [])=true:=by
 unfold zy at h
 rw[Bool.and_eq_true]at h
 have:=List.all_eq_true.1 h.2 x (List.mem_range.2 hx)
 rw[dH hne,Bool.false_or]at this
 exact this
theorem vp.okx{L:List Nat}(h:vp E W T l L){i x:Nat}(hi:i∈L) (hx:x∈L) (hne:x≠i) (hf:∀y∈L,aP y ((aN l []).getD i [])=false):Pm E l W T (aN l []) i=true:=by
 have:=h.ok i hi
 rw[Bool.or_eq_true]at this
 rcases this with q|q
 ·exact q
 ·have:=zx q (h.lt x hx) hne
  rw[hf x hx]at this
  cases this
theorem FL (hself:∀j o,l[j]?=some o→j∉bJ o){post:List Nat}{i:Nat}{b:Oper}(hb:l[i]?=some b):∀{pre:List Nat}{s y:St},vp E W T l (pre++i::post)→Dj E W T l (pre++i::post) s→(∀a∈bJ b,a∉pre++i::post) →
  rk W E l (co l (pre++i::post)) s=some y→rk W E l (co l (i::(pre++post))) s=some y
 |[],s,y,_,_,_,h=>h
 |x::pre,s,y,ho,hI,hf,h=>by
  obtain⟨a,ha⟩:∃a,l[x]?=some a:=⟨_,List.getElem?_eq_getElem (ho.lt x (List.mem_cons_self ..))⟩
  rw[List.cons_append,cn l ha]at h
  have h:(gJ W E l a s).bind (rk W E l (co l (pre++i::post)))=some y:=h
  obtain⟨sa,g1,g2⟩:=Option.bind_eq_some_iff.1 h
  have hfa:=ho.head ha (hself x a ha)
  obtain⟨o2,mem2⟩:=vp.del (pre:=[]) ho (fun o e=>by rw[ha]at e;obtain rfl:=Option.some.inj e;exact hfa)
  have hI2:Dj E W T l (pre++i::post) sa :=
   (Q1 hI (List.mem_cons_self ..) ha (ho.okx (List.mem_cons_self ..) (x:=i) (List.mem_append_right _ (List.mem_cons_self ..)) (fun e=>(List.nodup_cons.1 ho.nd).1 (by rw[←e];exact List.mem_append_right _ (List.mem_cons_self ..))) (ho.reach ha hfa)) (ho.reach ha hfa) ho.lt (fun j hj=>(mem2 j).1 hj) g1).2
  have h3:=FL hself hb (pre:=pre) o2 hI2 (fun a ha q=>hf a ha (List.mem_cons_of_mem _ q)) g2
  rw[cn l hb]at h3
  have h3:(gJ W E l b sa).bind (rk W E l (co l (pre++post)))=some y:=h3
  obtain⟨sb,g4,g5⟩:=Option.bind_eq_some_iff.1 h3
  have him:i∈(x::pre)++i::post:=List.mem_append_right _ (List.mem_cons_self ..)
  obtain⟨s1,g6,g7⟩:=Pt hI (List.mem_cons_self ..) ha hb DQ DQ (ho.reach hb hf) ((eP (pre:=x::pre) ho.pr).2.1 x (List.mem_cons_self ..)) g1 g4
  rw[cn l hb,List.cons_append,cn l ha]
  show(gJ W E l b s).bind (fun t=>(gJ W E l a t).bind (rk W E l (co l (pre++post))))=some y
  rw[g6,Option.bind_some,g7,Option.bind_some]
  exact g5
theorem MO (hself:∀j o,l[j]?=some o→j∉bJ o):∀(n:Nat) (rem L:List Nat) (s y:St),vp E W T l L→(∀i,i∈L↔i∈rem)→L.length=n→Dj E W T l L s→rk W E l (co l L) s=some y→∀π∈nI l n rem,yp E l (co l π) s=some y
 |0,rem,L,s,y,_,_,hl,_,h,π,hπ=>by
  obtain rfl:=List.eq_nil_of_length_eq_zero hl
  obtain rfl:=List.mem_singleton.1 hπ
  exact h
 |n+1,rem,L,s,y,ho,hm,hl,hI,h,π,hπ=>by
  obtain⟨i,hi,hπ⟩:=List.mem_flatMap.1 hπ
  cases hf:eD l rem i with
  |false=>rw[hf]at hπ;cases hπ
  |true =>
   rw[hf]at hπ
   obtain⟨π',hπ',rfl⟩:=List.mem_map.1 hπ
   obtain⟨pre,post,rfl⟩:=List.append_of_mem ((hm i).2 hi)
   obtain⟨b,hb⟩:∃b,l[i]?=some b:=⟨_,List.getElem?_eq_getElem (ho.lt i ((hm i).2 hi))⟩
   have hfr:∀a∈bJ b,a∉pre++i::post:=fun a ha q=>by
    unfold eD at hf
    rw[hb]at hf
    have:=List.all_eq_true.1 hf a ha
    exact bf this ((hm a).1 q)
   have h2:=FL hself hb ho hI hfr h
   rw[cn l hb]at h2
   have h2:(gJ W E l b s).bind (rk W E l (co l (pre++post)))=some y:=h2
   obtain⟨s1,g1,g2⟩:=Option.bind_eq_some_iff.1 h2
   obtain⟨o2,mem2⟩:=vp.del ho (fun o e=>by rw[hb]at e;obtain rfl:=Option.some.inj e;exact hfr)
   have him:i∈pre++i::post:=List.mem_append_right _ (List.mem_cons_self ..)
   have both:stg E l b s=some s1∧Dj E W T l (pre++post) s1:=by
    have hq:=ho.ok i him
    rw[Bool.or_eq_true]at hq
    rcases hq with hq|hq
    ·exact Q1 hI him hb hq (ho.reach hb hfr) ho.lt (fun j hj=>(mem2 j).1 hj) g1
    ·have hn:∀j,j∉pre++post:=fun j hj=>by
      obtain⟨q1,q2⟩:=(mem2 j).1 hj
      have:=zx hq (ho.lt j q1) q2
      rw[ho.reach hb hfr j q1]at this
      cases this
     have hk:zD W E b=false∧aA E b≠4:=by
      unfold zy at hq
      rw[hb]at hq
      dsimp only at hq
      rw[Bool.and_eq_true,Bool.and_eq_true]at hq
      refine⟨?_,fun e=>?_⟩
      ·cases q:zD W E b with
       |false=>rfl
       |true=>rw[q]at hq;cases hq.1.1
      ·rw[e]at hq;cases hq.1.2
     rw[wP hk.1,lR ⟨fun _=>rfl,hk.2⟩]at g1
     have nil:pre++post=[]:=List.eq_nil_iff_forall_not_mem.2 hn
     exact⟨g1,⟨fun j hj=>absurd hj (hn j),fun q=>absurd nil q,fun q=>absurd nil q⟩⟩
   have ih:=MO hself n (dD i rem) (pre++post) s1 y o2 (fun j=>by rw[mem2,eW,hm]) (by simp at hl ⊢;omega) both.2 g2 π' hπ'
   rw[cn l hb]
   show(stg E l b s).bind (yp E l (co l π'))=some y
   rw[both.1,Option.bind_some]
   exact ih
end
def Av (E:aK) (l:List Oper) (W:WL) (T:List (Nat×Nm)) (L:List Nat) (vs:List (Nat×AV)) (bs:List (Nm×Ob)):Bool :=
 L.all (fun i=>match l[i]? with
  |some o => !zD W E o || (match o.dst with|some d=>Bc d vs bs|none=>true)
  |none=>true)&&(vs.all (fun q=>(sC W).all fun n=>yx q.1 n T || !zo (Nm.eqb n) q.2)&&bs.all (fun q => !CC (fun n=>lx n (sC W)) q.2))
theorem Gd{E:aK}{l:List Oper}{W:WL}{T:List (Nat×Nm)}{L:List Nat}{es:List En}{ds:List DV}(h:Av E l W T L (cN es ds) (eX es ds)=true):Dj E W T l L (GI es ds):=by
 unfold Av at h
 rw[Bool.and_eq_true,Bool.and_eq_true]at h
 obtain⟨h1,h2,h3⟩:=h
 refine⟨fun i hi o d ho hw hd=>?_,fun _ t n hn ht hm=>?_,fun _ m x hx n hn hm=>?_⟩
 ·have:=List.all_eq_true.1 h1 i hi
  rw[ho]at this
  dsimp only at this
  rw[hw,hd,Bool.not_true,Bool.false_or]at this
  exact zQ this
 ·have hm:aD (d6 (cN es ds) t) n:=hm
  rcases sX (vs:=cN es ds) (t:=t)with q|⟨q,hq,g1,g2⟩
  ·rw[q]at hm;exact hm
  ·have:=List.all_eq_true.1 (List.all_eq_true.1 h2 q hq) n hn
   rw[g1,g2,Bool.or_eq_true]at this
   rcases this with w|w
   ·exact ht (xq.1 w)
   ·exact not_true w (sV (p:=Nm.eqb n) (bA.2 rfl) hm)
 ·have:=List.all_eq_true.1 h3 (m,x) (iv hx)
  exact not_true this (sW (p:=fun n=>lx n (sC W)) (fR.2 hn) hm)
theorem G8{R:Type}{E:aK}{l:List Oper}(W:WL) (T:List (Nat×Nm)) (L:List Nat) (hb:(L.all (fun i=>Nat.blt i l.length)&&(List.range l.length).all (fun i=>aP i L))=true) (hnd:L.Nodup) (ha:oZ l=true)
  (hp:dl (Ch E l W T (aN l [])) L=true) (ho:dl (Cl l) L=true) (hok:L.all (fun j=>Pm E l W T (aN l []) j || zy W E l (aN l []) j)=true){es:List En}{x:TD (be es)}(hs:Av E l W T L (cN es (ai _ x)) (eX es (ai _ x))=true)
  {k:St→Option R}{y:R}(h:oW W E l (co l L) (d5 es x) k=some y):∀π∈Bd l,cT E l (co l π) (d5 es x) k=some y:=by
 rw[Bool.and_eq_true]at hb
 have hm:∀i,i∈L↔i∈List.range l.length:=fun i=>⟨fun hi=>List.mem_range.2 (Nat.le_of_ble_eq_true (List.all_eq_true.1 hb.1 i hi)),fun hi=>cD.1 (List.all_eq_true.1 hb.2 i hi)⟩
 have hlen:L.length=l.length:=by
  have:L.Perm (List.range l.length):=(List.perm_ext_iff_of_nodup hnd List.nodup_range).2 hm
  rw[this.length_eq,List.length_range]
 have hself:∀j o,l[j]?=some o→j∉bJ o:=fun j o hj q=>by
  have:=Bs ha j o hj j q
  omega
 rw[yY]at h
 obtain⟨s1,h1,h2⟩:=Option.bind_eq_some_iff.1 h
 intro π hπ
 have:=MO hself l.length (List.range l.length) L (d5 es x) s1 ⟨hnd,fun j hj=>List.mem_range.1 ((hm j).1 hj),hp,ho,fun j hj=>List.all_eq_true.1 hok j hj,fun j o hj hjo a ha2 q=>by
  have:j<l.length:=(List.getElem?_eq_some_iff.1 hjo).1
  exact hj ((hm j).2 (List.mem_range.2 this))⟩ hm hlen (Gd hs) h1 π hπ
 rw[qC,this]
 exact h2
end AM
end Go.Proofs.YtobpcllkonomlabGreatDoor
namespace Go.Proofs.YtobpcllkonomlabGreatDoor
namespace AM
open Go
set_option linter.unusedSimpArgs false
set_option linter.unusedVariables false
def KW (E:aK) (l:List Oper) (i j:Nat):Bool:=match l[i]?,l[j]? with
 |some a,some b=>(match a.dst,b.dst with
  |some d,some e=>nE false (aA E a)&&(nE false (aA E b)&&(!aP d (gR l b)&&(!Nat.beq d e && !aP e (gR l a))))
  |_,_=>false)
 |_,_=>false
def FD (E:aK) (l:List Oper):Nat→Option Nat→List Nat→List (List Nat)
 |0,_,_=>[[]]
 |n+1,last,rem=>rem.flatMap fun i=>bif eD l rem i && !(match last with|some j=>Nat.blt i j&&KW E l j i|none=>false)then(FD E l n (some i) (dD i rem)).map (fun π=>i::π)else []
section
variable{E:aK}{l:List Oper}
theorem C2:∀(n:Nat) (last:Option Nat) (rem π:List Nat),π∈nI l n rem→(∀j,last=some j→∀i r,π=i::r→(Nat.blt i j&&KW E l j i)=false) →
  π∈FD E l n last rem∨∃pre i j post,π=pre++i::j::post∧j<i∧KW E l i j=true
 |0,last,rem,π,h,_ => .inl h
 |n+1,last,rem,π,h,hl=>by
  obtain⟨i,hi,hπ⟩:=List.mem_flatMap.1 h
  cases hf:eD l rem i with
  |false=>rw[hf]at hπ;cases hπ
  |true =>
   rw[hf]at hπ
   obtain⟨π',hπ',rfl⟩:=List.mem_map.1 hπ
   by_cases hd:∃j r,π'=j::r∧(Nat.blt j i&&KW E l i j)=true
   ·obtain⟨j,r,rfl,q⟩:=hd
    rw[Bool.and_eq_true]at q
    exact .inr ⟨[],i,j,r,rfl,Nat.le_of_ble_eq_true q.1,q.2⟩
   ·rcases C2 n (some i) (dD i rem) π' hπ' (fun j hj i' r hr=>by
     obtain rfl:=Option.some.inj hj
     cases q:(Nat.blt i' i&&KW E l i i')with
     |false=>rfl
     |true=>exact absurd ⟨i',r,hr,q⟩ hd)with g|⟨pre,a,b,post,rfl,g1,g2⟩
    ·left
     refine List.mem_flatMap.2 ⟨i,hi,?_⟩
     have e:∀lst:Option Nat,(∀j,lst=some j→(Nat.blt i j&&KW E l j i)=false)→(match lst with|some j=>Nat.blt i j&&KW E l j i|none=>false)=false:=fun lst hq=>by
      cases lst with
      |none=>rfl
      |some j=>exact hq j rfl
     rw[hf,e last (fun j hj=>hl j hj i π' rfl)]
     exact List.mem_map.2 ⟨π',g,rfl⟩
    ·exact .inr ⟨i::pre,a,b,post,rfl,g1,g2⟩
theorem B7 (i j:Nat) (rem:List Nat):dD i (dD j rem)=dD j (dD i rem):=by
 unfold dD
 rw[List.filter_filter,List.filter_filter]
 congr 1
 funext x
 rw[Bool.and_comm]
theorem xL (ha:V0 l):∀(pre:List Nat){n:Nat}{rem:List Nat}{i j:Nat}{post:List Nat},pre++i::j::post∈nI l n rem→j<i→(∃b,l[j]?=some b)→pre++j::i::post∈nI l n rem
 |[],0,rem,i,j,post,h,_,_=>by cases List.mem_singleton.1 h
 |[],1,rem,i,j,post,h,_,_=>by
  obtain⟨x,hx,hπ⟩:=List.mem_flatMap.1 h
  cases hf:eD l rem x with
  |false=>rw[hf]at hπ;cases hπ
  |true =>
   rw[hf]at hπ
   obtain⟨π',hπ',e⟩:=List.mem_map.1 hπ
   rw[List.mem_singleton.1 hπ']at e
   cases e
 |[],n+2,rem,i,j,post,h,hij,⟨b,hb⟩=>by
  obtain⟨x,hx,hπ⟩:=List.mem_flatMap.1 h
  cases hf:eD l rem x with
  |false=>rw[hf]at hπ;cases hπ
  |true =>
   rw[hf]at hπ
   obtain⟨π',hπ',e⟩:=List.mem_map.1 hπ
   injection e with e1 e2
   subst e1;subst e2
   obtain⟨y,hy,hπ2⟩:=List.mem_flatMap.1 hπ'
   cases hf2:eD l (dD x rem) y with
   |false=>rw[hf2]at hπ2;cases hπ2
   |true =>
    rw[hf2]at hπ2
    obtain⟨π2,hπ3,e⟩:=List.mem_map.1 hπ2
    injection e with e1 e2
    subst e1;subst e2
    have hy':=eW.1 hy
    have fy:eD l rem y=true:=by
     unfold eD at hf2 ⊢
     rw[hb]at hf2 ⊢
     dsimp only at hf2 ⊢
     rw[List.all_eq_true]at hf2 ⊢
     intro a hA
     have h1:=hf2 a hA
     have h2:=ha y b hb a hA
     cases q:aP a rem with
     |false=>rfl
     |true =>
      have:aP a (dD x rem)=true:=cD.2 (eW.2 ⟨cD.1 q,by omega⟩)
      rw[this]at h1;cases h1
    have fx:eD l (dD y rem) x=true:=by
     unfold eD at hf ⊢
     cases hxl:l[x]? with
     |none=>rw[hxl]at hf;cases hf
     |some o =>
      rw[hxl]at hf
      dsimp only at hf ⊢
      rw[List.all_eq_true]at hf ⊢
      intro a hA
      have h1:=hf a hA
      cases q:aP a (dD y rem)with
      |false=>rfl
      |true =>
       have:aP a rem=true:=cD.2 (eW.1 (cD.1 q)).1
       rw[this]at h1;cases h1
    refine List.mem_flatMap.2 ⟨y,hy'.1,?_⟩
    rw[fy]
    refine List.mem_map.2 ⟨x::π2,List.mem_flatMap.2 ⟨x,eW.2 ⟨hx,by omega⟩,?_⟩,rfl⟩
    rw[fx]
    refine List.mem_map.2 ⟨π2,?_,rfl⟩
    rw[B7]
    exact hπ3
 |p::pre,0,rem,i,j,post,h,_,_=>by cases List.mem_singleton.1 h
 |p::pre,n+1,rem,i,j,post,h,hij,hb=>by
  obtain⟨x,hx,hπ⟩:=List.mem_flatMap.1 h
  refine List.mem_flatMap.2 ⟨x,hx,?_⟩
  cases hf:eD l rem x with
  |false=>rw[hf]at hπ;cases hπ
  |true =>
   rw[hf]at hπ
   obtain⟨π',hπ',e⟩:=List.mem_map.1 hπ
   injection e with e1 e2
   subst e1;subst e2
   exact List.mem_map.2 ⟨_,xL ha pre hπ' hij hb,rfl⟩
theorem yN{i j:Nat}(hs:KW E l i j=true){post:List Nat}{y:St}:∀{pre:List Nat}{s:St},(∀x∈pre, ∃o,l[x]?=some o)→nB false E l (co l (pre++j::i::post)) s=some y→nB false E l (co l (pre++i::j::post)) s=some y
 |[],s,_,h=>by
  unfold KW at hs
  cases hi:l[i]? with
  |none=>rw[hi]at hs;cases hs
  |some a =>
   cases hj:l[j]? with
   |none=>rw[hi,hj]at hs;cases hs
   |some b =>
    rw[hi,hj]at hs
    dsimp only at hs
    cases hda:a.dst with
    |none=>rw[hda]at hs;cases hs
    |some d =>
     cases hdb:b.dst with
     |none=>rw[hda,hdb]at hs;cases hs
     |some e =>
      rw[hda,hdb]at hs
      dsimp only at hs
      rw[Bool.and_eq_true,Bool.and_eq_true,Bool.and_eq_true,Bool.and_eq_true]at hs
      obtain⟨k1,k2,n1,n2,n3⟩:=hs
      rw[List.nil_append,cn l hj,cn l hi]at h
      rw[List.nil_append,cn l hi,cn l hj]
      have h:(stm false E l b s).bind (fun t=>(stm false E l a t).bind (nB false E l (co l post)))=some y:=h
      show(stm false E l a s).bind (fun t=>(stm false E l b t).bind (nB false E l (co l post)))=some y
      obtain⟨sb,g1,h⟩:=Option.bind_eq_some_iff.1 h
      obtain⟨sa,g2,h⟩:=Option.bind_eq_some_iff.1 h
      obtain⟨vb,ub,qb,mb,mb2,rfl,_⟩:=gC hdb k2 g1
      obtain⟨va,ua,qa,ma,ma2,rfl,_⟩:=gC hda k1 g2
      have no1:∀{k:Nat},nE false k=true→k≠1:=fun h q=>by rw[q]at h;cases h
      obtain⟨x1,x2⟩:=ma2 (no1 k1)
      obtain⟨y1,y2⟩:=mb2 (no1 k2)
      obtain⟨e1,e2⟩:=EP mb ma (Ne.symm (lz n2)) (bf n3) (bf n1) (.inl ⟨y2,x2,y1,x1⟩)
      rw[e1,Option.bind_some,e2,Option.bind_some]
      exact h
 |x::pre,s,hp,h=>by
  obtain⟨o,ho⟩:=hp x (List.mem_cons_self ..)
  rw[List.cons_append,cn l ho]at h ⊢
  have h:(stm false E l o s).bind (nB false E l (co l (pre++j::i::post)))=some y:=h
  show(stm false E l o s).bind (nB false E l (co l (pre++i::j::post)))=some y
  obtain⟨s1,g1,g2⟩:=Option.bind_eq_some_iff.1 h
  rw[g1,Option.bind_some]
  exact yN hs (fun z hz=>hp z (List.mem_cons_of_mem _ hz)) g2
def wt:List Nat→Nat
 |[]=>0
 |x::r=>x*(r.length+1)+wt r
theorem EK{i j:Nat}(h:j<i){post:List Nat}:∀(pre:List Nat),wt (pre++j::i::post)<wt (pre++i::j::post)
 |[]=>by
  simp only[List.nil_append,wt,List.length_cons,Nat.mul_add,Nat.mul_one]
  omega
 |x::pre=>by
  have:=EK h (post:=post) pre
  simp only[List.cons_append,wt,List.length_append,List.length_cons]
  omega
theorem C0:∀{n:Nat}{rem π:List Nat},π∈nI l n rem→∀x∈π, ∃o,l[x]?=some o
 |0,rem,π,h,x,hx=>by rw[List.mem_singleton.1 h]at hx;cases hx
 |n+1,rem,π,h,x,hx=>by
  obtain⟨i,hi,hπ⟩:=List.mem_flatMap.1 h
  cases hf:eD l rem i with
  |false=>rw[hf]at hπ;cases hπ
  |true =>
   rw[hf]at hπ
   obtain⟨π',hπ',rfl⟩:=List.mem_map.1 hπ
   rcases List.mem_cons.1 hx with rfl|hx
   ·unfold eD at hf
    cases q:l[x]? with
    |none=>rw[q]at hf;cases hf
    |some o=>exact⟨o,rfl⟩
   ·exact C0 hπ' x hx
theorem Nc (s s1:St){o:Oper}(hq:stm false E l o s=some s1):stg E l o s=some s1:=by
 by_cases k4:aA E o=4
 ·cases hd:o.dst with
  |none =>
   exfalso
   unfold aA at k4
   rw[hd]at k4
   dsimp only at k4
   rw[Bool.and_false]at k4
   dsimp only[cond_false]at k4
   cases q:dL o with
   |false=>rw[q]at k4;cases k4
   |true =>
    rw[q]at k4
    dsimp only[cond_true]at k4
    split at k4<;>first|(rename_i w;cases w;done)|(rename_i w _;cases w;done)|cases k4
  |some d =>
   obtain⟨v,ups,q,m,m2,rfl,_⟩:=JP (.inr k4) hd hq
   exact m.m.step s (fun _ _=>rfl) (fun _ _ _ _=>rfl) (fun w=>by rw[(m2 k4).1]at w;cases w)
 ·rw[lR ⟨fun _=>rfl,k4⟩]at hq
  exact hq
theorem EU:∀{r:List Oper}{s y:St},nB false E l r s=some y→yp E l r s=some y
 |[],s,y,h=>h
 |o::r,s,y,h=>by
  have h:(stm false E l o s).bind (nB false E l r)=some y:=h
  obtain⟨s1,g1,g2⟩:=Option.bind_eq_some_iff.1 h
  show(stg E l o s).bind (yp E l r)=some y
  rw[Nc s s1 g1,Option.bind_some]
  exact EU g2
theorem Ly{R:Type}(ha:oZ l=true){s:St}{k:St→Option R}{y:R}(h:∀π∈FD E l l.length none (List.range l.length),lO false E l (co l π) s k=some y):∀π∈Bd l,cT E l (co l π) s k=some y:=by
 have all:∀(m:Nat) (π:List Nat),wt π≤m→π∈Bd l→∃s1,nB false E l (co l π) s=some s1∧k s1=some y:=by
  intro m
  induction m using Nat.strongRecOn with
  |_ m ih =>
   intro π hw hπ
   rcases C2 (E:=E) l.length none (List.range l.length) π hπ (fun j hj=>by cases hj)with g|⟨pre,i,j,post,rfl,g1,g2⟩
   ·have:=h π g
    rw[qB]at this
    obtain⟨s1,e1,e2⟩:=Option.bind_eq_some_iff.1 this
    exact⟨s1,e1,e2⟩
   ·have hx:=C0 hπ
    have hlt:=EK g1 (post:=post) pre
    obtain⟨s1,e1,e2⟩:=ih (wt (pre++j::i::post)) (by omega) (pre++j::i::post) (Nat.le_refl _) (xL (Bs ha) pre hπ g1 (hx j (List.mem_append_right _ (List.mem_cons_of_mem _ (List.mem_cons_self ..)))))
    exact⟨s1,yN g2 (fun x hp=>hx x (List.mem_append_left _ hp)) e1,e2⟩
 intro π hπ
 obtain⟨s1,e1,e2⟩:=all (wt π) π (Nat.le_refl _) hπ
 rw[qC,EU e1]
 exact e2
end
section
variable{P:Program}{X:qT}{L:Nm→Value}{I:Nat→Prop}{s:St}{a:Act}{w:World}{R:Type}
def UX:Ex→Exit→Prop
 | .normal, .normal=>True
 | .exit i, .exit j=>i=j
 | .ret, .ret=>True
 |_,_=>False
def ph (X:qT) (L:Nm→Value) (k:Ex→St→Option R) (y:R) (e:Exit) (a:Act) (w:World):Prop :=
 ∃x s' L' I',UX x e∧bD X L' I' s' a w∧(∀n,gE n=true→L' n=L n)∧k x s'=some y
def Ag (E:aK) (id:Nat) (ops:Array Oper):Prop:=∀S,E.Ω id=some S→oZ ops.toList=true∧∀x y,S.g x=some y→∀π∈Bd ops.toList,cT E ops.toList (co ops.toList π) (d5 S.ent x) (fun s'=>ig E.N S.out s')=some y
def e9 (E:aK):Code→Prop
 | .region id ops _=>Ag E id ops
 | .seq a b=>e9 E a∧e9 E b
 | .cond _ a b=>e9 E a∧e9 E b
 | .block _ c=>e9 E c
 | .loop c=>e9 E c∧∀S,E.Λ (key c)=some S→∃f:Nat→TD (be S.ent)→Option (EX S.exs),(∀x,f 0 x=none)∧(∃n,S.g=f n)∧∀n x,f (n+1) x=ej E c S (f n) x
 |_=>True
theorem Q6{x y:Ex}(h:Ex.eqb x y=true):x=y:=by
 cases x<;>cases y<;>first|rfl|(cases h;done)|exact congrArg Ex.exit (Nat.eq_of_beq_eq_true h)
theorem xM{N:Nat}:∀{l:List (Ex×List En)}{x:Ex}{s:St}{y:EX l},Ei N l x s=some y→∃es, ∃z:TD (be es),ig N es s=some z∧∀(R:Type) (k:Ex→St→Option R),J6 l y k=k x (d5 es z)
 |[],_,_,_,h=>by cases h
 |[e],x,s,y,h=>by
  unfold Ei at h
  cases q:Ex.eqb e.1 x with
  |false=>rw[q]at h;cases h
  |true =>
   rw[q]at h
   have:=Q6 q
   exact⟨e.2,y,h,fun R k=>by show k e.1 _=_;rw[this]⟩
 |e::f::r,x,s,y,h=>by
  unfold Ei at h
  cases q:Ex.eqb e.1 x with
  |false =>
   rw[q]at h
   simp only[cond_false]at h
   split at h
   ·rename_i y' e1
    obtain rfl:=Option.some.inj h
    obtain⟨es,z,g1,g2⟩:=xM e1
    exact⟨es,z,g1,fun R k=>g2 R k⟩
   ·cases h
  |true =>
   rw[q]at h
   simp only[cond_true]at h
   split at h
   ·rename_i y' e1
    obtain rfl:=Option.some.inj h
    exact⟨e.2,y',e1,fun R k=>by show k e.1 _=_;rw[Q6 q]⟩
   ·cases h
theorem jy (h:bD X L I s a w){es:List En}{x:TD (be es)}(e:ig X.N es s=some x):∃L' I',bD X L' I' (d5 es x) a w∧∀n,gE n=true→L' n=L n:=by
 obtain⟨L',I',h1,_,h2⟩:=wT h e (us:=es.map fun e=>a.tmps.getD e.slot undef) (by
  clear e x
  induction es with
  |nil=>trivial
  |cons en es ih=>exact⟨h.slot en.slot,ih⟩) (a':=a) h.defers h.size (fun i en u z1 z2=>by
   rw[List.getElem?_map,z1]at z2
   exact Option.some.inj z2)
 exact⟨L',I',h1,h2⟩
theorem ph.trans{k:Ex→St→Option R}{y:R}{L1:Nm→Value}{e:Exit}(hk:∀n,gE n=true→L1 n=L n) (h:ph X L1 k y e a w):ph X L k y e a w:=by
 obtain⟨x,s',L',I',h1,h2,h3,h4⟩:=h
 exact⟨x,s',L',I',h1,h2,fun n hn=>(h3 n hn).trans (hk n hn),h4⟩
theorem Ek{E:aK}(hE:t6 P X.K E) (hN:E.N=X.N) (h:bD X L I s a w){id:Nat}{ops:Array Oper}(hr:Ag E id ops){k:Ex→St→Option R}{y:R}(e:we E (.region id ops true) s k=some y) :
  (Code.region id ops true).wp P (ph X L k y) a w:=by
 simp only[we]at e
 cases q:Bh ops.toList (ox E ops.toList)with
 |false =>
  rw[q]at e
  simp only[cond_false]at e
  unfold MQ at e
  split at e
  ·rename_i S hS
   split at e
   ·rename_i x hx
    split at e
    ·rename_i z hz
     obtain⟨ha,hall⟩:=hr S hS
     have hall:=hall x z hz
     rw[hN]at hx
     obtain⟨L1,I1,h1,hk1⟩:=jy h hx
     refine wp_region_any hE.mo ?_
     have hg:bD X L1 I1 (d5 S.ent x) a { w with drawn:=w.drawn+1 }:=h1.grows (cb.drew _ w)
     have:=Id (L:=L) (k:=fun s'=>ig E.N S.out s') (y:=z) (Q:=ph X L k y) (l:=ops.toList) hE hN (Bs ha) (fun a' w' hp=>by
      obtain⟨s',L',I',r1,r2,r3⟩:=hp
      rw[hN]at r3
      obtain⟨L2,I2,h2,hk2⟩:=jy r1 r3
      exact⟨.normal,_,L2,I2,trivial,h2,fun n hn=>(hk2 n hn).trans (r2 n hn),e⟩) ops.toList.length (List.range ops.toList.length) (Array.replicate ops.size false) (by simp) ⟨by simp,fun i hi=>List.mem_range.1 hi,List.nodup_range,fun i hi=>by
       have hi':i<ops.size:=by simpa using hi
       simp[hi']⟩ hg hk1 hall
     rw[Array.length_toList]at this
     exact this
    ·cases e
   ·cases e
  ·cases e
 |true =>
  rw[q]at e
  simp only[cond_true]at e
  refine wp_region_any hE.mo ?_
  have hg:bD X L I s a { w with drawn:=w.drawn+1 }:=h.grows (cb.drew _ w)
  have hle:=yT E ops.toList
  obtain⟨hl,hlen⟩:=D6 hle q
  have:=J7 (L:=L) (k:=k .normal) (y:=y) (Q:=ph X L k y) (l:=ops.toList) hE hN (fun a' w' hp=>by
   obtain⟨s',L',I',r1,r2,r3⟩:=hp
   exact⟨.normal,s',L',I',trivial,r1,r2,r3⟩) ops.size (gB ops.toList (ox E ops.toList)) (jh ops.toList (ox E ops.toList)) (Array.replicate ops.size false) (by
    rw[hlen,Array.length_toList]) (by rw[←Array.length_toList];exact hl) hg (fun _ _=>rfl) e
  exact this
theorem Eh{E:aK}(hE:t6 P X.K E) (hN:E.N=X.N):∀(c:Code),e9 E c→∀{R:Type}{k:Ex→St→Option R}{y:R}{L:Nm→Value}{I:Nat→Prop}{s:St}{a:Act}{w:World},bD X L I s a w→we E c s k=some y →
  c.wp P (ph X L k y) a w:=by
 intro c
 induction c with
 |skip=>intro _ R k y L I s a w h e;exact wp_skip ⟨.normal,s,L,I,trivial,h,fun _ _=>rfl,e⟩
 |exit id=>intro _ R k y L I s a w h e;exact wp_exit ⟨.exit id,s,L,I,rfl,h,fun _ _=>rfl,e⟩
 |ret=>intro _ R k y L I s a w h e;exact wp_ret ⟨.ret,s,L,I,trivial,h,fun _ _=>rfl,e⟩
 |region id ops draw =>
  intro hl R k y L I s a w h e
  cases draw with
  |true=>exact Ek hE hN h hl e
  |false =>
   refine wp_region_list ?_
   refine xd (L:=L) (k:=k .normal) (y:=y) (all:=ops.toList) hE hN (fun a' w' hp=>?_) h (fun _ _=>rfl) e
   obtain⟨s',L',I',r1,r2,r3⟩:=hp
   exact⟨.normal,s',L',I',trivial,r1,r2,r3⟩
 |seq x z ihx ihz =>
  intro hl R k y L I s a w h e
  refine wp_seq (Go.wp_mono (ihx hl.1 h e) fun en a' w' hp=>?_)
  obtain⟨x',s',L',I',h1,r1,r2,r3⟩:=hp
  cases x' with
  |normal =>
   cases en<;>try exact h1.elim
   exact Go.wp_mono (ihz hl.2 r1 r3) fun _ _ _ q=>ph.trans r2 q
  |exit i =>
   cases en<;>try exact h1.elim
   exact⟨.exit i,s',L',I',h1,r1,r2,r3⟩
  |ret =>
   cases en<;>try exact h1.elim
   exact⟨.ret,s',L',I',h1,r1,r2,r3⟩
 |cond c x z ihx ihz =>
  intro hl R k y L I s a w h e
  simp only[we]at e
  split at e
  ·rename_i b hb
   have hv:=h.ev c
   rw[xD hb]at hv
   have hv:a.eval c = .bool b:=List.head_eq_of_cons_eq hv
   cases b with
   |true=>simp only[qK hb]at e;exact wp_cond_true hv (ihx hl.1 h e)
   |false=>simp only[qK hb]at e;exact wp_cond_false hv (ihz hl.2 h e)
  ·cases e
 |block id c ih =>
  intro hl R k y L I s a w h e
  refine wp_block (Go.wp_mono (ih hl h e) fun en a' w' hp=>?_)
  obtain⟨x',s',L',I',h1,r1,r2,r3⟩:=hp
  cases x' with
  |normal =>
   cases en<;>try exact h1.elim
   exact⟨.normal,s',L',I',trivial,r1,r2,r3⟩
  |exit i =>
   cases en with
   |exit j =>
    obtain rfl:i=j:=h1
    dsimp only at r3
    show if i=id then ph X L k y .normal a' w' else ph X L k y (.exit i) a' w'
    cases q:Nat.beq i id with
    |true =>
     rw[q]at r3
     rw[if_pos (Nat.eq_of_beq_eq_true q)]
     exact⟨.normal,s',L',I',trivial,r1,r2,r3⟩
    |false =>
     rw[q]at r3
     rw[if_neg (Nat.ne_of_beq_eq_false q)]
     exact⟨.exit i,s',L',I',rfl,r1,r2,r3⟩
   |_=>exact h1.elim
  |ret =>
   cases en<;>try exact h1.elim
   exact⟨.ret,s',L',I',trivial,r1,r2,r3⟩
 |loop c ih =>
  intro hl R k y L I s a w h e
  simp only[we]at e
  split at e
  ·rename_i S hS
   split at e
   ·rename_i x hx
    split at e
    ·rename_i z hz
     obtain⟨f,f0,⟨n,hn⟩,fs⟩:=hl.2 S hS
     rw[hn]at hz
     rw[hN]at hx
     obtain⟨L1,I1,h1,hk1⟩:=jy h hx
     refine wp_loop_rounds n ?_
     have main:∀n x,f n x=some z→∀{L1:Nm→Value}{I1:Nat→Prop}{a:Act}{w:World},bD X L1 I1 (d5 S.ent x) a w→(∀n,gE n=true→L1 n=L n)→Code.rounds P c (ph X L k y) n a w:=by
      intro n
      induction n with
      |zero=>intro x hx;rw[f0]at hx;cases hx
      |succ n ihn =>
       intro x hx L1 I1 a w h1 hk1
       rw[fs]at hx
       rw[rounds_succ]
       refine Go.wp_mono (ih hl.1 h1 hx) fun en a' w' hp=>?_
       obtain⟨x',s',L',I',g1,r1,r2,r3⟩:=hp
       have ends:∀{ex:Ex},UX ex en→Ei E.N S.exs ex s'=some z→ph X L k y en a' w':=by
        intro ex g1 r3
        obtain⟨es,z',g2,g3⟩:=xM r3
        rw[hN]at g2
        obtain⟨L2,I2,h2,hk2⟩:=jy r1 g2
        refine⟨ex,_,L2,I2,g1,h2,fun n hn=>(hk2 n hn).trans ((r2 n hn).trans (hk1 n hn)),?_⟩
        rw[←g3 R k];exact e
       cases x' with
       |normal =>
        cases en<;>try exact g1.elim
        dsimp only at r3
        split at r3
        ·rename_i x2 hx2
         rw[hN]at hx2
         obtain⟨L2,I2,h2,hk2⟩:=jy r1 hx2
         exact ihn x2 r3 h2 (fun n hn=>(hk2 n hn).trans ((r2 n hn).trans (hk1 n hn)))
        ·cases r3
       |exit i =>
        cases en<;>try exact g1.elim
        exact ends (ex := .exit i) g1 r3
       |ret =>
        cases en<;>try exact g1.elim
        exact ends (ex := .ret) g1 r3
     exact main n x hz h1 hk1
    ·cases e
   ·cases e
  ·cases e
 |_=>intro _ R k y L I s a w h e;cases e
end
section
variable{P:Program}{X:qT}{L:Nm→Value}{I:Nat→Prop}{s:St}{a:Act}{w:World}
theorem bD.extend (h:bD X L I s a w){N r:Nat}(hr:r≤X.N) (hN:r≤N):bD { X with N:=N } L I (s.cut r) { tmps:=first r a.tmps++Array.replicate (N-(first r a.tmps).size) undef,defers:=[] } w:=by
 have hs:=h.size
 have hfs:(first r a.tmps).size=r:=by unfold first;simp;omega
 refine⟨rfl,?_,fun i hi=>?_,fun i hi=>?_,h.obj,h.sep,h.own,h.imm,h.sub,h.step,h.glob⟩
 ·simp_all
 ·by_cases q:i<r
  ·have e1:(s.cut r).t i=s.t i:=by
    show(bif Nat.blt i r then s.t i else .c .dead)=_
    rw[show Nat.blt i r=true from Nat.ble_eq_true_of_le q];rfl
   have e2:(first r a.tmps++Array.replicate (N-(first r a.tmps).size) undef).getD i undef=a.tmps.getD i undef:=by
    rw[Array.getD_eq_getD_getElem?,Array.getD_eq_getD_getElem?,Array.getElem?_append_left (by rw[hfs];exact q)]
    unfold first
    rw[List.getElem?_toArray,List.getElem?_take,if_pos q]
    simp
   rw[e1,e2];exact h.tmp i (by omega)
  ·have e1:(s.cut r).t i = .c .dead:=by
    show(bif Nat.blt i r then s.t i else .c .dead)=_
    rw[show Nat.blt i r=false from by cases z:Nat.blt i r with|false=>rfl|true=>exact absurd (Nat.le_of_ble_eq_true z) q];rfl
   rw[e1];trivial
 ·have hi:N≤i:=hi
  show(bif Nat.blt i r then s.t i else .c .dead)=_
  rw[show Nat.blt i r=false from by cases z:Nat.blt i r with|false=>rfl|true=>exact absurd (Nat.le_of_ble_eq_true z) (by show ¬(i<r);omega)];rfl
def sL (a:Act):ResultVar→Sem Value
 | .tmp t=>pure (a.tmps.getD t undef)
 | .cell b t=>do loadVar t (←asAddr (a.tmps.getD b undef))
theorem AB (h:bD X L I s a w) {τ:lj}(hτ:dc P τ){v:ResultVar}{x:AV}(e:DH τ s v=some x) :
  ∃u,(sL a v).run P w = .ok u w∧RA L I w (AL s.o) x u:=by
 cases v with
 |tmp t=>obtain rfl:=Option.some.inj e;exact⟨_,by simp[sL],h.slot t⟩
 |cell b t =>
  simp only[DH]at e
  split at e
  ·rename_i ti p e1 e2
   have r:=h.slot b
   rw[e2]at r
   obtain⟨b',off,vs,e4,hl,hc,hr,h1⟩:=oY h e r
   refine⟨_,?_,hr⟩
   have:=sI (P:=P) (hτ t ti e1) hl hc h1
   show(do loadVar t (←asAddr (a.tmps.getD b undef))).run P w=_
   rw[e4]
   simp[asAddr,this,Result.andThen]
  ·cases e
theorem rn (h:bD X L I s a w) {τ:lj}(hτ:dc P τ):∀{vs:List ResultVar}{xs:List AV},oh τ s vs=some xs →
  ∃us,(vs.mapM (sL a)).run P w = .ok us w∧aG (RA L I w (AL s.o)) xs us
 |[],_,e=>by obtain rfl:=Option.some.inj e;exact⟨[],by simp,trivial⟩
 |v::vs,_,e=>by
  simp only[oh]at e
  split at e
  ·rename_i x xs e1 e2
   obtain rfl:=Option.some.inj e
   obtain⟨u,g1,g2⟩:=AB h hτ e1
   obtain⟨us,g3,g4⟩:=rn h hτ e2
   exact⟨u::us,by simp[List.mapM_cons,g1,g3,Result.andThen],g2,g4⟩
  ·cases e
theorem vF {τ:lj}:∀{vs:List ResultVar}{xs:List AV},oh τ s vs=some xs→xs.length=vs.length
 |[],_,e=>by simp_all [oh]
 |v::vs,_,e=>by
  simp only[oh]at e
  split at e
  ·rename_i x xs e1 e2
   obtain rfl:=Option.some.inj e
   simp[vF e2]
  ·cases e
theorem BX{fn:Func}{us:List Value}(h:(fn.results.toList.mapM (sL a)).run P w = .ok us w) :
  (results fn a.tmps).run P w = .ok (if h:us.toArray.size=1 then us.toArray[0]else .tuple us.toArray) w:=by
 show(do
  let vs ←fn.results.mapM (sL a)
  pure (if h:vs.size=1 then vs[0]else Value.tuple vs)).run P w=_
 rw[Array.mapM_eq_mapM_toList]
 simp[h,Result.andThen]
def eZ (f:Nat→Value):Nat→List Di→List Value
 |_,[]=>[]
 |i, .c (.b _ _)::r=>f i::eZ f (i+1) r
 |i, .p _::r=>f i::eZ f (i+1) r
 |i, .h _::r=>f i::eZ f (i+1) r
 |i,_::r=>eZ f (i+1) r
theorem tj{L':Nm→Value}{I':Nat→Prop}{w':World}{A A':Nm→Option (Nat×Nat)}(hk:∀n,gE n=true→L' n=L n):∀{cs:List CV}{us:List Value},cs.all Fu=true→aG (RC L I w A) cs us→aG (RC L' I' w' A') cs us
 |[],[],_,_=>trivial
 |[],_::_,_,r=>r.elim
 |_::_,[],_,r=>r.elim
 |c::cs,u::us,q,r=>by
  rw[List.all_cons,Bool.and_eq_true]at q
  refine⟨?_,tj hk q.2 r.2⟩
  have q:=q.1
  have r:=r.1
  cases c with
  |own n =>
   simp_all [gE,Fu,aG,RC]
  |v ty x=>exact dJ.plain ty (by simpa [Fu]using q) r
  |_=>cases q
theorem sP{L':Nm→Value}{I':Nat→Prop}{w':World}{A A':Nm→Option (Nat×Nat)}{f:Nat→AV}{g:Nat→Value}(h:∀i,RA L I w A (f i) (g i)) (hk:∀n,gE n=true→L' n=L n):∀{ps:List Di}{k:Nat}{l:List AV},
  uo f k ps=some l→aG (RA L' I' w' A') l (eZ g k ps)
 |[],_,_,e=>by obtain rfl:=Option.some.inj e;trivial
 |p::ps,k,_,e=>by
  simp only[uo]at e
  split at e
  ·rename_i l e1
   have ih:=sP (L':=L') (I':=I') (w':=w') (A':=A') h hk e1
   have one:uA (f k)=true→RA L' I' w' A' (f k) (g k):=by
    intro q
    have r:=h k
    unfold uA at q
    split at q
    ·rename_i n o en
     rw[en]at r ⊢
     obtain⟨b,off,r1,r2⟩:=r
     exact⟨b,off,by rw[hk n q];exact r1,r2⟩
    ·rename_i n en
     rw[en]at r ⊢
     obtain⟨x1,x2,x3,r1,r2⟩:=r
     exact⟨x1,x2,x3,r1,by rw[hk n q];exact r2⟩
    ·rename_i cs en
     rw[en]at r ⊢
     obtain⟨vs,r1,r⟩:=r
     exact⟨vs,r1,tj hk q r⟩
    ·cases q
   have two:∀{l2:List AV},(bif uA (f k)then some (f k::l)else none)=some l2→aG (RA L' I' w' A') l2 (g k::eZ g (k+1) ps):=by
    grind [RA,gE,uo,aG,eZ]
   cases p with
   |c q =>
    grind [RA,gE,uo,aG,eZ]
   |g ps'=>obtain rfl:=Option.some.inj e;exact ih
   |p ps'=>exact two e
   |h ps'=>exact two e
  ·cases e
theorem rN{g:Nat→Value}:∀{ps:List Di}{k i:Nat}{e:En}{u:Value},(fX k ps)[i]?=some e→(eZ g k ps)[i]?=some u→u=g e.slot∧e.slot<k+ps.length
 |[],_,_,_,_,h,_=>by cases h
 |p::ps,k,i,e,u,h,h'=>by
  have rest:(fX (k+1) ps)[i]?=some e→(eZ g (k+1) ps)[i]?=some u→u=g e.slot∧e.slot<k+(ps.length+1):=fun h h'=>by
   obtain⟨g1,g2⟩:=rN h h';exact⟨g1,by omega⟩
  have cons:∀{en:En},en.slot=k→(en::fX (k+1) ps)[i]?=some e→(g k::eZ g (k+1) ps)[i]?=some u→u=g e.slot∧e.slot<k+(ps.length+1):=by
   intro en he h h'
   cases i with
   |zero=>simp_all
   |succ i=>obtain⟨g1,g2⟩:=rN (i:=i) h h';exact⟨g1,by omega⟩
  cases p with
  |c q =>
   cases q with
   |i t=>exact rest h h'
   |o _ t=>exact rest h h'
   |b _ t=>exact cons rfl h h'
   |q _ _=>exact rest h h'
   |m _ _ _=>exact rest h h'
   |f _ _=>exact rest h h'
   |e=>exact rest h h'
   |l=>exact rest h h'
  |g ps'=>exact rest h h'
  |p ps'=>exact cons rfl h h'
  |h ps'=>exact cons rfl h h'
theorem iP{g:Nat→Value}:∀(ps:List Di) (k:Nat),(fX k ps).length=(eZ g k ps).length
 |[],_=>rfl
 |p::ps,k=>by
  cases p with
  |c q=>cases q<;>simp[fX,eZ,iP (g:=g) ps (k+1)]
  |g ps'=>simp[fX,eZ,iP (g:=g) ps (k+1)]
  |p ps'=>simp[fX,eZ,iP (g:=g) ps (k+1)]
  |h ps'=>simp[fX,eZ,iP (g:=g) ps (k+1)]
theorem wX:∀{rs:List (Bool×List PS)}{k i:Nat}{e:En},(lq k rs)[i]?=some e→e.slot=k+i
 |[],_,_,_,h=>by cases h
 |(b,ps)::rs,k,0,e,h=>by
  obtain rfl:=Option.some.inj (show some (Mn k b ps)=some e from h)
  cases b<;>(cases ps<;>rfl)
 |(b,ps)::rs,k,i+1,e,h=>by
  have h:(lq (k+1) rs)[i]?=some e:=h
  rw[wX h];omega
theorem ol:∀(rs:List (Bool×List PS)) (k:Nat),(lq k rs).length=rs.length
 |[],_=>rfl
 |(b,ps)::rs,k=>by simp[lq,ol rs]
theorem zf:∀{rs:List (Nat×Nm×List PS)}{k i:Nat}{e:En},(Cw k rs)[i]?=some e→e.slot=k+i
 |[],_,_,_,h=>by cases h
 |p::rs,k,0,e,h=>by obtain rfl:=Option.some.inj h;rfl
 |p::rs,k,i+1,e,h=>by
  have h:(Cw (k+1) rs)[i]?=some e:=h
  rw[zf h];omega
theorem RA.getD{A:Nm→Option (Nat×Nat)}{xs:List AV}{us:List Value}(h:aG (RA L I w A) xs us) (i:Nat):RA L I w A (xs.getD i (.c .dead)) (us.getD i undef):=by
 rw[List.getD_eq_getElem?_getD,List.getD_eq_getElem?_getD]
 cases e:xs[i]? with
 |none=>trivial
 |some x=>obtain⟨u,e2,r⟩:=h.get e;rw[e2];exact r
theorem Cv{A:Nm→Option (Nat×Nat)}{xs:List AV}{us:List Value}(h:aG (RA L I w A) xs us):∀nb:List (Nat×Nm×List PS),aG (RA L I w A) (nb.map fun p=>xs.getD p.1 (.c .dead)) (nb.map fun p=>us.getD p.1 undef)
 |[]=>trivial
 |p::nb=>⟨RA.getD h p.1,Cv h nb⟩
theorem K6{a'':Act}{np:Nat}{us:List Value}(h:∀j u,us[j]?=some u→a''.tmps.getD (np+j) undef=u):(if h:us.toArray.size=1 then us.toArray[0]else .tuple us.toArray)=B5 a'' np us.length:=by
 match us with
 |[u]=>rw[dif_pos (show #[u].size=1 from rfl)];exact(h 0 u rfl).symm
 |[]=>simp[B5]
 |u::v::r =>
  have:∀l:List Value,(∀j u,l[j]?=some u→a''.tmps.getD (np+j) undef=u)→(List.range l.length).map (fun j=>a''.tmps.getD (np+j) undef)=l:=by
   intro l hl
   apply List.ext_getElem?
   intro i
   rw[List.getElem?_map]
   rcases Nat.lt_or_ge i l.length with q|q
   ·simp_all
   ·simp_all
  have:=this _ h
  rw[dif_neg (by simp)]
  show _=Value.tuple ((List.range (u::v::r).length).map fun j=>a''.tmps.getD (np+j) undef).toArray
  rw[this]
theorem PT{E:aK}{K:fA}(hE:t6 P K E){f:FuncId}{fn:Func}{c:Code}{S:aa}(hf:P.funcs[f]?=some fn) (hb:fn.body=some c) (hN:E.N=fn.ntmps) (hn:S.pars.length≤fn.ntmps) (hr:fn.results.size=S.res.length)
  (hl:e9 E c) (hg:∀x r,S.g x=some r→aB E fn S x=some r):pi P K f S:=by
 intro Y L I a w x r hx h hK hY hw
 subst hK
 refine calls_of_wp hf hb ?_
 have hreal:S.real≤S.pars.length:=by unfold aa.real;omega
 have h1:=h.extend (N:=fn.ntmps) (r:=S.real) (by rw[hY];exact hreal) (by omega)
 have e:=hg x r hx
 unfold aB at e
 rw[hb]at e
 dsimp only at e
 refine Go.wp_mono (Eh hE (X:={ Y with N:=fn.ntmps }) hN c hl h1 e) fun en a' w' hp=>?_
 obtain⟨ex,s',L',I',hx',r1,r2,r3⟩:=hp
 have fin:K5 E fn S (d5 (au 0 S.pars) x) s'=some r→a'.defers=[]∧∃v,(results fn a'.tmps).run P w' = .ok v w' ∧
   ∃v' L2 I2 a2,Ending.returned v = .returned v'∧bD { Y with N:=S.pars.length+(S.res.length+S.nb.length) } L2 I2 (d5 S.ens r) a2 w'∧(∀n,gE n=true→L2 n=L n)∧v'=B5 a2 S.pars.length S.res.length:=by
  intro e
  refine⟨r1.defers,?_⟩
  unfold K5 at e
  split at e
  ·rename_i rs os e1 e2
   obtain⟨us,g1,g2⟩:=rn r1 hE.τ e1
   have hul:us.length=S.res.length:=by
    rw[←g2.len,vF e1, ←hr];simp
   have hos:=sP (L':=L') (I':=I') (w':=w') (A':=AL s'.o) (g:=fun i=>a.tmps.getD i undef) (fun i=>h.slot i) r2 e2
   have hsz:a.tmps.size=S.pars.length:=by rw[h.size,hY]
   let bs:=S.nb.map fun p=>us.getD p.1 undef
   have hbl:bs.length=S.nb.length:=List.length_map ..
   have hat:∀j u,us[j]?=some u→(a.tmps++us.toArray++bs.toArray).getD (S.pars.length+j) undef=u:=by
    intro j u hj
    have hjl:j<us.length:=(List.getElem?_eq_some_iff.1 hj).1
    rw[Array.getD_eq_getD_getElem?,Array.getElem?_append_left (by simp;omega),Array.getElem?_append_right (by omega),hsz,Nat.add_sub_cancel_left]
    simp[hj]
   have hat2:∀j u,bs[j]?=some u→(a.tmps++us.toArray++bs.toArray).getD (S.pars.length+S.res.length+j) undef=u:=by
    intro j u hj
    have:(a.tmps++us.toArray).size=S.pars.length+S.res.length:=by simp[hsz,hul]
    rw[Array.getD_eq_getD_getElem?,Array.getElem?_append_right (by omega),this,Nat.add_sub_cancel_left,List.getElem?_toArray,hj];rfl
   obtain⟨L2,I2,k1,_,k3⟩:=wT r1 e (hos.append (g2.append (Cv g2 S.nb))) (a':=⟨a.tmps++us.toArray++bs.toArray,[]⟩) rfl (by simp[hsz,hul,hbl]) (fun i en u z1 z2=>by
    unfold du at z1
    rcases Nat.lt_or_ge i (fX 0 S.pars).length with q|q
    ·rw[List.getElem?_append_left q]at z1
     rw[List.getElem?_append_left (by rw[←iP];exact q)]at z2
     obtain⟨y1,y2⟩:=rN z1 z2
     rw[y1,Array.getD_eq_getD_getElem?,Array.append_assoc,Array.getElem?_append_left (by omega), ←Array.getD_eq_getD_getElem?]
    ·rw[List.getElem?_append_right q]at z1
     rw[List.getElem?_append_right (by rw[←iP];exact q), ←iP]at z2
     generalize i-(fX 0 S.pars).length=m at z1 z2
     rcases Nat.lt_or_ge m S.res.length with q2|q2
     ·rw[List.getElem?_append_left (by rw[ol];exact q2)]at z1
      rw[List.getElem?_append_left (by omega)]at z2
      rw[wX z1]
      exact hat _ u z2
     ·rw[List.getElem?_append_right (by rw[ol];exact q2),ol]at z1
      rw[List.getElem?_append_right (by omega),hul]at z2
      rw[zf z1]
      exact hat2 _ u z2)
   refine⟨_,BX g1,_,L2,I2,⟨a.tmps++us.toArray++bs.toArray,[]⟩,rfl,k1,fun n hn=>(k3 n hn).trans (r2 n hn),?_⟩
   rw[←hul]
   exact K6 (a'':=⟨a.tmps++us.toArray++bs.toArray,[]⟩) hat
  ·cases e
 cases ex with
 |normal =>
  cases en<;>try exact hx'.elim
  exact fin r3
 |exit i=>cases r3
 |ret =>
  cases en<;>try exact hx'.elim
  exact fin r3
end
def IT (sz:TypeId→Nat) (r:TypeId→Option Ty):Nat→List Field→Option Ty
 |_,[]=>none
 |off,[f]=>match r f.type with
  |some t=>bif Nat.beq f.offset off&&Nat.beq (sz f.type) t.sz then some t else none
  |none=>none
 |off,f::g::l=>match r f.type with
  |some t=>bif Nat.beq f.offset off&&Nat.beq (sz f.type) t.sz then(match IT sz r (off+t.sz) (g::l)with
   |some u=>some (.pr t u)
   |none=>none)else none
  |none=>none
def BQ (P:Program):Nat→TypeId→Option Ty
 |0,_=>none
 |n+1,T=>match P.underlying T with
  |some (.int k)=>some (.int k)
  |some .bool=>some .bool
  |some .string=>some .str
  |some (.slice e)=>match BQ P n e with
   |some t=>bif Nat.beq (P.cellsOf e) t.sz then some (.sl t)else none
   |none=>none
  |some (.struct fs)=>match IT P.cellsOf (BQ P n) 0 fs.toList with
   |some t=>bif Nat.beq (P.cellsOf T) t.sz then some t else none
   |none=>none
  |_=>none
def BB:(t:Ty)→t.den→Prop
 | .int k,n=>(Lit.int k n).wf=true
 | .bool,_=>True
 | .str,s=>ByteArray.size s≤maxLen
 | .sl t,xs=>List.length xs≤maxLen∧∀x∈(show List t.den from xs),BB t x
 | .pr a b,x=>BB a x.1∧BB b x.2
section
variable{H:Type}{enc:TypeId×Value→H}{P:Program}{w:World}{sp:Nat→Bool}{held:Bool}
theorem Ih{a:Addr}{n:Nat}{cs:List Value}(h:w.cells? 0 a n=some cs):cs.length=n∧∀j u,cs[j]?=some u→w.cell? (a.add j)=some u:=by
 unfold World.cells? at h
 split at h
 ·have hl:=mapM_some_length h
  refine⟨by simpa using hl,fun j u hu=>?_⟩
  have hj:j<n:=by
   rcases Nat.lt_or_ge j n with q|q
   ·exact q
   ·rw[List.getElem?_eq_none (by simp at hl;omega)]at hu;cases hu
  have:=mapM_some_get h j j (by simp[hj])
  rw[this,hu]
 ·cases h
theorem Ii{a:Addr}{u:Value}(h:w.cell? a=some u):a=⟨a.block,a.off,none⟩∧a.block<w.heap.size:=by
 have hspot:a.spot=none:=by
  cases hsp:a.spot with
  |none=>rfl
  |some s =>
   simp only[World.cell?]at h
   split at h
   ·simp[hsp]at h
   ·cases h
 exact⟨by cases a;simp_all,World.block_lt_of_cell? w a h⟩
theorem Iq (b off j:Nat):(⟨b,off,none⟩:Addr).add j=⟨b,off+j,none⟩:=by
 unfold Addr.add
 by_cases h:j=0
 ·subst h;rfl
 ·rw[if_neg h]
def KA (w:World) (t:Ty) (cs:List Value):Prop:=∃d:t.den,dJ (fun b=>b<w.heap.size) w t d cs∧BB t d
theorem vR {α β:Type}{R:Nat→α→β→Prop}:∀{n:Nat},(∀i,i<n→∃a b,R i a b)→∃(xs:List α) (ys:List β),xs.length=n∧ys.length=n∧∀(i:Nat) (x:α) (y:β),xs[i]?=some x→ys[i]?=some y→R i x y
 |0,_=>⟨[],[],rfl,rfl,fun _ _ _ h=>by cases h⟩
 |n+1,h=>by
  obtain⟨xs,ys,h1,h2,h3⟩:=vR (n:=n) (fun i hi=>h i (by omega))
  obtain⟨a,b,hab⟩:=h n (by omega)
  refine⟨xs++[a],ys++[b],by simp[h1],by simp[h2],fun i x y hx hy=>?_⟩
  rcases Nat.lt_or_ge i n with q|q
  ·rw[List.getElem?_append_left (by omega)]at hx hy
   exact h3 i x y hx hy
  ·have hi:i=n:=by
    have:=List.getElem?_eq_some_iff.1 hx
    obtain⟨q2,_⟩:=this
    simp at q2;omega
   subst hi
   rw[List.getElem?_append_right (by omega)]at hx hy
   simp[h1,h2]at hx hy
   subst hx;subst hy
   exact hab
theorem vV {α β:Type}{R:α→β→Prop}:∀{xs:List α}{ys:List β},xs.length=ys.length→(∀(i:Nat) (x:α) (y:β),xs[i]?=some x→ys[i]?=some y→R x y)→aG R xs ys
 |[],[],_,_=>trivial
 |x::xs,y::ys,h,g=>⟨g 0 x y rfl rfl,vV (by simpa using h) (fun i a b ha hb=>g (i+1) a b ha hb)⟩
 |[],_::_,h,_=>by cases h
 |_::_,[],h,_=>by cases h
theorem vN{sz:Nat}:∀{css:List (List Value)},(∀cs∈css,cs.length=sz)→∀{j:Nat}{u:Value},css.flatten[j]?=some u→∃i k cs,j=i*sz+k∧css[i]?=some cs∧cs[k]?=some u
 |[],_,_,_,h=>by simp at h
 |c::css,hl,j,u,h=>by
  rw[List.flatten_cons]at h
  have hc:=hl c (List.mem_cons_self ..)
  rcases Nat.lt_or_ge j c.length with q|q
  ·rw[List.getElem?_append_left q]at h
   exact⟨0,j,c,by omega,rfl,h⟩
  ·rw[List.getElem?_append_right q]at h
   obtain⟨i,k,cs,h1,h2,h3⟩:=vN (fun x hx=>hl x (List.mem_cons_of_mem _ hx)) h
   exact⟨i+1,k,cs,by rw[Nat.add_mul];omega,h2,h3⟩
theorem K8{e:Nat}{t:Ty}{n:Nat}(ih:∀cs (x:DataW H×List MemPlace),DataW.trod enc P w 0 sp held n e cs=some x→KA w t cs) (hsz:P.cellsOf e=t.sz){a:Addr}{len cap:Nat}(hl:len≤cap) (hc:cap≤maxLen)
  {el:Nat→Option (DataW H×List MemPlace)}(hel:∀i,i<len→(w.cells? 0 (a.add (i*P.cellsOf e)) (P.cellsOf e)).bind (DataW.trod enc P w 0 sp held n e)=el i) (hs:∀i,i<len→(el i).isSome=true):KA w (.sl t) [.slice (some a) len cap]:=by
 have each:∀i,i<len→∃(d:t.den) (cs:List Value),(dJ (fun b=>b<w.heap.size) w t d cs∧BB t d)∧(∀k u,cs[k]?=some u→w.cell? ((a.add (i*t.sz)).add k)=some u)∧cs.length=t.sz:=by
  intro i hi
  have h1:=hel i hi
  have h2:=hs i hi
  cases he:el i with
  |none=>rw[he]at h2;cases h2
  |some y =>
   rw[he,Option.bind_eq_some_iff]at h1
   obtain⟨cs,h3,h4⟩:=h1
   obtain⟨d,h5⟩:=ih cs y h4
   rw[hsz]at h3
   obtain⟨h6,h7⟩:=Ih h3
   exact⟨d,cs,h5,h7,h6⟩
 obtain⟨xs,css,g1,g2,g3⟩:=vR each
 have add2:∀(i k:Nat),(a.add i).add k=a.add (i+k):=by
  intro i k
  unfold Addr.add
  by_cases hi:i=0
  ·subst hi;simp
  ·by_cases hk:k=0
   ·subst hk;simp[hi]
   ·have:i+k≠0:=by omega
    simp[hi,hk,this,Nat.add_assoc]
 have hcl:∀cs∈css,cs.length=t.sz:=by
  intro cs hcs
  obtain⟨i,hi⟩:=List.getElem?_of_mem hcs
  have hlt:i<xs.length:=by have:=(List.getElem?_eq_some_iff.1 hi).1;omega
  exact(g3 i _ cs (List.getElem?_eq_getElem hlt) hi).2.2
 refine⟨xs,⟨some a,cap,css,by rw[g1],by rw[g1];exact hl,vV (by omega) (fun i x cs hx hcs=>(g3 i x cs hx hcs).1.1),?_⟩,by rw[g1];omega,fun x hx=>?_⟩
 ·cases hxs:xs with
  |nil=>exact .inl rfl
  |cons x0 r =>
   refine .inr ?_
   have h0:0<len:=by rw[←g1,hxs];simp
   have hcss:0<css.length:=by omega
   have e0:=g3 0 xs[0] css[0] (List.getElem?_eq_getElem (by omega)) (List.getElem?_eq_getElem hcss)
   have hp:=t.sz_pos
   have hk0:0<css[0].length:=by rw[e0.2.2];exact hp
   have c0:=e0.2.1 0 css[0][0] (List.getElem?_eq_getElem hk0)
   rw[add2,show 0*t.sz+0=0 by omega]at c0
   obtain⟨hsp,s3⟩:=Ii (show w.cell? a=_ from c0)
   refine⟨a.block,a.off,by rw[←hsp],s3,fun j u hu=>?_⟩
   obtain⟨i,k,cs,q1,q2,q3⟩:=vN hcl hu
   have hlt:i<xs.length:=by have:=(List.getElem?_eq_some_iff.1 q2).1;omega
   have c1:=(g3 i _ cs (List.getElem?_eq_getElem hlt) q2).2.1 k u q3
   rw[add2,hsp,Iq]at c1
   rw[q1]
   exact c1
 ·obtain⟨i,hi⟩:=List.getElem?_of_mem hx
  have hlt:i<css.length:=by have:i<xs.length:=(List.getElem?_eq_some_iff.1 hi).1;omega
  exact(g3 i x _ hi (List.getElem?_eq_getElem hlt)).1.2
theorem E1{n:Nat}{r:TypeId→Option Ty}(ih:∀T t,r T=some t→∀cs (x:DataW H×List MemPlace),DataW.trod enc P w 0 sp held n T cs=some x→KA w t cs){cs:List Value}:∀(fs:List Field) (off:Nat) (t:Ty),IT P.cellsOf r off fs=some t →
  (∀f∈fs, ∃x,DataW.trod enc P w 0 sp held n f.type ((cs.drop f.offset).take (P.cellsOf f.type))=some x)→(cs.drop off).length=t.sz→KA w t (cs.drop off)
 |[],_,_,h,_,_=>by cases h
 |[f],off,t,h,hf,hl=>by
  simp only[IT]at h
  split at h
  ·rename_i u hu
   cases q:(Nat.beq f.offset off&&Nat.beq (P.cellsOf f.type) u.sz)with
   |false=>rw[q]at h;cases h
   |true =>
    rw[q]at h
    obtain rfl:=Option.some.inj h
    rw[Bool.and_eq_true]at q
    obtain⟨x,hx⟩:=hf f (List.mem_cons_self ..)
    rw[Nat.eq_of_beq_eq_true q.1,Nat.eq_of_beq_eq_true q.2,List.take_of_length_le (by omega)]at hx
    exact ih _ _ hu _ x hx
  ·cases h
 |f::g::l,off,t,h,hf,hl=>by
  simp only[IT]at h
  split at h
  ·rename_i u hu
   cases q:(Nat.beq f.offset off&&Nat.beq (P.cellsOf f.type) u.sz)with
   |false=>rw[q]at h;cases h
   |true =>
    rw[q]at h
    simp only[cond_true]at h
    rw[Bool.and_eq_true]at q
    split at h
    ·rename_i v hv
     obtain rfl:=Option.some.inj h
     obtain⟨x,hx⟩:=hf f (List.mem_cons_self ..)
     rw[Nat.eq_of_beq_eq_true q.1,Nat.eq_of_beq_eq_true q.2]at hx
     obtain⟨d1,r1,f1⟩:=ih _ _ hu _ x hx
     have hl2:(cs.drop (off+u.sz)).length=v.sz:=by
      rw[←List.drop_drop,List.length_drop,hl]
      show u.sz+v.sz-u.sz=_
      omega
     obtain⟨d2,r2,f2⟩:=E1 ih (g::l) (off+u.sz) v hv (fun y hy=>hf y (List.mem_cons_of_mem _ hy)) hl2
     refine⟨(d1,d2),⟨_,_,?_,r1,r2⟩,f1,f2⟩
     rw[←List.drop_drop,List.take_append_drop]
    ·cases h
  ·cases h
theorem oq:∀(n:Nat) (T:TypeId) (t:Ty),BQ P n T=some t→∀(fuel:Nat) (cs:List Value) (x:DataW H×List MemPlace),DataW.trod enc P w 0 sp held fuel T cs=some x→KA w t cs
 |0,_,_,h,_,_,_,_=>by cases h
 |n+1,T,t,h,fuel,cs,x,hx=>by
  unfold BQ at h
  split at h
  ·rename_i k hu
   obtain rfl:=Option.some.inj h
   obtain⟨m,rfl,_,hw⟩:=DataW.trod_int hu hx
   exact⟨m,rfl,hw⟩
  ·rename_i hu
   obtain rfl:=Option.some.inj h
   obtain⟨m,rfl,_⟩:=DataW.trod_bool hu hx
   exact⟨m,rfl,trivial⟩
  ·rename_i hu
   obtain rfl:=Option.some.inj h
   obtain⟨s,rfl,_,hs⟩:=DataW.trod_string hu hx
   exact⟨s,rfl,hs⟩
  ·rename_i e hu
   split at h
   ·rename_i u he
    cases q:Nat.beq (P.cellsOf e) u.sz with
    |false=>rw[q]at h;cases h
    |true =>
     rw[q]at h
     obtain rfl:=Option.some.inj h
     rcases DataW.trod_slice hu hx with⟨rfl,_⟩|⟨a,len,cap,elems,rest,m,rfl,rfl,rfl,_,hl,hm,hlen,hel,_,_⟩
     ·exact⟨[],⟨none,0,[],rfl,Nat.le_refl _,trivial, .inl rfl⟩,Nat.zero_le _,fun x hx=>by cases hx⟩
     ·exact K8 (fun cs y hy=>oq n e u he m cs y hy) (Nat.eq_of_beq_eq_true q) hl hm hel (fun i hi=>by rw[List.getElem?_eq_getElem (by omega)];rfl)
   ·cases h
  ·rename_i fs hu
   split at h
   ·rename_i u hf
    cases q:Nat.beq (P.cellsOf T) u.sz with
    |false=>rw[q]at h;cases h
    |true =>
     rw[q]at h
     obtain rfl:=Option.some.inj h
     obtain⟨xs,m,rfl,rfl,hcl,hxl,hel⟩:=DataW.trod_struct hu hx
     have:=E1 (P:=P) (fun T t ht cs y hy=>oq n T t ht m cs y hy) (cs:=cs) fs.toList 0 u hf (fun f hfm=>by
      obtain⟨i,hi⟩:=List.getElem?_of_mem hfm
      have hi':fs[i]?=some f:=by simpa using hi
      have hlt:i<xs.length:=by rw[hxl];exact(Array.getElem?_eq_some_iff.1 hi').1
      refine⟨xs[i],?_⟩
      rw[hel i f hi',List.getElem?_eq_getElem hlt]) (by rw[List.drop_zero,hcl];exact Nat.eq_of_beq_eq_true q)
     simpa using this
   ·cases h
  ·cases h
end
def flat:Ty→List Ty
 | .pr a b=>flat a++flat b
 | .int k=>[.int k]
 | .bool=>[.bool]
 | .str=>[.str]
 | .sl t=>[.sl t]
def Dn:(t:Ty)→t.den→List DV
 | .pr a b,x=>Dn a x.1++Dn b x.2
 | .int k,x=>[⟨.int k,x⟩]
 | .bool,x=>[⟨.bool,x⟩]
 | .str,x=>[⟨.str,x⟩]
 | .sl t,x=>[⟨.sl t,x⟩]
def DV.cv (d:DV):CV := .v d.t d.x
theorem FG:∀(t:Ty) (x:t.den),(Dn t x).map DV.t=flat t
 | .pr a b,x=>by simp only[Dn,flat,List.map_append,FG a,FG b]
 | .int k,x=>rfl
 | .bool,x=>rfl
 | .str,x=>rfl
 | .sl t,x=>rfl
theorem vh:∀(t:Ty) (x:t.den),(Dn t x).map DV.cv=split t x
 | .pr a b,x=>by simp only[Dn,split,List.map_append,vh a,vh b]
 | .int k,x=>rfl
 | .bool,x=>rfl
 | .str,x=>rfl
 | .sl t,x=>rfl
theorem xP:∀(t:Ty) (x:t.den),BB t x→∀d∈Dn t x,BB d.t d.x
 | .pr a b,x,h,d,hd=>by
  rcases List.mem_append.1 hd with q|q
  ·exact xP a _ h.1 d q
  ·exact xP b _ h.2 d q
 | .int k,x,h,d,hd=>by obtain rfl:=List.mem_singleton.1 hd;exact h
 | .bool,x,h,d,hd=>by obtain rfl:=List.mem_singleton.1 hd;exact h
 | .str,x,h,d,hd=>by obtain rfl:=List.mem_singleton.1 hd;exact h
 | .sl t,x,h,d,hd=>by obtain rfl:=List.mem_singleton.1 hd;exact h
theorem Gs{t u:Ty}{r:List Ty}{d:DV}{ds:List DV}{x:t.den}{y:TD (u::r)}(h1:d.as t=some x) (h2:qU (u::r) ds=some y):qU (t::u::r) (d::ds)=some (x,y):=by
 unfold qU
 rw[h1,h2]
theorem yX:∀ds:List DV, ∃x,qU (ds.map DV.t) ds=some x
 |[]=>⟨(),rfl⟩
 |[d]=>⟨d.x,kL d.x⟩
 |d::e::r=>by
  obtain⟨x,hx⟩:=yX (e::r)
  exact⟨(d.x,x),Gs (kL d.x) hx⟩
structure jf where
 t:Ty
 agg:Bool
 x:t.den
 u:Value
def jf.par (a:jf):Di:=bif a.agg then .g ((flat a.t).map .i)else .c (.i a.t)
def jf.dv (a:jf):List DV:=bif a.agg then Dn a.t a.x else [⟨a.t,a.x⟩]
def jf.av (a:jf):AV:=bif a.agg then .g (split a.t a.x)else .c (.v a.t a.x)
def jf.ok (w:World) (a:jf):Prop:=BB a.t a.x∧(a.agg=true→∃vs,a.u = .agg vs.toArray∧dJ (fun b=>b<w.heap.size) w a.t a.x vs)∧(a.agg=false→dJ (fun b=>b<w.heap.size) w a.t a.x [a.u])
theorem zj (nm:Nat→PS→Nm):∀(ts:List Ty) (k:Nat) (ds:List DV),ds.length=ts.length→f9 nm k (ts.map .i) ds=ds.map DV.cv∧uu nm k (ts.map .i) ds=[]
 |[],_,[],_=>⟨rfl,rfl⟩
 |[],_,_::_,h=>by cases h
 |_::_,_,[],h=>by cases h
 |t::ts,k,d::ds,h=>by
  obtain⟨h1,h2⟩:=zj nm ts (k+1) ds (by simpa using h)
  constructor
  ·show pP _ (.i t) d::f9 nm (k+1) (ts.map .i) ds=_
   rw[h1];rfl
  ·show zi _ (.i t) d++uu nm (k+1) (ts.map .i) ds=_
   rw[h2];rfl
def x7:Nat→List jf→List (Nat×AV)
 |_,[]=>[]
 |k,a::r=>(k,a.av)::x7 (k+1) r
theorem Fk:∀(l:List jf) (k:Nat),cN (au k (l.map jf.par)) (l.flatMap jf.dv)=x7 k l∧eX (au k (l.map jf.par)) (l.flatMap jf.dv)=[]∧be (au k (l.map jf.par))=(l.flatMap jf.dv).map DV.t
 |[],_=>⟨rfl,rfl,rfl⟩
 |a::r,k=>by
  obtain⟨h1,h2,h3⟩:=Fk r (k+1)
  obtain⟨t,agg,x,u⟩:=a
  cases agg with
  |true =>
   have hl:(Dn t x).length=(flat t).length:=by rw[←FG t x,List.length_map]
   have hl2:(Dn t x).length=((flat t).map PS.i).length:=by rw[List.length_map];exact hl
   obtain⟨c1,c2⟩:=zj (rP k) (flat t) 0 (Dn t x) hl
   refine⟨?_,?_,?_⟩
   ·show(k,AV.g (f9 (rP k) 0 ((flat t).map PS.i) ((Dn t x++r.flatMap jf.dv).take ((flat t).map PS.i).length)))::cN (au (k+1) (r.map jf.par)) ((Dn t x++r.flatMap jf.dv).drop ((flat t).map PS.i).length)=_
    rw[←hl2,List.take_left,List.drop_left,h1,c1,vh];rfl
   ·show uu (rP k) 0 ((flat t).map PS.i) ((Dn t x++r.flatMap jf.dv).take ((flat t).map PS.i).length)++eX (au (k+1) (r.map jf.par)) ((Dn t x++r.flatMap jf.dv).drop ((flat t).map PS.i).length)=_
    rw[←hl2,List.take_left,List.drop_left,h2,c2];rfl
   ·show((flat t).map PS.i).map PS.ty++be (au (k+1) (r.map jf.par))=(Dn t x++r.flatMap jf.dv).map DV.t
    rw[h3,List.map_append,FG,List.map_map]
    congr 1
    exact(List.map_congr_left fun _ _=>rfl).trans (List.map_id _)
  |false =>
   refine⟨?_,?_,?_⟩
   ·show(k,AV.c (.v t x))::cN (au (k+1) (r.map jf.par)) (r.flatMap jf.dv)=_
    rw[h1];rfl
   ·show []++eX (au (k+1) (r.map jf.par)) (r.flatMap jf.dv)=_
    rw[h2];rfl
   ·show t::be (au (k+1) (r.map jf.par))=t::(r.flatMap jf.dv).map DV.t
    rw[h3]
theorem zr{L:Nm→Value}{I:Nat→Prop}{w:World}{A:Nm→Option (Nat×Nat)}:∀(l:List jf) (k i:Nat),(∀a∈l,RA L I w A a.av a.u)→RA L I w A (d6 (x7 k l) (k+i)) ((l.map jf.u).getD i undef)
 |[],_,_,_=>trivial
 |a::r,k,0,h=>by
  show RA L I w A (bif Nat.beq k k then a.av else _) _
  rw[Nat.beq_refl];exact h a (List.mem_cons_self ..)
 |a::r,k,i+1,h=>by
  show RA L I w A (bif Nat.beq k (k+(i+1))then a.av else d6 (x7 (k+1) r) (k+(i+1))) _
  rw[dH (by omega:k≠k+(i+1)),show k+(i+1)=(k+1)+i by omega]
  exact zr r (k+1) i (fun b hb=>h b (List.mem_cons_of_mem _ hb))
theorem Fp:∀(l:List jf) (k i:Nat),k+l.length≤i→d6 (x7 k l) i = .c .dead
 |[],_,_,_=>rfl
 |a::r,k,i,h=>by
  show(bif Nat.beq k i then a.av else d6 (x7 (k+1) r) i)=_
  have h:k+(r.length+1)≤i:=h
  rw[dH (by omega:k≠i)]
  exact Fp r (k+1) i (by omega)
theorem vJ:∀(l:List jf) (k:Nat),fX k (l.map jf.par)=[]
 |[],_=>rfl
 |a::r,k=>by
  obtain⟨t,agg,x,u⟩:=a
  have:=vJ r (k+1)
  cases agg<;>exact this
def KC (ts:List Ty) (x:TD ts):Prop:=∀d∈ai ts x,BB d.t d.x
theorem qP{n:Nat}{xs:Array Value}(h:xs.size≤n):first n xs=xs:=by
 unfold first
 rw[List.take_of_length_le (by simpa using h)]
theorem GT{P:Program}{K:fA}{f:FuncId}{pars:List Di}{g:Nat→TD (be (au 0 pars))→Option (TD (be (du pars [(false,[.i .bool])] [])))}
  (obs:∀n,pi P K f { pars:=pars,res:=[(false,[.i .bool])],g:=g n }) (pure:∀x,KC _ x→∃n r,g n x=some r∧ai _ r=[⟨.bool,true⟩])
  {W:World}(hK:K.ok W) (hKb:∀b,K.blk b→b<W.heap.size){l:List jf}(hl:l.map jf.par=pars) (hok:∀a∈l,a.ok W) :
  Calls P f (l.map jf.u).toArray W fun e w'=>e = .returned (.bool true)∧RowKit.Below W.heap.size W w':=by
 subst hl
 obtain⟨m1,m2,m3⟩:=Fk l 0
 obtain⟨x,hx⟩:∃x,qU (be (au 0 (l.map jf.par))) (l.flatMap jf.dv)=some x:=by
  rw[m3];exact yX _
 have hux:=mJ hx
 obtain⟨n,r,hr,hur⟩:=pure x (fun d hd=>by
  rw[hux]at hd
  obtain⟨a,ha,hd⟩:=List.mem_flatMap.1 hd
  have hf:=(hok a ha).1
  obtain⟨t,agg,y,u⟩:=a
  cases agg with
  |true=>exact xP t y hf d hd
  |false=>obtain rfl:=List.mem_singleton.1 hd;exact hf)
 let Y:qT:={ K:=K,N:=l.length,w0:=W,E:=fun _ _=>False,I0:=fun b=>b<W.heap.size }
 have hst:d5 (au 0 (l.map jf.par)) x=⟨d6 (x7 0 l),fun _=>none⟩:=by
  unfold d5 GI
  rw[hux,m1,m2]
  rfl
 have hrel:bD Y (fun _=>undef) (fun b=>b<W.heap.size) (d5 (au 0 (l.map jf.par)) x) ⟨(l.map jf.u).toArray,[]⟩ W:=by
  rw[hst]
  refine⟨rfl,by simp[Y],fun i hi=>?_,fun i hi=>Fp l 0 i (by show 0+l.length≤i;have:l.length≤i:=hi;omega),fun _ _ h=>(by cases h),fun _ _ _ _ h=>(by cases h),fun _ _ h=>(by cases h),fun b hb=>⟨hb, .inl hb⟩,fun b hb=>hb,cb.refl _ _,hK,hKb⟩
  have:=zr (L:=fun _=>undef) (I:=fun b=>b<W.heap.size) (w:=W) (A:=AL (fun _=>none)) l 0 i (fun a ha=>by
   obtain⟨_,h2,h3⟩:=hok a ha
   obtain⟨t,agg,y,u⟩:=a
   cases agg with
   |true=>obtain⟨vs,h4,h5⟩:=h2 rfl;exact⟨vs,h4,fD t h5⟩
   |false=>exact h3 rfl)
  rw[Nat.zero_add]at this
  simpa using this
 have hc:=obs n Y _ _ ⟨(l.map jf.u).toArray,[]⟩ W x r hr hrel rfl (by simp[Y]) rfl
 rw[show first (aa.real { pars:=l.map jf.par,res:=[(false,[.i .bool])],g:=g n }) (⟨(l.map jf.u).toArray,[]⟩:Act).tmps=(l.map jf.u).toArray from qP (by unfold aa.real;simp)]at hc
 refine hc.mono fun e w' h=>?_
 obtain⟨v,L',I',a',rfl,hR,_,rfl⟩:=h
 have hs:=hR.slot (l.map jf.par).length
 have hlk:(d5 (aa.ens { pars:=l.map jf.par,res:=[(false,[.i .bool])],g:=g n }) r).t (l.map jf.par).length = .c (.v .bool true):=by
  unfold d5 GI
  rw[show ai (be (aa.ens { pars:=l.map jf.par,res:=[(false,[.i .bool])],g:=g n })) r=[⟨.bool,true⟩]from hur]
  show d6 (cN (fX 0 (l.map jf.par)++_) _) _=_
  rw[vJ]
  show(bif Nat.beq (l.map jf.par).length (l.map jf.par).length then _ else _)=_
  rw[Nat.beq_refl];rfl
 rw[hlk]at hs
 have hs:a'.tmps.getD (l.map jf.par).length undef = .bool true:=List.head_eq_of_cons_eq hs
 exact⟨congrArg Ending.returned hs,cb.below hR.step⟩
end AM
end Go.Proofs.YtobpcllkonomlabGreatDoor
