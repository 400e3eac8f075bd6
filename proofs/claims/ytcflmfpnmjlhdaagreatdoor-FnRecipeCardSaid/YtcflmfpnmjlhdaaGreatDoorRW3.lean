/- Regions of which the orders are too many to list: what only makes (a value, a box, what a call hands back) may stand on either side of its like, a store into a box that one slot alone leads to may be overtaken. No condition. And what follows it: see the remarks. -/
import Derived.Test.YtcflmfpnmjlhdaaGreatDoorRW2
import Derived.ChangeArms
import Derived.Carry
import Derived.ChangeShapes
namespace Go.Proofs.YtcflmfpnmjlhdaaGreatDoor
namespace AM
open Go
set_option linter.unusedVariables false
set_option linter.unusedSimpArgs false
def stg (E:aW) (l:List Oper) (o:Oper) (s:St):Option St:=cg E l [o] s some
def uo (E:aW) (l:List Oper):List Oper→St→Option St
 |[],s=>some s
 |o::r,s=>(stg E l o s).bind (uo E l r)
theorem oO{R:Type}{E:aW}{all:List Oper}:∀{l:List Oper}{s:St}(k:St→Option R),cg E all l s k=(uo E all l s).bind k
 |[],s,k=>rfl
 |o::r,s,k=>by
  show _=((stg E all o s).bind (uo E all r)).bind k
  rw[nZ]
  unfold stg
  cases cg E all [o] s some with
  |none=>rfl
  |some s1=>exact oO k
def Ar (l:List Oper) (o:Oper):Option (Option Nat×Bool):=match o.guard with
 |none=>none
 |some (j,w)=>some ((l[j]?).bind (·.dst),w)
def gd (l:List Oper) (o:Oper) (s:St):Option Bool:=match Ar l o with
 |none=>some true
 |some (none,_)=>none
 |some (some t,w)=>match lp (s.t t)with
  |some b=>some (b==w)
  |none=>bif jw (s.t t)then some false else none
theorem Ee{s:St}{t:Nat}{b:Bool}(h:lp (s.t t)=some b):s.know (.tmp t) b=s:=by
 have e:s.t t = .c (.v .bool b):=by
  cases q:s.t t with
  |c x =>
   rw[q]at h
   cases x with
   |v ty y =>
    cases ty with
    |bool=>simp_all [lp,St.know]
    |_=>cases h
   |_=>cases h
  |_=>rw[q]at h;cases h
 show St.mk _ _=s
 cases s with
 |mk ts os =>
  congr 1
  funext i
  show(bif Nat.beq i t then _ else ts i)=ts i
  cases q:Nat.beq i t with
  |false=>rfl
  |true=>simp_all
theorem xU{E:aW}{l:List Oper}{o:Oper}{s:St}:stg E l o s=match gd l o s with
  |some true=>mT E o s some
  |some false=>bif dn E.N o.dst then some (s.put o.dst lT)else none
  |none=>none:=by
 unfold stg gd Ar
 simp only[cg]
 cases hg:o.guard with
 |none=>rfl
 |some gw =>
  obtain⟨j,w⟩:=gw
  dsimp only
  cases ht:(l[j]?).bind (·.dst)with
  |none=>rfl
  |some t =>
   dsimp only
   cases hb:lp (s.t t)with
   |none=>cases q:jw (s.t t)<;>cases q2:dn E.N o.dst<;>rfl
   |some b =>
    have hk:=Ee hb
    dsimp only
    cases b<;>cases w<;>(dsimp only;rw[hk];rfl)
def Ja:Operand→List Nat
 | .tmp t=>[t]
 |_=>[]
def Pz (l:List Oper) (o:Oper):List Nat:=match Ar l o with
 |some (some t,_)=>[t]
 |_=>[]
def gF (l:List Oper) (o:Oper):List Nat:=o.op.operands.toList.flatMap Ja++Pz l o
theorem CZ{l:List Oper}{o:Oper}{s s':St}(h:∀t∈gF l o,s'.t t=s.t t):gd l o s'=gd l o s:=by
 have h:∀t∈Pz l o,s'.t t=s.t t:=fun t ht=>h t (List.mem_append_right _ ht)
 unfold gd
 unfold Pz at h
 cases hg:Ar l o with
 |none=>rfl
 |some p =>
  obtain⟨a,w⟩:=p
  cases a with
  |none=>rfl
  |some t =>
   simp_all
theorem ne{l:List Oper}{o:Oper}{s s':St}(h:∀t∈gF l o,s'.t t=s.t t):∀x∈o.op.operands,s.ev x=s'.ev x:=fun x hx=>by
 cases x with
 |tmp t=>exact(h t (List.mem_append_left _ (List.mem_flatMap.2 ⟨_,Array.mem_toList_iff.2 hx,List.mem_singleton.2 rfl⟩))).symm
 |_=>rfl
theorem rL{l:List Oper}{o:Oper}{s:St}{x:Operand}{n:Nm}(hx:x∈o.op.operands) (hm:aJ (s.ev x) n):∃t∈gF l o,aJ (s.t t) n:=by
 cases x with
 |tmp t=>exact⟨t,List.mem_append_left _ (List.mem_flatMap.2 ⟨_,Array.mem_toList_iff.2 hx,List.mem_singleton.2 rfl⟩),hm⟩
 |const v=>exact absurd hm (mU v n)
 |global g=>trivial
 |func f=>trivial
def cC:Ob→Nm→Prop
 | .box cs,n=>bM cs n
 |_,_=>False
def bW (d:Nat):Nm→Bool
 |[]=>false
 |x::_=>Nat.beq x d
theorem sm{d e:Nat}(h:d≠e){n:Nm}(hd:bW d n=true):bW e n=false:=by
 cases n with
 |nil=>cases hd
 |cons x r =>
  simp_all [dz,bW]
def gX (τ:jx) (o:Oper):Bool:=match o.op with
 | .move _=>true
 | .assign _=>true
 | .load _ _=>true
 | .fieldAddr _ _ _=>true
 | .field _ _ _=>true
 | .nilCheck _=>true
 | .extract _ _=>true
 | .binOp _ _ _ _ _=>true
 | .unOp _ _ _=>true
 | .pick _ _ _=>true
 | .convert q d _ => !Nat.beq q d
 | .call { callee := .builtin .len, .. }=>true
 | .indexAddr _ _ _=>true
 | .build _ _=>true
 | .slice t _ _ _ none=>(match τ.get t with
  |some ti=>Nat.beq ti.kind 5
  |none=>false)
 |_=>false
def Ap (n:Nm) (off sz:Nat) (j:Int):Nat→Nat→Option AV
 |_,0=>none
 |c,m+1=>bif decide (j=(c:Int))then some (.c (.pb n (off+c*sz)))else Ap n off sz j (c+1) m
def wl (τ:jx) (op:Op) (e:Operand→AV):Option AV:=match op with
 | .indexAddr t x i=>match τ.get t,e x,e i with
  |some ti, .c (.pb n off), .c (.v (.int _) j)=>bif Nat.beq ti.kind 4 then(match τ.get ti.el with
   |some te=>bif Nat.blt 0 te.size then Ap n off te.size j 0 (ti.size / te.size)else none
   |none=>none)else none
  |_,_,_=>none
 |_=>none
def qw (τ:jx) (op:Op) (e:Operand→AV) (o:Nm→Option Ob):Option (Bool×AV):=match eZ τ op e o with
 |some r=>some r
 |none=>match wl τ op e with
  |some v=>some (true,v)
  |none=>none
theorem F9{R:Type}{s:St}{d:Nat}{n:Nm}{off sz:Nat}{j:Int}{k:St→Option R}:∀(m c:Nat),p7 s d n off sz j k c m=(Ap n off sz j c m).bind fun v=>k (s.put (some d) v)
 |0,c=>rfl
 |m+1,c=>by
  show(bif decide (j=(c:Int))then _ else p7 s d n off sz j k (c+1) m)=(bif decide (j=(c:Int))then _ else Ap n off sz j (c+1) m).bind _
  rw[F9 m (c+1)]
  cases decide (j=(c:Int))<;>rfl
theorem Kk{R:Type} {τ:jx}{op:Op}{d:Nat}{s:St}{k:St→Option R}:rB τ op d s k=(wl τ op s.ev).bind fun v=>k (s.put (some d) v):=by
 cases op with
 |indexAddr t x i =>
  grind [p7,Ap,split,F9,rB,wl,St.ev,St.put]
 |_=>rfl
theorem xj{n:Nm}{off sz:Nat}{j:Int}{v:AV}:∀{m c:Nat},Ap n off sz j c m=some v→∃k,v = .c (.pb n k)
 |0,c,h=>by cases h
 |m+1,c,h=>by
  have h:(bif decide (j=(c:Int))then some (AV.c (.pb n (off+c*sz)))else Ap n off sz j (c+1) m)=some v:=h
  cases q:decide (j=(c:Int))with
  |true=>grind
  |false=>rw[q]at h;exact xj h
theorem ED {τ:jx}{op:Op}{e:Operand→AV}{v:AV}(h:wl τ op e=some v){n:Nm}(hm:aJ v n):∃x∈op.operands,aJ (e x) n:=by
 cases op with
 |indexAddr t x i =>
  unfold wl at h
  dsimp only at h
  split at h
  ·rename_i ti m off ik j e1 e2 e3
   refine⟨x,by simp[Op.operands],?_⟩
   rw[e2]
   generalize Nat.beq ti.kind 4=q at h
   cases q with
   |false=>cases h
   |true =>
    dsimp only[cond_true]at h
    split at h
    ·rename_i te e4
     generalize Nat.blt 0 te.size=q2 at h
     cases q2 with
     |false=>cases h
     |true =>
      obtain⟨k,rfl⟩:=xj (show Ap m off te.size j 0 (ti.size / te.size)=some v from h)
      exact hm
    ·cases h
  ·cases h
 |_=>cases h
theorem B5 {τ:jx}{op:Op}{e e':Operand→AV}(h:∀x∈op.operands,e x=e' x):wl τ op e=wl τ op e':=by
 cases op with
 |indexAddr t x i =>
  simp_all [wl,Op.operands]
 |_=>rfl
theorem A7 {τ:jx}{op:Op}{e e':Operand→AV}{o:Nm→Option Ob}(h:∀x∈op.operands,e x=e' x):qw τ op e o=qw τ op e' o:=by
 unfold qw
 rw[rI h,B5 h]
section
variable{E:aW}{l:List Oper}{o:Oper}{s s1:St}
theorem EQ (h:gX E.τ o=true){d:Nat}(hd:o.dst=some d):mT (R:=St) E o s some=match qw E.τ o.op s.ev s.o with
  |some (c,v)=>bif Nat.blt d E.N then(match c with|true=>some (s.put (some d) v)|false=>none)else none
  |none=>none:=by
 have hc:∀(op:Op),o.op=op→(∀e nm,pC E.τ op e nm=none)→(∀d s,lE E.τ op d s=none) →
   (match eZ E.τ op s.ev s.o with
    |some (c,v)=>bif dn E.N o.dst then(match c with|true=>some (s.put o.dst v)|false=>none)else none
    |none=>match o.dst with
     |some d=>bif Nat.blt d E.N then(match pC E.τ op (s.drop [d,0]).ev [d,0]with
      |some (c,ob,v)=>(match c with|true=>some (((s.drop [d,0]).setO [d,0] ob).put (some d) v)|false=>none)
      |none=>match lE E.τ op (some d) s with
       |some (c,s')=>(match c with|true=>some s'|false=>none)
       |none=>rB (R:=St) E.τ op d s some)else none
     |none=>match lE E.τ op none s with
      |some (c,s')=>(match c with|true=>some s'|false=>none)
      |none=>none)=(match qw E.τ op s.ev s.o with
    |some (c,v)=>bif Nat.blt d E.N then(match c with|true=>some (s.put (some d) v)|false=>none)else none
    |none=>none):=by
  intro op _ hm hw
  rw[hd]
  unfold qw
  cases eZ E.τ op s.ev s.o with
  |some p=>rfl
  |none =>
   dsimp only
   rw[hm,hw]
   dsimp only
   rw[Kk]
   cases wl E.τ op s.ev<;>cases Nat.blt d E.N<;>rfl
 unfold gX at h
 unfold mT
 cases hop:o.op with
 |indexAddr t x i=>exact hc _ hop (fun _ _=>rfl) fun _ _=>rfl
 |slice t x lo hi mx =>
  rw[hop]at h
  cases mx with
  |some y=>cases h
  |none =>
   refine hc _ hop (fun _ _=>rfl) fun d' s'=>?_
   dsimp only at h
   unfold lE
   dsimp only
   cases hti:E.τ.get t with
   |none=>rfl
   |some ti =>
    rw[hti]at h
    have h5:ti.kind=5:=Nat.eq_of_beq_eq_true h
    have h3:Nat.beq ti.kind 3=false:=by rw[h5];rfl
    split
    ·rename_i ti' n e1 e2
     obtain rfl:=Option.some.inj e1
     rw[h3];rfl
    ·rfl
 |move x=>exact hc _ hop (fun _ _=>rfl) fun _ _=>rfl
 |assign x=>exact hc _ hop (fun _ _=>rfl) fun _ _=>rfl
 |load t x=>exact hc _ hop (fun _ _=>rfl) fun _ _=>rfl
 |build t ps=>exact hc _ hop (fun _ _=>rfl) fun _ _=>rfl
 |fieldAddr t x f=>exact hc _ hop (fun _ _=>rfl) fun _ _=>rfl
 |field t x f=>exact hc _ hop (fun _ _=>rfl) fun _ _=>rfl
 |nilCheck x=>exact hc _ hop (fun _ _=>rfl) fun _ _=>rfl
 |extract x i=>exact hc _ hop (fun _ _=>rfl) fun _ _=>rfl
 |binOp a b c d e=>exact hc _ hop (fun _ _=>rfl) fun _ _=>rfl
 |unOp a b c=>exact hc _ hop (fun _ _=>rfl) fun _ _=>rfl
 |pick a b c=>exact hc _ hop (fun _ _=>rfl) fun _ _=>rfl
 |convert a b c =>
  rw[hop]at h
  have h3:Nat.beq a b=false:=by simp_all
  refine hc _ hop (fun _ _=>rfl) fun d' s'=>?_
  unfold lE
  dsimp only
  split
  ·rw[h3];rfl
  ·rfl
 |call c =>
  obtain⟨cl,xs,ts⟩:=c
  rw[hop]at h
  cases cl with
  |builtin b=>cases b<;>first|exact hc _ hop (fun _ _=>rfl) (fun _ _=>rfl)|cases h
  |_=>cases h
 |_=>rw[hop]at h;cases h
theorem Gt {τ:jx}{op:BinOp}{xt:Nat}{x y:AV}{c:Bool}{v:AV}(h:bin τ op xt x y=some (c,v)) (n:Nm):¬aJ v n:=by
 have one:∀{k:IntKind}{a b:Int}{op:BinOp}{r:Bool×CV},Ga op k a b=some r→¬dc r.2 n:=by
  intro k a b op r hr
  unfold Ga at hr
  cases op<;>first|(cases hr;done)|(obtain rfl:=Option.some.inj hr;exact fun q=>q)
 have two:∀{a b:ByteArray}{op:BinOp}{r:Bool×CV},Fd op a b=some r→¬dc r.2 n:=by
  intro a b op r hr
  unfold Fd at hr
  cases op<;>first|(cases hr;done)|(obtain rfl:=Option.some.inj hr;exact fun q=>q)
 have three:∀{a b:Bool}{op:BinOp}{r:Bool×CV},Gu op a b=some r→¬dc r.2 n:=by
  intro a b op r hr
  unfold Gu at hr
  cases op<;>first|(cases hr;done)|(obtain rfl:=Option.some.inj hr;exact fun q=>q)
 unfold bin at h
 split at h
 ·split at h
  ·obtain⟨rfl,rfl⟩:=Prod.mk.inj (Option.some.inj h);exact fun q=>q
  ·obtain⟨rfl,rfl⟩:=Prod.mk.inj (Option.some.inj h);exact fun q=>q
  ·grind [bin,aJ]
 ·grind [bin,aJ]
 ·grind [bin,aJ]
 ·split at h
  ·split at h
   ·split at h
    ·obtain⟨rfl,rfl⟩:=Prod.mk.inj (Option.some.inj h);exact fun q=>q
    ·obtain⟨rfl,rfl⟩:=Prod.mk.inj (Option.some.inj h);exact fun q=>q
    ·cases h
   ·cases h
  ·cases h
 ·cases h
theorem oM{cs:List CV}{off k:Nat}{agg:Bool}{v:AV}(h:part cs off k agg=some v){n:Nm}(hm:aJ v n):bM cs n:=by
 unfold part at h
 cases q:Nat.ble (off+k) cs.length with
 |false=>simp_all
 |true =>
  rw[q]at h
  have h:oQ agg ((cs.drop off).take k)=some v:=h
  have sub:∀{c:CV},c∈(cs.drop off).take k→c∈cs:=fun hc=>List.mem_of_mem_drop (List.mem_of_mem_take hc)
  unfold oQ at h
  split at h
  ·grind [part,aJ,bM]
  ·grind [part,aJ,bM]
  ·cases h
theorem n8{ob:Nm→Option Ob}{k:Nat}{agg:Bool}{p:CV}{v:AV}(h:loadCells ob k agg p=some v){n:Nm}(hm:aJ v n):∃m x,dc p m∧ob m=some x∧cC x n:=by
 cases p with
 |pb m off =>
  unfold loadCells at h
  dsimp only at h
  split at h
  ·rename_i cs e
   exact⟨m,_,rfl,e,oM h hm⟩
  ·cases h
 |pa m z i j =>
  unfold loadCells at h
  dsimp only at h
  split at h
  ·exact absurd (oM h hm) (mH _ _ _)
  ·cases h
 |pe t x j=>exact absurd (oM (show part (split t x) j k agg=some v from h) hm) (mH _ _ _)
 |_=>cases h
theorem u9{pl:Nat→Option (Nat×Nat)}:∀{ps:List (Nat×AV)}{cs out:List CV},rf pl cs ps=some out→∀{n:Nm},bM out n→bM cs n∨∃p∈ps,aJ p.2 n
 |[],cs,out,h,n,hm=>by
  simp_all [rf,bM,aJ]
 |p::ps,cs,out,h,n,hm=>by
  simp only[rf]at h
  split at h
  ·rename_i off k new _ hn
   cases q:(Nat.beq new.length k&&Nat.ble (off+k) cs.length)with
   |false=>simp_all
   |true =>
    rw[q,cond_true]at h
    rcases u9 h hm with g|⟨p',hp,g⟩
    ·grind [bM,vR,kU]
    ·grind
  ·cases h
theorem GR {τ:jx}(hv:gX τ o=true){e:Operand→AV}{ob ob':Nm→Option Ob}(ho:∀x∈o.op.operands, ∀n,aJ (e x) n→ob' n=ob n):eZ τ o.op e ob'=eZ τ o.op e ob:=by
 unfold gX at hv
 cases hop:o.op with
 |build t ps=>rfl
 |load t a =>
  rw[hop]at ho
  unfold eZ
  dsimp only
  cases τ.get t with
  |none=>rfl
  |some ti =>
   cases he:e a with
   |c p =>
    have h1:∀n,dc p n→ob' n=ob n:=fun n hn=>ho a (by simp[Op.operands]) n (by rw[he];exact hn)
    dsimp only
    have:loadCells ob' ti.size ti.agg p=loadCells ob ti.size ti.agg p:=by
     cases p with
     |pb m off=>unfold loadCells;dsimp only;rw[h1 m rfl]
     |pa m z i j=>unfold loadCells;dsimp only;rw[h1 m rfl]
     |_=>rfl
    rw[this]
   |_=>rfl
 |indexAddr t a i =>
  rw[hop]at ho
  unfold eZ
  dsimp only
  cases τ.get t with
  |none=>rfl
  |some ti =>
   cases he:e a with
   |c p =>
    have h1:∀n,dc p n→ob' n=ob n:=fun n hn=>ho a (by simp[Op.operands]) n (by rw[he];exact hn)
    have:∀k j,jR ob' k j p=jR ob k j p:=by
     intro k j
     cases p with
     |own m=>unfold jR;dsimp only;rw[h1 m rfl]
     |v t x=>cases t<;>rfl
     |_=>rfl
    cases hi:e i with
    |c q =>
     grind
    |_=>rfl
   |_=>rfl
 |convert q d a =>
  rw[hop]at ho
  unfold eZ
  dsimp only
  cases τ.get q with
  |none=>rfl
  |some tq =>
   dsimp only
   cases τ.get d with
   |none=>rfl
   |some ti =>
    cases he:e a with
    |c p =>
     cases p with
     |own m=>dsimp only;rw[ho a (by simp[Op.operands]) m (by rw[he];exact rfl)]
     |v t x =>
      cases t with
      |sl u=>cases u<;>first|rfl|(rename_i ik;cases ik<;>rfl)
      |_=>rfl
     |_=>rfl
    |_=>rfl
 |slice t x lo hi mx=>cases mx<;>rfl
 |move x=>rfl
 |assign x=>rfl
 |fieldAddr t x f=>rfl
 |field t x f=>rfl
 |nilCheck x=>rfl
 |extract x i=>rfl
 |binOp a b c d e=>rfl
 |unOp a b c=>rfl
 |pick a b c=>rfl
 |call c =>
  obtain⟨cl,xs,ts⟩:=c
  rw[hop]at hv ho
  cases cl with
  |builtin b =>
   cases b<;>try (cases hv;done)
   have one:∀x∈xs.toList, ∀p,e x = .c p→lenOf ob' p=lenOf ob p:=by
    intro x hx p he
    have h1:∀n,dc p n→ob' n=ob n:=fun n hn=>ho x (by simp[Op.operands,Call.operands];simpa using hx) n (by rw[he];exact hn)
    cases p with
    |own m=>unfold lenOf;dsimp only;rw[h1 m rfl]
    |v t x=>cases t<;>rfl
    |_=>rfl
   unfold eZ
   dsimp only
   cases hl:xs.toList with
   |nil=>rfl
   |cons x r =>
    grind
  |_=>cases hv
 |_=>rw[hop]at hv;cases hv
theorem ES {τ:jx}(hv:gX τ o=true){e:Operand→AV}{ob:Nm→Option Ob}{c:Bool}{v:AV}(h:eZ τ o.op e ob=some (c,v)){n:Nm}(hm:aJ v n) :
  (∃x∈o.op.operands,aJ (e x) n)∨∃x∈o.op.operands, ∃m y,aJ (e x) m∧ob m=some y∧cC y n:=by
 unfold gX at hv
 cases hop:o.op with
 |build t ps =>
  rw[hop]at h
  left
  unfold eZ at h
  dsimp only at h
  have key:∀{pl:Nat→Option (Nat×Nat)}{zc cs:List CV},(∀n,¬bM zc n)→rf pl zc (ps.toList.map fun p=>(p.1,e p.2))=some cs→bM cs n→∃x∈(Op.build t ps).operands,aJ (e x) n:=fun hz hf hc=>by
   rcases u9 hf hc with q|⟨p,hp,q⟩
   ·simp_all
   ·obtain⟨p',hp',rfl⟩:=List.mem_map.1 hp
    exact⟨p'.2,Array.mem_def.2 (List.mem_map.2 ⟨p',hp',rfl⟩),q⟩
  split at h
  ·rename_i ti _
   split at h
   ·rename_i zc hz
    have zm:=fun n=>xM hz n
    cases q1:Nat.beq ti.kind 2 with
    |true =>
     rw[q1,cond_true]at h
     split at h
     ·rename_i cs hf
      obtain⟨_,rfl⟩:=Prod.mk.inj (Option.some.inj h)
      exact key zm hf hm
     ·cases h
    |false =>
     rw[q1,cond_false]at h
     cases q2:Nat.beq ti.kind 4 with
     |false=>rw[q2]at h;cases h
     |true =>
      rw[q2,cond_true]at h
      split at h
      ·split at h
       ·rename_i cs hf
        obtain⟨_,rfl⟩:=Prod.mk.inj (Option.some.inj h)
        exact key zm hf hm
       ·cases h
      ·cases h
   ·cases h
  ·cases h
 |move x=>rw[hop]at h;obtain⟨_,rfl⟩:=Prod.mk.inj (Option.some.inj h);exact .inl ⟨x,by simp[Op.operands],hm⟩
 |assign x=>rw[hop]at h;obtain⟨_,rfl⟩:=Prod.mk.inj (Option.some.inj h);exact .inl ⟨x,by simp[Op.operands],hm⟩
 |slice t x lo hi mx =>
  rw[hop]at h hv
  cases mx with
  |some y=>cases hv
  |none =>
   dsimp only at hv
   unfold eZ at h
   dsimp only at h
   split at h
   ·generalize Nat.beq _ 5=q at h
    cases q with
    |false=>cases h
    |true =>
     dsimp only[cond_true]at h
     split at h<;>first|(cases h;done)|(obtain⟨_,rfl⟩:=Prod.mk.inj (Option.some.inj h);exact hm.elim)
   ·rename_i ti t' xs e1 e2
    rw[e1]at hv
    have h5:ti.kind=5:=Nat.eq_of_beq_eq_true hv
    have h3:Nat.beq ti.kind 3=false:=by rw[h5];rfl
    rw[h3]at h
    cases h
   ·cases h
 |load t a =>
  rw[hop]at h
  unfold eZ at h
  dsimp only at h
  split at h
  ·rename_i ti p e1 e2
   split at h
   ·rename_i v' e3
    obtain⟨_,rfl⟩:=Prod.mk.inj (Option.some.inj h)
    obtain⟨m,y,h1,h2,h3⟩:=n8 e3 hm
    exact .inr ⟨a,by simp[Op.operands],m,y,by rw[e2];exact h1,h2,h3⟩
   ·cases h
  ·cases h
 |indexAddr t a i =>
  rw[hop]at h
  unfold eZ at h
  dsimp only at h
  split at h
  ·rename_i ti p ik j e1 e2 e3
   cases q:Nat.beq ti.kind 3 with
   |false=>rw[q]at h;cases h
   |true =>
    rw[q]at h
    dsimp only[cond_true]at h
    split at h
    ·refine .inl ⟨a,by simp[Op.operands],?_⟩
     rw[e2]
     cases p with
     |own m =>
      unfold jR at h
      dsimp only at h
      split at h
      ·rename_i u xs _
       cases q:Nat.beq _ u.sz with
       |false=>rw[q]at h;cases h
       |true=>rw[q]at h;obtain⟨_,rfl⟩:=Prod.mk.inj (Option.some.inj h);exact hm
      ·cases h
     |v t x =>
      cases t with
      |sl u =>
       unfold jR at h
       dsimp only at h
       cases q:Nat.beq _ u.sz with
       |false=>rw[q]at h;cases h
       |true=>rw[q]at h;obtain⟨_,rfl⟩:=Prod.mk.inj (Option.some.inj h);exact hm.elim
      |_=>cases h
     |_=>cases h
    ·cases h
  ·cases h
 |convert q d a =>
  rw[hop]at h
  exfalso
  unfold eZ at h
  dsimp only at h
  have fin:∀{b:Bool}{w:CV},(¬dc w n)→(bif b then some (true,AV.c w)else none)=some (c,v)→False:=fun{b w} hw q=>by
   cases b with
   |false=>cases q
   |true=>obtain⟨_,rfl⟩:=Prod.mk.inj (Option.some.inj q);exact hw hm
  split at h
  ·cases h
  ·split at h
   ·exact fin (w := .v _ _) (fun q=>q) h
   ·exact fin (w := .v _ _) (fun q=>q) h
   ·exact fin (w := .v _ _) (fun q=>q) h
   ·exact fin (w := .v _ _) (fun q=>q) h
   ·split at h
    ·exact fin (w := .v _ _) (fun q=>q) h
    ·cases h
   ·cases h
 |fieldAddr t x f =>
  rw[hop]at h
  unfold eZ at h
  dsimp only at h
  split at h
  ·rename_i ti p e1 e2
   cases q:Nat.beq ti.kind 2 with
   |false=>rw[q]at h;cases h
   |true =>
    rw[q]at h
    dsimp only[cond_true]at h
    split at h
    ·split at h
     ·rename_i fd _ _ q' e4
      obtain⟨_,rfl⟩:=Prod.mk.inj (Option.some.inj h)
      refine .inl ⟨x,by simp[Op.operands],?_⟩
      rw[e2]
      cases p with
      |pb m k=>obtain rfl:=Option.some.inj (show some (CV.pb m (k+fd.1))=some q' from e4);exact hm
      |pa m z k j=>obtain rfl:=Option.some.inj (show some (CV.pa m z k (j+fd.1))=some q' from e4);exact hm
      |pe u y j=>obtain rfl:=Option.some.inj (show some (CV.pe u y (j+fd.1))=some q' from e4);exact hm
      |_=>cases e4
     ·cases h
    ·cases h
  ·cases h
 |field t x f =>
  rw[hop]at h
  unfold eZ at h
  dsimp only at h
  split at h
  ·rename_i ti cs e1 e2
   cases q:Nat.beq ti.kind 2 with
   |false=>rw[q]at h;cases h
   |true =>
    rw[q]at h
    dsimp only[cond_true]at h
    split at h
    ·split at h
     ·rename_i fd _ v' e4
      obtain⟨_,rfl⟩:=Prod.mk.inj (Option.some.inj h)
      refine .inl ⟨x,by simp[Op.operands],?_⟩
      rw[e2]
      exact oM e4 hm
     ·cases h
    ·cases h
  ·cases h
 |nilCheck x =>
  rw[hop]at h
  unfold eZ at h
  dsimp only at h
  refine .inl ⟨x,by simp[Op.operands],?_⟩
  split at h
  ·rename_i e2;rw[e2];obtain⟨_,rfl⟩:=Prod.mk.inj (Option.some.inj h);exact hm
  ·rename_i e2;rw[e2];obtain⟨_,rfl⟩:=Prod.mk.inj (Option.some.inj h);exact hm
  ·rename_i e2;rw[e2];obtain⟨_,rfl⟩:=Prod.mk.inj (Option.some.inj h);exact hm
  ·cases h
 |extract x i =>
  rw[hop]at h
  unfold eZ at h
  dsimp only at h
  split at h
  ·rename_i cs e2
   split at h
   ·rename_i p e3
    split at h
    ·rename_i v' e4
     obtain⟨_,rfl⟩:=Prod.mk.inj (Option.some.inj h)
     refine .inl ⟨x,by simp[Op.operands],?_⟩
     rw[e2]
     refine⟨p,List.mem_of_getElem? e3,?_⟩
     unfold oQ at e4
     split at e4
     ·rename_i e5 _;obtain rfl:=Option.some.inj e4;exact hm
     ·rename_i cc e5 e6;obtain rfl:=Option.some.inj e4;rw[e6];exact⟨cc,List.mem_singleton.2 rfl,hm⟩
     ·cases e4
    ·cases h
   ·cases h
  ·cases h
 |binOp a b x y z =>
  rw[hop]at h
  unfold eZ at h
  dsimp only at h
  split at h
  ·exfalso
   unfold yi at h
   split at h
   ·cases h
   ·split at h
    ·rename_i ti _ k b' _
     generalize Nat.beq _ (tV _)=q at h
     cases q with
     |false=>cases h
     |true =>
      dsimp only[cond_true]at h
      unfold FT at h
      split at h
      ·obtain⟨_,rfl⟩:=Prod.mk.inj (Option.some.inj h);exact hm
      ·obtain⟨_,rfl⟩:=Prod.mk.inj (Option.some.inj h);exact hm
      ·cases h
    ·cases h
  ·exact absurd hm (Gt h n)
 |unOp a b x =>
  rw[hop]at h
  exfalso
  unfold eZ at h
  dsimp only at h
  split at h
  ·obtain⟨_,rfl⟩:=Prod.mk.inj (Option.some.inj h);exact hm
  ·obtain⟨_,rfl⟩:=Prod.mk.inj (Option.some.inj h);exact hm
  ·cases h
 |pick x a b =>
  rw[hop]at h
  unfold eZ at h
  dsimp only at h
  split at h
  ·rename_i y e2
   obtain⟨_,rfl⟩:=Prod.mk.inj (Option.some.inj h)
   unfold yb at hm
   split at hm
   ·exact hm.elim
   ·cases y with
    |true=>exact .inl ⟨a,by simp[Op.operands],hm⟩
    |false=>exact .inl ⟨b,by simp[Op.operands],hm⟩
  ·cases h
 |call c =>
  obtain⟨cl,xs,ts⟩:=c
  rw[hop]at hv h
  exfalso
  cases cl with
  |builtin b =>
   cases b<;>try (cases hv;done)
   unfold eZ at h
   dsimp only at h
   split at h
   ·split at h
    ·split at h
     ·rename_i ti _
      generalize (Nat.beq ti.kind (qS _) && !Nat.beq ti.kind 0)=q at h
      cases q with
      |false=>cases h
      |true=>obtain⟨_,rfl⟩:=Prod.mk.inj (Option.some.inj h);exact hm
     ·cases h
    ·cases h
   ·rename_i e1 _;cases e1
   ·rename_i e1 _;cases e1
   ·cases h
  |_=>cases hv
 |_=>rw[hop]at hv;cases hv
theorem EV {τ:jx}(hv:gX τ o=true){e:Operand→AV}{ob ob':Nm→Option Ob}(ho:∀x∈o.op.operands, ∀n,aJ (e x) n→ob' n=ob n):qw τ o.op e ob'=qw τ o.op e ob:=by
 unfold qw
 rw[GR hv ho]
theorem Dv {τ:jx}(hv:gX τ o=true){e:Operand→AV}{ob:Nm→Option Ob}{c:Bool}{v:AV}(h:qw τ o.op e ob=some (c,v)){n:Nm}(hm:aJ v n) :
  (∃x∈o.op.operands,aJ (e x) n)∨∃x∈o.op.operands, ∃m y,aJ (e x) m∧ob m=some y∧cC y n:=by
 unfold qw at h
 cases hq:eZ τ o.op e ob with
 |some r =>
  rw[hq]at h
  obtain rfl:=Option.some.inj h
  exact ES hv hq hm
 |none =>
  rw[hq]at h
  cases ha:wl τ o.op e with
  |none=>rw[ha]at h;cases h
  |some u =>
   rw[ha]at h
   obtain⟨_,rfl⟩:=Prod.mk.inj (Option.some.inj h)
   exact .inl (ED ha hm)
end
def dJ (d:Nat) (s:St):Prop:=(∀t,t≠d→∀n,bW d n=true→¬aJ (s.t t) n)∧∀m ob,s.o m=some ob→bW d m=false∧∀n,bW d n=true→¬cC ob n
def tG (d:Nat) (s:St):Prop:=s.t d = .c (.pb [d,0] 0)∧(∀t,t≠d→¬aJ (s.t t) [d,0])∧∀m ob,s.o m=some ob→¬cC ob [d,0]
theorem CV.drop_id{n:Nm}{c:CV}(h:¬dc c n):c.drop n=c:=by
 cases c with
 |own m=>show(bif Nm.eqb m n then CV.dead else .own m)=_;rw[a0.2 h];rfl
 |pb m k=>show(bif Nm.eqb m n then CV.dead else .pb m k)=_;rw[a0.2 h];rfl
 |pa m z i j=>show(bif Nm.eqb m n then CV.dead else .pa m z i j)=_;rw[a0.2 h];rfl
 |mp m=>show(bif Nm.eqb m n then CV.dead else .mp m)=_;rw[a0.2 h];rfl
 |clo f cs =>
  grind [Nm.eqb,a0,dc,CV.drop,AV.drop,Ob.drop,St.drop]
 |_=>rfl
theorem K2.drop_id{n:Nm}{cs:List CV}(h:¬bM cs n):cs.map (CV.drop n)=cs:=by
 induction cs with
 |nil=>rfl
 |cons c cs ih =>
  grind [CV.drop_id,bM,CV.drop,AV.drop,Ob.drop,St.drop]
theorem AV.drop_id{n:Nm}{v:AV}(h:¬aJ v n):v.drop n=v:=by
 cases v with
 |c x=>exact congrArg AV.c (CV.drop_id h)
 |g cs=>exact congrArg AV.g (K2.drop_id h)
 |tup l =>
  refine congrArg AV.tup ?_
  induction l with
  |nil=>rfl
  |cons p l ih =>
   simp_all [K2.drop_id,aJ,CV.drop,AV.drop,Ob.drop,St.drop]
theorem Ob.drop_id{n:Nm}{x:Ob}(h:¬cC x n):x.drop n=x:=by
 cases x with
 |box cs=>exact congrArg Ob.box (K2.drop_id h)
 |_=>rfl
theorem dJ.o_none{d:Nat}{s:St}(h:dJ d s){n:Nm}(hn:bW d n=true):s.o n=none:=by
 cases q:s.o n with
 |none=>rfl
 |some ob=>rw[(h.2 n ob q).1]at hn;cases hn
theorem dJ.drops{d:Nat}{s:St}(h:dJ d s):∀(ns:List Nm),(∀n∈ns,bW d n=true)→(∀t,t≠d→(s.drops ns).t t=s.t t)∧(s.drops ns).o=s.o
 |[],_=>⟨fun _ _=>rfl,rfl⟩
 |n::ns,hn=>by
  have h0:=hn n (List.mem_cons_self ..)
  have e1:∀t,t≠d→(s.drop n).t t=s.t t:=fun t ht=>AV.drop_id (h.1 t ht n h0)
  have e2:(s.drop n).o=s.o:=by
   funext m
   show(bif Nm.eqb m n then none else(s.o m).map (Ob.drop n))=s.o m
   cases q:Nm.eqb m n with
   |true=>rw[bx.1 q,h.o_none h0];rfl
   |false =>
    cases q2:s.o m with
    |none=>rfl
    |some ob=>exact congrArg some (Ob.drop_id ((h.2 m ob q2).2 n h0))
  have h':dJ d (s.drop n):=⟨fun t ht k hk=>by rw[e1 t ht];exact h.1 t ht k hk,fun m ob hm=>by rw[e2]at hm;exact h.2 m ob hm⟩
  obtain⟨g1,g2⟩:=h'.drops ns (fun k hk=>hn k (List.mem_cons_of_mem _ hk))
  exact⟨fun t ht=>(g1 t ht).trans (e1 t ht),g2.trans e2⟩
theorem dJ.ev{d:Nat}{s:St}(h:dJ d s){n:Nm}(hn:bW d n=true){x:Operand}(hx:x ≠ .tmp d):(s.drop n).ev x=s.ev x:=by
 cases x with
 |tmp t=>exact((h.drops [n] (fun k hk=>by rw[List.mem_singleton.1 hk];exact hn)).1 t (fun e=>hx (by rw[e])))
 |_=>rfl
def EL:bG→Bool
 | .no=>true
 | .ln _=>true
 |_=>false
def zY:AU→Bool
 | .p _=>false
 |_=>true
def jb{R:Type}(S:ag) (vs:List AV) (d:Nat) (o:Nm→Option Ob) (k:AV→List (Nm×Ob)→Option R):Option R :=
 bif Nat.beq (vs.length+S.gh.length) S.pars.length&&(m6 S.gh&&S.pars.all zY)then(match gM o (aF 0 S.pars) vs with
  |some (ds,ts)=>bif il S.pars.length (aF 0 S.pars)&&(iq ts&&((bif S.shares then d9 (ts.flatMap bG.lent)else true)&&(d9 ((ts.flatMap bG.pair).map Prod.snd)&&ts.all EL)))then(match pc (bg (aF 0 S.pars)) ds with
   |some x=>match S.g x with
    |some r=>match kG d (fun _=>none) ts (S.ens.flatMap En.names) (eO S.ens (ar _ r))with
     |some ups=>bif gQ S d (fun _=>none) ts (cy S.ens (ar _ r)) (eO S.ens (ar _ r)) ups then k ((nT (cy S.ens (ar _ r)) S.pars.length S.res.length).ren d ts (S.ens.flatMap En.names)) ups else none
     |none=>none
    |none=>none
   |none=>none)else none
  |none=>none)else none
def lQ:Op→Bool
 | .alloc _=>true
 |_=>false
def yv:Op→Bool
 | .buildSlice _ _ ⟨[]⟩=>true
 |_=>false
def jd (o:Oper):Option Nat:=match o.op,o.dst with
 | .call { callee := .builtin .append,args:=⟨[.tmp t,_]⟩, .. },some _=>some t
 |_,_=>none
def dC (o:Oper):Bool:=match o.guard with
 |none=>true
 |some _=>false
def aG (E:aW) (o:Oper):Nat:=bif gX E.τ o&&(match o.dst with|some _=>true|none=>false)then 0 else bif dC o then(match o.op,o.dst with
 | .call { callee := .value (.func f), .. },some d=>(match E.Γ f d with
  |some S=>bif d9 (S.ens.flatMap En.names)then 4 else 1
  |none=>3)
 | .alloc _,some _=>1
 | .buildSlice _ _ ⟨[]⟩,some _=>1
 | .store _ (.tmp _) _,none=>2
 | .call { callee := .builtin .append,args:=⟨[.tmp _,_]⟩, .. },some _=>6
 |_,_=>3)else 3
def yn{R:Type}(E:aW) (o:Oper) (s:St) (k:St→Option R):Option R:=match o.dst with
 |none=>none
 |some d=>bif Nat.blt d E.N then(match o.op with
  | .call { callee := .value (.func f),args, .. }=>(match E.Γ f d with
   |some S=>jb S (args.toList.map s.ev) d s.o (fun v ups=>k ((s.over ups).put (some d) v))
   |none=>none)
  |op=>(match pC E.τ op s.ev [d,0]with
   |some (c,ob,v)=>(match c with|true=>k ((s.over [([d,0],ob)]).put (some d) v)|false=>none)
   |none=>none))else none
def yf{R:Type}(fr:Bool) (E:aW) (o:Oper) (s:St) (k:St→Option R):Option R:=match aG E o with
 |1=>(match fr with|true=>yn E o s k|false=>mT E o s k)
 |4=>yn E o s k
 |_=>mT E o s k
def kH{R:Type}(fr:Bool) (E:aW) (all:List Oper):List Oper→St→(St→Option R)→Option R
 |[],s,k=>k s
 |o::r,s,k=>match o.guard with
  |none=>yf fr E o s (fun s'=>kH fr E all r s' k)
  |some _=>cg E all [o] s (fun s'=>kH fr E all r s' k)
structure JA (E:aW) (l:List Oper) (o:Oper) (q:Bool) (s:St) (d:Nat) (v:AV) (ups:List (Nm×Ob)):Prop where
 dst:o.dst=some d
 step:∀s':St,(∀t∈gF l o,s'.t t=s.t t)→(∀t∈gF l o, ∀n,aJ (s.t t) n→s'.o n=s.o n)→(q=true→dJ d s')→stg E l o s'=some ((s'.over ups).put (some d) v)
 hd:∀p∈ups,bW d p.1=true
 ment:∀n,(aJ v n∨∃p∈ups,cC p.2 n)→bW d n=true∨(∃t∈gF l o,aJ (s.t t) n)∨∃t∈gF l o, ∃m y,aJ (s.t t) m∧s.o m=some y∧cC y n
section
variable{E:aW}{l:List Oper}{o:Oper}{s s1:St}
theorem IB (hk:aG E o=0) (h:stg E l o s=some s1):∃d v,JA E l o false s d v []∧s1=(s.over []).put (some d) v:=by
 obtain⟨hv,d,hd⟩:gX E.τ o=true∧∃d,o.dst=some d:=by
  grind [aG,gX,dC,split,d9,En.names]
 rw[xU]at h
 cases hg:gd l o s with
 |none=>simp_all
 |some b =>
  rw[hg]at h
  cases b with
  |false =>
   have h:(bif dn E.N o.dst then some (s.put o.dst lT)else none)=some s1:=h
   cases hN:dn E.N o.dst with
   |false=>simp_all
   |true =>
    rw[hN,hd]at h
    refine⟨d,lT,⟨hd,fun s' h1 _ _=>?_,fun p hp=>(by cases hp),fun n hn=>?_⟩,(Option.some.inj h).symm⟩
    ·rw[xU,CZ h1,hg]
     dsimp only
     rw[hN,hd];rfl
    ·rcases hn with hn|⟨p,hp,_⟩
     ·trivial
     ·cases hp
  |true =>
   have h:mT (R:=St) E o s some=some s1:=h
   rw[EQ hv hd]at h
   cases hq:qw E.τ o.op s.ev s.o with
   |none=>simp_all
   |some r =>
    obtain⟨c,v⟩:=r
    rw[hq]at h
    dsimp only at h
    cases hN:Nat.blt d E.N with
    |false=>simp_all
    |true =>
     rw[hN]at h
     cases c with
     |false=>cases h
     |true =>
      refine⟨d,v,⟨hd,fun s' h1 h2 _=>?_,fun p hp=>(by cases hp),fun n hn=>?_⟩,(Option.some.inj h).symm⟩
      ·rw[xU,CZ h1,hg]
       dsimp only
       rw[EQ hv hd, ←A7 (ne h1),EV hv (ob:=s.o) (fun x hx n hn=>by
        obtain⟨t,ht,hm⟩:=rL (l:=l) hx hn
        exact h2 t ht n hm),hq]
       dsimp only
       rw[hN];rfl
      ·rcases hn with hn|⟨p,hp,_⟩
       ·rcases Dv hv hq hn with⟨x,hx,hm⟩|⟨x,hx,m,y,hm,g1,g2⟩
        ·exact .inr (.inl (rL hx hm))
        ·obtain⟨t,ht,hm⟩:=rL (l:=l) hx hm
         exact .inr (.inr ⟨t,ht,m,y,hm,g1,g2⟩)
       ·cases hp
theorem ql{R:Type}{S:ag}{vs:List AV}{d:Nat}{ob:Nm→Option Ob}(k:AV→List (Nm×Ob)→Option R):jb S vs d ob k=(jb S vs d ob (fun v ups=>some (v,ups))).bind fun p=>k p.1 p.2:=by
 unfold jb
 simp only[oz,Option.bind_none]
 split
 ·grind
 ·rfl
theorem uR{n:Nm}{ts:List bG}(h:ts.all EL=true):fZ n ts = .no:=by
 induction ts with
 |nil=>rfl
 |cons t ts ih =>
  rw[List.all_cons,Bool.and_eq_true]at h
  cases t with
  |no=>exact ih h.2
  |ln m=>exact ih h.2
  |_=>cases h.1
theorem se{ts:List bG}(h:ts.all EL=true):ts.flatMap bG.moved=[]∧ts.flatMap bG.pair=[]:=by
 induction ts with
 |nil=>trivial
 |cons t ts ih =>
  rw[List.all_cons,Bool.and_eq_true]at h
  obtain⟨g1,g2⟩:=ih h.2
  rw[List.flatMap_cons,List.flatMap_cons,g1,g2]
  cases t with
  |no=>trivial
  |ln m=>trivial
  |_=>cases h.1
theorem wr{d:Nat}{ob ob':Nm→Option Ob}{ts:List bG}{names:List Nm}(h:ts.all EL=true):∀(oe:List (Nm×Ob)),kG d ob ts names oe=kG d ob' ts names oe
 |[]=>rfl
 |(m,x)::r=>by
  unfold kG
  rw[wr (ob:=ob) (ob':=ob') h r]
  have:tH d ob ts names m x=tH d ob' ts names m x:=by
   unfold tH
   rw[uR h]
  rw[this]
theorem BY{S:ag}{d:Nat}{ob ob':Nm→Option Ob}{ts:List bG}{te:List (Nat×AV)}{oe ups:List (Nm×Ob)}(h:ts.all EL=true):gQ S d ob ts te oe ups=gQ S d ob' ts te oe ups:=by
 unfold gQ
 rw[(se h).2];rfl
theorem tS{d:Nat}{ts:List bG}{names:List Nm}(h:ts.all EL=true){c:CV}{n:Nm}(hm:dc (nU d ts names c) n):bW d n=true:=by
 have one:∀{p q:Nm×Nat},vT d ts names p=some q→bW d q.1=true:=by
  intro p q e
  unfold vT at e
  rw[uR h]at e
  dsimp only at e
  cases k:km p.1 names with
  |false=>simp_all
  |true=>rw[k]at e;obtain rfl:=Option.some.inj e;exact Nat.beq_refl d
 cases c with
 |own m=>obtain rfl:d::m=n:=hm;exact Nat.beq_refl d
 |pb m k =>
  grind [dc,vT,EL,nU,bW]
 |clo f cs =>
  have hm:dc (match pB d ts names cs with|some q=>CV.clo f q|none => .dead) n:=hm
  cases e:pB d ts names cs with
  |none=>rw[e]at hm;exact hm.elim
  |some q =>
   rw[e]at hm
   have all:∀{cs:List (Nm×Nat)}{q:List (Nm×Nat)},pB d ts names cs=some q→∀p∈q,bW d p.1=true:=by
    intro cs
    induction cs with
    |nil=>intro q e p hp;obtain rfl:=Option.some.inj e;cases hp
    |cons c cs ih =>
     grind [pB,vT]
   obtain⟨p,hp,rfl⟩:=hm
   exact all e p hp
 |v t x=>trivial
 |er b=>trivial
 |_=>trivial
theorem Fr{d:Nat}{ts:List bG}{names:List Nm}(h:ts.all EL=true){v:AV}{n:Nm}(hm:aJ (v.ren d ts names) n):bW d n=true:=by
 cases v with
 |c x=>exact tS h hm
 |g cs =>
  obtain⟨c,hc,hm⟩:=hm
  obtain⟨x,_,rfl⟩:=List.mem_map.1 hc
  exact tS h hm
 |tup ps =>
  obtain⟨p,hp,c,hc,hm⟩:=hm
  obtain⟨x,_,rfl⟩:=List.mem_map.1 hp
  obtain⟨y,_,rfl⟩:=List.mem_map.1 hc
  exact tS h hm
theorem Cf{d:Nat}{ob:Nm→Option Ob}{ts:List bG}{names:List Nm}(h:ts.all EL=true):∀{oe ups:List (Nm×Ob)},kG d ob ts names oe=some ups→∀p∈ups,bW d p.1=true∧∀n,cC p.2 n→bW d n=true
 |[],ups,e,p,hp=>by obtain rfl:=Option.some.inj e;cases hp
 |(m,x)::r,ups,e,p,hp=>by
  unfold kG at e
  cases e1:tH d ob ts names m x with
  |none=>simp_all
  |some a =>
   cases e2:kG d ob ts names r with
   |none=>simp_all
   |some b =>
    rw[e1,e2]at e
    obtain rfl:=Option.some.inj e
    rcases List.mem_cons.1 hp with rfl|hp
    ·unfold tH at e1
     rw[uR h]at e1
     dsimp only at e1
     cases x with
     |arr z t xs=>obtain rfl:=Option.some.inj e1;exact⟨Nat.beq_refl d,fun n q=>q.elim⟩
     |box cells =>
      obtain rfl:=Option.some.inj e1
      refine⟨Nat.beq_refl d,fun n q=>?_⟩
      obtain⟨c,hc,hm⟩:=q
      obtain⟨y,_,rfl⟩:=List.mem_map.1 hc
      exact tS h hm
     |mp _ _ _ _=>cases e1
    ·exact Cf h e2 p hp
theorem DM{ob ob':Nm→Option Ob}{nm:Nm}{p:PS}{c:CV}(h:∀n,dc c n→ob' n=ob n):cR ob' nm p c=cR ob nm p c:=by
 cases c with
 |own m =>
  have e:=h m rfl
  have g:∀e0 t,v8 ob' e0 t m=v8 ob e0 t m:=fun e0 t=>by unfold v8;rw[e]
  cases p with
  |i t=>cases t with
   |sl u =>
    show(match v8 ob' none u m with|some xs=>some (DV.mk (.sl u) xs,bG.ln m)|none=>none)=_
    rw[g];rfl
   |_=>rfl
  |o e0 t =>
   simp_all [dc,cR]
  |b e0 t =>
   simp_all [dc,cR]
  |k _ e0 t =>
   simp_all [dc,cR]
  |l =>
   simp_all [yz,dc,cR]
  |_=>rfl
 |mp m =>
  have e:=h m rfl
  cases p with
  |m kt vt ka =>
   simp_all [Kd,dc,cR]
  |i t=>rfl
  |_=>rfl
 |v ty x=>cases p<;>first|rfl|(cases ty<;>rfl)|(rename_i t;cases t<;>rfl)
 |_=>cases p<;>first|rfl|(rename_i t;cases t<;>rfl)
theorem pN{ob ob':Nm→Option Ob}{nm:Nat→PS→Nm}:∀{k:Nat}{ps:List PS}{cs:List CV},(∀n,bM cs n→ob' n=ob n)→dZ ob' nm k ps cs=dZ ob nm k ps cs
 |_,[],[],_=>rfl
 |_,[],_::_,_=>rfl
 |_,_::_,[],_=>rfl
 |k,p::ps,c::cs,h=>by
  unfold dZ
  rw[DM (fun n hn=>h n ⟨c,List.mem_cons_self ..,hn⟩),pN (fun n ⟨x,hx,hn⟩=>h n ⟨x,List.mem_cons_of_mem _ hx,hn⟩)]
theorem sM{ob ob':Nm→Option Ob}{e:En}{v:AV}(h:∀n,aJ v n→ob' n=ob n) (hp:(∃i p,e = .val i p)∨∃i ps,e = .agg i ps):i8 ob' e v=i8 ob e v:=by
 rcases hp with⟨i,p,rfl⟩|⟨i,ps,rfl⟩
 ·cases v with
  |c x=>exact pN (fun n ⟨y,hy,hn⟩=>h n (by rw[List.mem_singleton.1 hy]at hn;exact hn))
  |_=>rfl
 ·cases v with
  |g cs=>exact pN h
  |_=>rfl
theorem xm{ob ob':Nm→Option Ob}:∀{ps:List AU}{k:Nat}{vs:List AV},ps.all zY=true→(∀v∈vs, ∀n,aJ v n→ob' n=ob n)→gM ob' (aF k ps) vs=gM ob (aF k ps) vs
 |[],_,[],_,_=>rfl
 |[],_,_::_,_,_=>rfl
 |p::ps,k,[],_,_=>by cases p<;>rfl
 |p::ps,k,v::vs,hb,h=>by
  rw[List.all_cons,Bool.and_eq_true]at hb
  have ih:=xm (k:=k+1) hb.2 (fun u hu=>h u (List.mem_cons_of_mem _ hu))
  have hv:=h v (List.mem_cons_self ..)
  cases p with
  |p ps=>cases hb.1
  |c q =>
   show(match i8 ob' (.val k q) v,gM ob' (aF (k+1) ps) vs with|some (ds,ts),some (ds',ts')=>some (ds++ds',ts++ts')|_,_=>none)=_
   rw[ih,sM hv (.inl ⟨_,_,rfl⟩)];rfl
  |g q =>
   show(match i8 ob' (.agg k q) v,gM ob' (aF (k+1) ps) vs with|some (ds,ts),some (ds',ts')=>some (ds++ds',ts++ts')|_,_=>none)=_
   rw[ih,sM hv (.inr ⟨_,_,rfl⟩)];rfl
  |h q =>
   show(match i8 ob' (.agg k q) v,gM ob' (aF (k+1) ps) vs with|some (ds,ts),some (ds',ts')=>some (ds++ds',ts++ts')|_,_=>none)=_
   rw[ih,sM hv (.inr ⟨_,_,rfl⟩)];rfl
theorem nq{S:ag}{vs:List AV}{d:Nat}{ob:Nm→Option Ob}{v:AV}{ups:List (Nm×Ob)}:jb S vs d ob (fun v ups=>some (v,ups))=some (v,ups) ↔
  (vs.length+S.gh.length=S.pars.length∧S.gh=[]∧S.pars.all zY=true)∧∃ds ts x r,gM ob (aF 0 S.pars) vs=some (ds,ts)∧(il S.pars.length (aF 0 S.pars)=true∧iq ts=true∧(bif S.shares then d9 (ts.flatMap bG.lent)else true)=true∧ts.all EL=true) ∧
   pc (bg (aF 0 S.pars)) ds=some x∧S.g x=some r∧kG d (fun _=>none) ts (S.ens.flatMap En.names) (eO S.ens (ar _ r))=some ups∧gQ S d (fun _=>none) ts (cy S.ens (ar _ r)) (eO S.ens (ar _ r)) ups=true ∧
   v=(nT (cy S.ens (ar _ r)) S.pars.length S.res.length).ren d ts (S.ens.flatMap En.names):=by
 have nilG:∀{g:List (Nat×Nat×Option Nat)},m6 g=true↔g=[]:=fun{g}=>by cases g<;>simp[m6]
 have nilP:∀{ts:List bG},ts.all EL=true→d9 ((ts.flatMap bG.pair).map Prod.snd)=true:=fun{ts} h=>by rw[(se h).2];rfl
 unfold jb
 constructor
 ·intro h
  cases hc:(Nat.beq (vs.length+S.gh.length) S.pars.length&&(m6 S.gh&&S.pars.all zY))with
  |false=>rw[hc]at h;cases h
  |true =>
   rw[hc]at h
   rw[Bool.and_eq_true,Bool.and_eq_true]at hc
   refine⟨⟨Nat.eq_of_beq_eq_true hc.1,nilG.1 hc.2.1,hc.2.2⟩,?_⟩
   dsimp only[cond_true]at h
   split at h
   ·rename_i ds ts e1
    cases hk:(il S.pars.length (aF 0 S.pars)&&(iq ts&&((bif S.shares then d9 (ts.flatMap bG.lent)else true)&&(d9 ((ts.flatMap bG.pair).map Prod.snd)&&ts.all EL))))with
    |false=>rw[hk]at h;cases h
    |true =>
     rw[hk]at h
     dsimp only[cond_true]at h
     rw[Bool.and_eq_true,Bool.and_eq_true,Bool.and_eq_true,Bool.and_eq_true]at hk
     split at h
     ·rename_i x e2
      split at h
      ·rename_i r e3
       split at h
       ·rename_i u e4
        cases ho:gQ S d (fun _=>none) ts (cy S.ens (ar _ r)) (eO S.ens (ar _ r)) u with
        |false=>rw[ho]at h;cases h
        |true =>
         rw[ho]at h
         obtain⟨g1,g2⟩:=Prod.mk.inj (Option.some.inj h)
         subst g2
         exact⟨ds,ts,x,r,e1,⟨hk.1,hk.2.1,hk.2.2.1,hk.2.2.2.2⟩,e2,e3,e4,ho,g1.symm⟩
       ·cases h
      ·cases h
     ·cases h
   ·cases h
 ·rintro ⟨⟨h1,h2,h3⟩,ds,ts,x,r,e1,⟨k1,k2,k3,k4⟩,e2,e3,e4,e5,rfl⟩
  rw[show Nat.beq (vs.length+S.gh.length) S.pars.length=true from by rw[h1];exact Nat.beq_refl _,nilG.2 h2,h3]
  simp only[Bool.true_and,cond_true,e1,k1,k2,k3,nilP k4,k4,e2,e3,e4,e5]
theorem BZ{S:ag}{vs:List AV}{d:Nat}{ob ob':Nm→Option Ob}(h:∀v∈vs, ∀n,aJ v n→ob' n=ob n){v:AV}{ups:List (Nm×Ob)}(he:jb S vs d ob (fun v ups=>some (v,ups))=some (v,ups)):jb S vs d ob' (fun v ups=>some (v,ups))=some (v,ups):=by
 grind [nq,xm]
theorem AO{S:ag}{vs:List AV}{d:Nat}{ob:Nm→Option Ob}{v:AV}{ups:List (Nm×Ob)}(he:jb S vs d ob (fun v ups=>some (v,ups))=some (v,ups)):(∀n,aJ v n→bW d n=true)∧∀p∈ups,bW d p.1=true∧∀n,cC p.2 n→bW d n=true:=by
 obtain⟨_,ds,ts,x,r,_,⟨_,_,_,k4⟩,_,_,e4,_,rfl⟩:=nq.1 he
 exact⟨fun n hn=>Fr k4 hn,Cf k4 e4⟩
theorem St.ext'{s s':St}(h1:∀i,s.t i=s'.t i) (h2:∀n,s.o n=s'.o n):s=s':=by
 cases s;cases s'
 congr 1
 ·grind
 ·grind
theorem cB (s:St) (d i:Nat) (v:AV):(s.put (some d) v).t i=if i=d then v else s.t i:=by
 simp_all [St.put]
theorem dJ.drops0{d:Nat}{s:St}{ns:List Nm}(h:ns≠[]→dJ d s) (hn:∀n∈ns,bW d n=true):(∀t,t≠d→(s.drops ns).t t=s.t t)∧(s.drops ns).o=s.o:=by
 cases ns with
 |nil=>exact⟨fun _ _=>rfl,rfl⟩
 |cons n ns=>exact(h (fun q=>by cases q)).drops _ hn
theorem B0{S:ag}{vs:List AV}{d:Nat}{ob:Nm→Option Ob}{v:AV}{ups:List (Nm×Ob)}(hn:S.ens.flatMap En.names=[]) (he:jb S vs d ob (fun v ups=>some (v,ups))=some (v,ups)):ups=[]:=by
 obtain⟨_,ds,ts,x,r,_,_,_,_,e4,_,rfl⟩:=nq.1 he
 have:eO S.ens (ar (bg (dl S.pars S.res S.nb)) r)=[]:=by
  rcases hmb:eO S.ens (ar (bg (dl S.pars S.res S.nb)) r)with _|⟨z,l⟩
  ·rfl
  ·have:=mW (q:=z) (by rw[hmb];exact List.mem_cons_self ..)
   rw[hn]at this;cases this
 rw[this]at e4
 exact(Option.some.inj e4).symm
theorem Gr{S:ag}{f:Nat}{xs:List Operand}{d:Nat}{v:AV}{ups:List (Nm×Ob)}(hf:S.ens.flatMap En.names≠[]→dJ d s) (he:jb S (xs.map s.ev) d s.o (fun v ups=>some (v,ups))=some (v,ups)):kI (R:=St) S f .fn xs d s some=some ((s.over ups).put (some d) v):=by
 obtain⟨⟨h1,h2,h3⟩,ds,ts,x,r,e1,⟨k1,k2,k3,k4⟩,e2,e3,e4,e5,rfl⟩:=nq.1 he
 have hm:=(se k4).1
 have gh:lV s.o (xs.map s.ev) S.gh=xs.map s.ev:=by rw[h2];rfl
 have fz:(bif S.shares then s.frzs (ts.flatMap bG.lent)else s)=s:=by
  cases q:S.shares with
  |false=>rfl
  |true =>
   rw[q]at k3
   have k3:d9 (ts.flatMap bG.lent)=true:=k3
   cases q2:ts.flatMap bG.lent with
   |nil=>rfl
   |cons a b=>rw[q2]at k3;cases k3
 obtain⟨d1,d2⟩:=dJ.drops0 (ns:=(S.ens.flatMap En.names).map (fun m=>d::m)) (fun q=>hf (fun e=>q (by rw[e];rfl))) (fun n hn=>by
  obtain⟨m,_,rfl⟩:=List.mem_map.1 hn
  exact Nat.beq_refl d)
 unfold kI
 rw[show s.argsOf f .fn xs=some (xs.map s.ev)from rfl]
 dsimp only
 rw[gh,e1]
 dsimp only
 rw[fz]
 unfold lu
 rw[show s.argsOf f .fn xs=some (xs.map s.ev)from rfl]
 dsimp only
 rw[show Nat.beq ((xs.map s.ev).length+S.gh.length) S.pars.length=true from by rw[h1];exact Nat.beq_refl _]
 simp only[cond_true,gh,e1,k1,k2,k3,Bool.true_and,e2,e3,hm,List.nil_append,wr (ob:=(s.drops ((S.ens.flatMap En.names).map (fun m=>d::m))).o) (ob':=fun _=>none) k4,e4,BY (ob:=(s.drops ((S.ens.flatMap En.names).map (fun m=>d::m))).o) (ob':=fun _=>none) k4,e5]
 refine congrArg some (St.ext' (fun i=>?_) fun n=>?_)
 ·rw[cB,cB]
  by_cases q:i=d
  ·simp_all
  ·rw[if_neg q,if_neg q]
   exact d1 i q
 ·show(match a5 ups n with|some ob=>some ob|none=>_)=(match a5 ups n with|some ob=>some ob|none=>_)
  rw[d2]
end
def stm (fr:Bool) (E:aW) (l:List Oper) (o:Oper) (s:St):Option St:=kH fr E l [o] s some
def mc (fr:Bool) (E:aW) (l:List Oper):List Oper→St→Option St
 |[],s=>some s
 |o::r,s=>(stm fr E l o s).bind (mc fr E l r)
section
variable{fr:Bool}{E:aW}{l:List Oper}{o:Oper}{s s1:St}
theorem Ag{R:Type}(k:St→Option R):yn E o s k=(yn E o s some).bind k:=by
 unfold yn
 cases o.dst with
 |none=>rfl
 |some d =>
  grind [split,ql,jb]
theorem uH{R:Type}(k:St→Option R):yf fr E o s k=(yf fr E o s some).bind k:=by
 unfold yf
 split
 ·grind [qJ,Ag]
 ·exact Ag k
 ·exact qJ k
theorem oN{R:Type}:∀{r:List Oper}{s:St}(k:St→Option R),kH fr E l r s k=(mc fr E l r s).bind k
 |[],s,k=>rfl
 |o::r,s,k=>by
  show kH fr E l (o::r) s k=((stm fr E l o s).bind (mc fr E l r)).bind k
  unfold stm
  unfold kH
  cases hg:o.guard with
  |none =>
   dsimp only
   rw[uH,uH (k:=fun s'=>kH fr E l [] s' some)]
   cases yf fr E o s some with
   |none=>rfl
   |some s1=>exact oN k
  |some g =>
   dsimp only
   rw[nZ,nZ (k:=fun s'=>kH fr E l [] s' some)]
   cases cg E l [o] s some with
   |none=>rfl
   |some s1=>exact oN k
theorem kM (h:(aG E o=1→fr=false)∧aG E o≠4):stm fr E l o s=stg E l o s:=by
 unfold stm stg kH
 cases hg:o.guard with
 |none =>
  dsimp only
  have e:yf fr E o s (fun s'=>kH fr E l [] s' some)=mT E o s (fun s'=>some s'):=by
   unfold yf
   split
   ·rename_i q
    rw[h.1 q];rfl
   ·omega
   ·rfl
  rw[e]
  show mT E o s (fun s'=>some s')=cg E l [o] s some
  unfold cg
  rw[hg];rfl
 |some g=>rfl
theorem lm (h:aG E o≠0) (h2:aG E o≠3):o.guard=none:=by
 grind [aG,gX,dC]
theorem xT (h:(aG E o=1∧fr=true)∨aG E o=4):stm fr E l o s=yn E o s some:=by
 have hg:o.guard=none:=lm (E:=E) (o:=o) (by rcases h with h|h<;>omega) (by rcases h with h|h<;>omega)
 unfold stm kH
 rw[hg]
 dsimp only
 unfold yf
 rcases h with⟨h,rfl⟩|h
 ·rw[h];rfl
 ·rw[h];rfl
theorem jV (hg:o.guard=none):stg E l o s=mT E o s some:=by
 rw[xU]
 unfold gd Ar
 rw[hg]
structure EH (fr:Bool) (E:aW) (l:List Oper) (o:Oper) (q:Bool) (s:St) (d:Nat) (v:AV) (ups:List (Nm×Ob)):Prop where
 m:JA E l o q s d v ups
 stm:∀s':St,(∀t∈gF l o,s'.t t=s.t t)→(∀t∈gF l o, ∀n,aJ (s.t t) n→s'.o n=s.o n)→(q=true→dJ d s')→stm fr E l o s'=some ((s'.over ups).put (some d) v)
theorem L8 (hk:aG E o=0) (h:stm fr E l o s=some s1):∃d v,EH fr E l o false s d v []∧s1=(s.over []).put (some d) v:=by
 have e:∀s,stm fr E l o s=stg E l o s:=fun s=>kM ⟨fun q=>(by rw[hk]at q;cases q),by rw[hk];decide⟩
 rw[e]at h
 obtain⟨d,v,h1,h2⟩:=IB hk h
 exact⟨d,v,⟨h1,fun s' a b c=>(e s').trans (h1.step s' a b c)⟩,h2⟩
theorem FZ (hk:(aG E o=1∧fr=true)∨aG E o=4){d:Nat}(hd:o.dst=some d) (h:stm fr E l o s=some s1):∃v ups q,EH fr E l o q s d v ups∧(aG E o=4→q=false∧ups=[])∧s1=(s.over ups).put (some d) v∧(∀t,o.op = .alloc t→∃zc,v = .c (.pb [d,0] 0)∧ups=[([d,0], .box zc)]∧∀n,¬bM zc n)∧(yv o.op=true→∃el ty xs,v = .c (.own [d,0])∧ups=[([d,0], .arr el ty xs)]):=by
 have hg:o.guard=none:=lm (E:=E) (o:=o) (by rcases hk with h|h<;>omega) (by rcases hk with h|h<;>omega)
 rw[xT hk]at h
 unfold yn at h
 rw[hd]at h
 dsimp only at h
 cases hN:Nat.blt d E.N with
 |false=>simp_all
 |true =>
  rw[hN]at h
  dsimp only[cond_true]at h
  split at h
  ·rename_i f args ts hop
   cases hS:E.Γ f d with
   |none=>simp_all
   |some S =>
    rw[hS]at h
    dsimp only at h
    rw[ql]at h
    cases hc:jb S (args.toList.map s.ev) d s.o (fun v ups=>some (v,ups))with
    |none=>simp_all
    |some r =>
     obtain⟨v,ups⟩:=r
     rw[hc]at h
     obtain rfl:=(Option.some.inj h).symm
     have ops:∀x∈args.toList,x∈o.op.operands:=fun x hx=>by
      simp_all [Op.operands,Call.operands]
     have key:∀s':St,(∀t∈gF l o,s'.t t=s.t t)→(∀t∈gF l o, ∀n,aJ (s.t t) n→s'.o n=s.o n)→jb S (args.toList.map s'.ev) d s'.o (fun v ups=>some (v,ups))=some (v,ups):=by
      intro s' h1 h2
      have e1:args.toList.map s'.ev=args.toList.map s.ev:=List.map_congr_left fun x hx=>(ne h1 x (ops x hx)).symm
      rw[e1]
      refine BZ (ob:=s.o) (fun u hu n hn=>?_) hc
      obtain⟨x,hx,rfl⟩:=List.mem_map.1 hu
      obtain⟨t,ht,hm⟩:=rL (l:=l) (ops x hx) hn
      exact h2 t ht n hm
     have mt:=AO hc
     have knd:d9 (S.ens.flatMap En.names)=true∧aG E o=4∨d9 (S.ens.flatMap En.names)=false∧aG E o≠4:=by
      grind [aG,d9,En.names,gX,dC]
     have nilN:d9 (S.ens.flatMap En.names)=true→S.ens.flatMap En.names=[]:=fun q=>by
      cases w:S.ens.flatMap En.names with
      |nil=>rfl
      |cons a b=>rw[w]at q;cases q
     refine⟨v,ups, !d9 (S.ens.flatMap En.names),⟨⟨hd,fun s' h1 h2 h3=>?_,fun p hp=>(mt.2 p hp).1,fun n hn => .inl ?_⟩,fun s' h1 h2 h3=>?_⟩,fun h4=>?_,rfl,fun t ht=>?_,fun hb=>(by rw[hop]at hb;cases hb)⟩
     ·grind [jV,Gr,d9,En.names,key,mT]
     ·rcases hn with hn|⟨p,hp,hn⟩
      ·simp_all
      ·grind
     ·grind [xT,yn,ql,key]
     ·grind [B0]
     ·simp_all
  ·rename_i hno
   have hal:(∃t,o.op = .alloc t)∨∃t n,o.op = .buildSlice t n ⟨[]⟩:=by
    grind [aG,gX,dC,split]
   have hn:dC o=true:=by unfold dC;rw[hg]
   have hvv:gX E.τ o=false:=by unfold gX;rcases hal with⟨t,hop⟩|⟨t,n,hop⟩<;>rw[hop]
   have k4:aG E o≠4:=by
    grind [aG]
   have hvo:∀s':St,eZ E.τ o.op s'.ev s'.o=none:=fun s'=>by rcases hal with⟨t,hop⟩|⟨t,n,hop⟩<;>rw[hop]<;>rfl
   have hmo:∀e e':Operand→AV,pC E.τ o.op e [d,0]=pC E.τ o.op e' [d,0]:=fun e e'=>by rcases hal with⟨t,hop⟩|⟨t,n,hop⟩<;>rw[hop]<;>rfl
   have hK:∀ s':St,mT (R := St) E o s' some = (match eZ E.τ o.op s'.ev s'.o with
        |some (c,v)=>bif dn E.N (some d)then(match c with|true=>some (s'.put (some d) v)|false=>none)else none
        |none=>bif Nat.blt d E.N then(match pC E.τ o.op (s'.drop [d,0]).ev [d,0]with
         |some (c,ob,v)=>(match c with|true=>some (((s'.drop [d,0]).setO [d,0] ob).put (some d) v)|false=>none)
         |none=>match lE E.τ o.op (some d) s' with
          |some (c,s'')=>(match c with|true=>some s''|false=>none)
          |none=>rB E.τ o.op d s' some)else none):=fun s'=>by
    unfold mT
    rw[hd]
    rcases hal with⟨t,hop⟩|⟨t,n,hop⟩<;>rw[hop]<;>rfl
   have hM:∀c ob v,pC E.τ o.op s.ev [d,0]=some (c,ob,v)→(lQ o.op=true∧v = .c (.pb [d,0] 0)∧∃zc,ob = .box zc∧∀n,¬bM zc n)∨(yv o.op=true∧v = .c (.own [d,0])∧∃el ty xs,ob = .arr el ty xs):=fun c ob v hm=>by
    rcases hal with⟨t,hop⟩|⟨t,n,hop⟩
    ·left
     rw[hop]at hm ⊢
     have hm:(match E.τ.get t with
      |some ti=>match ti.z0 with
       |some zc=>some (true,Ob.box zc,AV.c (.pb [d,0] 0))
       |none=>none
      |none=>none)=some (c,ob,v):=hm
     cases ht:E.τ.get t with
     |none=>simp_all
     |some ti =>
      cases hz:ti.z0 with
      |none=>simp_all
      |some zc =>
       rw[ht]at hm
       dsimp only at hm
       rw[hz]at hm
       obtain⟨_,h2⟩:=Prod.mk.inj (Option.some.inj hm)
       obtain⟨h2,h3⟩:=Prod.mk.inj h2
       exact⟨rfl,h3.symm,zc,h2.symm,fun n=>xM hz n⟩
    ·right
     rw[hop]at hm ⊢
     refine⟨rfl,?_⟩
     have hm:(match E.τ.get t with
      |some ti=>bif Nat.beq ti.kind 3 then(match E.τ.get ti.el with
       |some te=>match te.ty with
        |some ty=>bif Nat.ble (n*te.size) 65536 then(match rows ty (List.replicate n ty.zero) []with
         |some xs=>some (true,Ob.arr ti.el ty xs,AV.c (.own [d,0]))
         |none=>none)else none
        |none=>none
       |none=>none)else none
      |none=>none)=some (c,ob,v):=hm
     split at hm
     ·grind
     ·cases hm
   cases hmm:pC E.τ o.op s.ev [d,0]with
   |none=>simp_all
   |some r =>
    obtain⟨c,ob,v⟩:=r
    rw[hmm]at h
    dsimp only at h
    cases c with
    |false=>cases h
    |true =>
     obtain rfl:=(Option.some.inj h).symm
     have hM:=hM _ _ _ hmm
     have vm:∀n,aJ v n→n=[d,0]:=fun n hn=>by
      rcases hM with⟨_,rfl,_⟩|⟨_,rfl,_⟩
      ·exact(show [d,0]=n from hn).symm
      ·exact(show [d,0]=n from hn).symm
     have om:∀n,¬cC ob n:=fun n hn=>by
      rcases hM with⟨_,_,zc,rfl,zm⟩|⟨_,_,el,ty,xs,rfl⟩
      ·exact zm n hn
      ·exact hn
     refine⟨_,_,true,⟨⟨hd,fun s' h1 h2 h3=>?_,fun p hp=>?_,fun n hn=>?_⟩,fun s' h1 h2 h3=>?_⟩,fun h4=>absurd h4 k4,rfl,fun t ht=>?_,fun hb=>?_⟩
     ·rw[jV hg]
      have hf':=h3 rfl
      obtain⟨d1,d2⟩:=hf'.drops [[d,0]] (fun n hn=>by rw[List.mem_singleton.1 hn];exact Nat.beq_refl d)
      have e1:mT (R:=St) E o s' some=some (((s'.drop [d,0]).setO [d,0] ob).put (some d) v):=by
       grind
      rw[e1]
      refine congrArg some (St.ext' (fun i=>?_) fun n=>?_)
      ·rw[cB,cB]
       by_cases q:i=d
       ·simp_all
       ·rw[if_neg q,if_neg q];exact d1 i q
      ·show(bif Nm.eqb n [d,0]then some ob else(s'.drop [d,0]).o n)=(match(bif Nm.eqb [d,0] n then some ob else none)with|some ob=>some ob|none=>s'.o n)
       rw[show(s'.drop [d,0]).o n=s'.o n from congrFun d2 n]
       cases q:Nm.eqb n [d,0]with
       |true=>rw[bx.1 q];simp[Nm.eqb]
       |false =>
        grind [Nm.eqb,a0]
     ·rw[List.mem_singleton.1 hp];exact Nat.beq_refl d
     ·rcases hn with hn|⟨p,hp,hn⟩
      ·rw[vm n hn]
       exact .inl (Nat.beq_refl d)
      ·simp_all
     ·grind [xT,yn,pC]
     ·grind [aG,stm,St.over,bM,yv,St.put]
     ·rcases hM with⟨ha,_⟩|⟨_,rfl,el,ty,xs,rfl⟩
      ·exfalso
       rcases hal with⟨t,hop⟩|⟨t,n,hop⟩
       ·rw[hop]at hb;cases hb
       ·rw[hop]at ha;cases ha
      ·simp_all
end
def bP (o:Oper):Option Nat:=match o.dst,o.op with
 |none, .store _ (.tmp a) _=>some a
 |_,_=>none
section
variable{fr:Bool}{E:aW}{l:List Oper}{o:Oper}{s s1:St}
theorem zi{cs new:List CV}{off:Nat}{n:Nm}(h:bM (vR cs off new) n):bM cs n∨bM new n:=by
 grind [vR,bM]
theorem R5{d:Nat}(hs:bP o=some d) (hg:o.guard=none) (hk:aG E o=2) (hi:s.t d = .c (.pb [d,0] 0)) (h:stm fr E l o s=some s1) :
  ∃ob0 ob,s.o [d,0]=some ob0∧s1=s.setO [d,0] ob∧stg E l o s=some s1∧(∀s':St,(∀t∈gF l o,s'.t t=s.t t)→s'.o [d,0]=s.o [d,0]→stm fr E l o s'=some (s'.setO [d,0] ob))∧∀n,cC ob n→cC ob0 n∨∃t∈gF l o,aJ (s.t t) n:=by
 have hss:∀s,stm fr E l o s=stg E l o s:=fun s=>kM ⟨fun q=>(by rw[hk]at q;cases q),by rw[hk];decide⟩
 obtain⟨T,x,hd,hop⟩:∃T x,o.dst=none∧o.op = .store T (.tmp d) x:=by
  grind [bP,split]
 have form:∀s2:St,s2.t d = .c (.pb [d,0] 0)→stg E l o s2=(match E.τ.get T,eQ (s2.ev x)with
   |some ti,some new=>bif (Nat.beq new.length ti.size&&new.all CV.fine)then(match s2.o [d,0]with
    |some (.box cs)=>bif Nat.ble (0+new.length) cs.length then some (s2.setO [d,0] (.box (vR cs 0 new)))else none
    |_=>none)else none
   |_,_=>none):=by
  intro s2 h2
  rw[jV hg]
  unfold mT
  rw[hop,hd]
  show(match eZ E.τ (.store T (.tmp d) x) s2.ev s2.o with
   |some (c,v)=>bif dn E.N none then(match c with|true=>some (s2.put none v)|false=>none)else none
   |none=>match lE E.τ (.store T (.tmp d) x) none s2 with
    |some (c,s')=>(match c with|true=>some s'|false=>none)
    |none=>none)=_
  have hv:eZ E.τ (.store T (.tmp d) x) s2.ev s2.o=none:=rfl
  rw[hv]
  dsimp only
  have hw:lE E.τ (.store T (.tmp d) x) none s2=(match E.τ.get T,s2.ev (.tmp d),eQ (s2.ev x)with
   |some ti, .c p,some new=>bif (Nat.beq new.length ti.size&&new.all CV.fine)then(match mG s2.o new p with
    |some (nm,ob)=>some (true,(s2.setO nm ob).put none (.c .dead))
    |none=>none)else none
   |_,_,_=>none):=rfl
  rw[hw,show s2.ev (.tmp d) = .c (.pb [d,0] 0)from h2]
  cases E.τ.get T with
  |none=>rfl
  |some ti =>
   cases eQ (s2.ev x)with
   |none=>rfl
   |some new =>
    dsimp only
    cases(Nat.beq new.length ti.size&&new.all CV.fine)with
    |false=>rfl
    |true =>
     dsimp only[cond_true]
     unfold mG
     dsimp only
     cases s2.o [d,0]with
     |none=>rfl
     |some ob =>
      cases ob with
      |box cs =>
       dsimp only
       cases Nat.ble (0+new.length) cs.length<;>rfl
      |_=>rfl
 have hx:x∈o.op.operands:=by rw[hop];simp[Op.operands]
 have hdr:d∈gF l o:=List.mem_append_left _ (List.mem_flatMap.2 ⟨.tmp d,by rw[hop];simp[Op.operands],List.mem_singleton.2 rfl⟩)
 rw[hss]at h
 have hsg:=h
 rw[form s hi]at h
 cases hT:E.τ.get T with
 |none=>rw[hT]at h;cases h
 |some ti =>
  cases hc:eQ (s.ev x)with
  |none=>rw[hT,hc]at h;cases h
  |some new =>
   rw[hT,hc]at h
   dsimp only at h
   cases hf:(Nat.beq new.length ti.size&&new.all CV.fine)with
   |false=>rw[hf]at h;cases h
   |true =>
    rw[hf]at h
    dsimp only[cond_true]at h
    cases ho:s.o [d,0]with
    |none=>rw[ho]at h;cases h
    |some ob =>
     rw[ho]at h
     cases ob with
     |box cs =>
      dsimp only at h
      cases hl:Nat.ble (0+new.length) cs.length with
      |false=>rw[hl]at h;cases h
      |true =>
       rw[hl]at h
       refine⟨_, .box (vR cs 0 new),rfl,(Option.some.inj h).symm,hsg,fun s' h1 h2=>?_,fun n hn=>?_⟩
       ·rw[hss,form s' ((h1 d hdr).trans hi),hT, ←ne h1 x hx,hc]
        dsimp only
        rw[hf,h2]
        dsimp only[cond_true]
        rw[hl];rfl
       ·rcases zi hn with hn|hn
        ·exact .inl hn
        ·exact .inr (rL hx (kU hc hn))
     |_=>cases h
end
def l6 (t:Nat) (s:St):Prop:=s.t t = .c (.own [t,0])∧(∀i,i≠t→¬aJ (s.t i) [t,0])∧∀m ob,s.o m=some ob→¬cC ob [t,0]
def yU (t k d:Nat) (ob:Ob) (s:St):St:=⟨fun i=>if i=d then .c (.own [d,0])else if i=t then .c (.hd k)else s.t i,fun m=>if m=[d,0]then some ob else if m=[t,0]then none else s.o m⟩
theorem CV.past_id{n:Nm}{k:Nat}{c:CV}(h:¬dc c n):c.past n k=c:=by
 cases c with
 |own m =>
  grind [Nm.eqb,a0,dc,CV.past,AV.past,Ob.past,St.past]
 |_=>exact CV.drop_id h
theorem K2.past_id{n:Nm}{k:Nat}{cs:List CV}(h:¬bM cs n):cs.map (CV.past n k)=cs:=by
 have e:cs.map (CV.past n k)=cs.map (fun c=>c):=List.map_congr_left fun c hc=>CV.past_id (fun q=>h ⟨c,hc,q⟩)
 rw[e,List.map_id']
theorem AV.past_id{n:Nm}{k:Nat}{v:AV}(h:¬aJ v n):v.past n k=v:=by
 cases v with
 |c x=>exact congrArg AV.c (CV.past_id h)
 |g cs=>exact congrArg AV.g (K2.past_id h)
 |tup l =>
  refine congrArg AV.tup ?_
  have e:l.map (fun p=>(p.1,p.2.map (CV.past n k)))=l.map (fun p=>p):=List.map_congr_left fun p hp=>Prod.ext rfl (K2.past_id (fun q=>h ⟨p,hp,q⟩))
  rw[e,List.map_id']
theorem Ob.past_id{n:Nm}{k:Nat}{x:Ob}(h:¬cC x n):x.past n k=x:=by
 cases x with
 |box cs=>exact congrArg Ob.box (K2.past_id h)
 |arr=>rfl
 |mp=>rfl
theorem Ki{t k d:Nat}{s:St}{ob:Ob}(hc:l6 t s) (hf:dJ d s) (hne:d≠t):(((s.past [t,0] k).drop [d,0]).setO [d,0] ob).put (some d) (.c (.own [d,0]))=yU t k d ob s:=by
 have hdt:([d,0]:Nm)≠[t,0]:=fun q=>hne (by injection q)
 refine St.ext' (fun i=>?_) fun m=>?_
 ·rw[cB]
  show(if i=d then _ else((s.t i).past [t,0] k).drop [d,0])=(if i=d then _ else if i=t then _ else _)
  by_cases q:i=d
  ·simp_all
  ·rw[if_neg q,if_neg q]
   by_cases q2:i=t
   ·rw[if_pos q2,q2,hc.1]
    show AV.c (CV.drop [d,0] (bif Nm.eqb [t,0] [t,0]then CV.hd k else CV.own [t,0]))=_
    rw[mw];rfl
   ·rw[if_neg q2,AV.past_id (hc.2.1 i q2)]
    exact AV.drop_id (hf.1 i q [d,0] (Nat.beq_refl d))
 ·show(bif Nm.eqb m [d,0]then some ob else bif Nm.eqb m [d,0]then none else(bif Nm.eqb m [t,0]then none else(s.o m).map (Ob.past [t,0] k)).map (Ob.drop [d,0]))=(if m=[d,0]then some ob else if m=[t,0]then none else s.o m)
  cases q:Nm.eqb m [d,0]with
  |true=>grind [bx]
  |false =>
   rw[if_neg (a0.1 q)]
   cases q2:Nm.eqb m [t,0]with
   |true=>grind [bx]
   |false =>
    rw[if_neg (a0.1 q2)]
    cases ho:s.o m with
    |none=>rfl
    |some x =>
     show some ((x.past [t,0] k).drop [d,0])=some x
     rw[Ob.past_id (hc.2.2 m x ho),Ob.drop_id ((hf.2 m x ho).2 [d,0] (Nat.beq_refl d))]
def ta (o:Nm→Option Ob):AV→Option ((t:Ty)→Option (List t.den))
 | .c y=>some fun t=>source o t y
 |_=>none
def AQ (τ:jx) (ats:List TypeId) (ob0:Option Ob) (f:Option ((t:Ty)→Option (List t.den))):Option (Bool×Nat×Ob):=match f,ats with
 |some f,[at_,bt_]=>match τ.get at_ with
  |some ti=>bif (Nat.beq ti.kind 3&&Nat.beq at_ bt_)then(match τ.get ti.el with
   |some te=>match te.ty with
    |some ty=>bif Nat.ble te.bytes 4096 then(match ob0 with
     |some (.arr q u xs)=>bif Nat.beq q ti.el then(match Ty.same u ty with
      |some ⟨h⟩=>match f ty with
       |some ys=>some (cJ ((Ty.cast (congrArg Ty.sl h) xs).length+ys.length),(Ty.cast (congrArg Ty.sl h) xs).length, .arr ti.el ty (Ty.cast (congrArg Ty.sl h) xs++ys))
       |none=>none
      |none=>none)else none
     |_=>none)else none
    |none=>none
   |none=>none)else none
  |none=>none
 |_,_=>none
theorem GP {τ:jx}{c:Call}{d t:Nat}{y:Operand}{s:St}(hc:c.callee = .builtin .append) (ha:c.args.toList=[.tmp t,y]) (ht:s.t t = .c (.own [t,0])) :
  lE τ (.call c) (some d) s=(AQ τ c.argTypes.toList (s.o [t,0]) (ta s.o (s.ev y))).map fun r=>(r.1,(((s.past [t,0] r.2.1).drop [d,0]).setO [d,0] r.2.2).put (some d) (.c (.own [d,0]))):=by
 obtain⟨callee,args,argTypes⟩:=c
 obtain rfl:=hc
 have ha:args.toList=[.tmp t,y]:=ha
 unfold lE
 dsimp only
 rw[ha]
 show(match(some d:Option Nat),[s.t t,s.ev y],argTypes.toList with
  |some d,[.c x, .c y],[at_,bt_]=>_
  |_,_,_=>none)=_
 rw[ht]
 unfold AQ
 generalize s.ev y=Y
 generalize argTypes.toList=ats
 cases Y with
 |g=>cases ats<;>rfl
 |tup=>cases ats<;>rfl
 |c Y =>
  match ats with
  |[]=>rfl
  |[_]=>rfl
  |_::_::_::_=>rfl
  |[at_,bt_] =>
   unfold ta
   dsimp only
   cases τ.get at_ with
   |none=>rfl
   |some ti =>
    dsimp only
    cases(Nat.beq ti.kind 3&&Nat.beq at_ bt_)with
    |false=>rfl
    |true =>
     dsimp only[cond_true]
     cases τ.get ti.el with
     |none=>rfl
     |some te =>
      dsimp only
      cases te.ty with
      |none=>rfl
      |some ty =>
       dsimp only
       cases Nat.ble te.bytes 4096 with
       |false=>rfl
       |true =>
        dsimp only[cond_true]
        cases s.o [t,0]with
        |none=>rfl
        |some ob =>
         cases ob with
         |box=>rfl
         |mp=>rfl
         |arr q u xs =>
          dsimp only
          cases Nat.beq q ti.el with
          |false=>rfl
          |true =>
           dsimp only[cond_true]
           cases Ty.same u ty with
           |none=>rfl
           |some h =>
            dsimp only
            cases source s.o ty Y<;>rfl
theorem Ba{o o':Nm→Option Ob}{t:Ty}{c:CV}(h:∀n,dc c n→o' n=o n):source o' t c=source o t c:=by
 cases c with
 |own m=>simp_all [source,dc]
 |_=>rfl
theorem DC{o o':Nm→Option Ob}{y:AV}(h:∀n,aJ y n→o' n=o n):ta o' y=ta o y:=by
 cases y with
 |g=>rfl
 |tup=>rfl
 |c y=>grind [Ba,aJ,ta]
theorem GA {τ:jx}{ats:List TypeId}{ob0:Option Ob}{f:Option ((t:Ty)→Option (List t.den))}:∀r,AQ τ ats ob0 f=some r→∀n,¬cC r.2.2 n:=by
 have key:∀x:Option (Bool×Nat×Ob),(match x with|some r=>(match r.2.2 with | .arr _ _ _=>true|_=>false)|none=>true)=true→∀r,x=some r→∀n,¬cC r.2.2 n:=fun x hx r hr n hn=>by
  grind [AQ,cC]
 refine key _ ?_
 unfold AQ
 match f,ats with
 |none,_=>rfl
 |some f,[]=>rfl
 |some f,[_]=>rfl
 |some f,_::_::_::_=>rfl
 |some f,[at_,bt_] =>
  dsimp only
  cases τ.get at_ with
  |none=>rfl
  |some ti =>
   dsimp only
   cases(Nat.beq ti.kind 3&&Nat.beq at_ bt_)with
   |false=>rfl
   |true =>
    dsimp only[cond_true]
    cases τ.get ti.el with
    |none=>rfl
    |some te =>
     grind
section
variable{fr:Bool}{E:aW}{l:List Oper}{o:Oper}{s s1:St}
theorem k9{t:Nat}(h:jd o=some t):∃c y d,o.op = .call c∧c.callee = .builtin .append∧c.args.toList=[.tmp t,y]∧o.dst=some d:=by
 grind [jd,split]
theorem QS{t d:Nat}(ha:jd o=some t) (hd:o.dst=some d) (hk:aG E o=6) (hc:l6 t s) (hf:dJ d s) (hne:d≠t) (h:stm fr E l o s=some s1) :
  ∃k ob,s1=yU t k d ob s∧(∀n,¬cC ob n)∧stg E l o s=some s1∧∀s':St,(∀i∈gF l o,s'.t i=s.t i)→(∀i∈gF l o, ∀n,aJ (s.t i) n→s'.o n=s.o n)→l6 t s'→dJ d s'→stm fr E l o s'=some (yU t k d ob s'):=by
 have hss:∀s,stm fr E l o s=stg E l o s:=fun s=>kM ⟨fun q=>(by rw[hk]at q;cases q),by rw[hk];decide⟩
 have hg:o.guard=none:=lm (E:=E) (o:=o) (by omega) (by omega)
 obtain⟨c,y,d',hop,hcc,hca,hd'⟩:=k9 ha
 obtain rfl:d=d':=Option.some.inj (hd.symm.trans hd')
 have hyo:y∈o.op.operands:=by
  rw[hop]
  simp only[Op.operands,Call.operands,Array.mem_append]
  right
  rw[←Array.mem_toList_iff,hca]
  exact .tail _ (.head _)
 have hto:t∈gF l o:=List.mem_append_left _ (List.mem_flatMap.2 ⟨.tmp t,by
  rw[hop]
  simp only[Op.operands,Call.operands,Array.toList_append,List.mem_append]
  right
  rw[hca]
  exact .head _,List.mem_singleton.2 rfl⟩)
 have form:∀s2:St,l6 t s2→dJ d s2→stg E l o s2=(match AQ E.τ c.argTypes.toList (s2.o [t,0]) (ta s2.o (s2.ev y))with
   |some r=>bif Nat.blt d E.N then(match r.1 with|true=>some (yU t r.2.1 d r.2.2 s2)|false=>none)else none
   |none=>none):=by
  intro s2 h2 h3
  rw[jV hg]
  have hvo:eZ E.τ (.call c) s2.ev s2.o=none:=by
   obtain⟨callee,args,argTypes⟩:=c
   obtain rfl:=hcc
   rfl
  have hmo:pC E.τ (.call c) (s2.drop [d,0]).ev [d,0]=none:=rfl
  have e1:mT (R := St) E o s2 some = (match eZ E.τ (.call c) s2.ev s2.o with
        |some (c,v)=>bif dn E.N (some d)then(match c with|true=>some (s2.put (some d) v)|false=>none)else none
        |none=>bif Nat.blt d E.N then(match pC E.τ (.call c) (s2.drop [d,0]).ev [d,0]with
         |some (c,ob,v)=>(match c with|true=>some (((s2.drop [d,0]).setO [d,0] ob).put (some d) v)|false=>none)
         |none=>match lE E.τ (.call c) (some d) s2 with
          |some (c,s'')=>(match c with|true=>some s''|false=>none)
          |none=>rB E.τ (.call c) d s2 some)else none):=by
   unfold mT
   rw[hd,hop]
   obtain⟨callee,args,argTypes⟩:=c
   obtain rfl:=hcc
   rfl
  rw[e1,hvo,hmo,GP hcc hca h2.1]
  dsimp only
  cases AQ E.τ c.argTypes.toList (s2.o [t,0]) (ta s2.o (s2.ev y))with
  |none=>cases Nat.blt d E.N<;>rfl
  |some r =>
   cases Nat.blt d E.N with
   |false=>rfl
   |true =>
    dsimp only[cond_true,Option.map_some]
    rw[Ki h2 h3 hne]
 rw[hss]at h
 have hsg:=h
 rw[form s hc hf]at h
 cases hr:AQ E.τ c.argTypes.toList (s.o [t,0]) (ta s.o (s.ev y))with
 |none=>rw[hr]at h;cases h
 |some r =>
  rw[hr]at h
  obtain⟨b,k,ob⟩:=r
  dsimp only at h
  cases hN:Nat.blt d E.N with
  |false=>rw[hN]at h;cases h
  |true =>
   rw[hN,cond_true]at h
   cases b with
   |false=>cases h
   |true =>
    refine⟨k,ob,(Option.some.inj h).symm,GA _ hr,hsg,fun s' h1 h2 h3 h4=>?_⟩
    rw[hss,form s' h3 h4, ←ne h1 y hyo,h2 t hto [t,0] (by rw[hc.1];exact rfl),DC (o:=s.o) (fun n hn=>by
     obtain⟨i,hi,hm⟩:=rL (l:=l) hyo hn
     exact h2 i hi n hm),hr]
    dsimp only
    rw[hN];rfl
end
def lP (l:List Oper) (i:Nat):Bool:=match l[i]? with
 |some o=>(match jd o with|some _=>true|none=>false)
 |none=>false
def FY (l:List Oper) (z:Nat×Nat) (o:Oper):Bool:=bif lP l z.1 then yv o.op else lQ o.op
def FI (E:aW) (l:List Oper) (rs:List (List Nat)) (zs:List (Nat×Nat)) (i:Nat):Bool:=match l[i]? with
  |none=>false
  |some o =>
    (match aG E o with
      |0=>true
      |1=>true
      |4=>true
      |2=>(match bP o with|some d=>zs.any (fun z=>Nat.beq z.1 i&&Nat.beq z.2 d)|none=>false)
      |6=>(match jd o,o.dst with|some t,some d => !Nat.beq d t&&zs.any (fun z=>Nat.beq z.1 i&&Nat.beq z.2 t)|_,_=>false)
      |_=>false) &&
    ((List.range l.length).all (fun j=>Nat.beq j i || (match l[j]? with
      |some p=>(match p.dst with
        |some e=>(a9 j (rs.getD i []) || !a9 e (gF l o))&&(match o.dst with|some d => !Nat.beq d e|none=>true)
        |none=>true)
      |none=>true)) &&
     zs.all (fun z=>Nat.beq z.1 i || (a9 z.1 (rs.getD i []) || (!a9 z.2 (gF l o)&&(match o.dst with|some d => !Nat.beq d z.2 || FY l z o|none=>true)))))
def mi (fr:Bool):Nat→Bool
 |0=>true
 |4=>true
 |1=>fr
 |_=>false
def IQ (l:List Oper) (a b:Oper):Bool:=match jd a with
 |some t => !a9 t (gF l b)&&(match b.dst with|some e => !Nat.beq e t|none=>false)
 |none=>false
def zK (E:aW) (l:List Oper) (rs:List (List Nat)) (fr:Bool) (i j:Nat):Bool:=match l[i]?,l[j]? with
 |some a,some b=>a9 i (rs.getD j []) || (match a.dst with
  |some d=>(mi fr (aG E a) || (fr&&Nat.beq (aG E a) 6&&IQ l a b))&&(!a9 d (gF l b)&&(match b.dst with
   |some e=>(mi fr (aG E b) || (fr&&Nat.beq (aG E b) 6&&(mi fr (aG E a)&&IQ l b a)))&&(!Nat.beq d e && !a9 e (gF l a))
   |none=>fr&&(match bP b with
    |some z=>Nat.beq (aG E b) 2&&(!Nat.beq d z && !a9 z (gF l a))
    |none=>false)))
  |none=>false)
 |_,_=>false
def zO (l:List Oper) (i j:Nat):Bool:=match l[i]? with
 |some a => !a9 j (bC a)
 |none=>false
def ji (l:List Oper) (z:Nat×Nat) (s:St):Prop:=match lP l z.1 with
 |true=>l6 z.2 s
 |false=>tG z.2 s
def vI (fr:Bool) (l:List Oper) (zs:List (Nat×Nat)) (L:List Nat) (s:St):Prop:=fr=true →
 (∀i∈L, ∀o d,l[i]?=some o→o.dst=some d→dJ d s)∧∀z∈zs,z.1∈L→(∃i∈L, ∃o,l[i]?=some o∧o.dst=some z.2)∨ji l z s
theorem g9{n:Nm}{x:Ob}:∀{ups:List (Nm×Ob)},a5 ups n=some x→(n,x)∈ups
 |[],h=>by cases h
 |p::r,h=>by
  have h:(bif Nm.eqb p.1 n then some p.2 else a5 r n)=some x:=h
  cases q:Nm.eqb p.1 n with
  |true =>
   grind [bx]
  |false=>rw[q]at h;exact List.mem_cons_of_mem _ (g9 h)
theorem pP (s:St) (ups:List (Nm×Ob)) (d:Nat) (v:AV){n:Nm}{x:Ob}(h:((s.over ups).put (some d) v).o n=some x):(n,x)∈ups∨(a5 ups n=none∧s.o n=some x):=by
 grind [a5,g9,St.over,St.put]
theorem io{s:St}{ups:List (Nm×Ob)}{d:Nat}{v:AV}{n:Nm}(h:∀p∈ups,p.1≠n):a5 ups n=none∧((s.over ups).put (some d) v).o n=s.o n:=by
 have:a5 ups n=none:=by
  cases q:a5 ups n with
  |none=>rfl
  |some x=>exact absurd rfl (h _ (g9 q))
 refine⟨this,?_⟩
 show(match a5 ups n with|some ob=>some ob|none=>s.o n)=s.o n
 rw[this]
section
variable{fr:Bool}{E:aW}{l:List Oper}{s s1:St}
theorem rd{o:Oper}{q:Bool}{d e:Nat}{v:AV}{ups:List (Nm×Ob)}(hm:EH fr E l o q s d v ups) (hne:d≠e) (hr:e∉gF l o) (hf:dJ e s):dJ e ((s.over ups).put (some d) v):=by
 have key:∀n,bW e n=true→¬(aJ v n∨∃p∈ups,cC p.2 n):=by
  intro n hn hc
  rcases hm.m.ment n hc with h|⟨t,ht,h⟩|⟨t,ht,m,y,h1,h2,h3⟩
  ·grind [sm]
  ·exact hf.1 t (fun q=>hr (q▸ht)) n hn h
  ·exact(hf.2 m y h2).2 n hn h3
 refine⟨fun t ht n hn h=>?_,fun m x hx=>?_⟩
 ·rw[cB]at h
  by_cases q:t=d
  ·simp_all
  ·rw[if_neg q]at h;exact hf.1 t ht n hn h
 ·rcases pP s ups d v hx with h|⟨_,h⟩
  ·exact⟨sm hne (hm.m.hd _ h),fun n hn h2=>key n hn (.inr ⟨_,h,h2⟩)⟩
  ·exact hf.2 m x h
theorem IV{o:Oper}{q:Bool}{d z:Nat}{v:AV}{ups:List (Nm×Ob)}(hm:EH fr E l o q s d v ups) (hne:d≠z) (hr:z∉gF l o) (hf:tG z s):tG z ((s.over ups).put (some d) v):=by
 have key:¬(aJ v [z,0]∨∃p∈ups,cC p.2 [z,0]):=by
  intro hc
  rcases hm.m.ment _ hc with h|⟨t,ht,h⟩|⟨t,ht,m,y,h1,h2,h3⟩
  ·exact hne (Nat.eq_of_beq_eq_true h).symm
  ·exact hf.2.1 t (fun q=>hr (q▸ht)) h
  ·exact hf.2.2 m y h2 h3
 refine⟨?_,fun t ht h=>?_,fun m x hx h2=>?_⟩
 ·rw[cB,if_neg (Ne.symm hne)];exact hf.1
 ·rw[cB]at h
  by_cases q:t=d
  ·simp_all
  ·rw[if_neg q]at h;exact hf.2.1 t ht h
 ·rcases pP s ups d v hx with h|⟨_,h⟩
  ·grind
  ·exact hf.2.2 m x h h2
theorem vr{o:Oper}{q:Bool}{d z:Nat}{v:AV}{ups:List (Nm×Ob)}(hm:EH fr E l o q s d v ups) (hne:d≠z) (hr:z∉gF l o) (hf:l6 z s):l6 z ((s.over ups).put (some d) v):=by
 have key:¬(aJ v [z,0]∨∃p∈ups,cC p.2 [z,0]):=by
  intro hc
  rcases hm.m.ment _ hc with h|⟨t,ht,h⟩|⟨t,ht,m,y,h1,h2,h3⟩
  ·exact hne (Nat.eq_of_beq_eq_true h).symm
  ·exact hf.2.1 t (fun q=>hr (q▸ht)) h
  ·exact hf.2.2 m y h2 h3
 refine⟨?_,fun t ht h=>?_,fun m x hx h2=>?_⟩
 ·rw[cB,if_neg (Ne.symm hne)];exact hf.1
 ·rw[cB]at h
  by_cases q:t=d
  ·simp_all
  ·rw[if_neg q]at h;exact hf.2.1 t ht h
 ·rcases pP s ups d v hx with h|⟨_,h⟩
  ·grind
  ·exact hf.2.2 m x h h2
theorem Gp{z:Nat×Nat}{o:Oper}{q:Bool}{d:Nat}{v:AV}{ups:List (Nm×Ob)}(hm:EH fr E l o q s d v ups) (hne:d≠z.2) (hr:z.2∉gF l o) (hf:ji l z s):ji l z ((s.over ups).put (some d) v):=by
 grind [ji,lP,vr,IV]
theorem C0{t k d e:Nat}{ob:Ob}(ho:∀n,¬cC ob n) (hne:d≠e) (hf:dJ e s):dJ e (yU t k d ob s):=by
 refine⟨fun i hi n hn h=>?_,fun m x hx=>?_⟩
 ·have h:aJ (if i=d then .c (.own [d,0])else if i=t then .c (.hd k)else s.t i) n:=h
  by_cases q:i=d
  ·rw[if_pos q]at h
   have h:[d,0]=n:=h
   rw[←h]at hn
   exact hne (Nat.eq_of_beq_eq_true hn)
  ·rw[if_neg q]at h
   by_cases q2:i=t
   ·rw[if_pos q2]at h;exact h
   ·grind [cC,dJ,yU]
 ·have hx:(if m=[d,0]then some ob else if m=[t,0]then none else s.o m)=some x:=hx
  by_cases q:m=[d,0]
  ·rw[if_pos q]at hx
   obtain rfl:=Option.some.inj hx
   rw[q]
   refine⟨?_,fun n _=>ho n⟩
   show Nat.beq d e=false
   cases w:Nat.beq d e with
   |false=>rfl
   |true=>simp_all
  ·grind [cC,dJ,yU]
theorem CQ{t k d z:Nat}{ob:Ob}(ho:∀n,¬cC ob n) (hne:d≠z) (h1:∀i,i≠z→¬aJ (s.t i) [z,0]) (h2:∀m x,s.o m=some x→¬cC x [z,0]):(∀i,i≠z→¬aJ ((yU t k d ob s).t i) [z,0])∧∀m x,(yU t k d ob s).o m=some x→¬cC x [z,0]:=by
 refine⟨fun i hi h=>?_,fun m x hx h=>?_⟩
 ·have h:aJ (if i=d then .c (.own [d,0])else if i=t then .c (.hd k)else s.t i) [z,0]:=h
  by_cases q:i=d
  ·rw[if_pos q]at h
   have h:[d,0]=[z,0]:=h
   injection h with h _
   exact hne h
  ·rw[if_neg q]at h
   by_cases q2:i=t
   ·rw[if_pos q2]at h;exact h
   ·simp_all
 ·grind [cC,aJ,yU]
theorem C2{t k d z:Nat}{ob:Ob}(h1:z≠d) (h2:z≠t):(yU t k d ob s).t z=s.t z:=by
 simp_all [yU]
theorem Gq{z:Nat×Nat}{t k d:Nat}{ob:Ob}(ho:∀n,¬cC ob n) (hne:d≠z.2) (hzt:z.2≠t) (hf:ji l z s):ji l z (yU t k d ob s):=by
 unfold ji at hf ⊢
 cases w:lP l z.1 with
 |true =>
  rw[w]at hf
  exact⟨by rw[C2 (Ne.symm hne) hzt];exact hf.1,CQ ho hne hf.2.1 hf.2.2⟩
 |false =>
  rw[w]at hf
  exact⟨by rw[C2 (Ne.symm hne) hzt];exact hf.1,CQ ho hne hf.2.1 hf.2.2⟩
theorem Jw{t k d db:Nat}{ob:Ob}{vb:AV}{ub:List (Nm×Ob)}(hub:∀p∈ub,bW db p.1=true) (h1:db≠d) (h2:db≠t):((yU t k d ob s).over ub).put (some db) vb=yU t k d ob ((s.over ub).put (some db) vb):=by
 refine St.ext' (fun i=>?_) fun m=>?_
 ·rw[cB]
  show(if i=db then vb else if i=d then _ else if i=t then _ else s.t i)=(if i=d then _ else if i=t then _ else((s.over ub).put (some db) vb).t i)
  rw[cB]
  by_cases q:i=db
  ·simp_all
  ·rw[if_neg q,if_neg q];rfl
 ·show(match a5 ub m with|some x=>some x|none=>(if m=[d,0]then some ob else if m=[t,0]then none else s.o m))=(if m=[d,0]then some ob else if m=[t,0]then none else(match a5 ub m with|some x=>some x|none=>s.o m))
  cases w:a5 ub m with
  |none=>rfl
  |some x =>
   have hh:=hub _ (g9 w)
   have n1:m≠[d,0]:=fun e=>by
    simp_all [bW]
   have n2:m≠[t,0]:=fun e=>by
    simp_all [bW]
   simp only[if_neg n1,if_neg n2]
theorem Cl{a b:Oper}{qa qb:Bool}{da db:Nat}{va vb:AV}{ua ub:List (Nm×Ob)}(ha:EH fr E l a qa s da va ua) (hb:EH fr E l b qb ((s.over ua).put (some da) va) db vb ub) (hne:da≠db) (h1:da∉gF l b) (h2:db∉gF l a)
  (hcase:(ua=[]∧ub=[]∧qa=false∧qb=false)∨(dJ da s∧dJ db s)) :
  stm fr E l b s=some ((s.over ub).put (some db) vb)∧stm fr E l a ((s.over ub).put (some db) vb)=some ((((s.over ua).put (some da) va).over ub).put (some db) vb):=by
 have st:∀t,t≠da→((s.over ua).put (some da) va).t t=s.t t:=fun t ht=>by rw[cB,if_neg ht];rfl
 have st2:∀t,t≠db→((s.over ub).put (some db) vb).t t=s.t t:=fun t ht=>by rw[cB,if_neg ht];rfl
 have eb:stm fr E l b s=some ((s.over ub).put (some db) vb):=by
  refine hb.stm s (fun t ht=>(st t (fun q=>h1 (q▸ht))).symm) (fun t ht n hn=>?_) (fun q=>?_)
  ·rcases hcase with⟨rfl,_⟩|⟨f1,_⟩
   ·rfl
   ·rw[st t (fun q=>h1 (q▸ht))]at hn
    exact(io (fun p hp e=>f1.1 t (fun q=>h1 (q▸ht)) n (by rw[←e];exact ha.m.hd p hp) hn)).2.symm
  ·simp_all
 refine⟨eb,?_⟩
 have ea:stm fr E l a ((s.over ub).put (some db) vb)=some ((((s.over ub).put (some db) vb).over ua).put (some da) va):=by
  refine ha.stm _ (fun t ht=>st2 t (fun q=>h2 (q▸ht))) (fun t ht n hn=>?_) (fun q=>?_)
  ·rcases hcase with⟨_,rfl,_⟩|⟨_,f2⟩
   ·rfl
   ·exact(io (fun p hp e=>f2.1 t (fun q=>h2 (q▸ht)) n (by rw[←e];exact hb.m.hd p hp) hn)).2
  ·rcases hcase with⟨_,_,q',_⟩|⟨f1,f2⟩
   ·simp_all
   ·have hb0:EH fr E l b qb s db vb ub:=⟨⟨hb.m.dst,fun s' g1 g2 g3=>hb.m.step s' (fun t ht=>(g1 t ht).trans (st t (fun q=>h1 (q▸ht))).symm) (fun t ht n hn=>by
      rw[st t (fun q=>h1 (q▸ht))]at hn
      rw[g2 t ht n hn]
      exact(io (fun p hp e=>f1.1 t (fun q=>h1 (q▸ht)) n (by rw[←e];exact ha.m.hd p hp) hn)).2.symm) g3,hb.m.hd,fun n hn=>by
       rcases hb.m.ment n hn with h|⟨t,ht,h⟩|⟨t,ht,m,y,g1,g2,g3⟩
       ·exact .inl h
       ·rw[st t (fun q=>h1 (q▸ht))]at h;exact .inr (.inl ⟨t,ht,h⟩)
       ·rw[st t (fun q=>h1 (q▸ht))]at g1
        rw[(io (fun p hp e=>f1.1 t (fun q=>h1 (q▸ht)) m (by rw[←e];exact ha.m.hd p hp) g1)).2]at g2
        exact .inr (.inr ⟨t,ht,m,y,g1,g2,g3⟩)⟩,fun s' g1 g2 g3=>hb.stm s' (fun t ht=>(g1 t ht).trans (st t (fun q=>h1 (q▸ht))).symm) (fun t ht n hn=>by
      rw[st t (fun q=>h1 (q▸ht))]at hn
      rw[g2 t ht n hn]
      exact(io (fun p hp e=>f1.1 t (fun q=>h1 (q▸ht)) n (by rw[←e];exact ha.m.hd p hp) hn)).2.symm) g3⟩
    exact rd hb0 (Ne.symm hne) h1 f1
 rw[ea]
 refine congrArg some (St.ext' (fun i=>?_) fun n=>?_)
 ·rw[cB,cB]
  show(if i=da then va else((s.over ub).put (some db) vb).t i)=(if i=db then vb else((s.over ua).put (some da) va).t i)
  rw[cB,cB]
  by_cases q:i=da
  ·rw[if_pos q,if_pos q,if_neg (fun q2=>hne (q.symm.trans q2))]
  ·rw[if_neg q,if_neg q];rfl
 ·show(match a5 ua n with|some ob=>some ob|none=>(match a5 ub n with|some ob=>some ob|none=>s.o n))=(match a5 ub n with|some ob=>some ob|none=>(match a5 ua n with|some ob=>some ob|none=>s.o n))
  cases q1:a5 ua n with
  |none=>rfl
  |some x =>
   cases q2:a5 ub n with
   |none=>rfl
   |some y =>
    exfalso
    have g1:=ha.m.hd _ (g9 q1)
    have g2:=hb.m.hd _ (g9 q2)
    rw[sm hne g1]at g2;cases g2
theorem GY{a b:Oper}{q:Bool}{da z:Nat}{va:AV}{ua:List (Nm×Ob)}(ha:EH fr E l a q s da va ua) (hs:bP b=some z) (hg:b.guard=none) (hk:aG E b=2) (hc:tG z s) (hf:dJ da s) (hne:da≠z) (hra:z∉gF l a) (hrb:da∉gF l b){s2:St}(h:stm fr E l b ((s.over ua).put (some da) va)=some s2) :
  ∃s1',stm fr E l b s=some s1'∧stm fr E l a s1'=some s2:=by
 have st:∀t,t≠da→((s.over ua).put (some da) va).t t=s.t t:=fun t ht=>by rw[cB,if_neg ht];rfl
 have hzd:∀p∈ua,p.1≠[z,0]:=fun p hp e=>hne (Nat.eq_of_beq_eq_true (show Nat.beq z da=true from by
  have:=ha.m.hd p hp
  rw[e]at this;exact this)).symm
 obtain⟨ob0,ob,g1,g2,_,g4,g5⟩:=R5 hs hg hk (by rw[st z (Ne.symm hne)];exact hc.1) h
 rw[(io hzd).2]at g1
 have e1:stm fr E l b s=some (s.setO [z,0] ob):=g4 s (fun t ht=>(st t (fun q=>hrb (q▸ht))).symm) (io hzd).2.symm
 refine⟨_,e1,?_⟩
 have mo:∀n,bW da n=true→¬cC ob n:=fun n hn hm=>by
  grind [bP,aG,tG,dJ,gF,stm,St.over,St.put]
 have hf':dJ da (s.setO [z,0] ob):=by
  refine⟨hf.1,fun m x hx=>?_⟩
  have hx:(bif Nm.eqb m [z,0]then some ob else s.o m)=some x:=hx
  cases w:Nm.eqb m [z,0]with
  |true =>
   rw[w]at hx
   obtain rfl:=Option.some.inj hx
   rw[bx.1 w]
   exact⟨(hf.2 _ ob0 g1).1,mo⟩
  |false=>rw[w]at hx;exact hf.2 m x hx
 have e2:=ha.stm (s.setO [z,0] ob) (fun _ _=>rfl) (fun t ht n hn=>by
  show(bif Nm.eqb n [z,0]then some ob else s.o n)=s.o n
  cases w:Nm.eqb n [z,0]with
  |true =>
   rw[bx.1 w]at hn
   exact absurd hn (hc.2.1 t (fun q=>hra (q▸ht)))
  |false=>rfl) (fun _=>hf')
 rw[e2,g2]
 refine congrArg some (St.ext' (fun i=>?_) fun n=>?_)
 ·show _=((s.over ua).put (some da) va).t i
  rw[cB,cB]
  rfl
 ·show(match a5 ua n with|some ob=>some ob|none=>(bif Nm.eqb n [z,0]then some ob else s.o n))=(bif Nm.eqb n [z,0]then some ob else(match a5 ua n with|some ob=>some ob|none=>s.o n))
  cases w:Nm.eqb n [z,0]with
  |false=>rfl
  |true=>rw[bx.1 w,(io (s:=s) (d:=da) (v:=va) hzd).1]
end
section
variable{fr:Bool}{E:aW}{l:List Oper}
theorem gq{o:Oper}{s s1:St}{d:Nat}(hd:o.dst=some d) (hk:mi fr (aG E o)=true) (h:stm fr E l o s=some s1):∃v ups q,EH fr E l o q s d v ups∧(aG E o≠1→q=false∧ups=[])∧s1=(s.over ups).put (some d) v∧(∀t,o.op = .alloc t→aG E o=1→∃zc,v = .c (.pb [d,0] 0)∧ups=[([d,0], .box zc)]∧∀n,¬bM zc n)∧(yv o.op=true→aG E o=1→∃el ty xs,v = .c (.own [d,0])∧ups=[([d,0], .arr el ty xs)]):=by
 have three:aG E o=0∨(aG E o=1∧fr=true)∨aG E o=4:=by
  grind [mi,split]
 rcases three with h0|h1
 ·obtain⟨d',v,m,rfl⟩:=L8 (fr:=fr) h0 h
  have:d'=d:=by
   have:=m.m.dst
   rw[hd]at this
   exact(Option.some.inj this).symm
  subst this
  exact⟨v,[],false,m,fun _=>⟨rfl,rfl⟩,rfl,fun t _ q=>(by rw[h0]at q;cases q),fun _ q=>(by rw[h0]at q;cases q)⟩
 ·grind [FZ]
theorem bf{n:Nat}{l:List Nat}(h:(!a9 n l)=true):n∉l:=fun q=>by grind [cS]
theorem lw{a b:Nat}(h:(!Nat.beq a b)=true):a≠b:=fun q=>by simp_all
theorem xE{zs:List (Nat×Nat)}{L:List Nat}{s:St}{i:Nat}{o:Oper}{t d:Nat}(hI:vI true l zs L s) (hi:i∈L) (ho:l[i]?=some o) (hok:FI E l (a8 l []) zs i=true) (hfree:∀a∈L,a9 a ((a8 l []).getD i [])=false) (hat:jd o=some t) (hd:o.dst=some d) (k6:aG E o=6):d≠t∧l6 t s:=by
 obtain⟨I1,I2⟩:=hI rfl
 unfold FI at hok
 rw[ho]at hok
 dsimp only at hok
 rw[Bool.and_eq_true,Bool.and_eq_true,k6]at hok
 obtain⟨hk,hB,hC⟩:=hok
 have hk:(match jd o,o.dst with|some t,some d => !Nat.beq d t&&zs.any (fun z=>Nat.beq z.1 i&&Nat.beq z.2 t)|_,_=>false)=true:=hk
 rw[hat,hd]at hk
 dsimp only at hk
 rw[Bool.and_eq_true,List.any_eq_true]at hk
 obtain⟨hdt,z,hz,hze⟩:=hk
 have hdt:=lw hdt
 rw[Bool.and_eq_true]at hze
 have z1:=Nat.eq_of_beq_eq_true hze.1
 have z2:=Nat.eq_of_beq_eq_true hze.2
 have htr:t∈gF l o:=by
  obtain⟨c,y,_,hop,_,hca,_⟩:=k9 hat
  refine List.mem_append_left _ (List.mem_flatMap.2 ⟨.tmp t,?_,List.mem_singleton.2 rfl⟩)
  rw[hop]
  simp only[Op.operands,Call.operands,Array.toList_append,List.mem_append]
  right
  rw[hca]
  exact .head _
 refine⟨hdt,?_⟩
 rcases I2 z hz (z1▸hi)with⟨j,hj,p,hp,he⟩|h
 ·grind [dz,bf]
 ·simp_all [lP,ji]
theorem Mf{zs:List (Nat×Nat)}{L L':List Nat}{s s1:St}{i:Nat}{o:Oper}(hI:vI true l zs L s) (hi:i∈L) (ho:l[i]?=some o) (hok:FI E l (a8 l []) zs i=true) (hfree:∀a∈L,a9 a ((a8 l []).getD i [])=false) (hlt:∀j∈L,j<l.length) (hs:stm true E l o s=some s1)
  (h1:∀j∈L',j∈L∧j≠i) (h2:∀j∈L,j≠i→j∈L'):stg E l o s=some s1∧vI true l zs L' s1:=by
 obtain⟨I1,I2⟩:=hI rfl
 unfold FI at hok
 rw[ho]at hok
 dsimp only at hok
 rw[Bool.and_eq_true,Bool.and_eq_true]at hok
 obtain⟨hk,hB,hC⟩:=hok
 have B:∀j∈L,j≠i→∀p e,l[j]?=some p→p.dst=some e→e∉gF l o∧∀d,o.dst=some d→d≠e:=by
  grind [dz,bf,lw]
 have C:∀z∈zs,z.1∈L→z.1≠i→z.2∉gF l o∧∀d,o.dst=some d→d≠z.2∨FY l z o=true:=by
  grind [dz,bf,lw]
 by_cases k2:aG E o=2
 ·-- a store
  rw[k2]at hk
  have hk:(match bP o with|some d=>zs.any (fun z=>Nat.beq z.1 i&&Nat.beq z.2 d)|none=>false)=true:=hk
  have hg:o.guard=none:=lm (E:=E) (o:=o) (by omega) (by omega)
  cases hss:bP o with
  |none=>rw[hss]at hk;cases hk
  |some d =>
   rw[hss]at hk
   dsimp only at hk
   rw[List.any_eq_true]at hk
   obtain⟨z,hz,hze⟩:=hk
   rw[Bool.and_eq_true]at hze
   have z1:=Nat.eq_of_beq_eq_true hze.1
   have z2:=Nat.eq_of_beq_eq_true hze.2
   have hdn:o.dst=none:=by
    grind [bP,split]
   have hdr:d∈gF l o:=by
    unfold bP at hss
    split at hss
    ·rename_i T a x _ hop
     obtain rfl:=Option.some.inj hss
     exact List.mem_append_left _ (List.mem_flatMap.2 ⟨.tmp a,by rw[hop];simp[Op.operands],List.mem_singleton.2 rfl⟩)
    ·cases hss
   have hcl:tG d s:=by
    grind [lP,jd,k9,ji]
   obtain⟨ob0,ob,g1,rfl,g3,_,g5⟩:=R5 hss hg k2 hcl.1 hs
   refine⟨g3,fun _=>⟨fun j hj p e hp he=>?_,fun z' hz' hzL=>?_⟩⟩
   ·obtain⟨hjL,hji⟩:=h1 j hj
    have hf:=I1 j hjL p e hp he
    have hb:=(B j hjL hji p e hp he).1
    refine⟨hf.1,fun m x hx=>?_⟩
    have hx:(bif Nm.eqb m [d,0]then some ob else s.o m)=some x:=hx
    cases w:Nm.eqb m [d,0]with
    |true =>
     rw[w]at hx
     obtain rfl:=Option.some.inj hx
     rw[bx.1 w]
     refine⟨(hf.2 _ ob0 g1).1,fun n hn hm=>?_⟩
     rcases g5 n hm with h|⟨t,ht,h⟩
     ·exact(hf.2 _ ob0 g1).2 n hn h
     ·exact hf.1 t (fun q=>hb (q▸ht)) n hn h
    |false=>rw[w]at hx;exact hf.2 m x hx
   ·obtain⟨hzL0,hzi⟩:=h1 _ hzL
    rcases I2 z' hz' hzL0 with⟨j,hj,p,hp,he⟩|h
    ·refine .inl ⟨j,h2 j hj (fun q=>?_),p,hp,he⟩
     subst q
     rw[ho]at hp
     obtain rfl:=Option.some.inj hp
     rw[hdn]at he;cases he
    ·have hcr:=(C z' hz' hzL0 hzi).1
     have key:(∀i,i≠z'.2→¬aJ (s.t i) [z'.2,0])→(∀m x,s.o m=some x→¬cC x [z'.2,0])→∀m x,(s.setO [d,0] ob).o m=some x→¬cC x [z'.2,0]:=fun k1 k2 m x hx hm=>by
      have hx:(bif Nm.eqb m [d,0]then some ob else s.o m)=some x:=hx
      cases w:Nm.eqb m [d,0]with
      |true =>
       grind
      |false=>grind
     right
     unfold ji at h ⊢
     cases w:lP l z'.1 with
     |true=>rw[w]at h;exact⟨h.1,h.2.1,key h.2.1 h.2.2⟩
     |false=>rw[w]at h;exact⟨h.1,h.2.1,key h.2.1 h.2.2⟩
 ·by_cases k6:aG E o=6
  ·-- an append
   rw[k6]at hk
   have hk:(match jd o,o.dst with|some t,some d => !Nat.beq d t&&zs.any (fun z=>Nat.beq z.1 i&&Nat.beq z.2 t)|_,_=>false)=true:=hk
   cases hat:jd o with
   |none=>rw[hat]at hk;cases hk
   |some t =>
    cases hd:o.dst with
    |none=>rw[hat,hd]at hk;cases hk
    |some d =>
     rw[hat,hd]at hk
     dsimp only at hk
     rw[Bool.and_eq_true,List.any_eq_true]at hk
     obtain⟨hdt,z,hz,hze⟩:=hk
     have hdt:=lw hdt
     rw[Bool.and_eq_true]at hze
     have z1:=Nat.eq_of_beq_eq_true hze.1
     have z2:=Nat.eq_of_beq_eq_true hze.2
     have htr:t∈gF l o:=by
      obtain⟨c,y,_,hop,_,hca,_⟩:=k9 hat
      refine List.mem_append_left _ (List.mem_flatMap.2 ⟨.tmp t,?_,List.mem_singleton.2 rfl⟩)
      rw[hop]
      simp only[Op.operands,Call.operands,Array.toList_append,List.mem_append]
      right
      rw[hca]
      exact .head _
     have hcl:l6 t s:=by
      grind [lP,ji]
     obtain⟨k,ob,rfl,hom,g3,_⟩:=QS hat hd k6 hcl (I1 i hi o d ho hd) hdt hs
     refine⟨g3,fun _=>⟨fun j hj p e hp he=>?_,fun z' hz' hzL=>?_⟩⟩
     ·obtain⟨hjL,hji⟩:=h1 j hj
      exact C0 hom ((B j hjL hji p e hp he).2 d hd) (I1 j hjL p e hp he)
     ·obtain⟨hzL0,hzi⟩:=h1 _ hzL
      obtain⟨c1,c2⟩:=C z' hz' hzL0 hzi
      have hdz:d≠z'.2:=by
       rcases c2 d hd with h|h
       ·exact h
       ·exfalso
        obtain⟨c,y,_,hop,_,_,_⟩:=k9 hat
        unfold FY at h
        rw[hop]at h
        cases w:lP l z'.1<;>(rw[w]at h;cases h)
      rcases I2 z' hz' hzL0 with⟨j,hj,p,hp,he⟩|h
      ·refine .inl ⟨j,h2 j hj (fun q=>?_),p,hp,he⟩
       subst q
       rw[ho]at hp
       obtain rfl:=Option.some.inj hp
       rw[hd]at he
       exact hdz (Option.some.inj he)
      ·exact .inr (Gq hom hdz (fun q=>c1 (q▸htr)) h)
  -- what makes
  have hmk:mi true (aG E o)=true:=by
   split at hk
   ·rename_i q;rw[q];rfl
   ·rename_i q;rw[q];rfl
   ·rename_i q;rw[q];rfl
   ·trivial
   ·trivial
   ·cases hk
  obtain⟨d,hd⟩:∃d,o.dst=some d:=by
   grind [aG,mi,split,dC,first]
  obtain⟨v,ups,q,m,m2,rfl,m4,m5⟩:=gq hd hmk hs
  have hfd:=I1 i hi o d ho hd
  refine⟨m.m.step s (fun _ _=>rfl) (fun _ _ _ _=>rfl) (fun _=>hfd),fun _=>⟨fun j hj p e hp he=>?_,fun z hz hzL=>?_⟩⟩
  ·obtain⟨hjL,hji⟩:=h1 j hj
   obtain⟨b1,b2⟩:=B j hjL hji p e hp he
   exact rd m (b2 d hd) b1 (I1 j hjL p e hp he)
  ·obtain⟨hzL0,hzi⟩:=h1 _ hzL
   obtain⟨c1,c2⟩:=C z hz hzL0 hzi
   by_cases hdz:d=z.2
   ·rcases c2 d hd with h|h
    ·exact absurd hdz h
    ·refine .inr ?_
     have h1:yv o.op=true∨lQ o.op=true:=by
      grind [FY,lP]
     have hv:gX E.τ o=false:=by
      unfold gX
      rcases h1 with h1|h1
      ·grind [yv,split]
      ·grind [lQ,split]
     have hk1:aG E o=1:=by
      unfold mi at hmk
      split at hmk
      ·rename_i q
       exfalso
       unfold aG at q
       rw[hv,Bool.false_and,cond_false,hd]at q
       rcases h1 with h1|h1
       ·unfold yv at h1
        split at h1
        ·grind
        ·cases h1
       ·unfold lQ at h1
        split at h1
        ·grind
        ·cases h1
      ·rename_i q
       exfalso
       unfold aG at q
       rw[hv,Bool.false_and,cond_false,hd]at q
       rcases h1 with h1|h1
       ·unfold yv at h1
        split at h1
        ·grind
        ·cases h1
       ·unfold lQ at h1
        split at h1
        ·grind
        ·cases h1
      ·assumption
      ·cases hmk
     unfold ji
     unfold FY at h
     cases w:lP l z.1 with
     |true =>
      rw[w]at h
      obtain⟨el,ty,xs,rfl,rfl⟩:=m5 h hk1
      dsimp only
      rw[←hdz]
      refine⟨by rw[cB,if_pos rfl],fun t ht=>?_,fun m x hx hm=>?_⟩
      ·rw[cB,if_neg ht]
       exact hfd.1 t ht _ (Nat.beq_refl _)
      ·rcases pP _ _ _ _ hx with h|⟨_,h⟩
       ·have:=Prod.mk.inj (List.mem_singleton.1 h)
        rw[this.2]at hm
        exact hm
       ·exact(hfd.2 m x h).2 [d,0] (Nat.beq_refl d) hm
     |false =>
      rw[w]at h
      obtain⟨t,ht⟩:∃t,o.op = .alloc t:=by
       have h:lQ o.op=true:=h
       unfold lQ at h
       split at h
       ·grind
       ·cases h
      obtain⟨zc,rfl,rfl,zm⟩:=m4 t ht hk1
      dsimp only
      rw[←hdz]
      refine⟨by rw[cB,if_pos rfl],fun t ht=>?_,fun m x hx hm=>?_⟩
      ·rw[cB,if_neg ht]
       exact hfd.1 t ht _ (Nat.beq_refl _)
      ·rcases pP _ _ _ _ hx with h|⟨_,h⟩
       ·have:=Prod.mk.inj (List.mem_singleton.1 h)
        rw[this.2]at hm
        exact zm _ hm
       ·exact(hfd.2 m x h).2 [d,0] (Nat.beq_refl d) hm
   ·rcases I2 z hz hzL0 with⟨j,hj,p,hp,he⟩|h
    ·refine .inl ⟨j,h2 j hj (fun q=>?_),p,hp,he⟩
     subst q
     rw[ho]at hp
     obtain rfl:=Option.some.inj hp
     rw[hd]at he
     exact hdz (Option.some.inj he)
    ·exact .inr (Gp m hdz c1 h)
theorem Li{zs:List (Nat×Nat)}{L:List Nat}{s sa sb:St}{i j:Nat}{a b:Oper}(hI:vI fr l zs L s) (hi:i∈L) (hj:j∈L) (ha:l[i]?=some a) (hb:l[j]?=some b) (hok:fr=true→FI E l (a8 l []) zs j=true)
  (hok2:fr=true→FI E l (a8 l []) zs i=true) (hfree2:∀x∈L,a9 x ((a8 l []).getD i [])=false) (hfree:∀x∈L,a9 x ((a8 l []).getD j [])=false) (hp:zK E l (a8 l []) fr i j=true) (g1:stm fr E l a s=some sa) (g2:stm fr E l b sa=some sb) (hji:i≠j) :
  ∃s1,stm fr E l b s=some s1∧stm fr E l a s1=some sb:=by
 unfold zK at hp
 rw[ha,hb]at hp
 dsimp only at hp
 rw[hfree i hi,Bool.false_or]at hp
 cases hda:a.dst with
 |none=>rw[hda]at hp;cases hp
 |some da =>
  rw[hda]at hp
  dsimp only at hp
  rw[Bool.and_eq_true,Bool.and_eq_true,Bool.or_eq_true]at hp
  obtain⟨k1,n1,hp⟩:=hp
  rcases k1 with k1|k1
  case inr =>
   -- an append ahead of a maker
   rw[Bool.and_eq_true,Bool.and_eq_true]at k1
   obtain⟨⟨hfr,k6⟩,he⟩:=k1
   subst hfr
   have k6:=Nat.eq_of_beq_eq_true k6
   obtain⟨I1,I2⟩:=hI rfl
   unfold IQ at he
   cases hat:jd a with
   |none=>rw[hat]at he;cases he
   |some t =>
    rw[hat]at he
    dsimp only at he
    rw[Bool.and_eq_true]at he
    cases hdb:b.dst with
    |none=>rw[hdb]at he;cases he.2
    |some db =>
     rw[hdb]at hp he
     dsimp only at hp he
     rw[Bool.and_eq_true,Bool.and_eq_true,Bool.or_eq_true]at hp
     obtain⟨k2,n2,n3⟩:=hp
     have nt:=bf he.1
     have nt2:=lw he.2
     rcases k2 with k2|k2
     case inr =>
      rw[Bool.and_eq_true,Bool.and_eq_true,Bool.and_eq_true,k6]at k2
      cases k2.2.1
     obtain⟨hdt,hcl⟩:=xE hI hi ha (hok2 rfl) hfree2 hat hda k6
     obtain⟨k,ob,rfl,hom,_,g5⟩:=QS hat hda k6 hcl (I1 i hi a da ha hda) hdt g1
     obtain⟨vb,ub,qb,mb,mb2,rfl,_⟩:=gq hdb k2 g2
     have fb:=I1 j hj b db hb hdb
     have est:∀x∈gF l b,(yU t k da ob s).t x=s.t x:=fun x hx=>C2 (fun q=>bf n1 (q▸hx)) (fun q=>nt (q▸hx))
     have eso:∀x∈gF l b, ∀n,aJ (s.t x) n→s.o n=(yU t k da ob s).o n:=fun x hx n hn=>by
      have q1:n≠[da,0]:=fun q=>(I1 i hi a da ha hda).1 x (fun q=>bf n1 (q▸hx)) n (by rw[q];exact Nat.beq_refl da) hn
      have q2:n≠[t,0]:=fun q=>hcl.2.1 x (fun q=>nt (q▸hx)) (by rw[←q];exact hn)
      show s.o n=(if n=[da,0]then some ob else if n=[t,0]then none else s.o n)
      rw[if_neg q1,if_neg q2]
     have eb:stm true E l b s=some ((s.over ub).put (some db) vb):=mb.stm s (fun x hx=>(est x hx).symm) (fun x hx n hn=>by
      rw[est x hx]at hn
      exact eso x hx n hn) (fun _=>fb)
     refine⟨_,eb,?_⟩
     have hub:=mb.m.hd
     have hdb1:db≠da:=Ne.symm (lw n2)
     have mb0:EH true E l b qb s db vb ub:=⟨⟨mb.m.dst,fun s' g1 g2 g3=>mb.m.step s' (fun x hx=>(g1 x hx).trans (est x hx).symm) (fun x hx n hn=>by
       rw[est x hx]at hn
       rw[g2 x hx n hn];exact eso x hx n hn) g3,hub,fun n hn=>by
        rcases mb.m.ment n hn with h|⟨x,hx,h⟩|⟨x,hx,m,y,q1,q2,q3⟩
        ·exact .inl h
        ·rw[est x hx]at h;exact .inr (.inl ⟨x,hx,h⟩)
        ·rw[est x hx]at q1
         rw[←eso x hx m q1]at q2
         exact .inr (.inr ⟨x,hx,m,y,q1,q2,q3⟩)⟩,fun s' g1 g2 g3=>mb.stm s' (fun x hx=>(g1 x hx).trans (est x hx).symm) (fun x hx n hn=>by
       rw[est x hx]at hn
       rw[g2 x hx n hn];exact eso x hx n hn) g3⟩
     rw[g5 _ (fun x hx=>by rw[cB,if_neg (fun(q:x=db)=>bf n3 (q▸hx))];rfl) (fun x hx n hn=>(io (fun p hp e=>fb.1 x (fun q=>bf n3 (q▸hx)) n (by rw[←e];exact hub p hp) hn)).2) (vr mb0 nt2 nt hcl) (rd mb0 hdb1 (bf n1) (I1 i hi a da ha hda))]
     rw[Jw hub hdb1 nt2]
  obtain⟨va,ua,qa,ma,ma2,rfl,_⟩:=gq hda k1 g1
  cases hdb:b.dst with
  |some db =>
   rw[hdb]at hp
   dsimp only at hp
   rw[Bool.and_eq_true,Bool.and_eq_true,Bool.or_eq_true]at hp
   obtain⟨k2,n2,n3⟩:=hp
   rcases k2 with k2|k2
   case inr =>
    -- a maker ahead of an append
    rw[Bool.and_eq_true,Bool.and_eq_true,Bool.and_eq_true]at k2
    obtain⟨⟨hfr,k6⟩,_,he⟩:=k2
    subst hfr
    have k6:=Nat.eq_of_beq_eq_true k6
    obtain⟨I1,I2⟩:=hI rfl
    unfold IQ at he
    cases hat:jd b with
    |none=>rw[hat]at he;cases he
    |some t =>
     rw[hat,hda]at he
     dsimp only at he
     rw[Bool.and_eq_true]at he
     have nt:=bf he.1
     have nt2:=lw he.2
     have fa:=I1 i hi a da ha hda
     have fb:=I1 j hj b db hb hdb
     obtain⟨hdt,hcl⟩:=xE hI hj hb (hok rfl) hfree hat hdb k6
     have hua:=ma.m.hd
     have hab:=lw n2
     obtain⟨k,ob,rfl,hom,_,g5⟩:=QS hat hdb k6 (vr ma nt2 nt hcl) (rd ma hab (bf n3) fb) hdt g2
     have est:∀x∈gF l b,s.t x=((s.over ua).put (some da) va).t x:=fun x hx=>by rw[cB,if_neg (fun(q:x=da)=>bf n1 (q▸hx))];rfl
     refine⟨_,g5 s est (fun x hx n hn=>by
      rw[←est x hx]at hn
      exact(io (fun p hp e=>fa.1 x (fun q=>bf n1 (q▸hx)) n (by rw[←e];exact hua p hp) hn)).2.symm) hcl fb,?_⟩
     rw[ma.stm (yU t k db ob s) (fun x hx=>C2 (fun(q:x=db)=>bf n3 (q▸hx)) (fun(q:x=t)=>nt (q▸hx))) (fun x hx n hn=>by
      have q1:n≠[db,0]:=fun q=>fb.1 x (fun q=>bf n3 (q▸hx)) n (by rw[q];exact Nat.beq_refl db) hn
      have q2:n≠[t,0]:=fun q=>hcl.2.1 x (fun q=>nt (q▸hx)) (by rw[←q];exact hn)
      show(if n=[db,0]then some ob else if n=[t,0]then none else s.o n)=s.o n
      rw[if_neg q1,if_neg q2]) (fun _=>C0 hom (Ne.symm hab) fa)]
     rw[Jw hua hab nt2]
   obtain⟨vb,ub,qb,mb,mb2,rfl,_⟩:=gq hdb k2 g2
   refine⟨_,Cl ma mb (lw n2) (bf n1) (bf n3) ?_⟩
   cases fr with
   |true =>
    obtain⟨I1,_⟩:=hI rfl
    exact .inr ⟨I1 i hi a da ha hda,I1 j hj b db hb hdb⟩
   |false =>
    have no1:∀{k:Nat},mi false k=true→k≠1:=fun h q=>by rw[q]at h;cases h
    obtain⟨x1,x2⟩:=ma2 (no1 k1)
    obtain⟨y1,y2⟩:=mb2 (no1 k2)
    exact .inl ⟨x2,y2,x1,y1⟩
  |none =>
   rw[hdb]at hp
   dsimp only at hp
   rw[Bool.and_eq_true]at hp
   obtain⟨hfr,hp⟩:=hp
   subst hfr
   cases hss:bP b with
   |none=>rw[hss]at hp;cases hp
   |some z =>
    rw[hss]at hp
    dsimp only at hp
    rw[Bool.and_eq_true,Bool.and_eq_true]at hp
    obtain⟨k2,n2,n3⟩:=hp
    have k2:=Nat.eq_of_beq_eq_true k2
    have hg:b.guard=none:=lm (E:=E) (o:=b) (by omega) (by omega)
    obtain⟨I1,I2⟩:=hI rfl
    have hzr:z∈gF l b:=by
     unfold bP at hss
     split at hss
     ·rename_i T x y _ hop
      obtain rfl:=Option.some.inj hss
      exact List.mem_append_left _ (List.mem_flatMap.2 ⟨.tmp x,by rw[hop];simp[Op.operands],List.mem_singleton.2 rfl⟩)
     ·cases hss
    have hcl:tG z s:=by
     have hok:=hok rfl
     unfold FI at hok
     rw[hb]at hok
     dsimp only at hok
     rw[Bool.and_eq_true,Bool.and_eq_true,k2]at hok
     obtain⟨h1,h2,_⟩:=hok
     have h1:(match bP b with|some d=>zs.any (fun z=>Nat.beq z.1 j&&Nat.beq z.2 d)|none=>false)=true:=h1
     rw[hss]at h1
     dsimp only at h1
     rw[List.any_eq_true]at h1
     obtain⟨w,hw,hwe⟩:=h1
     rw[Bool.and_eq_true]at hwe
     have w1:=Nat.eq_of_beq_eq_true hwe.1
     have w2:=Nat.eq_of_beq_eq_true hwe.2
     rcases I2 w hw (w1▸hj)with⟨x,hx,p,hp,he⟩|h
     ·grind [dz,bf]
     ·simp_all [lP,jd,k9,ji]
    exact GY ma hss hg k2 hcl (I1 i hi a da ha hda) (lw n2) (bf n3) (bf n1) g2
theorem ca (l:List Oper){i:Nat}{o:Oper}(ho:l[i]?=some o) (L:List Nat):bY l (i::L)=o::bY l L:=by
 simp_all [bY]
def xc (E:aW) (l:List Oper) (rs:List (List Nat)) (j:Nat):Bool:=(match l[j]? with
 |some o => !Nat.beq (aG E o) 1 && !Nat.beq (aG E o) 4
 |none=>false)&&(List.range l.length).all (fun x=>Nat.beq x j || a9 x (rs.getD j []))
structure sU (fr:Bool) (E:aW) (l:List Oper) (zs:List (Nat×Nat)) (L:List Nat):Prop where
 nd:L.Nodup
 lt:∀j∈L,j<l.length
 pr:de (zK E l (a8 l []) fr) L=true
 or:de (zO l) L=true
 ok:fr=true→∀j∈L,(FI E l (a8 l []) zs j || xc E l (a8 l []) j)=true
 down:∀j o,j∉L→l[j]?=some o→∀a∈bC o,a∉L
theorem eD{R:Nat→Nat→Bool}:∀{pre post:List Nat}{i:Nat},de R (pre++i::post)=true→de R (pre++post)=true∧(∀x∈pre,R x i=true)∧∀x∈post,R i x=true
 |[],post,i,h=>by
  simp_all [de]
 |y::pre,post,i,h=>by
  have h:((pre++i::post).all (R y)&&de R (pre++i::post))=true:=h
  rw[Bool.and_eq_true]at h
  obtain⟨g1,g2,g3⟩:=eD h.2
  have ha:=List.all_eq_true.1 h.1
  refine⟨?_,fun x hx=>?_,g3⟩
  ·simp_all [de]
  ·grind
theorem sU.del{zs:List (Nat×Nat)}{pre post:List Nat}{i:Nat}(h:sU fr E l zs (pre++i::post)) (hfree:∀o,l[i]?=some o→∀a∈bC o,a∉pre++i::post):sU fr E l zs (pre++post)∧(∀j,j∈pre++post↔j∈pre++i::post∧j≠i):=by
 have mem:∀j,j∈pre++post↔j∈pre++i::post∧j≠i:=by
  have hnd:=(List.perm_middle (a:=i) (l₁:=pre) (l₂:=post)).nodup_iff.1 h.nd
  have hi:=(List.nodup_cons.1 hnd).1
  intro j
  rw[List.mem_append,List.mem_append,List.mem_cons]
  constructor
  ·grind
  ·grind
 refine⟨⟨?_,fun j hj=>h.lt j ((mem j).1 hj).1,(eD h.pr).1,(eD h.or).1,fun e j hj=>h.ok e j ((mem j).1 hj).1,fun j o hj ho a ha q=>?_⟩,mem⟩
 ·have hnd:=(List.perm_middle (a:=i) (l₁:=pre) (l₂:=post)).nodup_iff.1 h.nd
  exact(List.nodup_cons.1 hnd).2
 ·have q:=((mem a).1 q).1
  by_cases e:j=i
  ·simp_all
  ·exact h.down j o (fun w=>hj ((mem j).2 ⟨w,e⟩)) ho a ha q
theorem sU.reach{zs:List (Nat×Nat)}{L:List Nat}(h:sU fr E l zs L){i:Nat}{o:Oper}(ho:l[i]?=some o) (hfree:∀a∈bC o,a∉L):∀x∈L,a9 x ((a8 l []).getD i [])=false:=by
 intro x hx
 cases q:a9 x ((a8 l []).getD i [])with
 |false=>rfl
 |true=>exact absurd hx (mN (l:=l) (D:=fun j=>j∉L) h.down i ho hfree (cS.1 q))
theorem sU.head{zs:List (Nat×Nat)}{L:List Nat}{i:Nat}{o:Oper}(h:sU fr E l zs (i::L)) (ho:l[i]?=some o) (hna:i∉bC o):∀a∈bC o,a∉i::L:=by
 intro a ha hm
 rcases List.mem_cons.1 hm with rfl|hm
 ·exact hna ha
 ·have:=(eD (pre:=[]) h.or).2.2 a hm
  unfold zO at this
  rw[ho]at this
  exact bf this ha
theorem Aj{i x:Nat}(h:xc E l (a8 l []) i=true) (hx:x<l.length) (hne:x≠i):a9 x ((a8 l []).getD i [])=true:=by
 grind [xc,dz]
theorem sU.okx{zs:List (Nat×Nat)}{L:List Nat}(h:sU fr E l zs L){i x:Nat}(e:fr=true) (hi:i∈L) (hx:x∈L) (hne:x≠i) (hf:∀y∈L,a9 y ((a8 l []).getD i [])=false):FI E l (a8 l []) zs i=true:=by
 have:=h.ok e i hi
 rw[Bool.or_eq_true]at this
 rcases this with q|q
 ·exact q
 ·have:=Aj q (h.lt x hx) hne
  rw[hf x hx]at this
  cases this
theorem Dc{zs:List (Nat×Nat)}(hself:∀j o,l[j]?=some o→j∉bC o){post:List Nat}{i:Nat}{b:Oper}(hb:l[i]?=some b):∀{pre:List Nat}{s y:St},sU fr E l zs (pre++i::post)→vI fr l zs (pre++i::post) s→(∀a∈bC b,a∉pre++i::post) →
  mc fr E l (bY l (pre++i::post)) s=some y→mc fr E l (bY l (i::(pre++post))) s=some y
 |[],s,y,_,_,_,h=>h
 |x::pre,s,y,ho,hI,hf,h=>by
  obtain⟨a,ha⟩:∃a,l[x]?=some a:=⟨_,List.getElem?_eq_getElem (ho.lt x (List.mem_cons_self ..))⟩
  rw[List.cons_append,ca l ha]at h
  have h:(stm fr E l a s).bind (mc fr E l (bY l (pre++i::post)))=some y:=h
  obtain⟨sa,g1,g2⟩:=Option.bind_eq_some_iff.1 h
  have hfa:=ho.head ha (hself x a ha)
  obtain⟨o2,mem2⟩:=sU.del (pre:=[]) ho (fun o e=>by rw[ha]at e;obtain rfl:=Option.some.inj e;exact hfa)
  have hI2:vI fr l zs (pre++i::post) sa:=by
   cases fr with
   |false=>intro e;cases e
   |true=>exact(Mf hI (List.mem_cons_self ..) ha (ho.okx rfl (List.mem_cons_self ..) (x:=i) (List.mem_append_right _ (List.mem_cons_self ..)) (fun e=>(List.nodup_cons.1 ho.nd).1 (by rw[←e];exact List.mem_append_right _ (List.mem_cons_self ..))) (ho.reach ha hfa)) (ho.reach ha hfa) ho.lt g1 (fun j hj=>(mem2 j).1 hj) (fun j hj hne=>(mem2 j).2 ⟨hj,hne⟩)).2
  have h3:=Dc hself hb (pre:=pre) o2 hI2 (fun a ha q=>hf a ha (List.mem_cons_of_mem _ q)) g2
  rw[ca l hb]at h3
  have h3:(stm fr E l b sa).bind (mc fr E l (bY l (pre++post)))=some y:=h3
  obtain⟨sb,g4,g5⟩:=Option.bind_eq_some_iff.1 h3
  have him:i∈(x::pre)++i::post:=List.mem_append_right _ (List.mem_cons_self ..)
  have hxi:x≠i:=fun e=>by
   subst e
   exact(List.nodup_cons.1 ho.nd).1 (List.mem_append_right _ (List.mem_cons_self ..))
  obtain⟨s1,g6,g7⟩:=Li hI (List.mem_cons_self ..) him ha hb (fun e=>ho.okx e him (List.mem_cons_self ..) hxi (ho.reach hb hf)) (fun e=>ho.okx e (List.mem_cons_self ..) him (Ne.symm hxi) (ho.reach ha hfa)) (ho.reach ha hfa) (ho.reach hb hf) ((eD (pre:=x::pre) ho.pr).2.1 x (List.mem_cons_self ..)) g1 g4 hxi
  rw[ca l hb,List.cons_append,ca l ha]
  show(stm fr E l b s).bind (fun t=>(stm fr E l a t).bind (mc fr E l (bY l (pre++post))))=some y
  rw[g6,Option.bind_some,g7,Option.bind_some]
  exact g5
theorem Jt{zs:List (Nat×Nat)}(hself:∀j o,l[j]?=some o→j∉bC o) (hst:fr=false→∀(o:Oper) (s s1:St),o∈l→stm fr E l o s=some s1→stg E l o s=some s1):∀(n:Nat) (rem L:List Nat) (s y:St),sU fr E l zs L→(∀i,i∈L↔i∈rem)→L.length=n→vI fr l zs L s→mc fr E l (bY l L) s=some y→∀π∈jm l n rem,uo E l (bY l π) s=some y
 |0,rem,L,s,y,_,_,hl,_,h,π,hπ=>by
  simp_all [bC,stm,stg,vI,mc,bY,jm,uo]
 |n+1,rem,L,s,y,ho,hm,hl,hI,h,π,hπ=>by
  obtain⟨i,hi,hπ⟩:=List.mem_flatMap.1 hπ
  cases hf:eg l rem i with
  |false=>simp_all
  |true =>
   rw[hf]at hπ
   obtain⟨π',hπ',rfl⟩:=List.mem_map.1 hπ
   obtain⟨pre,post,rfl⟩:=List.append_of_mem ((hm i).2 hi)
   obtain⟨b,hb⟩:∃b,l[i]?=some b:=⟨_,List.getElem?_eq_getElem (ho.lt i ((hm i).2 hi))⟩
   have hfr:∀a∈bC b,a∉pre++i::post:=fun a ha q=>by
    simp_all [eg,bf]
   have h2:=Dc hself hb ho hI hfr h
   rw[ca l hb]at h2
   have h2:(stm fr E l b s).bind (mc fr E l (bY l (pre++post)))=some y:=h2
   obtain⟨s1,g1,g2⟩:=Option.bind_eq_some_iff.1 h2
   obtain⟨o2,mem2⟩:=sU.del ho (fun o e=>by rw[hb]at e;obtain rfl:=Option.some.inj e;exact hfr)
   have him:i∈pre++i::post:=List.mem_append_right _ (List.mem_cons_self ..)
   have both:stg E l b s=some s1∧vI fr l zs (pre++post) s1:=by
    cases fr with
    |false=>exact⟨hst rfl b s s1 (List.mem_of_getElem? hb) g1,fun e=>by cases e⟩
    |true =>
     have hq:=ho.ok rfl i him
     rw[Bool.or_eq_true]at hq
     rcases hq with hq|hq
     ·exact Mf hI him hb hq (ho.reach hb hfr) ho.lt g1 (fun j hj=>(mem2 j).1 hj) (fun j hj hne=>(mem2 j).2 ⟨hj,hne⟩)
     ·have hn:∀j,j∉pre++post:=fun j hj=>by
       obtain⟨q1,q2⟩:=(mem2 j).1 hj
       have:=Aj hq (ho.lt j q1) q2
       rw[ho.reach hb hfr j q1]at this
       cases this
      have hk:aG E b≠1∧aG E b≠4:=by
       unfold xc at hq
       rw[hb]at hq
       dsimp only at hq
       rw[Bool.and_eq_true,Bool.and_eq_true]at hq
       refine⟨fun e=>?_,fun e=>?_⟩
       ·simp_all
       ·simp_all
      rw[kM ⟨fun e=>absurd e hk.1,hk.2⟩]at g1
      exact⟨g1,fun _=>⟨fun j hj=>absurd hj (hn j),fun z _ hz=>absurd hz (hn z.1)⟩⟩
   have ih:=Jt hself hst n (dN i rem) (pre++post) s1 y o2 (fun j=>by rw[mem2,eJ,hm]) (by simp at hl ⊢;omega) both.2 g2 π' hπ'
   rw[ca l hb]
   show(stg E l b s).bind (uo E l (bY l π'))=some y
   rw[both.1,Option.bind_some]
   exact ih
end
def nz (p:Nm→Bool):CV→Bool
 | .own m=>p m
 | .pb m _=>p m
 | .pa m _ _ _=>p m
 | .clo _ cs=>cs.any (fun q=>p q.1)
 | .mp m=>p m
 |_=>false
def wZ (p:Nm→Bool):AV→Bool
 | .c x=>nz p x
 | .g cs=>cs.any (nz p)
 | .tup l=>l.any (fun q=>q.2.any (nz p))
def Ae (p:Nm→Bool):Ob→Bool
 | .box cs=>cs.any (nz p)
 |_=>false
theorem Af{p:Nm→Bool}{n:Nm}(hp:p n=true){c:CV}(h:dc c n):nz p c=true:=by
 cases c with
 |own m=>grind [dc,nz]
 |pb m k=>grind [dc,nz]
 |pa m z i j=>grind [dc,nz]
 |mp m=>grind [dc,nz]
 |clo f cs=>grind [dc,nz]
 |_=>exact h.elim
theorem rX{p:Nm→Bool}{n:Nm}(hp:p n=true){cs:List CV}(h:bM cs n):cs.any (nz p)=true:=by
 grind [Af,bM,nz]
theorem qO{p:Nm→Bool}{n:Nm}(hp:p n=true){v:AV}(h:aJ v n):wZ p v=true:=by
 cases v with
 |c x=>exact Af hp h
 |g cs=>exact rX hp h
 |tup l =>
  grind [rX,aJ,wZ]
theorem qP{p:Nm→Bool}{n:Nm}(hp:p n=true){x:Ob}(h:cC x n):Ae p x=true:=by
 cases x with
 |box cs=>exact rX hp h
 |_=>exact h.elim
def yC (d:Nat) (vs:List (Nat×AV)) (bs:List (Nm×Ob)):Bool :=
 vs.all (fun q=>Nat.beq q.1 d || !wZ (bW d) q.2)&&bs.all (fun q => !bW d q.1 && !Ae (bW d) q.2)
def BT (d:Nat) (vs:List (Nat×AV)) (bs:List (Nm×Ob)):Bool :=
 (match cY vs d with | .c (.pb n 0)=>Nm.eqb n [d,0]|_=>false)&&(vs.all (fun q=>Nat.beq q.1 d || !wZ (Nm.eqb [d,0]) q.2)&&bs.all (fun q => !Ae (Nm.eqb [d,0]) q.2))
def yJ (d:Nat) (vs:List (Nat×AV)) (bs:List (Nm×Ob)):Bool :=
 (match cY vs d with | .c (.own n)=>Nm.eqb n [d,0]|_=>false)&&(vs.all (fun q=>Nat.beq q.1 d || !wZ (Nm.eqb [d,0]) q.2)&&bs.all (fun q => !Ae (Nm.eqb [d,0]) q.2))
def xW (l:List Oper) (zs:List (Nat×Nat)) (L:List Nat) (vs:List (Nat×AV)) (bs:List (Nm×Ob)):Bool :=
 L.all (fun i=>match l[i]? with
  |some o=>(match o.dst with|some d=>yC d vs bs|none=>true)
  |none=>true)&&zs.all (fun z=>L.any (fun i=>match l[i]? with
  |some o=>(match o.dst with|some d=>Nat.beq d z.2|none=>false)
  |none=>false) || bif lP l z.1 then yJ z.2 vs bs else BT z.2 vs bs)
theorem qQ:∀{vs:List (Nat×AV)}{t:Nat},cY vs t = .c .dead∨∃q∈vs,q.1=t∧q.2=cY vs t
 |[],t => .inl rfl
 |p::r,t=>by
  show(bif Nat.beq p.1 t then p.2 else cY r t)=_∨∃q∈p::r,q.1=t∧q.2=(bif Nat.beq p.1 t then p.2 else cY r t)
  cases w:Nat.beq p.1 t with
  |true=>simp_all
  |false =>
   rcases qQ (vs:=r) (t:=t)with h|⟨q,hq,h1,h2⟩
   ·exact .inl h
   ·grind
theorem not_true{b:Bool}(h:(!b)=true):b≠true:=by simp_all
theorem xn{d:Nat}{es:List En}{ds:List DV}(h:yC d (cy es ds) (eO es ds)=true):dJ d (D8 es ds):=by
 unfold yC at h
 rw[Bool.and_eq_true]at h
 refine⟨fun t ht n hn hm=>?_,fun m x hx=>?_⟩
 ·have hm:aJ (cY (cy es ds) t) n:=hm
  rcases qQ (vs:=cy es ds) (t:=t)with q|⟨q,hq,h1,h2⟩
  ·rw[q]at hm;exact hm
  ·grind [dz,not_true,qO]
 ·have:=List.all_eq_true.1 h.2 (m,x) (g9 hx)
  rw[Bool.and_eq_true]at this
  refine⟨?_,fun n hn hm=>not_true this.2 (qP hn hm)⟩
  cases w:bW d m with
  |false=>rfl
  |true=>simp_all
theorem Ew{d:Nat}{es:List En}{ds:List DV}(h:BT d (cy es ds) (eO es ds)=true):tG d (D8 es ds):=by
 unfold BT at h
 rw[Bool.and_eq_true,Bool.and_eq_true]at h
 have self:Nm.eqb [d,0] [d,0]=true:=bx.2 rfl
 refine⟨?_,fun t ht hm=>?_,fun m x hx hm=>?_⟩
 ·show cY (cy es ds) d=_
  have h1:=h.1
  split at h1
  ·simp_all [bx]
  ·cases h1
 ·have hm:aJ (cY (cy es ds) t) [d,0]:=hm
  rcases qQ (vs:=cy es ds) (t:=t)with q|⟨q,hq,h1,h2⟩
  ·rw[q]at hm;exact hm
  ·grind [dz,not_true,qO]
 ·exact not_true (List.all_eq_true.1 h.2.2 (m,x) (g9 hx)) (qP self hm)
theorem BU{d:Nat}{es:List En}{ds:List DV}(h:yJ d (cy es ds) (eO es ds)=true):l6 d (D8 es ds):=by
 unfold yJ at h
 rw[Bool.and_eq_true,Bool.and_eq_true]at h
 have self:Nm.eqb [d,0] [d,0]=true:=bx.2 rfl
 refine⟨?_,fun t ht hm=>?_,fun m x hx hm=>?_⟩
 ·show cY (cy es ds) d=_
  have h1:=h.1
  split at h1
  ·simp_all [bx]
  ·cases h1
 ·have hm:aJ (cY (cy es ds) t) [d,0]:=hm
  rcases qQ (vs:=cy es ds) (t:=t)with q|⟨q,hq,h1,h2⟩
  ·rw[q]at hm;exact hm
  ·grind [dz,not_true,qO]
 ·exact not_true (List.all_eq_true.1 h.2.2 (m,x) (g9 hx)) (qP self hm)
theorem E7{l:List Oper}{zs:List (Nat×Nat)}{L:List Nat}{es:List En}{ds:List DV}(h:xW l zs L (cy es ds) (eO es ds)=true){fr:Bool}:vI fr l zs L (D8 es ds):=fun _=>by
 unfold xW at h
 rw[Bool.and_eq_true]at h
 refine⟨fun i hi o d ho hd=>?_,fun z hz _=>?_⟩
 ·grind [xn]
 ·have:=List.all_eq_true.1 h.2 z hz
  rw[Bool.or_eq_true]at this
  refine this.imp (fun w=>?_) (fun w=>by
   unfold ji
   cases q:lP l z.1 with
   |true=>rw[q]at w;exact BU w
   |false=>rw[q]at w;exact Ew w)
  rw[List.any_eq_true]at w
  obtain⟨i,hi,w⟩:=w
  cases ho:l[i]? with
  |none=>simp_all
  |some o =>
   rw[ho]at w
   dsimp only at w
   cases hd:o.dst with
   |none=>simp_all
   |some d =>
    rw[hd]at w
    exact⟨i,hi,o,ho,by rw[hd,Nat.eq_of_beq_eq_true w]⟩
theorem Ep{R:Type}{E:aW}{l:List Oper}(fr:Bool) (zs:List (Nat×Nat)) (L:List Nat) (hb:(L.all (fun i=>Nat.blt i l.length)&&(List.range l.length).all (fun i=>a9 i L))=true) (hnd:L.Nodup) (ha:nB l=true)
  (hp:de (zK E l (a8 l []) fr) L=true) (ho:de (zO l) L=true) (hok:(!fr || L.all (fun j=>FI E l (a8 l []) zs j || xc E l (a8 l []) j))=true){es:List En}{x:TD (bg es)}(hs:(!fr || xW l zs L (cy es (ar _ x)) (eO es (ar _ x)))=true)
  {k:St→Option R}{y:R}(h:kH fr E l (bY l L) (dO es x) k=some y):∀π∈yE l,cg E l (bY l π) (dO es x) k=some y:=by
 rw[Bool.and_eq_true]at hb
 have hm:∀i,i∈L↔i∈List.range l.length:=fun i=>⟨fun hi=>List.mem_range.2 (Nat.le_of_ble_eq_true (List.all_eq_true.1 hb.1 i hi)),fun hi=>cS.1 (List.all_eq_true.1 hb.2 i hi)⟩
 have hlen:L.length=l.length:=by
  have:L.Perm (List.range l.length):=(List.perm_ext_iff_of_nodup hnd List.nodup_range).2 hm
  rw[this.length_eq,List.length_range]
 have hself:∀j o,l[j]?=some o→j∉bC o:=fun j o hj q=>by
  have:=yS ha j o hj j q
  omega
 rw[oN]at h
 obtain⟨s1,h1,h2⟩:=Option.bind_eq_some_iff.1 h
 intro π hπ
 have hI:vI fr l zs L (dO es x):=by
  cases fr with
  |false=>intro e;cases e
  |true=>exact E7 hs
 have hst:fr=false→∀(o:Oper) (s s1:St),o∈l→stm fr E l o s=some s1→stg E l o s=some s1:=fun e o s s1 _ hq=>by
  subst e
  by_cases k4:aG E o=4
  ·cases hd:o.dst with
   |none =>
    grind [aG,dC,split,first]
   |some d =>
    obtain⟨v,ups,q,m,m2,rfl,_⟩:=FZ (.inr k4) hd hq
    exact m.m.step s (fun _ _=>rfl) (fun _ _ _ _=>rfl) (fun w=>by rw[(m2 k4).1]at w;cases w)
  ·simp_all [kM]
 have:=Jt hself hst l.length (List.range l.length) L (dO es x) s1 ⟨hnd,fun j hj=>List.mem_range.1 ((hm j).1 hj),hp,ho,fun e j hj=>by
  subst e
  exact List.all_eq_true.1 hok j hj,fun j o hj hjo a ha2 q=>by
   have:j<l.length:=(List.getElem?_eq_some_iff.1 hjo).1
   exact hj ((hm j).2 (List.mem_range.2 this))⟩ hm hlen hI h1 π hπ
 rw[oO,this]
 exact h2
def uz:CV→Bool
 | .own _=>false
 | .pb _ _=>false
 | .pa _ _ _ _=>false
 | .clo _ _=>false
 | .mp _=>false
 |_=>true
def Bq:AV→Bool
 | .c x=>uz x
 | .g cs=>cs.all uz
 | .tup l=>l.all fun p=>p.2.all uz
def Br:Ob→Bool
 | .box cs=>cs.all uz
 |_=>true
theorem oL{c:CV}(h:uz c=true){n:Nm}:¬dc c n:=by
 cases c<;>first|(cases h;done)|exact fun q=>q
theorem DP{v:AV}(h:Bq v=true){n:Nm}:¬aJ v n:=by
 cases v with
 |c x=>exact oL h
 |g cs=>rintro ⟨c,hc,hm⟩;exact oL (List.all_eq_true.1 h c hc) hm
 |tup l=>rintro ⟨p,hp,c,hc,hm⟩;exact oL (List.all_eq_true.1 (List.all_eq_true.1 h p hp) c hc) hm
theorem DQ{x:Ob}(h:Br x=true){n:Nm}:¬cC x n:=by
 cases x with
 |box cs=>rintro ⟨c,hc,hm⟩;exact oL (List.all_eq_true.1 h c hc) hm
 |_=>exact fun q=>q
def sP{R:Type}(W:List Nm) (S:ag) (vs:List AV) (d:Nat) (o:Nm→Option Ob) (k:AV→List (Nm×Ob)→Option R):Option R :=
 bif Nat.beq (vs.length+S.gh.length) S.pars.length&&m6 S.gh then(match gM o (aF 0 S.pars) vs with
  |some (ds,ts)=>bif il S.pars.length (aF 0 S.pars)&&(iq ts&&(d9 (ts.flatMap bG.lent)&&d9 (ts.flatMap bG.moved)))then(match pc (bg (aF 0 S.pars)) ds with
   |some x=>match S.g x with
    |some r=>match kG d o ts (S.ens.flatMap En.names) (eO S.ens (ar _ r))with
     |some ups=>bif gQ S d o ts (cy S.ens (ar _ r)) (eO S.ens (ar _ r)) ups&&(Bq ((nT (cy S.ens (ar _ r)) S.pars.length S.res.length).ren d ts (S.ens.flatMap En.names))&&ups.all (fun p=>km p.1 W&&Br p.2))then
       k ((nT (cy S.ens (ar _ r)) S.pars.length S.res.length).ren d ts (S.ens.flatMap En.names)) ups else none
     |none=>none
    |none=>none
   |none=>none)else none
  |none=>none)else none
def EM (E:aW) (o:Oper):Bool:=dC o&&(match o.op,o.dst with
 | .call { callee := .value (.func f), .. },some d=>(match E.Γ f d with
  |some S => !S.pars.all zY
  |none=>false)
 |_,_=>false)
abbrev WL:=List (Nat×List Nm)
def Lf (o:Oper):Nat:=match o.dst with
 |some d=>d
 |none=>(match bP o with|some a=>a+1000000|none=>0)
def NX (k:Nat):WL→List Nm
 |[]=>[]
 |p::r=>bif Nat.beq p.1 k then p.2 else NX k r
def GQ (W:WL) (o:Oper):List Nm:=NX (Lf o) W
def qv (W:WL):List Nm:=W.flatMap Prod.snd
theorem Ce{k:Nat}{n:Nm}:∀{W:WL},n∈NX k W→n∈qv W
 |p::r,h=>by
  unfold NX at h
  show n∈p.2++qv r
  cases q:Nat.beq p.1 k with
  |true=>simp_all
  |false=>rw[q]at h;exact List.mem_append_right _ (Ce h)
theorem xO{W:WL}{o:Oper}{n:Nm}(h:n∈GQ W o):n∈qv W:=Ce h
def JJ{R:Type}(W:WL) (E:aW) (o:Oper) (s:St) (k:St→Option R):Option R:=match o.dst with
 |none=>none
 |some d=>bif Nat.blt d E.N then(match o.op with
  | .call { callee := .value (.func f),args, .. }=>(match E.Γ f d with
   |some S=>sP (GQ W o) S (args.toList.map s.ev) d s.o (fun v ups=>k ((s.over ups).put (some d) v))
   |none=>none)
  |_=>none)else none
def IG (W:WL) (o:Oper):Bool:=dC o&&((match bP o with|some _=>true|none=>false)&&W.any fun q=>Nat.beq q.1 (Lf o))
def yt (W:WL) (E:aW) (o:Oper):Bool:=EM E o || IG W o
def JP{R:Type}(W:WL) (E:aW) (o:Oper) (s:St) (k:St→Option R):Option R:=match bP o with
 |some a=>(match s.t a with
  | .c (.pb n _)=>bif km n (GQ W o)then mT E o s k else none
  |_=>none)
 |none=>none
def FH{R:Type}(W:WL) (E:aW) (o:Oper) (s:St) (k:St→Option R):Option R:=match EM E o with
 |true=>JJ W E o s k
 |false=>(match IG W o with
  |true=>JP W E o s k
  |false=>yf false E o s k)
def nv{R:Type}(W:WL) (E:aW) (all:List Oper):List Oper→St→(St→Option R)→Option R
 |[],s,k=>k s
 |o::r,s,k=>match o.guard with
  |none=>FH W E o s (fun s'=>nv W E all r s' k)
  |some _=>cg E all [o] s (fun s'=>nv W E all r s' k)
theorem qk{R:Type}{W:List Nm}{S:ag}{vs:List AV}{d:Nat}{ob:Nm→Option Ob}(k:AV→List (Nm×Ob)→Option R):sP W S vs d ob k=(sP W S vs d ob (fun v ups=>some (v,ups))).bind fun p=>k p.1 p.2:=by
 unfold sP
 simp only[oz,Option.bind_none]
 split
 ·grind
 ·rfl
theorem GO{R:Type}{W:WL}{E:aW}{o:Oper}{s:St}(k:St→Option R):JJ W E o s k=(JJ W E o s some).bind k:=by
 unfold JJ
 cases o.dst with
 |none=>rfl
 |some d =>
  dsimp only
  rw[oz,Option.bind_none]
  congr 1
  split
  ·grind [split,qk]
  ·rfl
section
variable{W:WL}{T:List (Nat×Nm)}{E:aW}{l:List Oper}{o:Oper}{s s1:St}
theorem AK{W:List Nm}{S:ag}{f:Nat}{xs:List Operand}{d:Nat}{v:AV}{ups:List (Nm×Ob)}(he:sP W S (xs.map s.ev) d s.o (fun v ups=>some (v,ups))=some (v,ups)) :
  (dJ d s→kI (R:=St) S f .fn xs d s some=some ((s.over ups).put (some d) v))∧(∀n,¬aJ v n)∧∀p∈ups,p.1∈W∧∀n,¬cC p.2 n:=by
 have nilG:∀{g:List (Nat×Nat×Option Nat)},m6 g=true→g=[]:=fun{g}=>by cases g<;>simp[m6]
 have nilN:∀{g:List Nm},d9 g=true→g=[]:=fun{g}=>by cases g<;>simp[d9]
 unfold sP at he
 cases hc:(Nat.beq ((xs.map s.ev).length+S.gh.length) S.pars.length&&m6 S.gh)with
 |false=>rw[hc]at he;cases he
 |true =>
  rw[hc]at he
  rw[Bool.and_eq_true]at hc
  obtain⟨h1,h2⟩:=hc
  dsimp only[cond_true]at he
  split at he
  ·rename_i ds ts e1
   cases hk:(il S.pars.length (aF 0 S.pars)&&(iq ts&&(d9 (ts.flatMap bG.lent)&&d9 (ts.flatMap bG.moved))))with
   |false=>rw[hk]at he;cases he
   |true =>
    rw[hk]at he
    dsimp only[cond_true]at he
    rw[Bool.and_eq_true,Bool.and_eq_true,Bool.and_eq_true]at hk
    obtain⟨k1,k2,k3,k4⟩:=hk
    split at he
    ·rename_i x e2
     split at he
     ·rename_i r e3
      split at he
      ·rename_i u e4
       cases ho:(gQ S d s.o ts (cy S.ens (ar _ r)) (eO S.ens (ar _ r)) u&&(Bq ((nT (cy S.ens (ar _ r)) S.pars.length S.res.length).ren d ts (S.ens.flatMap En.names))&&u.all (fun p=>km p.1 W&&Br p.2)))with
       |false=>rw[ho]at he;cases he
       |true =>
        rw[ho]at he
        obtain⟨g1,g2⟩:=Prod.mk.inj (Option.some.inj he)
        subst g2
        subst g1
        rw[Bool.and_eq_true,Bool.and_eq_true]at ho
        obtain⟨o1,o2,o3⟩:=ho
        refine⟨fun hf=>?_,fun n=>DP o2,fun p hp=>?_⟩
        ·have gh:lV s.o (xs.map s.ev) S.gh=xs.map s.ev:=by rw[nilG h2];rfl
         have fz:(bif S.shares then s.frzs (ts.flatMap bG.lent)else s)=s:=by
          cases q:S.shares with
          |false=>rfl
          |true=>rw[nilN k3];rfl
         have k3':(bif S.shares then d9 (ts.flatMap bG.lent)else true)=true:=by simp_all
         have hm:=nilN k4
         obtain⟨d1,d2⟩:=hf.drops ((S.ens.flatMap En.names).map (fun m=>d::m)) (fun n hn=>by
          obtain⟨m,_,rfl⟩:=List.mem_map.1 hn
          exact Nat.beq_refl d)
         unfold kI
         rw[show s.argsOf f .fn xs=some (xs.map s.ev)from rfl]
         dsimp only
         rw[gh,e1]
         dsimp only
         rw[fz]
         unfold lu
         rw[show s.argsOf f .fn xs=some (xs.map s.ev)from rfl]
         dsimp only
         rw[h1]
         simp only[cond_true,gh,e1,k1,k2,k3',Bool.true_and,e2,e3,hm,List.nil_append,d2,e4,o1]
         refine congrArg some (St.ext' (fun i=>?_) fun n=>?_)
         ·rw[cB,cB]
          by_cases q:i=d
          ·rw[if_pos q,if_pos q]
          ·rw[if_neg q,if_neg q]
           exact d1 i q
         ·show(match a5 u n with|some ob=>some ob|none=>_)=(match a5 u n with|some ob=>some ob|none=>_)
          rw[d2]
        ·have:=List.all_eq_true.1 o3 p hp
         rw[Bool.and_eq_true]at this
         exact⟨fI.1 this.1,fun n=>DQ this.2⟩
      ·cases he
     ·cases he
    ·cases he
  ·cases he
def f7 (W:WL) (E:aW) (l:List Oper) (o:Oper) (s:St):Option St:=nv W E l [o] s some
def nS (W:WL) (E:aW) (l:List Oper):List Oper→St→Option St
 |[],s=>some s
 |o::r,s=>(f7 W E l o s).bind (nS W E l r)
theorem xi (h:EM E o=true):o.guard=none:=by
 grind [EM,dC]
theorem xh (h:IG W o=true):o.guard=none:=by
 grind [IG,dC]
theorem Kb (h:yt W E o=false):EM E o=false∧IG W o=false:=by
 simp_all [yt]
theorem E1 (h:EM E o=true):f7 W E l o s=JJ W E o s some:=by
 unfold f7
 simp only[nv]
 rw[xi h]
 dsimp only
 unfold FH
 rw[h]
theorem E0 (h:EM E o=false) (h2:IG W o=true):f7 W E l o s=JP W E o s some:=by
 unfold f7
 simp only[nv]
 rw[xh h2]
 dsimp only
 unfold FH
 rw[h,h2]
theorem ug (h:yt W E o=false):f7 W E l o s=stm false E l o s:=by
 obtain⟨h1,h2⟩:=Kb h
 unfold f7 stm
 simp only[nv,kH]
 cases q:o.guard with
 |none =>
  simp_all [FH]
 |some _=>rfl
theorem G1{R:Type}(k:St→Option R):JP W E o s k=(JP W E o s some).bind k:=by
 unfold JP
 split
 ·split
  ·rw[oz,Option.bind_none]
   congr 1
   exact qJ _
  ·rfl
 ·rfl
theorem wJ{R:Type}:∀{r:List Oper}{s:St}(k:St→Option R),nv W E l r s k=(nS W E l r s).bind k
 |[],s,k=>rfl
 |o::r,s,k=>by
  show _=((f7 W E l o s).bind (nS W E l r)).bind k
  have e:nv W E l (o::r) s k=(f7 W E l o s).bind (fun s'=>nv W E l r s' k):=by
   unfold f7
   simp only[nv]
   cases q:o.guard with
   |none =>
    grind [FH,EM,GO,IG,G1,uH]
   |some _=>dsimp only;exact nZ _
  rw[e,Option.bind_assoc]
  exact congrArg _ (funext fun s'=>wJ k)
theorem rM (s:St) (d:Option Nat) (i:Nat) (v:AV):(s.put d v).t i=if d=some i then v else s.t i:=by
 cases d with
 |none=>rfl
 |some d =>
  grind [cB]
theorem x9 (s:St){d t:Nat}(v:AV) (h:t≠d):(s.put (some d) v).t t=s.t t:=by rw[cB,if_neg h]
theorem ux (s:St) (d:Option Nat) (v:AV):(s.put d v).o=s.o:=by cases d<;>rfl
def xP (o:Oper):List Nat:=match o.op with
 | .store _ _ x=>Ja x
 |_=>[]
structure Wr (W:WL) (E:aW) (l:List Oper) (o:Oper) (s:St) (d:Option Nat) (v:AV) (ups:List (Nm×Ob)):Prop where
 dst:o.dst=d
 plain:∀n,¬aJ v n
 inW:∀p∈ups,p.1∈GQ W o
 src:∀p∈ups, ∀n,cC p.2 n→(∃t∈xP o,t∈gF l o∧aJ (s.t t) n)∨∃m y,s.o m=some y∧cC y n
 stm:∀s':St,(∀t∈gF l o,s'.t t=s.t t)→s'.o=s.o→f7 W E l o s'=some ((s'.over ups).put d v)
 stg:∀s':St,(∀t∈gF l o,s'.t t=s.t t)→s'.o=s.o→(∀e,d=some e→dJ e s')→stg E l o s'=some ((s'.over ups).put d v)
theorem JK (hk:EM E o=true) (h:f7 W E l o s=some s1):∃d v ups,Wr W E l o s d v ups∧s1=(s.over ups).put d v:=by
 have hg:=xi hk
 rw[E1 hk]at h
 unfold JJ at h
 cases hd:o.dst with
 |none=>simp_all
 |some d =>
  rw[hd]at h
  dsimp only at h
  cases hN:Nat.blt d E.N with
  |false=>simp_all
  |true =>
   rw[hN]at h
   dsimp only[cond_true]at h
   split at h
   ·rename_i f args ts hop
    split at h
    ·rename_i S hS
     rw[qk]at h
     obtain⟨⟨v,ups⟩,h1,h2⟩:=Option.bind_eq_some_iff.1 h
     have ops:∀x∈args.toList,x∈o.op.operands:=fun x hx=>by
      simp_all [Op.operands,Call.operands]
     have evs:∀s':St,(∀t∈gF l o,s'.t t=s.t t)→args.toList.map s'.ev=args.toList.map s.ev:=fun s' h1=>List.map_congr_left fun x hx=>(ne h1 x (ops x hx)).symm
     obtain⟨_,c2,c3⟩:=AK (f:=f) h1
     refine⟨some d,v,ups,⟨hd,c2,fun p hp=>(c3 p hp).1,fun p hp n hn=>absurd hn ((c3 p hp).2 n),fun s' g1 g2=>?_,fun s' g1 g2 g3=>?_⟩,(Option.some.inj h2).symm⟩
     ·grind [E1,JJ,qk]
     ·grind [jV,mT,AK]
    ·cases h
   ·cases h
theorem IP{x:Operand}{n:Nm}(hm:aJ (s.ev x) n):∃t,x = .tmp t∧aJ (s.t t) n:=by
 cases x with
 |tmp t=>exact⟨t,rfl,hm⟩
 |const v=>exact absurd hm (mU v n)
 |global g=>trivial
 |func f=>trivial
theorem UG{a off:Nat}{n:Nm}(l:List Oper) (hs:bP o=some a) (hi:s.t a = .c (.pb n off)) (h:mT E o s some=some s1) :
  ∃ob0 ob,s.o n=some ob0∧s1=s.over [(n,ob)]∧(∀s':St,(∀t∈gF l o,s'.t t=s.t t)→s'.o=s.o→mT E o s' some=some (s'.over [(n,ob)]))∧∀m,cC ob m→cC ob0 m∨∃t∈xP o,t∈gF l o∧aJ (s.t t) m:=by
 obtain⟨T,x,hd,hop⟩:∃T x,o.dst=none∧o.op = .store T (.tmp a) x:=by
  grind [bP,split]
 have ovr:∀(s2:St) (ob:Ob),s2.setO n ob=s2.over [(n,ob)]:=fun s2 ob=>by
  refine St.ext' (fun _=>rfl) fun m=>?_
  show(bif Nm.eqb m n then some ob else s2.o m)=(match(bif Nm.eqb n m then some ob else none)with|some ob=>some ob|none=>s2.o m)
  by_cases q:m=n
  ·grind
  ·grind [Nm.eqb,bx]
 have form:∀s2:St,s2.t a = .c (.pb n off)→mT E o s2 some=(match E.τ.get T,eQ (s2.ev x)with
   |some ti,some new=>bif (Nat.beq new.length ti.size&&new.all CV.fine)then(match s2.o n with
    |some (.box cs)=>bif Nat.ble (off+new.length) cs.length then some (s2.setO n (.box (vR cs off new)))else none
    |_=>none)else none
   |_,_=>none):=by
  intro s2 h2
  unfold mT
  rw[hop,hd]
  show(match eZ E.τ (.store T (.tmp a) x) s2.ev s2.o with
   |some (c,v)=>bif dn E.N none then(match c with|true=>some (s2.put none v)|false=>none)else none
   |none=>match lE E.τ (.store T (.tmp a) x) none s2 with
    |some (c,s')=>(match c with|true=>some s'|false=>none)
    |none=>none)=_
  have hv:eZ E.τ (.store T (.tmp a) x) s2.ev s2.o=none:=rfl
  rw[hv]
  dsimp only
  have hw:lE E.τ (.store T (.tmp a) x) none s2=(match E.τ.get T,s2.ev (.tmp a),eQ (s2.ev x)with
   |some ti, .c p,some new=>bif (Nat.beq new.length ti.size&&new.all CV.fine)then(match mG s2.o new p with
    |some (nm,ob)=>some (true,(s2.setO nm ob).put none (.c .dead))
    |none=>none)else none
   |_,_,_=>none):=rfl
  rw[hw,show s2.ev (.tmp a) = .c (.pb n off)from h2]
  cases E.τ.get T with
  |none=>rfl
  |some ti =>
   cases eQ (s2.ev x)with
   |none=>rfl
   |some new =>
    dsimp only
    cases(Nat.beq new.length ti.size&&new.all CV.fine)with
    |false=>rfl
    |true =>
     dsimp only[cond_true]
     unfold mG
     dsimp only
     cases s2.o n with
     |none=>rfl
     |some ob =>
      cases ob with
      |box cs =>
       dsimp only
       cases Nat.ble (off+new.length) cs.length<;>rfl
      |_=>rfl
 have hx:x∈o.op.operands:=by rw[hop];simp[Op.operands]
 have hdr:a∈gF l o:=List.mem_append_left _ (List.mem_flatMap.2 ⟨.tmp a,by rw[hop];simp[Op.operands],List.mem_singleton.2 rfl⟩)
 rw[form s hi]at h
 cases hT:E.τ.get T with
 |none=>rw[hT]at h;cases h
 |some ti =>
  cases hc:eQ (s.ev x)with
  |none=>rw[hT,hc]at h;cases h
  |some new =>
   rw[hT,hc]at h
   dsimp only at h
   cases hf:(Nat.beq new.length ti.size&&new.all CV.fine)with
   |false=>rw[hf]at h;cases h
   |true =>
    rw[hf]at h
    dsimp only[cond_true]at h
    cases ho:s.o n with
    |none=>rw[ho]at h;cases h
    |some ob =>
     rw[ho]at h
     cases ob with
     |box cs =>
      dsimp only at h
      cases hl:Nat.ble (off+new.length) cs.length with
      |false=>rw[hl]at h;cases h
      |true =>
       rw[hl]at h
       refine⟨_, .box (vR cs off new),rfl,(Option.some.inj h).symm.trans (ovr _ _),fun s' h1 h2=>?_,fun m hm=>?_⟩
       ·rw[form s' ((h1 a hdr).trans hi),hT, ←ne h1 x hx,hc,h2,ho]
        dsimp only
        rw[hf]
        dsimp only[cond_true]
        rw[hl]
        exact congrArg some (ovr _ _)
       ·rcases zi hm with hm|hm
        ·exact .inl hm
        ·right
         obtain⟨t,rfl,hm⟩:=IP (kU hc hm)
         exact⟨t,by unfold xP;rw[hop];exact List.mem_singleton.2 rfl,List.mem_append_left _ (List.mem_flatMap.2 ⟨.tmp t,Array.mem_toList_iff.2 hx,List.mem_singleton.2 rfl⟩),hm⟩
     |_=>cases h
theorem JI (hc:EM E o=false) (hk:IG W o=true) (h:f7 W E l o s=some s1):∃d v ups,Wr W E l o s d v ups∧s1=(s.over ups).put d v:=by
 have hg:=xh hk
 rw[E0 hc hk]at h
 unfold JP at h
 cases hs:bP o with
 |none=>simp_all
 |some a =>
  have hd:o.dst=none:=by
   grind [bP,split]
  have hra:a∈gF l o:=by
   unfold bP at hs
   split at hs
   ·rename_i T x y _ hop
    obtain rfl:=Option.some.inj hs
    exact List.mem_append_left _ (List.mem_flatMap.2 ⟨.tmp x,by rw[hop];simp[Op.operands],List.mem_singleton.2 rfl⟩)
   ·cases hs
  rw[hs]at h
  dsimp only at h
  split at h
  ·rename_i n off hi
   cases hW:km n (GQ W o)with
   |false=>simp_all
   |true =>
    rw[hW]at h
    obtain⟨ob0,ob,h1,h2,h3,h4⟩:=UG l hs hi h
    refine⟨none, .c .dead,[(n,ob)],⟨hd,fun m q=>q,fun p hp=>?_,fun p hp m hm=>?_,fun s' g1 g2=>?_,fun s' g1 g2 _=>?_⟩,h2⟩
    ·simp_all [fI]
    ·grind
    ·grind [E0,JP,EM,IG,f7,St.over,St.put]
    ·rw[jV hg]
     exact h3 s' g1 g2
  ·cases h
theorem EO (hk:yt W E o=true) (h:f7 W E l o s=some s1):∃d v ups,Wr W E l o s d v ups∧s1=(s.over ups).put d v:=by
 grind [EM,JK,yt,JI]
def pk (W:WL) (E:aW) (o:Oper):Bool := !yt W E o&&(Nat.beq (aG E o) 0 || Nat.beq (aG E o) 4)
def Jl (o:Oper):Bool:=dC o&&(match o.op with
 | .move _=>true
 | .assign _=>true
 |_=>false)
theorem Fy (h:pk W E o=true):yt W E o=false:=by
 simp_all [pk,yt]
theorem Cx (h:pk W E o=true):aG E o=0∨aG E o=4:=by
 simp_all [pk]
structure Pu (W:WL) (E:aW) (l:List Oper) (o:Oper) (s:St) (d:Nat) (v:AV):Prop where
 m:EH false E l o false s d v []
 stm:∀s':St,(∀t∈gF l o,s'.t t=s.t t)→(Jl o=false→∀t∈gF l o, ∀n,aJ (s.t t) n→s'.o n=s.o n)→f7 W E l o s'=some (s'.put (some d) v)
theorem zy{d:Nat}(hk:pk W E o=true) (hd:o.dst=some d) (h:f7 W E l o s=some s1):∃v,Pu W E l o s d v∧s1=s.put (some d) v:=by
 have hno:=Fy hk
 have h0:=h
 rw[ug hno]at h
 have hk2:=Cx hk
 have hm:mi false (aG E o)=true:=by rcases hk2 with q|q<;>rw[q]<;>rfl
 obtain⟨v,ups,q,m,m2,m3,_⟩:=gq hd hm h
 obtain⟨rfl,rfl⟩:=m2 (by rcases hk2 with q|q<;>rw[q]<;>decide)
 refine⟨v,⟨m,fun s' h1 h2=>?_⟩,m3⟩
 cases hb:Jl o with
 |false =>
  rw[ug hno]
  exact m.stm s' h1 (h2 hb) (fun q=>by cases q)
 |true =>
  have hg:o.guard=none:=by
   grind [Jl,dC]
  obtain⟨x,hx⟩:∃x,o.op = .move x∨o.op = .assign x:=by
   grind [Jl,split]
  have hxo:x∈o.op.operands:=by rcases hx with e|e<;>rw[e]<;>simp[Op.operands]
  have hk4:aG E o≠4∧aG E o≠1:=by
   grind [aG,dC,gX]
  have form:∀s2:St,f7 W E l o s2=bif dn E.N (some d)then some (s2.put (some d) (s2.ev x))else none:=fun s2=>by
   rw[ug hno,kM ⟨fun q=>absurd q hk4.2,hk4.1⟩,jV hg]
   unfold mT
   rcases hx with e|e<;>rw[e,hd]<;>rfl
  rw[form s]at h0
  rw[form s']
  cases hN:dn E.N (some d)with
  |false=>simp_all
  |true =>
   rw[hN]at h0
   have e1:s.put (some d) (s.ev x)=s.put (some d) v:=(Option.some.inj h0).trans m3
   have e2:s.ev x=v:=by
    have:(s.put (some d) (s.ev x)).t d=(s.put (some d) v).t d:=by rw[e1]
    rw[cB,cB,if_pos rfl,if_pos rfl]at this
    exact this
   rw[←ne h1 x hxo,e2]
   rfl
def N1 (o:Oper):Bool:=dC o&&(match o.op with
 | .load _ _=>true
 |_=>false)
theorem IE{d:Nat}{v:AV}(hk:pk W E o=true) (hl:N1 o=true) (hd:o.dst=some d) (h:f7 W E l o s=some (s.put (some d) v)){n:Nm}(hm:aJ v n):∃m y,s.o m=some y∧cC y n:=by
 have hg:o.guard=none:=by
  grind [N1,dC]
 obtain⟨t,a,hop⟩:∃t a,o.op = .load t a:=by
  grind [N1,split]
 have hv:gX E.τ o=true:=by unfold gX;rw[hop]
 have hk0:aG E o=0:=by
  grind [aG]
 rw[ug (Fy hk),kM ⟨fun q=>absurd (hk0.symm.trans q) (by decide),by rw[hk0];decide⟩,jV hg,EQ hv hd,hop]at h
 have hx:qw E.τ (.load t a) s.ev s.o=eZ E.τ (.load t a) s.ev s.o:=by
  unfold qw
  split
  ·simp_all
  ·rename_i e;rw[e];rfl
 rw[hx]at h
 unfold eZ at h
 dsimp only at h
 split at h
 ·rename_i c v2 e
  split at e
  ·split at e
   ·rename_i ti p _ hp v3 hl3
    obtain⟨rfl,rfl⟩:=Prod.mk.inj (Option.some.inj e)
    cases hN:Nat.blt d E.N with
    |false=>simp_all
    |true =>
     rw[hN]at h
     have e1:s.put (some d) v3=s.put (some d) v:=Option.some.inj h
     have e2:v3=v:=by
      have:(s.put (some d) v3).t d=(s.put (some d) v).t d:=by rw[e1]
      rw[cB,cB,if_pos rfl,if_pos rfl]at this
      exact this
     rw[←e2]at hm
     obtain⟨m,x,_,h1,h2⟩:=n8 hl3 hm
     exact⟨m,x,h1,h2⟩
   ·cases e
  ·cases e
 ·cases h
def v6 (t:Nat) (n:Nm) (T:List (Nat×Nm)):Bool:=T.any fun q=>Nat.beq q.1 t&&Nm.eqb q.2 n
theorem uO{t:Nat}{n:Nm}{T:List (Nat×Nm)}:v6 t n T=true↔(t,n)∈T:=by
 simp_all [v6,bx]
theorem yl{t:Nat}{n:Nm}{T:List (Nat×Nm)}(h:(!v6 t n T)=true):(t,n)∉T:=fun q=>by grind [uO]
def clear (ns:List Nm) (T:List (Nat×Nm)) (l:List Oper) (o:Oper):Bool:=Jl o || (gF l o).all fun t=>ns.all fun n => !v6 t n T
def J5 (d:Option Nat) (l:List Nat):Bool:=match d with
 |some d => !a9 d l
 |none=>true
def N4:Option Nat→Option Nat→Bool
 |some d,some e => !Nat.beq d e
 |_,_=>true
def zL (E:aW) (l:List Oper) (W:WL) (T:List (Nat×Nm)) (rs:List (List Nat)) (i j:Nat):Bool:=match l[i]?,l[j]? with
 |some a,some b=>a9 i (rs.getD j []) || (J5 a.dst (gF l b)&&(N4 a.dst b.dst&&(J5 b.dst (gF l a)&&((pk W E a&&pk W E b) || ((pk W E a&&(yt W E b&&clear (GQ W b) T l a)) || (yt W E a&&(pk W E b&&clear (GQ W a) T l b)))))))
 |_,_=>false
def K4 (E:aW) (l:List Oper) (W:WL) (T:List (Nat×Nm)) (rs:List (List Nat)) (i:Nat):Bool:=match l[i]? with
 |none=>false
 |some o=>(yt W E o || pk W E o)&&((List.range l.length).all (fun j=>Nat.beq j i || (match l[j]? with
    |some p => !yt W E p || (match p.dst with
     |some e=>(a9 j (rs.getD i []) || !a9 e (gF l o))&&(N4 o.dst (some e)&&(qv W).all (fun n => !bW e n))
     |none=>true)
    |none=>true))&&(match o.dst with
   |some d=>(yt W E o || (N1 o || (gF l o).all (fun t=>(qv W).all fun n => !v6 t n T || v6 d n T)))&&(qv W).all (fun n => !bW d n)
   |none=>yt W E o)&&(xP o).all (fun t=>(qv W).all fun n => !v6 t n T))
def xe (W:WL) (E:aW) (l:List Oper) (rs:List (List Nat)) (j:Nat):Bool:=(match l[j]? with
 |some o => !yt W E o && !Nat.beq (aG E o) 4
 |none=>false)&&(List.range l.length).all (fun x=>Nat.beq x j || a9 x (rs.getD j []))
structure AX (E:aW) (W:WL) (T:List (Nat×Nm)) (l:List Oper) (L:List Nat) (s:St):Prop where
 fr:∀j∈L, ∀o d,l[j]?=some o→yt W E o=true→o.dst=some d→dJ d s
 sl:L≠[]→∀t, ∀n∈qv W,(t,n)∉T→¬aJ (s.t t) n
 ob:L≠[]→∀m x,s.o m=some x→∀n∈qv W,¬cC x n
theorem GX{a b:Oper}{da db:Nat}{va vb:AV}(ha:Pu W E l a s da va) (hb:Pu W E l b (s.put (some da) va) db vb) (hne:da≠db) (h1:da∉gF l b) (h2:db∉gF l a) :
  f7 W E l b s=some (s.put (some db) vb)∧f7 W E l a (s.put (some db) vb)=some ((s.put (some da) va).put (some db) vb):=by
 refine⟨hb.stm s (fun t ht=>(x9 s va (t:=t) (fun q:t=da=>h1 (q▸ht))).symm) (fun _ _ _ _ _=>rfl),?_⟩
 rw[ha.stm (s.put (some db) vb) (fun t ht=>x9 s vb (fun q=>h2 (q▸ht))) (fun _ _ _ _ _=>rfl)]
 refine congrArg some (St.ext' (fun i=>?_) fun n=>rfl)
 rw[cB,cB,cB,cB]
 by_cases q:i=da
 ·rw[if_pos q,if_neg (fun q2=>hne (q.symm.trans q2)),if_pos q]
 ·rw[if_neg q,if_neg q]
theorem zN (s:St) (ups:List (Nm×Ob)) (da:Nat) (va:AV) (db:Option Nat) (vb:AV) (h:db≠some da):(((s.put (some da) va).over ups).put db vb)=(((s.over ups).put db vb).put (some da) va):=by
 refine St.ext' (fun i=>?_) fun n=>?_
 ·rw[rM,cB,rM]
  show(if db=some i then vb else(s.put (some da) va).t i)=_
  rw[cB]
  by_cases q:i=da
  ·simp_all
  ·rw[if_neg q,if_neg q];rfl
 ·grind [ux,St.put,St.over]
theorem GW{a b:Oper}{da:Nat}{db:Option Nat}{va vb:AV}{ub:List (Nm×Ob)}(ha:Pu W E l a s da va) (hb:Wr W E l b (s.put (some da) va) db vb ub) (hne:db≠some da) (h1:da∉gF l b) (h2:∀e,db=some e→e∉gF l a) (hc:Jl a=false→∀t∈gF l a, ∀n∈GQ W b,¬aJ (s.t t) n) :
  f7 W E l b s=some ((s.over ub).put db vb)∧f7 W E l a ((s.over ub).put db vb)=some (((s.put (some da) va).over ub).put db vb):=by
 refine⟨hb.stm s (fun t ht=>(x9 s va (t:=t) (fun q:t=da=>h1 (q▸ht))).symm) rfl,?_⟩
 rw[ha.stm ((s.over ub).put db vb) (fun t ht=>by rw[rM,if_neg (fun e=>h2 t e ht)];rfl) (fun hm t ht n hn=>by
  rw[ux]
  exact(io (s:=s) (d:=0) (v := .c .dead) (n:=n) (fun p hp e=>hc hm t ht n (e▸hb.inW p hp) hn)).2),zN s ub da va db vb hne]
theorem GV{a b:Oper}{da:Option Nat}{db:Nat}{va vb:AV}{ua:List (Nm×Ob)}(ha:Wr W E l a s da va ua) (hb:Pu W E l b ((s.over ua).put da va) db vb) (hne:da≠some db) (h1:∀e,da=some e→e∉gF l b) (h2:db∉gF l a) (hc:Jl b=false→∀t∈gF l b, ∀n∈GQ W a,¬aJ (s.t t) n) :
  f7 W E l b s=some (s.put (some db) vb)∧f7 W E l a (s.put (some db) vb)=some (((s.over ua).put da va).put (some db) vb):=by
 have st:∀t∈gF l b,((s.over ua).put da va).t t=s.t t:=fun t ht=>by rw[rM,if_neg (fun e=>h1 t e ht)];rfl
 refine⟨hb.stm s (fun t ht=>(st t ht).symm) (fun hm t ht n hn=>?_),?_⟩
 ·rw[st t ht]at hn
  rw[ux]
  exact(io (s:=s) (d:=0) (v := .c .dead) (n:=n) (fun p hp e=>hc hm t ht n (e▸ha.inW p hp) hn)).2.symm
 rw[ha.stm (s.put (some db) vb) (fun t ht=>x9 s vb (fun q=>h2 (q▸ht))) rfl,zN s ua db vb da va hne]
theorem AH{ns:List Nm}(h:clear ns T l o=true) (hm:Jl o=false){t:Nat}(ht:t∈gF l o){n:Nm}(hn:n∈ns):(t,n)∉T:=by
 simp_all [clear,yl]
theorem CK{d:Option Nat}{l:List Nat}(h:J5 d l=true):∀e,d=some e→e∉l:=fun e he=>by
 subst he
 exact bf h
theorem yH{a b:Option Nat}(h:N4 a b=true){e:Nat}(ha:a=some e):b≠some e:=fun hb=>by
 simp_all [N4]
theorem Lh{L:List Nat}{sa sb:St}{i j:Nat}{a b:Oper}(hI:AX E W T l L s) (hi:i∈L) (ha:l[i]?=some a) (hb:l[j]?=some b) (hda:pk W E a=true→∃d,a.dst=some d) (hdb:pk W E b=true→∃d,b.dst=some d) (hfree:∀x∈L,a9 x ((a8 l []).getD j [])=false) (hp:zL E l W T (a8 l []) i j=true) (g1:f7 W E l a s=some sa) (g2:f7 W E l b sa=some sb) :
  ∃s1,f7 W E l b s=some s1∧f7 W E l a s1=some sb:=by
 unfold zL at hp
 rw[ha,hb]at hp
 dsimp only at hp
 rw[hfree i hi,Bool.false_or,Bool.and_eq_true,Bool.and_eq_true,Bool.and_eq_true,Bool.or_eq_true,Bool.or_eq_true]at hp
 obtain⟨n1,n2,n3,hp⟩:=hp
 have n1:=CK n1
 have n3:=CK n3
 rcases hp with hp|hp|hp
 ·rw[Bool.and_eq_true]at hp
  obtain⟨da,hda⟩:=hda hp.1
  obtain⟨db,hdb⟩:=hdb hp.2
  obtain⟨va,ma,rfl⟩:=zy hp.1 hda g1
  obtain⟨vb,mb,rfl⟩:=zy hp.2 hdb g2
  exact⟨_,GX ma mb (fun q=>yH n2 hda (q▸hdb)) (n1 da hda) (n3 db hdb)⟩
 ·rw[Bool.and_eq_true,Bool.and_eq_true]at hp
  obtain⟨da,hda⟩:=hda hp.1
  obtain⟨va,ma,rfl⟩:=zy hp.1 hda g1
  obtain⟨db,vb,ub,mb,rfl⟩:=EO hp.2.1 g2
  exact⟨_,GW ma mb (fun q=>yH n2 hda (mb.dst.trans q)) (n1 da hda) (fun e he=>n3 e (mb.dst.trans he)) fun hm t ht n hn=>hI.sl (List.ne_nil_of_mem hi) t n (xO hn) (AH hp.2.2 hm ht hn)⟩
 ·rw[Bool.and_eq_true,Bool.and_eq_true]at hp
  obtain⟨da,va,ua,ma,rfl⟩:=EO hp.1 g1
  obtain⟨db,hdb⟩:=hdb hp.2.1
  obtain⟨vb,mb,rfl⟩:=zy hp.2.1 hdb g2
  exact⟨_,GV ma mb (fun q=>yH n2 (ma.dst.trans q) hdb) (fun e he=>n1 e (ma.dst.trans he)) (n3 db hdb) fun hm t ht n hn=>hI.sl (List.ne_nil_of_mem hi) t n (xO hn) (AH hp.2.2 hm ht hn)⟩
theorem Bs (h:pk W E o=true):∃d,o.dst=some d:=by
 grind [Cx,aG,dC,split,first,pk]
theorem Me{L L':List Nat}{i:Nat}(hI:AX E W T l L s) (hi:i∈L) (ho:l[i]?=some o) (hok:K4 E l W T (a8 l []) i=true) (hfree:∀a∈L,a9 a ((a8 l []).getD i [])=false) (hlt:∀j∈L,j<l.length) (hL:∀j∈L',j∈L∧j≠i) (hs:f7 W E l o s=some s1):stg E l o s=some s1∧AX E W T l L' s1:=by
 have hsl:=hI.sl (List.ne_nil_of_mem hi)
 have hob:=hI.ob (List.ne_nil_of_mem hi)
 unfold K4 at hok
 rw[ho]at hok
 dsimp only at hok
 have hok1:=(Bool.and_eq_true _ _).mp hok
 have hk:=(Bool.or_eq_true _ _).mp hok1.1
 have hok2:=(Bool.and_eq_true _ _).mp hok1.2
 have hvs:=hok2.2
 have hok3:=(Bool.and_eq_true _ _).mp hok2.1
 have hj:=hok3.1
 have ht:=hok3.2
 have other:∀j∈L', ∀p e,l[j]?=some p→yt W E p=true→p.dst=some e→o.dst≠some e∧e∉gF l o∧∀n∈qv W,bW e n=false:=by
  grind [dz,yH,bf,bW]
 rcases hk with hw|hp
 ·obtain⟨d,v,ups,m,rfl⟩:=EO hw hs
  refine⟨m.stg s (fun _ _=>rfl) rfl (fun e he=>hI.fr i hi o e ho hw (m.dst.trans he)),fun j hj' p e hp hwp he=>?_,fun _ t n hn htT hm=>?_,fun _ k x hx n hn hm=>?_⟩
  ·obtain⟨hne,hr,hWe⟩:=other j hj' p e hp hwp he
   have hf:=hI.fr j (hL j hj').1 p e hp hwp he
   refine⟨fun t ht n hn h=>?_,fun k x hx=>?_⟩
   ·rw[rM]at h
    by_cases q:d=some t
    ·rw[if_pos q]at h;exact m.plain n h
    ·rw[if_neg q]at h;exact hf.1 t ht n hn h
   ·rw[ux]at hx
    rcases pP s ups 0 (.c .dead) (n:=k) (x:=x) hx with h|⟨_,h⟩
    ·refine⟨hWe _ (xO (m.inW _ h)),fun n hn h2=>?_⟩
     rcases m.src _ h n h2 with⟨t,_,ht,h3⟩|⟨k2,y,h3,h4⟩
     ·exact hf.1 t (fun q=>hr (q▸ht)) n hn h3
     ·exact(hf.2 k2 y h3).2 n hn h4
    ·exact hf.2 k x h
  ·rw[rM]at hm
   by_cases q:d=some t
   ·rw[if_pos q]at hm;exact m.plain n hm
   ·rw[if_neg q]at hm;exact hsl t n hn htT hm
  ·rw[ux]at hx
   rcases pP s ups 0 (.c .dead) (n:=k) (x:=x) hx with h|⟨_,h⟩
   ·rcases m.src _ h n hm with⟨t,ht,_,h3⟩|⟨k2,y,h3,h4⟩
    ·grind [yl]
    ·grind
   ·grind
 ·obtain⟨d,hd⟩:=Bs hp
  obtain⟨v,m,rfl⟩:=zy hp hd hs
  rw[hd]at ht
  dsimp only at ht
  rw[Bool.and_eq_true,Fy hp,Bool.false_or,Bool.or_eq_true]at ht
  have hWd:∀n∈qv W,bW d n=false:=fun n hn=>by
   simp_all
  refine⟨m.m.m.step s (fun _ _=>rfl) (fun _ _ _ _=>rfl) (fun q=>by cases q),fun j hj' p e hpj hwp he=>?_,fun _ t n hn htT hm=>?_,fun _ k x hx n hn hm=>?_⟩
  ·obtain⟨hne,hr,_⟩:=other j hj' p e hpj hwp he
   exact rd m.m (fun q=>hne (q▸hd)) hr (hI.fr j (hL j hj').1 p e hpj hwp he)
  ·rw[cB]at hm
   by_cases q:t=d
   ·rw[if_pos q]at hm
    subst q
    rcases ht.1 with hc|hc
    ·grind [IE]
    ·rcases m.m.m.ment n (.inl hm)with h|⟨u,hu,h⟩|⟨u,hu,k,y,g1,g2,g3⟩
     ·simp_all
     ·grind [yl,uO]
     ·grind
   ·simp_all
  ·exact hob k x hx n hn hm
structure sT (E:aW) (W:WL) (T:List (Nat×Nm)) (l:List Oper) (L:List Nat):Prop where
 nd:L.Nodup
 lt:∀j∈L,j<l.length
 pr:de (zL E l W T (a8 l [])) L=true
 or:de (zO l) L=true
 ok:∀j∈L,(K4 E l W T (a8 l []) j || xe W E l (a8 l []) j)=true
 down:∀j o,j∉L→l[j]?=some o→∀a∈bC o,a∉L
theorem sT.del{pre post:List Nat}{i:Nat}(h:sT E W T l (pre++i::post)) (hfree:∀o,l[i]?=some o→∀a∈bC o,a∉pre++i::post):sT E W T l (pre++post)∧(∀j,j∈pre++post↔j∈pre++i::post∧j≠i):=by
 have mem:∀j,j∈pre++post↔j∈pre++i::post∧j≠i:=by
  have hnd:=(List.perm_middle (a:=i) (l₁:=pre) (l₂:=post)).nodup_iff.1 h.nd
  have hi:=(List.nodup_cons.1 hnd).1
  intro j
  rw[List.mem_append,List.mem_append,List.mem_cons]
  constructor
  ·grind
  ·grind
 refine⟨⟨?_,fun j hj=>h.lt j ((mem j).1 hj).1,(eD h.pr).1,(eD h.or).1,fun j hj=>h.ok j ((mem j).1 hj).1,fun j o hj ho a ha q=>?_⟩,mem⟩
 ·have hnd:=(List.perm_middle (a:=i) (l₁:=pre) (l₂:=post)).nodup_iff.1 h.nd
  exact(List.nodup_cons.1 hnd).2
 ·have q:=((mem a).1 q).1
  by_cases e:j=i
  ·simp_all
  ·exact h.down j o (fun w=>hj ((mem j).2 ⟨w,e⟩)) ho a ha q
theorem sT.reach{L:List Nat}(h:sT E W T l L){i:Nat}{o:Oper}(ho:l[i]?=some o) (hfree:∀a∈bC o,a∉L):∀x∈L,a9 x ((a8 l []).getD i [])=false:=by
 intro x hx
 cases q:a9 x ((a8 l []).getD i [])with
 |false=>rfl
 |true=>exact absurd hx (mN (l:=l) (D:=fun j=>j∉L) h.down i ho hfree (cS.1 q))
theorem sT.head{L:List Nat}{i:Nat}{o:Oper}(h:sT E W T l (i::L)) (ho:l[i]?=some o) (hna:i∉bC o):∀a∈bC o,a∉i::L:=by
 intro a ha hm
 rcases List.mem_cons.1 hm with rfl|hm
 ·exact hna ha
 ·have:=(eD (pre:=[]) h.or).2.2 a hm
  unfold zO at this
  rw[ho]at this
  exact bf this ha
theorem xd{i x:Nat}(h:xe W E l (a8 l []) i=true) (hx:x<l.length) (hne:x≠i):a9 x ((a8 l []).getD i [])=true:=by
 grind [xe,dz]
theorem sT.okx{L:List Nat}(h:sT E W T l L){i x:Nat}(hi:i∈L) (hx:x∈L) (hne:x≠i) (hf:∀y∈L,a9 y ((a8 l []).getD i [])=false):K4 E l W T (a8 l []) i=true:=by
 have:=h.ok i hi
 rw[Bool.or_eq_true]at this
 rcases this with q|q
 ·exact q
 ·have:=xd q (h.lt x hx) hne
  rw[hf x hx]at this
  cases this
theorem Db (hself:∀j o,l[j]?=some o→j∉bC o){post:List Nat}{i:Nat}{b:Oper}(hb:l[i]?=some b):∀{pre:List Nat}{s y:St},sT E W T l (pre++i::post)→AX E W T l (pre++i::post) s→(∀a∈bC b,a∉pre++i::post) →
  nS W E l (bY l (pre++i::post)) s=some y→nS W E l (bY l (i::(pre++post))) s=some y
 |[],s,y,_,_,_,h=>h
 |x::pre,s,y,ho,hI,hf,h=>by
  obtain⟨a,ha⟩:∃a,l[x]?=some a:=⟨_,List.getElem?_eq_getElem (ho.lt x (List.mem_cons_self ..))⟩
  rw[List.cons_append,ca l ha]at h
  have h:(f7 W E l a s).bind (nS W E l (bY l (pre++i::post)))=some y:=h
  obtain⟨sa,g1,g2⟩:=Option.bind_eq_some_iff.1 h
  have hfa:=ho.head ha (hself x a ha)
  obtain⟨o2,mem2⟩:=sT.del (pre:=[]) ho (fun o e=>by rw[ha]at e;obtain rfl:=Option.some.inj e;exact hfa)
  have hI2:AX E W T l (pre++i::post) sa :=
   (Me hI (List.mem_cons_self ..) ha (ho.okx (List.mem_cons_self ..) (x:=i) (List.mem_append_right _ (List.mem_cons_self ..)) (fun e=>(List.nodup_cons.1 ho.nd).1 (by rw[←e];exact List.mem_append_right _ (List.mem_cons_self ..))) (ho.reach ha hfa)) (ho.reach ha hfa) ho.lt (fun j hj=>(mem2 j).1 hj) g1).2
  have h3:=Db hself hb (pre:=pre) o2 hI2 (fun a ha q=>hf a ha (List.mem_cons_of_mem _ q)) g2
  rw[ca l hb]at h3
  have h3:(f7 W E l b sa).bind (nS W E l (bY l (pre++post)))=some y:=h3
  obtain⟨sb,g4,g5⟩:=Option.bind_eq_some_iff.1 h3
  have him:i∈(x::pre)++i::post:=List.mem_append_right _ (List.mem_cons_self ..)
  obtain⟨s1,g6,g7⟩:=Lh hI (List.mem_cons_self ..) ha hb Bs Bs (ho.reach hb hf) ((eD (pre:=x::pre) ho.pr).2.1 x (List.mem_cons_self ..)) g1 g4
  rw[ca l hb,List.cons_append,ca l ha]
  show(f7 W E l b s).bind (fun t=>(f7 W E l a t).bind (nS W E l (bY l (pre++post))))=some y
  rw[g6,Option.bind_some,g7,Option.bind_some]
  exact g5
theorem Js (hself:∀j o,l[j]?=some o→j∉bC o):∀(n:Nat) (rem L:List Nat) (s y:St),sT E W T l L→(∀i,i∈L↔i∈rem)→L.length=n→AX E W T l L s→nS W E l (bY l L) s=some y→∀π∈jm l n rem,uo E l (bY l π) s=some y
 |0,rem,L,s,y,_,_,hl,_,h,π,hπ=>by
  simp_all [bC,nS,bY,jm,uo]
 |n+1,rem,L,s,y,ho,hm,hl,hI,h,π,hπ=>by
  obtain⟨i,hi,hπ⟩:=List.mem_flatMap.1 hπ
  cases hf:eg l rem i with
  |false=>simp_all
  |true =>
   rw[hf]at hπ
   obtain⟨π',hπ',rfl⟩:=List.mem_map.1 hπ
   obtain⟨pre,post,rfl⟩:=List.append_of_mem ((hm i).2 hi)
   obtain⟨b,hb⟩:∃b,l[i]?=some b:=⟨_,List.getElem?_eq_getElem (ho.lt i ((hm i).2 hi))⟩
   have hfr:∀a∈bC b,a∉pre++i::post:=fun a ha q=>by
    simp_all [eg,bf]
   have h2:=Db hself hb ho hI hfr h
   rw[ca l hb]at h2
   have h2:(f7 W E l b s).bind (nS W E l (bY l (pre++post)))=some y:=h2
   obtain⟨s1,g1,g2⟩:=Option.bind_eq_some_iff.1 h2
   obtain⟨o2,mem2⟩:=sT.del ho (fun o e=>by rw[hb]at e;obtain rfl:=Option.some.inj e;exact hfr)
   have him:i∈pre++i::post:=List.mem_append_right _ (List.mem_cons_self ..)
   have both:stg E l b s=some s1∧AX E W T l (pre++post) s1:=by
    have hq:=ho.ok i him
    rw[Bool.or_eq_true]at hq
    rcases hq with hq|hq
    ·exact Me hI him hb hq (ho.reach hb hfr) ho.lt (fun j hj=>(mem2 j).1 hj) g1
    ·have hn:∀j,j∉pre++post:=fun j hj=>by
      obtain⟨q1,q2⟩:=(mem2 j).1 hj
      have:=xd hq (ho.lt j q1) q2
      rw[ho.reach hb hfr j q1]at this
      cases this
     have hk:yt W E b=false∧aG E b≠4:=by
      unfold xe at hq
      rw[hb]at hq
      dsimp only at hq
      rw[Bool.and_eq_true,Bool.and_eq_true]at hq
      refine⟨?_,fun e=>?_⟩
      ·simp_all
      ·simp_all
     rw[ug hk.1,kM ⟨fun _=>rfl,hk.2⟩]at g1
     have nil:pre++post=[]:=List.eq_nil_iff_forall_not_mem.2 hn
     exact⟨g1,⟨fun j hj=>absurd hj (hn j),fun q=>absurd nil q,fun q=>absurd nil q⟩⟩
   have ih:=Js hself n (dN i rem) (pre++post) s1 y o2 (fun j=>by rw[mem2,eJ,hm]) (by simp at hl ⊢;omega) both.2 g2 π' hπ'
   rw[ca l hb]
   show(stg E l b s).bind (uo E l (bY l π'))=some y
   rw[both.1,Option.bind_some]
   exact ih
end
def xX (E:aW) (l:List Oper) (W:WL) (T:List (Nat×Nm)) (L:List Nat) (vs:List (Nat×AV)) (bs:List (Nm×Ob)):Bool :=
 L.all (fun i=>match l[i]? with
  |some o => !yt W E o || (match o.dst with|some d=>yC d vs bs|none=>true)
  |none=>true)&&(vs.all (fun q=>(qv W).all fun n=>v6 q.1 n T || !wZ (Nm.eqb n) q.2)&&bs.all (fun q => !Ae (fun n=>km n (qv W)) q.2))
theorem DB{E:aW}{l:List Oper}{W:WL}{T:List (Nat×Nm)}{L:List Nat}{es:List En}{ds:List DV}(h:xX E l W T L (cy es ds) (eO es ds)=true):AX E W T l L (D8 es ds):=by
 unfold xX at h
 rw[Bool.and_eq_true,Bool.and_eq_true]at h
 obtain⟨h1,h2,h3⟩:=h
 refine⟨fun i hi o d ho hw hd=>?_,fun _ t n hn ht hm=>?_,fun _ m x hx n hn hm=>?_⟩
 ·grind [xn]
 ·have hm:aJ (cY (cy es ds) t) n:=hm
  rcases qQ (vs:=cy es ds) (t:=t)with q|⟨q,hq,g1,g2⟩
  ·rw[q]at hm;exact hm
  ·grind [uO,not_true,qO,Nm.eqb,bx]
 ·have:=List.all_eq_true.1 h3 (m,x) (g9 hx)
  exact not_true this (qP (p:=fun n=>km n (qv W)) (fI.2 hn) hm)
theorem Eo{R:Type}{E:aW}{l:List Oper}(W:WL) (T:List (Nat×Nm)) (L:List Nat) (hb:(L.all (fun i=>Nat.blt i l.length)&&(List.range l.length).all (fun i=>a9 i L))=true) (hnd:L.Nodup) (ha:nB l=true)
  (hp:de (zL E l W T (a8 l [])) L=true) (ho:de (zO l) L=true) (hok:L.all (fun j=>K4 E l W T (a8 l []) j || xe W E l (a8 l []) j)=true){es:List En}{x:TD (bg es)}(hs:xX E l W T L (cy es (ar _ x)) (eO es (ar _ x))=true)
  {k:St→Option R}{y:R}(h:nv W E l (bY l L) (dO es x) k=some y):∀π∈yE l,cg E l (bY l π) (dO es x) k=some y:=by
 rw[Bool.and_eq_true]at hb
 have hm:∀i,i∈L↔i∈List.range l.length:=fun i=>⟨fun hi=>List.mem_range.2 (Nat.le_of_ble_eq_true (List.all_eq_true.1 hb.1 i hi)),fun hi=>cS.1 (List.all_eq_true.1 hb.2 i hi)⟩
 have hlen:L.length=l.length:=by
  have:L.Perm (List.range l.length):=(List.perm_ext_iff_of_nodup hnd List.nodup_range).2 hm
  rw[this.length_eq,List.length_range]
 have hself:∀j o,l[j]?=some o→j∉bC o:=fun j o hj q=>by
  have:=yS ha j o hj j q
  omega
 rw[wJ]at h
 obtain⟨s1,h1,h2⟩:=Option.bind_eq_some_iff.1 h
 intro π hπ
 have:=Js hself l.length (List.range l.length) L (dO es x) s1 ⟨hnd,fun j hj=>List.mem_range.1 ((hm j).1 hj),hp,ho,fun j hj=>List.all_eq_true.1 hok j hj,fun j o hj hjo a ha2 q=>by
  have:j<l.length:=(List.getElem?_eq_some_iff.1 hjo).1
  exact hj ((hm j).2 (List.mem_range.2 this))⟩ hm hlen (DB hs) h1 π hπ
 rw[oO,this]
 exact h2
def JN (E:aW) (l:List Oper) (i j:Nat):Bool:=match l[i]?,l[j]? with
 |some a,some b=>(match a.dst,b.dst with
  |some d,some e=>mi false (aG E a)&&(mi false (aG E b)&&(!a9 d (gF l b)&&(!Nat.beq d e && !a9 e (gF l a))))
  |_,_=>false)
 |_,_=>false
def AA (E:aW) (l:List Oper):Nat→Option Nat→List Nat→List (List Nat)
 |0,_,_=>[[]]
 |n+1,last,rem=>rem.flatMap fun i=>bif eg l rem i && !(match last with|some j=>Nat.blt i j&&JN E l j i|none=>false)then(AA E l n (some i) (dN i rem)).map (fun π=>i::π)else []
section
variable{E:aW}{l:List Oper}
theorem Az:∀(n:Nat) (last:Option Nat) (rem π:List Nat),π∈jm l n rem→(∀j,last=some j→∀i r,π=i::r→(Nat.blt i j&&JN E l j i)=false) →
  π∈AA E l n last rem∨∃pre i j post,π=pre++i::j::post∧j<i∧JN E l i j=true
 |0,last,rem,π,h,_ => .inl h
 |n+1,last,rem,π,h,hl=>by
  obtain⟨i,hi,hπ⟩:=List.mem_flatMap.1 h
  cases hf:eg l rem i with
  |false=>simp_all
  |true =>
   rw[hf]at hπ
   obtain⟨π',hπ',rfl⟩:=List.mem_map.1 hπ
   by_cases hd:∃j r,π'=j::r∧(Nat.blt j i&&JN E l i j)=true
   ·obtain⟨j,r,rfl,q⟩:=hd
    rw[Bool.and_eq_true]at q
    exact .inr ⟨[],i,j,r,rfl,Nat.le_of_ble_eq_true q.1,q.2⟩
   ·rcases Az n (some i) (dN i rem) π' hπ' (fun j hj i' r hr=>by
     obtain rfl:=Option.some.inj hj
     cases q:(Nat.blt i' i&&JN E l i i')with
     |false=>rfl
     |true=>exact absurd ⟨i',r,hr,q⟩ hd)with g|⟨pre,a,b,post,rfl,g1,g2⟩
    ·grind [jm,AA]
    ·grind
theorem zt (i j:Nat) (rem:List Nat):dN i (dN j rem)=dN j (dN i rem):=by
 simp_all [dN,List.filter_filter,Bool.and_comm]
theorem vf (ha:K3 l):∀(pre:List Nat){n:Nat}{rem:List Nat}{i j:Nat}{post:List Nat},pre++i::j::post∈jm l n rem→j<i→(∃b,l[j]?=some b)→pre++j::i::post∈jm l n rem
 |[],0,rem,i,j,post,h,_,_=>by trivial
 |[],1,rem,i,j,post,h,_,_=>by
  obtain⟨x,hx,hπ⟩:=List.mem_flatMap.1 h
  cases hf:eg l rem x with
  |false=>simp_all
  |true =>
   simp_all [K3,jm]
 |[],n+2,rem,i,j,post,h,hij,⟨b,hb⟩=>by
  obtain⟨x,hx,hπ⟩:=List.mem_flatMap.1 h
  cases hf:eg l rem x with
  |false=>simp_all
  |true =>
   rw[hf]at hπ
   obtain⟨π',hπ',e⟩:=List.mem_map.1 hπ
   injection e with e1 e2
   subst e1;subst e2
   obtain⟨y,hy,hπ2⟩:=List.mem_flatMap.1 hπ'
   cases hf2:eg l (dN x rem) y with
   |false=>simp_all
   |true =>
    rw[hf2]at hπ2
    obtain⟨π2,hπ3,e⟩:=List.mem_map.1 hπ2
    injection e with e1 e2
    subst e1;subst e2
    have hy':=eJ.1 hy
    have fy:eg l rem y=true:=by
     grind [eg,a9,dN,cS,eJ,K3,jm]
    have fx:eg l (dN y rem) x=true:=by
     grind [eg,a9,dN,cS,eJ]
    refine List.mem_flatMap.2 ⟨y,hy'.1,?_⟩
    rw[fy]
    refine List.mem_map.2 ⟨x::π2,List.mem_flatMap.2 ⟨x,eJ.2 ⟨hx,by omega⟩,?_⟩,rfl⟩
    rw[fx]
    refine List.mem_map.2 ⟨π2,?_,rfl⟩
    rw[zt]
    exact hπ3
 |p::pre,0,rem,i,j,post,h,_,_=>by trivial
 |p::pre,n+1,rem,i,j,post,h,hij,hb=>by
  obtain⟨x,hx,hπ⟩:=List.mem_flatMap.1 h
  refine List.mem_flatMap.2 ⟨x,hx,?_⟩
  cases hf:eg l rem x with
  |false=>simp_all
  |true =>
   rw[hf]at hπ
   obtain⟨π',hπ',e⟩:=List.mem_map.1 hπ
   injection e with e1 e2
   subst e1;subst e2
   exact List.mem_map.2 ⟨_,vf ha pre hπ' hij hb,rfl⟩
theorem wx{i j:Nat}(hs:JN E l i j=true){post:List Nat}{y:St}:∀{pre:List Nat}{s:St},(∀x∈pre, ∃o,l[x]?=some o)→mc false E l (bY l (pre++j::i::post)) s=some y→mc false E l (bY l (pre++i::j::post)) s=some y
 |[],s,_,h=>by
  unfold JN at hs
  cases hi:l[i]? with
  |none=>simp_all
  |some a =>
   cases hj:l[j]? with
   |none=>simp_all
   |some b =>
    rw[hi,hj]at hs
    dsimp only at hs
    cases hda:a.dst with
    |none=>simp_all
    |some d =>
     cases hdb:b.dst with
     |none=>simp_all
     |some e =>
      rw[hda,hdb]at hs
      dsimp only at hs
      rw[Bool.and_eq_true,Bool.and_eq_true,Bool.and_eq_true,Bool.and_eq_true]at hs
      obtain⟨k1,k2,n1,n2,n3⟩:=hs
      rw[List.nil_append,ca l hj,ca l hi]at h
      rw[List.nil_append,ca l hi,ca l hj]
      have h:(stm false E l b s).bind (fun t=>(stm false E l a t).bind (mc false E l (bY l post)))=some y:=h
      show(stm false E l a s).bind (fun t=>(stm false E l b t).bind (mc false E l (bY l post)))=some y
      obtain⟨sb,g1,h⟩:=Option.bind_eq_some_iff.1 h
      obtain⟨sa,g2,h⟩:=Option.bind_eq_some_iff.1 h
      obtain⟨vb,ub,qb,mb,mb2,rfl,_⟩:=gq hdb k2 g1
      obtain⟨va,ua,qa,ma,ma2,rfl,_⟩:=gq hda k1 g2
      have no1:∀{k:Nat},mi false k=true→k≠1:=fun h q=>by rw[q]at h;cases h
      obtain⟨x1,x2⟩:=ma2 (no1 k1)
      obtain⟨y1,y2⟩:=mb2 (no1 k2)
      obtain⟨e1,e2⟩:=Cl mb ma (Ne.symm (lw n2)) (bf n3) (bf n1) (.inl ⟨y2,x2,y1,x1⟩)
      rw[e1,Option.bind_some,e2,Option.bind_some]
      exact h
 |x::pre,s,hp,h=>by
  obtain⟨o,ho⟩:=hp x (List.mem_cons_self ..)
  rw[List.cons_append,ca l ho]at h ⊢
  have h:(stm false E l o s).bind (mc false E l (bY l (pre++j::i::post)))=some y:=h
  show(stm false E l o s).bind (mc false E l (bY l (pre++i::j::post)))=some y
  obtain⟨s1,g1,g2⟩:=Option.bind_eq_some_iff.1 h
  rw[g1,Option.bind_some]
  exact wx hs (fun z hz=>hp z (List.mem_cons_of_mem _ hz)) g2
def wt:List Nat→Nat
 |[]=>0
 |x::r=>x*(r.length+1)+wt r
theorem Cd{i j:Nat}(h:j<i){post:List Nat}:∀(pre:List Nat),wt (pre++j::i::post)<wt (pre++i::j::post)
 |[]=>by
  grind [wt]
 |x::pre=>by
  have:=Cd h (post:=post) pre
  simp only[List.cons_append,wt,List.length_append,List.length_cons]
  omega
theorem Ay:∀{n:Nat}{rem π:List Nat},π∈jm l n rem→∀x∈π, ∃o,l[x]?=some o
 |0,rem,π,h,x,hx=>by simp_all [jm]
 |n+1,rem,π,h,x,hx=>by
  obtain⟨i,hi,hπ⟩:=List.mem_flatMap.1 h
  cases hf:eg l rem i with
  |false=>simp_all
  |true =>
   rw[hf]at hπ
   obtain⟨π',hπ',rfl⟩:=List.mem_map.1 hπ
   rcases List.mem_cons.1 hx with rfl|hx
   ·grind [eg]
   ·exact Ay hπ' x hx
theorem JO (s s1:St){o:Oper}(hq:stm false E l o s=some s1):stg E l o s=some s1:=by
 by_cases k4:aG E o=4
 ·cases hd:o.dst with
  |none =>
   grind [aG,dC,split,first]
  |some d =>
   obtain⟨v,ups,q,m,m2,rfl,_⟩:=FZ (.inr k4) hd hq
   exact m.m.step s (fun _ _=>rfl) (fun _ _ _ _=>rfl) (fun w=>by rw[(m2 k4).1]at w;cases w)
 ·simp_all [kM]
theorem Cn:∀{r:List Oper}{s y:St},mc false E l r s=some y→uo E l r s=some y
 |[],s,y,h=>h
 |o::r,s,y,h=>by
  have h:(stm false E l o s).bind (mc false E l r)=some y:=h
  obtain⟨s1,g1,g2⟩:=Option.bind_eq_some_iff.1 h
  show(stg E l o s).bind (uo E l r)=some y
  rw[JO s s1 g1,Option.bind_some]
  exact Cn g2
theorem IN{R:Type}(ha:nB l=true){s:St}{k:St→Option R}{y:R}(h:∀π∈AA E l l.length none (List.range l.length),kH false E l (bY l π) s k=some y):∀π∈yE l,cg E l (bY l π) s k=some y:=by
 have all:∀(m:Nat) (π:List Nat),wt π≤m→π∈yE l→∃s1,mc false E l (bY l π) s=some s1∧k s1=some y:=by
  intro m
  induction m using Nat.strongRecOn with
  |_ m ih =>
   intro π hw hπ
   rcases Az (E:=E) l.length none (List.range l.length) π hπ (fun j hj=>by cases hj)with g|⟨pre,i,j,post,rfl,g1,g2⟩
   ·have:=h π g
    rw[oN]at this
    obtain⟨s1,e1,e2⟩:=Option.bind_eq_some_iff.1 this
    exact⟨s1,e1,e2⟩
   ·have hx:=Ay hπ
    have hlt:=Cd g1 (post:=post) pre
    obtain⟨s1,e1,e2⟩:=ih (wt (pre++j::i::post)) (by omega) (pre++j::i::post) (Nat.le_refl _) (vf (yS ha) pre hπ g1 (hx j (List.mem_append_right _ (List.mem_cons_of_mem _ (List.mem_cons_self ..)))))
    exact⟨s1,wx g2 (fun x hp=>hx x (List.mem_append_left _ hp)) e1,e2⟩
 intro π hπ
 obtain⟨s1,e1,e2⟩:=all (wt π) π (Nat.le_refl _) hπ
 rw[oO,Cn e1]
 exact e2
end
section
variable{P:Program}{X:oC}{L:Nm→Value}{I:Nat→Prop}{s:St}{a:Act}{w:World}{R:Type}
def KR:Ex→Exit→Prop
 | .normal, .normal=>True
 | .exit i, .exit j=>i=j
 | .ret, .ret=>True
 |_,_=>False
def ke (X:oC) (L:Nm→Value) (k:Ex→St→Option R) (y:R) (e:Exit) (a:Act) (w:World):Prop :=
 ∃x s' L' I',KR x e∧bD X L' I' s' a w∧(∀n,f6 n=true→L' n=L n)∧k x s'=some y
def xH (E:aW) (id:Nat) (ops:Array Oper):Prop:=∀S,E.Ω id=some S→nB ops.toList=true∧∀x y,S.g x=some y→∀π∈yE ops.toList,cg E ops.toList (bY ops.toList π) (dO S.ent x) (fun s'=>gP E.N S.out s')=some y
def eH (E:aW):Code→Prop
 | .region id ops _=>xH E id ops
 | .seq a b=>eH E a∧eH E b
 | .cond _ a b=>eH E a∧eH E b
 | .block _ c=>eH E c
 | .loop c=>eH E c∧∀S,E.Λ (key c)=some S→∃f:Nat→TD (bg S.ent)→Option (EX S.exs),(∀x,f 0 x=none)∧(∃n,S.g=f n)∧∀n x,f (n+1) x=dM E c S (f n) x
 |_=>True
theorem Mj{x y:Ex}(h:Ex.eqb x y=true):x=y:=by
 cases x<;>cases y<;>first|rfl|(cases h;done)|exact congrArg Ex.exit (Nat.eq_of_beq_eq_true h)
theorem qc{N:Nat}:∀{l:List (Ex×List En)}{x:Ex}{s:St}{y:EX l},wb N l x s=some y→∃es, ∃z:TD (bg es),gP N es s=some z∧∀(R:Type) (k:Ex→St→Option R),Gj l y k=k x (dO es z)
 |[],_,_,_,h=>by cases h
 |[e],x,s,y,h=>by
  unfold wb at h
  cases q:Ex.eqb e.1 x with
  |false=>rw[q]at h;cases h
  |true =>
   rw[q]at h
   have:=Mj q
   exact⟨e.2,y,h,fun R k=>by show k e.1 _=_;rw[this]⟩
 |e::f::r,x,s,y,h=>by
  unfold wb at h
  split at h
  ·rename_i z hz
   obtain rfl:=Option.some.inj h
   cases q:Ex.eqb e.1 x with
   |false=>rw[q]at hz;cases hz
   |true =>
    rw[q]at hz
    have:=Mj q
    exact⟨e.2,z,hz,fun R k=>by show k e.1 _=_;rw[this]⟩
  ·split at h
   ·rename_i y' e1
    obtain rfl:=Option.some.inj h
    obtain⟨es,z,g1,g2⟩:=qc e1
    exact⟨es,z,g1,fun R k=>g2 R k⟩
   ·cases h
theorem FE {α:Type}{a b:Option α}{y:α}(h:NY a b=some y):a=some y∨b=some y:=by
 unfold NY at h
 cases a with
 |none=>exact .inr h
 |some r=>exact .inl h
theorem wG:∀{l:List (Nat×ag)}{f:Nat}{S:ag},zF l f=some S→(f,S)∈l
 |[],_,_,h=>by cases h
 |p::r,f,S,h=>by
  unfold zF at h
  cases q:Nat.beq p.1 f with
  |true =>
   rw[q]at h
   obtain rfl:=Option.some.inj h
   rw[←Nat.eq_of_beq_eq_true q]
   exact .head _
  |false=>rw[q]at h;exact .tail _ (wG h)
theorem Km{P:Program}{K:eN}{E:aW}(h:nI P K E):nI P K E.alt where
 τ:=h.τ
 Γ f d S e:=by
  have e:(match zF E.Γ2 f with|some S=>some S|none=>E.Γ f d)=some S:=e
  split at e
  ·rename_i S' q
   obtain rfl:=Option.some.inj e
   exact h.alt _ (wG q)
  ·exact h.Γ f d S e
 mo:=h.mo
 alt:=h.alt
theorem gI (h:bD X L I s a w){es:List En}{x:TD (bg es)}(e:gP X.N es s=some x):∃L' I',bD X L' I' (dO es x) a w∧∀n,f6 n=true→L' n=L n:=by
 obtain⟨L',I',h1,_,h2⟩:=uk h e (us:=es.map fun e=>a.tmps.getD e.slot undef) (by
  clear e x
  induction es with
  |nil=>trivial
  |cons en es ih=>exact⟨h.slot en.slot,ih⟩) (a':=a) h.defers h.size (fun i en u z1 z2=>by
   rw[List.getElem?_map,z1]at z2
   exact Option.some.inj z2)
 exact⟨L',I',h1,h2⟩
theorem ke.trans{k:Ex→St→Option R}{y:R}{L1:Nm→Value}{e:Exit}(hk:∀n,f6 n=true→L1 n=L n) (h:ke X L1 k y e a w):ke X L k y e a w:=by
 simp_all [f6,ke]
theorem BM{E:aW}(hE:nI P X.K E) (hN:E.N=X.N) (h:bD X L I s a w){id:Nat}{ops:Array Oper}(hr:xH E id ops){k:Ex→St→Option R}{y:R}(e:p9 E (.region id ops true) s k=some y) :
  (Code.region id ops true).wp P (ke X L k y) a w:=by
 simp only[p9]at e
 cases q:sO ops.toList (mQ E ops.toList)with
 |false =>
  rw[q]at e
  simp only[cond_false]at e
  unfold Ju at e
  split at e
  ·rename_i S hS
   split at e
   ·rename_i x hx
    split at e
    ·rename_i z hz
     obtain⟨ha,hall⟩:=hr S hS
     have hall:=hall x z hz
     rw[hN]at hx
     obtain⟨L1,I1,h1,hk1⟩:=gI h hx
     refine wp_region_any hE.mo ?_
     have hg:bD X L1 I1 (dO S.ent x) a { w with drawn:=w.drawn+1 }:=h1.grows (bT.drew _ w)
     have:=Eu (L:=L) (k:=fun s'=>gP E.N S.out s') (y:=z) (Q:=ke X L k y) (l:=ops.toList) hE hN (yS ha) (fun a' w' hp=>by
      obtain⟨s',L',I',r1,r2,r3⟩:=hp
      rw[hN]at r3
      obtain⟨L2,I2,h2,hk2⟩:=gI r1 r3
      exact⟨.normal,_,L2,I2,trivial,h2,fun n hn=>(hk2 n hn).trans (r2 n hn),e⟩) ops.toList.length (List.range ops.toList.length) (Array.replicate ops.size false) (by simp) ⟨by simp,fun i hi=>List.mem_range.1 hi,List.nodup_range,fun i hi=>by
       have hi':i<ops.size:=by trivial
       simp[hi']⟩ hg hk1 hall
     rw[Array.length_toList]at this
     exact this
    ·cases e
   ·cases e
  ·cases e
 |true =>
  rw[q]at e
  simp only[cond_true]at e
  refine wp_region_any hE.mo ?_
  have hg:bD X L I s a { w with drawn:=w.drawn+1 }:=h.grows (bT.drew _ w)
  have hle:=wF E ops.toList
  obtain⟨hl,hlen⟩:=BF hle q
  have:=Gl (L:=L) (k:=k .normal) (y:=y) (Q:=ke X L k y) (l:=ops.toList) hE hN (fun a' w' hp=>by
   obtain⟨s',L',I',r1,r2,r3⟩:=hp
   exact⟨.normal,s',L',I',trivial,r1,r2,r3⟩) ops.size (eU ops.toList (mQ E ops.toList)) (gC ops.toList (mQ E ops.toList)) (Array.replicate ops.size false) (by
    rw[hlen,Array.length_toList]) (by rw[←Array.length_toList];exact hl) hg (fun _ _=>rfl) e
  exact this
theorem BJ{E:aW}(hE:nI P X.K E) (hN:E.N=X.N):∀(c:Code),eH E c→∀{R:Type}{k:Ex→St→Option R}{y:R}{L:Nm→Value}{I:Nat→Prop}{s:St}{a:Act}{w:World},bD X L I s a w→p9 E c s k=some y →
  c.wp P (ke X L k y) a w:=by
 intro c
 induction c with
 |skip=>intro _ R k y L I s a w h e;exact wp_skip ⟨.normal,s,L,I,trivial,h,fun _ _=>rfl,e⟩
 |exit id=>intro _ R k y L I s a w h e;exact wp_exit ⟨.exit id,s,L,I,rfl,h,fun _ _=>rfl,e⟩
 |ret=>intro _ R k y L I s a w h e;exact wp_ret ⟨.ret,s,L,I,trivial,h,fun _ _=>rfl,e⟩
 |region id ops draw =>
  intro hl R k y L I s a w h e
  cases draw with
  |true=>exact BM hE hN h hl e
  |false =>
   refine wp_region_list ?_
   have one:∀{E':aW},nI P X.K E'→E'.N=X.N→cg E' ops.toList ops.toList s (k .normal)=some y→_:=fun{E'} hE' hN' e' =>
    uF (L:=L) (k:=k .normal) (y:=y) (all:=ops.toList) (Q:=ke X L k y) hE' hN' (fun a' w' hp=>by
     obtain⟨s',L',I',r1,r2,r3⟩:=hp
     exact⟨.normal,s',L',I',trivial,r1,r2,r3⟩) h (fun _ _=>rfl) e'
   have e:(bif E.A id then NY (cg E.alt ops.toList ops.toList s (k .normal)) (cg E ops.toList ops.toList s (k .normal))else cg E ops.toList ops.toList s (k .normal))=some y:=e
   cases q:E.A id with
   |false=>rw[q]at e;exact one hE hN e
   |true =>
    rw[q]at e
    rcases FE e with e|e
    ·exact one (Km hE) hN e
    ·exact one hE hN e
 |seq x z ihx ihz =>
  intro hl R k y L I s a w h e
  refine wp_seq (Go.wp_mono (ihx hl.1 h e) fun en a' w' hp=>?_)
  obtain⟨x',s',L',I',h1,r1,r2,r3⟩:=hp
  cases x' with
  |normal =>
   cases en<;>try exact h1.elim
   exact Go.wp_mono (ihz hl.2 r1 r3) fun _ _ _ q=>ke.trans r2 q
  |exit i =>
   cases en<;>try exact h1.elim
   exact⟨.exit i,s',L',I',h1,r1,r2,r3⟩
  |ret =>
   cases en<;>try exact h1.elim
   exact⟨.ret,s',L',I',h1,r1,r2,r3⟩
 |cond c x z ihx ihz =>
  intro hl R k y L I s a w h e
  simp only[p9]at e
  split at e
  ·rename_i b hb
   have hv:=h.ev c
   rw[uT hb]at hv
   have hv:a.eval c = .bool b:=List.head_eq_of_cons_eq hv
   cases b with
   |true=>simp only[oV hb]at e;exact wp_cond_true hv (ihx hl.1 h e)
   |false=>simp only[oV hb]at e;exact wp_cond_false hv (ihz hl.2 h e)
  ·cases e
 |block id c ih =>
  intro hl R k y L I s a w h e
  refine wp_block (Go.wp_mono (ih hl h e) fun en a' w' hp=>?_)
  obtain⟨x',s',L',I',h1,r1,r2,r3⟩:=hp
  cases x' with
  |normal =>
   cases en<;>try exact h1.elim
   exact⟨.normal,s',L',I',trivial,r1,r2,r3⟩
  |exit i =>
   cases en with
   |exit j =>
    obtain rfl:i=j:=h1
    dsimp only at r3
    show if i=id then ke X L k y .normal a' w' else ke X L k y (.exit i) a' w'
    cases q:Nat.beq i id with
    |true =>
     rw[q]at r3
     rw[if_pos (Nat.eq_of_beq_eq_true q)]
     exact⟨.normal,s',L',I',trivial,r1,r2,r3⟩
    |false =>
     rw[q]at r3
     rw[if_neg (Nat.ne_of_beq_eq_false q)]
     exact⟨.exit i,s',L',I',rfl,r1,r2,r3⟩
   |_=>exact h1.elim
  |ret =>
   cases en<;>try exact h1.elim
   exact⟨.ret,s',L',I',trivial,r1,r2,r3⟩
 |loop c ih =>
  intro hl R k y L I s a w h e
  simp only[p9]at e
  split at e
  ·rename_i S hS
   split at e
   ·rename_i x hx
    split at e
    ·rename_i z hz
     obtain⟨f,f0,⟨n,hn⟩,fs⟩:=hl.2 S hS
     rw[hn]at hz
     rw[hN]at hx
     obtain⟨L1,I1,h1,hk1⟩:=gI h hx
     refine wp_loop_rounds (n+1) ?_
     have main:∀n x,f n x=some z→∀{L1:Nm→Value}{I1:Nat→Prop}{a:Act}{w:World},bD X L1 I1 (dO S.ent x) a w→(∀n,f6 n=true→L1 n=L n)→Code.rounds P c (ke X L k y) (n+1) a w:=by
      intro n
      induction n with
      |zero=>simp_all
      |succ n ihn =>
       intro x hx L1 I1 a w h1 hk1
       rw[fs]at hx
       rw[rounds_succ]
       refine Go.wp_mono (ih hl.1 h1 hx) fun en a' w' hp=>?_
       obtain⟨x',s',L',I',g1,r1,r2,r3⟩:=hp
       have ends:∀{ex:Ex},KR ex en→wb E.N S.exs ex s'=some z→ke X L k y en a' w':=by
        grind [qc,gI,eH,p9,ke]
       cases x' with
       |normal =>
        cases en<;>try exact g1.elim
        dsimp only at r3
        split at r3
        ·rename_i x2 hx2
         rw[hN]at hx2
         obtain⟨L2,I2,h2,hk2⟩:=gI r1 hx2
         exact ihn x2 r3 h2 (fun n hn=>(hk2 n hn).trans ((r2 n hn).trans (hk1 n hn)))
        ·cases hp:S.peel with
         |false=>rw[hp]at r3;cases r3
         |true =>
          rw[hp]at r3
          show Code.rounds P c (ke X L k y) (n+1) a' w'
          rw[rounds_succ]
          refine Go.wp_mono (ih hl.1 r1 r3) fun en2 a2 w2 hp2=>?_
          obtain⟨x2,s2,L2,I2,q1,q2,q3,q4⟩:=hp2
          have ends2:∀{ex:Ex},KR ex en2→wb E.N S.exs ex s2=some z→ke X L k y en2 a2 w2:=by
           intro ex hx hz2
           obtain⟨es,z',g1,g2⟩:=qc hz2
           rw[hN]at g1
           obtain⟨L3,I3,h3,hk3⟩:=gI q2 g1
           exact⟨ex,_,L3,I3,hx,h3,fun n hn=>(hk3 n hn).trans ((q3 n hn).trans ((r2 n hn).trans (hk1 n hn))),(g2 _ k).symm.trans e⟩
          cases x2 with
          |normal=>cases q4
          |exit i =>
           cases en2<;>try exact q1.elim
           exact ends2 (ex := .exit i) q1 q4
          |ret =>
           cases en2<;>try exact q1.elim
           exact ends2 (ex := .ret) q1 q4
       |exit i =>
        cases en<;>try exact g1.elim
        exact ends (ex := .exit i) g1 r3
       |ret =>
        cases en<;>try exact g1.elim
        exact ends (ex := .ret) g1 r3
     exact main n x hz h1 hk1
    ·cases e
   ·cases hp:S.peel with
    |false=>rw[hp]at e;cases e
    |true =>
     rw[hp]at e
     refine wp_loop_rounds 1 ?_
     rw[rounds_succ]
     refine Go.wp_mono (ih hl.1 h e) fun en a' w' hp2=>?_
     obtain⟨x',s',L',I',g1,r1,r2,r3⟩:=hp2
     cases x' with
     |normal=>cases r3
     |exit i =>
      cases en<;>try exact g1.elim
      exact⟨.exit i,s',L',I',g1,r1,r2,r3⟩
     |ret =>
      cases en<;>try exact g1.elim
      exact⟨.ret,s',L',I',g1,r1,r2,r3⟩
  ·cases e
 |_=>intro _ R k y L I s a w h e;cases e
end
end AM
end Go.Proofs.YtcflmfpnmjlhdaaGreatDoor
namespace Go.Proofs.YtcflmfpnmjlhdaaGreatDoor
namespace AM
open Go
set_option linter.unusedSimpArgs false
set_option linter.unusedVariables false
section
variable{P:Program}{X:oC}{L:Nm→Value}{I:Nat→Prop}{s:St}{a:Act}{w:World}
theorem bD.extend (h:bD X L I s a w){N r:Nat}(hr:r≤X.N) (hN:r≤N):bD { X with N:=N } L I (s.cut r) { tmps:=first r a.tmps++Array.replicate (N-(first r a.tmps).size) undef,defers:=[] } w:=by
 have hs:=h.size
 have hfs:(first r a.tmps).size=r:=by unfold first;simp;omega
 refine⟨rfl,?_,fun i hi=>?_,fun i hi=>?_,h.obj,h.sep,h.own,h.imm,h.sub,h.step,h.glob⟩
 ·simp_all
 ·by_cases q:i<r
  ·have e1:(s.cut r).t i=s.t i:=by
    show(bif Nat.blt i r then s.t i else .c .dead)=_
    rw[show Nat.blt i r=true from Nat.ble_eq_true_of_le q];rfl
   have e2:(first r a.tmps++Array.replicate (N-(first r a.tmps).size) undef).getD i undef=a.tmps.getD i undef:=by
    rw[Array.getD_eq_getD_getElem?,Array.getD_eq_getD_getElem?,Array.getElem?_append_left (by rw[hfs];exact q)]
    unfold first
    rw[List.getElem?_toArray,List.getElem?_take,if_pos q]
    simp
   rw[e1,e2];exact h.tmp i (by omega)
  ·have e1:(s.cut r).t i = .c .dead:=by
    show(bif Nat.blt i r then s.t i else .c .dead)=_
    rw[show Nat.blt i r=false from by cases z:Nat.blt i r with|false=>rfl|true=>exact absurd (Nat.le_of_ble_eq_true z) q];rfl
   rw[e1];trivial
 ·have hi:N≤i:=hi
  show(bif Nat.blt i r then s.t i else .c .dead)=_
  rw[show Nat.blt i r=false from by cases z:Nat.blt i r with|false=>rfl|true=>exact absurd (Nat.le_of_ble_eq_true z) (by show ¬(i<r);omega)];rfl
def qD (a:Act):ResultVar→Sem Value
 | .tmp t=>pure (a.tmps.getD t undef)
 | .cell b t=>do loadVar t (←asAddr (a.tmps.getD b undef))
theorem x8 (h:bD X L I s a w) {τ:jx}(hτ:cV P τ){v:ResultVar}{x:AV}(e:Bg τ s v=some x) :
  ∃u,(qD a v).run P w = .ok u w∧RA L I w (AL s.o) x u:=by
 cases v with
 |tmp t=>obtain rfl:=Option.some.inj e;exact⟨_,by simp[qD],h.slot t⟩
 |cell b t =>
  simp only[Bg]at e
  split at e
  ·rename_i ti p e1 e2
   have r:=h.slot b
   rw[e2]at r
   obtain⟨b',off,vs,e4,hl,hc,hr,h1⟩:=nA h e r
   refine⟨_,?_,hr⟩
   have:=qA (P:=P) (hτ t ti e1) hl hc h1
   show(do loadVar t (←asAddr (a.tmps.getD b undef))).run P w=_
   rw[e4]
   simp[asAddr,this,Result.andThen]
  ·cases e
theorem pA (h:bD X L I s a w) {τ:jx}(hτ:cV P τ):∀{vs:List ResultVar}{xs:List AV},mJ τ s vs=some xs →
  ∃us,(vs.mapM (qD a)).run P w = .ok us w∧aI (RA L I w (AL s.o)) xs us
 |[],_,e=>by obtain rfl:=Option.some.inj e;exact⟨[],by simp,trivial⟩
 |v::vs,_,e=>by
  simp only[mJ]at e
  split at e
  ·rename_i x xs e1 e2
   obtain rfl:=Option.some.inj e
   obtain⟨u,g1,g2⟩:=x8 h hτ e1
   obtain⟨us,g3,g4⟩:=pA h hτ e2
   exact⟨u::us,by simp[List.mapM_cons,g1,g3,Result.andThen],g2,g4⟩
  ·cases e
theorem tc {τ:jx}:∀{vs:List ResultVar}{xs:List AV},mJ τ s vs=some xs→xs.length=vs.length
 |[],_,e=>by simp_all [mJ]
 |v::vs,_,e=>by
  simp only[mJ]at e
  split at e
  ·rename_i x xs e1 e2
   obtain rfl:=Option.some.inj e
   simp[tc e2]
  ·cases e
theorem zk{fn:Func}{us:List Value}(h:(fn.results.toList.mapM (qD a)).run P w = .ok us w) :
  (results fn a.tmps).run P w = .ok (if h:us.toArray.size=1 then us.toArray[0]else .tuple us.toArray) w:=by
 show(do
  let vs ←fn.results.mapM (qD a)
  pure (if h:vs.size=1 then vs[0]else Value.tuple vs)).run P w=_
 rw[Array.mapM_eq_mapM_toList]
 simp[h,Result.andThen]
def eP (f:Nat→Value):Nat→List AU→List Value
 |_,[]=>[]
 |i, .c (.b _ _)::r=>f i::eP f (i+1) r
 |i, .p _::r=>f i::eP f (i+1) r
 |i, .h _::r=>f i::eP f (i+1) r
 |i,_::r=>eP f (i+1) r
theorem qY{L':Nm→Value}{I':Nat→Prop}{w':World}{A A':Nm→Option (Nat×Nat)}(hk:∀n,f6 n=true→L' n=L n):∀{cs:List CV}{us:List Value},cs.all CT=true→aI (RC L I w A) cs us→aI (RC L' I' w' A') cs us
 |[],[],_,_=>trivial
 |[],_::_,_,r=>r.elim
 |_::_,[],_,r=>r.elim
 |c::cs,u::us,q,r=>by
  rw[List.all_cons,Bool.and_eq_true]at q
  refine⟨?_,qY hk q.2 r.2⟩
  have q:=q.1
  have r:=r.1
  cases c with
  |own n =>
   simp_all [f6,CT,aI,RC]
  |v ty x=>exact cL.plain ty (by simpa [CT]using q) r
  |hd k=>exact r
  |_=>cases q
theorem qH{L':Nm→Value}{I':Nat→Prop}{w':World}{A A':Nm→Option (Nat×Nat)}{f:Nat→AV}{g:Nat→Value}(h:∀i,RA L I w A (f i) (g i)) (hk:∀n,f6 n=true→L' n=L n):∀{ps:List AU}{k:Nat}{l:List AV},
  rP f k ps=some l→aI (RA L' I' w' A') l (eP g k ps)
 |[],_,_,e=>by obtain rfl:=Option.some.inj e;trivial
 |p::ps,k,_,e=>by
  simp only[rP]at e
  split at e
  ·rename_i l e1
   have ih:=qH (L':=L') (I':=I') (w':=w') (A':=A') h hk e1
   have one:sg (f k)=true→RA L' I' w' A' (f k) (g k):=by
    intro q
    have r:=h k
    unfold sg at q
    split at q
    ·rename_i n o en
     rw[en]at r ⊢
     obtain⟨b,off,r1,r2⟩:=r
     exact⟨b,off,by rw[hk n q];exact r1,r2⟩
    ·rename_i n en
     rw[en]at r ⊢
     obtain⟨x1,x2,x3,r1,r2⟩:=r
     exact⟨x1,x2,x3,r1,by rw[hk n q];exact r2⟩
    ·rename_i cs en
     rw[en]at r ⊢
     obtain⟨vs,r1,r⟩:=r
     exact⟨vs,r1,qY hk q r⟩
    ·cases q
   have two:∀{l2:List AV},(bif sg (f k)then some (f k::l)else none)=some l2→aI (RA L' I' w' A') l2 (g k::eP g (k+1) ps):=by
    grind [RA,f6,rP,aI,eP]
   cases p with
   |c q =>
    grind [RA,f6,rP,aI,eP]
   |g ps'=>obtain rfl:=Option.some.inj e;exact ih
   |p ps'=>exact two e
   |h ps'=>exact two e
  ·cases e
theorem pQ{g:Nat→Value}:∀{ps:List AU}{k i:Nat}{e:En}{u:Value},(fR k ps)[i]?=some e→(eP g k ps)[i]?=some u→u=g e.slot∧e.slot<k+ps.length
 |[],_,_,_,_,h,_=>by cases h
 |p::ps,k,i,e,u,h,h'=>by
  have rest:(fR (k+1) ps)[i]?=some e→(eP g (k+1) ps)[i]?=some u→u=g e.slot∧e.slot<k+(ps.length+1):=fun h h'=>by
   obtain⟨g1,g2⟩:=pQ h h';exact⟨g1,by omega⟩
  have cons:∀{en:En},en.slot=k→(en::fR (k+1) ps)[i]?=some e→(g k::eP g (k+1) ps)[i]?=some u→u=g e.slot∧e.slot<k+(ps.length+1):=by
   intro en he h h'
   cases i with
   |zero=>simp_all
   |succ i=>obtain⟨g1,g2⟩:=pQ (i:=i) h h';exact⟨g1,by omega⟩
  cases p with
  |c q =>
   cases q with
   |i t=>exact rest h h'
   |o _ t=>exact rest h h'
   |b _ t=>exact cons rfl h h'
   |k _ _ t=>exact rest h h'
   |q _ _=>exact rest h h'
   |m _ _ _=>exact rest h h'
   |f _ _=>exact rest h h'
   |e=>exact rest h h'
   |l=>exact rest h h'
  |g ps'=>exact rest h h'
  |p ps'=>exact cons rfl h h'
  |h ps'=>exact cons rfl h h'
theorem iu{g:Nat→Value}:∀(ps:List AU) (k:Nat),(fR k ps).length=(eP g k ps).length
 |[],_=>rfl
 |p::ps,k=>by
  cases p with
  |c q=>cases q<;>simp[fR,eP,iu (g:=g) ps (k+1)]
  |g ps'=>simp[fR,eP,iu (g:=g) ps (k+1)]
  |p ps'=>simp[fR,eP,iu (g:=g) ps (k+1)]
  |h ps'=>simp[fR,eP,iu (g:=g) ps (k+1)]
theorem uv:∀{rs:List (Bool×List PS)}{k i:Nat}{e:En},(kg k rs)[i]?=some e→e.slot=k+i
 |[],_,_,_,h=>by cases h
 |(b,ps)::rs,k,0,e,h=>by
  obtain rfl:=Option.some.inj (show some (Jb k b ps)=some e from h)
  cases b<;>(cases ps<;>rfl)
 |(b,ps)::rs,k,i+1,e,h=>by
  have h:(kg (k+1) rs)[i]?=some e:=h
  rw[uv h];omega
theorem mK:∀(rs:List (Bool×List PS)) (k:Nat),(kg k rs).length=rs.length
 |[],_=>rfl
 |(b,ps)::rs,k=>by simp[kg,mK rs]
theorem wS:∀{rs:List (Nat×Nm×List PS)}{k i:Nat}{e:En},(z8 k rs)[i]?=some e→e.slot=k+i
 |[],_,_,_,h=>by cases h
 |p::rs,k,0,e,h=>by obtain rfl:=Option.some.inj h;rfl
 |p::rs,k,i+1,e,h=>by
  have h:(z8 (k+1) rs)[i]?=some e:=h
  rw[wS h];omega
theorem RA.getD{A:Nm→Option (Nat×Nat)}{xs:List AV}{us:List Value}(h:aI (RA L I w A) xs us) (i:Nat):RA L I w A (xs.getD i (.c .dead)) (us.getD i undef):=by
 rw[List.getD_eq_getElem?_getD,List.getD_eq_getElem?_getD]
 cases e:xs[i]? with
 |none=>trivial
 |some x=>obtain⟨u,e2,r⟩:=h.get e;rw[e2];exact r
theorem z7{A:Nm→Option (Nat×Nat)}{xs:List AV}{us:List Value}(h:aI (RA L I w A) xs us):∀nb:List (Nat×Nm×List PS),aI (RA L I w A) (nb.map fun p=>xs.getD p.1 (.c .dead)) (nb.map fun p=>us.getD p.1 undef)
 |[]=>trivial
 |p::nb=>⟨RA.getD h p.1,z7 h nb⟩
theorem Ia{a'':Act}{np:Nat}{us:List Value}(h:∀j u,us[j]?=some u→a''.tmps.getD (np+j) undef=u):(if h:us.toArray.size=1 then us.toArray[0]else .tuple us.toArray)=zq a'' np us.length:=by
 match us with
 |[u]=>rw[dif_pos (show #[u].size=1 from rfl)];exact(h 0 u rfl).symm
 |[]=>simp[zq]
 |u::v::r =>
  have:∀l:List Value,(∀j u,l[j]?=some u→a''.tmps.getD (np+j) undef=u)→(List.range l.length).map (fun j=>a''.tmps.getD (np+j) undef)=l:=by
   intro l hl
   apply List.ext_getElem?
   intro i
   rw[List.getElem?_map]
   rcases Nat.lt_or_ge i l.length with q|q
   ·simp_all
   ·simp_all
  have:=this _ h
  rw[dif_neg (by simp)]
  show _=Value.tuple ((List.range (u::v::r).length).map fun j=>a''.tmps.getD (np+j) undef).toArray
  rw[this]
theorem Lm{E:aW}{K:eN}(hE:nI P K E){f:FuncId}{fn:Func}{c:Code}{S:ag}(hf:P.funcs[f]?=some fn) (hb:fn.body=some c) (hN:E.N=fn.ntmps) (hn:S.pars.length≤fn.ntmps) (hr:fn.results.size=S.res.length)
  (hl:eH E c) (hg:∀x r,S.g x=some r→aR E fn S x=some r):jo P K f S:=by
 intro Y L I a w x r hx h hK hY hw
 subst hK
 refine calls_of_wp hf hb ?_
 have hreal:S.real≤S.pars.length:=by unfold ag.real;omega
 have h1:=h.extend (N:=fn.ntmps) (r:=S.real) (by rw[hY];exact hreal) (by omega)
 have e:=hg x r hx
 unfold aR at e
 rw[hb]at e
 dsimp only at e
 refine Go.wp_mono (BJ hE (X:={ Y with N:=fn.ntmps }) hN c hl h1 e) fun en a' w' hp=>?_
 obtain⟨ex,s',L',I',hx',r1,r2,r3⟩:=hp
 have fin:G7 E fn S (dO (aF 0 S.pars) x) s'=some r→a'.defers=[]∧∃v,(results fn a'.tmps).run P w' = .ok v w' ∧
   ∃v' L2 I2 a2,Ending.returned v = .returned v'∧bD { Y with N:=S.pars.length+(S.res.length+S.nb.length) } L2 I2 (dO S.ens r) a2 w'∧(∀n,f6 n=true→L2 n=L n)∧v'=zq a2 S.pars.length S.res.length:=by
  intro e
  refine⟨r1.defers,?_⟩
  unfold G7 at e
  split at e
  ·rename_i rs os e1 e2
   obtain⟨us,g1,g2⟩:=pA r1 hE.τ e1
   have hul:us.length=S.res.length:=by
    rw[←g2.len,tc e1, ←hr];simp
   have hos:=qH (L':=L') (I':=I') (w':=w') (A':=AL s'.o) (g:=fun i=>a.tmps.getD i undef) (fun i=>h.slot i) r2 e2
   have hsz:a.tmps.size=S.pars.length:=by rw[h.size,hY]
   let bs:=S.nb.map fun p=>us.getD p.1 undef
   have hbl:bs.length=S.nb.length:=List.length_map ..
   have hat:∀j u,us[j]?=some u→(a.tmps++us.toArray++bs.toArray).getD (S.pars.length+j) undef=u:=by
    intro j u hj
    have hjl:j<us.length:=(List.getElem?_eq_some_iff.1 hj).1
    rw[Array.getD_eq_getD_getElem?,Array.getElem?_append_left (by simp;omega),Array.getElem?_append_right (by omega),hsz,Nat.add_sub_cancel_left]
    simp[hj]
   have hat2:∀j u,bs[j]?=some u→(a.tmps++us.toArray++bs.toArray).getD (S.pars.length+S.res.length+j) undef=u:=by
    intro j u hj
    have:(a.tmps++us.toArray).size=S.pars.length+S.res.length:=by simp[hsz,hul]
    rw[Array.getD_eq_getD_getElem?,Array.getElem?_append_right (by omega),this,Nat.add_sub_cancel_left,List.getElem?_toArray,hj];rfl
   obtain⟨L2,I2,k1,_,k3⟩:=uk r1 e (hos.append (g2.append (z7 g2 S.nb))) (a':=⟨a.tmps++us.toArray++bs.toArray,[]⟩) rfl (by simp[hsz,hul,hbl]) (fun i en u z1 z2=>by
    unfold dl at z1
    rcases Nat.lt_or_ge i (fR 0 S.pars).length with q|q
    ·rw[List.getElem?_append_left q]at z1
     rw[List.getElem?_append_left (by rw[←iu];exact q)]at z2
     obtain⟨y1,y2⟩:=pQ z1 z2
     rw[y1,Array.getD_eq_getD_getElem?,Array.append_assoc,Array.getElem?_append_left (by omega), ←Array.getD_eq_getD_getElem?]
    ·rw[List.getElem?_append_right q]at z1
     rw[List.getElem?_append_right (by rw[←iu];exact q), ←iu]at z2
     generalize i-(fR 0 S.pars).length=m at z1 z2
     rcases Nat.lt_or_ge m S.res.length with q2|q2
     ·rw[List.getElem?_append_left (by rw[mK];exact q2)]at z1
      rw[List.getElem?_append_left (by omega)]at z2
      rw[uv z1]
      exact hat _ u z2
     ·rw[List.getElem?_append_right (by rw[mK];exact q2),mK]at z1
      rw[List.getElem?_append_right (by omega),hul]at z2
      rw[wS z1]
      exact hat2 _ u z2)
   refine⟨_,zk g1,_,L2,I2,⟨a.tmps++us.toArray++bs.toArray,[]⟩,rfl,k1,fun n hn=>(k3 n hn).trans (r2 n hn),?_⟩
   rw[←hul]
   exact Ia (a'':=⟨a.tmps++us.toArray++bs.toArray,[]⟩) hat
  ·cases e
 cases ex with
 |normal =>
  cases en<;>try exact hx'.elim
  exact fin r3
 |exit i=>cases r3
 |ret =>
  cases en<;>try exact hx'.elim
  exact fin r3
end
end AM
end Go.Proofs.YtcflmfpnmjlhdaaGreatDoor
namespace Go.Proofs.YtcflmfpnmjlhdaaGreatDoor
namespace AM
open Go
set_option linter.unusedVariables false
set_option linter.unusedSimpArgs false
def EW (sz:TypeId→Nat) (r:TypeId→Option Ty):Nat→List Field→Option Ty
 |_,[]=>none
 |off,[f]=>match r f.type with
  |some t=>bif Nat.beq f.offset off&&Nat.beq (sz f.type) t.sz then some t else none
  |none=>none
 |off,f::g::l=>match r f.type with
  |some t=>bif Nat.beq f.offset off&&Nat.beq (sz f.type) t.sz then(match EW sz r (off+t.sz) (g::l)with
   |some u=>some (.pr t u)
   |none=>none)else none
  |none=>none
def zd (P:Program):Nat→TypeId→Option Ty
 |0,_=>none
 |n+1,T=>match P.underlying T with
  |some (.int k)=>some (.int k)
  |some .bool=>some .bool
  |some .string=>some .str
  |some (.slice e)=>match zd P n e with
   |some t=>bif Nat.beq (P.cellsOf e) t.sz then some (.sl t)else none
   |none=>none
  |some (.struct fs)=>match EW P.cellsOf (zd P n) 0 fs.toList with
   |some t=>bif Nat.beq (P.cellsOf T) t.sz then some t else none
   |none=>none
  |_=>none
def sX:(t:Ty)→t.den→Prop
 | .int k,n=>(Lit.int k n).wf=true
 | .bool,_=>True
 | .str,s=>ByteArray.size s≤maxLen
 | .sl t,xs=>List.length xs≤maxLen∧∀x∈(show List t.den from xs),sX t x
 | .pr a b,x=>sX a x.1∧sX b x.2
section
variable{H:Type}{enc:TypeId×Value→H}{P:Program}{w:World}{sp:Nat→Bool}{held:Bool}
theorem Ey{a:Addr}{n:Nat}{cs:List Value}(h:w.cells? 0 a n=some cs):cs.length=n∧∀j u,cs[j]?=some u→w.cell? (a.add j)=some u:=by
 unfold World.cells? at h
 split at h
 ·have hl:=mapM_some_length h
  refine⟨by simpa using hl,fun j u hu=>?_⟩
  have hj:j<n:=by
   grind
  have:=mapM_some_get h j j (by simp[hj])
  rw[this,hu]
 ·cases h
theorem Ez{a:Addr}{u:Value}(h:w.cell? a=some u):a=⟨a.block,a.off,none⟩∧a.block<w.heap.size:=by
 have hspot:a.spot=none:=by
  cases hsp:a.spot with
  |none=>rfl
  |some s =>
   grind [split,World.cell?]
 exact⟨by cases a;simp_all,World.block_lt_of_cell? w a h⟩
theorem EE (b off j:Nat):(⟨b,off,none⟩:Addr).add j=⟨b,off+j,none⟩:=by
 unfold Addr.add
 by_cases h:j=0
 ·subst h;rfl
 ·simp_all
def GE (w:World) (t:Ty) (cs:List Value):Prop:=∃d:t.den,cL (fun b=>b<w.heap.size) w t d cs∧sX t d
theorem tw {α β:Type}{R:Nat→α→β→Prop}:∀{n:Nat},(∀i,i<n→∃a b,R i a b)→∃(xs:List α) (ys:List β),xs.length=n∧ys.length=n∧∀(i:Nat) (x:α) (y:β),xs[i]?=some x→ys[i]?=some y→R i x y
 |0,_=>⟨[],[],rfl,rfl,fun _ _ _ h=>by cases h⟩
 |n+1,h=>by
  obtain⟨xs,ys,h1,h2,h3⟩:=tw (n:=n) (fun i hi=>h i (by omega))
  obtain⟨a,b,hab⟩:=h n (by omega)
  refine⟨xs++[a],ys++[b],by simp[h1],by simp[h2],fun i x y hx hy=>?_⟩
  rcases Nat.lt_or_ge i n with q|q
  ·grind
  ·grind
theorem tC {α β:Type}{R:α→β→Prop}:∀{xs:List α}{ys:List β},xs.length=ys.length→(∀(i:Nat) (x:α) (y:β),xs[i]?=some x→ys[i]?=some y→R x y)→aI R xs ys
 |[],[],_,_=>trivial
 |x::xs,y::ys,h,g=>⟨g 0 x y rfl rfl,tC (by simpa using h) (fun i a b ha hb=>g (i+1) a b ha hb)⟩
 |[],_::_,h,_=>by cases h
 |_::_,[],h,_=>by cases h
theorem tu{sz:Nat}:∀{css:List (List Value)},(∀cs∈css,cs.length=sz)→∀{j:Nat}{u:Value},css.flatten[j]?=some u→∃i k cs,j=i*sz+k∧css[i]?=some cs∧cs[k]?=some u
 |[],_,_,_,h=>by simp at h
 |c::css,hl,j,u,h=>by
  rw[List.flatten_cons]at h
  have hc:=hl c (List.mem_cons_self ..)
  rcases Nat.lt_or_ge j c.length with q|q
  ·rw[List.getElem?_append_left q]at h
   exact⟨0,j,c,by omega,rfl,h⟩
  ·rw[List.getElem?_append_right q]at h
   obtain⟨i,k,cs,h1,h2,h3⟩:=tu (fun x hx=>hl x (List.mem_cons_of_mem _ hx)) h
   exact⟨i+1,k,cs,by rw[Nat.add_mul];omega,h2,h3⟩
theorem Ib{e:Nat}{t:Ty}{n:Nat}(ih:∀cs (x:DataW H×List MemPlace),DataW.trod enc P w 0 sp held n e cs=some x→GE w t cs) (hsz:P.cellsOf e=t.sz){a:Addr}{len cap:Nat}(hl:len≤cap) (hc:cap≤maxLen)
  {el:Nat→Option (DataW H×List MemPlace)}(hel:∀i,i<len→(w.cells? 0 (a.add (i*P.cellsOf e)) (P.cellsOf e)).bind (DataW.trod enc P w 0 sp held n e)=el i) (hs:∀i,i<len→(el i).isSome=true):GE w (.sl t) [.slice (some a) len cap]:=by
 have each:∀i,i<len→∃(d:t.den) (cs:List Value),(cL (fun b=>b<w.heap.size) w t d cs∧sX t d)∧(∀k u,cs[k]?=some u→w.cell? ((a.add (i*t.sz)).add k)=some u)∧cs.length=t.sz:=by
  intro i hi
  have h1:=hel i hi
  have h2:=hs i hi
  cases he:el i with
  |none=>simp_all
  |some y =>
   rw[he,Option.bind_eq_some_iff]at h1
   obtain⟨cs,h3,h4⟩:=h1
   obtain⟨d,h5⟩:=ih cs y h4
   rw[hsz]at h3
   obtain⟨h6,h7⟩:=Ey h3
   exact⟨d,cs,h5,h7,h6⟩
 obtain⟨xs,css,g1,g2,g3⟩:=tw each
 have add2:∀(i k:Nat),(a.add i).add k=a.add (i+k):=by
  intro i k
  unfold Addr.add
  by_cases hi:i=0
  ·simp_all
  ·grind
 have hcl:∀cs∈css,cs.length=t.sz:=by
  intro cs hcs
  obtain⟨i,hi⟩:=List.getElem?_of_mem hcs
  have hlt:i<xs.length:=by have:=(List.getElem?_eq_some_iff.1 hi).1;omega
  exact(g3 i _ cs (List.getElem?_eq_getElem hlt) hi).2.2
 refine⟨xs,⟨some a,cap,css,by rw[g1],by rw[g1];exact hl,tC (by omega) (fun i x cs hx hcs=>(g3 i x cs hx hcs).1.1),?_⟩,by rw[g1];omega,fun x hx=>?_⟩
 ·cases hxs:xs with
  |nil=>exact .inl rfl
  |cons x0 r =>
   refine .inr ?_
   have h0:0<len:=by grind
   have hcss:0<css.length:=by omega
   have e0:=g3 0 xs[0] css[0] (List.getElem?_eq_getElem (by omega)) (List.getElem?_eq_getElem hcss)
   have hp:=t.sz_pos
   have hk0:0<css[0].length:=by omega
   have c0:=e0.2.1 0 css[0][0] (List.getElem?_eq_getElem hk0)
   rw[add2,show 0*t.sz+0=0 by omega]at c0
   obtain⟨hsp,s3⟩:=Ez (show w.cell? a=_ from c0)
   refine⟨a.block,a.off,by rw[←hsp],s3,fun j u hu=>?_⟩
   obtain⟨i,k,cs,q1,q2,q3⟩:=tu hcl hu
   have hlt:i<xs.length:=by grind
   have c1:=(g3 i _ cs (List.getElem?_eq_getElem hlt) q2).2.1 k u q3
   rw[add2,hsp,EE]at c1
   rw[q1]
   exact c1
 ·obtain⟨i,hi⟩:=List.getElem?_of_mem hx
  have hlt:i<css.length:=by grind
  exact(g3 i x _ hi (List.getElem?_eq_getElem hlt)).1.2
theorem Cq{n:Nat}{r:TypeId→Option Ty}(ih:∀T t,r T=some t→∀cs (x:DataW H×List MemPlace),DataW.trod enc P w 0 sp held n T cs=some x→GE w t cs){cs:List Value}:∀(fs:List Field) (off:Nat) (t:Ty),EW P.cellsOf r off fs=some t →
  (∀f∈fs, ∃x,DataW.trod enc P w 0 sp held n f.type ((cs.drop f.offset).take (P.cellsOf f.type))=some x)→(cs.drop off).length=t.sz→GE w t (cs.drop off)
 |[],_,_,h,_,_=>by cases h
 |[f],off,t,h,hf,hl=>by
  simp only[EW]at h
  split at h
  ·rename_i u hu
   cases q:(Nat.beq f.offset off&&Nat.beq (P.cellsOf f.type) u.sz)with
   |false=>simp_all
   |true =>
    rw[q]at h
    obtain rfl:=Option.some.inj h
    rw[Bool.and_eq_true]at q
    obtain⟨x,hx⟩:=hf f (List.mem_cons_self ..)
    rw[Nat.eq_of_beq_eq_true q.1,Nat.eq_of_beq_eq_true q.2,List.take_of_length_le (by omega)]at hx
    exact ih _ _ hu _ x hx
  ·cases h
 |f::g::l,off,t,h,hf,hl=>by
  simp only[EW]at h
  split at h
  ·rename_i u hu
   cases q:(Nat.beq f.offset off&&Nat.beq (P.cellsOf f.type) u.sz)with
   |false=>simp_all
   |true =>
    rw[q]at h
    simp only[cond_true]at h
    rw[Bool.and_eq_true]at q
    split at h
    ·rename_i v hv
     obtain rfl:=Option.some.inj h
     obtain⟨x,hx⟩:=hf f (List.mem_cons_self ..)
     rw[Nat.eq_of_beq_eq_true q.1,Nat.eq_of_beq_eq_true q.2]at hx
     obtain⟨d1,r1,f1⟩:=ih _ _ hu _ x hx
     have hl2:(cs.drop (off+u.sz)).length=v.sz:=by
      rw[←List.drop_drop,List.length_drop,hl]
      show u.sz+v.sz-u.sz=_
      omega
     obtain⟨d2,r2,f2⟩:=Cq ih (g::l) (off+u.sz) v hv (fun y hy=>hf y (List.mem_cons_of_mem _ hy)) hl2
     refine⟨(d1,d2),⟨_,_,?_,r1,r2⟩,f1,f2⟩
     rw[←List.drop_drop,List.take_append_drop]
    ·cases h
  ·cases h
theorem mM:∀(n:Nat) (T:TypeId) (t:Ty),zd P n T=some t→∀(fuel:Nat) (cs:List Value) (x:DataW H×List MemPlace),DataW.trod enc P w 0 sp held fuel T cs=some x→GE w t cs
 |0,_,_,h,_,_,_,_=>by cases h
 |n+1,T,t,h,fuel,cs,x,hx=>by
  unfold zd at h
  split at h
  ·rename_i k hu
   obtain rfl:=Option.some.inj h
   obtain⟨m,rfl,_,hw⟩:=DataW.trod_int hu hx
   exact⟨m,rfl,hw⟩
  ·rename_i hu
   obtain rfl:=Option.some.inj h
   obtain⟨m,rfl,_⟩:=DataW.trod_bool hu hx
   exact⟨m,rfl,trivial⟩
  ·rename_i hu
   obtain rfl:=Option.some.inj h
   obtain⟨s,rfl,_,hs⟩:=DataW.trod_string hu hx
   exact⟨s,rfl,hs⟩
  ·rename_i e hu
   split at h
   ·rename_i u he
    cases q:Nat.beq (P.cellsOf e) u.sz with
    |false=>simp_all
    |true =>
     rw[q]at h
     obtain rfl:=Option.some.inj h
     rcases DataW.trod_slice hu hx with⟨rfl,_⟩|⟨a,len,cap,elems,rest,m,rfl,rfl,rfl,_,hl,hm,hlen,hel,_,_⟩
     ·exact⟨[],⟨none,0,[],rfl,Nat.le_refl _,trivial, .inl rfl⟩,Nat.zero_le _,fun x hx=>by cases hx⟩
     ·exact Ib (fun cs y hy=>mM n e u he m cs y hy) (Nat.eq_of_beq_eq_true q) hl hm hel (fun i hi=>by rw[List.getElem?_eq_getElem (by omega)];rfl)
   ·cases h
  ·rename_i fs hu
   split at h
   ·rename_i u hf
    cases q:Nat.beq (P.cellsOf T) u.sz with
    |false=>simp_all
    |true =>
     rw[q]at h
     obtain rfl:=Option.some.inj h
     obtain⟨xs,m,rfl,rfl,hcl,hxl,hel⟩:=DataW.trod_struct hu hx
     have:=Cq (P:=P) (fun T t ht cs y hy=>mM n T t ht m cs y hy) (cs:=cs) fs.toList 0 u hf (fun f hfm=>by
      obtain⟨i,hi⟩:=List.getElem?_of_mem hfm
      have hi':fs[i]?=some f:=by simpa using hi
      have hlt:i<xs.length:=by rw[hxl];exact(Array.getElem?_eq_some_iff.1 hi').1
      refine⟨xs[i],?_⟩
      rw[hel i f hi',List.getElem?_eq_getElem hlt]) (by rw[List.drop_zero,hcl];exact Nat.eq_of_beq_eq_true q)
     simpa using this
   ·cases h
  ·cases h
end
def flat:Ty→List Ty
 | .pr a b=>flat a++flat b
 | .int k=>[.int k]
 | .bool=>[.bool]
 | .str=>[.str]
 | .sl t=>[.sl t]
def xy:(t:Ty)→t.den→List DV
 | .pr a b,x=>xy a x.1++xy b x.2
 | .int k,x=>[⟨.int k,x⟩]
 | .bool,x=>[⟨.bool,x⟩]
 | .str,x=>[⟨.str,x⟩]
 | .sl t,x=>[⟨.sl t,x⟩]
def DV.cv (d:DV):CV := .v d.t d.x
theorem C3:∀(t:Ty) (x:t.den),(xy t x).map DV.t=flat t
 | .pr a b,x=>by simp only[xy,flat,List.map_append,C3 a,C3 b]
 | .int k,x=>rfl
 | .bool,x=>rfl
 | .str,x=>rfl
 | .sl t,x=>rfl
theorem sN:∀(t:Ty) (x:t.den),(xy t x).map DV.cv=split t x
 | .pr a b,x=>by simp only[xy,split,List.map_append,sN a,sN b]
 | .int k,x=>rfl
 | .bool,x=>rfl
 | .str,x=>rfl
 | .sl t,x=>rfl
theorem vi:∀(t:Ty) (x:t.den),sX t x→∀d∈xy t x,sX d.t d.x
 | .pr a b,x,h,d,hd=>by
  rcases List.mem_append.1 hd with q|q
  ·exact vi a _ h.1 d q
  ·exact vi b _ h.2 d q
 | .int k,x,h,d,hd=>by grind [sX,xy]
 | .bool,x,h,d,hd=>by grind [sX,xy]
 | .str,x,h,d,hd=>by grind [sX,xy]
 | .sl t,x,h,d,hd=>by grind [sX,xy]
theorem DT{t u:Ty}{r:List Ty}{d:DV}{ds:List DV}{x:t.den}{y:TD (u::r)}(h1:d.as t=some x) (h2:pc (u::r) ds=some y):pc (t::u::r) (d::ds)=some (x,y):=by
 unfold pc
 rw[h1,h2]
theorem wI:∀ds:List DV, ∃x,pc (ds.map DV.t) ds=some x
 |[]=>⟨(),rfl⟩
 |[d]=>⟨d.x,jc d.x⟩
 |d::e::r=>by
  obtain⟨x,hx⟩:=wI (e::r)
  exact⟨(d.x,x),DT (jc d.x) hx⟩
structure iO where
 t:Ty
 agg:Bool
 x:t.den
 u:Value
def iO.par (a:iO):AU:=bif a.agg then .g ((flat a.t).map .i)else .c (.i a.t)
def iO.dv (a:iO):List DV:=bif a.agg then xy a.t a.x else [⟨a.t,a.x⟩]
def iO.av (a:iO):AV:=bif a.agg then .g (split a.t a.x)else .c (.v a.t a.x)
def iO.ok (w:World) (a:iO):Prop:=sX a.t a.x∧(a.agg=true→∃vs,a.u = .agg vs.toArray∧cL (fun b=>b<w.heap.size) w a.t a.x vs)∧(a.agg=false→cL (fun b=>b<w.heap.size) w a.t a.x [a.u])
theorem wW (nm:Nat→PS→Nm):∀(ts:List Ty) (k:Nat) (ds:List DV),ds.length=ts.length→fX nm k (ts.map .i) ds=ds.map DV.cv∧rV nm k (ts.map .i) ds=[]
 |[],_,[],_=>⟨rfl,rfl⟩
 |[],_,_::_,h=>by cases h
 |_::_,_,[],h=>by cases h
 |t::ts,k,d::ds,h=>by
  obtain⟨h1,h2⟩:=wW nm ts (k+1) ds (by simpa using h)
  constructor
  ·simp_all [n6,fX,DV.cv,rV]
  ·trivial
def tB:Nat→List iO→List (Nat×AV)
 |_,[]=>[]
 |k,a::r=>(k,a.av)::tB (k+1) r
theorem CO:∀(l:List iO) (k:Nat),cy (aF k (l.map iO.par)) (l.flatMap iO.dv)=tB k l∧eO (aF k (l.map iO.par)) (l.flatMap iO.dv)=[]∧bg (aF k (l.map iO.par))=(l.flatMap iO.dv).map DV.t
 |[],_=>⟨rfl,rfl,rfl⟩
 |a::r,k=>by
  obtain⟨h1,h2,h3⟩:=CO r (k+1)
  obtain⟨t,agg,x,u⟩:=a
  cases agg with
  |true =>
   have hl:(xy t x).length=(flat t).length:=by rw[←C3 t x,List.length_map]
   have hl2:(xy t x).length=((flat t).map PS.i).length:=by rw[List.length_map];exact hl
   obtain⟨c1,c2⟩:=wW (pT k) (flat t) 0 (xy t x) hl
   refine⟨?_,?_,?_⟩
   ·show(k,AV.g (fX (pT k) 0 ((flat t).map PS.i) ((xy t x++r.flatMap iO.dv).take ((flat t).map PS.i).length)))::cy (aF (k+1) (r.map iO.par)) ((xy t x++r.flatMap iO.dv).drop ((flat t).map PS.i).length)=_
    rw[←hl2,List.take_left,List.drop_left,h1,c1,sN];rfl
   ·show rV (pT k) 0 ((flat t).map PS.i) ((xy t x++r.flatMap iO.dv).take ((flat t).map PS.i).length)++eO (aF (k+1) (r.map iO.par)) ((xy t x++r.flatMap iO.dv).drop ((flat t).map PS.i).length)=_
    rw[←hl2,List.take_left,List.drop_left,h2,c2];rfl
   ·show((flat t).map PS.i).map PS.ty++bg (aF (k+1) (r.map iO.par))=(xy t x++r.flatMap iO.dv).map DV.t
    rw[h3,List.map_append,C3,List.map_map]
    congr 1
    exact(List.map_congr_left fun _ _=>rfl).trans (List.map_id _)
  |false =>
   refine⟨?_,?_,?_⟩
   ·show(k,AV.c (.v t x))::cy (aF (k+1) (r.map iO.par)) (r.flatMap iO.dv)=_
    rw[h1];rfl
   ·trivial
   ·show t::bg (aF (k+1) (r.map iO.par))=t::(r.flatMap iO.dv).map DV.t
    rw[h3]
theorem w9{L:Nm→Value}{I:Nat→Prop}{w:World}{A:Nm→Option (Nat×Nat)}:∀(l:List iO) (k i:Nat),(∀a∈l,RA L I w A a.av a.u)→RA L I w A (cY (tB k l) (k+i)) ((l.map iO.u).getD i undef)
 |[],_,_,_=>trivial
 |a::r,k,0,h=>by
  simp_all [iO.av,cY,tB]
 |a::r,k,i+1,h=>by
  show RA L I w A (bif Nat.beq k (k+(i+1))then a.av else cY (tB (k+1) r) (k+(i+1))) _
  rw[dz (by omega:k≠k+(i+1)),show k+(i+1)=(k+1)+i by omega]
  exact w9 r (k+1) i (fun b hb=>h b (List.mem_cons_of_mem _ hb))
theorem CR:∀(l:List iO) (k i:Nat),k+l.length≤i→cY (tB k l) i = .c .dead
 |[],_,_,_=>rfl
 |a::r,k,i,h=>by
  show(bif Nat.beq k i then a.av else cY (tB (k+1) r) i)=_
  have h:k+(r.length+1)≤i:=h
  rw[dz (by omega:k≠i)]
  exact CR r (k+1) i (by omega)
theorem th:∀(l:List iO) (k:Nat),fR k (l.map iO.par)=[]
 |[],_=>rfl
 |a::r,k=>by
  obtain⟨t,agg,x,u⟩:=a
  have:=th r (k+1)
  cases agg<;>exact this
def GI (ts:List Ty) (x:TD ts):Prop:=∀d∈ar ts x,sX d.t d.x
theorem kZ{n:Nat}{xs:Array Value}(h:xs.size≤n):first n xs=xs:=by
 grind [first]
theorem Ec{P:Program}{K:eN}{f:FuncId}{pars:List AU}{g:Nat→TD (bg (aF 0 pars))→Option (TD (bg (dl pars [(false,[.i .bool])] [])))}
  (obs:∀n,jo P K f { pars:=pars,res:=[(false,[.i .bool])],g:=g n }) (pure:∀x,GI _ x→∃n r,g n x=some r∧ar _ r=[⟨.bool,true⟩])
  {W:World}(hK:K.ok W) (hKb:∀b,K.blk b→b<W.heap.size){l:List iO}(hl:l.map iO.par=pars) (hok:∀a∈l,a.ok W) :
  Calls P f (l.map iO.u).toArray W fun e w'=>e = .returned (.bool true)∧RowKit.Below W.heap.size W w':=by
 subst hl
 obtain⟨m1,m2,m3⟩:=CO l 0
 obtain⟨x,hx⟩:∃x,pc (bg (aF 0 (l.map iO.par))) (l.flatMap iO.dv)=some x:=by
  rw[m3];exact wI _
 have hux:=lJ hx
 obtain⟨n,r,hr,hur⟩:=pure x (fun d hd=>by
  rw[hux]at hd
  obtain⟨a,ha,hd⟩:=List.mem_flatMap.1 hd
  have hf:=(hok a ha).1
  obtain⟨t,agg,y,u⟩:=a
  cases agg with
  |true=>exact vi t y hf d hd
  |false=>obtain rfl:=List.mem_singleton.1 hd;exact hf)
 let Y:oC:={ K:=K,N:=l.length,w0:=W,E:=fun _ _=>False,I0:=fun b=>b<W.heap.size }
 have hst:dO (aF 0 (l.map iO.par)) x=⟨cY (tB 0 l),fun _=>none⟩:=by
  unfold dO D8
  rw[hux,m1,m2]
  rfl
 have hrel:bD Y (fun _=>undef) (fun b=>b<W.heap.size) (dO (aF 0 (l.map iO.par)) x) ⟨(l.map iO.u).toArray,[]⟩ W:=by
  rw[hst]
  refine⟨rfl,by simp[Y],fun i hi=>?_,fun i hi=>CR l 0 i (by show 0+l.length≤i;have:l.length≤i:=hi;omega),fun _ _ h=>(by cases h),fun _ _ _ _ h=>(by cases h),fun _ _ h=>(by cases h),fun b hb=>⟨hb, .inl hb⟩,fun b hb=>hb,bT.refl _ _,hK,hKb⟩
  have:=w9 (L:=fun _=>undef) (I:=fun b=>b<W.heap.size) (w:=W) (A:=AL (fun _=>none)) l 0 i (fun a ha=>by
   obtain⟨_,h2,h3⟩:=hok a ha
   obtain⟨t,agg,y,u⟩:=a
   cases agg with
   |true=>obtain⟨vs,h4,h5⟩:=h2 rfl;exact⟨vs,h4,ff t h5⟩
   |false=>exact h3 rfl)
  rw[Nat.zero_add]at this
  simpa using this
 have hc:=obs n Y _ _ ⟨(l.map iO.u).toArray,[]⟩ W x r hr hrel rfl (by simp[Y]) rfl
 rw[show first (ag.real { pars:=l.map iO.par,res:=[(false,[.i .bool])],g:=g n }) (⟨(l.map iO.u).toArray,[]⟩:Act).tmps=(l.map iO.u).toArray from kZ (by unfold ag.real;simp)]at hc
 refine hc.mono fun e w' h=>?_
 obtain⟨v,L',I',a',rfl,hR,_,rfl⟩:=h
 have hs:=hR.slot (l.map iO.par).length
 have hlk:(dO (ag.ens { pars:=l.map iO.par,res:=[(false,[.i .bool])],g:=g n }) r).t (l.map iO.par).length = .c (.v .bool true):=by
  unfold dO D8
  rw[show ar (bg (ag.ens { pars:=l.map iO.par,res:=[(false,[.i .bool])],g:=g n })) r=[⟨.bool,true⟩]from hur]
  show cY (cy (fR 0 (l.map iO.par)++_) _) _=_
  rw[th]
  show(bif Nat.beq (l.map iO.par).length (l.map iO.par).length then _ else _)=_
  rw[Nat.beq_refl];rfl
 rw[hlk]at hs
 have hs:a'.tmps.getD (l.map iO.par).length undef = .bool true:=List.head_eq_of_cons_eq hs
 exact⟨congrArg Ending.returned hs,bT.below hR.step⟩
def DV.val:DV→Value
 |⟨.int k,n⟩ => .int k n
 |⟨.bool,b⟩ => .bool b
 |⟨.str,s⟩ => .string s
 |_=>undef
def Fq:List Value→Value
 |[v]=>v
 |vs => .tuple vs.toArray
def Ty.one:Ty→Bool
 | .int _=>true
 | .bool=>true
 | .str=>true
 |_=>false
def cK (ts:List Ty):List AU:=ts.map fun t => .c (.i t)
def dx (ts:List PS):List (Bool×List PS):=ts.map fun p=>(false,[p])
def PS.outs:PS→Bool
 | .i t=>t.one
 | .e=>true
 |_=>false
def RI (p:PS) (d:DV) (v:Value):Prop:=match p with
 | .e=>∃b,d.as .bool=some b∧match b with
  |true=>∃t x,v = .iface t x
  |false=>v = .nilIface
 |_=>v=DV.val d
def wm:List PS→List DV→List Value→Prop
 |[],[],[]=>True
 |p::ps,d::ds,v::vs=>RI p d v∧wm ps ds vs
 |_,_,_=>False
theorem wm.len:∀{ps:List PS}{ds:List DV}{vs:List Value},wm ps ds vs→ds.length=ps.length∧vs.length=ps.length
 |[],[],[],_=>⟨rfl,rfl⟩
 |_::_,_::_,_::_,h=>by obtain⟨g1,g2⟩:=wm.len h.2;exact⟨by simp[g1],by simp[g2]⟩
 |[],[],_::_,h=>h.elim
 |[],_::_,_,h=>h.elim
 |_::_,[],_,h=>h.elim
 |_::_,_::_,[],h=>h.elim
theorem wm.get:∀{ps:List PS}{ds:List DV}{vs:List Value},wm ps ds vs→∀{i:Nat}{p:PS}{d:DV},ps[i]?=some p→ds[i]?=some d→∃v,vs[i]?=some v∧RI p d v
 |[],_,_,_,_,_,_,h,_=>by cases h
 |_::_,_::_,v::_,h,0,_,_,e,e2=>by simp_all [jx.get,wm,RI]
 |_::_,_::_,_::_,h,i+1,_,_,e,e2=>wm.get h.2 (i:=i) e e2
 |_::_,[],_,h,_,_,_,_,_=>h.elim
 |_::_,_::_,[],h,_,_,_,_,_=>h.elim
theorem CB{t:Ty}(h:t.one=true){x:t.den}{u:Value}{I:Nat→Prop}{w:World}:cL I w t x [u]↔u=DV.val ⟨t,x⟩:=by
 cases t with
 |int k=>simp_all [Ty.one,cL,DV.val]
 |bool=>simp_all [Ty.one,cL,DV.val]
 |str=>simp_all [Ty.one,cL,DV.val]
 |sl t=>cases h
 |pr a b=>cases h
theorem qi:∀(ts:List Ty) (k:Nat),bg (aF k (cK ts))=ts
 |[],_=>rfl
 |t::ts,k=>congrArg (t::·) (qi ts (k+1))
theorem ni:∀(ts:List PS) (k:Nat),bg (kg k (dx ts))=ts.map PS.ty
 |[],_=>rfl
 |t::ts,k=>congrArg (t.ty::·) (ni ts (k+1))
theorem tf:∀(ts:List Ty) (k:Nat),fR k (cK ts)=[]
 |[],_=>rfl
 |t::ts,k=>tf ts (k+1)
theorem kb (ps:List Ty) (rs:List PS):dl (cK ps) (dx rs) []=kg ps.length (dx rs):=by
 grind [dl,tf,cK,z8,dx]
def uc:Nat→List DV→List (Nat×AV)
 |_,[]=>[]
 |k,d::r=>(k, .c (.v d.t d.x))::uc (k+1) r
theorem CN:∀(ts:List Ty) (k:Nat) (ds:List DV),ds.length=ts.length→cy (aF k (cK ts)) ds=uc k ds∧eO (aF k (cK ts)) ds=[]
 |[],_,[],_=>⟨rfl,rfl⟩
 |[],_,_::_,h=>by cases h
 |_::_,_,[],h=>by cases h
 |t::ts,k,d::ds,h=>by
  obtain⟨h1,h2⟩:=CN ts (k+1) ds (by simpa using h)
  exact⟨congrArg ((k,AV.c (.v d.t d.x))::·) h1,h2⟩
def FD:PS→DV→CV
 | .e,d=>match d.as .bool with
  |some b => .er b
  |none => .dead
 |_,d => .v d.t d.x
def mf:Nat→List PS→List DV→List (Nat×AV)
 |k,p::ps,d::r=>(k, .c (FD p d))::mf (k+1) ps r
 |_,_,_=>[]
theorem CM:∀(ts:List PS) (k:Nat) (ds:List DV),ts.all PS.outs=true→ds.length=ts.length→cy (kg k (dx ts)) ds=mf k ts ds∧eO (kg k (dx ts)) ds=[]
 |[],_,[],_,_=>⟨rfl,rfl⟩
 |[],_,_::_,_,h=>by cases h
 |_::_,_,[],_,h=>by cases h
 |t::ts,k,d::ds,ho,h=>by
  rw[List.all_cons,Bool.and_eq_true]at ho
  obtain⟨h1,h2⟩:=CM ts (k+1) ds ho.2 (by simpa using h)
  have hc:∀nm,n6 nm t d=FD t d∧vZ nm t d=[]:=fun nm=>by
   cases t with
   |i t=>trivial
   |e=>trivial
   |_=>cases ho.1
  constructor
  ·show(k,J6 (.val k t) (d::ds.take 0))::cy (kg (k+1) (dx ts)) ds=(k, .c (FD t d))::mf (k+1) ts ds
   rw[h1]
   congr 2
   exact congrArg AV.c (hc _).1
  ·show(vZ _ t d++[])++eO (kg (k+1) (dx ts)) ds=[]
   rw[h2,(hc _).2];rfl
theorem sd:∀(ps:List PS) (ds:List DV) (k i:Nat),cY (mf k ps ds) (k+i)=match ps[i]?,ds[i]? with|some p,some d => .c (FD p d)|_,_ => .c .dead
 |[],_,_,_=>rfl
 |p::ps,[],k,i=>by cases(p::ps)[i]?<;>rfl
 |p::ps,d::ds,k,0=>by
  simp_all [cY,mf,FD]
 |p::ps,d::ds,k,i+1=>by
  show(bif Nat.beq k (k+(i+1))then _ else cY (mf (k+1) ps ds) (k+(i+1)))=_
  rw[dz (by omega:k≠k+(i+1)),show k+(i+1)=(k+1)+i by omega]
  exact sd ps ds (k+1) i
theorem Ai:∀(ps:List PS) (ds:List DV) (k i:Nat),i<k→cY (mf k ps ds) i = .c .dead
 |[],_,_,_,_=>rfl
 |_::_,[],_,_,_=>rfl
 |p::ps,d::ds,k,i,h=>by
  show(bif Nat.beq k i then _ else cY (mf (k+1) ps ds) i)=_
  rw[dz (by omega:k≠i)]
  exact Ai ps ds (k+1) i (by omega)
theorem w8:∀(ds:List DV) (k i:Nat),cY (uc k ds) (k+i)=match ds[i]? with|some d => .c (.v d.t d.x)|none => .c .dead
 |[],_,_=>rfl
 |d::ds,k,0=>by
  simp_all [cY,uc]
 |d::ds,k,i+1=>by
  show(bif Nat.beq k (k+(i+1))then _ else cY (uc (k+1) ds) (k+(i+1)))=_
  rw[dz (by omega:k≠k+(i+1)),show k+(i+1)=(k+1)+i by omega]
  exact w8 ds (k+1) i
theorem mD:∀(ts:List Ty) (x:TD ts),(ar ts x).length=ts.length
 |[],_=>rfl
 |[t],_=>rfl
 |t::u::r,x=>congrArg (·+1) (mD (u::r) x.2)
theorem ud:∀(ts:List Ty) (x:TD ts) (i:Nat) (d:DV),(ar ts x)[i]?=some d→ts[i]?=some d.t
 |[],_,_,_,h=>by cases h
 |[t],x,0,d,h=>by grind [ar]
 |[t],x,i+1,d,h=>by cases h
 |t::u::r,x,0,d,h=>by grind [ar]
 |t::u::r,x,i+1,d,h=>ud (u::r) x.2 i d h
theorem uK{P:Program}{K:eN}{f:FuncId}{ps:List Ty}{rs:List PS}(hp:ps.all Ty.one=true) (hr:rs.all PS.outs=true){g:TD (bg (aF 0 (cK ps)))→Option (TD (bg (dl (cK ps) (dx rs) [])))}
  (h:∀w x r,g x=some r→K.ok w→Calls P f ((ar _ x).map DV.val).toArray w fun e w'=>∃vs,e = .returned (Fq vs)∧wm rs (ar _ r) vs∧bT (fun _ _=>False) w w') :
  jo P K f { pars:=cK ps,res:=dx rs,g:=g }:=by
 intro Y L I a w x r hx hR hK hY hw
 have hxl:(ar _ x).length=ps.length:=by rw[mD,qi]
 have hrl:(ar _ r).length=rs.length:=by rw[mD,kb,ni,List.length_map]
 have hN:Y.N=ps.length:=hY.trans (List.length_map ..)
 have hxo:∀(i:Nat) (d:DV),(ar _ x)[i]?=some d→d.t.one=true:=fun i d hd=>by
  have:=ud _ x i d hd
  rw[qi]at this
  exact List.all_eq_true.1 hp _ (List.mem_of_getElem? this)
 have hro:∀(i:Nat) (d:DV),(ar _ r)[i]?=some d→∃p,rs[i]?=some p∧p.ty=d.t∧p.outs=true:=fun i d hd=>by
  have:=ud _ r i d hd
  rw[kb,ni,List.getElem?_map]at this
  cases e:rs[i]? with
  |none=>simp_all
  |some p=>grind
 obtain⟨m1,m2⟩:=CN ps 0 (ar _ x) hxl
 have htm:a.tmps=((ar _ x).map DV.val).toArray:=by
  refine Array.ext (by rw[hR.size,hN];simp[hxl]) fun i hi _=>?_
  have hi':i<ps.length:=by rw[hR.size,hN]at hi;exact hi
  have hs:=hR.slot i
  have hd:(ar _ x)[i]?=some (ar _ x)[i]:=List.getElem?_eq_getElem (by omega)
  have hlk:(dO (aF 0 (cK ps)) x).t i = .c (.v ((ar _ x)[i]).t ((ar _ x)[i]).x):=by
   show cY (cy _ _) i=_
   rw[m1]
   have:=w8 (ar _ x) 0 i
   rw[Nat.zero_add,hd]at this
   exact this
  have hs:RA L I w (AL (dO (aF 0 (cK ps)) x).o) ((dO (aF 0 (cK ps)) x).t i) (a.tmps.getD i undef):=hs
  rw[hlk]at hs
  have:=(CB (hxo i _ hd)).1 hs
  rw[Array.getD_eq_getD_getElem?,Array.getElem?_eq_getElem hi]at this
  simp only[Option.getD_some]at this
  rw[this]
  simp
 rw[show first (ag.real { pars:=cK ps,res:=dx rs,g:=g }) a.tmps=a.tmps from kZ (by unfold ag.real;rw[hR.size,hY];exact Nat.le_refl _),htm]
 subst hK
 refine(h w x r hx hR.glob.1).mono fun e w' hp'=>?_
 obtain⟨vs,rfl,hov,hst⟩:=hp'
 have h1:=hR.grows hst
 have hvl:=hov.len.2
 refine⟨_,L,I,⟨((ar _ x).map DV.val++vs).toArray,[]⟩,rfl,?_,fun _ _=>rfl,?_⟩
 ·obtain⟨k1,k2⟩:=CM rs ps.length (ar _ r) hr hrl
  have hst2:dO (ag.ens { pars:=cK ps,res:=dx rs,g:=g }) r=⟨cY (mf ps.length rs (ar _ r)),fun _=>none⟩:=by
   show D8 (dl (cK ps) (dx rs) []) (ar _ r)=_
   unfold D8
   rw[show cy (dl (cK ps) (dx rs) []) (ar (bg (dl (cK ps) (dx rs) [])) r)=mf ps.length rs (ar _ r)by rw[←k1];congr 1;exact kb ps rs]
   rw[show eO (dl (cK ps) (dx rs) []) (ar (bg (dl (cK ps) (dx rs) [])) r)=[]by rw[←k2];congr 1;exact kb ps rs]
   rfl
  have hlen:(cK ps).length+((dx rs).length+0)=ps.length+rs.length:=by simp_all [cK,dx]
  rw[hst2]
  refine⟨rfl,by simp[hxl,hvl];exact hlen.symm,fun i hi=>?_,fun i hi=>?_,fun _ _ q=>(by cases q),fun _ _ _ _ q=>(by cases q),fun _ _ q=>(by cases q),h1.imm,h1.sub,h1.step,h1.glob⟩
  ·have hi:i<ps.length+rs.length:=by rw[←hlen];exact hi
   rcases Nat.lt_or_ge i ps.length with q|q
   ·have hd:=Ai rs (ar (bg (dl (cK ps) (dx rs) [])) r) ps.length i q
    show RA L I w' _ (cY (mf ps.length rs (ar (bg (dl (cK ps) (dx rs) [])) r)) i) _
    rw[hd];trivial
   ·have hd:(ar _ r)[i-ps.length]?=some (ar _ r)[i-ps.length]:=List.getElem?_eq_getElem (by omega)
    have:=sd rs (ar _ r) ps.length (i-ps.length)
    obtain⟨p,hp1,hp2,hp3⟩:=hro _ _ hd
    rw[hd,hp1,show ps.length+(i-ps.length)=i by omega]at this
    show RA L I w' _ (cY (mf ps.length rs (ar (bg (dl (cK ps) (dx rs) [])) r)) i) _
    rw[this]
    obtain⟨v,hv1,hv2⟩:=hov.get hp1 hd
    have hval:(((ar _ x).map DV.val++vs).toArray).getD i undef=v:=by
     have hxl':((ar (bg (aF 0 (cK ps))) x).map DV.val).length=ps.length:=(List.length_map ..).trans hxl
     rw[Array.getD_eq_getD_getElem?,List.getElem?_toArray,List.getElem?_append_right (by rw[hxl'];exact q),hxl',hv1];rfl
    rw[hval]
    cases p with
    |i t =>
     have ht:(ar _ r)[i-ps.length].t.one=true:=by rw[←hp2];exact hp3
     exact(CB ht).2 hv2
    |e =>
     obtain⟨b,hb1,hb2⟩:=hv2
     show RC L I w' _ (match DV.as .bool _ with|some b => .er b|none => .dead) v
     rw[hb1];exact hb2
    |_=>cases hp3
  ·have hi:ps.length+rs.length≤i:=by rw[←hlen];exact hi
   show cY (mf ps.length rs (ar _ r)) i=_
   have:=sd rs (ar _ r) ps.length (i-ps.length)
   rw[show ps.length+(i-ps.length)=i by omega,List.getElem?_eq_none (by omega:rs.length≤i-ps.length)]at this
   exact this
 ·have hl:(cK ps).length=ps.length:=List.length_map ..
  have hl2:(dx rs).length=rs.length:=List.length_map ..
  have at_:∀j,j<rs.length→(((ar _ x).map DV.val++vs).toArray).getD (ps.length+j) undef=vs.getD j undef:=by
   simp_all
  show _=zq ⟨_,[]⟩ (cK ps).length (dx rs).length
  rw[hl,hl2]
  clear hov
  match vs,hvl with
  |[],hml =>
   have:rs.length=0:=hml.symm
   rw[this];rfl
  |[v],hml =>
   have:rs.length=1:=hml.symm
   rw[this]
   exact(at_ 0 (by omega)).symm
  |v::u::t,hml =>
   have hz:rs.length=t.length+1+1:=hml.symm
   rw[hz]
   show Value.tuple (v::u::t).toArray=Value.tuple ((List.range (t.length+1+1)).map fun j=>Array.getD _ (ps.length+j) undef).toArray
   congr 2
   refine List.ext_getElem (by simp) fun i h1 h2=>?_
   rw[List.getElem_map,List.getElem_range]
   have h1':i<rs.length:=by omega
   rw[at_ i h1',List.getD_eq_getElem?_getD,List.getElem?_eq_getElem h1];rfl
theorem FC:∀{rs:List Ty}{ds:List DV},ds.length=rs.length→wm (rs.map .i) ds (ds.map DV.val)
 |[],[],_=>trivial
 |[],_::_,h=>by cases h
 |_::_,[],h=>by cases h
 |_::rs,_::ds,h=>⟨rfl,FC (rs:=rs) (ds:=ds) (by simpa using h)⟩
theorem zR{P:Program}{K:eN}{f:FuncId}{ps rs:List Ty}(hp:ps.all Ty.one=true) (hr:rs.all Ty.one=true){g:TD (bg (aF 0 (cK ps)))→Option (TD (bg (dl (cK ps) (dx (rs.map .i)) [])))}
  (h:∀w x r,g x=some r→K.ok w→Calls P f ((ar _ x).map DV.val).toArray w fun e w'=>e = .returned (Fq ((ar _ r).map DV.val))∧bT (fun _ _=>False) w w') :
  jo P K f { pars:=cK ps,res:=dx (rs.map .i),g:=g }:=by
 refine uK hp (by rw[List.all_map];exact hr) fun w x r hx hw=>(h w x r hx hw).mono fun e w' hq=>⟨_,hq.1,?_,hq.2⟩
 exact FC (by rw[mD,kb,ni,List.length_map,List.length_map])
end AM
end Go.Proofs.YtcflmfpnmjlhdaaGreatDoor
