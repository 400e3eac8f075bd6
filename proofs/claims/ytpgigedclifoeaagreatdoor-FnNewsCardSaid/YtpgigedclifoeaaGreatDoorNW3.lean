/- Regions of which the orders are too many to list: what only makes (a value, a box, what a call hands back) may stand on either side of its like, a store into a box that one slot alone leads to may be overtaken. No condition. And what follows it: see the remarks. -/
import Derived.Test.YtpgigedclifoeaaGreatDoorNW2
import Derived.ChangeArms
import Derived.Carry
import Derived.ChangeShapes
namespace Go.Proofs.YtpgigedclifoeaaGreatDoor
namespace AM
open Go
set_option linter.unusedVariables false
set_option linter.unusedSimpArgs false
def stg (E:aE) (l:List Oper) (o:Oper) (s:St):Option St:=cF E l [o] s some
def xF (E:aE) (l:List Oper):List Oper→St→Option St
 |[],s=>some s
 |o::r,s=>(stg E l o s).bind (xF E l r)
theorem rr{R:Type}{E:aE}{all:List Oper}:∀{l:List Oper}{s:St}(k:St→Option R),cF E all l s k=(xF E all l s).bind k
 |[],s,k=>rfl
 |o::r,s,k=>by
  show _=((stg E all o s).bind (xF E all r)).bind k
  rw[qq]
  unfold stg
  cases cF E all [o] s some with
  |none=>rfl
  |some s1=>exact rr k
def Dj (l:List Oper) (o:Oper):Option (Option Nat×Bool):=match o.guard with
 |none=>none
 |some (j,w)=>some ((l[j]?).bind (·.dst),w)
def gd (l:List Oper) (o:Oper) (s:St):Option Bool:=match Dj l o with
 |none=>some true
 |some (none,_)=>none
 |some (some t,w)=>match mO (s.t t)with
  |some b=>some (b==w)
  |none=>bif kH (s.t t)then some false else none
theorem Ih{s:St}{t:Nat}{b:Bool}(h:mO (s.t t)=some b):s.know (.tmp t) b=s:=by
 have e:s.t t = .c (.v .bool b):=by
  cases q:s.t t with
  |c x =>
   rw[q]at h
   cases x with
   |v ty y =>
    cases ty with
    |bool=>simp_all [mO,St.know]
    |_=>cases h
   |_=>cases h
  |_=>rw[q]at h;cases h
 show St.mk _ _=s
 cases s with
 |mk ts os =>
  congr 1
  funext i
  show(bif Nat.beq i t then _ else ts i)=ts i
  cases q:Nat.beq i t with
  |false=>rfl
  |true=>simp_all
theorem A0{E:aE}{l:List Oper}{o:Oper}{s:St}:stg E l o s=match gd l o s with
  |some true=>o7 E o s some
  |some false=>bif dJ E.N o.dst then some (s.put o.dst nR)else none
  |none=>none:=by
 unfold stg gd Dj
 simp only[cF]
 cases hg:o.guard with
 |none=>rfl
 |some gw =>
  obtain⟨j,w⟩:=gw
  dsimp only
  cases ht:(l[j]?).bind (·.dst)with
  |none=>rfl
  |some t =>
   dsimp only
   cases hb:mO (s.t t)with
   |none=>cases q:kH (s.t t)<;>cases q2:dJ E.N o.dst<;>rfl
   |some b =>
    have hk:=Ih hb
    dsimp only
    cases b<;>cases w<;>(dsimp only;rw[hk];rfl)
def MF:Operand→List Nat
 | .tmp t=>[t]
 |_=>[]
def WQ (l:List Oper) (o:Oper):List Nat:=match Dj l o with
 |some (some t,_)=>[t]
 |_=>[]
def it (l:List Oper) (o:Oper):List Nat:=o.op.operands.toList.flatMap MF++WQ l o
theorem FM{l:List Oper}{o:Oper}{s s':St}(h:∀t∈it l o,s'.t t=s.t t):gd l o s'=gd l o s:=by
 have h:∀t∈WQ l o,s'.t t=s.t t:=fun t ht=>h t (List.mem_append_right _ ht)
 unfold gd
 unfold WQ at h
 cases hg:Dj l o with
 |none=>rfl
 |some p =>
  obtain⟨a,w⟩:=p
  cases a with
  |none=>rfl
  |some t =>
   simp_all
theorem px{l:List Oper}{o:Oper}{s s':St}(h:∀t∈it l o,s'.t t=s.t t):∀x∈o.op.operands,s.ev x=s'.ev x:=fun x hx=>by
 cases x with
 |tmp t=>exact(h t (List.mem_append_left _ (List.mem_flatMap.2 ⟨_,Array.mem_toList_iff.2 hx,List.mem_singleton.2 rfl⟩))).symm
 |_=>rfl
theorem uX{l:List Oper}{o:Oper}{s:St}{x:Operand}{n:Nm}(hx:x∈o.op.operands) (hm:aA (s.ev x) n):∃t∈it l o,aA (s.t t) n:=by
 cases x with
 |tmp t=>exact⟨t,List.mem_append_left _ (List.mem_flatMap.2 ⟨_,Array.mem_toList_iff.2 hx,List.mem_singleton.2 rfl⟩),hm⟩
 |const v=>exact absurd hm (pc v n)
 |global g=>trivial
 |func f=>trivial
def cY:Ob→Nm→Prop
 | .box cs,n=>bY cs n
 |_,_=>False
def cq (d:Nat):Nm→Bool
 |[]=>false
 |x::_=>Nat.beq x d
theorem vr{d e:Nat}(h:d≠e){n:Nm}(hd:cq d n=true):cq e n=false:=by
 cases n with
 |nil=>cases hd
 |cons x r =>
  simp_all [dR,cq]
def iK (τ:kL) (o:Oper):Bool:=match o.op with
 | .move _=>true
 | .assign _=>true
 | .load _ _=>true
 | .fieldAddr _ _ _=>true
 | .field _ _ _=>true
 | .nilCheck _=>true
 | .extract _ _=>true
 | .binOp _ _ _ _ _=>true
 | .unOp _ _ _=>true
 | .pick _ _ _=>true
 | .convert q d _ => !Nat.beq q d
 | .call { callee := .builtin .len, .. }=>true
 | .indexAddr _ _ _=>true
 | .build _ _=>true
 | .slice t _ _ _ none=>(match τ.get t with
  |some ti=>Nat.beq ti.kind 5
  |none=>false)
 |_=>false
def Dh (n:Nm) (off sz:Nat) (j:Int):Nat→Nat→Option AV
 |_,0=>none
 |c,m+1=>bif decide (j=(c:Int))then some (.c (.pb n (off+c*sz)))else Dh n off sz j (c+1) m
def zg (τ:kL) (op:Op) (e:Operand→AV):Option AV:=match op with
 | .indexAddr t x i=>match τ.get t,e x,e i with
  |some ti, .c (.pb n off), .c (.v (.int _) j)=>bif Nat.beq ti.kind 4 then(match τ.get ti.el with
   |some te=>bif Nat.blt 0 te.size then Dh n off te.size j 0 (ti.size / te.size)else none
   |none=>none)else none
  |_,_,_=>none
 |_=>none
def tH (τ:kL) (op:Op) (e:Operand→AV) (o:Nm→Option Ob):Option (Bool×AV):=match fM τ op e o with
 |some r=>some r
 |none=>match zg τ op e with
  |some v=>some (true,v)
  |none=>none
theorem Kk{R:Type}{s:St}{d:Nat}{n:Nm}{off sz:Nat}{j:Int}{k:St→Option R}:∀(m c:Nat),sS s d n off sz j k c m=(Dh n off sz j c m).bind fun v=>k (s.put (some d) v)
 |0,c=>rfl
 |m+1,c=>by
  show(bif decide (j=(c:Int))then _ else sS s d n off sz j k (c+1) m)=(bif decide (j=(c:Int))then _ else Dh n off sz j (c+1) m).bind _
  rw[Kk m (c+1)]
  cases decide (j=(c:Int))<;>rfl
theorem OG{R:Type} {τ:kL}{op:Op}{d:Nat}{s:St}{k:St→Option R}:uQ τ op d s k=(zg τ op s.ev).bind fun v=>k (s.put (some d) v):=by
 cases op with
 |indexAddr t x i =>
  grind [sS,Dh,split,Kk,uQ,zg,St.ev,St.put]
 |_=>rfl
theorem An{n:Nm}{off sz:Nat}{j:Int}{v:AV}:∀{m c:Nat},Dh n off sz j c m=some v→∃k,v = .c (.pb n k)
 |0,c,h=>by cases h
 |m+1,c,h=>by
  have h:(bif decide (j=(c:Int))then some (AV.c (.pb n (off+c*sz)))else Dh n off sz j (c+1) m)=some v:=h
  cases q:decide (j=(c:Int))with
  |true=>grind
  |false=>rw[q]at h;exact An h
theorem IH {τ:kL}{op:Op}{e:Operand→AV}{v:AV}(h:zg τ op e=some v){n:Nm}(hm:aA v n):∃x∈op.operands,aA (e x) n:=by
 cases op with
 |indexAddr t x i =>
  unfold zg at h
  dsimp only at h
  split at h
  ·rename_i ti m off ik j e1 e2 e3
   refine⟨x,by simp[Op.operands],?_⟩
   rw[e2]
   generalize Nat.beq ti.kind 4=q at h
   cases q with
   |false=>cases h
   |true =>
    dsimp only[cond_true]at h
    split at h
    ·rename_i te e4
     generalize Nat.blt 0 te.size=q2 at h
     cases q2 with
     |false=>cases h
     |true =>
      obtain⟨k,rfl⟩:=An (show Dh m off te.size j 0 (ti.size / te.size)=some v from h)
      exact hm
    ·cases h
  ·cases h
 |_=>cases h
theorem ER {τ:kL}{op:Op}{e e':Operand→AV}(h:∀x∈op.operands,e x=e' x):zg τ op e=zg τ op e':=by
 cases op with
 |indexAddr t x i =>
  simp_all [zg,Op.operands]
 |_=>rfl
theorem DR {τ:kL}{op:Op}{e e':Operand→AV}{o:Nm→Option Ob}(h:∀x∈op.operands,e x=e' x):tH τ op e o=tH τ op e' o:=by
 unfold tH
 rw[uV h,ER h]
section
variable{E:aE}{l:List Oper}{o:Oper}{s s1:St}
theorem I8 (h:iK E.τ o=true){d:Nat}(hd:o.dst=some d):o7 (R:=St) E o s some=match tH E.τ o.op s.ev s.o with
  |some (c,v)=>bif Nat.blt d E.N then(match c with|true=>some (s.put (some d) v)|false=>none)else none
  |none=>none:=by
 have hc:∀(op:Op),o.op=op→(∀e nm,sf E.τ op e nm=none)→(∀d s,ng E.τ op d s=none) →
   (match fM E.τ op s.ev s.o with
    |some (c,v)=>bif dJ E.N o.dst then(match c with|true=>some (s.put o.dst v)|false=>none)else none
    |none=>match o.dst with
     |some d=>bif Nat.blt d E.N then(match sf E.τ op (s.drop [d,0]).ev [d,0]with
      |some (c,ob,v)=>(match c with|true=>some (((s.drop [d,0]).setO [d,0] ob).put (some d) v)|false=>none)
      |none=>match ng E.τ op (some d) s with
       |some (c,s')=>(match c with|true=>some s'|false=>none)
       |none=>uQ (R:=St) E.τ op d s some)else none
     |none=>match ng E.τ op none s with
      |some (c,s')=>(match c with|true=>some s'|false=>none)
      |none=>none)=(match tH E.τ op s.ev s.o with
    |some (c,v)=>bif Nat.blt d E.N then(match c with|true=>some (s.put (some d) v)|false=>none)else none
    |none=>none):=by
  intro op _ hm hw
  rw[hd]
  unfold tH
  cases fM E.τ op s.ev s.o with
  |some p=>rfl
  |none =>
   dsimp only
   rw[hm,hw]
   dsimp only
   rw[OG]
   cases zg E.τ op s.ev<;>cases Nat.blt d E.N<;>rfl
 unfold iK at h
 unfold o7
 cases hop:o.op with
 |indexAddr t x i=>exact hc _ hop (fun _ _=>rfl) fun _ _=>rfl
 |slice t x lo hi mx =>
  rw[hop]at h
  cases mx with
  |some y=>cases h
  |none =>
   refine hc _ hop (fun _ _=>rfl) fun d' s'=>?_
   dsimp only at h
   unfold ng
   dsimp only
   cases hti:E.τ.get t with
   |none=>rfl
   |some ti =>
    rw[hti]at h
    have h5:ti.kind=5:=Nat.eq_of_beq_eq_true h
    have h3:Nat.beq ti.kind 3=false:=by rw[h5];rfl
    split
    ·rename_i ti' n e1 e2
     obtain rfl:=Option.some.inj e1
     rw[h3];rfl
    ·rfl
 |move x=>exact hc _ hop (fun _ _=>rfl) fun _ _=>rfl
 |assign x=>exact hc _ hop (fun _ _=>rfl) fun _ _=>rfl
 |load t x=>exact hc _ hop (fun _ _=>rfl) fun _ _=>rfl
 |build t ps=>exact hc _ hop (fun _ _=>rfl) fun _ _=>rfl
 |fieldAddr t x f=>exact hc _ hop (fun _ _=>rfl) fun _ _=>rfl
 |field t x f=>exact hc _ hop (fun _ _=>rfl) fun _ _=>rfl
 |nilCheck x=>exact hc _ hop (fun _ _=>rfl) fun _ _=>rfl
 |extract x i=>exact hc _ hop (fun _ _=>rfl) fun _ _=>rfl
 |binOp a b c d e=>exact hc _ hop (fun _ _=>rfl) fun _ _=>rfl
 |unOp a b c=>exact hc _ hop (fun _ _=>rfl) fun _ _=>rfl
 |pick a b c=>exact hc _ hop (fun _ _=>rfl) fun _ _=>rfl
 |convert a b c =>
  rw[hop]at h
  have h3:Nat.beq a b=false:=by simp_all
  refine hc _ hop (fun _ _=>rfl) fun d' s'=>?_
  unfold ng
  dsimp only
  split
  ·rw[h3];rfl
  ·rfl
 |call c =>
  obtain⟨cl,xs,ts⟩:=c
  rw[hop]at h
  cases cl with
  |builtin b=>cases b<;>first|exact hc _ hop (fun _ _=>rfl) (fun _ _=>rfl)|cases h
  |_=>cases h
 |_=>rw[hop]at h;cases h
theorem Ky {τ:kL}{op:BinOp}{xt:Nat}{x y:AV}{c:Bool}{v:AV}(h:bin τ op xt x y=some (c,v)) (n:Nm):¬aA v n:=by
 have one:∀{k:IntKind}{a b:Int}{op:BinOp}{r:Bool×CV},Kl op k a b=some r→¬dB r.2 n:=by
  intro k a b op r hr
  unfold Kl at hr
  cases op<;>first|(cases hr;done)|(obtain rfl:=Option.some.inj hr;exact fun q=>q)
 have two:∀{a b:ByteArray}{op:BinOp}{r:Bool×CV},Jm op a b=some r→¬dB r.2 n:=by
  intro a b op r hr
  unfold Jm at hr
  cases op<;>first|(cases hr;done)|(obtain rfl:=Option.some.inj hr;exact fun q=>q)
 have three:∀{a b:Bool}{op:BinOp}{r:Bool×CV},Kz op a b=some r→¬dB r.2 n:=by
  intro a b op r hr
  unfold Kz at hr
  cases op<;>first|(cases hr;done)|(obtain rfl:=Option.some.inj hr;exact fun q=>q)
 unfold bin at h
 split at h
 ·split at h
  ·obtain⟨rfl,rfl⟩:=Prod.mk.inj (Option.some.inj h);exact fun q=>q
  ·obtain⟨rfl,rfl⟩:=Prod.mk.inj (Option.some.inj h);exact fun q=>q
  ·grind [bin,aA]
 ·grind [bin,aA]
 ·grind [bin,aA]
 ·split at h
  ·split at h
   ·split at h
    ·obtain⟨rfl,rfl⟩:=Prod.mk.inj (Option.some.inj h);exact fun q=>q
    ·obtain⟨rfl,rfl⟩:=Prod.mk.inj (Option.some.inj h);exact fun q=>q
    ·cases h
   ·cases h
  ·cases h
 ·cases h
theorem rk{cs:List CV}{off k:Nat}{agg:Bool}{v:AV}(h:part cs off k agg=some v){n:Nm}(hm:aA v n):bY cs n:=by
 unfold part at h
 cases q:Nat.ble (off+k) cs.length with
 |false=>simp_all
 |true =>
  rw[q]at h
  have h:rt agg ((cs.drop off).take k)=some v:=h
  have sub:∀{c:CV},c∈(cs.drop off).take k→c∈cs:=fun hc=>List.mem_of_mem_drop (List.mem_of_mem_take hc)
  unfold rt at h
  split at h
  ·grind [part,aA,bY]
  ·grind [part,aA,bY]
  ·cases h
theorem qA{ob:Nm→Option Ob}{k:Nat}{agg:Bool}{p:CV}{v:AV}(h:loadCells ob k agg p=some v){n:Nm}(hm:aA v n):∃m x,dB p m∧ob m=some x∧cY x n:=by
 cases p with
 |pb m off =>
  unfold loadCells at h
  dsimp only at h
  split at h
  ·rename_i cs e
   exact⟨m,_,rfl,e,rk h hm⟩
  ·cases h
 |pa m z i j =>
  unfold loadCells at h
  dsimp only at h
  split at h
  ·exact absurd (rk h hm) (oP _ _ _)
  ·cases h
 |pe t x j=>exact absurd (rk (show part (split t x) j k agg=some v from h) hm) (oP _ _ _)
 |_=>cases h
theorem yr{pl:Nat→Option (Nat×Nat)}:∀{ps:List (Nat×AV)}{cs out:List CV},um pl cs ps=some out→∀{n:Nm},bY out n→bY cs n∨∃p∈ps,aA p.2 n
 |[],cs,out,h,n,hm=>by
  simp_all [um,bY,aA]
 |p::ps,cs,out,h,n,hm=>by
  simp only[um]at h
  split at h
  ·rename_i off k new _ hn
   cases q:(Nat.beq new.length k&&Nat.ble (off+k) cs.length)with
   |false=>simp_all
   |true =>
    rw[q,cond_true]at h
    rcases yr h hm with g|⟨p',hp,g⟩
    ·grind [bY,yR,mD]
    ·grind
  ·cases h
theorem K8 {τ:kL}(hv:iK τ o=true){e:Operand→AV}{ob ob':Nm→Option Ob}(ho:∀x∈o.op.operands, ∀n,aA (e x) n→ob' n=ob n):fM τ o.op e ob'=fM τ o.op e ob:=by
 unfold iK at hv
 cases hop:o.op with
 |build t ps=>rfl
 |load t a =>
  rw[hop]at ho
  unfold fM
  dsimp only
  cases τ.get t with
  |none=>rfl
  |some ti =>
   cases he:e a with
   |c p =>
    have h1:∀n,dB p n→ob' n=ob n:=fun n hn=>ho a (by simp[Op.operands]) n (by rw[he];exact hn)
    dsimp only
    have:loadCells ob' ti.size ti.agg p=loadCells ob ti.size ti.agg p:=by
     cases p with
     |pb m off=>unfold loadCells;dsimp only;rw[h1 m rfl]
     |pa m z i j=>unfold loadCells;dsimp only;rw[h1 m rfl]
     |_=>rfl
    rw[this]
   |_=>rfl
 |indexAddr t a i =>
  rw[hop]at ho
  unfold fM
  dsimp only
  cases τ.get t with
  |none=>rfl
  |some ti =>
   cases he:e a with
   |c p =>
    have h1:∀n,dB p n→ob' n=ob n:=fun n hn=>ho a (by simp[Op.operands]) n (by rw[he];exact hn)
    have:∀k j,kZ ob' k j p=kZ ob k j p:=by
     intro k j
     cases p with
     |own m=>unfold kZ;dsimp only;rw[h1 m rfl]
     |v t x=>cases t<;>rfl
     |_=>rfl
    cases hi:e i with
    |c q =>
     grind
    |_=>rfl
   |_=>rfl
 |convert q d a =>
  rw[hop]at ho
  unfold fM
  dsimp only
  cases τ.get q with
  |none=>rfl
  |some tq =>
   dsimp only
   cases τ.get d with
   |none=>rfl
   |some ti =>
    cases he:e a with
    |c p =>
     cases p with
     |own m=>dsimp only;rw[ho a (by simp[Op.operands]) m (by rw[he];exact rfl)]
     |v t x =>
      cases t with
      |sl u=>cases u<;>first|rfl|(rename_i ik;cases ik<;>rfl)
      |_=>rfl
     |_=>rfl
    |_=>rfl
 |slice t x lo hi mx=>cases mx<;>rfl
 |move x=>rfl
 |assign x=>rfl
 |fieldAddr t x f=>rfl
 |field t x f=>rfl
 |nilCheck x=>rfl
 |extract x i=>rfl
 |binOp a b c d e=>rfl
 |unOp a b c=>rfl
 |pick a b c=>rfl
 |call c =>
  obtain⟨cl,xs,ts⟩:=c
  rw[hop]at hv ho
  cases cl with
  |builtin b =>
   cases b<;>try (cases hv;done)
   have one:∀x∈xs.toList, ∀p,e x = .c p→lenOf ob' p=lenOf ob p:=by
    intro x hx p he
    have h1:∀n,dB p n→ob' n=ob n:=fun n hn=>ho x (by simp[Op.operands,Call.operands];simpa using hx) n (by rw[he];exact hn)
    cases p with
    |own m=>unfold lenOf;dsimp only;rw[h1 m rfl]
    |v t x=>cases t<;>rfl
    |_=>rfl
   unfold fM
   dsimp only
   cases hl:xs.toList with
   |nil=>rfl
   |cons x r =>
    grind
  |_=>cases hv
 |_=>rw[hop]at hv;cases hv
theorem Ja {τ:kL}(hv:iK τ o=true){e:Operand→AV}{ob:Nm→Option Ob}{c:Bool}{v:AV}(h:fM τ o.op e ob=some (c,v)){n:Nm}(hm:aA v n) :
  (∃x∈o.op.operands,aA (e x) n)∨∃x∈o.op.operands, ∃m y,aA (e x) m∧ob m=some y∧cY y n:=by
 unfold iK at hv
 cases hop:o.op with
 |build t ps =>
  rw[hop]at h
  left
  unfold fM at h
  dsimp only at h
  have key:∀{pl:Nat→Option (Nat×Nat)}{zc cs:List CV},(∀n,¬bY zc n)→um pl zc (ps.toList.map fun p=>(p.1,e p.2))=some cs→bY cs n→∃x∈(Op.build t ps).operands,aA (e x) n:=fun hz hf hc=>by
   rcases yr hf hc with q|⟨p,hp,q⟩
   ·simp_all
   ·obtain⟨p',hp',rfl⟩:=List.mem_map.1 hp
    exact⟨p'.2,Array.mem_def.2 (List.mem_map.2 ⟨p',hp',rfl⟩),q⟩
  split at h
  ·rename_i ti _
   split at h
   ·rename_i zc hz
    have zm:=fun n=>AR hz n
    cases q1:Nat.beq ti.kind 2 with
    |true =>
     rw[q1,cond_true]at h
     split at h
     ·rename_i cs hf
      obtain⟨_,rfl⟩:=Prod.mk.inj (Option.some.inj h)
      exact key zm hf hm
     ·cases h
    |false =>
     rw[q1,cond_false]at h
     cases q2:Nat.beq ti.kind 4 with
     |false=>rw[q2]at h;cases h
     |true =>
      rw[q2,cond_true]at h
      split at h
      ·split at h
       ·rename_i cs hf
        obtain⟨_,rfl⟩:=Prod.mk.inj (Option.some.inj h)
        exact key zm hf hm
       ·cases h
      ·cases h
   ·cases h
  ·cases h
 |move x=>rw[hop]at h;obtain⟨_,rfl⟩:=Prod.mk.inj (Option.some.inj h);exact .inl ⟨x,by simp[Op.operands],hm⟩
 |assign x=>rw[hop]at h;obtain⟨_,rfl⟩:=Prod.mk.inj (Option.some.inj h);exact .inl ⟨x,by simp[Op.operands],hm⟩
 |slice t x lo hi mx =>
  rw[hop]at h hv
  cases mx with
  |some y=>cases hv
  |none =>
   dsimp only at hv
   unfold fM at h
   dsimp only at h
   split at h
   ·generalize Nat.beq _ 5=q at h
    cases q with
    |false=>cases h
    |true =>
     dsimp only[cond_true]at h
     split at h<;>first|(cases h;done)|(obtain⟨_,rfl⟩:=Prod.mk.inj (Option.some.inj h);exact hm.elim)
   ·rename_i ti t' xs e1 e2
    rw[e1]at hv
    have h5:ti.kind=5:=Nat.eq_of_beq_eq_true hv
    have h3:Nat.beq ti.kind 3=false:=by rw[h5];rfl
    rw[h3]at h
    cases h
   ·cases h
 |load t a =>
  rw[hop]at h
  unfold fM at h
  dsimp only at h
  split at h
  ·rename_i ti p e1 e2
   split at h
   ·rename_i v' e3
    obtain⟨_,rfl⟩:=Prod.mk.inj (Option.some.inj h)
    obtain⟨m,y,h1,h2,h3⟩:=qA e3 hm
    exact .inr ⟨a,by simp[Op.operands],m,y,by rw[e2];exact h1,h2,h3⟩
   ·cases h
  ·cases h
 |indexAddr t a i =>
  rw[hop]at h
  unfold fM at h
  dsimp only at h
  split at h
  ·rename_i ti p ik j e1 e2 e3
   cases q:Nat.beq ti.kind 3 with
   |false=>rw[q]at h;cases h
   |true =>
    rw[q]at h
    dsimp only[cond_true]at h
    split at h
    ·refine .inl ⟨a,by simp[Op.operands],?_⟩
     rw[e2]
     cases p with
     |own m =>
      unfold kZ at h
      dsimp only at h
      split at h
      ·rename_i u xs _
       cases q:Nat.beq _ u.sz with
       |false=>rw[q]at h;cases h
       |true=>rw[q]at h;obtain⟨_,rfl⟩:=Prod.mk.inj (Option.some.inj h);exact hm
      ·cases h
     |v t x =>
      cases t with
      |sl u =>
       unfold kZ at h
       dsimp only at h
       cases q:Nat.beq _ u.sz with
       |false=>rw[q]at h;cases h
       |true=>rw[q]at h;obtain⟨_,rfl⟩:=Prod.mk.inj (Option.some.inj h);exact hm.elim
      |_=>cases h
     |_=>cases h
    ·cases h
  ·cases h
 |convert q d a =>
  rw[hop]at h
  exfalso
  unfold fM at h
  dsimp only at h
  have fin:∀{b:Bool}{w:CV},(¬dB w n)→(bif b then some (true,AV.c w)else none)=some (c,v)→False:=fun{b w} hw q=>by
   cases b with
   |false=>cases q
   |true=>obtain⟨_,rfl⟩:=Prod.mk.inj (Option.some.inj q);exact hw hm
  split at h
  ·cases h
  ·split at h
   ·exact fin (w := .v _ _) (fun q=>q) h
   ·exact fin (w := .v _ _) (fun q=>q) h
   ·exact fin (w := .v _ _) (fun q=>q) h
   ·exact fin (w := .v _ _) (fun q=>q) h
   ·split at h
    ·exact fin (w := .v _ _) (fun q=>q) h
    ·cases h
   ·cases h
 |fieldAddr t x f =>
  rw[hop]at h
  unfold fM at h
  dsimp only at h
  split at h
  ·rename_i ti p e1 e2
   cases q:Nat.beq ti.kind 2 with
   |false=>rw[q]at h;cases h
   |true =>
    rw[q]at h
    dsimp only[cond_true]at h
    split at h
    ·split at h
     ·rename_i fd _ _ q' e4
      obtain⟨_,rfl⟩:=Prod.mk.inj (Option.some.inj h)
      refine .inl ⟨x,by simp[Op.operands],?_⟩
      rw[e2]
      cases p with
      |pb m k=>obtain rfl:=Option.some.inj (show some (CV.pb m (k+fd.1))=some q' from e4);exact hm
      |pa m z k j=>obtain rfl:=Option.some.inj (show some (CV.pa m z k (j+fd.1))=some q' from e4);exact hm
      |pe u y j=>obtain rfl:=Option.some.inj (show some (CV.pe u y (j+fd.1))=some q' from e4);exact hm
      |_=>cases e4
     ·cases h
    ·cases h
  ·cases h
 |field t x f =>
  rw[hop]at h
  unfold fM at h
  dsimp only at h
  split at h
  ·rename_i ti cs e1 e2
   cases q:Nat.beq ti.kind 2 with
   |false=>rw[q]at h;cases h
   |true =>
    rw[q]at h
    dsimp only[cond_true]at h
    split at h
    ·split at h
     ·rename_i fd _ v' e4
      obtain⟨_,rfl⟩:=Prod.mk.inj (Option.some.inj h)
      refine .inl ⟨x,by simp[Op.operands],?_⟩
      rw[e2]
      exact rk e4 hm
     ·cases h
    ·cases h
  ·cases h
 |nilCheck x =>
  rw[hop]at h
  unfold fM at h
  dsimp only at h
  refine .inl ⟨x,by simp[Op.operands],?_⟩
  split at h
  ·rename_i e2;rw[e2];obtain⟨_,rfl⟩:=Prod.mk.inj (Option.some.inj h);exact hm
  ·rename_i e2;rw[e2];obtain⟨_,rfl⟩:=Prod.mk.inj (Option.some.inj h);exact hm
  ·rename_i e2;rw[e2];obtain⟨_,rfl⟩:=Prod.mk.inj (Option.some.inj h);exact hm
  ·cases h
 |extract x i =>
  rw[hop]at h
  unfold fM at h
  dsimp only at h
  split at h
  ·rename_i cs e2
   split at h
   ·rename_i p e3
    split at h
    ·rename_i v' e4
     obtain⟨_,rfl⟩:=Prod.mk.inj (Option.some.inj h)
     refine .inl ⟨x,by simp[Op.operands],?_⟩
     rw[e2]
     refine⟨p,List.mem_of_getElem? e3,?_⟩
     unfold rt at e4
     split at e4
     ·rename_i e5 _;obtain rfl:=Option.some.inj e4;exact hm
     ·rename_i cc e5 e6;obtain rfl:=Option.some.inj e4;rw[e6];exact⟨cc,List.mem_singleton.2 rfl,hm⟩
     ·cases e4
    ·cases h
   ·cases h
  ·cases h
 |binOp a b x y z =>
  rw[hop]at h
  unfold fM at h
  dsimp only at h
  split at h
  ·exfalso
   unfold Bl at h
   split at h
   ·cases h
   ·split at h
    ·rename_i ti _ k b' _
     generalize Nat.beq _ (xl _)=q at h
     cases q with
     |false=>cases h
     |true =>
      dsimp only[cond_true]at h
      unfold J1 at h
      split at h
      ·obtain⟨_,rfl⟩:=Prod.mk.inj (Option.some.inj h);exact hm
      ·obtain⟨_,rfl⟩:=Prod.mk.inj (Option.some.inj h);exact hm
      ·cases h
    ·cases h
  ·exact absurd hm (Ky h n)
 |unOp a b x =>
  rw[hop]at h
  exfalso
  unfold fM at h
  dsimp only at h
  split at h
  ·obtain⟨_,rfl⟩:=Prod.mk.inj (Option.some.inj h);exact hm
  ·obtain⟨_,rfl⟩:=Prod.mk.inj (Option.some.inj h);exact hm
  ·cases h
 |pick x a b =>
  rw[hop]at h
  unfold fM at h
  dsimp only at h
  split at h
  ·rename_i y e2
   obtain⟨_,rfl⟩:=Prod.mk.inj (Option.some.inj h)
   unfold Bf at hm
   split at hm
   ·exact hm.elim
   ·cases y with
    |true=>exact .inl ⟨a,by simp[Op.operands],hm⟩
    |false=>exact .inl ⟨b,by simp[Op.operands],hm⟩
  ·cases h
 |call c =>
  obtain⟨cl,xs,ts⟩:=c
  rw[hop]at hv h
  exfalso
  cases cl with
  |builtin b =>
   cases b<;>try (cases hv;done)
   unfold fM at h
   dsimp only at h
   split at h
   ·split at h
    ·split at h
     ·rename_i ti _
      generalize (Nat.beq ti.kind (t6 _) && !Nat.beq ti.kind 0)=q at h
      cases q with
      |false=>cases h
      |true=>obtain⟨_,rfl⟩:=Prod.mk.inj (Option.some.inj h);exact hm
     ·cases h
    ·cases h
   ·rename_i e1 _;cases e1
   ·rename_i e1 _;cases e1
   ·cases h
  |_=>cases hv
 |_=>rw[hop]at hv;cases hv
theorem Jc {τ:kL}(hv:iK τ o=true){e:Operand→AV}{ob ob':Nm→Option Ob}(ho:∀x∈o.op.operands, ∀n,aA (e x) n→ob' n=ob n):tH τ o.op e ob'=tH τ o.op e ob:=by
 unfold tH
 rw[K8 hv ho]
theorem Gm {τ:kL}(hv:iK τ o=true){e:Operand→AV}{ob:Nm→Option Ob}{c:Bool}{v:AV}(h:tH τ o.op e ob=some (c,v)){n:Nm}(hm:aA v n) :
  (∃x∈o.op.operands,aA (e x) n)∨∃x∈o.op.operands, ∃m y,aA (e x) m∧ob m=some y∧cY y n:=by
 unfold tH at h
 cases hq:fM τ o.op e ob with
 |some r =>
  rw[hq]at h
  obtain rfl:=Option.some.inj h
  exact Ja hv hq hm
 |none =>
  rw[hq]at h
  cases ha:zg τ o.op e with
  |none=>rw[ha]at h;cases h
  |some u =>
   rw[ha]at h
   obtain⟨_,rfl⟩:=Prod.mk.inj (Option.some.inj h)
   exact .inl (IH ha hm)
end
def d7 (d:Nat) (s:St):Prop:=(∀t,t≠d→∀n,cq d n=true→¬aA (s.t t) n)∧∀m ob,s.o m=some ob→cq d m=false∧∀n,cq d n=true→¬cY ob n
def wX (d:Nat) (s:St):Prop:=s.t d = .c (.pb [d,0] 0)∧(∀t,t≠d→¬aA (s.t t) [d,0])∧∀m ob,s.o m=some ob→¬cY ob [d,0]
theorem CV.drop_id{n:Nm}{c:CV}(h:¬dB c n):c.drop n=c:=by
 cases c with
 |own m=>show(bif Nm.eqb m n then CV.dead else .own m)=_;rw[bg.2 h];rfl
 |pb m k=>show(bif Nm.eqb m n then CV.dead else .pb m k)=_;rw[bg.2 h];rfl
 |pa m z i j=>show(bif Nm.eqb m n then CV.dead else .pa m z i j)=_;rw[bg.2 h];rfl
 |mp m=>show(bif Nm.eqb m n then CV.dead else .mp m)=_;rw[bg.2 h];rfl
 |clo f cs =>
  grind [Nm.eqb,bg,dB,CV.drop,AV.drop,Ob.drop,St.drop]
 |_=>rfl
theorem PR.drop_id{n:Nm}{cs:List CV}(h:¬bY cs n):cs.map (CV.drop n)=cs:=by
 induction cs with
 |nil=>rfl
 |cons c cs ih =>
  grind [CV.drop_id,bY,CV.drop,AV.drop,Ob.drop,St.drop]
theorem AV.drop_id{n:Nm}{v:AV}(h:¬aA v n):v.drop n=v:=by
 cases v with
 |c x=>exact congrArg AV.c (CV.drop_id h)
 |g cs=>exact congrArg AV.g (PR.drop_id h)
 |tup l =>
  refine congrArg AV.tup ?_
  induction l with
  |nil=>rfl
  |cons p l ih =>
   simp_all [PR.drop_id,aA,CV.drop,AV.drop,Ob.drop,St.drop]
theorem Ob.drop_id{n:Nm}{x:Ob}(h:¬cY x n):x.drop n=x:=by
 cases x with
 |box cs=>exact congrArg Ob.box (PR.drop_id h)
 |_=>rfl
theorem d7.o_none{d:Nat}{s:St}(h:d7 d s){n:Nm}(hn:cq d n=true):s.o n=none:=by
 cases q:s.o n with
 |none=>rfl
 |some ob=>rw[(h.2 n ob q).1]at hn;cases hn
theorem d7.drops{d:Nat}{s:St}(h:d7 d s):∀(ns:List Nm),(∀n∈ns,cq d n=true)→(∀t,t≠d→(s.drops ns).t t=s.t t)∧(s.drops ns).o=s.o
 |[],_=>⟨fun _ _=>rfl,rfl⟩
 |n::ns,hn=>by
  have h0:=hn n (List.mem_cons_self ..)
  have e1:∀t,t≠d→(s.drop n).t t=s.t t:=fun t ht=>AV.drop_id (h.1 t ht n h0)
  have e2:(s.drop n).o=s.o:=by
   funext m
   show(bif Nm.eqb m n then none else(s.o m).map (Ob.drop n))=s.o m
   cases q:Nm.eqb m n with
   |true=>rw[bT.1 q,h.o_none h0];rfl
   |false =>
    cases q2:s.o m with
    |none=>rfl
    |some ob=>exact congrArg some (Ob.drop_id ((h.2 m ob q2).2 n h0))
  have h':d7 d (s.drop n):=⟨fun t ht k hk=>by rw[e1 t ht];exact h.1 t ht k hk,fun m ob hm=>by rw[e2]at hm;exact h.2 m ob hm⟩
  obtain⟨g1,g2⟩:=h'.drops ns (fun k hk=>hn k (List.mem_cons_of_mem _ hk))
  exact⟨fun t ht=>(g1 t ht).trans (e1 t ht),g2.trans e2⟩
theorem d7.ev{d:Nat}{s:St}(h:d7 d s){n:Nm}(hn:cq d n=true){x:Operand}(hx:x ≠ .tmp d):(s.drop n).ev x=s.ev x:=by
 cases x with
 |tmp t=>exact((h.drops [n] (fun k hk=>by rw[List.mem_singleton.1 hk];exact hn)).1 t (fun e=>hx (by rw[e])))
 |_=>rfl
def IY:bQ→Bool
 | .no=>true
 | .ln _=>true
 |_=>false
def CO:DG→Bool
 | .p _=>false
 |_=>true
def j7{R:Type}(S:aa) (vs:List AV) (d:Nat) (o:Nm→Option Ob) (k:AV→List (Nm×Ob)→Option R):Option R :=
 bif Nat.beq (vs.length+S.gh.length) S.pars.length&&(pm S.gh&&S.pars.all CO)then(match iB o (aw 0 S.pars) vs with
  |some (ds,ts)=>bif i9 S.pars.length (aw 0 S.pars)&&(jc ts&&((bif S.shares then eK (ts.flatMap bQ.lent)else true)&&(eK ((ts.flatMap bQ.pair).map Prod.snd)&&ts.all IY)))then(match rO (be (aw 0 S.pars)) ds with
   |some x=>match S.g x with
    |some r=>match l9 d (fun _=>none) ts (S.ens.flatMap En.names) (fm S.ens (ai _ r))with
     |some ups=>bif iG S d (fun _=>none) ts (cW S.ens (ai _ r)) (fm S.ens (ai _ r)) ups then k ((qj (cW S.ens (ai _ r)) S.pars.length S.res.length).ren d ts (S.ens.flatMap En.names)) ups else none
     |none=>none
    |none=>none
   |none=>none)else none
  |none=>none)else none
def nB:Op→Bool
 | .alloc _=>true
 |_=>false
def Bu:Op→Bool
 | .buildSlice _ _ ⟨[]⟩=>true
 |_=>false
def j8 (o:Oper):Option Nat:=match o.op,o.dst with
 | .call { callee := .builtin .append,args:=⟨[.tmp t,_]⟩, .. },some _=>some t
 |_,_=>none
def dU (o:Oper):Bool:=match o.guard with
 |none=>true
 |some _=>false
def ay (E:aE) (o:Oper):Nat:=bif iK E.τ o&&(match o.dst with|some _=>true|none=>false)then 0 else bif dU o then(match o.op,o.dst with
 | .call { callee := .value (.func f), .. },some d=>(match E.Γ f d with
  |some S=>bif eK (S.ens.flatMap En.names)then 4 else 1
  |none=>3)
 | .alloc _,some _=>1
 | .buildSlice _ _ ⟨[]⟩,some _=>1
 | .store _ (.tmp _) _,none=>2
 | .call { callee := .builtin .append,args:=⟨[.tmp _,_]⟩, .. },some _=>6
 |_,_=>3)else 3
def Bo{R:Type}(E:aE) (o:Oper) (s:St) (k:St→Option R):Option R:=match o.dst with
 |none=>none
 |some d=>bif Nat.blt d E.N then(match o.op with
  | .call { callee := .value (.func f),args, .. }=>(match E.Γ f d with
   |some S=>j7 S (args.toList.map s.ev) d s.o (fun v ups=>k ((s.over ups).put (some d) v))
   |none=>none)
  |op=>(match sf E.τ op s.ev [d,0]with
   |some (c,ob,v)=>(match c with|true=>k ((s.over [([d,0],ob)]).put (some d) v)|false=>none)
   |none=>none))else none
def Bi{R:Type}(fr:Bool) (E:aE) (o:Oper) (s:St) (k:St→Option R):Option R:=match ay E o with
 |1=>(match fr with|true=>Bo E o s k|false=>o7 E o s k)
 |4=>Bo E o s k
 |_=>o7 E o s k
def md{R:Type}(fr:Bool) (E:aE) (all:List Oper):List Oper→St→(St→Option R)→Option R
 |[],s,k=>k s
 |o::r,s,k=>match o.guard with
  |none=>Bi fr E o s (fun s'=>md fr E all r s' k)
  |some _=>cF E all [o] s (fun s'=>md fr E all r s' k)
structure Nk (E:aE) (l:List Oper) (o:Oper) (q:Bool) (s:St) (d:Nat) (v:AV) (ups:List (Nm×Ob)):Prop where
 dst:o.dst=some d
 step:∀s':St,(∀t∈it l o,s'.t t=s.t t)→(∀t∈it l o, ∀n,aA (s.t t) n→s'.o n=s.o n)→(q=true→d7 d s')→stg E l o s'=some ((s'.over ups).put (some d) v)
 hd:∀p∈ups,cq d p.1=true
 ment:∀n,(aA v n∨∃p∈ups,cY p.2 n)→cq d n=true∨(∃t∈it l o,aA (s.t t) n)∨∃t∈it l o, ∃m y,aA (s.t t) m∧s.o m=some y∧cY y n
section
variable{E:aE}{l:List Oper}{o:Oper}{s s1:St}
theorem LM (hk:ay E o=0) (h:stg E l o s=some s1):∃d v,Nk E l o false s d v []∧s1=(s.over []).put (some d) v:=by
 obtain⟨hv,d,hd⟩:iK E.τ o=true∧∃d,o.dst=some d:=by
  grind [ay,iK,dU,split,eK,En.names]
 rw[A0]at h
 cases hg:gd l o s with
 |none=>simp_all
 |some b =>
  rw[hg]at h
  cases b with
  |false =>
   have h:(bif dJ E.N o.dst then some (s.put o.dst nR)else none)=some s1:=h
   cases hN:dJ E.N o.dst with
   |false=>simp_all
   |true =>
    rw[hN,hd]at h
    refine⟨d,nR,⟨hd,fun s' h1 _ _=>?_,fun p hp=>(by cases hp),fun n hn=>?_⟩,(Option.some.inj h).symm⟩
    ·rw[A0,FM h1,hg]
     dsimp only
     rw[hN,hd];rfl
    ·rcases hn with hn|⟨p,hp,_⟩
     ·trivial
     ·cases hp
  |true =>
   have h:o7 (R:=St) E o s some=some s1:=h
   rw[I8 hv hd]at h
   cases hq:tH E.τ o.op s.ev s.o with
   |none=>simp_all
   |some r =>
    obtain⟨c,v⟩:=r
    rw[hq]at h
    dsimp only at h
    cases hN:Nat.blt d E.N with
    |false=>simp_all
    |true =>
     rw[hN]at h
     cases c with
     |false=>cases h
     |true =>
      refine⟨d,v,⟨hd,fun s' h1 h2 _=>?_,fun p hp=>(by cases hp),fun n hn=>?_⟩,(Option.some.inj h).symm⟩
      ·rw[A0,FM h1,hg]
       dsimp only
       rw[I8 hv hd, ←DR (px h1),Jc hv (ob:=s.o) (fun x hx n hn=>by
        obtain⟨t,ht,hm⟩:=uX (l:=l) hx hn
        exact h2 t ht n hm),hq]
       dsimp only
       rw[hN];rfl
      ·rcases hn with hn|⟨p,hp,_⟩
       ·rcases Gm hv hq hn with⟨x,hx,hm⟩|⟨x,hx,m,y,hm,g1,g2⟩
        ·exact .inr (.inl (uX hx hm))
        ·obtain⟨t,ht,hm⟩:=uX (l:=l) hx hm
         exact .inr (.inr ⟨t,ht,m,y,hm,g1,g2⟩)
       ·cases hp
theorem tB{R:Type}{S:aa}{vs:List AV}{d:Nat}{ob:Nm→Option Ob}(k:AV→List (Nm×Ob)→Option R):j7 S vs d ob k=(j7 S vs d ob (fun v ups=>some (v,ups))).bind fun p=>k p.1 p.2:=by
 unfold j7
 simp only[qS,Option.bind_none]
 split
 ·grind
 ·rfl
theorem yh{n:Nm}{ts:List bQ}(h:ts.all IY=true):gG n ts = .no:=by
 induction ts with
 |nil=>rfl
 |cons t ts ih =>
  rw[List.all_cons,Bool.and_eq_true]at h
  cases t with
  |no=>exact ih h.2
  |ln m=>exact ih h.2
  |_=>cases h.1
theorem vh{ts:List bQ}(h:ts.all IY=true):ts.flatMap bQ.moved=[]∧ts.flatMap bQ.pair=[]:=by
 induction ts with
 |nil=>trivial
 |cons t ts ih =>
  rw[List.all_cons,Bool.and_eq_true]at h
  obtain⟨g1,g2⟩:=ih h.2
  rw[List.flatMap_cons,List.flatMap_cons,g1,g2]
  cases t with
  |no=>trivial
  |ln m=>trivial
  |_=>cases h.1
theorem zq{d:Nat}{ob ob':Nm→Option Ob}{ts:List bQ}{names:List Nm}(h:ts.all IY=true):∀(oe:List (Nm×Ob)),l9 d ob ts names oe=l9 d ob' ts names oe
 |[]=>rfl
 |(m,x)::r=>by
  unfold l9
  rw[zq (ob:=ob) (ob':=ob') h r]
  have:wY d ob ts names m x=wY d ob' ts names m x:=by
   unfold wY
   rw[yh h]
  rw[this]
theorem EL{S:aa}{d:Nat}{ob ob':Nm→Option Ob}{ts:List bQ}{te:List (Nat×AV)}{oe ups:List (Nm×Ob)}(h:ts.all IY=true):iG S d ob ts te oe ups=iG S d ob' ts te oe ups:=by
 unfold iG
 rw[(vh h).2];rfl
theorem xi{d:Nat}{ts:List bQ}{names:List Nm}(h:ts.all IY=true){c:CV}{n:Nm}(hm:dB (qk d ts names c) n):cq d n=true:=by
 have one:∀{p q:Nm×Nat},yU d ts names p=some q→cq d q.1=true:=by
  intro p q e
  unfold yU at e
  rw[yh h]at e
  dsimp only at e
  cases k:lK p.1 names with
  |false=>simp_all
  |true=>rw[k]at e;obtain rfl:=Option.some.inj e;exact Nat.beq_refl d
 cases c with
 |own m=>obtain rfl:d::m=n:=hm;exact Nat.beq_refl d
 |pb m k =>
  grind [dB,yU,IY,qk,cq]
 |clo f cs =>
  have hm:dB (match sd d ts names cs with|some q=>CV.clo f q|none => .dead) n:=hm
  cases e:sd d ts names cs with
  |none=>rw[e]at hm;exact hm.elim
  |some q =>
   rw[e]at hm
   have all:∀{cs:List (Nm×Nat)}{q:List (Nm×Nat)},sd d ts names cs=some q→∀p∈q,cq d p.1=true:=by
    intro cs
    induction cs with
    |nil=>intro q e p hp;obtain rfl:=Option.some.inj e;cases hp
    |cons c cs ih =>
     grind [sd,yU]
   obtain⟨p,hp,rfl⟩:=hm
   exact all e p hp
 |v t x=>trivial
 |er b=>trivial
 |_=>trivial
theorem Jt{d:Nat}{ts:List bQ}{names:List Nm}(h:ts.all IY=true){v:AV}{n:Nm}(hm:aA (v.ren d ts names) n):cq d n=true:=by
 cases v with
 |c x=>exact xi h hm
 |g cs =>
  obtain⟨c,hc,hm⟩:=hm
  obtain⟨x,_,rfl⟩:=List.mem_map.1 hc
  exact xi h hm
 |tup ps =>
  obtain⟨p,hp,c,hc,hm⟩:=hm
  obtain⟨x,_,rfl⟩:=List.mem_map.1 hp
  obtain⟨y,_,rfl⟩:=List.mem_map.1 hc
  exact xi h hm
theorem E6{d:Nat}{ob:Nm→Option Ob}{ts:List bQ}{names:List Nm}(h:ts.all IY=true):∀{oe ups:List (Nm×Ob)},l9 d ob ts names oe=some ups→∀p∈ups,cq d p.1=true∧∀n,cY p.2 n→cq d n=true
 |[],ups,e,p,hp=>by obtain rfl:=Option.some.inj e;cases hp
 |(m,x)::r,ups,e,p,hp=>by
  unfold l9 at e
  cases e1:wY d ob ts names m x with
  |none=>simp_all
  |some a =>
   cases e2:l9 d ob ts names r with
   |none=>simp_all
   |some b =>
    rw[e1,e2]at e
    obtain rfl:=Option.some.inj e
    rcases List.mem_cons.1 hp with rfl|hp
    ·unfold wY at e1
     rw[yh h]at e1
     dsimp only at e1
     cases x with
     |arr z t xs=>obtain rfl:=Option.some.inj e1;exact⟨Nat.beq_refl d,fun n q=>q.elim⟩
     |box cells =>
      obtain rfl:=Option.some.inj e1
      refine⟨Nat.beq_refl d,fun n q=>?_⟩
      obtain⟨c,hc,hm⟩:=q
      obtain⟨y,_,rfl⟩:=List.mem_map.1 hc
      exact xi h hm
     |mp _ _ _ _=>cases e1
    ·exact E6 h e2 p hp
theorem GE{ob ob':Nm→Option Ob}{nm:Nm}{p:PS}{c:CV}(h:∀n,dB c n→ob' n=ob n):dq ob' nm p c=dq ob nm p c:=by
 cases c with
 |own m =>
  have e:=h m rfl
  have g:∀e0 t,zd ob' e0 t m=zd ob e0 t m:=fun e0 t=>by unfold zd;rw[e]
  cases p with
  |i t=>cases t with
   |sl u =>
    show(match zd ob' none u m with|some xs=>some (DV.mk (.sl u) xs,bQ.ln m)|none=>none)=_
    rw[g];rfl
   |_=>rfl
  |o e0 t =>
   simp_all [dB,dq]
  |b e0 t =>
   simp_all [dB,dq]
  |k _ e0 t =>
   simp_all [dB,dq]
  |l =>
   simp_all [Bw,dB,dq]
  |_=>rfl
 |mp m =>
  have e:=h m rfl
  cases p with
  |m kt vt ka =>
   simp_all [Oq,dB,dq]
  |i t=>rfl
  |_=>rfl
 |v ty x=>cases p<;>first|rfl|(cases ty<;>rfl)|(rename_i t;cases t<;>rfl)
 |_=>cases p<;>first|rfl|(rename_i t;cases t<;>rfl)
theorem sE{ob ob':Nm→Option Ob}{nm:Nat→PS→Nm}:∀{k:Nat}{ps:List PS}{cs:List CV},(∀n,bY cs n→ob' n=ob n)→eF ob' nm k ps cs=eF ob nm k ps cs
 |_,[],[],_=>rfl
 |_,[],_::_,_=>rfl
 |_,_::_,[],_=>rfl
 |k,p::ps,c::cs,h=>by
  unfold eF
  rw[GE (fun n hn=>h n ⟨c,List.mem_cons_self ..,hn⟩),sE (fun n ⟨x,hx,hn⟩=>h n ⟨x,List.mem_cons_of_mem _ hx,hn⟩)]
theorem vZ{ob ob':Nm→Option Ob}{e:En}{v:AV}(h:∀n,aA v n→ob' n=ob n) (hp:(∃i p,e = .val i p)∨∃i ps,e = .agg i ps):j5 ob' e v=j5 ob e v:=by
 rcases hp with⟨i,p,rfl⟩|⟨i,ps,rfl⟩
 ·cases v with
  |c x=>exact sE (fun n ⟨y,hy,hn⟩=>h n (by rw[List.mem_singleton.1 hy]at hn;exact hn))
  |_=>rfl
 ·cases v with
  |g cs=>exact sE h
  |_=>rfl
theorem At{ob ob':Nm→Option Ob}:∀{ps:List DG}{k:Nat}{vs:List AV},ps.all CO=true→(∀v∈vs, ∀n,aA v n→ob' n=ob n)→iB ob' (aw k ps) vs=iB ob (aw k ps) vs
 |[],_,[],_,_=>rfl
 |[],_,_::_,_,_=>rfl
 |p::ps,k,[],_,_=>by cases p<;>rfl
 |p::ps,k,v::vs,hb,h=>by
  rw[List.all_cons,Bool.and_eq_true]at hb
  have ih:=At (k:=k+1) hb.2 (fun u hu=>h u (List.mem_cons_of_mem _ hu))
  have hv:=h v (List.mem_cons_self ..)
  cases p with
  |p ps=>cases hb.1
  |c q =>
   show(match j5 ob' (.val k q) v,iB ob' (aw (k+1) ps) vs with|some (ds,ts),some (ds',ts')=>some (ds++ds',ts++ts')|_,_=>none)=_
   rw[ih,vZ hv (.inl ⟨_,_,rfl⟩)];rfl
  |g q =>
   show(match j5 ob' (.agg k q) v,iB ob' (aw (k+1) ps) vs with|some (ds,ts),some (ds',ts')=>some (ds++ds',ts++ts')|_,_=>none)=_
   rw[ih,vZ hv (.inr ⟨_,_,rfl⟩)];rfl
  |h q =>
   show(match j5 ob' (.agg k q) v,iB ob' (aw (k+1) ps) vs with|some (ds,ts),some (ds',ts')=>some (ds++ds',ts++ts')|_,_=>none)=_
   rw[ih,vZ hv (.inr ⟨_,_,rfl⟩)];rfl
theorem pB{S:aa}{vs:List AV}{d:Nat}{ob:Nm→Option Ob}{v:AV}{ups:List (Nm×Ob)}:j7 S vs d ob (fun v ups=>some (v,ups))=some (v,ups) ↔
  (vs.length+S.gh.length=S.pars.length∧S.gh=[]∧S.pars.all CO=true)∧∃ds ts x r,iB ob (aw 0 S.pars) vs=some (ds,ts)∧(i9 S.pars.length (aw 0 S.pars)=true∧jc ts=true∧(bif S.shares then eK (ts.flatMap bQ.lent)else true)=true∧ts.all IY=true) ∧
   rO (be (aw 0 S.pars)) ds=some x∧S.g x=some r∧l9 d (fun _=>none) ts (S.ens.flatMap En.names) (fm S.ens (ai _ r))=some ups∧iG S d (fun _=>none) ts (cW S.ens (ai _ r)) (fm S.ens (ai _ r)) ups=true ∧
   v=(qj (cW S.ens (ai _ r)) S.pars.length S.res.length).ren d ts (S.ens.flatMap En.names):=by
 have nilG:∀{g:List (Nat×Nat×Option Nat)},pm g=true↔g=[]:=fun{g}=>by cases g<;>simp[pm]
 have nilP:∀{ts:List bQ},ts.all IY=true→eK ((ts.flatMap bQ.pair).map Prod.snd)=true:=fun{ts} h=>by rw[(vh h).2];rfl
 unfold j7
 constructor
 ·intro h
  cases hc:(Nat.beq (vs.length+S.gh.length) S.pars.length&&(pm S.gh&&S.pars.all CO))with
  |false=>rw[hc]at h;cases h
  |true =>
   rw[hc]at h
   rw[Bool.and_eq_true,Bool.and_eq_true]at hc
   refine⟨⟨Nat.eq_of_beq_eq_true hc.1,nilG.1 hc.2.1,hc.2.2⟩,?_⟩
   dsimp only[cond_true]at h
   split at h
   ·rename_i ds ts e1
    cases hk:(i9 S.pars.length (aw 0 S.pars)&&(jc ts&&((bif S.shares then eK (ts.flatMap bQ.lent)else true)&&(eK ((ts.flatMap bQ.pair).map Prod.snd)&&ts.all IY))))with
    |false=>rw[hk]at h;cases h
    |true =>
     rw[hk]at h
     dsimp only[cond_true]at h
     rw[Bool.and_eq_true,Bool.and_eq_true,Bool.and_eq_true,Bool.and_eq_true]at hk
     split at h
     ·rename_i x e2
      split at h
      ·rename_i r e3
       split at h
       ·rename_i u e4
        cases ho:iG S d (fun _=>none) ts (cW S.ens (ai _ r)) (fm S.ens (ai _ r)) u with
        |false=>rw[ho]at h;cases h
        |true =>
         rw[ho]at h
         obtain⟨g1,g2⟩:=Prod.mk.inj (Option.some.inj h)
         subst g2
         exact⟨ds,ts,x,r,e1,⟨hk.1,hk.2.1,hk.2.2.1,hk.2.2.2.2⟩,e2,e3,e4,ho,g1.symm⟩
       ·cases h
      ·cases h
     ·cases h
   ·cases h
 ·rintro ⟨⟨h1,h2,h3⟩,ds,ts,x,r,e1,⟨k1,k2,k3,k4⟩,e2,e3,e4,e5,rfl⟩
  rw[show Nat.beq (vs.length+S.gh.length) S.pars.length=true from by rw[h1];exact Nat.beq_refl _,nilG.2 h2,h3]
  simp only[Bool.true_and,cond_true,e1,k1,k2,k3,nilP k4,k4,e2,e3,e4,e5]
theorem EM{S:aa}{vs:List AV}{d:Nat}{ob ob':Nm→Option Ob}(h:∀v∈vs, ∀n,aA v n→ob' n=ob n){v:AV}{ups:List (Nm×Ob)}(he:j7 S vs d ob (fun v ups=>some (v,ups))=some (v,ups)):j7 S vs d ob' (fun v ups=>some (v,ups))=some (v,ups):=by
 grind [pB,At]
theorem DB{S:aa}{vs:List AV}{d:Nat}{ob:Nm→Option Ob}{v:AV}{ups:List (Nm×Ob)}(he:j7 S vs d ob (fun v ups=>some (v,ups))=some (v,ups)):(∀n,aA v n→cq d n=true)∧∀p∈ups,cq d p.1=true∧∀n,cY p.2 n→cq d n=true:=by
 obtain⟨_,ds,ts,x,r,_,⟨_,_,_,k4⟩,_,_,e4,_,rfl⟩:=pB.1 he
 exact⟨fun n hn=>Jt k4 hn,E6 k4 e4⟩
theorem St.ext'{s s':St}(h1:∀i,s.t i=s'.t i) (h2:∀n,s.o n=s'.o n):s=s':=by
 cases s;cases s'
 congr 1
 ·grind
 ·grind
theorem cX (s:St) (d i:Nat) (v:AV):(s.put (some d) v).t i=if i=d then v else s.t i:=by
 simp_all [St.put]
theorem d7.drops0{d:Nat}{s:St}{ns:List Nm}(h:ns≠[]→d7 d s) (hn:∀n∈ns,cq d n=true):(∀t,t≠d→(s.drops ns).t t=s.t t)∧(s.drops ns).o=s.o:=by
 cases ns with
 |nil=>exact⟨fun _ _=>rfl,rfl⟩
 |cons n ns=>exact(h (fun q=>by cases q)).drops _ hn
theorem EN{S:aa}{vs:List AV}{d:Nat}{ob:Nm→Option Ob}{v:AV}{ups:List (Nm×Ob)}(hn:S.ens.flatMap En.names=[]) (he:j7 S vs d ob (fun v ups=>some (v,ups))=some (v,ups)):ups=[]:=by
 obtain⟨_,ds,ts,x,r,_,_,_,_,e4,_,rfl⟩:=pB.1 he
 have:fm S.ens (ai (be (dA S.pars S.res S.nb)) r)=[]:=by
  rcases hmb:fm S.ens (ai (be (dA S.pars S.res S.nb)) r)with _|⟨z,l⟩
  ·rfl
  ·have:=pg (q:=z) (by rw[hmb];exact List.mem_cons_self ..)
   rw[hn]at this;cases this
 rw[this]at e4
 exact(Option.some.inj e4).symm
theorem Kw{S:aa}{f:Nat}{xs:List Operand}{d:Nat}{v:AV}{ups:List (Nm×Ob)}(hf:S.ens.flatMap En.names≠[]→d7 d s) (he:j7 S (xs.map s.ev) d s.o (fun v ups=>some (v,ups))=some (v,ups)):mf (R:=St) S f .fn xs d s some=some ((s.over ups).put (some d) v):=by
 obtain⟨⟨h1,h2,h3⟩,ds,ts,x,r,e1,⟨k1,k2,k3,k4⟩,e2,e3,e4,e5,rfl⟩:=pB.1 he
 have hm:=(vh k4).1
 have gh:nU s.o (xs.map s.ev) S.gh=xs.map s.ev:=by rw[h2];rfl
 have fz:(bif S.shares then s.frzs (ts.flatMap bQ.lent)else s)=s:=by
  cases q:S.shares with
  |false=>rfl
  |true =>
   rw[q]at k3
   have k3:eK (ts.flatMap bQ.lent)=true:=k3
   cases q2:ts.flatMap bQ.lent with
   |nil=>rfl
   |cons a b=>rw[q2]at k3;cases k3
 obtain⟨d1,d2⟩:=d7.drops0 (ns:=(S.ens.flatMap En.names).map (fun m=>d::m)) (fun q=>hf (fun e=>q (by rw[e];rfl))) (fun n hn=>by
  obtain⟨m,_,rfl⟩:=List.mem_map.1 hn
  exact Nat.beq_refl d)
 unfold mf
 rw[show s.argsOf f .fn xs=some (xs.map s.ev)from rfl]
 dsimp only
 rw[gh,e1]
 dsimp only
 rw[fz]
 unfold mS
 rw[show s.argsOf f .fn xs=some (xs.map s.ev)from rfl]
 dsimp only
 rw[show Nat.beq ((xs.map s.ev).length+S.gh.length) S.pars.length=true from by rw[h1];exact Nat.beq_refl _]
 simp only[cond_true,gh,e1,k1,k2,k3,Bool.true_and,e2,e3,hm,List.nil_append,zq (ob:=(s.drops ((S.ens.flatMap En.names).map (fun m=>d::m))).o) (ob':=fun _=>none) k4,e4,EL (ob:=(s.drops ((S.ens.flatMap En.names).map (fun m=>d::m))).o) (ob':=fun _=>none) k4,e5]
 refine congrArg some (St.ext' (fun i=>?_) fun n=>?_)
 ·rw[cX,cX]
  by_cases q:i=d
  ·simp_all
  ·rw[if_neg q,if_neg q]
   exact d1 i q
 ·show(match bD ups n with|some ob=>some ob|none=>_)=(match bD ups n with|some ob=>some ob|none=>_)
  rw[d2]
end
def stm (fr:Bool) (E:aE) (l:List Oper) (o:Oper) (s:St):Option St:=md fr E l [o] s some
def n8 (fr:Bool) (E:aE) (l:List Oper):List Oper→St→Option St
 |[],s=>some s
 |o::r,s=>(stm fr E l o s).bind (n8 fr E l r)
section
variable{fr:Bool}{E:aE}{l:List Oper}{o:Oper}{s s1:St}
theorem C6{R:Type}(k:St→Option R):Bo E o s k=(Bo E o s some).bind k:=by
 unfold Bo
 cases o.dst with
 |none=>rfl
 |some d =>
  grind [split,tB,j7]
theorem xU{R:Type}(k:St→Option R):Bi fr E o s k=(Bi fr E o s some).bind k:=by
 unfold Bi
 split
 ·grind [tR,C6]
 ·exact C6 k
 ·exact tR k
theorem rn{R:Type}:∀{r:List Oper}{s:St}(k:St→Option R),md fr E l r s k=(n8 fr E l r s).bind k
 |[],s,k=>rfl
 |o::r,s,k=>by
  show md fr E l (o::r) s k=((stm fr E l o s).bind (n8 fr E l r)).bind k
  unfold stm
  unfold md
  cases hg:o.guard with
  |none =>
   dsimp only
   rw[xU,xU (k:=fun s'=>md fr E l [] s' some)]
   cases Bi fr E o s some with
   |none=>rfl
   |some s1=>exact rn k
  |some g =>
   dsimp only
   rw[qq,qq (k:=fun s'=>md fr E l [] s' some)]
   cases cF E l [o] s some with
   |none=>rfl
   |some s1=>exact rn k
theorem ml (h:(ay E o=1→fr=false)∧ay E o≠4):stm fr E l o s=stg E l o s:=by
 unfold stm stg md
 cases hg:o.guard with
 |none =>
  dsimp only
  have e:Bi fr E o s (fun s'=>md fr E l [] s' some)=o7 E o s (fun s'=>some s'):=by
   unfold Bi
   split
   ·rename_i q
    rw[h.1 q];rfl
   ·omega
   ·rfl
  rw[e]
  show o7 E o s (fun s'=>some s')=cF E l [o] s some
  unfold cF
  rw[hg];rfl
 |some g=>rfl
theorem mN (h:ay E o≠0) (h2:ay E o≠3):o.guard=none:=by
 grind [ay,iK,dU]
theorem AZ (h:(ay E o=1∧fr=true)∨ay E o=4):stm fr E l o s=Bo E o s some:=by
 have hg:o.guard=none:=mN (E:=E) (o:=o) (by rcases h with h|h<;>omega) (by rcases h with h|h<;>omega)
 unfold stm md
 rw[hg]
 dsimp only
 unfold Bi
 rcases h with⟨h,rfl⟩|h
 ·rw[h];rfl
 ·rw[h];rfl
theorem lc (hg:o.guard=none):stg E l o s=o7 E o s some:=by
 rw[A0]
 unfold gd Dj
 rw[hg]
structure IS (fr:Bool) (E:aE) (l:List Oper) (o:Oper) (q:Bool) (s:St) (d:Nat) (v:AV) (ups:List (Nm×Ob)):Prop where
 m:Nk E l o q s d v ups
 stm:∀s':St,(∀t∈it l o,s'.t t=s.t t)→(∀t∈it l o, ∀n,aA (s.t t) n→s'.o n=s.o n)→(q=true→d7 d s')→stm fr E l o s'=some ((s'.over ups).put (some d) v)
theorem Ro (hk:ay E o=0) (h:stm fr E l o s=some s1):∃d v,IS fr E l o false s d v []∧s1=(s.over []).put (some d) v:=by
 have e:∀s,stm fr E l o s=stg E l o s:=fun s=>ml ⟨fun q=>(by rw[hk]at q;cases q),by rw[hk];decide⟩
 rw[e]at h
 obtain⟨d,v,h1,h2⟩:=LM hk h
 exact⟨d,v,⟨h1,fun s' a b c=>(e s').trans (h1.step s' a b c)⟩,h2⟩
theorem J8 (hk:(ay E o=1∧fr=true)∨ay E o=4){d:Nat}(hd:o.dst=some d) (h:stm fr E l o s=some s1):∃v ups q,IS fr E l o q s d v ups∧(ay E o=4→q=false∧ups=[])∧s1=(s.over ups).put (some d) v∧(∀t,o.op = .alloc t→∃zc,v = .c (.pb [d,0] 0)∧ups=[([d,0], .box zc)]∧∀n,¬bY zc n)∧(Bu o.op=true→∃el ty xs,v = .c (.own [d,0])∧ups=[([d,0], .arr el ty xs)]):=by
 have hg:o.guard=none:=mN (E:=E) (o:=o) (by rcases hk with h|h<;>omega) (by rcases hk with h|h<;>omega)
 rw[AZ hk]at h
 unfold Bo at h
 rw[hd]at h
 dsimp only at h
 cases hN:Nat.blt d E.N with
 |false=>simp_all
 |true =>
  rw[hN]at h
  dsimp only[cond_true]at h
  split at h
  ·rename_i f args ts hop
   cases hS:E.Γ f d with
   |none=>simp_all
   |some S =>
    rw[hS]at h
    dsimp only at h
    rw[tB]at h
    cases hc:j7 S (args.toList.map s.ev) d s.o (fun v ups=>some (v,ups))with
    |none=>simp_all
    |some r =>
     obtain⟨v,ups⟩:=r
     rw[hc]at h
     obtain rfl:=(Option.some.inj h).symm
     have ops:∀x∈args.toList,x∈o.op.operands:=fun x hx=>by
      simp_all [Op.operands,Call.operands]
     have key:∀s':St,(∀t∈it l o,s'.t t=s.t t)→(∀t∈it l o, ∀n,aA (s.t t) n→s'.o n=s.o n)→j7 S (args.toList.map s'.ev) d s'.o (fun v ups=>some (v,ups))=some (v,ups):=by
      intro s' h1 h2
      have e1:args.toList.map s'.ev=args.toList.map s.ev:=List.map_congr_left fun x hx=>(px h1 x (ops x hx)).symm
      rw[e1]
      refine EM (ob:=s.o) (fun u hu n hn=>?_) hc
      obtain⟨x,hx,rfl⟩:=List.mem_map.1 hu
      obtain⟨t,ht,hm⟩:=uX (l:=l) (ops x hx) hn
      exact h2 t ht n hm
     have mt:=DB hc
     have knd:eK (S.ens.flatMap En.names)=true∧ay E o=4∨eK (S.ens.flatMap En.names)=false∧ay E o≠4:=by
      grind [ay,eK,En.names,iK,dU]
     have nilN:eK (S.ens.flatMap En.names)=true→S.ens.flatMap En.names=[]:=fun q=>by
      cases w:S.ens.flatMap En.names with
      |nil=>rfl
      |cons a b=>rw[w]at q;cases q
     refine⟨v,ups, !eK (S.ens.flatMap En.names),⟨⟨hd,fun s' h1 h2 h3=>?_,fun p hp=>(mt.2 p hp).1,fun n hn => .inl ?_⟩,fun s' h1 h2 h3=>?_⟩,fun h4=>?_,rfl,fun t ht=>?_,fun hb=>(by rw[hop]at hb;cases hb)⟩
     ·grind [lc,Kw,eK,En.names,key,o7]
     ·rcases hn with hn|⟨p,hp,hn⟩
      ·simp_all
      ·grind
     ·grind [AZ,Bo,tB,key]
     ·grind [EN]
     ·simp_all
  ·rename_i hno
   have hal:(∃t,o.op = .alloc t)∨∃t n,o.op = .buildSlice t n ⟨[]⟩:=by
    grind [ay,iK,dU,split]
   have hn:dU o=true:=by unfold dU;rw[hg]
   have hvv:iK E.τ o=false:=by unfold iK;rcases hal with⟨t,hop⟩|⟨t,n,hop⟩<;>rw[hop]
   have k4:ay E o≠4:=by
    grind [ay]
   have hvo:∀s':St,fM E.τ o.op s'.ev s'.o=none:=fun s'=>by rcases hal with⟨t,hop⟩|⟨t,n,hop⟩<;>rw[hop]<;>rfl
   have hmo:∀e e':Operand→AV,sf E.τ o.op e [d,0]=sf E.τ o.op e' [d,0]:=fun e e'=>by rcases hal with⟨t,hop⟩|⟨t,n,hop⟩<;>rw[hop]<;>rfl
   have hK:∀ s':St,o7 (R := St) E o s' some = (match fM E.τ o.op s'.ev s'.o with
        |some (c,v)=>bif dJ E.N (some d)then(match c with|true=>some (s'.put (some d) v)|false=>none)else none
        |none=>bif Nat.blt d E.N then(match sf E.τ o.op (s'.drop [d,0]).ev [d,0]with
         |some (c,ob,v)=>(match c with|true=>some (((s'.drop [d,0]).setO [d,0] ob).put (some d) v)|false=>none)
         |none=>match ng E.τ o.op (some d) s' with
          |some (c,s'')=>(match c with|true=>some s''|false=>none)
          |none=>uQ E.τ o.op d s' some)else none):=fun s'=>by
    unfold o7
    rw[hd]
    rcases hal with⟨t,hop⟩|⟨t,n,hop⟩<;>rw[hop]<;>rfl
   have hM:∀c ob v,sf E.τ o.op s.ev [d,0]=some (c,ob,v)→(nB o.op=true∧v = .c (.pb [d,0] 0)∧∃zc,ob = .box zc∧∀n,¬bY zc n)∨(Bu o.op=true∧v = .c (.own [d,0])∧∃el ty xs,ob = .arr el ty xs):=fun c ob v hm=>by
    rcases hal with⟨t,hop⟩|⟨t,n,hop⟩
    ·left
     rw[hop]at hm ⊢
     have hm:(match E.τ.get t with
      |some ti=>match ti.z0 with
       |some zc=>some (true,Ob.box zc,AV.c (.pb [d,0] 0))
       |none=>none
      |none=>none)=some (c,ob,v):=hm
     cases ht:E.τ.get t with
     |none=>simp_all
     |some ti =>
      cases hz:ti.z0 with
      |none=>simp_all
      |some zc =>
       rw[ht]at hm
       dsimp only at hm
       rw[hz]at hm
       obtain⟨_,h2⟩:=Prod.mk.inj (Option.some.inj hm)
       obtain⟨h2,h3⟩:=Prod.mk.inj h2
       exact⟨rfl,h3.symm,zc,h2.symm,fun n=>AR hz n⟩
    ·right
     rw[hop]at hm ⊢
     refine⟨rfl,?_⟩
     have hm:(match E.τ.get t with
      |some ti=>bif Nat.beq ti.kind 3 then(match E.τ.get ti.el with
       |some te=>match te.ty with
        |some ty=>bif Nat.ble (n*te.size) 65536 then(match rows ty (List.replicate n ty.zero) []with
         |some xs=>some (true,Ob.arr ti.el ty xs,AV.c (.own [d,0]))
         |none=>none)else none
        |none=>none
       |none=>none)else none
      |none=>none)=some (c,ob,v):=hm
     split at hm
     ·grind
     ·cases hm
   cases hmm:sf E.τ o.op s.ev [d,0]with
   |none=>simp_all
   |some r =>
    obtain⟨c,ob,v⟩:=r
    rw[hmm]at h
    dsimp only at h
    cases c with
    |false=>cases h
    |true =>
     obtain rfl:=(Option.some.inj h).symm
     have hM:=hM _ _ _ hmm
     have vm:∀n,aA v n→n=[d,0]:=fun n hn=>by
      rcases hM with⟨_,rfl,_⟩|⟨_,rfl,_⟩
      ·exact(show [d,0]=n from hn).symm
      ·exact(show [d,0]=n from hn).symm
     have om:∀n,¬cY ob n:=fun n hn=>by
      rcases hM with⟨_,_,zc,rfl,zm⟩|⟨_,_,el,ty,xs,rfl⟩
      ·exact zm n hn
      ·exact hn
     refine⟨_,_,true,⟨⟨hd,fun s' h1 h2 h3=>?_,fun p hp=>?_,fun n hn=>?_⟩,fun s' h1 h2 h3=>?_⟩,fun h4=>absurd h4 k4,rfl,fun t ht=>?_,fun hb=>?_⟩
     ·rw[lc hg]
      have hf':=h3 rfl
      obtain⟨d1,d2⟩:=hf'.drops [[d,0]] (fun n hn=>by rw[List.mem_singleton.1 hn];exact Nat.beq_refl d)
      have e1:o7 (R:=St) E o s' some=some (((s'.drop [d,0]).setO [d,0] ob).put (some d) v):=by
       grind
      rw[e1]
      refine congrArg some (St.ext' (fun i=>?_) fun n=>?_)
      ·rw[cX,cX]
       by_cases q:i=d
       ·simp_all
       ·rw[if_neg q,if_neg q];exact d1 i q
      ·show(bif Nm.eqb n [d,0]then some ob else(s'.drop [d,0]).o n)=(match(bif Nm.eqb [d,0] n then some ob else none)with|some ob=>some ob|none=>s'.o n)
       rw[show(s'.drop [d,0]).o n=s'.o n from congrFun d2 n]
       cases q:Nm.eqb n [d,0]with
       |true=>rw[bT.1 q];simp[Nm.eqb]
       |false =>
        grind [Nm.eqb,bg]
     ·rw[List.mem_singleton.1 hp];exact Nat.beq_refl d
     ·rcases hn with hn|⟨p,hp,hn⟩
      ·rw[vm n hn]
       exact .inl (Nat.beq_refl d)
      ·simp_all
     ·grind [AZ,Bo,sf]
     ·grind [ay,stm,St.over,bY,Bu,St.put]
     ·rcases hM with⟨ha,_⟩|⟨_,rfl,el,ty,xs,rfl⟩
      ·exfalso
       rcases hal with⟨t,hop⟩|⟨t,n,hop⟩
       ·rw[hop]at hb;cases hb
       ·rw[hop]at ha;cases ha
      ·simp_all
end
def cd (o:Oper):Option Nat:=match o.dst,o.op with
 |none, .store _ (.tmp a) _=>some a
 |_,_=>none
section
variable{fr:Bool}{E:aE}{l:List Oper}{o:Oper}{s s1:St}
theorem Ch{cs new:List CV}{off:Nat}{n:Nm}(h:bY (yR cs off new) n):bY cs n∨bY new n:=by
 grind [yR,bY]
theorem Ym{d:Nat}(hs:cd o=some d) (hg:o.guard=none) (hk:ay E o=2) (hi:s.t d = .c (.pb [d,0] 0)) (h:stm fr E l o s=some s1) :
  ∃ob0 ob,s.o [d,0]=some ob0∧s1=s.setO [d,0] ob∧stg E l o s=some s1∧(∀s':St,(∀t∈it l o,s'.t t=s.t t)→s'.o [d,0]=s.o [d,0]→stm fr E l o s'=some (s'.setO [d,0] ob))∧∀n,cY ob n→cY ob0 n∨∃t∈it l o,aA (s.t t) n:=by
 have hss:∀s,stm fr E l o s=stg E l o s:=fun s=>ml ⟨fun q=>(by rw[hk]at q;cases q),by rw[hk];decide⟩
 obtain⟨T,x,hd,hop⟩:∃T x,o.dst=none∧o.op = .store T (.tmp d) x:=by
  grind [cd,split]
 have form:∀s2:St,s2.t d = .c (.pb [d,0] 0)→stg E l o s2=(match E.τ.get T,fu (s2.ev x)with
   |some ti,some new=>bif (Nat.beq new.length ti.size&&new.all CV.fine)then(match s2.o [d,0]with
    |some (.box cs)=>bif Nat.ble (0+new.length) cs.length then some (s2.setO [d,0] (.box (yR cs 0 new)))else none
    |_=>none)else none
   |_,_=>none):=by
  intro s2 h2
  rw[lc hg]
  unfold o7
  rw[hop,hd]
  show(match fM E.τ (.store T (.tmp d) x) s2.ev s2.o with
   |some (c,v)=>bif dJ E.N none then(match c with|true=>some (s2.put none v)|false=>none)else none
   |none=>match ng E.τ (.store T (.tmp d) x) none s2 with
    |some (c,s')=>(match c with|true=>some s'|false=>none)
    |none=>none)=_
  have hv:fM E.τ (.store T (.tmp d) x) s2.ev s2.o=none:=rfl
  rw[hv]
  dsimp only
  have hw:ng E.τ (.store T (.tmp d) x) none s2=(match E.τ.get T,s2.ev (.tmp d),fu (s2.ev x)with
   |some ti, .c p,some new=>bif (Nat.beq new.length ti.size&&new.all CV.fine)then(match oO s2.o new p with
    |some (nm,ob)=>some (true,(s2.setO nm ob).put none (.c .dead))
    |none=>none)else none
   |_,_,_=>none):=rfl
  rw[hw,show s2.ev (.tmp d) = .c (.pb [d,0] 0)from h2]
  cases E.τ.get T with
  |none=>rfl
  |some ti =>
   cases fu (s2.ev x)with
   |none=>rfl
   |some new =>
    dsimp only
    cases(Nat.beq new.length ti.size&&new.all CV.fine)with
    |false=>rfl
    |true =>
     dsimp only[cond_true]
     unfold oO
     dsimp only
     cases s2.o [d,0]with
     |none=>rfl
     |some ob =>
      cases ob with
      |box cs =>
       dsimp only
       cases Nat.ble (0+new.length) cs.length<;>rfl
      |_=>rfl
 have hx:x∈o.op.operands:=by rw[hop];simp[Op.operands]
 have hdr:d∈it l o:=List.mem_append_left _ (List.mem_flatMap.2 ⟨.tmp d,by rw[hop];simp[Op.operands],List.mem_singleton.2 rfl⟩)
 rw[hss]at h
 have hsg:=h
 rw[form s hi]at h
 cases hT:E.τ.get T with
 |none=>rw[hT]at h;cases h
 |some ti =>
  cases hc:fu (s.ev x)with
  |none=>rw[hT,hc]at h;cases h
  |some new =>
   rw[hT,hc]at h
   dsimp only at h
   cases hf:(Nat.beq new.length ti.size&&new.all CV.fine)with
   |false=>rw[hf]at h;cases h
   |true =>
    rw[hf]at h
    dsimp only[cond_true]at h
    cases ho:s.o [d,0]with
    |none=>rw[ho]at h;cases h
    |some ob =>
     rw[ho]at h
     cases ob with
     |box cs =>
      dsimp only at h
      cases hl:Nat.ble (0+new.length) cs.length with
      |false=>rw[hl]at h;cases h
      |true =>
       rw[hl]at h
       refine⟨_, .box (yR cs 0 new),rfl,(Option.some.inj h).symm,hsg,fun s' h1 h2=>?_,fun n hn=>?_⟩
       ·rw[hss,form s' ((h1 d hdr).trans hi),hT, ←px h1 x hx,hc]
        dsimp only
        rw[hf,h2]
        dsimp only[cond_true]
        rw[hl];rfl
       ·rcases Ch hn with hn|hn
        ·exact .inl hn
        ·exact .inr (uX hx (mD hc hn))
     |_=>cases h
end
def nY (t:Nat) (s:St):Prop:=s.t t = .c (.own [t,0])∧(∀i,i≠t→¬aA (s.t i) [t,0])∧∀m ob,s.o m=some ob→¬cY ob [t,0]
def BY (t k d:Nat) (ob:Ob) (s:St):St:=⟨fun i=>if i=d then .c (.own [d,0])else if i=t then .c (.hd k)else s.t i,fun m=>if m=[d,0]then some ob else if m=[t,0]then none else s.o m⟩
theorem CV.past_id{n:Nm}{k:Nat}{c:CV}(h:¬dB c n):c.past n k=c:=by
 cases c with
 |own m =>
  grind [Nm.eqb,bg,dB,CV.past,AV.past,Ob.past,St.past]
 |_=>exact CV.drop_id h
theorem PR.past_id{n:Nm}{k:Nat}{cs:List CV}(h:¬bY cs n):cs.map (CV.past n k)=cs:=by
 have e:cs.map (CV.past n k)=cs.map (fun c=>c):=List.map_congr_left fun c hc=>CV.past_id (fun q=>h ⟨c,hc,q⟩)
 rw[e,List.map_id']
theorem AV.past_id{n:Nm}{k:Nat}{v:AV}(h:¬aA v n):v.past n k=v:=by
 cases v with
 |c x=>exact congrArg AV.c (CV.past_id h)
 |g cs=>exact congrArg AV.g (PR.past_id h)
 |tup l =>
  refine congrArg AV.tup ?_
  have e:l.map (fun p=>(p.1,p.2.map (CV.past n k)))=l.map (fun p=>p):=List.map_congr_left fun p hp=>Prod.ext rfl (PR.past_id (fun q=>h ⟨p,hp,q⟩))
  rw[e,List.map_id']
theorem Ob.past_id{n:Nm}{k:Nat}{x:Ob}(h:¬cY x n):x.past n k=x:=by
 cases x with
 |box cs=>exact congrArg Ob.box (PR.past_id h)
 |arr=>rfl
 |mp=>rfl
theorem OE{t k d:Nat}{s:St}{ob:Ob}(hc:nY t s) (hf:d7 d s) (hne:d≠t):(((s.past [t,0] k).drop [d,0]).setO [d,0] ob).put (some d) (.c (.own [d,0]))=BY t k d ob s:=by
 have hdt:([d,0]:Nm)≠[t,0]:=fun q=>hne (by injection q)
 refine St.ext' (fun i=>?_) fun m=>?_
 ·rw[cX]
  show(if i=d then _ else((s.t i).past [t,0] k).drop [d,0])=(if i=d then _ else if i=t then _ else _)
  by_cases q:i=d
  ·simp_all
  ·rw[if_neg q,if_neg q]
   by_cases q2:i=t
   ·rw[if_pos q2,q2,hc.1]
    show AV.c (CV.drop [d,0] (bif Nm.eqb [t,0] [t,0]then CV.hd k else CV.own [t,0]))=_
    rw[ov];rfl
   ·rw[if_neg q2,AV.past_id (hc.2.1 i q2)]
    exact AV.drop_id (hf.1 i q [d,0] (Nat.beq_refl d))
 ·show(bif Nm.eqb m [d,0]then some ob else bif Nm.eqb m [d,0]then none else(bif Nm.eqb m [t,0]then none else(s.o m).map (Ob.past [t,0] k)).map (Ob.drop [d,0]))=(if m=[d,0]then some ob else if m=[t,0]then none else s.o m)
  cases q:Nm.eqb m [d,0]with
  |true=>grind [bT]
  |false =>
   rw[if_neg (bg.1 q)]
   cases q2:Nm.eqb m [t,0]with
   |true=>grind [bT]
   |false =>
    rw[if_neg (bg.1 q2)]
    cases ho:s.o m with
    |none=>rfl
    |some x =>
     show some ((x.past [t,0] k).drop [d,0])=some x
     rw[Ob.past_id (hc.2.2 m x ho),Ob.drop_id ((hf.2 m x ho).2 [d,0] (Nat.beq_refl d))]
def wy (o:Nm→Option Ob):AV→Option ((t:Ty)→Option (List t.den))
 | .c y=>some fun t=>source o t y
 |_=>none
def DD (τ:kL) (ats:List TypeId) (ob0:Option Ob) (f:Option ((t:Ty)→Option (List t.den))):Option (Bool×Nat×Ob):=match f,ats with
 |some f,[at_,bt_]=>match τ.get at_ with
  |some ti=>bif (Nat.beq ti.kind 3&&Nat.beq at_ bt_)then(match τ.get ti.el with
   |some te=>match te.ty with
    |some ty=>bif Nat.ble te.bytes 4096 then(match ob0 with
     |some (.arr q u xs)=>bif Nat.beq q ti.el then(match Ty.same u ty with
      |some ⟨h⟩=>match f ty with
       |some ys=>some (aI ((Ty.cast (congrArg Ty.sl h) xs).length+ys.length),(Ty.cast (congrArg Ty.sl h) xs).length, .arr ti.el ty (Ty.cast (congrArg Ty.sl h) xs++ys))
       |none=>none
      |none=>none)else none
     |_=>none)else none
    |none=>none
   |none=>none)else none
  |none=>none
 |_,_=>none
theorem K6 {τ:kL}{c:Call}{d t:Nat}{y:Operand}{s:St}(hc:c.callee = .builtin .append) (ha:c.args.toList=[.tmp t,y]) (ht:s.t t = .c (.own [t,0])) :
  ng τ (.call c) (some d) s=(DD τ c.argTypes.toList (s.o [t,0]) (wy s.o (s.ev y))).map fun r=>(r.1,(((s.past [t,0] r.2.1).drop [d,0]).setO [d,0] r.2.2).put (some d) (.c (.own [d,0]))):=by
 obtain⟨callee,args,argTypes⟩:=c
 obtain rfl:=hc
 have ha:args.toList=[.tmp t,y]:=ha
 unfold ng
 dsimp only
 rw[ha]
 show(match(some d:Option Nat),[s.t t,s.ev y],argTypes.toList with
  |some d,[.c x, .c y],[at_,bt_]=>_
  |_,_,_=>none)=_
 rw[ht]
 unfold DD
 generalize s.ev y=Y
 generalize argTypes.toList=ats
 cases Y with
 |g=>cases ats<;>rfl
 |tup=>cases ats<;>rfl
 |c Y =>
  match ats with
  |[]=>rfl
  |[_]=>rfl
  |_::_::_::_=>rfl
  |[at_,bt_] =>
   unfold wy
   dsimp only
   cases τ.get at_ with
   |none=>rfl
   |some ti =>
    dsimp only
    cases(Nat.beq ti.kind 3&&Nat.beq at_ bt_)with
    |false=>rfl
    |true =>
     dsimp only[cond_true]
     cases τ.get ti.el with
     |none=>rfl
     |some te =>
      dsimp only
      cases te.ty with
      |none=>rfl
      |some ty =>
       dsimp only
       cases Nat.ble te.bytes 4096 with
       |false=>rfl
       |true =>
        dsimp only[cond_true]
        cases s.o [t,0]with
        |none=>rfl
        |some ob =>
         cases ob with
         |box=>rfl
         |mp=>rfl
         |arr q u xs =>
          dsimp only
          cases Nat.beq q ti.el with
          |false=>rfl
          |true =>
           dsimp only[cond_true]
           cases Ty.same u ty with
           |none=>rfl
           |some h =>
            dsimp only
            cases source s.o ty Y<;>rfl
theorem DU{o o':Nm→Option Ob}{t:Ty}{c:CV}(h:∀n,dB c n→o' n=o n):source o' t c=source o t c:=by
 cases c with
 |own m=>simp_all [source,dB]
 |_=>rfl
theorem Gx{o o':Nm→Option Ob}{y:AV}(h:∀n,aA y n→o' n=o n):wy o' y=wy o y:=by
 cases y with
 |g=>rfl
 |tup=>rfl
 |c y=>grind [DU,aA,wy]
theorem KE {τ:kL}{ats:List TypeId}{ob0:Option Ob}{f:Option ((t:Ty)→Option (List t.den))}:∀r,DD τ ats ob0 f=some r→∀n,¬cY r.2.2 n:=by
 have key:∀x:Option (Bool×Nat×Ob),(match x with|some r=>(match r.2.2 with | .arr _ _ _=>true|_=>false)|none=>true)=true→∀r,x=some r→∀n,¬cY r.2.2 n:=fun x hx r hr n hn=>by
  grind [DD,cY]
 refine key _ ?_
 unfold DD
 match f,ats with
 |none,_=>rfl
 |some f,[]=>rfl
 |some f,[_]=>rfl
 |some f,_::_::_::_=>rfl
 |some f,[at_,bt_] =>
  dsimp only
  cases τ.get at_ with
  |none=>rfl
  |some ti =>
   dsimp only
   cases(Nat.beq ti.kind 3&&Nat.beq at_ bt_)with
   |false=>rfl
   |true =>
    dsimp only[cond_true]
    cases τ.get ti.el with
    |none=>rfl
    |some te =>
     grind
section
variable{fr:Bool}{E:aE}{l:List Oper}{o:Oper}{s s1:St}
theorem mG{t:Nat}(h:j8 o=some t):∃c y d,o.op = .call c∧c.callee = .builtin .append∧c.args.toList=[.tmp t,y]∧o.dst=some d:=by
 grind [j8,split]
theorem XB{t d:Nat}(ha:j8 o=some t) (hd:o.dst=some d) (hk:ay E o=6) (hc:nY t s) (hf:d7 d s) (hne:d≠t) (h:stm fr E l o s=some s1) :
  ∃k ob,s1=BY t k d ob s∧(∀n,¬cY ob n)∧stg E l o s=some s1∧∀s':St,(∀i∈it l o,s'.t i=s.t i)→(∀i∈it l o, ∀n,aA (s.t i) n→s'.o n=s.o n)→nY t s'→d7 d s'→stm fr E l o s'=some (BY t k d ob s'):=by
 have hss:∀s,stm fr E l o s=stg E l o s:=fun s=>ml ⟨fun q=>(by rw[hk]at q;cases q),by rw[hk];decide⟩
 have hg:o.guard=none:=mN (E:=E) (o:=o) (by omega) (by omega)
 obtain⟨c,y,d',hop,hcc,hca,hd'⟩:=mG ha
 obtain rfl:d=d':=Option.some.inj (hd.symm.trans hd')
 have hyo:y∈o.op.operands:=by
  rw[hop]
  simp only[Op.operands,Call.operands,Array.mem_append]
  right
  rw[←Array.mem_toList_iff,hca]
  exact .tail _ (.head _)
 have hto:t∈it l o:=List.mem_append_left _ (List.mem_flatMap.2 ⟨.tmp t,by
  rw[hop]
  simp only[Op.operands,Call.operands,Array.toList_append,List.mem_append]
  right
  rw[hca]
  exact .head _,List.mem_singleton.2 rfl⟩)
 have form:∀s2:St,nY t s2→d7 d s2→stg E l o s2=(match DD E.τ c.argTypes.toList (s2.o [t,0]) (wy s2.o (s2.ev y))with
   |some r=>bif Nat.blt d E.N then(match r.1 with|true=>some (BY t r.2.1 d r.2.2 s2)|false=>none)else none
   |none=>none):=by
  intro s2 h2 h3
  rw[lc hg]
  have hvo:fM E.τ (.call c) s2.ev s2.o=none:=by
   obtain⟨callee,args,argTypes⟩:=c
   obtain rfl:=hcc
   rfl
  have hmo:sf E.τ (.call c) (s2.drop [d,0]).ev [d,0]=none:=rfl
  have e1:o7 (R := St) E o s2 some = (match fM E.τ (.call c) s2.ev s2.o with
        |some (c,v)=>bif dJ E.N (some d)then(match c with|true=>some (s2.put (some d) v)|false=>none)else none
        |none=>bif Nat.blt d E.N then(match sf E.τ (.call c) (s2.drop [d,0]).ev [d,0]with
         |some (c,ob,v)=>(match c with|true=>some (((s2.drop [d,0]).setO [d,0] ob).put (some d) v)|false=>none)
         |none=>match ng E.τ (.call c) (some d) s2 with
          |some (c,s'')=>(match c with|true=>some s''|false=>none)
          |none=>uQ E.τ (.call c) d s2 some)else none):=by
   unfold o7
   rw[hd,hop]
   obtain⟨callee,args,argTypes⟩:=c
   obtain rfl:=hcc
   rfl
  rw[e1,hvo,hmo,K6 hcc hca h2.1]
  dsimp only
  cases DD E.τ c.argTypes.toList (s2.o [t,0]) (wy s2.o (s2.ev y))with
  |none=>cases Nat.blt d E.N<;>rfl
  |some r =>
   cases Nat.blt d E.N with
   |false=>rfl
   |true =>
    dsimp only[cond_true,Option.map_some]
    rw[OE h2 h3 hne]
 rw[hss]at h
 have hsg:=h
 rw[form s hc hf]at h
 cases hr:DD E.τ c.argTypes.toList (s.o [t,0]) (wy s.o (s.ev y))with
 |none=>rw[hr]at h;cases h
 |some r =>
  rw[hr]at h
  obtain⟨b,k,ob⟩:=r
  dsimp only at h
  cases hN:Nat.blt d E.N with
  |false=>rw[hN]at h;cases h
  |true =>
   rw[hN,cond_true]at h
   cases b with
   |false=>cases h
   |true =>
    refine⟨k,ob,(Option.some.inj h).symm,KE _ hr,hsg,fun s' h1 h2 h3 h4=>?_⟩
    rw[hss,form s' h3 h4, ←px h1 y hyo,h2 t hto [t,0] (by rw[hc.1];exact rfl),Gx (o:=s.o) (fun n hn=>by
     obtain⟨i,hi,hm⟩:=uX (l:=l) hyo hn
     exact h2 i hi n hm),hr]
    dsimp only
    rw[hN];rfl
end
def nA (l:List Oper) (i:Nat):Bool:=match l[i]? with
 |some o=>(match j8 o with|some _=>true|none=>false)
 |none=>false
def J7 (l:List Oper) (z:Nat×Nat) (o:Oper):Bool:=bif nA l z.1 then Bu o.op else nB o.op
def JF (E:aE) (l:List Oper) (rs:List (List Nat)) (zs:List (Nat×Nat)) (i:Nat):Bool:=match l[i]? with
  |none=>false
  |some o =>
    (match ay E o with
      |0=>true
      |1=>true
      |4=>true
      |2=>(match cd o with|some d=>zs.any (fun z=>Nat.beq z.1 i&&Nat.beq z.2 d)|none=>false)
      |6=>(match j8 o,o.dst with|some t,some d => !Nat.beq d t&&zs.any (fun z=>Nat.beq z.1 i&&Nat.beq z.2 t)|_,_=>false)
      |_=>false) &&
    ((List.range l.length).all (fun j=>Nat.beq j i || (match l[j]? with
      |some p=>(match p.dst with
        |some e=>(aU j (rs.getD i []) || !aU e (it l o))&&(match o.dst with|some d => !Nat.beq d e|none=>true)
        |none=>true)
      |none=>true)) &&
     zs.all (fun z=>Nat.beq z.1 i || (aU z.1 (rs.getD i []) || (!aU z.2 (it l o)&&(match o.dst with|some d => !Nat.beq d z.2 || J7 l z o|none=>true)))))
def oh (fr:Bool):Nat→Bool
 |0=>true
 |4=>true
 |1=>fr
 |_=>false
def L0 (l:List Oper) (a b:Oper):Bool:=match j8 a with
 |some t => !aU t (it l b)&&(match b.dst with|some e => !Nat.beq e t|none=>false)
 |none=>false
def CD (E:aE) (l:List Oper) (rs:List (List Nat)) (fr:Bool) (i j:Nat):Bool:=match l[i]?,l[j]? with
 |some a,some b=>aU i (rs.getD j []) || (match a.dst with
  |some d=>(oh fr (ay E a) || (fr&&Nat.beq (ay E a) 6&&L0 l a b))&&(!aU d (it l b)&&(match b.dst with
   |some e=>(oh fr (ay E b) || (fr&&Nat.beq (ay E b) 6&&(oh fr (ay E a)&&L0 l b a)))&&(!Nat.beq d e && !aU e (it l a))
   |none=>fr&&(match cd b with
    |some z=>Nat.beq (ay E b) 2&&(!Nat.beq d z && !aU z (it l a))
    |none=>false)))
  |none=>false)
 |_,_=>false
def CI (l:List Oper) (i j:Nat):Bool:=match l[i]? with
 |some a => !aU j (bH a)
 |none=>false
def kp (l:List Oper) (z:Nat×Nat) (s:St):Prop:=match nA l z.1 with
 |true=>nY z.2 s
 |false=>wX z.2 s
def yK (fr:Bool) (l:List Oper) (zs:List (Nat×Nat)) (L:List Nat) (s:St):Prop:=fr=true →
 (∀i∈L, ∀o d,l[i]?=some o→o.dst=some d→d7 d s)∧∀z∈zs,z.1∈L→(∃i∈L, ∃o,l[i]?=some o∧o.dst=some z.2)∨kp l z s
theorem iN{n:Nm}{x:Ob}:∀{ups:List (Nm×Ob)},bD ups n=some x→(n,x)∈ups
 |[],h=>by cases h
 |p::r,h=>by
  have h:(bif Nm.eqb p.1 n then some p.2 else bD r n)=some x:=h
  cases q:Nm.eqb p.1 n with
  |true =>
   grind [bT]
  |false=>rw[q]at h;exact List.mem_cons_of_mem _ (iN h)
theorem sG (s:St) (ups:List (Nm×Ob)) (d:Nat) (v:AV){n:Nm}{x:Ob}(h:((s.over ups).put (some d) v).o n=some x):(n,x)∈ups∨(bD ups n=none∧s.o n=some x):=by
 grind [bD,iN,St.over,St.put]
theorem ja{s:St}{ups:List (Nm×Ob)}{d:Nat}{v:AV}{n:Nm}(h:∀p∈ups,p.1≠n):bD ups n=none∧((s.over ups).put (some d) v).o n=s.o n:=by
 have:bD ups n=none:=by
  cases q:bD ups n with
  |none=>rfl
  |some x=>exact absurd rfl (h _ (iN q))
 refine⟨this,?_⟩
 show(match bD ups n with|some ob=>some ob|none=>s.o n)=s.o n
 rw[this]
section
variable{fr:Bool}{E:aE}{l:List Oper}{s s1:St}
theorem uj{o:Oper}{q:Bool}{d e:Nat}{v:AV}{ups:List (Nm×Ob)}(hm:IS fr E l o q s d v ups) (hne:d≠e) (hr:e∉it l o) (hf:d7 e s):d7 e ((s.over ups).put (some d) v):=by
 have key:∀n,cq e n=true→¬(aA v n∨∃p∈ups,cY p.2 n):=by
  intro n hn hc
  rcases hm.m.ment n hc with h|⟨t,ht,h⟩|⟨t,ht,m,y,h1,h2,h3⟩
  ·grind [vr]
  ·exact hf.1 t (fun q=>hr (q▸ht)) n hn h
  ·exact(hf.2 m y h2).2 n hn h3
 refine⟨fun t ht n hn h=>?_,fun m x hx=>?_⟩
 ·rw[cX]at h
  by_cases q:t=d
  ·simp_all
  ·rw[if_neg q]at h;exact hf.1 t ht n hn h
 ·rcases sG s ups d v hx with h|⟨_,h⟩
  ·exact⟨vr hne (hm.m.hd _ h),fun n hn h2=>key n hn (.inr ⟨_,h,h2⟩)⟩
  ·exact hf.2 m x h
theorem L5{o:Oper}{q:Bool}{d z:Nat}{v:AV}{ups:List (Nm×Ob)}(hm:IS fr E l o q s d v ups) (hne:d≠z) (hr:z∉it l o) (hf:wX z s):wX z ((s.over ups).put (some d) v):=by
 have key:¬(aA v [z,0]∨∃p∈ups,cY p.2 [z,0]):=by
  intro hc
  rcases hm.m.ment _ hc with h|⟨t,ht,h⟩|⟨t,ht,m,y,h1,h2,h3⟩
  ·exact hne (Nat.eq_of_beq_eq_true h).symm
  ·exact hf.2.1 t (fun q=>hr (q▸ht)) h
  ·exact hf.2.2 m y h2 h3
 refine⟨?_,fun t ht h=>?_,fun m x hx h2=>?_⟩
 ·rw[cX,if_neg (Ne.symm hne)];exact hf.1
 ·rw[cX]at h
  by_cases q:t=d
  ·simp_all
  ·rw[if_neg q]at h;exact hf.2.1 t ht h
 ·rcases sG s ups d v hx with h|⟨_,h⟩
  ·grind
  ·exact hf.2.2 m x h h2
theorem yz{o:Oper}{q:Bool}{d z:Nat}{v:AV}{ups:List (Nm×Ob)}(hm:IS fr E l o q s d v ups) (hne:d≠z) (hr:z∉it l o) (hf:nY z s):nY z ((s.over ups).put (some d) v):=by
 have key:¬(aA v [z,0]∨∃p∈ups,cY p.2 [z,0]):=by
  intro hc
  rcases hm.m.ment _ hc with h|⟨t,ht,h⟩|⟨t,ht,m,y,h1,h2,h3⟩
  ·exact hne (Nat.eq_of_beq_eq_true h).symm
  ·exact hf.2.1 t (fun q=>hr (q▸ht)) h
  ·exact hf.2.2 m y h2 h3
 refine⟨?_,fun t ht h=>?_,fun m x hx h2=>?_⟩
 ·rw[cX,if_neg (Ne.symm hne)];exact hf.1
 ·rw[cX]at h
  by_cases q:t=d
  ·simp_all
  ·rw[if_neg q]at h;exact hf.2.1 t ht h
 ·rcases sG s ups d v hx with h|⟨_,h⟩
  ·grind
  ·exact hf.2.2 m x h h2
theorem Ku{z:Nat×Nat}{o:Oper}{q:Bool}{d:Nat}{v:AV}{ups:List (Nm×Ob)}(hm:IS fr E l o q s d v ups) (hne:d≠z.2) (hr:z.2∉it l o) (hf:kp l z s):kp l z ((s.over ups).put (some d) v):=by
 grind [kp,nA,yz,L5]
theorem FN{t k d e:Nat}{ob:Ob}(ho:∀n,¬cY ob n) (hne:d≠e) (hf:d7 e s):d7 e (BY t k d ob s):=by
 refine⟨fun i hi n hn h=>?_,fun m x hx=>?_⟩
 ·have h:aA (if i=d then .c (.own [d,0])else if i=t then .c (.hd k)else s.t i) n:=h
  by_cases q:i=d
  ·rw[if_pos q]at h
   have h:[d,0]=n:=h
   rw[←h]at hn
   exact hne (Nat.eq_of_beq_eq_true hn)
  ·rw[if_neg q]at h
   by_cases q2:i=t
   ·rw[if_pos q2]at h;exact h
   ·grind [cY,d7,BY]
 ·have hx:(if m=[d,0]then some ob else if m=[t,0]then none else s.o m)=some x:=hx
  by_cases q:m=[d,0]
  ·rw[if_pos q]at hx
   obtain rfl:=Option.some.inj hx
   rw[q]
   refine⟨?_,fun n _=>ho n⟩
   show Nat.beq d e=false
   cases w:Nat.beq d e with
   |false=>rfl
   |true=>simp_all
  ·grind [cY,d7,BY]
theorem FA{t k d z:Nat}{ob:Ob}(ho:∀n,¬cY ob n) (hne:d≠z) (h1:∀i,i≠z→¬aA (s.t i) [z,0]) (h2:∀m x,s.o m=some x→¬cY x [z,0]):(∀i,i≠z→¬aA ((BY t k d ob s).t i) [z,0])∧∀m x,(BY t k d ob s).o m=some x→¬cY x [z,0]:=by
 refine⟨fun i hi h=>?_,fun m x hx h=>?_⟩
 ·have h:aA (if i=d then .c (.own [d,0])else if i=t then .c (.hd k)else s.t i) [z,0]:=h
  by_cases q:i=d
  ·rw[if_pos q]at h
   have h:[d,0]=[z,0]:=h
   injection h with h _
   exact hne h
  ·rw[if_neg q]at h
   by_cases q2:i=t
   ·rw[if_pos q2]at h;exact h
   ·simp_all
 ·grind [cY,aA,BY]
theorem FQ{t k d z:Nat}{ob:Ob}(h1:z≠d) (h2:z≠t):(BY t k d ob s).t z=s.t z:=by
 simp_all [BY]
theorem Kv{z:Nat×Nat}{t k d:Nat}{ob:Ob}(ho:∀n,¬cY ob n) (hne:d≠z.2) (hzt:z.2≠t) (hf:kp l z s):kp l z (BY t k d ob s):=by
 unfold kp at hf ⊢
 cases w:nA l z.1 with
 |true =>
  rw[w]at hf
  exact⟨by rw[FQ (Ne.symm hne) hzt];exact hf.1,FA ho hne hf.2.1 hf.2.2⟩
 |false =>
  rw[w]at hf
  exact⟨by rw[FQ (Ne.symm hne) hzt];exact hf.1,FA ho hne hf.2.1 hf.2.2⟩
theorem Nc{t k d db:Nat}{ob:Ob}{vb:AV}{ub:List (Nm×Ob)}(hub:∀p∈ub,cq db p.1=true) (h1:db≠d) (h2:db≠t):((BY t k d ob s).over ub).put (some db) vb=BY t k d ob ((s.over ub).put (some db) vb):=by
 refine St.ext' (fun i=>?_) fun m=>?_
 ·rw[cX]
  show(if i=db then vb else if i=d then _ else if i=t then _ else s.t i)=(if i=d then _ else if i=t then _ else((s.over ub).put (some db) vb).t i)
  rw[cX]
  by_cases q:i=db
  ·simp_all
  ·rw[if_neg q,if_neg q];rfl
 ·show(match bD ub m with|some x=>some x|none=>(if m=[d,0]then some ob else if m=[t,0]then none else s.o m))=(if m=[d,0]then some ob else if m=[t,0]then none else(match bD ub m with|some x=>some x|none=>s.o m))
  cases w:bD ub m with
  |none=>rfl
  |some x =>
   have hh:=hub _ (iN w)
   have n1:m≠[d,0]:=fun e=>by
    simp_all [cq]
   have n2:m≠[t,0]:=fun e=>by
    simp_all [cq]
   simp only[if_neg n1,if_neg n2]
theorem Fb{a b:Oper}{qa qb:Bool}{da db:Nat}{va vb:AV}{ua ub:List (Nm×Ob)}(ha:IS fr E l a qa s da va ua) (hb:IS fr E l b qb ((s.over ua).put (some da) va) db vb ub) (hne:da≠db) (h1:da∉it l b) (h2:db∉it l a)
  (hcase:(ua=[]∧ub=[]∧qa=false∧qb=false)∨(d7 da s∧d7 db s)) :
  stm fr E l b s=some ((s.over ub).put (some db) vb)∧stm fr E l a ((s.over ub).put (some db) vb)=some ((((s.over ua).put (some da) va).over ub).put (some db) vb):=by
 have st:∀t,t≠da→((s.over ua).put (some da) va).t t=s.t t:=fun t ht=>by rw[cX,if_neg ht];rfl
 have st2:∀t,t≠db→((s.over ub).put (some db) vb).t t=s.t t:=fun t ht=>by rw[cX,if_neg ht];rfl
 have eb:stm fr E l b s=some ((s.over ub).put (some db) vb):=by
  refine hb.stm s (fun t ht=>(st t (fun q=>h1 (q▸ht))).symm) (fun t ht n hn=>?_) (fun q=>?_)
  ·rcases hcase with⟨rfl,_⟩|⟨f1,_⟩
   ·rfl
   ·rw[st t (fun q=>h1 (q▸ht))]at hn
    exact(ja (fun p hp e=>f1.1 t (fun q=>h1 (q▸ht)) n (by rw[←e];exact ha.m.hd p hp) hn)).2.symm
  ·simp_all
 refine⟨eb,?_⟩
 have ea:stm fr E l a ((s.over ub).put (some db) vb)=some ((((s.over ub).put (some db) vb).over ua).put (some da) va):=by
  refine ha.stm _ (fun t ht=>st2 t (fun q=>h2 (q▸ht))) (fun t ht n hn=>?_) (fun q=>?_)
  ·rcases hcase with⟨_,rfl,_⟩|⟨_,f2⟩
   ·rfl
   ·exact(ja (fun p hp e=>f2.1 t (fun q=>h2 (q▸ht)) n (by rw[←e];exact hb.m.hd p hp) hn)).2
  ·rcases hcase with⟨_,_,q',_⟩|⟨f1,f2⟩
   ·simp_all
   ·have hb0:IS fr E l b qb s db vb ub:=⟨⟨hb.m.dst,fun s' g1 g2 g3=>hb.m.step s' (fun t ht=>(g1 t ht).trans (st t (fun q=>h1 (q▸ht))).symm) (fun t ht n hn=>by
      rw[st t (fun q=>h1 (q▸ht))]at hn
      rw[g2 t ht n hn]
      exact(ja (fun p hp e=>f1.1 t (fun q=>h1 (q▸ht)) n (by rw[←e];exact ha.m.hd p hp) hn)).2.symm) g3,hb.m.hd,fun n hn=>by
       rcases hb.m.ment n hn with h|⟨t,ht,h⟩|⟨t,ht,m,y,g1,g2,g3⟩
       ·exact .inl h
       ·rw[st t (fun q=>h1 (q▸ht))]at h;exact .inr (.inl ⟨t,ht,h⟩)
       ·rw[st t (fun q=>h1 (q▸ht))]at g1
        rw[(ja (fun p hp e=>f1.1 t (fun q=>h1 (q▸ht)) m (by rw[←e];exact ha.m.hd p hp) g1)).2]at g2
        exact .inr (.inr ⟨t,ht,m,y,g1,g2,g3⟩)⟩,fun s' g1 g2 g3=>hb.stm s' (fun t ht=>(g1 t ht).trans (st t (fun q=>h1 (q▸ht))).symm) (fun t ht n hn=>by
      rw[st t (fun q=>h1 (q▸ht))]at hn
      rw[g2 t ht n hn]
      exact(ja (fun p hp e=>f1.1 t (fun q=>h1 (q▸ht)) n (by rw[←e];exact ha.m.hd p hp) hn)).2.symm) g3⟩
    exact uj hb0 (Ne.symm hne) h1 f1
 rw[ea]
 refine congrArg some (St.ext' (fun i=>?_) fun n=>?_)
 ·rw[cX,cX]
  show(if i=da then va else((s.over ub).put (some db) vb).t i)=(if i=db then vb else((s.over ua).put (some da) va).t i)
  rw[cX,cX]
  by_cases q:i=da
  ·rw[if_pos q,if_pos q,if_neg (fun q2=>hne (q.symm.trans q2))]
  ·rw[if_neg q,if_neg q];rfl
 ·show(match bD ua n with|some ob=>some ob|none=>(match bD ub n with|some ob=>some ob|none=>s.o n))=(match bD ub n with|some ob=>some ob|none=>(match bD ua n with|some ob=>some ob|none=>s.o n))
  cases q1:bD ua n with
  |none=>rfl
  |some x =>
   cases q2:bD ub n with
   |none=>rfl
   |some y =>
    exfalso
    have g1:=ha.m.hd _ (iN q1)
    have g2:=hb.m.hd _ (iN q2)
    rw[vr hne g1]at g2;cases g2
theorem Lg{a b:Oper}{q:Bool}{da z:Nat}{va:AV}{ua:List (Nm×Ob)}(ha:IS fr E l a q s da va ua) (hs:cd b=some z) (hg:b.guard=none) (hk:ay E b=2) (hc:wX z s) (hf:d7 da s) (hne:da≠z) (hra:z∉it l a) (hrb:da∉it l b){s2:St}(h:stm fr E l b ((s.over ua).put (some da) va)=some s2) :
  ∃s1',stm fr E l b s=some s1'∧stm fr E l a s1'=some s2:=by
 have st:∀t,t≠da→((s.over ua).put (some da) va).t t=s.t t:=fun t ht=>by rw[cX,if_neg ht];rfl
 have hzd:∀p∈ua,p.1≠[z,0]:=fun p hp e=>hne (Nat.eq_of_beq_eq_true (show Nat.beq z da=true from by
  have:=ha.m.hd p hp
  rw[e]at this;exact this)).symm
 obtain⟨ob0,ob,g1,g2,_,g4,g5⟩:=Ym hs hg hk (by rw[st z (Ne.symm hne)];exact hc.1) h
 rw[(ja hzd).2]at g1
 have e1:stm fr E l b s=some (s.setO [z,0] ob):=g4 s (fun t ht=>(st t (fun q=>hrb (q▸ht))).symm) (ja hzd).2.symm
 refine⟨_,e1,?_⟩
 have mo:∀n,cq da n=true→¬cY ob n:=fun n hn hm=>by
  grind [cd,ay,wX,d7,it,stm,St.over,St.put]
 have hf':d7 da (s.setO [z,0] ob):=by
  refine⟨hf.1,fun m x hx=>?_⟩
  have hx:(bif Nm.eqb m [z,0]then some ob else s.o m)=some x:=hx
  cases w:Nm.eqb m [z,0]with
  |true =>
   rw[w]at hx
   obtain rfl:=Option.some.inj hx
   rw[bT.1 w]
   exact⟨(hf.2 _ ob0 g1).1,mo⟩
  |false=>rw[w]at hx;exact hf.2 m x hx
 have e2:=ha.stm (s.setO [z,0] ob) (fun _ _=>rfl) (fun t ht n hn=>by
  show(bif Nm.eqb n [z,0]then some ob else s.o n)=s.o n
  cases w:Nm.eqb n [z,0]with
  |true =>
   rw[bT.1 w]at hn
   exact absurd hn (hc.2.1 t (fun q=>hra (q▸ht)))
  |false=>rfl) (fun _=>hf')
 rw[e2,g2]
 refine congrArg some (St.ext' (fun i=>?_) fun n=>?_)
 ·show _=((s.over ua).put (some da) va).t i
  rw[cX,cX]
  rfl
 ·show(match bD ua n with|some ob=>some ob|none=>(bif Nm.eqb n [z,0]then some ob else s.o n))=(bif Nm.eqb n [z,0]then some ob else(match bD ua n with|some ob=>some ob|none=>s.o n))
  cases w:Nm.eqb n [z,0]with
  |false=>rfl
  |true=>rw[bT.1 w,(ja (s:=s) (d:=da) (v:=va) hzd).1]
end
section
variable{fr:Bool}{E:aE}{l:List Oper}
theorem gU{o:Oper}{s s1:St}{d:Nat}(hd:o.dst=some d) (hk:oh fr (ay E o)=true) (h:stm fr E l o s=some s1):∃v ups q,IS fr E l o q s d v ups∧(ay E o≠1→q=false∧ups=[])∧s1=(s.over ups).put (some d) v∧(∀t,o.op = .alloc t→ay E o=1→∃zc,v = .c (.pb [d,0] 0)∧ups=[([d,0], .box zc)]∧∀n,¬bY zc n)∧(Bu o.op=true→ay E o=1→∃el ty xs,v = .c (.own [d,0])∧ups=[([d,0], .arr el ty xs)]):=by
 have three:ay E o=0∨(ay E o=1∧fr=true)∨ay E o=4:=by
  grind [oh,split]
 rcases three with h0|h1
 ·obtain⟨d',v,m,rfl⟩:=Ro (fr:=fr) h0 h
  have:d'=d:=by
   have:=m.m.dst
   rw[hd]at this
   exact(Option.some.inj this).symm
  subst this
  exact⟨v,[],false,m,fun _=>⟨rfl,rfl⟩,rfl,fun t _ q=>(by rw[h0]at q;cases q),fun _ q=>(by rw[h0]at q;cases q)⟩
 ·grind [J8]
theorem bf{n:Nat}{l:List Nat}(h:(!aU n l)=true):n∉l:=fun q=>by grind [dr]
theorem mT{a b:Nat}(h:(!Nat.beq a b)=true):a≠b:=fun q=>by simp_all
theorem AH{zs:List (Nat×Nat)}{L:List Nat}{s:St}{i:Nat}{o:Oper}{t d:Nat}(hI:yK true l zs L s) (hi:i∈L) (ho:l[i]?=some o) (hok:JF E l (aT l []) zs i=true) (hfree:∀a∈L,aU a ((aT l []).getD i [])=false) (hat:j8 o=some t) (hd:o.dst=some d) (k6:ay E o=6):d≠t∧nY t s:=by
 obtain⟨I1,I2⟩:=hI rfl
 unfold JF at hok
 rw[ho]at hok
 dsimp only at hok
 rw[Bool.and_eq_true,Bool.and_eq_true,k6]at hok
 obtain⟨hk,hB,hC⟩:=hok
 have hk:(match j8 o,o.dst with|some t,some d => !Nat.beq d t&&zs.any (fun z=>Nat.beq z.1 i&&Nat.beq z.2 t)|_,_=>false)=true:=hk
 rw[hat,hd]at hk
 dsimp only at hk
 rw[Bool.and_eq_true,List.any_eq_true]at hk
 obtain⟨hdt,z,hz,hze⟩:=hk
 have hdt:=mT hdt
 rw[Bool.and_eq_true]at hze
 have z1:=Nat.eq_of_beq_eq_true hze.1
 have z2:=Nat.eq_of_beq_eq_true hze.2
 have htr:t∈it l o:=by
  obtain⟨c,y,_,hop,_,hca,_⟩:=mG hat
  refine List.mem_append_left _ (List.mem_flatMap.2 ⟨.tmp t,?_,List.mem_singleton.2 rfl⟩)
  rw[hop]
  simp only[Op.operands,Call.operands,Array.toList_append,List.mem_append]
  right
  rw[hca]
  exact .head _
 refine⟨hdt,?_⟩
 rcases I2 z hz (z1▸hi)with⟨j,hj,p,hp,he⟩|h
 ·grind [dR,bf]
 ·simp_all [nA,kp]
theorem Rr{zs:List (Nat×Nat)}{L L':List Nat}{s s1:St}{i:Nat}{o:Oper}(hI:yK true l zs L s) (hi:i∈L) (ho:l[i]?=some o) (hok:JF E l (aT l []) zs i=true) (hfree:∀a∈L,aU a ((aT l []).getD i [])=false) (hlt:∀j∈L,j<l.length) (hs:stm true E l o s=some s1)
  (h1:∀j∈L',j∈L∧j≠i) (h2:∀j∈L,j≠i→j∈L'):stg E l o s=some s1∧yK true l zs L' s1:=by
 obtain⟨I1,I2⟩:=hI rfl
 unfold JF at hok
 rw[ho]at hok
 dsimp only at hok
 rw[Bool.and_eq_true,Bool.and_eq_true]at hok
 obtain⟨hk,hB,hC⟩:=hok
 have B:∀j∈L,j≠i→∀p e,l[j]?=some p→p.dst=some e→e∉it l o∧∀d,o.dst=some d→d≠e:=by
  grind [dR,bf,mT]
 have C:∀z∈zs,z.1∈L→z.1≠i→z.2∉it l o∧∀d,o.dst=some d→d≠z.2∨J7 l z o=true:=by
  grind [dR,bf,mT]
 by_cases k2:ay E o=2
 ·-- a store
  rw[k2]at hk
  have hk:(match cd o with|some d=>zs.any (fun z=>Nat.beq z.1 i&&Nat.beq z.2 d)|none=>false)=true:=hk
  have hg:o.guard=none:=mN (E:=E) (o:=o) (by omega) (by omega)
  cases hss:cd o with
  |none=>rw[hss]at hk;cases hk
  |some d =>
   rw[hss]at hk
   dsimp only at hk
   rw[List.any_eq_true]at hk
   obtain⟨z,hz,hze⟩:=hk
   rw[Bool.and_eq_true]at hze
   have z1:=Nat.eq_of_beq_eq_true hze.1
   have z2:=Nat.eq_of_beq_eq_true hze.2
   have hdn:o.dst=none:=by
    grind [cd,split]
   have hdr:d∈it l o:=by
    unfold cd at hss
    split at hss
    ·rename_i T a x _ hop
     obtain rfl:=Option.some.inj hss
     exact List.mem_append_left _ (List.mem_flatMap.2 ⟨.tmp a,by rw[hop];simp[Op.operands],List.mem_singleton.2 rfl⟩)
    ·cases hss
   have hcl:wX d s:=by
    grind [nA,j8,mG,kp]
   obtain⟨ob0,ob,g1,rfl,g3,_,g5⟩:=Ym hss hg k2 hcl.1 hs
   refine⟨g3,fun _=>⟨fun j hj p e hp he=>?_,fun z' hz' hzL=>?_⟩⟩
   ·obtain⟨hjL,hji⟩:=h1 j hj
    have hf:=I1 j hjL p e hp he
    have hb:=(B j hjL hji p e hp he).1
    refine⟨hf.1,fun m x hx=>?_⟩
    have hx:(bif Nm.eqb m [d,0]then some ob else s.o m)=some x:=hx
    cases w:Nm.eqb m [d,0]with
    |true =>
     rw[w]at hx
     obtain rfl:=Option.some.inj hx
     rw[bT.1 w]
     refine⟨(hf.2 _ ob0 g1).1,fun n hn hm=>?_⟩
     rcases g5 n hm with h|⟨t,ht,h⟩
     ·exact(hf.2 _ ob0 g1).2 n hn h
     ·exact hf.1 t (fun q=>hb (q▸ht)) n hn h
    |false=>rw[w]at hx;exact hf.2 m x hx
   ·obtain⟨hzL0,hzi⟩:=h1 _ hzL
    rcases I2 z' hz' hzL0 with⟨j,hj,p,hp,he⟩|h
    ·refine .inl ⟨j,h2 j hj (fun q=>?_),p,hp,he⟩
     subst q
     rw[ho]at hp
     obtain rfl:=Option.some.inj hp
     rw[hdn]at he;cases he
    ·have hcr:=(C z' hz' hzL0 hzi).1
     have key:(∀i,i≠z'.2→¬aA (s.t i) [z'.2,0])→(∀m x,s.o m=some x→¬cY x [z'.2,0])→∀m x,(s.setO [d,0] ob).o m=some x→¬cY x [z'.2,0]:=fun k1 k2 m x hx hm=>by
      have hx:(bif Nm.eqb m [d,0]then some ob else s.o m)=some x:=hx
      cases w:Nm.eqb m [d,0]with
      |true =>
       grind
      |false=>grind
     right
     unfold kp at h ⊢
     cases w:nA l z'.1 with
     |true=>rw[w]at h;exact⟨h.1,h.2.1,key h.2.1 h.2.2⟩
     |false=>rw[w]at h;exact⟨h.1,h.2.1,key h.2.1 h.2.2⟩
 ·by_cases k6:ay E o=6
  ·-- an append
   rw[k6]at hk
   have hk:(match j8 o,o.dst with|some t,some d => !Nat.beq d t&&zs.any (fun z=>Nat.beq z.1 i&&Nat.beq z.2 t)|_,_=>false)=true:=hk
   cases hat:j8 o with
   |none=>rw[hat]at hk;cases hk
   |some t =>
    cases hd:o.dst with
    |none=>rw[hat,hd]at hk;cases hk
    |some d =>
     rw[hat,hd]at hk
     dsimp only at hk
     rw[Bool.and_eq_true,List.any_eq_true]at hk
     obtain⟨hdt,z,hz,hze⟩:=hk
     have hdt:=mT hdt
     rw[Bool.and_eq_true]at hze
     have z1:=Nat.eq_of_beq_eq_true hze.1
     have z2:=Nat.eq_of_beq_eq_true hze.2
     have htr:t∈it l o:=by
      obtain⟨c,y,_,hop,_,hca,_⟩:=mG hat
      refine List.mem_append_left _ (List.mem_flatMap.2 ⟨.tmp t,?_,List.mem_singleton.2 rfl⟩)
      rw[hop]
      simp only[Op.operands,Call.operands,Array.toList_append,List.mem_append]
      right
      rw[hca]
      exact .head _
     have hcl:nY t s:=by
      grind [nA,kp]
     obtain⟨k,ob,rfl,hom,g3,_⟩:=XB hat hd k6 hcl (I1 i hi o d ho hd) hdt hs
     refine⟨g3,fun _=>⟨fun j hj p e hp he=>?_,fun z' hz' hzL=>?_⟩⟩
     ·obtain⟨hjL,hji⟩:=h1 j hj
      exact FN hom ((B j hjL hji p e hp he).2 d hd) (I1 j hjL p e hp he)
     ·obtain⟨hzL0,hzi⟩:=h1 _ hzL
      obtain⟨c1,c2⟩:=C z' hz' hzL0 hzi
      have hdz:d≠z'.2:=by
       rcases c2 d hd with h|h
       ·exact h
       ·exfalso
        obtain⟨c,y,_,hop,_,_,_⟩:=mG hat
        unfold J7 at h
        rw[hop]at h
        cases w:nA l z'.1<;>(rw[w]at h;cases h)
      rcases I2 z' hz' hzL0 with⟨j,hj,p,hp,he⟩|h
      ·refine .inl ⟨j,h2 j hj (fun q=>?_),p,hp,he⟩
       subst q
       rw[ho]at hp
       obtain rfl:=Option.some.inj hp
       rw[hd]at he
       exact hdz (Option.some.inj he)
      ·exact .inr (Kv hom hdz (fun q=>c1 (q▸htr)) h)
  -- what makes
  have hmk:oh true (ay E o)=true:=by
   split at hk
   ·rename_i q;rw[q];rfl
   ·rename_i q;rw[q];rfl
   ·rename_i q;rw[q];rfl
   ·trivial
   ·trivial
   ·cases hk
  obtain⟨d,hd⟩:∃d,o.dst=some d:=by
   grind [ay,oh,split,dU,first]
  obtain⟨v,ups,q,m,m2,rfl,m4,m5⟩:=gU hd hmk hs
  have hfd:=I1 i hi o d ho hd
  refine⟨m.m.step s (fun _ _=>rfl) (fun _ _ _ _=>rfl) (fun _=>hfd),fun _=>⟨fun j hj p e hp he=>?_,fun z hz hzL=>?_⟩⟩
  ·obtain⟨hjL,hji⟩:=h1 j hj
   obtain⟨b1,b2⟩:=B j hjL hji p e hp he
   exact uj m (b2 d hd) b1 (I1 j hjL p e hp he)
  ·obtain⟨hzL0,hzi⟩:=h1 _ hzL
   obtain⟨c1,c2⟩:=C z hz hzL0 hzi
   by_cases hdz:d=z.2
   ·rcases c2 d hd with h|h
    ·exact absurd hdz h
    ·refine .inr ?_
     have h1:Bu o.op=true∨nB o.op=true:=by
      grind [J7,nA]
     have hv:iK E.τ o=false:=by
      unfold iK
      rcases h1 with h1|h1
      ·grind [Bu,split]
      ·grind [nB,split]
     have hk1:ay E o=1:=by
      unfold oh at hmk
      split at hmk
      ·rename_i q
       exfalso
       unfold ay at q
       rw[hv,Bool.false_and,cond_false,hd]at q
       rcases h1 with h1|h1
       ·unfold Bu at h1
        split at h1
        ·grind
        ·cases h1
       ·unfold nB at h1
        split at h1
        ·grind
        ·cases h1
      ·rename_i q
       exfalso
       unfold ay at q
       rw[hv,Bool.false_and,cond_false,hd]at q
       rcases h1 with h1|h1
       ·unfold Bu at h1
        split at h1
        ·grind
        ·cases h1
       ·unfold nB at h1
        split at h1
        ·grind
        ·cases h1
      ·assumption
      ·cases hmk
     unfold kp
     unfold J7 at h
     cases w:nA l z.1 with
     |true =>
      rw[w]at h
      obtain⟨el,ty,xs,rfl,rfl⟩:=m5 h hk1
      dsimp only
      rw[←hdz]
      refine⟨by rw[cX,if_pos rfl],fun t ht=>?_,fun m x hx hm=>?_⟩
      ·rw[cX,if_neg ht]
       exact hfd.1 t ht _ (Nat.beq_refl _)
      ·rcases sG _ _ _ _ hx with h|⟨_,h⟩
       ·have:=Prod.mk.inj (List.mem_singleton.1 h)
        rw[this.2]at hm
        exact hm
       ·exact(hfd.2 m x h).2 [d,0] (Nat.beq_refl d) hm
     |false =>
      rw[w]at h
      obtain⟨t,ht⟩:∃t,o.op = .alloc t:=by
       have h:nB o.op=true:=h
       unfold nB at h
       split at h
       ·grind
       ·cases h
      obtain⟨zc,rfl,rfl,zm⟩:=m4 t ht hk1
      dsimp only
      rw[←hdz]
      refine⟨by rw[cX,if_pos rfl],fun t ht=>?_,fun m x hx hm=>?_⟩
      ·rw[cX,if_neg ht]
       exact hfd.1 t ht _ (Nat.beq_refl _)
      ·rcases sG _ _ _ _ hx with h|⟨_,h⟩
       ·have:=Prod.mk.inj (List.mem_singleton.1 h)
        rw[this.2]at hm
        exact zm _ hm
       ·exact(hfd.2 m x h).2 [d,0] (Nat.beq_refl d) hm
   ·rcases I2 z hz hzL0 with⟨j,hj,p,hp,he⟩|h
    ·refine .inl ⟨j,h2 j hj (fun q=>?_),p,hp,he⟩
     subst q
     rw[ho]at hp
     obtain rfl:=Option.some.inj hp
     rw[hd]at he
     exact hdz (Option.some.inj he)
    ·exact .inr (Ku m hdz c1 h)
theorem P9{zs:List (Nat×Nat)}{L:List Nat}{s sa sb:St}{i j:Nat}{a b:Oper}(hI:yK fr l zs L s) (hi:i∈L) (hj:j∈L) (ha:l[i]?=some a) (hb:l[j]?=some b) (hok:fr=true→JF E l (aT l []) zs j=true)
  (hok2:fr=true→JF E l (aT l []) zs i=true) (hfree2:∀x∈L,aU x ((aT l []).getD i [])=false) (hfree:∀x∈L,aU x ((aT l []).getD j [])=false) (hp:CD E l (aT l []) fr i j=true) (g1:stm fr E l a s=some sa) (g2:stm fr E l b sa=some sb) (hji:i≠j) :
  ∃s1,stm fr E l b s=some s1∧stm fr E l a s1=some sb:=by
 unfold CD at hp
 rw[ha,hb]at hp
 dsimp only at hp
 rw[hfree i hi,Bool.false_or]at hp
 cases hda:a.dst with
 |none=>rw[hda]at hp;cases hp
 |some da =>
  rw[hda]at hp
  dsimp only at hp
  rw[Bool.and_eq_true,Bool.and_eq_true,Bool.or_eq_true]at hp
  obtain⟨k1,n1,hp⟩:=hp
  rcases k1 with k1|k1
  case inr =>
   -- an append ahead of a maker
   rw[Bool.and_eq_true,Bool.and_eq_true]at k1
   obtain⟨⟨hfr,k6⟩,he⟩:=k1
   subst hfr
   have k6:=Nat.eq_of_beq_eq_true k6
   obtain⟨I1,I2⟩:=hI rfl
   unfold L0 at he
   cases hat:j8 a with
   |none=>rw[hat]at he;cases he
   |some t =>
    rw[hat]at he
    dsimp only at he
    rw[Bool.and_eq_true]at he
    cases hdb:b.dst with
    |none=>rw[hdb]at he;cases he.2
    |some db =>
     rw[hdb]at hp he
     dsimp only at hp he
     rw[Bool.and_eq_true,Bool.and_eq_true,Bool.or_eq_true]at hp
     obtain⟨k2,n2,n3⟩:=hp
     have nt:=bf he.1
     have nt2:=mT he.2
     rcases k2 with k2|k2
     case inr =>
      rw[Bool.and_eq_true,Bool.and_eq_true,Bool.and_eq_true,k6]at k2
      cases k2.2.1
     obtain⟨hdt,hcl⟩:=AH hI hi ha (hok2 rfl) hfree2 hat hda k6
     obtain⟨k,ob,rfl,hom,_,g5⟩:=XB hat hda k6 hcl (I1 i hi a da ha hda) hdt g1
     obtain⟨vb,ub,qb,mb,mb2,rfl,_⟩:=gU hdb k2 g2
     have fb:=I1 j hj b db hb hdb
     have est:∀x∈it l b,(BY t k da ob s).t x=s.t x:=fun x hx=>FQ (fun q=>bf n1 (q▸hx)) (fun q=>nt (q▸hx))
     have eso:∀x∈it l b, ∀n,aA (s.t x) n→s.o n=(BY t k da ob s).o n:=fun x hx n hn=>by
      have q1:n≠[da,0]:=fun q=>(I1 i hi a da ha hda).1 x (fun q=>bf n1 (q▸hx)) n (by rw[q];exact Nat.beq_refl da) hn
      have q2:n≠[t,0]:=fun q=>hcl.2.1 x (fun q=>nt (q▸hx)) (by rw[←q];exact hn)
      show s.o n=(if n=[da,0]then some ob else if n=[t,0]then none else s.o n)
      rw[if_neg q1,if_neg q2]
     have eb:stm true E l b s=some ((s.over ub).put (some db) vb):=mb.stm s (fun x hx=>(est x hx).symm) (fun x hx n hn=>by
      rw[est x hx]at hn
      exact eso x hx n hn) (fun _=>fb)
     refine⟨_,eb,?_⟩
     have hub:=mb.m.hd
     have hdb1:db≠da:=Ne.symm (mT n2)
     have mb0:IS true E l b qb s db vb ub:=⟨⟨mb.m.dst,fun s' g1 g2 g3=>mb.m.step s' (fun x hx=>(g1 x hx).trans (est x hx).symm) (fun x hx n hn=>by
       rw[est x hx]at hn
       rw[g2 x hx n hn];exact eso x hx n hn) g3,hub,fun n hn=>by
        rcases mb.m.ment n hn with h|⟨x,hx,h⟩|⟨x,hx,m,y,q1,q2,q3⟩
        ·exact .inl h
        ·rw[est x hx]at h;exact .inr (.inl ⟨x,hx,h⟩)
        ·rw[est x hx]at q1
         rw[←eso x hx m q1]at q2
         exact .inr (.inr ⟨x,hx,m,y,q1,q2,q3⟩)⟩,fun s' g1 g2 g3=>mb.stm s' (fun x hx=>(g1 x hx).trans (est x hx).symm) (fun x hx n hn=>by
       rw[est x hx]at hn
       rw[g2 x hx n hn];exact eso x hx n hn) g3⟩
     rw[g5 _ (fun x hx=>by rw[cX,if_neg (fun(q:x=db)=>bf n3 (q▸hx))];rfl) (fun x hx n hn=>(ja (fun p hp e=>fb.1 x (fun q=>bf n3 (q▸hx)) n (by rw[←e];exact hub p hp) hn)).2) (yz mb0 nt2 nt hcl) (uj mb0 hdb1 (bf n1) (I1 i hi a da ha hda))]
     rw[Nc hub hdb1 nt2]
  obtain⟨va,ua,qa,ma,ma2,rfl,_⟩:=gU hda k1 g1
  cases hdb:b.dst with
  |some db =>
   rw[hdb]at hp
   dsimp only at hp
   rw[Bool.and_eq_true,Bool.and_eq_true,Bool.or_eq_true]at hp
   obtain⟨k2,n2,n3⟩:=hp
   rcases k2 with k2|k2
   case inr =>
    -- a maker ahead of an append
    rw[Bool.and_eq_true,Bool.and_eq_true,Bool.and_eq_true]at k2
    obtain⟨⟨hfr,k6⟩,_,he⟩:=k2
    subst hfr
    have k6:=Nat.eq_of_beq_eq_true k6
    obtain⟨I1,I2⟩:=hI rfl
    unfold L0 at he
    cases hat:j8 b with
    |none=>rw[hat]at he;cases he
    |some t =>
     rw[hat,hda]at he
     dsimp only at he
     rw[Bool.and_eq_true]at he
     have nt:=bf he.1
     have nt2:=mT he.2
     have fa:=I1 i hi a da ha hda
     have fb:=I1 j hj b db hb hdb
     obtain⟨hdt,hcl⟩:=AH hI hj hb (hok rfl) hfree hat hdb k6
     have hua:=ma.m.hd
     have hab:=mT n2
     obtain⟨k,ob,rfl,hom,_,g5⟩:=XB hat hdb k6 (yz ma nt2 nt hcl) (uj ma hab (bf n3) fb) hdt g2
     have est:∀x∈it l b,s.t x=((s.over ua).put (some da) va).t x:=fun x hx=>by rw[cX,if_neg (fun(q:x=da)=>bf n1 (q▸hx))];rfl
     refine⟨_,g5 s est (fun x hx n hn=>by
      rw[←est x hx]at hn
      exact(ja (fun p hp e=>fa.1 x (fun q=>bf n1 (q▸hx)) n (by rw[←e];exact hua p hp) hn)).2.symm) hcl fb,?_⟩
     rw[ma.stm (BY t k db ob s) (fun x hx=>FQ (fun(q:x=db)=>bf n3 (q▸hx)) (fun(q:x=t)=>nt (q▸hx))) (fun x hx n hn=>by
      have q1:n≠[db,0]:=fun q=>fb.1 x (fun q=>bf n3 (q▸hx)) n (by rw[q];exact Nat.beq_refl db) hn
      have q2:n≠[t,0]:=fun q=>hcl.2.1 x (fun q=>nt (q▸hx)) (by rw[←q];exact hn)
      show(if n=[db,0]then some ob else if n=[t,0]then none else s.o n)=s.o n
      rw[if_neg q1,if_neg q2]) (fun _=>FN hom (Ne.symm hab) fa)]
     rw[Nc hua hab nt2]
   obtain⟨vb,ub,qb,mb,mb2,rfl,_⟩:=gU hdb k2 g2
   refine⟨_,Fb ma mb (mT n2) (bf n1) (bf n3) ?_⟩
   cases fr with
   |true =>
    obtain⟨I1,_⟩:=hI rfl
    exact .inr ⟨I1 i hi a da ha hda,I1 j hj b db hb hdb⟩
   |false =>
    have no1:∀{k:Nat},oh false k=true→k≠1:=fun h q=>by rw[q]at h;cases h
    obtain⟨x1,x2⟩:=ma2 (no1 k1)
    obtain⟨y1,y2⟩:=mb2 (no1 k2)
    exact .inl ⟨x2,y2,x1,y1⟩
  |none =>
   rw[hdb]at hp
   dsimp only at hp
   rw[Bool.and_eq_true]at hp
   obtain⟨hfr,hp⟩:=hp
   subst hfr
   cases hss:cd b with
   |none=>rw[hss]at hp;cases hp
   |some z =>
    rw[hss]at hp
    dsimp only at hp
    rw[Bool.and_eq_true,Bool.and_eq_true]at hp
    obtain⟨k2,n2,n3⟩:=hp
    have k2:=Nat.eq_of_beq_eq_true k2
    have hg:b.guard=none:=mN (E:=E) (o:=b) (by omega) (by omega)
    obtain⟨I1,I2⟩:=hI rfl
    have hzr:z∈it l b:=by
     unfold cd at hss
     split at hss
     ·rename_i T x y _ hop
      obtain rfl:=Option.some.inj hss
      exact List.mem_append_left _ (List.mem_flatMap.2 ⟨.tmp x,by rw[hop];simp[Op.operands],List.mem_singleton.2 rfl⟩)
     ·cases hss
    have hcl:wX z s:=by
     have hok:=hok rfl
     unfold JF at hok
     rw[hb]at hok
     dsimp only at hok
     rw[Bool.and_eq_true,Bool.and_eq_true,k2]at hok
     obtain⟨h1,h2,_⟩:=hok
     have h1:(match cd b with|some d=>zs.any (fun z=>Nat.beq z.1 j&&Nat.beq z.2 d)|none=>false)=true:=h1
     rw[hss]at h1
     dsimp only at h1
     rw[List.any_eq_true]at h1
     obtain⟨w,hw,hwe⟩:=h1
     rw[Bool.and_eq_true]at hwe
     have w1:=Nat.eq_of_beq_eq_true hwe.1
     have w2:=Nat.eq_of_beq_eq_true hwe.2
     rcases I2 w hw (w1▸hj)with⟨x,hx,p,hp,he⟩|h
     ·grind [dR,bf]
     ·simp_all [nA,j8,mG,kp]
    exact Lg ma hss hg k2 hcl (I1 i hi a da ha hda) (mT n2) (bf n3) (bf n1) g2
theorem cy (l:List Oper){i:Nat}{o:Oper}(ho:l[i]?=some o) (L:List Nat):cr l (i::L)=o::cr l L:=by
 simp_all [cr]
def Ad (E:aE) (l:List Oper) (rs:List (List Nat)) (j:Nat):Bool:=(match l[j]? with
 |some o => !Nat.beq (ay E o) 1 && !Nat.beq (ay E o) 4
 |none=>false)&&(List.range l.length).all (fun x=>Nat.beq x j || aU x (rs.getD j []))
structure wl (fr:Bool) (E:aE) (l:List Oper) (zs:List (Nat×Nat)) (L:List Nat):Prop where
 nd:L.Nodup
 lt:∀j∈L,j<l.length
 pr:dD (CD E l (aT l []) fr) L=true
 or:dD (CI l) L=true
 ok:fr=true→∀j∈L,(JF E l (aT l []) zs j || Ad E l (aT l []) j)=true
 down:∀j o,j∉L→l[j]?=some o→∀a∈bH o,a∉L
theorem eY{R:Nat→Nat→Bool}:∀{pre post:List Nat}{i:Nat},dD R (pre++i::post)=true→dD R (pre++post)=true∧(∀x∈pre,R x i=true)∧∀x∈post,R i x=true
 |[],post,i,h=>by
  simp_all [dD]
 |y::pre,post,i,h=>by
  have h:((pre++i::post).all (R y)&&dD R (pre++i::post))=true:=h
  rw[Bool.and_eq_true]at h
  obtain⟨g1,g2,g3⟩:=eY h.2
  have ha:=List.all_eq_true.1 h.1
  refine⟨?_,fun x hx=>?_,g3⟩
  ·simp_all [dD]
  ·grind
theorem wl.del{zs:List (Nat×Nat)}{pre post:List Nat}{i:Nat}(h:wl fr E l zs (pre++i::post)) (hfree:∀o,l[i]?=some o→∀a∈bH o,a∉pre++i::post):wl fr E l zs (pre++post)∧(∀j,j∈pre++post↔j∈pre++i::post∧j≠i):=by
 have mem:∀j,j∈pre++post↔j∈pre++i::post∧j≠i:=by
  have hnd:=(List.perm_middle (a:=i) (l₁:=pre) (l₂:=post)).nodup_iff.1 h.nd
  have hi:=(List.nodup_cons.1 hnd).1
  intro j
  rw[List.mem_append,List.mem_append,List.mem_cons]
  constructor
  ·grind
  ·grind
 refine⟨⟨?_,fun j hj=>h.lt j ((mem j).1 hj).1,(eY h.pr).1,(eY h.or).1,fun e j hj=>h.ok e j ((mem j).1 hj).1,fun j o hj ho a ha q=>?_⟩,mem⟩
 ·have hnd:=(List.perm_middle (a:=i) (l₁:=pre) (l₂:=post)).nodup_iff.1 h.nd
  exact(List.nodup_cons.1 hnd).2
 ·have q:=((mem a).1 q).1
  by_cases e:j=i
  ·simp_all
  ·exact h.down j o (fun w=>hj ((mem j).2 ⟨w,e⟩)) ho a ha q
theorem wl.reach{zs:List (Nat×Nat)}{L:List Nat}(h:wl fr E l zs L){i:Nat}{o:Oper}(ho:l[i]?=some o) (hfree:∀a∈bH o,a∉L):∀x∈L,aU x ((aT l []).getD i [])=false:=by
 intro x hx
 cases q:aU x ((aT l []).getD i [])with
 |false=>rfl
 |true=>exact absurd hx (oX (l:=l) (D:=fun j=>j∉L) h.down i ho hfree (dr.1 q))
theorem wl.head{zs:List (Nat×Nat)}{L:List Nat}{i:Nat}{o:Oper}(h:wl fr E l zs (i::L)) (ho:l[i]?=some o) (hna:i∉bH o):∀a∈bH o,a∉i::L:=by
 intro a ha hm
 rcases List.mem_cons.1 hm with rfl|hm
 ·exact hna ha
 ·have:=(eY (pre:=[]) h.or).2.2 a hm
  unfold CI at this
  rw[ho]at this
  exact bf this ha
theorem Dc{i x:Nat}(h:Ad E l (aT l []) i=true) (hx:x<l.length) (hne:x≠i):aU x ((aT l []).getD i [])=true:=by
 grind [Ad,dR]
theorem wl.okx{zs:List (Nat×Nat)}{L:List Nat}(h:wl fr E l zs L){i x:Nat}(e:fr=true) (hi:i∈L) (hx:x∈L) (hne:x≠i) (hf:∀y∈L,aU y ((aT l []).getD i [])=false):JF E l (aT l []) zs i=true:=by
 have:=h.ok e i hi
 rw[Bool.or_eq_true]at this
 rcases this with q|q
 ·exact q
 ·have:=Dc q (h.lt x hx) hne
  rw[hf x hx]at this
  cases this
theorem FV{zs:List (Nat×Nat)}(hself:∀j o,l[j]?=some o→j∉bH o){post:List Nat}{i:Nat}{b:Oper}(hb:l[i]?=some b):∀{pre:List Nat}{s y:St},wl fr E l zs (pre++i::post)→yK fr l zs (pre++i::post) s→(∀a∈bH b,a∉pre++i::post) →
  n8 fr E l (cr l (pre++i::post)) s=some y→n8 fr E l (cr l (i::(pre++post))) s=some y
 |[],s,y,_,_,_,h=>h
 |x::pre,s,y,ho,hI,hf,h=>by
  obtain⟨a,ha⟩:∃a,l[x]?=some a:=⟨_,List.getElem?_eq_getElem (ho.lt x (List.mem_cons_self ..))⟩
  rw[List.cons_append,cy l ha]at h
  have h:(stm fr E l a s).bind (n8 fr E l (cr l (pre++i::post)))=some y:=h
  obtain⟨sa,g1,g2⟩:=Option.bind_eq_some_iff.1 h
  have hfa:=ho.head ha (hself x a ha)
  obtain⟨o2,mem2⟩:=wl.del (pre:=[]) ho (fun o e=>by rw[ha]at e;obtain rfl:=Option.some.inj e;exact hfa)
  have hI2:yK fr l zs (pre++i::post) sa:=by
   cases fr with
   |false=>intro e;cases e
   |true=>exact(Rr hI (List.mem_cons_self ..) ha (ho.okx rfl (List.mem_cons_self ..) (x:=i) (List.mem_append_right _ (List.mem_cons_self ..)) (fun e=>(List.nodup_cons.1 ho.nd).1 (by rw[←e];exact List.mem_append_right _ (List.mem_cons_self ..))) (ho.reach ha hfa)) (ho.reach ha hfa) ho.lt g1 (fun j hj=>(mem2 j).1 hj) (fun j hj hne=>(mem2 j).2 ⟨hj,hne⟩)).2
  have h3:=FV hself hb (pre:=pre) o2 hI2 (fun a ha q=>hf a ha (List.mem_cons_of_mem _ q)) g2
  rw[cy l hb]at h3
  have h3:(stm fr E l b sa).bind (n8 fr E l (cr l (pre++post)))=some y:=h3
  obtain⟨sb,g4,g5⟩:=Option.bind_eq_some_iff.1 h3
  have him:i∈(x::pre)++i::post:=List.mem_append_right _ (List.mem_cons_self ..)
  have hxi:x≠i:=fun e=>by
   subst e
   exact(List.nodup_cons.1 ho.nd).1 (List.mem_append_right _ (List.mem_cons_self ..))
  obtain⟨s1,g6,g7⟩:=P9 hI (List.mem_cons_self ..) him ha hb (fun e=>ho.okx e him (List.mem_cons_self ..) hxi (ho.reach hb hf)) (fun e=>ho.okx e (List.mem_cons_self ..) him (Ne.symm hxi) (ho.reach ha hfa)) (ho.reach ha hfa) (ho.reach hb hf) ((eY (pre:=x::pre) ho.pr).2.1 x (List.mem_cons_self ..)) g1 g4 hxi
  rw[cy l hb,List.cons_append,cy l ha]
  show(stm fr E l b s).bind (fun t=>(stm fr E l a t).bind (n8 fr E l (cr l (pre++post))))=some y
  rw[g6,Option.bind_some,g7,Option.bind_some]
  exact g5
theorem M9{zs:List (Nat×Nat)}(hself:∀j o,l[j]?=some o→j∉bH o) (hst:fr=false→∀(o:Oper) (s s1:St),o∈l→stm fr E l o s=some s1→stg E l o s=some s1):∀(n:Nat) (rem L:List Nat) (s y:St),wl fr E l zs L→(∀i,i∈L↔i∈rem)→L.length=n→yK fr l zs L s→n8 fr E l (cr l L) s=some y→∀π∈ku l n rem,xF E l (cr l π) s=some y
 |0,rem,L,s,y,_,_,hl,_,h,π,hπ=>by
  simp_all [bH,stm,stg,yK,n8,cr,ku,xF]
 |n+1,rem,L,s,y,ho,hm,hl,hI,h,π,hπ=>by
  obtain⟨i,hi,hπ⟩:=List.mem_flatMap.1 hπ
  cases hf:eO l rem i with
  |false=>simp_all
  |true =>
   rw[hf]at hπ
   obtain⟨π',hπ',rfl⟩:=List.mem_map.1 hπ
   obtain⟨pre,post,rfl⟩:=List.append_of_mem ((hm i).2 hi)
   obtain⟨b,hb⟩:∃b,l[i]?=some b:=⟨_,List.getElem?_eq_getElem (ho.lt i ((hm i).2 hi))⟩
   have hfr:∀a∈bH b,a∉pre++i::post:=fun a ha q=>by
    simp_all [eO,bf]
   have h2:=FV hself hb ho hI hfr h
   rw[cy l hb]at h2
   have h2:(stm fr E l b s).bind (n8 fr E l (cr l (pre++post)))=some y:=h2
   obtain⟨s1,g1,g2⟩:=Option.bind_eq_some_iff.1 h2
   obtain⟨o2,mem2⟩:=wl.del ho (fun o e=>by rw[hb]at e;obtain rfl:=Option.some.inj e;exact hfr)
   have him:i∈pre++i::post:=List.mem_append_right _ (List.mem_cons_self ..)
   have both:stg E l b s=some s1∧yK fr l zs (pre++post) s1:=by
    cases fr with
    |false=>exact⟨hst rfl b s s1 (List.mem_of_getElem? hb) g1,fun e=>by cases e⟩
    |true =>
     have hq:=ho.ok rfl i him
     rw[Bool.or_eq_true]at hq
     rcases hq with hq|hq
     ·exact Rr hI him hb hq (ho.reach hb hfr) ho.lt g1 (fun j hj=>(mem2 j).1 hj) (fun j hj hne=>(mem2 j).2 ⟨hj,hne⟩)
     ·have hn:∀j,j∉pre++post:=fun j hj=>by
       obtain⟨q1,q2⟩:=(mem2 j).1 hj
       have:=Dc hq (ho.lt j q1) q2
       rw[ho.reach hb hfr j q1]at this
       cases this
      have hk:ay E b≠1∧ay E b≠4:=by
       unfold Ad at hq
       rw[hb]at hq
       dsimp only at hq
       rw[Bool.and_eq_true,Bool.and_eq_true]at hq
       refine⟨fun e=>?_,fun e=>?_⟩
       ·simp_all
       ·simp_all
      rw[ml ⟨fun e=>absurd e hk.1,hk.2⟩]at g1
      exact⟨g1,fun _=>⟨fun j hj=>absurd hj (hn j),fun z _ hz=>absurd hz (hn z.1)⟩⟩
   have ih:=M9 hself hst n (d9 i rem) (pre++post) s1 y o2 (fun j=>by rw[mem2,fj,hm]) (by simp at hl ⊢;omega) both.2 g2 π' hπ'
   rw[cy l hb]
   show(stg E l b s).bind (xF E l (cr l π'))=some y
   rw[both.1,Option.bind_some]
   exact ih
end
def pF (p:Nm→Bool):CV→Bool
 | .own m=>p m
 | .pb m _=>p m
 | .pa m _ _ _=>p m
 | .clo _ cs=>cs.any (fun q=>p q.1)
 | .mp m=>p m
 |_=>false
def zW (p:Nm→Bool):AV→Bool
 | .c x=>pF p x
 | .g cs=>cs.any (pF p)
 | .tup l=>l.any (fun q=>q.2.any (pF p))
def C3 (p:Nm→Bool):Ob→Bool
 | .box cs=>cs.any (pF p)
 |_=>false
theorem C5{p:Nm→Bool}{n:Nm}(hp:p n=true){c:CV}(h:dB c n):pF p c=true:=by
 cases c with
 |own m=>grind [dB,pF]
 |pb m k=>grind [dB,pF]
 |pa m z i j=>grind [dB,pF]
 |mp m=>grind [dB,pF]
 |clo f cs=>grind [dB,pF]
 |_=>exact h.elim
theorem vf{p:Nm→Bool}{n:Nm}(hp:p n=true){cs:List CV}(h:bY cs n):cs.any (pF p)=true:=by
 grind [C5,bY,pF]
theorem tW{p:Nm→Bool}{n:Nm}(hp:p n=true){v:AV}(h:aA v n):zW p v=true:=by
 cases v with
 |c x=>exact C5 hp h
 |g cs=>exact vf hp h
 |tup l =>
  grind [vf,aA,zW]
theorem tX{p:Nm→Bool}{n:Nm}(hp:p n=true){x:Ob}(h:cY x n):C3 p x=true:=by
 cases x with
 |box cs=>exact vf hp h
 |_=>exact h.elim
def BB (d:Nat) (vs:List (Nat×AV)) (bs:List (Nm×Ob)):Bool :=
 vs.all (fun q=>Nat.beq q.1 d || !zW (cq d) q.2)&&bs.all (fun q => !cq d q.1 && !C3 (cq d) q.2)
def EH (d:Nat) (vs:List (Nat×AV)) (bs:List (Nm×Ob)):Bool :=
 (match d5 vs d with | .c (.pb n 0)=>Nm.eqb n [d,0]|_=>false)&&(vs.all (fun q=>Nat.beq q.1 d || !zW (Nm.eqb [d,0]) q.2)&&bs.all (fun q => !C3 (Nm.eqb [d,0]) q.2))
def BI (d:Nat) (vs:List (Nat×AV)) (bs:List (Nm×Ob)):Bool :=
 (match d5 vs d with | .c (.own n)=>Nm.eqb n [d,0]|_=>false)&&(vs.all (fun q=>Nat.beq q.1 d || !zW (Nm.eqb [d,0]) q.2)&&bs.all (fun q => !C3 (Nm.eqb [d,0]) q.2))
def A3 (l:List Oper) (zs:List (Nat×Nat)) (L:List Nat) (vs:List (Nat×AV)) (bs:List (Nm×Ob)):Bool :=
 L.all (fun i=>match l[i]? with
  |some o=>(match o.dst with|some d=>BB d vs bs|none=>true)
  |none=>true)&&zs.all (fun z=>L.any (fun i=>match l[i]? with
  |some o=>(match o.dst with|some d=>Nat.beq d z.2|none=>false)
  |none=>false) || bif nA l z.1 then BI z.2 vs bs else EH z.2 vs bs)
theorem tZ:∀{vs:List (Nat×AV)}{t:Nat},d5 vs t = .c .dead∨∃q∈vs,q.1=t∧q.2=d5 vs t
 |[],t => .inl rfl
 |p::r,t=>by
  show(bif Nat.beq p.1 t then p.2 else d5 r t)=_∨∃q∈p::r,q.1=t∧q.2=(bif Nat.beq p.1 t then p.2 else d5 r t)
  cases w:Nat.beq p.1 t with
  |true=>simp_all
  |false =>
   rcases tZ (vs:=r) (t:=t)with h|⟨q,hq,h1,h2⟩
   ·exact .inl h
   ·grind
theorem not_true{b:Bool}(h:(!b)=true):b≠true:=by simp_all
theorem Av{d:Nat}{es:List En}{ds:List DV}(h:BB d (cW es ds) (fm es ds)=true):d7 d (G2 es ds):=by
 unfold BB at h
 rw[Bool.and_eq_true]at h
 refine⟨fun t ht n hn hm=>?_,fun m x hx=>?_⟩
 ·have hm:aA (d5 (cW es ds) t) n:=hm
  rcases tZ (vs:=cW es ds) (t:=t)with q|⟨q,hq,h1,h2⟩
  ·rw[q]at hm;exact hm
  ·grind [dR,not_true,tW]
 ·have:=List.all_eq_true.1 h.2 (m,x) (iN hx)
  rw[Bool.and_eq_true]at this
  refine⟨?_,fun n hn hm=>not_true this.2 (tX hn hm)⟩
  cases w:cq d m with
  |false=>rfl
  |true=>simp_all
theorem IA{d:Nat}{es:List En}{ds:List DV}(h:EH d (cW es ds) (fm es ds)=true):wX d (G2 es ds):=by
 unfold EH at h
 rw[Bool.and_eq_true,Bool.and_eq_true]at h
 have self:Nm.eqb [d,0] [d,0]=true:=bT.2 rfl
 refine⟨?_,fun t ht hm=>?_,fun m x hx hm=>?_⟩
 ·show d5 (cW es ds) d=_
  have h1:=h.1
  split at h1
  ·simp_all [bT]
  ·cases h1
 ·have hm:aA (d5 (cW es ds) t) [d,0]:=hm
  rcases tZ (vs:=cW es ds) (t:=t)with q|⟨q,hq,h1,h2⟩
  ·rw[q]at hm;exact hm
  ·grind [dR,not_true,tW]
 ·exact not_true (List.all_eq_true.1 h.2.2 (m,x) (iN hx)) (tX self hm)
theorem EJ{d:Nat}{es:List En}{ds:List DV}(h:BI d (cW es ds) (fm es ds)=true):nY d (G2 es ds):=by
 unfold BI at h
 rw[Bool.and_eq_true,Bool.and_eq_true]at h
 have self:Nm.eqb [d,0] [d,0]=true:=bT.2 rfl
 refine⟨?_,fun t ht hm=>?_,fun m x hx hm=>?_⟩
 ·show d5 (cW es ds) d=_
  have h1:=h.1
  split at h1
  ·simp_all [bT]
  ·cases h1
 ·have hm:aA (d5 (cW es ds) t) [d,0]:=hm
  rcases tZ (vs:=cW es ds) (t:=t)with q|⟨q,hq,h1,h2⟩
  ·rw[q]at hm;exact hm
  ·grind [dR,not_true,tW]
 ·exact not_true (List.all_eq_true.1 h.2.2 (m,x) (iN hx)) (tX self hm)
theorem Ji{l:List Oper}{zs:List (Nat×Nat)}{L:List Nat}{es:List En}{ds:List DV}(h:A3 l zs L (cW es ds) (fm es ds)=true){fr:Bool}:yK fr l zs L (G2 es ds):=fun _=>by
 unfold A3 at h
 rw[Bool.and_eq_true]at h
 refine⟨fun i hi o d ho hd=>?_,fun z hz _=>?_⟩
 ·grind [Av]
 ·have:=List.all_eq_true.1 h.2 z hz
  rw[Bool.or_eq_true]at this
  refine this.imp (fun w=>?_) (fun w=>by
   unfold kp
   cases q:nA l z.1 with
   |true=>rw[q]at w;exact EJ w
   |false=>rw[q]at w;exact IA w)
  rw[List.any_eq_true]at w
  obtain⟨i,hi,w⟩:=w
  cases ho:l[i]? with
  |none=>simp_all
  |some o =>
   rw[ho]at w
   dsimp only at w
   cases hd:o.dst with
   |none=>simp_all
   |some d =>
    rw[hd]at w
    exact⟨i,hi,o,ho,by rw[hd,Nat.eq_of_beq_eq_true w]⟩
theorem It{R:Type}{E:aE}{l:List Oper}(fr:Bool) (zs:List (Nat×Nat)) (L:List Nat) (hb:(L.all (fun i=>Nat.blt i l.length)&&(List.range l.length).all (fun i=>aU i L))=true) (hnd:L.Nodup) (ha:pI l=true)
  (hp:dD (CD E l (aT l []) fr) L=true) (ho:dD (CI l) L=true) (hok:(!fr || L.all (fun j=>JF E l (aT l []) zs j || Ad E l (aT l []) j))=true){es:List En}{x:TD (be es)}(hs:(!fr || A3 l zs L (cW es (ai _ x)) (fm es (ai _ x)))=true)
  {k:St→Option R}{y:R}(h:md fr E l (cr l L) (eN es x) k=some y):∀π∈BC l,cF E l (cr l π) (eN es x) k=some y:=by
 rw[Bool.and_eq_true]at hb
 have hm:∀i,i∈L↔i∈List.range l.length:=fun i=>⟨fun hi=>List.mem_range.2 (Nat.le_of_ble_eq_true (List.all_eq_true.1 hb.1 i hi)),fun hi=>dr.1 (List.all_eq_true.1 hb.2 i hi)⟩
 have hlen:L.length=l.length:=by
  have:L.Perm (List.range l.length):=(List.perm_ext_iff_of_nodup hnd List.nodup_range).2 hm
  rw[this.length_eq,List.length_range]
 have hself:∀j o,l[j]?=some o→j∉bH o:=fun j o hj q=>by
  have:=BQ ha j o hj j q
  omega
 rw[rn]at h
 obtain⟨s1,h1,h2⟩:=Option.bind_eq_some_iff.1 h
 intro π hπ
 have hI:yK fr l zs L (eN es x):=by
  cases fr with
  |false=>intro e;cases e
  |true=>exact Ji hs
 have hst:fr=false→∀(o:Oper) (s s1:St),o∈l→stm fr E l o s=some s1→stg E l o s=some s1:=fun e o s s1 _ hq=>by
  subst e
  by_cases k4:ay E o=4
  ·cases hd:o.dst with
   |none =>
    grind [ay,dU,split,first]
   |some d =>
    obtain⟨v,ups,q,m,m2,rfl,_⟩:=J8 (.inr k4) hd hq
    exact m.m.step s (fun _ _=>rfl) (fun _ _ _ _=>rfl) (fun w=>by rw[(m2 k4).1]at w;cases w)
  ·simp_all [ml]
 have:=M9 hself hst l.length (List.range l.length) L (eN es x) s1 ⟨hnd,fun j hj=>List.mem_range.1 ((hm j).1 hj),hp,ho,fun e j hj=>by
  subst e
  exact List.all_eq_true.1 hok j hj,fun j o hj hjo a ha2 q=>by
   have:j<l.length:=(List.getElem?_eq_some_iff.1 hjo).1
   exact hj ((hm j).2 (List.mem_range.2 this))⟩ hm hlen hI h1 π hπ
 rw[rr,this]
 exact h2
def xM:CV→Bool
 | .own _=>false
 | .pb _ _=>false
 | .pa _ _ _ _=>false
 | .clo _ _=>false
 | .mp _=>false
 |_=>true
def Ed:AV→Bool
 | .c x=>xM x
 | .g cs=>cs.all xM
 | .tup l=>l.all fun p=>p.2.all xM
def Ee:Ob→Bool
 | .box cs=>cs.all xM
 |_=>true
theorem rg{c:CV}(h:xM c=true){n:Nm}:¬dB c n:=by
 cases c<;>first|(cases h;done)|exact fun q=>q
theorem GJ{v:AV}(h:Ed v=true){n:Nm}:¬aA v n:=by
 cases v with
 |c x=>exact rg h
 |g cs=>rintro ⟨c,hc,hm⟩;exact rg (List.all_eq_true.1 h c hc) hm
 |tup l=>rintro ⟨p,hp,c,hc,hm⟩;exact rg (List.all_eq_true.1 (List.all_eq_true.1 h p hp) c hc) hm
theorem GK{x:Ob}(h:Ee x=true){n:Nm}:¬cY x n:=by
 cases x with
 |box cs=>rintro ⟨c,hc,hm⟩;exact rg (List.all_eq_true.1 h c hc) hm
 |_=>exact fun q=>q
def wc{R:Type}(W:List Nm) (S:aa) (vs:List AV) (d:Nat) (o:Nm→Option Ob) (k:AV→List (Nm×Ob)→Option R):Option R :=
 bif Nat.beq (vs.length+S.gh.length) S.pars.length&&pm S.gh then(match iB o (aw 0 S.pars) vs with
  |some (ds,ts)=>bif i9 S.pars.length (aw 0 S.pars)&&(jc ts&&(eK (ts.flatMap bQ.lent)&&eK (ts.flatMap bQ.moved)))then(match rO (be (aw 0 S.pars)) ds with
   |some x=>match S.g x with
    |some r=>match l9 d o ts (S.ens.flatMap En.names) (fm S.ens (ai _ r))with
     |some ups=>bif iG S d o ts (cW S.ens (ai _ r)) (fm S.ens (ai _ r)) ups&&(Ed ((qj (cW S.ens (ai _ r)) S.pars.length S.res.length).ren d ts (S.ens.flatMap En.names))&&ups.all (fun p=>lK p.1 W&&Ee p.2))then
       k ((qj (cW S.ens (ai _ r)) S.pars.length S.res.length).ren d ts (S.ens.flatMap En.names)) ups else none
     |none=>none
    |none=>none
   |none=>none)else none
  |none=>none)else none
def IZ (E:aE) (o:Oper):Bool:=dU o&&(match o.op,o.dst with
 | .call { callee := .value (.func f), .. },some d=>(match E.Γ f d with
  |some S => !S.pars.all CO
  |none=>false)
 |_,_=>false)
abbrev WL:=List (Nat×List Nm)
def P5 (o:Oper):Nat:=match o.dst with
 |some d=>d
 |none=>(match cd o with|some a=>a+1000000|none=>0)
def VT (k:Nat):WL→List Nm
 |[]=>[]
 |p::r=>bif Nat.beq p.1 k then p.2 else VT k r
def K7 (W:WL) (o:Oper):List Nm:=VT (P5 o) W
def tG (W:WL):List Nm:=W.flatMap Prod.snd
theorem E4{k:Nat}{n:Nm}:∀{W:WL},n∈VT k W→n∈tG W
 |p::r,h=>by
  unfold VT at h
  show n∈p.2++tG r
  cases q:Nat.beq p.1 k with
  |true=>simp_all
  |false=>rw[q]at h;exact List.mem_append_right _ (E4 h)
theorem AT{W:WL}{o:Oper}{n:Nm}(h:n∈K7 W o):n∈tG W:=E4 h
def NH{R:Type}(W:WL) (E:aE) (o:Oper) (s:St) (k:St→Option R):Option R:=match o.dst with
 |none=>none
 |some d=>bif Nat.blt d E.N then(match o.op with
  | .call { callee := .value (.func f),args, .. }=>(match E.Γ f d with
   |some S=>wc (K7 W o) S (args.toList.map s.ev) d s.o (fun v ups=>k ((s.over ups).put (some d) v))
   |none=>none)
  |_=>none)else none
def LS (W:WL) (o:Oper):Bool:=dU o&&((match cd o with|some _=>true|none=>false)&&W.any fun q=>Nat.beq q.1 (P5 o))
def Bs (W:WL) (E:aE) (o:Oper):Bool:=IZ E o || LS W o
def NP{R:Type}(W:WL) (E:aE) (o:Oper) (s:St) (k:St→Option R):Option R:=match cd o with
 |some a=>(match s.t a with
  | .c (.pb n _)=>bif lK n (K7 W o)then o7 E o s k else none
  |_=>none)
 |none=>none
def JE{R:Type}(W:WL) (E:aE) (o:Oper) (s:St) (k:St→Option R):Option R:=match IZ E o with
 |true=>NH W E o s k
 |false=>(match LS W o with
  |true=>NP W E o s k
  |false=>Bi false E o s k)
def pE{R:Type}(W:WL) (E:aE) (all:List Oper):List Oper→St→(St→Option R)→Option R
 |[],s,k=>k s
 |o::r,s,k=>match o.guard with
  |none=>JE W E o s (fun s'=>pE W E all r s' k)
  |some _=>cF E all [o] s (fun s'=>pE W E all r s' k)
theorem tA{R:Type}{W:List Nm}{S:aa}{vs:List AV}{d:Nat}{ob:Nm→Option Ob}(k:AV→List (Nm×Ob)→Option R):wc W S vs d ob k=(wc W S vs d ob (fun v ups=>some (v,ups))).bind fun p=>k p.1 p.2:=by
 unfold wc
 simp only[qS,Option.bind_none]
 split
 ·grind
 ·rfl
theorem K5{R:Type}{W:WL}{E:aE}{o:Oper}{s:St}(k:St→Option R):NH W E o s k=(NH W E o s some).bind k:=by
 unfold NH
 cases o.dst with
 |none=>rfl
 |some d =>
  dsimp only
  rw[qS,Option.bind_none]
  congr 1
  split
  ·grind [split,tA]
  ·rfl
section
variable{W:WL}{T:List (Nat×Nm)}{E:aE}{l:List Oper}{o:Oper}{s s1:St}
theorem Dz{W:List Nm}{S:aa}{f:Nat}{xs:List Operand}{d:Nat}{v:AV}{ups:List (Nm×Ob)}(he:wc W S (xs.map s.ev) d s.o (fun v ups=>some (v,ups))=some (v,ups)) :
  (d7 d s→mf (R:=St) S f .fn xs d s some=some ((s.over ups).put (some d) v))∧(∀n,¬aA v n)∧∀p∈ups,p.1∈W∧∀n,¬cY p.2 n:=by
 have nilG:∀{g:List (Nat×Nat×Option Nat)},pm g=true→g=[]:=fun{g}=>by cases g<;>simp[pm]
 have nilN:∀{g:List Nm},eK g=true→g=[]:=fun{g}=>by cases g<;>simp[eK]
 unfold wc at he
 cases hc:(Nat.beq ((xs.map s.ev).length+S.gh.length) S.pars.length&&pm S.gh)with
 |false=>rw[hc]at he;cases he
 |true =>
  rw[hc]at he
  rw[Bool.and_eq_true]at hc
  obtain⟨h1,h2⟩:=hc
  dsimp only[cond_true]at he
  split at he
  ·rename_i ds ts e1
   cases hk:(i9 S.pars.length (aw 0 S.pars)&&(jc ts&&(eK (ts.flatMap bQ.lent)&&eK (ts.flatMap bQ.moved))))with
   |false=>rw[hk]at he;cases he
   |true =>
    rw[hk]at he
    dsimp only[cond_true]at he
    rw[Bool.and_eq_true,Bool.and_eq_true,Bool.and_eq_true]at hk
    obtain⟨k1,k2,k3,k4⟩:=hk
    split at he
    ·rename_i x e2
     split at he
     ·rename_i r e3
      split at he
      ·rename_i u e4
       cases ho:(iG S d s.o ts (cW S.ens (ai _ r)) (fm S.ens (ai _ r)) u&&(Ed ((qj (cW S.ens (ai _ r)) S.pars.length S.res.length).ren d ts (S.ens.flatMap En.names))&&u.all (fun p=>lK p.1 W&&Ee p.2)))with
       |false=>rw[ho]at he;cases he
       |true =>
        rw[ho]at he
        obtain⟨g1,g2⟩:=Prod.mk.inj (Option.some.inj he)
        subst g2
        subst g1
        rw[Bool.and_eq_true,Bool.and_eq_true]at ho
        obtain⟨o1,o2,o3⟩:=ho
        refine⟨fun hf=>?_,fun n=>GJ o2,fun p hp=>?_⟩
        ·have gh:nU s.o (xs.map s.ev) S.gh=xs.map s.ev:=by rw[nilG h2];rfl
         have fz:(bif S.shares then s.frzs (ts.flatMap bQ.lent)else s)=s:=by
          cases q:S.shares with
          |false=>rfl
          |true=>rw[nilN k3];rfl
         have k3':(bif S.shares then eK (ts.flatMap bQ.lent)else true)=true:=by simp_all
         have hm:=nilN k4
         obtain⟨d1,d2⟩:=hf.drops ((S.ens.flatMap En.names).map (fun m=>d::m)) (fun n hn=>by
          obtain⟨m,_,rfl⟩:=List.mem_map.1 hn
          exact Nat.beq_refl d)
         unfold mf
         rw[show s.argsOf f .fn xs=some (xs.map s.ev)from rfl]
         dsimp only
         rw[gh,e1]
         dsimp only
         rw[fz]
         unfold mS
         rw[show s.argsOf f .fn xs=some (xs.map s.ev)from rfl]
         dsimp only
         rw[h1]
         simp only[cond_true,gh,e1,k1,k2,k3',Bool.true_and,e2,e3,hm,List.nil_append,d2,e4,o1]
         refine congrArg some (St.ext' (fun i=>?_) fun n=>?_)
         ·rw[cX,cX]
          by_cases q:i=d
          ·rw[if_pos q,if_pos q]
          ·rw[if_neg q,if_neg q]
           exact d1 i q
         ·show(match bD u n with|some ob=>some ob|none=>_)=(match bD u n with|some ob=>some ob|none=>_)
          rw[d2]
        ·have:=List.all_eq_true.1 o3 p hp
         rw[Bool.and_eq_true]at this
         exact⟨gg.1 this.1,fun n=>GK this.2⟩
      ·cases he
     ·cases he
    ·cases he
  ·cases he
def gI (W:WL) (E:aE) (l:List Oper) (o:Oper) (s:St):Option St:=pE W E l [o] s some
def qh (W:WL) (E:aE) (l:List Oper):List Oper→St→Option St
 |[],s=>some s
 |o::r,s=>(gI W E l o s).bind (qh W E l r)
theorem Al (h:IZ E o=true):o.guard=none:=by
 grind [IZ,dU]
theorem Ai (h:LS W o=true):o.guard=none:=by
 grind [LS,dU]
theorem Om (h:Bs W E o=false):IZ E o=false∧LS W o=false:=by
 simp_all [Bs]
theorem Jg (h:IZ E o=true):gI W E l o s=NH W E o s some:=by
 unfold gI
 simp only[pE]
 rw[Al h]
 dsimp only
 unfold JE
 rw[h]
theorem Jf (h:IZ E o=false) (h2:LS W o=true):gI W E l o s=NP W E o s some:=by
 unfold gI
 simp only[pE]
 rw[Ai h2]
 dsimp only
 unfold JE
 rw[h,h2]
theorem xA (h:Bs W E o=false):gI W E l o s=stm false E l o s:=by
 obtain⟨h1,h2⟩:=Om h
 unfold gI stm
 simp only[pE,md]
 cases q:o.guard with
 |none =>
  simp_all [JE]
 |some _=>rfl
theorem Lh{R:Type}(k:St→Option R):NP W E o s k=(NP W E o s some).bind k:=by
 unfold NP
 split
 ·split
  ·rw[qS,Option.bind_none]
   congr 1
   exact tR _
  ·rfl
 ·rfl
theorem zJ{R:Type}:∀{r:List Oper}{s:St}(k:St→Option R),pE W E l r s k=(qh W E l r s).bind k
 |[],s,k=>rfl
 |o::r,s,k=>by
  show _=((gI W E l o s).bind (qh W E l r)).bind k
  have e:pE W E l (o::r) s k=(gI W E l o s).bind (fun s'=>pE W E l r s' k):=by
   unfold gI
   simp only[pE]
   cases q:o.guard with
   |none =>
    grind [JE,IZ,K5,LS,Lh,xU]
   |some _=>dsimp only;exact qq _
  rw[e,Option.bind_assoc]
  exact congrArg _ (funext fun s'=>zJ k)
theorem uY (s:St) (d:Option Nat) (i:Nat) (v:AV):(s.put d v).t i=if d=some i then v else s.t i:=by
 cases d with
 |none=>rfl
 |some d =>
  grind [cX]
theorem Bd (s:St){d t:Nat}(v:AV) (h:t≠d):(s.put (some d) v).t t=s.t t:=by rw[cX,if_neg h]
theorem xK (s:St) (d:Option Nat) (v:AV):(s.put d v).o=s.o:=by cases d<;>rfl
def AU (o:Oper):List Nat:=match o.op with
 | .store _ _ x=>MF x
 |_=>[]
structure Wr (W:WL) (E:aE) (l:List Oper) (o:Oper) (s:St) (d:Option Nat) (v:AV) (ups:List (Nm×Ob)):Prop where
 dst:o.dst=d
 plain:∀n,¬aA v n
 inW:∀p∈ups,p.1∈K7 W o
 src:∀p∈ups, ∀n,cY p.2 n→(∃t∈AU o,t∈it l o∧aA (s.t t) n)∨∃m y,s.o m=some y∧cY y n
 stm:∀s':St,(∀t∈it l o,s'.t t=s.t t)→s'.o=s.o→gI W E l o s'=some ((s'.over ups).put d v)
 stg:∀s':St,(∀t∈it l o,s'.t t=s.t t)→s'.o=s.o→(∀e,d=some e→d7 e s')→stg E l o s'=some ((s'.over ups).put d v)
theorem NI (hk:IZ E o=true) (h:gI W E l o s=some s1):∃d v ups,Wr W E l o s d v ups∧s1=(s.over ups).put d v:=by
 have hg:=Al hk
 rw[Jg hk]at h
 unfold NH at h
 cases hd:o.dst with
 |none=>simp_all
 |some d =>
  rw[hd]at h
  dsimp only at h
  cases hN:Nat.blt d E.N with
  |false=>simp_all
  |true =>
   rw[hN]at h
   dsimp only[cond_true]at h
   split at h
   ·rename_i f args ts hop
    split at h
    ·rename_i S hS
     rw[tA]at h
     obtain⟨⟨v,ups⟩,h1,h2⟩:=Option.bind_eq_some_iff.1 h
     have ops:∀x∈args.toList,x∈o.op.operands:=fun x hx=>by
      simp_all [Op.operands,Call.operands]
     have evs:∀s':St,(∀t∈it l o,s'.t t=s.t t)→args.toList.map s'.ev=args.toList.map s.ev:=fun s' h1=>List.map_congr_left fun x hx=>(px h1 x (ops x hx)).symm
     obtain⟨_,c2,c3⟩:=Dz (f:=f) h1
     refine⟨some d,v,ups,⟨hd,c2,fun p hp=>(c3 p hp).1,fun p hp n hn=>absurd hn ((c3 p hp).2 n),fun s' g1 g2=>?_,fun s' g1 g2 g3=>?_⟩,(Option.some.inj h2).symm⟩
     ·grind [Jg,NH,tA]
     ·grind [lc,o7,Dz]
    ·cases h
   ·cases h
theorem LZ{x:Operand}{n:Nm}(hm:aA (s.ev x) n):∃t,x = .tmp t∧aA (s.t t) n:=by
 cases x with
 |tmp t=>exact⟨t,rfl,hm⟩
 |const v=>exact absurd hm (pc v n)
 |global g=>trivial
 |func f=>trivial
theorem ZN{a off:Nat}{n:Nm}(l:List Oper) (hs:cd o=some a) (hi:s.t a = .c (.pb n off)) (h:o7 E o s some=some s1) :
  ∃ob0 ob,s.o n=some ob0∧s1=s.over [(n,ob)]∧(∀s':St,(∀t∈it l o,s'.t t=s.t t)→s'.o=s.o→o7 E o s' some=some (s'.over [(n,ob)]))∧∀m,cY ob m→cY ob0 m∨∃t∈AU o,t∈it l o∧aA (s.t t) m:=by
 obtain⟨T,x,hd,hop⟩:∃T x,o.dst=none∧o.op = .store T (.tmp a) x:=by
  grind [cd,split]
 have ovr:∀(s2:St) (ob:Ob),s2.setO n ob=s2.over [(n,ob)]:=fun s2 ob=>by
  refine St.ext' (fun _=>rfl) fun m=>?_
  show(bif Nm.eqb m n then some ob else s2.o m)=(match(bif Nm.eqb n m then some ob else none)with|some ob=>some ob|none=>s2.o m)
  by_cases q:m=n
  ·grind
  ·grind [Nm.eqb,bT]
 have form:∀s2:St,s2.t a = .c (.pb n off)→o7 E o s2 some=(match E.τ.get T,fu (s2.ev x)with
   |some ti,some new=>bif (Nat.beq new.length ti.size&&new.all CV.fine)then(match s2.o n with
    |some (.box cs)=>bif Nat.ble (off+new.length) cs.length then some (s2.setO n (.box (yR cs off new)))else none
    |_=>none)else none
   |_,_=>none):=by
  intro s2 h2
  unfold o7
  rw[hop,hd]
  show(match fM E.τ (.store T (.tmp a) x) s2.ev s2.o with
   |some (c,v)=>bif dJ E.N none then(match c with|true=>some (s2.put none v)|false=>none)else none
   |none=>match ng E.τ (.store T (.tmp a) x) none s2 with
    |some (c,s')=>(match c with|true=>some s'|false=>none)
    |none=>none)=_
  have hv:fM E.τ (.store T (.tmp a) x) s2.ev s2.o=none:=rfl
  rw[hv]
  dsimp only
  have hw:ng E.τ (.store T (.tmp a) x) none s2=(match E.τ.get T,s2.ev (.tmp a),fu (s2.ev x)with
   |some ti, .c p,some new=>bif (Nat.beq new.length ti.size&&new.all CV.fine)then(match oO s2.o new p with
    |some (nm,ob)=>some (true,(s2.setO nm ob).put none (.c .dead))
    |none=>none)else none
   |_,_,_=>none):=rfl
  rw[hw,show s2.ev (.tmp a) = .c (.pb n off)from h2]
  cases E.τ.get T with
  |none=>rfl
  |some ti =>
   cases fu (s2.ev x)with
   |none=>rfl
   |some new =>
    dsimp only
    cases(Nat.beq new.length ti.size&&new.all CV.fine)with
    |false=>rfl
    |true =>
     dsimp only[cond_true]
     unfold oO
     dsimp only
     cases s2.o n with
     |none=>rfl
     |some ob =>
      cases ob with
      |box cs =>
       dsimp only
       cases Nat.ble (off+new.length) cs.length<;>rfl
      |_=>rfl
 have hx:x∈o.op.operands:=by rw[hop];simp[Op.operands]
 have hdr:a∈it l o:=List.mem_append_left _ (List.mem_flatMap.2 ⟨.tmp a,by rw[hop];simp[Op.operands],List.mem_singleton.2 rfl⟩)
 rw[form s hi]at h
 cases hT:E.τ.get T with
 |none=>rw[hT]at h;cases h
 |some ti =>
  cases hc:fu (s.ev x)with
  |none=>rw[hT,hc]at h;cases h
  |some new =>
   rw[hT,hc]at h
   dsimp only at h
   cases hf:(Nat.beq new.length ti.size&&new.all CV.fine)with
   |false=>rw[hf]at h;cases h
   |true =>
    rw[hf]at h
    dsimp only[cond_true]at h
    cases ho:s.o n with
    |none=>rw[ho]at h;cases h
    |some ob =>
     rw[ho]at h
     cases ob with
     |box cs =>
      dsimp only at h
      cases hl:Nat.ble (off+new.length) cs.length with
      |false=>rw[hl]at h;cases h
      |true =>
       rw[hl]at h
       refine⟨_, .box (yR cs off new),rfl,(Option.some.inj h).symm.trans (ovr _ _),fun s' h1 h2=>?_,fun m hm=>?_⟩
       ·rw[form s' ((h1 a hdr).trans hi),hT, ←px h1 x hx,hc,h2,ho]
        dsimp only
        rw[hf]
        dsimp only[cond_true]
        rw[hl]
        exact congrArg some (ovr _ _)
       ·rcases Ch hm with hm|hm
        ·exact .inl hm
        ·right
         obtain⟨t,rfl,hm⟩:=LZ (mD hc hm)
         exact⟨t,by unfold AU;rw[hop];exact List.mem_singleton.2 rfl,List.mem_append_left _ (List.mem_flatMap.2 ⟨.tmp t,Array.mem_toList_iff.2 hx,List.mem_singleton.2 rfl⟩),hm⟩
     |_=>cases h
theorem NG (hc:IZ E o=false) (hk:LS W o=true) (h:gI W E l o s=some s1):∃d v ups,Wr W E l o s d v ups∧s1=(s.over ups).put d v:=by
 have hg:=Ai hk
 rw[Jf hc hk]at h
 unfold NP at h
 cases hs:cd o with
 |none=>simp_all
 |some a =>
  have hd:o.dst=none:=by
   grind [cd,split]
  have hra:a∈it l o:=by
   unfold cd at hs
   split at hs
   ·rename_i T x y _ hop
    obtain rfl:=Option.some.inj hs
    exact List.mem_append_left _ (List.mem_flatMap.2 ⟨.tmp x,by rw[hop];simp[Op.operands],List.mem_singleton.2 rfl⟩)
   ·cases hs
  rw[hs]at h
  dsimp only at h
  split at h
  ·rename_i n off hi
   cases hW:lK n (K7 W o)with
   |false=>simp_all
   |true =>
    rw[hW]at h
    obtain⟨ob0,ob,h1,h2,h3,h4⟩:=ZN l hs hi h
    refine⟨none, .c .dead,[(n,ob)],⟨hd,fun m q=>q,fun p hp=>?_,fun p hp m hm=>?_,fun s' g1 g2=>?_,fun s' g1 g2 _=>?_⟩,h2⟩
    ·simp_all [gg]
    ·grind
    ·grind [Jf,NP,IZ,LS,gI,St.over,St.put]
    ·rw[lc hg]
     exact h3 s' g1 g2
  ·cases h
theorem I5 (hk:Bs W E o=true) (h:gI W E l o s=some s1):∃d v ups,Wr W E l o s d v ups∧s1=(s.over ups).put d v:=by
 grind [IZ,NI,Bs,NG]
def pk (W:WL) (E:aE) (o:Oper):Bool := !Bs W E o&&(Nat.beq (ay E o) 0 || Nat.beq (ay E o) 4)
def M5 (o:Oper):Bool:=dU o&&(match o.op with
 | .move _=>true
 | .assign _=>true
 |_=>false)
theorem Jx (h:pk W E o=true):Bs W E o=false:=by
 simp_all [pk,Bs]
theorem Fl (h:pk W E o=true):ay E o=0∨ay E o=4:=by
 simp_all [pk]
structure Pu (W:WL) (E:aE) (l:List Oper) (o:Oper) (s:St) (d:Nat) (v:AV):Prop where
 m:IS false E l o false s d v []
 stm:∀s':St,(∀t∈it l o,s'.t t=s.t t)→(M5 o=false→∀t∈it l o, ∀n,aA (s.t t) n→s'.o n=s.o n)→gI W E l o s'=some (s'.put (some d) v)
theorem Ct{d:Nat}(hk:pk W E o=true) (hd:o.dst=some d) (h:gI W E l o s=some s1):∃v,Pu W E l o s d v∧s1=s.put (some d) v:=by
 have hno:=Jx hk
 have h0:=h
 rw[xA hno]at h
 have hk2:=Fl hk
 have hm:oh false (ay E o)=true:=by rcases hk2 with q|q<;>rw[q]<;>rfl
 obtain⟨v,ups,q,m,m2,m3,_⟩:=gU hd hm h
 obtain⟨rfl,rfl⟩:=m2 (by rcases hk2 with q|q<;>rw[q]<;>decide)
 refine⟨v,⟨m,fun s' h1 h2=>?_⟩,m3⟩
 cases hb:M5 o with
 |false =>
  rw[xA hno]
  exact m.stm s' h1 (h2 hb) (fun q=>by cases q)
 |true =>
  have hg:o.guard=none:=by
   grind [M5,dU]
  obtain⟨x,hx⟩:∃x,o.op = .move x∨o.op = .assign x:=by
   grind [M5,split]
  have hxo:x∈o.op.operands:=by rcases hx with e|e<;>rw[e]<;>simp[Op.operands]
  have hk4:ay E o≠4∧ay E o≠1:=by
   grind [ay,dU,iK]
  have form:∀s2:St,gI W E l o s2=bif dJ E.N (some d)then some (s2.put (some d) (s2.ev x))else none:=fun s2=>by
   rw[xA hno,ml ⟨fun q=>absurd q hk4.2,hk4.1⟩,lc hg]
   unfold o7
   rcases hx with e|e<;>rw[e,hd]<;>rfl
  rw[form s]at h0
  rw[form s']
  cases hN:dJ E.N (some d)with
  |false=>simp_all
  |true =>
   rw[hN]at h0
   have e1:s.put (some d) (s.ev x)=s.put (some d) v:=(Option.some.inj h0).trans m3
   have e2:s.ev x=v:=by
    have:(s.put (some d) (s.ev x)).t d=(s.put (some d) v).t d:=by rw[e1]
    rw[cX,cX,if_pos rfl,if_pos rfl]at this
    exact this
   rw[←px h1 x hxo,e2]
   rfl
def VV (o:Oper):Bool:=dU o&&(match o.op with
 | .load _ _=>true
 |_=>false)
theorem LR{d:Nat}{v:AV}(hk:pk W E o=true) (hl:VV o=true) (hd:o.dst=some d) (h:gI W E l o s=some (s.put (some d) v)){n:Nm}(hm:aA v n):∃m y,s.o m=some y∧cY y n:=by
 have hg:o.guard=none:=by
  grind [VV,dU]
 obtain⟨t,a,hop⟩:∃t a,o.op = .load t a:=by
  grind [VV,split]
 have hv:iK E.τ o=true:=by unfold iK;rw[hop]
 have hk0:ay E o=0:=by
  grind [ay]
 rw[xA (Jx hk),ml ⟨fun q=>absurd (hk0.symm.trans q) (by decide),by rw[hk0];decide⟩,lc hg,I8 hv hd,hop]at h
 have hx:tH E.τ (.load t a) s.ev s.o=fM E.τ (.load t a) s.ev s.o:=by
  unfold tH
  split
  ·simp_all
  ·rename_i e;rw[e];rfl
 rw[hx]at h
 unfold fM at h
 dsimp only at h
 split at h
 ·rename_i c v2 e
  split at e
  ·split at e
   ·rename_i ti p _ hp v3 hl3
    obtain⟨rfl,rfl⟩:=Prod.mk.inj (Option.some.inj e)
    cases hN:Nat.blt d E.N with
    |false=>simp_all
    |true =>
     rw[hN]at h
     have e1:s.put (some d) v3=s.put (some d) v:=Option.some.inj h
     have e2:v3=v:=by
      have:(s.put (some d) v3).t d=(s.put (some d) v).t d:=by rw[e1]
      rw[cX,cX,if_pos rfl,if_pos rfl]at this
      exact this
     rw[←e2]at hm
     obtain⟨m,x,_,h1,h2⟩:=qA hl3 hm
     exact⟨m,x,h1,h2⟩
   ·cases e
  ·cases e
 ·cases h
def y0 (t:Nat) (n:Nm) (T:List (Nat×Nm)):Bool:=T.any fun q=>Nat.beq q.1 t&&Nm.eqb q.2 n
theorem yb{t:Nat}{n:Nm}{T:List (Nat×Nm)}:y0 t n T=true↔(t,n)∈T:=by
 simp_all [y0,bT]
theorem Bm{t:Nat}{n:Nm}{T:List (Nat×Nm)}(h:(!y0 t n T)=true):(t,n)∉T:=fun q=>by grind [yb]
def clear (ns:List Nm) (T:List (Nat×Nm)) (l:List Oper) (o:Oper):Bool:=M5 o || (it l o).all fun t=>ns.all fun n => !y0 t n T
def Og (d:Option Nat) (l:List Nat):Bool:=match d with
 |some d => !aU d l
 |none=>true
def VY:Option Nat→Option Nat→Bool
 |some d,some e => !Nat.beq d e
 |_,_=>true
def CE (E:aE) (l:List Oper) (W:WL) (T:List (Nat×Nm)) (rs:List (List Nat)) (i j:Nat):Bool:=match l[i]?,l[j]? with
 |some a,some b=>aU i (rs.getD j []) || (Og a.dst (it l b)&&(VY a.dst b.dst&&(Og b.dst (it l a)&&((pk W E a&&pk W E b) || ((pk W E a&&(Bs W E b&&clear (K7 W b) T l a)) || (Bs W E a&&(pk W E b&&clear (K7 W a) T l b)))))))
 |_,_=>false
def PX (E:aE) (l:List Oper) (W:WL) (T:List (Nat×Nm)) (rs:List (List Nat)) (i:Nat):Bool:=match l[i]? with
 |none=>false
 |some o=>(Bs W E o || pk W E o)&&((List.range l.length).all (fun j=>Nat.beq j i || (match l[j]? with
    |some p => !Bs W E p || (match p.dst with
     |some e=>(aU j (rs.getD i []) || !aU e (it l o))&&(VY o.dst (some e)&&(tG W).all (fun n => !cq e n))
     |none=>true)
    |none=>true))&&(match o.dst with
   |some d=>(Bs W E o || (VV o || (it l o).all (fun t=>(tG W).all fun n => !y0 t n T || y0 d n T)))&&(tG W).all (fun n => !cq d n)
   |none=>Bs W E o)&&(AU o).all (fun t=>(tG W).all fun n => !y0 t n T))
def Af (W:WL) (E:aE) (l:List Oper) (rs:List (List Nat)) (j:Nat):Bool:=(match l[j]? with
 |some o => !Bs W E o && !Nat.beq (ay E o) 4
 |none=>false)&&(List.range l.length).all (fun x=>Nat.beq x j || aU x (rs.getD j []))
structure DH (E:aE) (W:WL) (T:List (Nat×Nm)) (l:List Oper) (L:List Nat) (s:St):Prop where
 fr:∀j∈L, ∀o d,l[j]?=some o→Bs W E o=true→o.dst=some d→d7 d s
 sl:L≠[]→∀t, ∀n∈tG W,(t,n)∉T→¬aA (s.t t) n
 ob:L≠[]→∀m x,s.o m=some x→∀n∈tG W,¬cY x n
theorem Lf{a b:Oper}{da db:Nat}{va vb:AV}(ha:Pu W E l a s da va) (hb:Pu W E l b (s.put (some da) va) db vb) (hne:da≠db) (h1:da∉it l b) (h2:db∉it l a) :
  gI W E l b s=some (s.put (some db) vb)∧gI W E l a (s.put (some db) vb)=some ((s.put (some da) va).put (some db) vb):=by
 refine⟨hb.stm s (fun t ht=>(Bd s va (t:=t) (fun q:t=da=>h1 (q▸ht))).symm) (fun _ _ _ _ _=>rfl),?_⟩
 rw[ha.stm (s.put (some db) vb) (fun t ht=>Bd s vb (fun q=>h2 (q▸ht))) (fun _ _ _ _ _=>rfl)]
 refine congrArg some (St.ext' (fun i=>?_) fun n=>rfl)
 rw[cX,cX,cX,cX]
 by_cases q:i=da
 ·rw[if_pos q,if_neg (fun q2=>hne (q.symm.trans q2)),if_pos q]
 ·rw[if_neg q,if_neg q]
theorem CG (s:St) (ups:List (Nm×Ob)) (da:Nat) (va:AV) (db:Option Nat) (vb:AV) (h:db≠some da):(((s.put (some da) va).over ups).put db vb)=(((s.over ups).put db vb).put (some da) va):=by
 refine St.ext' (fun i=>?_) fun n=>?_
 ·rw[uY,cX,uY]
  show(if db=some i then vb else(s.put (some da) va).t i)=_
  rw[cX]
  by_cases q:i=da
  ·simp_all
  ·rw[if_neg q,if_neg q];rfl
 ·grind [xK,St.put,St.over]
theorem Le{a b:Oper}{da:Nat}{db:Option Nat}{va vb:AV}{ub:List (Nm×Ob)}(ha:Pu W E l a s da va) (hb:Wr W E l b (s.put (some da) va) db vb ub) (hne:db≠some da) (h1:da∉it l b) (h2:∀e,db=some e→e∉it l a) (hc:M5 a=false→∀t∈it l a, ∀n∈K7 W b,¬aA (s.t t) n) :
  gI W E l b s=some ((s.over ub).put db vb)∧gI W E l a ((s.over ub).put db vb)=some (((s.put (some da) va).over ub).put db vb):=by
 refine⟨hb.stm s (fun t ht=>(Bd s va (t:=t) (fun q:t=da=>h1 (q▸ht))).symm) rfl,?_⟩
 rw[ha.stm ((s.over ub).put db vb) (fun t ht=>by rw[uY,if_neg (fun e=>h2 t e ht)];rfl) (fun hm t ht n hn=>by
  rw[xK]
  exact(ja (s:=s) (d:=0) (v := .c .dead) (n:=n) (fun p hp e=>hc hm t ht n (e▸hb.inW p hp) hn)).2),CG s ub da va db vb hne]
theorem Ld{a b:Oper}{da:Option Nat}{db:Nat}{va vb:AV}{ua:List (Nm×Ob)}(ha:Wr W E l a s da va ua) (hb:Pu W E l b ((s.over ua).put da va) db vb) (hne:da≠some db) (h1:∀e,da=some e→e∉it l b) (h2:db∉it l a) (hc:M5 b=false→∀t∈it l b, ∀n∈K7 W a,¬aA (s.t t) n) :
  gI W E l b s=some (s.put (some db) vb)∧gI W E l a (s.put (some db) vb)=some (((s.over ua).put da va).put (some db) vb):=by
 have st:∀t∈it l b,((s.over ua).put da va).t t=s.t t:=fun t ht=>by rw[uY,if_neg (fun e=>h1 t e ht)];rfl
 refine⟨hb.stm s (fun t ht=>(st t ht).symm) (fun hm t ht n hn=>?_),?_⟩
 ·rw[st t ht]at hn
  rw[xK]
  exact(ja (s:=s) (d:=0) (v := .c .dead) (n:=n) (fun p hp e=>hc hm t ht n (e▸ha.inW p hp) hn)).2.symm
 rw[ha.stm (s.put (some db) vb) (fun t ht=>Bd s vb (fun q=>h2 (q▸ht))) rfl,CG s ua db vb da va hne]
theorem Dx{ns:List Nm}(h:clear ns T l o=true) (hm:M5 o=false){t:Nat}(ht:t∈it l o){n:Nm}(hn:n∈ns):(t,n)∉T:=by
 simp_all [clear,Bm]
theorem Fv{d:Option Nat}{l:List Nat}(h:Og d l=true):∀e,d=some e→e∉l:=fun e he=>by
 subst he
 exact bf h
theorem BG{a b:Option Nat}(h:VY a b=true){e:Nat}(ha:a=some e):b≠some e:=fun hb=>by
 simp_all [VY]
theorem P8{L:List Nat}{sa sb:St}{i j:Nat}{a b:Oper}(hI:DH E W T l L s) (hi:i∈L) (ha:l[i]?=some a) (hb:l[j]?=some b) (hda:pk W E a=true→∃d,a.dst=some d) (hdb:pk W E b=true→∃d,b.dst=some d) (hfree:∀x∈L,aU x ((aT l []).getD j [])=false) (hp:CE E l W T (aT l []) i j=true) (g1:gI W E l a s=some sa) (g2:gI W E l b sa=some sb) :
  ∃s1,gI W E l b s=some s1∧gI W E l a s1=some sb:=by
 unfold CE at hp
 rw[ha,hb]at hp
 dsimp only at hp
 rw[hfree i hi,Bool.false_or,Bool.and_eq_true,Bool.and_eq_true,Bool.and_eq_true,Bool.or_eq_true,Bool.or_eq_true]at hp
 obtain⟨n1,n2,n3,hp⟩:=hp
 have n1:=Fv n1
 have n3:=Fv n3
 rcases hp with hp|hp|hp
 ·rw[Bool.and_eq_true]at hp
  obtain⟨da,hda⟩:=hda hp.1
  obtain⟨db,hdb⟩:=hdb hp.2
  obtain⟨va,ma,rfl⟩:=Ct hp.1 hda g1
  obtain⟨vb,mb,rfl⟩:=Ct hp.2 hdb g2
  exact⟨_,Lf ma mb (fun q=>BG n2 hda (q▸hdb)) (n1 da hda) (n3 db hdb)⟩
 ·rw[Bool.and_eq_true,Bool.and_eq_true]at hp
  obtain⟨da,hda⟩:=hda hp.1
  obtain⟨va,ma,rfl⟩:=Ct hp.1 hda g1
  obtain⟨db,vb,ub,mb,rfl⟩:=I5 hp.2.1 g2
  exact⟨_,Le ma mb (fun q=>BG n2 hda (mb.dst.trans q)) (n1 da hda) (fun e he=>n3 e (mb.dst.trans he)) fun hm t ht n hn=>hI.sl (List.ne_nil_of_mem hi) t n (AT hn) (Dx hp.2.2 hm ht hn)⟩
 ·rw[Bool.and_eq_true,Bool.and_eq_true]at hp
  obtain⟨da,va,ua,ma,rfl⟩:=I5 hp.1 g1
  obtain⟨db,hdb⟩:=hdb hp.2.1
  obtain⟨vb,mb,rfl⟩:=Ct hp.2.1 hdb g2
  exact⟨_,Ld ma mb (fun q=>BG n2 (ma.dst.trans q) hdb) (fun e he=>n1 e (ma.dst.trans he)) (n3 db hdb) fun hm t ht n hn=>hI.sl (List.ne_nil_of_mem hi) t n (AT hn) (Dx hp.2.2 hm ht hn)⟩
theorem Ef (h:pk W E o=true):∃d,o.dst=some d:=by
 grind [Fl,ay,dU,split,first,pk]
theorem Rq{L L':List Nat}{i:Nat}(hI:DH E W T l L s) (hi:i∈L) (ho:l[i]?=some o) (hok:PX E l W T (aT l []) i=true) (hfree:∀a∈L,aU a ((aT l []).getD i [])=false) (hlt:∀j∈L,j<l.length) (hL:∀j∈L',j∈L∧j≠i) (hs:gI W E l o s=some s1):stg E l o s=some s1∧DH E W T l L' s1:=by
 have hsl:=hI.sl (List.ne_nil_of_mem hi)
 have hob:=hI.ob (List.ne_nil_of_mem hi)
 unfold PX at hok
 rw[ho]at hok
 dsimp only at hok
 have hok1:=(Bool.and_eq_true _ _).mp hok
 have hk:=(Bool.or_eq_true _ _).mp hok1.1
 have hok2:=(Bool.and_eq_true _ _).mp hok1.2
 have hvs:=hok2.2
 have hok3:=(Bool.and_eq_true _ _).mp hok2.1
 have hj:=hok3.1
 have ht:=hok3.2
 have other:∀j∈L', ∀p e,l[j]?=some p→Bs W E p=true→p.dst=some e→o.dst≠some e∧e∉it l o∧∀n∈tG W,cq e n=false:=by
  grind [dR,BG,bf,cq]
 rcases hk with hw|hp
 ·obtain⟨d,v,ups,m,rfl⟩:=I5 hw hs
  refine⟨m.stg s (fun _ _=>rfl) rfl (fun e he=>hI.fr i hi o e ho hw (m.dst.trans he)),fun j hj' p e hp hwp he=>?_,fun _ t n hn htT hm=>?_,fun _ k x hx n hn hm=>?_⟩
  ·obtain⟨hne,hr,hWe⟩:=other j hj' p e hp hwp he
   have hf:=hI.fr j (hL j hj').1 p e hp hwp he
   refine⟨fun t ht n hn h=>?_,fun k x hx=>?_⟩
   ·rw[uY]at h
    by_cases q:d=some t
    ·rw[if_pos q]at h;exact m.plain n h
    ·rw[if_neg q]at h;exact hf.1 t ht n hn h
   ·rw[xK]at hx
    rcases sG s ups 0 (.c .dead) (n:=k) (x:=x) hx with h|⟨_,h⟩
    ·refine⟨hWe _ (AT (m.inW _ h)),fun n hn h2=>?_⟩
     rcases m.src _ h n h2 with⟨t,_,ht,h3⟩|⟨k2,y,h3,h4⟩
     ·exact hf.1 t (fun q=>hr (q▸ht)) n hn h3
     ·exact(hf.2 k2 y h3).2 n hn h4
    ·exact hf.2 k x h
  ·rw[uY]at hm
   by_cases q:d=some t
   ·rw[if_pos q]at hm;exact m.plain n hm
   ·rw[if_neg q]at hm;exact hsl t n hn htT hm
  ·rw[xK]at hx
   rcases sG s ups 0 (.c .dead) (n:=k) (x:=x) hx with h|⟨_,h⟩
   ·rcases m.src _ h n hm with⟨t,ht,_,h3⟩|⟨k2,y,h3,h4⟩
    ·grind [Bm]
    ·grind
   ·grind
 ·obtain⟨d,hd⟩:=Ef hp
  obtain⟨v,m,rfl⟩:=Ct hp hd hs
  rw[hd]at ht
  dsimp only at ht
  rw[Bool.and_eq_true,Jx hp,Bool.false_or,Bool.or_eq_true]at ht
  have hWd:∀n∈tG W,cq d n=false:=fun n hn=>by
   simp_all
  refine⟨m.m.m.step s (fun _ _=>rfl) (fun _ _ _ _=>rfl) (fun q=>by cases q),fun j hj' p e hpj hwp he=>?_,fun _ t n hn htT hm=>?_,fun _ k x hx n hn hm=>?_⟩
  ·obtain⟨hne,hr,_⟩:=other j hj' p e hpj hwp he
   exact uj m.m (fun q=>hne (q▸hd)) hr (hI.fr j (hL j hj').1 p e hpj hwp he)
  ·rw[cX]at hm
   by_cases q:t=d
   ·rw[if_pos q]at hm
    subst q
    rcases ht.1 with hc|hc
    ·grind [LR]
    ·rcases m.m.m.ment n (.inl hm)with h|⟨u,hu,h⟩|⟨u,hu,k,y,g1,g2,g3⟩
     ·simp_all
     ·grind [Bm,yb]
     ·grind
   ·simp_all
  ·exact hob k x hx n hn hm
structure wh (E:aE) (W:WL) (T:List (Nat×Nm)) (l:List Oper) (L:List Nat):Prop where
 nd:L.Nodup
 lt:∀j∈L,j<l.length
 pr:dD (CE E l W T (aT l [])) L=true
 or:dD (CI l) L=true
 ok:∀j∈L,(PX E l W T (aT l []) j || Af W E l (aT l []) j)=true
 down:∀j o,j∉L→l[j]?=some o→∀a∈bH o,a∉L
theorem wh.del{pre post:List Nat}{i:Nat}(h:wh E W T l (pre++i::post)) (hfree:∀o,l[i]?=some o→∀a∈bH o,a∉pre++i::post):wh E W T l (pre++post)∧(∀j,j∈pre++post↔j∈pre++i::post∧j≠i):=by
 have mem:∀j,j∈pre++post↔j∈pre++i::post∧j≠i:=by
  have hnd:=(List.perm_middle (a:=i) (l₁:=pre) (l₂:=post)).nodup_iff.1 h.nd
  have hi:=(List.nodup_cons.1 hnd).1
  intro j
  rw[List.mem_append,List.mem_append,List.mem_cons]
  constructor
  ·grind
  ·grind
 refine⟨⟨?_,fun j hj=>h.lt j ((mem j).1 hj).1,(eY h.pr).1,(eY h.or).1,fun j hj=>h.ok j ((mem j).1 hj).1,fun j o hj ho a ha q=>?_⟩,mem⟩
 ·have hnd:=(List.perm_middle (a:=i) (l₁:=pre) (l₂:=post)).nodup_iff.1 h.nd
  exact(List.nodup_cons.1 hnd).2
 ·have q:=((mem a).1 q).1
  by_cases e:j=i
  ·simp_all
  ·exact h.down j o (fun w=>hj ((mem j).2 ⟨w,e⟩)) ho a ha q
theorem wh.reach{L:List Nat}(h:wh E W T l L){i:Nat}{o:Oper}(ho:l[i]?=some o) (hfree:∀a∈bH o,a∉L):∀x∈L,aU x ((aT l []).getD i [])=false:=by
 intro x hx
 cases q:aU x ((aT l []).getD i [])with
 |false=>rfl
 |true=>exact absurd hx (oX (l:=l) (D:=fun j=>j∉L) h.down i ho hfree (dr.1 q))
theorem wh.head{L:List Nat}{i:Nat}{o:Oper}(h:wh E W T l (i::L)) (ho:l[i]?=some o) (hna:i∉bH o):∀a∈bH o,a∉i::L:=by
 intro a ha hm
 rcases List.mem_cons.1 hm with rfl|hm
 ·exact hna ha
 ·have:=(eY (pre:=[]) h.or).2.2 a hm
  unfold CI at this
  rw[ho]at this
  exact bf this ha
theorem Ae{i x:Nat}(h:Af W E l (aT l []) i=true) (hx:x<l.length) (hne:x≠i):aU x ((aT l []).getD i [])=true:=by
 grind [Af,dR]
theorem wh.okx{L:List Nat}(h:wh E W T l L){i x:Nat}(hi:i∈L) (hx:x∈L) (hne:x≠i) (hf:∀y∈L,aU y ((aT l []).getD i [])=false):PX E l W T (aT l []) i=true:=by
 have:=h.ok i hi
 rw[Bool.or_eq_true]at this
 rcases this with q|q
 ·exact q
 ·have:=Ae q (h.lt x hx) hne
  rw[hf x hx]at this
  cases this
theorem FU (hself:∀j o,l[j]?=some o→j∉bH o){post:List Nat}{i:Nat}{b:Oper}(hb:l[i]?=some b):∀{pre:List Nat}{s y:St},wh E W T l (pre++i::post)→DH E W T l (pre++i::post) s→(∀a∈bH b,a∉pre++i::post) →
  qh W E l (cr l (pre++i::post)) s=some y→qh W E l (cr l (i::(pre++post))) s=some y
 |[],s,y,_,_,_,h=>h
 |x::pre,s,y,ho,hI,hf,h=>by
  obtain⟨a,ha⟩:∃a,l[x]?=some a:=⟨_,List.getElem?_eq_getElem (ho.lt x (List.mem_cons_self ..))⟩
  rw[List.cons_append,cy l ha]at h
  have h:(gI W E l a s).bind (qh W E l (cr l (pre++i::post)))=some y:=h
  obtain⟨sa,g1,g2⟩:=Option.bind_eq_some_iff.1 h
  have hfa:=ho.head ha (hself x a ha)
  obtain⟨o2,mem2⟩:=wh.del (pre:=[]) ho (fun o e=>by rw[ha]at e;obtain rfl:=Option.some.inj e;exact hfa)
  have hI2:DH E W T l (pre++i::post) sa :=
   (Rq hI (List.mem_cons_self ..) ha (ho.okx (List.mem_cons_self ..) (x:=i) (List.mem_append_right _ (List.mem_cons_self ..)) (fun e=>(List.nodup_cons.1 ho.nd).1 (by rw[←e];exact List.mem_append_right _ (List.mem_cons_self ..))) (ho.reach ha hfa)) (ho.reach ha hfa) ho.lt (fun j hj=>(mem2 j).1 hj) g1).2
  have h3:=FU hself hb (pre:=pre) o2 hI2 (fun a ha q=>hf a ha (List.mem_cons_of_mem _ q)) g2
  rw[cy l hb]at h3
  have h3:(gI W E l b sa).bind (qh W E l (cr l (pre++post)))=some y:=h3
  obtain⟨sb,g4,g5⟩:=Option.bind_eq_some_iff.1 h3
  have him:i∈(x::pre)++i::post:=List.mem_append_right _ (List.mem_cons_self ..)
  obtain⟨s1,g6,g7⟩:=P8 hI (List.mem_cons_self ..) ha hb Ef Ef (ho.reach hb hf) ((eY (pre:=x::pre) ho.pr).2.1 x (List.mem_cons_self ..)) g1 g4
  rw[cy l hb,List.cons_append,cy l ha]
  show(gI W E l b s).bind (fun t=>(gI W E l a t).bind (qh W E l (cr l (pre++post))))=some y
  rw[g6,Option.bind_some,g7,Option.bind_some]
  exact g5
theorem M8 (hself:∀j o,l[j]?=some o→j∉bH o):∀(n:Nat) (rem L:List Nat) (s y:St),wh E W T l L→(∀i,i∈L↔i∈rem)→L.length=n→DH E W T l L s→qh W E l (cr l L) s=some y→∀π∈ku l n rem,xF E l (cr l π) s=some y
 |0,rem,L,s,y,_,_,hl,_,h,π,hπ=>by
  simp_all [bH,qh,cr,ku,xF]
 |n+1,rem,L,s,y,ho,hm,hl,hI,h,π,hπ=>by
  obtain⟨i,hi,hπ⟩:=List.mem_flatMap.1 hπ
  cases hf:eO l rem i with
  |false=>simp_all
  |true =>
   rw[hf]at hπ
   obtain⟨π',hπ',rfl⟩:=List.mem_map.1 hπ
   obtain⟨pre,post,rfl⟩:=List.append_of_mem ((hm i).2 hi)
   obtain⟨b,hb⟩:∃b,l[i]?=some b:=⟨_,List.getElem?_eq_getElem (ho.lt i ((hm i).2 hi))⟩
   have hfr:∀a∈bH b,a∉pre++i::post:=fun a ha q=>by
    simp_all [eO,bf]
   have h2:=FU hself hb ho hI hfr h
   rw[cy l hb]at h2
   have h2:(gI W E l b s).bind (qh W E l (cr l (pre++post)))=some y:=h2
   obtain⟨s1,g1,g2⟩:=Option.bind_eq_some_iff.1 h2
   obtain⟨o2,mem2⟩:=wh.del ho (fun o e=>by rw[hb]at e;obtain rfl:=Option.some.inj e;exact hfr)
   have him:i∈pre++i::post:=List.mem_append_right _ (List.mem_cons_self ..)
   have both:stg E l b s=some s1∧DH E W T l (pre++post) s1:=by
    have hq:=ho.ok i him
    rw[Bool.or_eq_true]at hq
    rcases hq with hq|hq
    ·exact Rq hI him hb hq (ho.reach hb hfr) ho.lt (fun j hj=>(mem2 j).1 hj) g1
    ·have hn:∀j,j∉pre++post:=fun j hj=>by
      obtain⟨q1,q2⟩:=(mem2 j).1 hj
      have:=Ae hq (ho.lt j q1) q2
      rw[ho.reach hb hfr j q1]at this
      cases this
     have hk:Bs W E b=false∧ay E b≠4:=by
      unfold Af at hq
      rw[hb]at hq
      dsimp only at hq
      rw[Bool.and_eq_true,Bool.and_eq_true]at hq
      refine⟨?_,fun e=>?_⟩
      ·simp_all
      ·simp_all
     rw[xA hk.1,ml ⟨fun _=>rfl,hk.2⟩]at g1
     have nil:pre++post=[]:=List.eq_nil_iff_forall_not_mem.2 hn
     exact⟨g1,⟨fun j hj=>absurd hj (hn j),fun q=>absurd nil q,fun q=>absurd nil q⟩⟩
   have ih:=M8 hself n (d9 i rem) (pre++post) s1 y o2 (fun j=>by rw[mem2,fj,hm]) (by simp at hl ⊢;omega) both.2 g2 π' hπ'
   rw[cy l hb]
   show(stg E l b s).bind (xF E l (cr l π'))=some y
   rw[both.1,Option.bind_some]
   exact ih
end
def A5 (E:aE) (l:List Oper) (W:WL) (T:List (Nat×Nm)) (L:List Nat) (vs:List (Nat×AV)) (bs:List (Nm×Ob)):Bool :=
 L.all (fun i=>match l[i]? with
  |some o => !Bs W E o || (match o.dst with|some d=>BB d vs bs|none=>true)
  |none=>true)&&(vs.all (fun q=>(tG W).all fun n=>y0 q.1 n T || !zW (Nm.eqb n) q.2)&&bs.all (fun q => !C3 (fun n=>lK n (tG W)) q.2))
theorem Gw{E:aE}{l:List Oper}{W:WL}{T:List (Nat×Nm)}{L:List Nat}{es:List En}{ds:List DV}(h:A5 E l W T L (cW es ds) (fm es ds)=true):DH E W T l L (G2 es ds):=by
 unfold A5 at h
 rw[Bool.and_eq_true,Bool.and_eq_true]at h
 obtain⟨h1,h2,h3⟩:=h
 refine⟨fun i hi o d ho hw hd=>?_,fun _ t n hn ht hm=>?_,fun _ m x hx n hn hm=>?_⟩
 ·grind [Av]
 ·have hm:aA (d5 (cW es ds) t) n:=hm
  rcases tZ (vs:=cW es ds) (t:=t)with q|⟨q,hq,g1,g2⟩
  ·rw[q]at hm;exact hm
  ·grind [yb,not_true,tW,Nm.eqb,bT]
 ·have:=List.all_eq_true.1 h3 (m,x) (iN hx)
  exact not_true this (tX (p:=fun n=>lK n (tG W)) (gg.2 hn) hm)
theorem Is{R:Type}{E:aE}{l:List Oper}(W:WL) (T:List (Nat×Nm)) (L:List Nat) (hb:(L.all (fun i=>Nat.blt i l.length)&&(List.range l.length).all (fun i=>aU i L))=true) (hnd:L.Nodup) (ha:pI l=true)
  (hp:dD (CE E l W T (aT l [])) L=true) (ho:dD (CI l) L=true) (hok:L.all (fun j=>PX E l W T (aT l []) j || Af W E l (aT l []) j)=true){es:List En}{x:TD (be es)}(hs:A5 E l W T L (cW es (ai _ x)) (fm es (ai _ x))=true)
  {k:St→Option R}{y:R}(h:pE W E l (cr l L) (eN es x) k=some y):∀π∈BC l,cF E l (cr l π) (eN es x) k=some y:=by
 rw[Bool.and_eq_true]at hb
 have hm:∀i,i∈L↔i∈List.range l.length:=fun i=>⟨fun hi=>List.mem_range.2 (Nat.le_of_ble_eq_true (List.all_eq_true.1 hb.1 i hi)),fun hi=>dr.1 (List.all_eq_true.1 hb.2 i hi)⟩
 have hlen:L.length=l.length:=by
  have:L.Perm (List.range l.length):=(List.perm_ext_iff_of_nodup hnd List.nodup_range).2 hm
  rw[this.length_eq,List.length_range]
 have hself:∀j o,l[j]?=some o→j∉bH o:=fun j o hj q=>by
  have:=BQ ha j o hj j q
  omega
 rw[zJ]at h
 obtain⟨s1,h1,h2⟩:=Option.bind_eq_some_iff.1 h
 intro π hπ
 have:=M8 hself l.length (List.range l.length) L (eN es x) s1 ⟨hnd,fun j hj=>List.mem_range.1 ((hm j).1 hj),hp,ho,fun j hj=>List.all_eq_true.1 hok j hj,fun j o hj hjo a ha2 q=>by
  have:j<l.length:=(List.getElem?_eq_some_iff.1 hjo).1
  exact hj ((hm j).2 (List.mem_range.2 this))⟩ hm hlen (Gw hs) h1 π hπ
 rw[rr,this]
 exact h2
def NM (E:aE) (l:List Oper) (i j:Nat):Bool:=match l[i]?,l[j]? with
 |some a,some b=>(match a.dst,b.dst with
  |some d,some e=>oh false (ay E a)&&(oh false (ay E b)&&(!aU d (it l b)&&(!Nat.beq d e && !aU e (it l a))))
  |_,_=>false)
 |_,_=>false
def Dq (E:aE) (l:List Oper):Nat→Option Nat→List Nat→List (List Nat)
 |0,_,_=>[[]]
 |n+1,last,rem=>rem.flatMap fun i=>bif eO l rem i && !(match last with|some j=>Nat.blt i j&&NM E l j i|none=>false)then(Dq E l n (some i) (d9 i rem)).map (fun π=>i::π)else []
section
variable{E:aE}{l:List Oper}
theorem Dp:∀(n:Nat) (last:Option Nat) (rem π:List Nat),π∈ku l n rem→(∀j,last=some j→∀i r,π=i::r→(Nat.blt i j&&NM E l j i)=false) →
  π∈Dq E l n last rem∨∃pre i j post,π=pre++i::j::post∧j<i∧NM E l i j=true
 |0,last,rem,π,h,_ => .inl h
 |n+1,last,rem,π,h,hl=>by
  obtain⟨i,hi,hπ⟩:=List.mem_flatMap.1 h
  cases hf:eO l rem i with
  |false=>simp_all
  |true =>
   rw[hf]at hπ
   obtain⟨π',hπ',rfl⟩:=List.mem_map.1 hπ
   by_cases hd:∃j r,π'=j::r∧(Nat.blt j i&&NM E l i j)=true
   ·obtain⟨j,r,rfl,q⟩:=hd
    rw[Bool.and_eq_true]at q
    exact .inr ⟨[],i,j,r,rfl,Nat.le_of_ble_eq_true q.1,q.2⟩
   ·rcases Dp n (some i) (d9 i rem) π' hπ' (fun j hj i' r hr=>by
     obtain rfl:=Option.some.inj hj
     cases q:(Nat.blt i' i&&NM E l i i')with
     |false=>rfl
     |true=>exact absurd ⟨i',r,hr,q⟩ hd)with g|⟨pre,a,b,post,rfl,g1,g2⟩
    ·grind [ku,Dq]
    ·grind
theorem Cq (i j:Nat) (rem:List Nat):d9 i (d9 j rem)=d9 j (d9 i rem):=by
 simp_all [d9,List.filter_filter,Bool.and_comm]
theorem yt (ha:PT l):∀(pre:List Nat){n:Nat}{rem:List Nat}{i j:Nat}{post:List Nat},pre++i::j::post∈ku l n rem→j<i→(∃b,l[j]?=some b)→pre++j::i::post∈ku l n rem
 |[],0,rem,i,j,post,h,_,_=>by trivial
 |[],1,rem,i,j,post,h,_,_=>by
  obtain⟨x,hx,hπ⟩:=List.mem_flatMap.1 h
  cases hf:eO l rem x with
  |false=>simp_all
  |true =>
   simp_all [PT,ku]
 |[],n+2,rem,i,j,post,h,hij,⟨b,hb⟩=>by
  obtain⟨x,hx,hπ⟩:=List.mem_flatMap.1 h
  cases hf:eO l rem x with
  |false=>simp_all
  |true =>
   rw[hf]at hπ
   obtain⟨π',hπ',e⟩:=List.mem_map.1 hπ
   injection e with e1 e2
   subst e1;subst e2
   obtain⟨y,hy,hπ2⟩:=List.mem_flatMap.1 hπ'
   cases hf2:eO l (d9 x rem) y with
   |false=>simp_all
   |true =>
    rw[hf2]at hπ2
    obtain⟨π2,hπ3,e⟩:=List.mem_map.1 hπ2
    injection e with e1 e2
    subst e1;subst e2
    have hy':=fj.1 hy
    have fy:eO l rem y=true:=by
     grind [eO,aU,d9,dr,fj,PT,ku]
    have fx:eO l (d9 y rem) x=true:=by
     grind [eO,aU,d9,dr,fj]
    refine List.mem_flatMap.2 ⟨y,hy'.1,?_⟩
    rw[fy]
    refine List.mem_map.2 ⟨x::π2,List.mem_flatMap.2 ⟨x,fj.2 ⟨hx,by omega⟩,?_⟩,rfl⟩
    rw[fx]
    refine List.mem_map.2 ⟨π2,?_,rfl⟩
    rw[Cq]
    exact hπ3
 |p::pre,0,rem,i,j,post,h,_,_=>by trivial
 |p::pre,n+1,rem,i,j,post,h,hij,hb=>by
  obtain⟨x,hx,hπ⟩:=List.mem_flatMap.1 h
  refine List.mem_flatMap.2 ⟨x,hx,?_⟩
  cases hf:eO l rem x with
  |false=>simp_all
  |true =>
   rw[hf]at hπ
   obtain⟨π',hπ',e⟩:=List.mem_map.1 hπ
   injection e with e1 e2
   subst e1;subst e2
   exact List.mem_map.2 ⟨_,yt ha pre hπ' hij hb,rfl⟩
theorem zw{i j:Nat}(hs:NM E l i j=true){post:List Nat}{y:St}:∀{pre:List Nat}{s:St},(∀x∈pre, ∃o,l[x]?=some o)→n8 false E l (cr l (pre++j::i::post)) s=some y→n8 false E l (cr l (pre++i::j::post)) s=some y
 |[],s,_,h=>by
  unfold NM at hs
  cases hi:l[i]? with
  |none=>simp_all
  |some a =>
   cases hj:l[j]? with
   |none=>simp_all
   |some b =>
    rw[hi,hj]at hs
    dsimp only at hs
    cases hda:a.dst with
    |none=>simp_all
    |some d =>
     cases hdb:b.dst with
     |none=>simp_all
     |some e =>
      rw[hda,hdb]at hs
      dsimp only at hs
      rw[Bool.and_eq_true,Bool.and_eq_true,Bool.and_eq_true,Bool.and_eq_true]at hs
      obtain⟨k1,k2,n1,n2,n3⟩:=hs
      rw[List.nil_append,cy l hj,cy l hi]at h
      rw[List.nil_append,cy l hi,cy l hj]
      have h:(stm false E l b s).bind (fun t=>(stm false E l a t).bind (n8 false E l (cr l post)))=some y:=h
      show(stm false E l a s).bind (fun t=>(stm false E l b t).bind (n8 false E l (cr l post)))=some y
      obtain⟨sb,g1,h⟩:=Option.bind_eq_some_iff.1 h
      obtain⟨sa,g2,h⟩:=Option.bind_eq_some_iff.1 h
      obtain⟨vb,ub,qb,mb,mb2,rfl,_⟩:=gU hdb k2 g1
      obtain⟨va,ua,qa,ma,ma2,rfl,_⟩:=gU hda k1 g2
      have no1:∀{k:Nat},oh false k=true→k≠1:=fun h q=>by rw[q]at h;cases h
      obtain⟨x1,x2⟩:=ma2 (no1 k1)
      obtain⟨y1,y2⟩:=mb2 (no1 k2)
      obtain⟨e1,e2⟩:=Fb mb ma (Ne.symm (mT n2)) (bf n3) (bf n1) (.inl ⟨y2,x2,y1,x1⟩)
      rw[e1,Option.bind_some,e2,Option.bind_some]
      exact h
 |x::pre,s,hp,h=>by
  obtain⟨o,ho⟩:=hp x (List.mem_cons_self ..)
  rw[List.cons_append,cy l ho]at h ⊢
  have h:(stm false E l o s).bind (n8 false E l (cr l (pre++j::i::post)))=some y:=h
  show(stm false E l o s).bind (n8 false E l (cr l (pre++i::j::post)))=some y
  obtain⟨s1,g1,g2⟩:=Option.bind_eq_some_iff.1 h
  rw[g1,Option.bind_some]
  exact zw hs (fun z hz=>hp z (List.mem_cons_of_mem _ hz)) g2
def wt:List Nat→Nat
 |[]=>0
 |x::r=>x*(r.length+1)+wt r
theorem E3{i j:Nat}(h:j<i){post:List Nat}:∀(pre:List Nat),wt (pre++j::i::post)<wt (pre++i::j::post)
 |[]=>by
  grind [wt]
 |x::pre=>by
  have:=E3 h (post:=post) pre
  simp only[List.cons_append,wt,List.length_append,List.length_cons]
  omega
theorem Do:∀{n:Nat}{rem π:List Nat},π∈ku l n rem→∀x∈π, ∃o,l[x]?=some o
 |0,rem,π,h,x,hx=>by simp_all [ku]
 |n+1,rem,π,h,x,hx=>by
  obtain⟨i,hi,hπ⟩:=List.mem_flatMap.1 h
  cases hf:eO l rem i with
  |false=>simp_all
  |true =>
   rw[hf]at hπ
   obtain⟨π',hπ',rfl⟩:=List.mem_map.1 hπ
   rcases List.mem_cons.1 hx with rfl|hx
   ·grind [eO]
   ·exact Do hπ' x hx
theorem NN (s s1:St){o:Oper}(hq:stm false E l o s=some s1):stg E l o s=some s1:=by
 by_cases k4:ay E o=4
 ·cases hd:o.dst with
  |none =>
   grind [ay,dU,split,first]
  |some d =>
   obtain⟨v,ups,q,m,m2,rfl,_⟩:=J8 (.inr k4) hd hq
   exact m.m.step s (fun _ _=>rfl) (fun _ _ _ _=>rfl) (fun w=>by rw[(m2 k4).1]at w;cases w)
 ·simp_all [ml]
theorem Fe:∀{r:List Oper}{s y:St},n8 false E l r s=some y→xF E l r s=some y
 |[],s,y,h=>h
 |o::r,s,y,h=>by
  have h:(stm false E l o s).bind (n8 false E l r)=some y:=h
  obtain⟨s1,g1,g2⟩:=Option.bind_eq_some_iff.1 h
  show(stg E l o s).bind (xF E l r)=some y
  rw[NN s s1 g1,Option.bind_some]
  exact Fe g2
theorem LY{R:Type}(ha:pI l=true){s:St}{k:St→Option R}{y:R}(h:∀π∈Dq E l l.length none (List.range l.length),md false E l (cr l π) s k=some y):∀π∈BC l,cF E l (cr l π) s k=some y:=by
 have all:∀(m:Nat) (π:List Nat),wt π≤m→π∈BC l→∃s1,n8 false E l (cr l π) s=some s1∧k s1=some y:=by
  intro m
  induction m using Nat.strongRecOn with
  |_ m ih =>
   intro π hw hπ
   rcases Dp (E:=E) l.length none (List.range l.length) π hπ (fun j hj=>by cases hj)with g|⟨pre,i,j,post,rfl,g1,g2⟩
   ·have:=h π g
    rw[rn]at this
    obtain⟨s1,e1,e2⟩:=Option.bind_eq_some_iff.1 this
    exact⟨s1,e1,e2⟩
   ·have hx:=Do hπ
    have hlt:=E3 g1 (post:=post) pre
    obtain⟨s1,e1,e2⟩:=ih (wt (pre++j::i::post)) (by omega) (pre++j::i::post) (Nat.le_refl _) (yt (BQ ha) pre hπ g1 (hx j (List.mem_append_right _ (List.mem_cons_of_mem _ (List.mem_cons_self ..)))))
    exact⟨s1,zw g2 (fun x hp=>hx x (List.mem_append_left _ hp)) e1,e2⟩
 intro π hπ
 obtain⟨s1,e1,e2⟩:=all (wt π) π (Nat.le_refl _) hπ
 rw[rr,Fe e1]
 exact e2
end
section
variable{P:Program}{X:rN}{L:Nm→Value}{I:Nat→Prop}{s:St}{a:Act}{w:World}{R:Type}
def PA:Ex→Exit→Prop
 | .normal, .normal=>True
 | .exit i, .exit j=>i=j
 | .ret, .ret=>True
 |_,_=>False
def lF (X:rN) (L:Nm→Value) (k:Ex→St→Option R) (y:R) (e:Exit) (a:Act) (w:World):Prop :=
 ∃x s' L' I',PA x e∧bJ X L' I' s' a w∧(∀n,gH n=true→L' n=L n)∧k x s'=some y
def AK (E:aE) (id:Nat) (ops:Array Oper):Prop:=∀S,E.Ω id=some S→pI ops.toList=true∧∀x y,S.g x=some y→∀π∈BC ops.toList,cF E ops.toList (cr ops.toList π) (eN S.ent x) (fun s'=>iF E.N S.out s')=some y
def ff (E:aE):Code→Prop
 | .region id ops _=>AK E id ops
 | .seq a b=>ff E a∧ff E b
 | .cond _ a b=>ff E a∧ff E b
 | .block _ c=>ff E c
 | .loop c=>ff E c∧∀S,E.Λ (key c)=some S→∃f:Nat→TD (be S.ent)→Option (EX S.exs),(∀x,f 0 x=none)∧(∃n,S.g=f n)∧∀n x,f (n+1) x=dy E c S (f n) x
 |_=>True
theorem Rw{x y:Ex}(h:Ex.eqb x y=true):x=y:=by
 cases x<;>cases y<;>first|rfl|(cases h;done)|exact congrArg Ex.exit (Nat.eq_of_beq_eq_true h)
theorem s8{N:Nat}:∀{l:List (Ex×List En)}{x:Ex}{s:St}{y:EX l},zf N l x s=some y→∃es, ∃z:TD (be es),iF N es s=some z∧∀(R:Type) (k:Ex→St→Option R),Kq l y k=k x (eN es z)
 |[],_,_,_,h=>by cases h
 |[e],x,s,y,h=>by
  unfold zf at h
  cases q:Ex.eqb e.1 x with
  |false=>rw[q]at h;cases h
  |true =>
   rw[q]at h
   have:=Rw q
   exact⟨e.2,y,h,fun R k=>by show k e.1 _=_;rw[this]⟩
 |e::f::r,x,s,y,h=>by
  unfold zf at h
  split at h
  ·rename_i z hz
   obtain rfl:=Option.some.inj h
   cases q:Ex.eqb e.1 x with
   |false=>rw[q]at hz;cases hz
   |true =>
    rw[q]at hz
    have:=Rw q
    exact⟨e.2,z,hz,fun R k=>by show k e.1 _=_;rw[this]⟩
  ·split at h
   ·rename_i y' e1
    obtain rfl:=Option.some.inj h
    obtain⟨es,z,g1,g2⟩:=s8 e1
    exact⟨es,z,g1,fun R k=>g2 R k⟩
   ·cases h
theorem JC {α:Type}{a b:Option α}{y:α}(h:Lx a b=some y):a=some y∨b=some y:=by
 unfold Lx at h
 cases a with
 |none=>exact .inr h
 |some r=>exact .inl h
theorem zF:∀{l:List (Nat×aa)}{f:Nat}{S:aa},CB l f=some S→(f,S)∈l
 |[],_,_,h=>by cases h
 |p::r,f,S,h=>by
  unfold CB at h
  cases q:Nat.beq p.1 f with
  |true =>
   rw[q]at h
   obtain rfl:=Option.some.inj h
   rw[←Nat.eq_of_beq_eq_true q]
   exact .head _
  |false=>rw[q]at h;exact .tail _ (zF h)
theorem OJ{P:Program}{K:fN}{E:aE}(h:pP P K E):pP P K E.alt where
 τ:=h.τ
 Γ f d S e:=by
  have e:(match CB E.Γ2 f with|some S=>some S|none=>E.Γ f d)=some S:=e
  split at e
  ·rename_i S' q
   obtain rfl:=Option.some.inj e
   exact h.alt _ (zF q)
  ·exact h.Γ f d S e
 mo:=h.mo
 alt:=h.alt
theorem iy (h:bJ X L I s a w){es:List En}{x:TD (be es)}(e:iF X.N es s=some x):∃L' I',bJ X L' I' (eN es x) a w∧∀n,gH n=true→L' n=L n:=by
 obtain⟨L',I',h1,_,h2⟩:=xD h e (us:=es.map fun e=>a.tmps.getD e.slot undef) (by
  clear e x
  induction es with
  |nil=>trivial
  |cons en es ih=>exact⟨h.slot en.slot,ih⟩) (a':=a) h.defers h.size (fun i en u z1 z2=>by
   rw[List.getElem?_map,z1]at z2
   exact Option.some.inj z2)
 exact⟨L',I',h1,h2⟩
theorem lF.trans{k:Ex→St→Option R}{y:R}{L1:Nm→Value}{e:Exit}(hk:∀n,gH n=true→L1 n=L n) (h:lF X L1 k y e a w):lF X L k y e a w:=by
 simp_all [gH,lF]
theorem EG{E:aE}(hE:pP P X.K E) (hN:E.N=X.N) (h:bJ X L I s a w){id:Nat}{ops:Array Oper}(hr:AK E id ops){k:Ex→St→Option R}{y:R}(e:s6 E (.region id ops true) s k=some y) :
  (Code.region id ops true).wp P (lF X L k y) a w:=by
 simp only[s6]at e
 cases q:v9 ops.toList (o5 E ops.toList)with
 |false =>
  rw[q]at e
  simp only[cond_false]at e
  unfold Na at e
  split at e
  ·rename_i S hS
   split at e
   ·rename_i x hx
    split at e
    ·rename_i z hz
     obtain⟨ha,hall⟩:=hr S hS
     have hall:=hall x z hz
     rw[hN]at hx
     obtain⟨L1,I1,h1,hk1⟩:=iy h hx
     refine wp_region_any hE.mo ?_
     have hg:bJ X L1 I1 (eN S.ent x) a { w with drawn:=w.drawn+1 }:=h1.grows (ct.drew _ w)
     have:=Ix (L:=L) (k:=fun s'=>iF E.N S.out s') (y:=z) (Q:=lF X L k y) (l:=ops.toList) hE hN (BQ ha) (fun a' w' hp=>by
      obtain⟨s',L',I',r1,r2,r3⟩:=hp
      rw[hN]at r3
      obtain⟨L2,I2,h2,hk2⟩:=iy r1 r3
      exact⟨.normal,_,L2,I2,trivial,h2,fun n hn=>(hk2 n hn).trans (r2 n hn),e⟩) ops.toList.length (List.range ops.toList.length) (Array.replicate ops.size false) (by simp) ⟨by simp,fun i hi=>List.mem_range.1 hi,List.nodup_range,fun i hi=>by
       have hi':i<ops.size:=by trivial
       simp[hi']⟩ hg hk1 hall
     rw[Array.length_toList]at this
     exact this
    ·cases e
   ·cases e
  ·cases e
 |true =>
  rw[q]at e
  simp only[cond_true]at e
  refine wp_region_any hE.mo ?_
  have hg:bJ X L I s a { w with drawn:=w.drawn+1 }:=h.grows (ct.drew _ w)
  have hle:=zD E ops.toList
  obtain⟨hl,hlen⟩:=Ev hle q
  have:=Kr (L:=L) (k:=k .normal) (y:=y) (Q:=lF X L k y) (l:=ops.toList) hE hN (fun a' w' hp=>by
   obtain⟨s',L',I',r1,r2,r3⟩:=hp
   exact⟨.normal,s',L',I',trivial,r1,r2,r3⟩) ops.size (fF ops.toList (o5 E ops.toList)) (ig ops.toList (o5 E ops.toList)) (Array.replicate ops.size false) (by
    rw[hlen,Array.length_toList]) (by rw[←Array.length_toList];exact hl) hg (fun _ _=>rfl) e
  exact this
theorem EE{E:aE}(hE:pP P X.K E) (hN:E.N=X.N):∀(c:Code),ff E c→∀{R:Type}{k:Ex→St→Option R}{y:R}{L:Nm→Value}{I:Nat→Prop}{s:St}{a:Act}{w:World},bJ X L I s a w→s6 E c s k=some y →
  c.wp P (lF X L k y) a w:=by
 intro c
 induction c with
 |skip=>intro _ R k y L I s a w h e;exact wp_skip ⟨.normal,s,L,I,trivial,h,fun _ _=>rfl,e⟩
 |exit id=>intro _ R k y L I s a w h e;exact wp_exit ⟨.exit id,s,L,I,rfl,h,fun _ _=>rfl,e⟩
 |ret=>intro _ R k y L I s a w h e;exact wp_ret ⟨.ret,s,L,I,trivial,h,fun _ _=>rfl,e⟩
 |region id ops draw =>
  intro hl R k y L I s a w h e
  cases draw with
  |true=>exact EG hE hN h hl e
  |false =>
   refine wp_region_list ?_
   have one:∀{E':aE},pP P X.K E'→E'.N=X.N→cF E' ops.toList ops.toList s (k .normal)=some y→_:=fun{E'} hE' hN' e' =>
    xS (L:=L) (k:=k .normal) (y:=y) (all:=ops.toList) (Q:=lF X L k y) hE' hN' (fun a' w' hp=>by
     obtain⟨s',L',I',r1,r2,r3⟩:=hp
     exact⟨.normal,s',L',I',trivial,r1,r2,r3⟩) h (fun _ _=>rfl) e'
   have e:(bif E.A id then Lx (cF E.alt ops.toList ops.toList s (k .normal)) (cF E ops.toList ops.toList s (k .normal))else cF E ops.toList ops.toList s (k .normal))=some y:=e
   cases q:E.A id with
   |false=>rw[q]at e;exact one hE hN e
   |true =>
    rw[q]at e
    rcases JC e with e|e
    ·exact one (OJ hE) hN e
    ·exact one hE hN e
 |seq x z ihx ihz =>
  intro hl R k y L I s a w h e
  refine wp_seq (Go.wp_mono (ihx hl.1 h e) fun en a' w' hp=>?_)
  obtain⟨x',s',L',I',h1,r1,r2,r3⟩:=hp
  cases x' with
  |normal =>
   cases en<;>try exact h1.elim
   exact Go.wp_mono (ihz hl.2 r1 r3) fun _ _ _ q=>lF.trans r2 q
  |exit i =>
   cases en<;>try exact h1.elim
   exact⟨.exit i,s',L',I',h1,r1,r2,r3⟩
  |ret =>
   cases en<;>try exact h1.elim
   exact⟨.ret,s',L',I',h1,r1,r2,r3⟩
 |cond c x z ihx ihz =>
  intro hl R k y L I s a w h e
  simp only[s6]at e
  split at e
  ·rename_i b hb
   have hv:=h.ev c
   rw[yk hb]at hv
   have hv:a.eval c = .bool b:=List.head_eq_of_cons_eq hv
   cases b with
   |true=>simp only[rE hb]at e;exact wp_cond_true hv (ihx hl.1 h e)
   |false=>simp only[rE hb]at e;exact wp_cond_false hv (ihz hl.2 h e)
  ·cases e
 |block id c ih =>
  intro hl R k y L I s a w h e
  refine wp_block (Go.wp_mono (ih hl h e) fun en a' w' hp=>?_)
  obtain⟨x',s',L',I',h1,r1,r2,r3⟩:=hp
  cases x' with
  |normal =>
   cases en<;>try exact h1.elim
   exact⟨.normal,s',L',I',trivial,r1,r2,r3⟩
  |exit i =>
   cases en with
   |exit j =>
    obtain rfl:i=j:=h1
    dsimp only at r3
    show if i=id then lF X L k y .normal a' w' else lF X L k y (.exit i) a' w'
    cases q:Nat.beq i id with
    |true =>
     rw[q]at r3
     rw[if_pos (Nat.eq_of_beq_eq_true q)]
     exact⟨.normal,s',L',I',trivial,r1,r2,r3⟩
    |false =>
     rw[q]at r3
     rw[if_neg (Nat.ne_of_beq_eq_false q)]
     exact⟨.exit i,s',L',I',rfl,r1,r2,r3⟩
   |_=>exact h1.elim
  |ret =>
   cases en<;>try exact h1.elim
   exact⟨.ret,s',L',I',trivial,r1,r2,r3⟩
 |loop c ih =>
  intro hl R k y L I s a w h e
  simp only[s6]at e
  split at e
  ·rename_i S hS
   split at e
   ·rename_i x hx
    split at e
    ·rename_i z hz
     obtain⟨f,f0,⟨n,hn⟩,fs⟩:=hl.2 S hS
     rw[hn]at hz
     rw[hN]at hx
     obtain⟨L1,I1,h1,hk1⟩:=iy h hx
     refine wp_loop_rounds (n+1) ?_
     have main:∀n x,f n x=some z→∀{L1:Nm→Value}{I1:Nat→Prop}{a:Act}{w:World},bJ X L1 I1 (eN S.ent x) a w→(∀n,gH n=true→L1 n=L n)→Code.rounds P c (lF X L k y) (n+1) a w:=by
      intro n
      induction n with
      |zero=>simp_all
      |succ n ihn =>
       intro x hx L1 I1 a w h1 hk1
       rw[fs]at hx
       rw[rounds_succ]
       refine Go.wp_mono (ih hl.1 h1 hx) fun en a' w' hp=>?_
       obtain⟨x',s',L',I',g1,r1,r2,r3⟩:=hp
       have ends:∀{ex:Ex},PA ex en→zf E.N S.exs ex s'=some z→lF X L k y en a' w':=by
        grind [s8,iy,ff,s6,lF]
       cases x' with
       |normal =>
        cases en<;>try exact g1.elim
        dsimp only at r3
        split at r3
        ·rename_i x2 hx2
         rw[hN]at hx2
         obtain⟨L2,I2,h2,hk2⟩:=iy r1 hx2
         exact ihn x2 r3 h2 (fun n hn=>(hk2 n hn).trans ((r2 n hn).trans (hk1 n hn)))
        ·cases hp:S.peel with
         |false=>rw[hp]at r3;cases r3
         |true =>
          rw[hp]at r3
          show Code.rounds P c (lF X L k y) (n+1) a' w'
          rw[rounds_succ]
          refine Go.wp_mono (ih hl.1 r1 r3) fun en2 a2 w2 hp2=>?_
          obtain⟨x2,s2,L2,I2,q1,q2,q3,q4⟩:=hp2
          have ends2:∀{ex:Ex},PA ex en2→zf E.N S.exs ex s2=some z→lF X L k y en2 a2 w2:=by
           intro ex hx hz2
           obtain⟨es,z',g1,g2⟩:=s8 hz2
           rw[hN]at g1
           obtain⟨L3,I3,h3,hk3⟩:=iy q2 g1
           exact⟨ex,_,L3,I3,hx,h3,fun n hn=>(hk3 n hn).trans ((q3 n hn).trans ((r2 n hn).trans (hk1 n hn))),(g2 _ k).symm.trans e⟩
          cases x2 with
          |normal=>cases q4
          |exit i =>
           cases en2<;>try exact q1.elim
           exact ends2 (ex := .exit i) q1 q4
          |ret =>
           cases en2<;>try exact q1.elim
           exact ends2 (ex := .ret) q1 q4
       |exit i =>
        cases en<;>try exact g1.elim
        exact ends (ex := .exit i) g1 r3
       |ret =>
        cases en<;>try exact g1.elim
        exact ends (ex := .ret) g1 r3
     exact main n x hz h1 hk1
    ·cases e
   ·cases hp:S.peel with
    |false=>rw[hp]at e;cases e
    |true =>
     rw[hp]at e
     refine wp_loop_rounds 1 ?_
     rw[rounds_succ]
     refine Go.wp_mono (ih hl.1 h e) fun en a' w' hp2=>?_
     obtain⟨x',s',L',I',g1,r1,r2,r3⟩:=hp2
     cases x' with
     |normal=>cases r3
     |exit i =>
      cases en<;>try exact g1.elim
      exact⟨.exit i,s',L',I',g1,r1,r2,r3⟩
     |ret =>
      cases en<;>try exact g1.elim
      exact⟨.ret,s',L',I',g1,r1,r2,r3⟩
  ·cases e
 |_=>intro _ R k y L I s a w h e;cases e
end
end AM
end Go.Proofs.YtpgigedclifoeaaGreatDoor
namespace Go.Proofs.YtpgigedclifoeaaGreatDoor
namespace AM
open Go
set_option linter.unusedSimpArgs false
set_option linter.unusedVariables false
section
variable{P:Program}{X:rN}{L:Nm→Value}{I:Nat→Prop}{s:St}{a:Act}{w:World}
theorem bJ.extend (h:bJ X L I s a w){N r:Nat}(hr:r≤X.N) (hN:r≤N):bJ { X with N:=N } L I (s.cut r) { tmps:=first r a.tmps++Array.replicate (N-(first r a.tmps).size) undef,defers:=[] } w:=by
 have hs:=h.size
 have hfs:(first r a.tmps).size=r:=by unfold first;simp;omega
 refine⟨rfl,?_,fun i hi=>?_,fun i hi=>?_,h.obj,h.sep,h.own,h.imm,h.sub,h.step,h.glob⟩
 ·simp_all
 ·by_cases q:i<r
  ·have e1:(s.cut r).t i=s.t i:=by
    show(bif Nat.blt i r then s.t i else .c .dead)=_
    rw[show Nat.blt i r=true from Nat.ble_eq_true_of_le q];rfl
   have e2:(first r a.tmps++Array.replicate (N-(first r a.tmps).size) undef).getD i undef=a.tmps.getD i undef:=by
    rw[Array.getD_eq_getD_getElem?,Array.getD_eq_getD_getElem?,Array.getElem?_append_left (by rw[hfs];exact q)]
    unfold first
    rw[List.getElem?_toArray,List.getElem?_take,if_pos q]
    simp
   rw[e1,e2];exact h.tmp i (by omega)
  ·have e1:(s.cut r).t i = .c .dead:=by
    show(bif Nat.blt i r then s.t i else .c .dead)=_
    rw[show Nat.blt i r=false from by cases z:Nat.blt i r with|false=>rfl|true=>exact absurd (Nat.le_of_ble_eq_true z) q];rfl
   rw[e1];trivial
 ·have hi:N≤i:=hi
  show(bif Nat.blt i r then s.t i else .c .dead)=_
  rw[show Nat.blt i r=false from by cases z:Nat.blt i r with|false=>rfl|true=>exact absurd (Nat.le_of_ble_eq_true z) (by show ¬(i<r);omega)];rfl
def tO (a:Act):ResultVar→Sem Value
 | .tmp t=>pure (a.tmps.getD t undef)
 | .cell b t=>do loadVar t (←asAddr (a.tmps.getD b undef))
theorem Bc (h:bJ X L I s a w) {τ:kL}(hτ:dt P τ){v:ResultVar}{x:AV}(e:D6 τ s v=some x) :
  ∃u,(tO a v).run P w = .ok u w∧RA L I w (AL s.o) x u:=by
 cases v with
 |tmp t=>obtain rfl:=Option.some.inj e;exact⟨_,by simp[tO],h.slot t⟩
 |cell b t =>
  simp only[D6]at e
  split at e
  ·rename_i ti p e1 e2
   have r:=h.slot b
   rw[e2]at r
   obtain⟨b',off,vs,e4,hl,hc,hr,h1⟩:=pG h e r
   refine⟨_,?_,hr⟩
   have:=tM (P:=P) (hτ t ti e1) hl hc h1
   show(do loadVar t (←asAddr (a.tmps.getD b undef))).run P w=_
   rw[e4]
   simp[asAddr,this,Result.andThen]
  ·cases e
theorem r0 (h:bJ X L I s a w) {τ:kL}(hτ:dt P τ):∀{vs:List ResultVar}{xs:List AV},oT τ s vs=some xs →
  ∃us,(vs.mapM (tO a)).run P w = .ok us w∧az (RA L I w (AL s.o)) xs us
 |[],_,e=>by obtain rfl:=Option.some.inj e;exact⟨[],by simp,trivial⟩
 |v::vs,_,e=>by
  simp only[oT]at e
  split at e
  ·rename_i x xs e1 e2
   obtain rfl:=Option.some.inj e
   obtain⟨u,g1,g2⟩:=Bc h hτ e1
   obtain⟨us,g3,g4⟩:=r0 h hτ e2
   exact⟨u::us,by simp[List.mapM_cons,g1,g3,Result.andThen],g2,g4⟩
  ·cases e
theorem wB {τ:kL}:∀{vs:List ResultVar}{xs:List AV},oT τ s vs=some xs→xs.length=vs.length
 |[],_,e=>by simp_all [oT]
 |v::vs,_,e=>by
  simp only[oT]at e
  split at e
  ·rename_i x xs e1 e2
   obtain rfl:=Option.some.inj e
   simp[wB e2]
  ·cases e
theorem Ci{fn:Func}{us:List Value}(h:(fn.results.toList.mapM (tO a)).run P w = .ok us w) :
  (results fn a.tmps).run P w = .ok (if h:us.toArray.size=1 then us.toArray[0]else .tuple us.toArray) w:=by
 show(do
  let vs ←fn.results.mapM (tO a)
  pure (if h:vs.size=1 then vs[0]else Value.tuple vs)).run P w=_
 rw[Array.mapM_eq_mapM_toList]
 simp[h,Result.andThen]
def ft (f:Nat→Value):Nat→List DG→List Value
 |_,[]=>[]
 |i, .c (.b _ _)::r=>f i::ft f (i+1) r
 |i, .p _::r=>f i::ft f (i+1) r
 |i, .h _::r=>f i::ft f (i+1) r
 |i,_::r=>ft f (i+1) r
theorem uc{L':Nm→Value}{I':Nat→Prop}{w':World}{A A':Nm→Option (Nat×Nat)}(hk:∀n,gH n=true→L' n=L n):∀{cs:List CV}{us:List Value},cs.all FF=true→az (RC L I w A) cs us→az (RC L' I' w' A') cs us
 |[],[],_,_=>trivial
 |[],_::_,_,r=>r.elim
 |_::_,[],_,r=>r.elim
 |c::cs,u::us,q,r=>by
  rw[List.all_cons,Bool.and_eq_true]at q
  refine⟨?_,uc hk q.2 r.2⟩
  have q:=q.1
  have r:=r.1
  cases c with
  |own n =>
   simp_all [gH,FF,az,RC]
  |v ty x=>exact dh.plain ty (by simpa [FF]using q) r
  |hd k=>exact r
  |_=>cases q
theorem tQ{L':Nm→Value}{I':Nat→Prop}{w':World}{A A':Nm→Option (Nat×Nat)}{f:Nat→AV}{g:Nat→Value}(h:∀i,RA L I w A (f i) (g i)) (hk:∀n,gH n=true→L' n=L n):∀{ps:List DG}{k:Nat}{l:List AV},
  u5 f k ps=some l→az (RA L' I' w' A') l (ft g k ps)
 |[],_,_,e=>by obtain rfl:=Option.some.inj e;trivial
 |p::ps,k,_,e=>by
  simp only[u5]at e
  split at e
  ·rename_i l e1
   have ih:=tQ (L':=L') (I':=I') (w':=w') (A':=A') h hk e1
   have one:vn (f k)=true→RA L' I' w' A' (f k) (g k):=by
    intro q
    have r:=h k
    unfold vn at q
    split at q
    ·rename_i n o en
     rw[en]at r ⊢
     obtain⟨b,off,r1,r2⟩:=r
     exact⟨b,off,by rw[hk n q];exact r1,r2⟩
    ·rename_i n en
     rw[en]at r ⊢
     obtain⟨x1,x2,x3,r1,r2⟩:=r
     exact⟨x1,x2,x3,r1,by rw[hk n q];exact r2⟩
    ·rename_i cs en
     rw[en]at r ⊢
     obtain⟨vs,r1,r⟩:=r
     exact⟨vs,r1,uc hk q r⟩
    ·cases q
   have two:∀{l2:List AV},(bif vn (f k)then some (f k::l)else none)=some l2→az (RA L' I' w' A') l2 (g k::ft g (k+1) ps):=by
    grind [RA,gH,u5,az,ft]
   cases p with
   |c q =>
    grind [RA,gH,u5,az,ft]
   |g ps'=>obtain rfl:=Option.some.inj e;exact ih
   |p ps'=>exact two e
   |h ps'=>exact two e
  ·cases e
theorem sH{g:Nat→Value}:∀{ps:List DG}{k i:Nat}{e:En}{u:Value},(gq k ps)[i]?=some e→(ft g k ps)[i]?=some u→u=g e.slot∧e.slot<k+ps.length
 |[],_,_,_,_,h,_=>by cases h
 |p::ps,k,i,e,u,h,h'=>by
  have rest:(gq (k+1) ps)[i]?=some e→(ft g (k+1) ps)[i]?=some u→u=g e.slot∧e.slot<k+(ps.length+1):=fun h h'=>by
   obtain⟨g1,g2⟩:=sH h h';exact⟨g1,by omega⟩
  have cons:∀{en:En},en.slot=k→(en::gq (k+1) ps)[i]?=some e→(g k::ft g (k+1) ps)[i]?=some u→u=g e.slot∧e.slot<k+(ps.length+1):=by
   intro en he h h'
   cases i with
   |zero=>simp_all
   |succ i=>obtain⟨g1,g2⟩:=sH (i:=i) h h';exact⟨g1,by omega⟩
  cases p with
  |c q =>
   cases q with
   |i t=>exact rest h h'
   |o _ t=>exact rest h h'
   |b _ t=>exact cons rfl h h'
   |k _ _ t=>exact rest h h'
   |q _ _=>exact rest h h'
   |m _ _ _=>exact rest h h'
   |f _ _=>exact rest h h'
   |e=>exact rest h h'
   |l=>exact rest h h'
  |g ps'=>exact rest h h'
  |p ps'=>exact cons rfl h h'
  |h ps'=>exact cons rfl h h'
theorem jf{g:Nat→Value}:∀(ps:List DG) (k:Nat),(gq k ps).length=(ft g k ps).length
 |[],_=>rfl
 |p::ps,k=>by
  cases p with
  |c q=>cases q<;>simp[gq,ft,jf (g:=g) ps (k+1)]
  |g ps'=>simp[gq,ft,jf (g:=g) ps (k+1)]
  |p ps'=>simp[gq,ft,jf (g:=g) ps (k+1)]
  |h ps'=>simp[gq,ft,jf (g:=g) ps (k+1)]
theorem xI:∀{rs:List (Bool×List PS)}{k i:Nat}{e:En},(lH k rs)[i]?=some e→e.slot=k+i
 |[],_,_,_,h=>by cases h
 |(b,ps)::rs,k,0,e,h=>by
  obtain rfl:=Option.some.inj (show some (MI k b ps)=some e from h)
  cases b<;>(cases ps<;>rfl)
 |(b,ps)::rs,k,i+1,e,h=>by
  have h:(lH (k+1) rs)[i]?=some e:=h
  rw[xI h];omega
theorem oU:∀(rs:List (Bool×List PS)) (k:Nat),(lH k rs).length=rs.length
 |[],_=>rfl
 |(b,ps)::rs,k=>by simp[lH,oU rs]
theorem zO:∀{rs:List (Nat×Nm×List PS)}{k i:Nat}{e:En},(CU k rs)[i]?=some e→e.slot=k+i
 |[],_,_,_,h=>by cases h
 |p::rs,k,0,e,h=>by obtain rfl:=Option.some.inj h;rfl
 |p::rs,k,i+1,e,h=>by
  have h:(CU (k+1) rs)[i]?=some e:=h
  rw[zO h];omega
theorem RA.getD{A:Nm→Option (Nat×Nat)}{xs:List AV}{us:List Value}(h:az (RA L I w A) xs us) (i:Nat):RA L I w A (xs.getD i (.c .dead)) (us.getD i undef):=by
 rw[List.getD_eq_getElem?_getD,List.getD_eq_getElem?_getD]
 cases e:xs[i]? with
 |none=>trivial
 |some x=>obtain⟨u,e2,r⟩:=h.get e;rw[e2];exact r
theorem CT{A:Nm→Option (Nat×Nat)}{xs:List AV}{us:List Value}(h:az (RA L I w A) xs us):∀nb:List (Nat×Nm×List PS),az (RA L I w A) (nb.map fun p=>xs.getD p.1 (.c .dead)) (nb.map fun p=>us.getD p.1 undef)
 |[]=>trivial
 |p::nb=>⟨RA.getD h p.1,CT h nb⟩
theorem Lq{a'':Act}{np:Nat}{us:List Value}(h:∀j u,us[j]?=some u→a''.tmps.getD (np+j) undef=u):(if h:us.toArray.size=1 then us.toArray[0]else .tuple us.toArray)=Co a'' np us.length:=by
 match us with
 |[u]=>rw[dif_pos (show #[u].size=1 from rfl)];exact(h 0 u rfl).symm
 |[]=>simp[Co]
 |u::v::r =>
  have:∀l:List Value,(∀j u,l[j]?=some u→a''.tmps.getD (np+j) undef=u)→(List.range l.length).map (fun j=>a''.tmps.getD (np+j) undef)=l:=by
   intro l hl
   apply List.ext_getElem?
   intro i
   rw[List.getElem?_map]
   rcases Nat.lt_or_ge i l.length with q|q
   ·simp_all
   ·simp_all
  have:=this _ h
  rw[dif_neg (by simp)]
  show _=Value.tuple ((List.range (u::v::r).length).map fun j=>a''.tmps.getD (np+j) undef).toArray
  rw[this]
theorem Qs{E:aE}{K:fN}(hE:pP P K E){f:FuncId}{fn:Func}{c:Code}{S:aa}(hf:P.funcs[f]?=some fn) (hb:fn.body=some c) (hN:E.N=fn.ntmps) (hn:S.pars.length≤fn.ntmps) (hr:fn.results.size=S.res.length)
  (hl:ff E c) (hg:∀x r,S.g x=some r→ar E fn S x=some r):nL P K f S:=by
 intro Y L I a w x r hx h hK hY hw
 subst hK
 refine calls_of_wp hf hb ?_
 have hreal:S.real≤S.pars.length:=by unfold aa.real;omega
 have h1:=h.extend (N:=fn.ntmps) (r:=S.real) (by rw[hY];exact hreal) (by omega)
 have e:=hg x r hx
 unfold ar at e
 rw[hb]at e
 dsimp only at e
 refine Go.wp_mono (EE hE (X:={ Y with N:=fn.ntmps }) hN c hl h1 e) fun en a' w' hp=>?_
 obtain⟨ex,s',L',I',hx',r1,r2,r3⟩:=hp
 have fin:Lp E fn S (eN (aw 0 S.pars) x) s'=some r→a'.defers=[]∧∃v,(results fn a'.tmps).run P w' = .ok v w' ∧
   ∃v' L2 I2 a2,Ending.returned v = .returned v'∧bJ { Y with N:=S.pars.length+(S.res.length+S.nb.length) } L2 I2 (eN S.ens r) a2 w'∧(∀n,gH n=true→L2 n=L n)∧v'=Co a2 S.pars.length S.res.length:=by
  intro e
  refine⟨r1.defers,?_⟩
  unfold Lp at e
  split at e
  ·rename_i rs os e1 e2
   obtain⟨us,g1,g2⟩:=r0 r1 hE.τ e1
   have hul:us.length=S.res.length:=by
    rw[←g2.len,wB e1, ←hr];simp
   have hos:=tQ (L':=L') (I':=I') (w':=w') (A':=AL s'.o) (g:=fun i=>a.tmps.getD i undef) (fun i=>h.slot i) r2 e2
   have hsz:a.tmps.size=S.pars.length:=by rw[h.size,hY]
   let bs:=S.nb.map fun p=>us.getD p.1 undef
   have hbl:bs.length=S.nb.length:=List.length_map ..
   have hat:∀j u,us[j]?=some u→(a.tmps++us.toArray++bs.toArray).getD (S.pars.length+j) undef=u:=by
    intro j u hj
    have hjl:j<us.length:=(List.getElem?_eq_some_iff.1 hj).1
    rw[Array.getD_eq_getD_getElem?,Array.getElem?_append_left (by simp;omega),Array.getElem?_append_right (by omega),hsz,Nat.add_sub_cancel_left]
    simp[hj]
   have hat2:∀j u,bs[j]?=some u→(a.tmps++us.toArray++bs.toArray).getD (S.pars.length+S.res.length+j) undef=u:=by
    intro j u hj
    have:(a.tmps++us.toArray).size=S.pars.length+S.res.length:=by simp[hsz,hul]
    rw[Array.getD_eq_getD_getElem?,Array.getElem?_append_right (by omega),this,Nat.add_sub_cancel_left,List.getElem?_toArray,hj];rfl
   obtain⟨L2,I2,k1,_,k3⟩:=xD r1 e (hos.append (g2.append (CT g2 S.nb))) (a':=⟨a.tmps++us.toArray++bs.toArray,[]⟩) rfl (by simp[hsz,hul,hbl]) (fun i en u z1 z2=>by
    unfold dA at z1
    rcases Nat.lt_or_ge i (gq 0 S.pars).length with q|q
    ·rw[List.getElem?_append_left q]at z1
     rw[List.getElem?_append_left (by rw[←jf];exact q)]at z2
     obtain⟨y1,y2⟩:=sH z1 z2
     rw[y1,Array.getD_eq_getD_getElem?,Array.append_assoc,Array.getElem?_append_left (by omega), ←Array.getD_eq_getD_getElem?]
    ·rw[List.getElem?_append_right q]at z1
     rw[List.getElem?_append_right (by rw[←jf];exact q), ←jf]at z2
     generalize i-(gq 0 S.pars).length=m at z1 z2
     rcases Nat.lt_or_ge m S.res.length with q2|q2
     ·rw[List.getElem?_append_left (by rw[oU];exact q2)]at z1
      rw[List.getElem?_append_left (by omega)]at z2
      rw[xI z1]
      exact hat _ u z2
     ·rw[List.getElem?_append_right (by rw[oU];exact q2),oU]at z1
      rw[List.getElem?_append_right (by omega),hul]at z2
      rw[zO z1]
      exact hat2 _ u z2)
   refine⟨_,Ci g1,_,L2,I2,⟨a.tmps++us.toArray++bs.toArray,[]⟩,rfl,k1,fun n hn=>(k3 n hn).trans (r2 n hn),?_⟩
   rw[←hul]
   exact Lq (a'':=⟨a.tmps++us.toArray++bs.toArray,[]⟩) hat
  ·cases e
 cases ex with
 |normal =>
  cases en<;>try exact hx'.elim
  exact fin r3
 |exit i=>cases r3
 |ret =>
  cases en<;>try exact hx'.elim
  exact fin r3
end
end AM
end Go.Proofs.YtpgigedclifoeaaGreatDoor
namespace Go.Proofs.YtpgigedclifoeaaGreatDoor
namespace AM
open Go
set_option linter.unusedVariables false
set_option linter.unusedSimpArgs false
def Jd (sz:TypeId→Nat) (r:TypeId→Option Ty):Nat→List Field→Option Ty
 |_,[]=>none
 |off,[f]=>match r f.type with
  |some t=>bif Nat.beq f.offset off&&Nat.beq (sz f.type) t.sz then some t else none
  |none=>none
 |off,f::g::l=>match r f.type with
  |some t=>bif Nat.beq f.offset off&&Nat.beq (sz f.type) t.sz then(match Jd sz r (off+t.sz) (g::l)with
   |some u=>some (.pr t u)
   |none=>none)else none
  |none=>none
def Cc (P:Program):Nat→TypeId→Option Ty
 |0,_=>none
 |n+1,T=>match P.underlying T with
  |some (.int k)=>some (.int k)
  |some .bool=>some .bool
  |some .string=>some .str
  |some (.slice e)=>match Cc P n e with
   |some t=>bif Nat.beq (P.cellsOf e) t.sz then some (.sl t)else none
   |none=>none
  |some (.struct fs)=>match Jd P.cellsOf (Cc P n) 0 fs.toList with
   |some t=>bif Nat.beq (P.cellsOf T) t.sz then some t else none
   |none=>none
  |_=>none
def wo:(t:Ty)→t.den→Prop
 | .int k,n=>(Lit.int k n).wf=true
 | .bool,_=>True
 | .str,s=>ByteArray.size s≤maxLen
 | .sl t,xs=>List.length xs≤maxLen∧∀x∈(show List t.den from xs),wo t x
 | .pr a b,x=>wo a x.1∧wo b x.2
section
variable{H:Type}{enc:TypeId×Value→H}{P:Program}{w:World}{sp:Nat→Bool}{held:Bool}
theorem IB{a:Addr}{n:Nat}{cs:List Value}(h:w.cells? 0 a n=some cs):cs.length=n∧∀j u,cs[j]?=some u→w.cell? (a.add j)=some u:=by
 unfold World.cells? at h
 split at h
 ·have hl:=mapM_some_length h
  refine⟨by simpa using hl,fun j u hu=>?_⟩
  have hj:j<n:=by
   grind
  have:=mapM_some_get h j j (by simp[hj])
  rw[this,hu]
 ·cases h
theorem IC{a:Addr}{u:Value}(h:w.cell? a=some u):a=⟨a.block,a.off,none⟩∧a.block<w.heap.size:=by
 have hspot:a.spot=none:=by
  cases hsp:a.spot with
  |none=>rfl
  |some s =>
   grind [split,World.cell?]
 exact⟨by cases a;simp_all,World.block_lt_of_cell? w a h⟩
theorem IJ (b off j:Nat):(⟨b,off,none⟩:Addr).add j=⟨b,off+j,none⟩:=by
 unfold Addr.add
 by_cases h:j=0
 ·subst h;rfl
 ·simp_all
def KU (w:World) (t:Ty) (cs:List Value):Prop:=∃d:t.den,dh (fun b=>b<w.heap.size) w t d cs∧wo t d
theorem wP {α β:Type}{R:Nat→α→β→Prop}:∀{n:Nat},(∀i,i<n→∃a b,R i a b)→∃(xs:List α) (ys:List β),xs.length=n∧ys.length=n∧∀(i:Nat) (x:α) (y:β),xs[i]?=some x→ys[i]?=some y→R i x y
 |0,_=>⟨[],[],rfl,rfl,fun _ _ _ h=>by cases h⟩
 |n+1,h=>by
  obtain⟨xs,ys,h1,h2,h3⟩:=wP (n:=n) (fun i hi=>h i (by omega))
  obtain⟨a,b,hab⟩:=h n (by omega)
  refine⟨xs++[a],ys++[b],by simp[h1],by simp[h2],fun i x y hx hy=>?_⟩
  rcases Nat.lt_or_ge i n with q|q
  ·grind
  ·grind
theorem wT {α β:Type}{R:α→β→Prop}:∀{xs:List α}{ys:List β},xs.length=ys.length→(∀(i:Nat) (x:α) (y:β),xs[i]?=some x→ys[i]?=some y→R x y)→az R xs ys
 |[],[],_,_=>trivial
 |x::xs,y::ys,h,g=>⟨g 0 x y rfl rfl,wT (by simpa using h) (fun i a b ha hb=>g (i+1) a b ha hb)⟩
 |[],_::_,h,_=>by cases h
 |_::_,[],h,_=>by cases h
theorem wM{sz:Nat}:∀{css:List (List Value)},(∀cs∈css,cs.length=sz)→∀{j:Nat}{u:Value},css.flatten[j]?=some u→∃i k cs,j=i*sz+k∧css[i]?=some cs∧cs[k]?=some u
 |[],_,_,_,h=>by simp at h
 |c::css,hl,j,u,h=>by
  rw[List.flatten_cons]at h
  have hc:=hl c (List.mem_cons_self ..)
  rcases Nat.lt_or_ge j c.length with q|q
  ·rw[List.getElem?_append_left q]at h
   exact⟨0,j,c,by omega,rfl,h⟩
  ·rw[List.getElem?_append_right q]at h
   obtain⟨i,k,cs,h1,h2,h3⟩:=wM (fun x hx=>hl x (List.mem_cons_of_mem _ hx)) h
   exact⟨i+1,k,cs,by rw[Nat.add_mul];omega,h2,h3⟩
theorem Lr{e:Nat}{t:Ty}{n:Nat}(ih:∀cs (x:DataW H×List MemPlace),DataW.trod enc P w 0 sp held n e cs=some x→KU w t cs) (hsz:P.cellsOf e=t.sz){a:Addr}{len cap:Nat}(hl:len≤cap) (hc:cap≤maxLen)
  {el:Nat→Option (DataW H×List MemPlace)}(hel:∀i,i<len→(w.cells? 0 (a.add (i*P.cellsOf e)) (P.cellsOf e)).bind (DataW.trod enc P w 0 sp held n e)=el i) (hs:∀i,i<len→(el i).isSome=true):KU w (.sl t) [.slice (some a) len cap]:=by
 have each:∀i,i<len→∃(d:t.den) (cs:List Value),(dh (fun b=>b<w.heap.size) w t d cs∧wo t d)∧(∀k u,cs[k]?=some u→w.cell? ((a.add (i*t.sz)).add k)=some u)∧cs.length=t.sz:=by
  intro i hi
  have h1:=hel i hi
  have h2:=hs i hi
  cases he:el i with
  |none=>simp_all
  |some y =>
   rw[he,Option.bind_eq_some_iff]at h1
   obtain⟨cs,h3,h4⟩:=h1
   obtain⟨d,h5⟩:=ih cs y h4
   rw[hsz]at h3
   obtain⟨h6,h7⟩:=IB h3
   exact⟨d,cs,h5,h7,h6⟩
 obtain⟨xs,css,g1,g2,g3⟩:=wP each
 have add2:∀(i k:Nat),(a.add i).add k=a.add (i+k):=by
  intro i k
  unfold Addr.add
  by_cases hi:i=0
  ·simp_all
  ·grind
 have hcl:∀cs∈css,cs.length=t.sz:=by
  intro cs hcs
  obtain⟨i,hi⟩:=List.getElem?_of_mem hcs
  have hlt:i<xs.length:=by have:=(List.getElem?_eq_some_iff.1 hi).1;omega
  exact(g3 i _ cs (List.getElem?_eq_getElem hlt) hi).2.2
 refine⟨xs,⟨some a,cap,css,by rw[g1],by rw[g1];exact hl,wT (by omega) (fun i x cs hx hcs=>(g3 i x cs hx hcs).1.1),?_⟩,by rw[g1];omega,fun x hx=>?_⟩
 ·cases hxs:xs with
  |nil=>exact .inl rfl
  |cons x0 r =>
   refine .inr ?_
   have h0:0<len:=by grind
   have hcss:0<css.length:=by omega
   have e0:=g3 0 xs[0] css[0] (List.getElem?_eq_getElem (by omega)) (List.getElem?_eq_getElem hcss)
   have hp:=t.sz_pos
   have hk0:0<css[0].length:=by omega
   have c0:=e0.2.1 0 css[0][0] (List.getElem?_eq_getElem hk0)
   rw[add2,show 0*t.sz+0=0 by omega]at c0
   obtain⟨hsp,s3⟩:=IC (show w.cell? a=_ from c0)
   refine⟨a.block,a.off,by rw[←hsp],s3,fun j u hu=>?_⟩
   obtain⟨i,k,cs,q1,q2,q3⟩:=wM hcl hu
   have hlt:i<xs.length:=by grind
   have c1:=(g3 i _ cs (List.getElem?_eq_getElem hlt) q2).2.1 k u q3
   rw[add2,hsp,IJ]at c1
   rw[q1]
   exact c1
 ·obtain⟨i,hi⟩:=List.getElem?_of_mem hx
  have hlt:i<css.length:=by grind
  exact(g3 i x _ hi (List.getElem?_eq_getElem hlt)).1.2
theorem Fi{n:Nat}{r:TypeId→Option Ty}(ih:∀T t,r T=some t→∀cs (x:DataW H×List MemPlace),DataW.trod enc P w 0 sp held n T cs=some x→KU w t cs){cs:List Value}:∀(fs:List Field) (off:Nat) (t:Ty),Jd P.cellsOf r off fs=some t →
  (∀f∈fs, ∃x,DataW.trod enc P w 0 sp held n f.type ((cs.drop f.offset).take (P.cellsOf f.type))=some x)→(cs.drop off).length=t.sz→KU w t (cs.drop off)
 |[],_,_,h,_,_=>by cases h
 |[f],off,t,h,hf,hl=>by
  simp only[Jd]at h
  split at h
  ·rename_i u hu
   cases q:(Nat.beq f.offset off&&Nat.beq (P.cellsOf f.type) u.sz)with
   |false=>simp_all
   |true =>
    rw[q]at h
    obtain rfl:=Option.some.inj h
    rw[Bool.and_eq_true]at q
    obtain⟨x,hx⟩:=hf f (List.mem_cons_self ..)
    rw[Nat.eq_of_beq_eq_true q.1,Nat.eq_of_beq_eq_true q.2,List.take_of_length_le (by omega)]at hx
    exact ih _ _ hu _ x hx
  ·cases h
 |f::g::l,off,t,h,hf,hl=>by
  simp only[Jd]at h
  split at h
  ·rename_i u hu
   cases q:(Nat.beq f.offset off&&Nat.beq (P.cellsOf f.type) u.sz)with
   |false=>simp_all
   |true =>
    rw[q]at h
    simp only[cond_true]at h
    rw[Bool.and_eq_true]at q
    split at h
    ·rename_i v hv
     obtain rfl:=Option.some.inj h
     obtain⟨x,hx⟩:=hf f (List.mem_cons_self ..)
     rw[Nat.eq_of_beq_eq_true q.1,Nat.eq_of_beq_eq_true q.2]at hx
     obtain⟨d1,r1,f1⟩:=ih _ _ hu _ x hx
     have hl2:(cs.drop (off+u.sz)).length=v.sz:=by
      rw[←List.drop_drop,List.length_drop,hl]
      show u.sz+v.sz-u.sz=_
      omega
     obtain⟨d2,r2,f2⟩:=Fi ih (g::l) (off+u.sz) v hv (fun y hy=>hf y (List.mem_cons_of_mem _ hy)) hl2
     refine⟨(d1,d2),⟨_,_,?_,r1,r2⟩,f1,f2⟩
     rw[←List.drop_drop,List.take_append_drop]
    ·cases h
  ·cases h
theorem oW:∀(n:Nat) (T:TypeId) (t:Ty),Cc P n T=some t→∀(fuel:Nat) (cs:List Value) (x:DataW H×List MemPlace),DataW.trod enc P w 0 sp held fuel T cs=some x→KU w t cs
 |0,_,_,h,_,_,_,_=>by cases h
 |n+1,T,t,h,fuel,cs,x,hx=>by
  unfold Cc at h
  split at h
  ·rename_i k hu
   obtain rfl:=Option.some.inj h
   obtain⟨m,rfl,_,hw⟩:=DataW.trod_int hu hx
   exact⟨m,rfl,hw⟩
  ·rename_i hu
   obtain rfl:=Option.some.inj h
   obtain⟨m,rfl,_⟩:=DataW.trod_bool hu hx
   exact⟨m,rfl,trivial⟩
  ·rename_i hu
   obtain rfl:=Option.some.inj h
   obtain⟨s,rfl,_,hs⟩:=DataW.trod_string hu hx
   exact⟨s,rfl,hs⟩
  ·rename_i e hu
   split at h
   ·rename_i u he
    cases q:Nat.beq (P.cellsOf e) u.sz with
    |false=>simp_all
    |true =>
     rw[q]at h
     obtain rfl:=Option.some.inj h
     rcases DataW.trod_slice hu hx with⟨rfl,_⟩|⟨a,len,cap,elems,rest,m,rfl,rfl,rfl,_,hl,hm,hlen,hel,_,_⟩
     ·exact⟨[],⟨none,0,[],rfl,Nat.le_refl _,trivial, .inl rfl⟩,Nat.zero_le _,fun x hx=>by cases hx⟩
     ·exact Lr (fun cs y hy=>oW n e u he m cs y hy) (Nat.eq_of_beq_eq_true q) hl hm hel (fun i hi=>by rw[List.getElem?_eq_getElem (by omega)];rfl)
   ·cases h
  ·rename_i fs hu
   split at h
   ·rename_i u hf
    cases q:Nat.beq (P.cellsOf T) u.sz with
    |false=>simp_all
    |true =>
     rw[q]at h
     obtain rfl:=Option.some.inj h
     obtain⟨xs,m,rfl,rfl,hcl,hxl,hel⟩:=DataW.trod_struct hu hx
     have:=Fi (P:=P) (fun T t ht cs y hy=>oW n T t ht m cs y hy) (cs:=cs) fs.toList 0 u hf (fun f hfm=>by
      obtain⟨i,hi⟩:=List.getElem?_of_mem hfm
      have hi':fs[i]?=some f:=by simpa using hi
      have hlt:i<xs.length:=by rw[hxl];exact(Array.getElem?_eq_some_iff.1 hi').1
      refine⟨xs[i],?_⟩
      rw[hel i f hi',List.getElem?_eq_getElem hlt]) (by rw[List.drop_zero,hcl];exact Nat.eq_of_beq_eq_true q)
     simpa using this
   ·cases h
  ·cases h
end
def flat:Ty→List Ty
 | .pr a b=>flat a++flat b
 | .int k=>[.int k]
 | .bool=>[.bool]
 | .str=>[.str]
 | .sl t=>[.sl t]
def AC:(t:Ty)→t.den→List DV
 | .pr a b,x=>AC a x.1++AC b x.2
 | .int k,x=>[⟨.int k,x⟩]
 | .bool,x=>[⟨.bool,x⟩]
 | .str,x=>[⟨.str,x⟩]
 | .sl t,x=>[⟨.sl t,x⟩]
def DV.cv (d:DV):CV := .v d.t d.x
theorem FR:∀(t:Ty) (x:t.den),(AC t x).map DV.t=flat t
 | .pr a b,x=>by simp only[AC,flat,List.map_append,FR a,FR b]
 | .int k,x=>rfl
 | .bool,x=>rfl
 | .str,x=>rfl
 | .sl t,x=>rfl
theorem v8:∀(t:Ty) (x:t.den),(AC t x).map DV.cv=split t x
 | .pr a b,x=>by simp only[AC,split,List.map_append,v8 a,v8 b]
 | .int k,x=>rfl
 | .bool,x=>rfl
 | .str,x=>rfl
 | .sl t,x=>rfl
theorem yv:∀(t:Ty) (x:t.den),wo t x→∀d∈AC t x,wo d.t d.x
 | .pr a b,x,h,d,hd=>by
  rcases List.mem_append.1 hd with q|q
  ·exact yv a _ h.1 d q
  ·exact yv b _ h.2 d q
 | .int k,x,h,d,hd=>by grind [wo,AC]
 | .bool,x,h,d,hd=>by grind [wo,AC]
 | .str,x,h,d,hd=>by grind [wo,AC]
 | .sl t,x,h,d,hd=>by grind [wo,AC]
theorem GM{t u:Ty}{r:List Ty}{d:DV}{ds:List DV}{x:t.den}{y:TD (u::r)}(h1:d.as t=some x) (h2:rO (u::r) ds=some y):rO (t::u::r) (d::ds)=some (x,y):=by
 unfold rO
 rw[h1,h2]
theorem zH:∀ds:List DV, ∃x,rO (ds.map DV.t) ds=some x
 |[]=>⟨(),rfl⟩
 |[d]=>⟨d.x,lb d.x⟩
 |d::e::r=>by
  obtain⟨x,hx⟩:=zH (e::r)
  exact⟨(d.x,x),GM (lb d.x) hx⟩
structure jy where
 t:Ty
 agg:Bool
 x:t.den
 u:Value
def jy.par (a:jy):DG:=bif a.agg then .g ((flat a.t).map .i)else .c (.i a.t)
def jy.dv (a:jy):List DV:=bif a.agg then AC a.t a.x else [⟨a.t,a.x⟩]
def jy.av (a:jy):AV:=bif a.agg then .g (split a.t a.x)else .c (.v a.t a.x)
def jy.ok (w:World) (a:jy):Prop:=wo a.t a.x∧(a.agg=true→∃vs,a.u = .agg vs.toArray∧dh (fun b=>b<w.heap.size) w a.t a.x vs)∧(a.agg=false→dh (fun b=>b<w.heap.size) w a.t a.x [a.u])
theorem zT (nm:Nat→PS→Nm):∀(ts:List Ty) (k:Nat) (ds:List DV),ds.length=ts.length→gF nm k (ts.map .i) ds=ds.map DV.cv∧ve nm k (ts.map .i) ds=[]
 |[],_,[],_=>⟨rfl,rfl⟩
 |[],_,_::_,h=>by cases h
 |_::_,_,[],h=>by cases h
 |t::ts,k,d::ds,h=>by
  obtain⟨h1,h2⟩:=zT nm ts (k+1) ds (by simpa using h)
  constructor
  ·simp_all [qv,gF,DV.cv,ve]
  ·trivial
def wS:Nat→List jy→List (Nat×AV)
 |_,[]=>[]
 |k,a::r=>(k,a.av)::wS (k+1) r
theorem Fy:∀(l:List jy) (k:Nat),cW (aw k (l.map jy.par)) (l.flatMap jy.dv)=wS k l∧fm (aw k (l.map jy.par)) (l.flatMap jy.dv)=[]∧be (aw k (l.map jy.par))=(l.flatMap jy.dv).map DV.t
 |[],_=>⟨rfl,rfl,rfl⟩
 |a::r,k=>by
  obtain⟨h1,h2,h3⟩:=Fy r (k+1)
  obtain⟨t,agg,x,u⟩:=a
  cases agg with
  |true =>
   have hl:(AC t x).length=(flat t).length:=by rw[←FR t x,List.length_map]
   have hl2:(AC t x).length=((flat t).map PS.i).length:=by rw[List.length_map];exact hl
   obtain⟨c1,c2⟩:=zT (sI k) (flat t) 0 (AC t x) hl
   refine⟨?_,?_,?_⟩
   ·show(k,AV.g (gF (sI k) 0 ((flat t).map PS.i) ((AC t x++r.flatMap jy.dv).take ((flat t).map PS.i).length)))::cW (aw (k+1) (r.map jy.par)) ((AC t x++r.flatMap jy.dv).drop ((flat t).map PS.i).length)=_
    rw[←hl2,List.take_left,List.drop_left,h1,c1,v8];rfl
   ·show ve (sI k) 0 ((flat t).map PS.i) ((AC t x++r.flatMap jy.dv).take ((flat t).map PS.i).length)++fm (aw (k+1) (r.map jy.par)) ((AC t x++r.flatMap jy.dv).drop ((flat t).map PS.i).length)=_
    rw[←hl2,List.take_left,List.drop_left,h2,c2];rfl
   ·show((flat t).map PS.i).map PS.ty++be (aw (k+1) (r.map jy.par))=(AC t x++r.flatMap jy.dv).map DV.t
    rw[h3,List.map_append,FR,List.map_map]
    congr 1
    exact(List.map_congr_left fun _ _=>rfl).trans (List.map_id _)
  |false =>
   refine⟨?_,?_,?_⟩
   ·show(k,AV.c (.v t x))::cW (aw (k+1) (r.map jy.par)) (r.flatMap jy.dv)=_
    rw[h1];rfl
   ·trivial
   ·show t::be (aw (k+1) (r.map jy.par))=t::(r.flatMap jy.dv).map DV.t
    rw[h3]
theorem zZ{L:Nm→Value}{I:Nat→Prop}{w:World}{A:Nm→Option (Nat×Nat)}:∀(l:List jy) (k i:Nat),(∀a∈l,RA L I w A a.av a.u)→RA L I w A (d5 (wS k l) (k+i)) ((l.map jy.u).getD i undef)
 |[],_,_,_=>trivial
 |a::r,k,0,h=>by
  simp_all [jy.av,d5,wS]
 |a::r,k,i+1,h=>by
  show RA L I w A (bif Nat.beq k (k+(i+1))then a.av else d5 (wS (k+1) r) (k+(i+1))) _
  rw[dR (by omega:k≠k+(i+1)),show k+(i+1)=(k+1)+i by omega]
  exact zZ r (k+1) i (fun b hb=>h b (List.mem_cons_of_mem _ hb))
theorem FB:∀(l:List jy) (k i:Nat),k+l.length≤i→d5 (wS k l) i = .c .dead
 |[],_,_,_=>rfl
 |a::r,k,i,h=>by
  show(bif Nat.beq k i then a.av else d5 (wS (k+1) r) i)=_
  have h:k+(r.length+1)≤i:=h
  rw[dR (by omega:k≠i)]
  exact FB r (k+1) i (by omega)
theorem wF:∀(l:List jy) (k:Nat),gq k (l.map jy.par)=[]
 |[],_=>rfl
 |a::r,k=>by
  obtain⟨t,agg,x,u⟩:=a
  have:=wF r (k+1)
  cases agg<;>exact this
def KX (ts:List Ty) (x:TD ts):Prop:=∀d∈ai ts x,wo d.t d.x
theorem vz{n:Nat}{xs:Array Value}(h:xs.size≤n):first n xs=xs:=by
 grind [first]
theorem Ie{P:Program}{K:fN}{f:FuncId}{pars:List DG}{g:Nat→TD (be (aw 0 pars))→Option (TD (be (dA pars [(false,[.i .bool])] [])))}
  (obs:∀n,nL P K f { pars:=pars,res:=[(false,[.i .bool])],g:=g n }) (pure:∀x,KX _ x→∃n r,g n x=some r∧ai _ r=[⟨.bool,true⟩])
  {W:World}(hK:K.ok W) (hKb:∀b,K.blk b→b<W.heap.size){l:List jy}(hl:l.map jy.par=pars) (hok:∀a∈l,a.ok W) :
  Calls P f (l.map jy.u).toArray W fun e w'=>e = .returned (.bool true)∧RowKit.Below W.heap.size W w':=by
 subst hl
 obtain⟨m1,m2,m3⟩:=Fy l 0
 obtain⟨x,hx⟩:∃x,rO (be (aw 0 (l.map jy.par))) (l.flatMap jy.dv)=some x:=by
  rw[m3];exact zH _
 have hux:=nu hx
 obtain⟨n,r,hr,hur⟩:=pure x (fun d hd=>by
  rw[hux]at hd
  obtain⟨a,ha,hd⟩:=List.mem_flatMap.1 hd
  have hf:=(hok a ha).1
  obtain⟨t,agg,y,u⟩:=a
  cases agg with
  |true=>exact yv t y hf d hd
  |false=>obtain rfl:=List.mem_singleton.1 hd;exact hf)
 let Y:rN:={ K:=K,N:=l.length,w0:=W,E:=fun _ _=>False,I0:=fun b=>b<W.heap.size }
 have hst:eN (aw 0 (l.map jy.par)) x=⟨d5 (wS 0 l),fun _=>none⟩:=by
  unfold eN G2
  rw[hux,m1,m2]
  rfl
 have hrel:bJ Y (fun _=>undef) (fun b=>b<W.heap.size) (eN (aw 0 (l.map jy.par)) x) ⟨(l.map jy.u).toArray,[]⟩ W:=by
  rw[hst]
  refine⟨rfl,by simp[Y],fun i hi=>?_,fun i hi=>FB l 0 i (by show 0+l.length≤i;have:l.length≤i:=hi;omega),fun _ _ h=>(by cases h),fun _ _ _ _ h=>(by cases h),fun _ _ h=>(by cases h),fun b hb=>⟨hb, .inl hb⟩,fun b hb=>hb,ct.refl _ _,hK,hKb⟩
  have:=zZ (L:=fun _=>undef) (I:=fun b=>b<W.heap.size) (w:=W) (A:=AL (fun _=>none)) l 0 i (fun a ha=>by
   obtain⟨_,h2,h3⟩:=hok a ha
   obtain⟨t,agg,y,u⟩:=a
   cases agg with
   |true=>obtain⟨vs,h4,h5⟩:=h2 rfl;exact⟨vs,h4,fO t h5⟩
   |false=>exact h3 rfl)
  rw[Nat.zero_add]at this
  simpa using this
 have hc:=obs n Y _ _ ⟨(l.map jy.u).toArray,[]⟩ W x r hr hrel rfl (by simp[Y]) rfl
 rw[show first (aa.real { pars:=l.map jy.par,res:=[(false,[.i .bool])],g:=g n }) (⟨(l.map jy.u).toArray,[]⟩:Act).tmps=(l.map jy.u).toArray from vz (by unfold aa.real;simp)]at hc
 refine hc.mono fun e w' h=>?_
 obtain⟨v,L',I',a',rfl,hR,_,rfl⟩:=h
 have hs:=hR.slot (l.map jy.par).length
 have hlk:(eN (aa.ens { pars:=l.map jy.par,res:=[(false,[.i .bool])],g:=g n }) r).t (l.map jy.par).length = .c (.v .bool true):=by
  unfold eN G2
  rw[show ai (be (aa.ens { pars:=l.map jy.par,res:=[(false,[.i .bool])],g:=g n })) r=[⟨.bool,true⟩]from hur]
  show d5 (cW (gq 0 (l.map jy.par)++_) _) _=_
  rw[wF]
  show(bif Nat.beq (l.map jy.par).length (l.map jy.par).length then _ else _)=_
  rw[Nat.beq_refl];rfl
 rw[hlk]at hs
 have hs:a'.tmps.getD (l.map jy.par).length undef = .bool true:=List.head_eq_of_cons_eq hs
 exact⟨congrArg Ending.returned hs,ct.below hR.step⟩
def DV.val:DV→Value
 |⟨.int k,n⟩ => .int k n
 |⟨.bool,b⟩ => .bool b
 |⟨.str,s⟩ => .string s
 |_=>undef
def Js:List Value→Value
 |[v]=>v
 |vs => .tuple vs.toArray
def Ty.one:Ty→Bool
 | .int _=>true
 | .bool=>true
 | .str=>true
 |_=>false
def de (ts:List Ty):List DG:=ts.map fun t => .c (.i t)
def dO (ts:List PS):List (Bool×List PS):=ts.map fun p=>(false,[p])
def PS.outs:PS→Bool
 | .i t=>t.one
 | .e=>true
 |_=>false
def X6 (p:PS) (d:DV) (v:Value):Prop:=match p with
 | .e=>∃b,d.as .bool=some b∧match b with
  |true=>∃t x,v = .iface t x
  |false=>v = .nilIface
 |_=>v=DV.val d
def zi:List PS→List DV→List Value→Prop
 |[],[],[]=>True
 |p::ps,d::ds,v::vs=>X6 p d v∧zi ps ds vs
 |_,_,_=>False
theorem zi.len:∀{ps:List PS}{ds:List DV}{vs:List Value},zi ps ds vs→ds.length=ps.length∧vs.length=ps.length
 |[],[],[],_=>⟨rfl,rfl⟩
 |_::_,_::_,_::_,h=>by obtain⟨g1,g2⟩:=zi.len h.2;exact⟨by simp[g1],by simp[g2]⟩
 |[],[],_::_,h=>h.elim
 |[],_::_,_,h=>h.elim
 |_::_,[],_,h=>h.elim
 |_::_,_::_,[],h=>h.elim
theorem zi.get:∀{ps:List PS}{ds:List DV}{vs:List Value},zi ps ds vs→∀{i:Nat}{p:PS}{d:DV},ps[i]?=some p→ds[i]?=some d→∃v,vs[i]?=some v∧X6 p d v
 |[],_,_,_,_,_,_,h,_=>by cases h
 |_::_,_::_,v::_,h,0,_,_,e,e2=>by simp_all [kL.get,zi,X6]
 |_::_,_::_,_::_,h,i+1,_,_,e,e2=>zi.get h.2 (i:=i) e e2
 |_::_,[],_,h,_,_,_,_,_=>h.elim
 |_::_,_::_,[],h,_,_,_,_,_=>h.elim
theorem Fo{t:Ty}(h:t.one=true){x:t.den}{u:Value}{I:Nat→Prop}{w:World}:dh I w t x [u]↔u=DV.val ⟨t,x⟩:=by
 cases t with
 |int k=>simp_all [Ty.one,dh,DV.val]
 |bool=>simp_all [Ty.one,dh,DV.val]
 |str=>simp_all [Ty.one,dh,DV.val]
 |sl t=>cases h
 |pr a b=>cases h
theorem tv:∀(ts:List Ty) (k:Nat),be (aw k (de ts))=ts
 |[],_=>rfl
 |t::ts,k=>congrArg (t::·) (tv ts (k+1))
theorem pA:∀(ts:List PS) (k:Nat),be (lH k (dO ts))=ts.map PS.ty
 |[],_=>rfl
 |t::ts,k=>congrArg (t.ty::·) (pA ts (k+1))
theorem wE:∀(ts:List Ty) (k:Nat),gq k (de ts)=[]
 |[],_=>rfl
 |t::ts,k=>wE ts (k+1)
theorem lz (ps:List Ty) (rs:List PS):dA (de ps) (dO rs) []=lH ps.length (dO rs):=by
 grind [dA,wE,de,CU,dO]
def xx:Nat→List DV→List (Nat×AV)
 |_,[]=>[]
 |k,d::r=>(k, .c (.v d.t d.x))::xx (k+1) r
theorem Fx:∀(ts:List Ty) (k:Nat) (ds:List DV),ds.length=ts.length→cW (aw k (de ts)) ds=xx k ds∧fm (aw k (de ts)) ds=[]
 |[],_,[],_=>⟨rfl,rfl⟩
 |[],_,_::_,h=>by cases h
 |_::_,_,[],h=>by cases h
 |t::ts,k,d::ds,h=>by
  obtain⟨h1,h2⟩:=Fx ts (k+1) ds (by simpa using h)
  exact⟨congrArg ((k,AV.c (.v d.t d.x))::·) h1,h2⟩
def JB:PS→DV→CV
 | .e,d=>match d.as .bool with
  |some b => .er b
  |none => .dead
 |_,d => .v d.t d.x
def od:Nat→List PS→List DV→List (Nat×AV)
 |k,p::ps,d::r=>(k, .c (JB p d))::od (k+1) ps r
 |_,_,_=>[]
theorem Fw:∀(ts:List PS) (k:Nat) (ds:List DV),ts.all PS.outs=true→ds.length=ts.length→cW (lH k (dO ts)) ds=od k ts ds∧fm (lH k (dO ts)) ds=[]
 |[],_,[],_,_=>⟨rfl,rfl⟩
 |[],_,_::_,_,h=>by cases h
 |_::_,_,[],_,h=>by cases h
 |t::ts,k,d::ds,ho,h=>by
  rw[List.all_cons,Bool.and_eq_true]at ho
  obtain⟨h1,h2⟩:=Fw ts (k+1) ds ho.2 (by simpa using h)
  have hc:∀nm,qv nm t d=JB t d∧yZ nm t d=[]:=fun nm=>by
   cases t with
   |i t=>trivial
   |e=>trivial
   |_=>cases ho.1
  constructor
  ·show(k,Oh (.val k t) (d::ds.take 0))::cW (lH (k+1) (dO ts)) ds=(k, .c (JB t d))::od (k+1) ts ds
   rw[h1]
   congr 2
   exact congrArg AV.c (hc _).1
  ·show(yZ _ t d++[])++fm (lH (k+1) (dO ts)) ds=[]
   rw[h2,(hc _).2];rfl
theorem vg:∀(ps:List PS) (ds:List DV) (k i:Nat),d5 (od k ps ds) (k+i)=match ps[i]?,ds[i]? with|some p,some d => .c (JB p d)|_,_ => .c .dead
 |[],_,_,_=>rfl
 |p::ps,[],k,i=>by cases(p::ps)[i]?<;>rfl
 |p::ps,d::ds,k,0=>by
  simp_all [d5,od,JB]
 |p::ps,d::ds,k,i+1=>by
  show(bif Nat.beq k (k+(i+1))then _ else d5 (od (k+1) ps ds) (k+(i+1)))=_
  rw[dR (by omega:k≠k+(i+1)),show k+(i+1)=(k+1)+i by omega]
  exact vg ps ds (k+1) i
theorem C8:∀(ps:List PS) (ds:List DV) (k i:Nat),i<k→d5 (od k ps ds) i = .c .dead
 |[],_,_,_,_=>rfl
 |_::_,[],_,_,_=>rfl
 |p::ps,d::ds,k,i,h=>by
  show(bif Nat.beq k i then _ else d5 (od (k+1) ps ds) i)=_
  rw[dR (by omega:k≠i)]
  exact C8 ps ds (k+1) i (by omega)
theorem zY:∀(ds:List DV) (k i:Nat),d5 (xx k ds) (k+i)=match ds[i]? with|some d => .c (.v d.t d.x)|none => .c .dead
 |[],_,_=>rfl
 |d::ds,k,0=>by
  simp_all [d5,xx]
 |d::ds,k,i+1=>by
  show(bif Nat.beq k (k+(i+1))then _ else d5 (xx (k+1) ds) (k+(i+1)))=_
  rw[dR (by omega:k≠k+(i+1)),show k+(i+1)=(k+1)+i by omega]
  exact zY ds (k+1) i
theorem oL:∀(ts:List Ty) (x:TD ts),(ai ts x).length=ts.length
 |[],_=>rfl
 |[t],_=>rfl
 |t::u::r,x=>congrArg (·+1) (oL (u::r) x.2)
theorem xy:∀(ts:List Ty) (x:TD ts) (i:Nat) (d:DV),(ai ts x)[i]?=some d→ts[i]?=some d.t
 |[],_,_,_,h=>by cases h
 |[t],x,0,d,h=>by grind [ai]
 |[t],x,i+1,d,h=>by cases h
 |t::u::r,x,0,d,h=>by grind [ai]
 |t::u::r,x,i+1,d,h=>xy (u::r) x.2 i d h
theorem xW{P:Program}{K:fN}{f:FuncId}{ps:List Ty}{rs:List PS}(hp:ps.all Ty.one=true) (hr:rs.all PS.outs=true){g:TD (be (aw 0 (de ps)))→Option (TD (be (dA (de ps) (dO rs) [])))}
  (h:∀w x r,g x=some r→K.ok w→Calls P f ((ai _ x).map DV.val).toArray w fun e w'=>∃vs,e = .returned (Js vs)∧zi rs (ai _ r) vs∧ct (fun _ _=>False) w w') :
  nL P K f { pars:=de ps,res:=dO rs,g:=g }:=by
 intro Y L I a w x r hx hR hK hY hw
 have hxl:(ai _ x).length=ps.length:=by rw[oL,tv]
 have hrl:(ai _ r).length=rs.length:=by rw[oL,lz,pA,List.length_map]
 have hN:Y.N=ps.length:=hY.trans (List.length_map ..)
 have hxo:∀(i:Nat) (d:DV),(ai _ x)[i]?=some d→d.t.one=true:=fun i d hd=>by
  have:=xy _ x i d hd
  rw[tv]at this
  exact List.all_eq_true.1 hp _ (List.mem_of_getElem? this)
 have hro:∀(i:Nat) (d:DV),(ai _ r)[i]?=some d→∃p,rs[i]?=some p∧p.ty=d.t∧p.outs=true:=fun i d hd=>by
  have:=xy _ r i d hd
  rw[lz,pA,List.getElem?_map]at this
  cases e:rs[i]? with
  |none=>simp_all
  |some p=>grind
 obtain⟨m1,m2⟩:=Fx ps 0 (ai _ x) hxl
 have htm:a.tmps=((ai _ x).map DV.val).toArray:=by
  refine Array.ext (by rw[hR.size,hN];simp[hxl]) fun i hi _=>?_
  have hi':i<ps.length:=by rw[hR.size,hN]at hi;exact hi
  have hs:=hR.slot i
  have hd:(ai _ x)[i]?=some (ai _ x)[i]:=List.getElem?_eq_getElem (by omega)
  have hlk:(eN (aw 0 (de ps)) x).t i = .c (.v ((ai _ x)[i]).t ((ai _ x)[i]).x):=by
   show d5 (cW _ _) i=_
   rw[m1]
   have:=zY (ai _ x) 0 i
   rw[Nat.zero_add,hd]at this
   exact this
  have hs:RA L I w (AL (eN (aw 0 (de ps)) x).o) ((eN (aw 0 (de ps)) x).t i) (a.tmps.getD i undef):=hs
  rw[hlk]at hs
  have:=(Fo (hxo i _ hd)).1 hs
  rw[Array.getD_eq_getD_getElem?,Array.getElem?_eq_getElem hi]at this
  simp only[Option.getD_some]at this
  rw[this]
  simp
 rw[show first (aa.real { pars:=de ps,res:=dO rs,g:=g }) a.tmps=a.tmps from vz (by unfold aa.real;rw[hR.size,hY];exact Nat.le_refl _),htm]
 subst hK
 refine(h w x r hx hR.glob.1).mono fun e w' hp'=>?_
 obtain⟨vs,rfl,hov,hst⟩:=hp'
 have h1:=hR.grows hst
 have hvl:=hov.len.2
 refine⟨_,L,I,⟨((ai _ x).map DV.val++vs).toArray,[]⟩,rfl,?_,fun _ _=>rfl,?_⟩
 ·obtain⟨k1,k2⟩:=Fw rs ps.length (ai _ r) hr hrl
  have hst2:eN (aa.ens { pars:=de ps,res:=dO rs,g:=g }) r=⟨d5 (od ps.length rs (ai _ r)),fun _=>none⟩:=by
   show G2 (dA (de ps) (dO rs) []) (ai _ r)=_
   unfold G2
   rw[show cW (dA (de ps) (dO rs) []) (ai (be (dA (de ps) (dO rs) [])) r)=od ps.length rs (ai _ r)by rw[←k1];congr 1;exact lz ps rs]
   rw[show fm (dA (de ps) (dO rs) []) (ai (be (dA (de ps) (dO rs) [])) r)=[]by rw[←k2];congr 1;exact lz ps rs]
   rfl
  have hlen:(de ps).length+((dO rs).length+0)=ps.length+rs.length:=by simp_all [de,dO]
  rw[hst2]
  refine⟨rfl,by simp[hxl,hvl];exact hlen.symm,fun i hi=>?_,fun i hi=>?_,fun _ _ q=>(by cases q),fun _ _ _ _ q=>(by cases q),fun _ _ q=>(by cases q),h1.imm,h1.sub,h1.step,h1.glob⟩
  ·have hi:i<ps.length+rs.length:=by rw[←hlen];exact hi
   rcases Nat.lt_or_ge i ps.length with q|q
   ·have hd:=C8 rs (ai (be (dA (de ps) (dO rs) [])) r) ps.length i q
    show RA L I w' _ (d5 (od ps.length rs (ai (be (dA (de ps) (dO rs) [])) r)) i) _
    rw[hd];trivial
   ·have hd:(ai _ r)[i-ps.length]?=some (ai _ r)[i-ps.length]:=List.getElem?_eq_getElem (by omega)
    have:=vg rs (ai _ r) ps.length (i-ps.length)
    obtain⟨p,hp1,hp2,hp3⟩:=hro _ _ hd
    rw[hd,hp1,show ps.length+(i-ps.length)=i by omega]at this
    show RA L I w' _ (d5 (od ps.length rs (ai (be (dA (de ps) (dO rs) [])) r)) i) _
    rw[this]
    obtain⟨v,hv1,hv2⟩:=hov.get hp1 hd
    have hval:(((ai _ x).map DV.val++vs).toArray).getD i undef=v:=by
     have hxl':((ai (be (aw 0 (de ps))) x).map DV.val).length=ps.length:=(List.length_map ..).trans hxl
     rw[Array.getD_eq_getD_getElem?,List.getElem?_toArray,List.getElem?_append_right (by rw[hxl'];exact q),hxl',hv1];rfl
    rw[hval]
    cases p with
    |i t =>
     have ht:(ai _ r)[i-ps.length].t.one=true:=by rw[←hp2];exact hp3
     exact(Fo ht).2 hv2
    |e =>
     obtain⟨b,hb1,hb2⟩:=hv2
     show RC L I w' _ (match DV.as .bool _ with|some b => .er b|none => .dead) v
     rw[hb1];exact hb2
    |_=>cases hp3
  ·have hi:ps.length+rs.length≤i:=by rw[←hlen];exact hi
   show d5 (od ps.length rs (ai _ r)) i=_
   have:=vg rs (ai _ r) ps.length (i-ps.length)
   rw[show ps.length+(i-ps.length)=i by omega,List.getElem?_eq_none (by omega:rs.length≤i-ps.length)]at this
   exact this
 ·have hl:(de ps).length=ps.length:=List.length_map ..
  have hl2:(dO rs).length=rs.length:=List.length_map ..
  have at_:∀j,j<rs.length→(((ai _ x).map DV.val++vs).toArray).getD (ps.length+j) undef=vs.getD j undef:=by
   simp_all
  show _=Co ⟨_,[]⟩ (de ps).length (dO rs).length
  rw[hl,hl2]
  clear hov
  match vs,hvl with
  |[],hml =>
   have:rs.length=0:=hml.symm
   rw[this];rfl
  |[v],hml =>
   have:rs.length=1:=hml.symm
   rw[this]
   exact(at_ 0 (by omega)).symm
  |v::u::t,hml =>
   have hz:rs.length=t.length+1+1:=hml.symm
   rw[hz]
   show Value.tuple (v::u::t).toArray=Value.tuple ((List.range (t.length+1+1)).map fun j=>Array.getD _ (ps.length+j) undef).toArray
   congr 2
   refine List.ext_getElem (by simp) fun i h1 h2=>?_
   rw[List.getElem_map,List.getElem_range]
   have h1':i<rs.length:=by omega
   rw[at_ i h1',List.getD_eq_getElem?_getD,List.getElem?_eq_getElem h1];rfl
theorem JA:∀{rs:List Ty}{ds:List DV},ds.length=rs.length→zi (rs.map .i) ds (ds.map DV.val)
 |[],[],_=>trivial
 |[],_::_,h=>by cases h
 |_::_,[],h=>by cases h
 |_::rs,_::ds,h=>⟨rfl,JA (rs:=rs) (ds:=ds) (by simpa using h)⟩
theorem wG{P:Program}{K:fN}{f:FuncId}{ps rs:List Ty}(hp:ps.all Ty.one=true) (hr:rs.all Ty.one=true){g:TD (be (aw 0 (de ps)))→Option (TD (be (dA (de ps) (dO (rs.map .i)) [])))}
  (h:∀w x r,g x=some r→K.ok w→Calls P f ((ai _ x).map DV.val).toArray w fun e w'=>e = .returned (Js ((ai _ r).map DV.val))∧ct (fun _ _=>False) w w') :
  nL P K f { pars:=de ps,res:=dO (rs.map .i),g:=g }:=by
 refine xW hp (by rw[List.all_map];exact hr) fun w x r hx hw=>(h w x r hx hw).mono fun e w' hq=>⟨_,hq.1,?_,hq.2⟩
 exact JA (by rw[oL,lz,pA,List.length_map,List.length_map])
end AM
end Go.Proofs.YtpgigedclifoeaaGreatDoor
