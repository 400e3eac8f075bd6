/- From a law's calls to what a row asks. No condition. And what follows it: see the remarks. -/
import Derived.Test.YtlkgapiohfgenaaGreatDoorJW3
import Derived.WideShapes
import Derived.RowKit
import Derived.WideKeyArgs
import Derived.ChangeOld
import Derived.Lib.LaidTab
import Derived.Sort.Grow
import Derived.Deep.Draws
import Derived.ChangeCalls
namespace Go.Proofs.YtlkgapiohfgenaaGreatDoor
namespace AM
open Go
set_option linter.unusedVariables false
set_option linter.unusedSimpArgs false
def eB.of (W:World):eB where
 blk:=fun b=>b<W.heap.size
 ok:=fun w=>∀b,b<W.heap.size→w.heap[b]?=W.heap[b]?
 keep:=fun w w' h k b hb=>((k b hb).2).trans (h b hb)
theorem eB.of_cell{W w:World}(h:(eB.of W).ok w){b off:Nat}{u:Value}(hu:W.cell? ⟨b,off,none⟩=some u):w.cell? ⟨b,off,none⟩=some u:=by
 have hb:=World.block_lt_of_cell? W ⟨b,off,none⟩ hu
 rw[World.cell?_of_block (w:=W) (a:=⟨b,off,none⟩) (h b hb)];exact hu
theorem eB.of_tab{P:Program}{W w:World}(h:(eB.of W).ok w){name:String}{k:IntKind}{zs:List Int}(ht:Lib.TabIs P W name k zs):Lib.TabIs P w name k zs:=by
 unfold Lib.TabIs World.var? at ht ⊢
 cases hg:P.globalNamed name with
 |none=>simp_all
 |some g =>
  grind [eB.of,jo.ok]
theorem bN.drewN (w:World) (n:Nat):bN (fun _ _=>False) w (w.drewN n):=⟨rfl,rfl,rfl,Nat.le_refl _,fun _ _=>ee.refl _ _⟩
theorem bN.grow (w:World) (os:Array Go.Obj):bN (fun _ _=>False) w (Sort.grow w os) :=
 ⟨rfl,rfl,rfl,by show w.heap.size≤(w.heap++os).size;simp,fun b hb=>ee.of_eq (by show(w.heap++os)[b]?=w.heap[b]?;rw[Array.getElem?_append_left hb])⟩
def IW (P:Program) (n:Nat):List TypeId→Option (List (Ty×Bool))
 |[]=>some []
 |T::r=>match AI P n T,P.underlying T,IW P n r with
  |some t,some d,some l=>some ((t,t9 d)::l)
  |_,_,_=>none
section
variable{H:Type}{enc:TypeId×Value→H}{P:Program}{W:World}{sp:Nat→Bool}{held:Bool}
theorem Ly{n T:Nat}{t:Ty}{d:TypeDesc}(ht:AI P n T=some t) (hd:P.underlying T=some d){base:Nat}{v:Value}(hv:Value.okWide P W .any base T v){x:DataW H}{ps:List MemPlace}(h:DataW.Trod enc P W 0 sp held T v x ps) :
  ∃a:jo,a.t=t∧a.agg=t9 d∧a.u=v∧a.ok W:=by
 obtain⟨fuel,hf⟩:=h
 obtain⟨y,hr,hfit⟩:=ot n T t ht fuel _ _ hf
 refine⟨⟨t,t9 d,y,v⟩,rfl,rfl,rfl,hfit,fun q=>?_,fun q=>?_⟩
 ·have q:t9 d=true:=q
  cases d with
  |struct fs =>
   obtain⟨cs,rfl,_⟩:=WideShapes.okWide_struct hd hv
   exact⟨cs.toList,by simp,hr⟩
  |array m e =>
   exfalso
   cases n with
   |zero=>cases ht
   |succ n=>unfold AI at ht;rw[hd]at ht;cases ht
  |_=>cases q
 ·have q:t9 d=false:=q
  have hc:v.cells.toList=[v]:=by
   cases n with
   |zero=>cases ht
   |succ n =>
    unfold AI at ht
    rw[hd]at ht
    cases d with
    |bool=>obtain⟨b,rfl⟩:=WideShapes.okWide_bool hd hv;rfl
    |int k=>obtain⟨m,rfl⟩:=WideShapes.okWide_int hd hv;rfl
    |string=>obtain⟨s,rfl⟩:=WideShapes.okWide_string hd hv;rfl
    |slice e=>obtain⟨a,l,c,rfl⟩:=WideShapes.okWide_slice hd hv;rfl
    |struct fs=>cases q
    |_=>cases ht
  rw[hc]at hr
  exact hr
theorem Ef{n base:Nat}:∀{Ts:List TypeId}{vs:List Value}{ds:List (DataW H)}{ps:List MemPlace}{l:List (Ty×Bool)},IW P n Ts=some l→DataW.TrodAll enc P W 0 sp held Ts vs ds ps →
  (∀(j:Nat) t v,Ts[j]?=some t→vs[j]?=some v→Value.okWide P W .any base t v)→∃as:List jo,as.map (fun a=>(a.t,a.agg))=l∧as.map jo.u=vs∧∀a∈as,a.ok W
 |[],vs,ds,ps,l,hs,h,_=>by
  obtain rfl:=Option.some.inj hs
  obtain⟨rfl,_,_⟩:=ChangeShapes.trodAll_nil h
  exact⟨[],rfl,rfl,fun a ha=>by cases ha⟩
 |T::Ts,vs,ds,ps,l,hs,h,hv=>by
  obtain⟨v,vs',d,ds',p,q,rfl,rfl,rfl,h0,h1⟩:=ChangeShapes.trodAll_cons h
  simp only[IW]at hs
  split at hs
  ·rename_i t dd l' e1 e2 e3
   obtain rfl:=Option.some.inj hs
   obtain⟨a,a1,a2,a3,a4⟩:=Ly e1 e2 (hv 0 T v rfl rfl) h0
   obtain⟨as,b1,b2,b3⟩:=Ef e3 h1 (fun j t v ht hv'=>hv (j+1) t v ht hv')
   refine⟨a::as,?_,?_,fun x hx=>?_⟩
   ·simp_all
   ·simp_all
   ·grind
  ·cases hs
theorem qW{W':World}(hl:laidOutB P=true) (hb:RowKit.Below W.heap.size W W'){sp':Nat→Bool}:∀{Ts:List TypeId}{vs:List Value}{ds:List (DataW H)}{ps:List MemPlace},Ts.all (fun t=>P.readableRec t&&decide (t<P.types.size))=true →
  DataW.TrodAll enc P W 0 (fun _=>true) true Ts vs ds ps→(∀p∈ps,p.block<W.heap.size)→(∀p∈ps,sp' p.block=true)→DataW.TrodAll enc P W' 0 sp' true Ts vs ds ps
 |[],_,_,_,_,h,_,_=>by
  obtain⟨rfl,rfl,rfl⟩:=ChangeShapes.trodAll_nil h
  exact ChangeShapes.trodAll_mk0
 |T::Ts,_,_,_,hr,h,hlt,hsp=>by
  obtain⟨v,vs',d,ds',p,q,rfl,rfl,rfl,h0,h1⟩:=ChangeShapes.trodAll_cons h
  rw[List.all_cons,Bool.and_eq_true,Bool.and_eq_true]at hr
  obtain⟨⟨hr1,hr2⟩,hr3⟩:=hr
  refine⟨p,q,WideElems.Trod_stays hl hr1 (of_decide_eq_true hr2) h0 (fun x hx=>hb.same (hlt x (List.mem_append_left _ hx))) (fun x hx=>hsp x (List.mem_append_left _ hx)),?_,rfl⟩
  exact qW hl hb hr3 h1 (fun x hx=>hlt x (List.mem_append_right _ hx)) (fun x hx=>hsp x (List.mem_append_right _ hx))
theorem GN{f:Func}{s:ChangeSpec}{B:TypeId}{W':World}{args:Array Value}{ds gs:List (DataW H)}{before:List MemPlace}(hvars:s.vars=[]) (hfn:∀l:List (DataW H),l.length=f.params.size→s.fn H l={ results:=[.lit (.bool true)],args:=l })
  (hrt:f.resultTypes=#[B]) (hB:P.underlying B=some .bool) (hl:laidOutB P=true) (hrd:f.params.toList.all (fun t=>P.readableRec t&&decide (t<P.types.size))=true)
  (hW:DataW.Whole enc P f.params.toList s.vars false W args.toList ds gs before) (hb:RowKit.Below W.heap.size W W'):s.post enc P f false true false false W args (.bool true) W':=by
 have hlt:=hW.lt
 have hW0:=hW
 obtain⟨p,q,hA,hV,rfl,hz,_⟩:=hW
 rw[hvars]at hV
 obtain⟨rfl,rfl⟩:=ChangeShapes.trodVars_none hV
 have hlen:ds.length=f.params.size:=by
  have:=(trodAll_length hA).2
  simpa using this
 have hfn':=hfn (ds++[]) (by simpa using hlen)
 refine⟨ds,[],p++[],[],p,[],hW0,?_,?_,?_,⟨hb.os,hb.output,fun i hi=>?_⟩,fun h=>by cases h⟩
 ·rw[hfn',hrt]
  exact ChangeShapes.trodAll_mk1 (RowKit.shut_bool hB true)
 ·rw[hfn']
  show DataW.TrodAll enc P W' 0 _ true f.params.toList args.toList (ds++[]) p
  rw[List.append_nil]
  have hlt':∀x∈p,x.block<W.heap.size:=fun x hx=>hlt x (List.mem_append_left _ hx)
  exact qW hl hb hrd hA hlt' (fun x hx=>by simpa using hlt' x hx)
 ·rw[hfn',hvars];rfl
 ·rw[hb.block i hi]
  cases W.heap[i]? with
  |none=>trivial
  |some o=>cases o<;>first|exact⟨rfl,rfl,rfl,fun _ _=>rfl⟩|exact .inr ⟨rfl,rfl⟩|rfl
end
theorem jk{P:Program}{w:World}:∀{laid:List (String×DataW Unit)}{name:String}{d:DataW Unit},laidMet P laid w→(name,d)∈laid→laidMet P [(name,d)] w:=by
 have vars:∀{laid:List (String×DataW Unit)}{ps:List MemPlace}{name:String}{d:DataW Unit},DataW.LaidVars P w laid ps→(name,d)∈laid→∃qs,DataW.LaidVars P w [(name,d)] qs∧qs.Sublist ps:=by
  intro laid
  induction laid with
  |nil=>simp_all
  |cons x r ih =>
   intro ps name d h hm
   obtain⟨g,t,cs,fuel,p,q,h1,h2,h3,h4,h5,h6⟩:=h
   rcases List.mem_cons.1 hm with rfl|hm
   ·refine⟨_,⟨g,t,cs,fuel,p,[],h1,h2,h3,h4,rfl,rfl⟩,?_⟩
    rw[h6]
    rw[List.append_nil]
    exact List.sublist_append_left ..
   ·grind
 intro laid name d h hm
 obtain⟨ps,h1,h2,h3⟩:=h
 obtain⟨qs,k1,k2⟩:=vars h1 hm
 exact⟨qs,k1,h2.sublist k2,fun b off hq=>h3 b off (k2.subset hq)⟩
def wy (t:Ty) (el:Nat) (g:List t.den→Option (List t.den)):aa:={ pars:=[.c (.i (.sl t))],gh:=[],nb:=[],res:=[(false,[.o el t])],g:=g }
theorem ym{P:Program}{K:eB}{f:FuncId}{t:Ty}{el:Nat}{g:List t.den→Option (List t.den)}
  (h:∀(w:World) (I:Nat→Prop) (xs r:List t.den) (u:Value),g xs=some r→K.ok w→(∀b,I b→b<w.heap.size)→cS I w (.sl t) xs [u] →
   Calls P f #[u] w fun e w'=>∃v' vs,e = .returned v'∧w'.ownsRow w.heap.size el t.sz v' r.length vs∧bO I w t r vs∧bN (fun _ _=>False) w w') :
  mM P K f (wy t el g):=by
 intro Y L I a w x r hx hR hK hY hw
 have hN:Y.N=1:=hY
 have hsz:a.tmps.size=1:=hR.size.trans hN
 have hu:cS I w (.sl t) x [a.tmps.getD 0 undef]:=hR.slot 0
 have hI:∀b,I b→b<w.heap.size:=fun b hb=>(hR.imm b hb).1
 have htm:a.tmps=#[a.tmps.getD 0 undef]:=by
  refine Array.ext (by simp[hsz]) fun i hi _=>?_
  obtain rfl:i=0:=by omega
  rw[Array.getD_eq_getD_getElem?,Array.getElem?_eq_getElem hi];rfl
 subst hK
 rw[show first (aa.real (wy t el g)) a.tmps=a.tmps from kC (by rw[hsz];exact Nat.le_refl _),htm]
 refine(h w I x r _ hx hR.glob.1 hI hu).mono fun e w' hp=>?_
 obtain⟨v',vs,rfl,hown,hf,hst⟩:=hp
 have g1:=hR.grows hst
 have hsm:ki I w w':=fun b hb=>hst.same (hI b hb) (fun _ q=>q)
 have hsl:∃a l c,v' = .slice a l c:=by
  rcases hown.2 with⟨e,_⟩|⟨g,cap,cur,e,_⟩
  ·grind
  ·grind
 have hmk:eC (aa.ens (wy t el g)) r=⟨dt [(1, .c (.own [1,0]))],bf [([1,0], .arr el t r)]⟩:=by
  have ha:tE [1,0] el t ⟨.sl t,r⟩=[([1,0], .arr el t r)]:=by
   grind [tE,DV.as,la]
  show St.mk _ (bf ((tE [1,0] el t ⟨.sl t,r⟩++[])++[]))=_
  rw[ha];rfl
 refine⟨_,fun n=>bif Nm.eqb n [1,0]then v' else L n,I,⟨#[a.tmps.getD 0 undef,v'],[]⟩,rfl,?_,fun n hn=>?_,rfl⟩
 ·rw[hmk]
  have one:∀{n:Nm}{ob:Ob},bf [([1,0],Ob.arr el t r)] n=some ob→n=[1,0]∧ob = .arr el t r:=fun{n ob} hq=>by
   have hq:(bif Nm.eqb [1,0] n then some (Ob.arr el t r)else none)=some ob:=hq
   cases hn:Nm.eqb [1,0] n with
   |false=>grind
   |true =>
    grind [cf]
  refine⟨rfl,rfl,fun i hi=>?_,fun i hi=>?_,fun n ob hob=>?_,fun n m ob ob' h1 h2 b o q1 q2=>?_,fun n ob hob b o hq=>?_,g1.imm,g1.sub,g1.step,g1.glob⟩
  ·have hi:i<2:=hi
   match i,hi with
   |0,_=>trivial
   |1,_ =>
    obtain⟨sa,l,c,e⟩:=hsl
    exact⟨sa,l,c,e,rfl⟩
  ·have hi:2≤i:=hi
   match i,hi with
   |i+2,_=>rfl
  ·obtain⟨rfl,rfl⟩:=one hob
   refine⟨vs,⟨hown.1,hown.2.imp id ?_⟩,bO.mono (fun _ q=>q) hsm hf⟩
   rintro ⟨g,cap,cur,k1,k2,k3⟩
   exact⟨g,cap,cur,k1,Nat.zero_le _,k3⟩
  ·exact(one h1).1.trans (one h2).1.symm
  ·obtain⟨rfl,rfl⟩:=one hob
   have hq:v'.ownBlock=some b:=hq
   have hlt:=hown.lt b hq
   refine⟨hlt.2,fun q=>?_,fun q=>?_⟩
   ·have:=hI b q
    omega
   ·exfalso
    have q:b<Y.w0.heap.size:=q
    rw[hw]at q
    omega
 ·show(bif Nm.eqb n [1,0]then v' else L n)=L n
  have hne:Nm.eqb n [1,0]=false:=by
   rw[bc]
   intro e
   subst e
   cases hn
  rw[hne];rfl
theorem nS{I:Nat→Prop}{w:World}{k:IntKind}:∀{xs:List Int}{vs:List Value},bO I w (.int k) xs vs↔vs=xs.map (Value.int k)
 |[],vs=>by
  constructor
  ·rintro ⟨css,h1,rfl⟩
   cases css with
   |nil=>rfl
   |cons=>trivial
  ·rintro rfl;exact bO.nil
 |x::xs,vs=>by
  constructor
  ·intro h
   obtain⟨cs,us,rfl,h1,h2⟩:=h.un
   rw[show cs=[.int k x]from h1,nS.1 h2];rfl
  ·rintro rfl
   exact bO.cons (cs:=[.int k x]) rfl (nS.2 rfl)
theorem CG{w:World}{base e size:Nat}{v:Value}{n:Nat}{vs:List Value}(h:w.ownsRow base e size v n vs):∃a l c,v = .slice a l c:=by
 rcases h.2 with⟨e,_⟩|⟨g,cap,cur,e,_⟩
 ·simp_all
 ·simp_all
theorem tQ{Y:pm}{L:Nm→Value}{I:Nat→Prop}{a:Act}{w:World}{n:Nm}{el:Nat}{xs:List Int}(hR:bT Y L I ⟨dt [(0, .c (.own n))],bf [(n, .arr el (.int .i64) xs)]⟩ a w) (hN:Y.N=1) (hw:Y.w0=w) :
  ∃v,a.tmps=#[v]∧L n=v∧(∃b l c,v = .slice b l c)∧w.ownsRow 0 el 1 v xs.length (xs.map (Value.int .i64))∧(∀b,v.ownBlock=some b→b<w.heap.size∧¬I b∧∀o,Y.E b o)∧∀b,I b→b<w.heap.size:=by
 have hsz:a.tmps.size=1:=hR.size.trans hN
 have hu0:=hR.slot 0
 obtain⟨sa,sl,sc,e0,e0'⟩:∃a' l c,a.tmps.getD 0 undef = .slice a' l c∧L n=a.tmps.getD 0 undef:=hu0
 have hob:(bf [(n,Ob.arr el (.int .i64) xs)]) n=some (.arr el (.int .i64) xs):=by
  grind [Nm.eqb,cf,dt,bf]
 obtain⟨vs,hown,hf⟩:∃vs,w.ownsRow 0 el 1 (L n) xs.length vs∧bO I w (.int .i64) xs vs:=hR.obj n _ hob
 rw[e0']at hown
 rw[nS.1 hf]at hown
 have hfp:∀b,(a.tmps.getD 0 undef).ownBlock=some b→b<w.heap.size∧¬I b∧∀o,Y.E b o:=fun b hb=>by
  have h0:=fun o=>hR.own n _ hob b o (show(L n).ownBlock=some b by rw[e0'];exact hb)
  exact⟨(h0 0).1,(h0 0).2.1,fun o=>(h0 o).2.2 (by rw[hw];exact(h0 0).1)⟩
 have htm:a.tmps=#[a.tmps.getD 0 undef]:=by
  refine Array.ext (by simp[hsz]) fun i hi _=>?_
  obtain rfl:i=0:=by omega
  rw[Array.getD_eq_getD_getElem?,Array.getElem?_eq_getElem hi];rfl
 exact⟨_,htm,e0',⟨_,_,_,e0⟩,hown,hfp,fun b hb=>(hR.imm b hb).1⟩
theorem pJ{n m:Nm}{ob ob':Ob}(hq:bf [(n,ob)] m=some ob'):m=n∧ob'=ob:=by
 grind [Nm.eqb,cf,bf]
def vI (el:Nat) (g:List Int→Option (List Int)):aa:={ pars:=[.c (.b el (.int .i64))],gh:=[],nb:=[],res:=[],g:=g }
theorem CK{P:Program}{K:eB}{f:FuncId}{el:Nat}{g:List Int→Option (List Int)}
  (h:∀(w:World) (v:Value) (xs r:List Int),g xs=some r→K.ok w→w.ownsRow 0 el 1 v xs.length (xs.map (Value.int .i64)) →
   Calls P f #[v] w fun e w'=>e = .returned (.tuple #[])∧w'.ownsRow 0 el 1 v r.length (r.map (Value.int .i64))∧bN (fun b _=>v.ownBlock=some b) w w') :
  mM P K f (vI el g):=by
 intro Y L I a w xs r hx hR hK hY hw
 have hm0:eC (aB 0 (vI el g).pars) xs=⟨dt [(0, .c (.own [0,0,99]))],bf [([0,0,99], .arr el (.int .i64) xs)]⟩:=by
  rfl
 rw[hm0]at hR
 obtain⟨v,htm,hL,hsl,hown,hfp,hI⟩:=tQ hR hY hw
 subst hK
 rw[show first (aa.real (vI el g)) a.tmps=a.tmps from kC (by rw[htm];exact Nat.le_refl _),htm]
 refine(h w v xs r hx hR.glob.1 hown).mono fun e w' hp=>?_
 obtain⟨rfl,hown',hst⟩:=hp
 have hsame:∀b,I b→w'.heap[b]?=w.heap[b]?:=fun b hb=>hst.same (hI b hb) (fun _ q=>(hfp b q).2.1 hb)
 have hmk:eC (aa.ens (vI el g)) r=⟨dt [(0, .c (.own [0,0,99]))],bf [([0,0,99], .arr el (.int .i64) r)]⟩:=by
  rfl
 refine⟨_,L,I,⟨#[v],[]⟩,rfl,?_,fun n hn=>rfl,rfl⟩
 rw[hmk]
 refine⟨rfl,rfl,fun i hi=>?_,fun i hi=>?_,fun n ob hob=>?_,fun n m ob ob' h1 h2 b o q1 q2=>?_,fun n ob hob b o hq=>?_,fun b hb=>?_,hR.sub,?_,?_,hR.glob.2⟩
 ·have hi:i<1:=hi
  match i,hi with
  |0,_ =>
   obtain⟨sa,l,c,e⟩:=hsl
   exact⟨sa,l,c,e,hL⟩
 ·have hi:1≤i:=hi
  match i,hi with
  |i+1,_=>rfl
 ·obtain⟨rfl,rfl⟩:=pJ hob
  exact⟨_,hL▸hown',nS.2 rfl⟩
 ·exact(pJ h1).1.trans (pJ h2).1.symm
 ·obtain⟨rfl,rfl⟩:=pJ hob
  have hq:v.ownBlock=some b:=hL▸(show(L [0,0,99]).ownBlock=some b from hq)
  obtain⟨k1,k2,k3⟩:=hfp b hq
  exact⟨Nat.lt_of_lt_of_le k1 hst.size,k2,fun _=>k3 o⟩
 ·obtain⟨k1,k2⟩:=hR.imm b hb
  exact⟨Nat.lt_of_lt_of_le k1 hst.size,k2⟩
 ·rw[show({ Y with N:=_ }:pm).w0=w from hw]
  exact hst.mono fun b o q=>(hfp b q).2.2 o
 ·exact Y.K.keep w w' hR.glob.1 fun b hb=>⟨hI b (hR.glob.2 b hb),hsame b (hR.glob.2 b hb)⟩
def vX (el:Nat) (g:List Int→Option (List Int)):aa:={ pars:=[.c (.o el (.int .i64))],gh:=[],nb:=[],res:=[(false,[.o el (.int .i64)])],g:=g }
theorem CL{P:Program}{K:eB}{f:FuncId}{el:Nat}{g:List Int→Option (List Int)}
  (h:∀(w:World) (v:Value) (xs r:List Int),g xs=some r→K.ok w→w.ownsRow 0 el 1 v xs.length (xs.map (Value.int .i64)) →
   Calls P f #[v] w fun e w'=>∃v',e = .returned v'∧w'.ownsRow 0 el 1 v' r.length (r.map (Value.int .i64))∧bN (fun b _=>v.ownBlock=some b) w w'∧∀b,v'.ownBlock=some b→v.ownBlock=some b∨w.heap.size≤b) :
  mM P K f (vX el g):=by
 intro Y L I a w xs r hx hR hK hY hw
 have hm0:eC (aB 0 (vX el g).pars) xs=⟨dt [(0, .c (.own [0,0]))],bf [([0,0], .arr el (.int .i64) xs)]⟩:=by
  rfl
 rw[hm0]at hR
 obtain⟨v,htm,hL,hsl0,hown,hfp,hI⟩:=tQ hR hY hw
 subst hK
 rw[show first (aa.real (vX el g)) a.tmps=a.tmps from kC (by rw[htm];exact Nat.le_refl _),htm]
 refine(h w v xs r hx hR.glob.1 hown).mono fun e w' hp=>?_
 obtain⟨v',rfl,hown',hst,hblk⟩:=hp
 have hsame:∀b,I b→w'.heap[b]?=w.heap[b]?:=fun b hb=>hst.same (hI b hb) (fun _ q=>(hfp b q).2.1 hb)
 have hsl:=CG hown'
 have hmk:eC (aa.ens (vX el g)) r=⟨dt [(1, .c (.own [1,0]))],bf [([1,0], .arr el (.int .i64) r)]⟩:=by
  rfl
 refine⟨_,fun n=>bif Nm.eqb n [1,0]then v' else L n,I,⟨#[v,v'],[]⟩,rfl,?_,fun n hn=>?_,rfl⟩
 ·rw[hmk]
  refine⟨rfl,rfl,fun i hi=>?_,fun i hi=>?_,fun n ob hob=>?_,fun n m ob ob' h1 h2 b o q1 q2=>?_,fun n ob hob b o hq=>?_,fun b hb=>?_,hR.sub,?_,?_,hR.glob.2⟩
  ·have hi:i<2:=hi
   match i,hi with
   |0,_=>trivial
   |1,_ =>
    obtain⟨sa,l,c,e⟩:=hsl
    exact⟨sa,l,c,e,rfl⟩
  ·have hi:2≤i:=hi
   match i,hi with
   |i+2,_=>rfl
  ·obtain⟨rfl,rfl⟩:=pJ hob
   exact⟨_,hown',nS.2 rfl⟩
  ·exact(pJ h1).1.trans (pJ h2).1.symm
  ·obtain⟨rfl,rfl⟩:=pJ hob
   have hq:v'.ownBlock=some b:=hq
   have hlt:=hown'.lt b hq
   rcases hblk b hq with q|q
   ·obtain⟨k1,k2,k3⟩:=hfp b q
    exact⟨hlt.2,k2,fun _=>k3 o⟩
   ·refine⟨hlt.2,fun p=>?_,fun p=>?_⟩
    ·have:=hI b p
     omega
    ·exfalso
     have p:b<Y.w0.heap.size:=p
     rw[hw]at p
     omega
  ·obtain⟨k1,k2⟩:=hR.imm b hb
   exact⟨Nat.lt_of_lt_of_le k1 hst.size,k2⟩
  ·rw[show({ Y with N:=_ }:pm).w0=w from hw]
   exact hst.mono fun b o q=>(hfp b q).2.2 o
  ·exact Y.K.keep w w' hR.glob.1 fun b hb=>⟨hI b (hR.glob.2 b hb),hsame b (hR.glob.2 b hb)⟩
 ·show(bif Nm.eqb n [1,0]then v' else L n)=L n
  have hne:Nm.eqb n [1,0]=false:=by
   rw[bc]
   intro e
   subst e
   cases hn
  rw[hne];rfl
def D8:Value→Value
 | .slice a n _ => .slice a n n
 |v=>v
def Aj (el:Nat) (g:List Int→Option (List Int)):aa:={ pars:=[.c (.o el (.int .i64))],gh:=[],nb:=[],res:=[(false,[.i (.sl (.int .i64))])],g:=g }
theorem CM{P:Program}{K:eB}{f:FuncId}{el:Nat}{g:List Int→Option (List Int)}
  (h:∀(w:World) (v:Value) (xs r:List Int),g xs=some r→K.ok w→w.ownsRow 0 el 1 v xs.length (xs.map (Value.int .i64)) →
   r=xs∧Calls P f #[v] w fun e w'=>e = .returned (D8 v)∧w'=w) :
  mM P K f (Aj el g):=by
 intro Y L I a w xs r hx hR hK hY hw
 have hm0:eC (aB 0 (Aj el g).pars) xs=⟨dt [(0, .c (.own [0,0]))],bf [([0,0], .arr el (.int .i64) xs)]⟩:=by
  rfl
 rw[hm0]at hR
 obtain⟨v,htm,hL,hsl0,hown,hfp,hI⟩:=tQ hR hY hw
 subst hK
 rw[show first (aa.real (Aj el g)) a.tmps=a.tmps from kC (by rw[htm];exact Nat.le_refl _),htm]
 obtain⟨rfl,h⟩:=h w v xs r hx hR.glob.1 hown
 refine h.mono fun e w' hp=>?_
 obtain⟨rfl,rfl⟩:=hp
 refine⟨_,L,fun b=>I b∨v.ownBlock=some b,⟨#[v,D8 v],[]⟩,rfl,?_,fun n hn=>rfl,rfl⟩
 refine⟨rfl,rfl,fun i hi=>?_,fun i hi=>?_,fun n ob hob=>(by cases hob),fun n m ob ob' h1=>(by cases h1),fun n ob hob=>(by cases hob),fun b hb=>?_,fun b hb => .inl (hR.sub b hb),hR.step,hR.glob.1,fun b hb => .inl (hR.glob.2 b hb)⟩
 ·have hi:i<2:=hi
  match i,hi with
  |0,_=>trivial
  |1,_ =>
   show cS _ w' (.sl (.int .i64)) r [D8 v]
   have hfr:bO (fun b=>I b∨v.ownBlock=some b) w' (.int .i64) r (r.map (Value.int .i64)):=nS.2 rfl
   obtain⟨css,h1,h2⟩:=hfr
   rcases hown.2 with⟨e,hn⟩|⟨g,cap,cur,e,_,hg,hnc,hcm,hcs,hrow⟩
   ·subst e
    obtain rfl:=List.eq_nil_of_length_eq_zero hn
    exact⟨none,0,css,rfl,Nat.le_refl _,h1, .inl rfl⟩
   ·subst e
    refine⟨some ⟨g,0,none⟩,r.length,css,rfl,Nat.le_refl _,h1, .inr ⟨g,0,rfl, .inr rfl,fun j u hj=>?_⟩⟩
    rw[←h2, ←hrow,List.getElem?_take]at hj
    split at hj
    ·simp only[World.cell?,hg,Nat.zero_add]
     rw[←hj,Array.getElem?_toList];rfl
    ·cases hj
 ·have hi:2≤i:=hi
  match i,hi with
  |i+2,_=>rfl
 ·rcases hb with hb|hb
  ·exact hR.imm b hb
  ·obtain⟨k1,k2,k3⟩:=hfp b hb
   exact⟨k1, .inr (.inr k3)⟩
end AM
end Go.Proofs.YtlkgapiohfgenaaGreatDoor
