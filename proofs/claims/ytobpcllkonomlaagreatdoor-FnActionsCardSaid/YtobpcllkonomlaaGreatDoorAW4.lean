/- Library functions over numbers, bools and strings, by their contracts. Under: the contract. And what follows it: see the remarks. -/
import Derived.Test.YtobpcllkonomlaaGreatDoorAW3
import Derived.Laws.StructEq
import Derived.WideShapes
import Derived.RowKit
import Derived.WideKeyArgs
import Derived.ChangeOld
import Derived.Lib.LaidTab
import Derived.Sort.Grow
import Derived.Deep.Draws
import Derived.ChangeCalls
namespace Go.Proofs.YtobpcllkonomlaaGreatDoor
namespace AM
open Go
set_option linter.unusedVariables false
set_option linter.unusedSimpArgs false
def DV.val:DV→Value
 |⟨.int k,n⟩ => .int k n
 |⟨.bool,b⟩ => .bool b
 |⟨.str,s⟩ => .string s
 |_=>undef
def GE:List Value→Value
 |[v]=>v
 |vs => .tuple vs.toArray
def Ty.one:Ty→Bool
 | .int _=>true
 | .bool=>true
 | .str=>true
 |_=>false
def cJ (ts:List Ty):List Cr:=ts.map fun t => .c (.i t)
def dz (ts:List PS):List (Bool×List PS):=ts.map fun p=>(false,[p])
def PS.outs:PS→Bool
 | .i t=>t.one
 | .e=>true
 |_=>false
def UV (p:PS) (d:DV) (v:Value):Prop:=match p with
 | .e=>∃b,d.as .bool=some b∧match b with
  |true=>∃t x,v = .iface t x
  |false=>v = .nilIface
 |_=>v=DV.val d
def xY:List PS→List DV→List Value→Prop
 |[],[],[]=>True
 |p::ps,d::ds,v::vs=>UV p d v∧xY ps ds vs
 |_,_,_=>False
theorem xY.len:∀{ps:List PS}{ds:List DV}{vs:List Value},xY ps ds vs→ds.length=ps.length∧vs.length=ps.length
 |[],[],[],_=>⟨rfl,rfl⟩
 |_::_,_::_,_::_,h=>by obtain⟨g1,g2⟩:=xY.len h.2;exact⟨by simp[g1],by simp[g2]⟩
 |[],[],_::_,h=>h.elim
 |[],_::_,_,h=>h.elim
 |_::_,[],_,h=>h.elim
 |_::_,_::_,[],h=>h.elim
theorem xY.get:∀{ps:List PS}{ds:List DV}{vs:List Value},xY ps ds vs→∀{i:Nat}{p:PS}{d:DV},ps[i]?=some p→ds[i]?=some d→∃v,vs[i]?=some v∧UV p d v
 |[],_,_,_,_,_,_,h,_=>by cases h
 |_::_,_::_,v::_,h,0,_,_,e,e2=>by simp_all [kb.get,xY,UV]
 |_::_,_::_,_::_,h,i+1,_,_,e,e2=>xY.get h.2 (i:=i) e e2
 |_::_,[],_,h,_,_,_,_,_=>h.elim
 |_::_,_::_,[],h,_,_,_,_,_=>h.elim
theorem DZ{t:Ty}(h:t.one=true){x:t.den}{u:Value}{I:Nat→Prop}{w:World}:cK I w t x [u]↔u=DV.val ⟨t,x⟩:=by
 cases t with
 |int k=>simp_all [Ty.one,cK,DV.val]
 |bool=>simp_all [Ty.one,cK,DV.val]
 |str=>simp_all [Ty.one,cK,DV.val]
 |sl t=>cases h
 |pr a b=>cases h
theorem so:∀(ts:List Ty) (k:Nat),bg (aB k (cJ ts))=ts
 |[],_=>rfl
 |t::ts,k=>congrArg (t::·) (so ts (k+1))
theorem oK:∀(ts:List PS) (k:Nat),bg (kX k (dz ts))=ts.map PS.ty
 |[],_=>rfl
 |t::ts,k=>congrArg (t.ty::·) (oK ts (k+1))
theorem vg:∀(ts:List Ty) (k:Nat),gq k (cJ ts)=[]
 |[],_=>rfl
 |t::ts,k=>vg ts (k+1)
theorem kL (ps:List Ty) (rs:List PS):dk (cJ ps) (dz rs) []=kX ps.length (dz rs):=by
 grind [dk,vg,cJ,BB,dz]
def vV:Nat→List DV→List (Nat×AV)
 |_,[]=>[]
 |k,d::r=>(k, .c (.v d.t d.x))::vV (k+1) r
theorem D8:∀(ts:List Ty) (k:Nat) (ds:List DV),ds.length=ts.length→cC (aB k (cJ ts)) ds=vV k ds∧fR (aB k (cJ ts)) ds=[]
 |[],_,[],_=>⟨rfl,rfl⟩
 |[],_,_::_,h=>by cases h
 |_::_,_,[],h=>by cases h
 |t::ts,k,d::ds,h=>by
  obtain⟨h1,h2⟩:=D8 ts (k+1) ds (by simpa using h)
  exact⟨congrArg ((k,AV.c (.v d.t d.x))::·) h1,h2⟩
def GR:PS→DV→CV
 | .e,d=>match d.as .bool with
  |some b => .er b
  |none => .dead
 |_,d => .v d.t d.x
def nu:Nat→List PS→List DV→List (Nat×AV)
 |k,p::ps,d::r=>(k, .c (GR p d))::nu (k+1) ps r
 |_,_,_=>[]
theorem D7:∀(ts:List PS) (k:Nat) (ds:List DV),ts.all PS.outs=true→ds.length=ts.length→cC (kX k (dz ts)) ds=nu k ts ds∧fR (kX k (dz ts)) ds=[]
 |[],_,[],_,_=>⟨rfl,rfl⟩
 |[],_,_::_,_,h=>by cases h
 |_::_,_,[],_,h=>by cases h
 |t::ts,k,d::ds,ho,h=>by
  rw[List.all_cons,Bool.and_eq_true]at ho
  obtain⟨h1,h2⟩:=D7 ts (k+1) ds ho.2 (by simpa using h)
  have hc:∀nm,pE nm t d=GR t d∧Cy nm t d=[]:=fun nm=>by
   cases t with
   |i t=>trivial
   |e=>trivial
   |_=>cases ho.1
  constructor
  ·show(k,LY (.val k t) (d::ds.take 0))::cC (kX (k+1) (dz ts)) ds=(k, .c (GR t d))::nu (k+1) ts ds
   rw[h1]
   congr 2
   exact congrArg AV.c (hc _).1
  ·show(Cy _ t d++[])++fR (kX (k+1) (dz ts)) ds=[]
   rw[h2,(hc _).2];rfl
theorem uo:∀(ps:List PS) (ds:List DV) (k i:Nat),dH (nu k ps ds) (k+i)=match ps[i]?,ds[i]? with|some p,some d => .c (GR p d)|_,_ => .c .dead
 |[],_,_,_=>rfl
 |p::ps,[],k,i=>by cases(p::ps)[i]?<;>rfl
 |p::ps,d::ds,k,0=>by
  simp_all [dH,nu,GR]
 |p::ps,d::ds,k,i+1=>by
  show(bif Nat.beq k (k+(i+1))then _ else dH (nu (k+1) ps ds) (k+(i+1)))=_
  rw[dl (by omega:k≠k+(i+1)),show k+(i+1)=(k+1)+i by omega]
  exact uo ps ds (k+1) i
theorem BM:∀(ps:List PS) (ds:List DV) (k i:Nat),i<k→dH (nu k ps ds) i = .c .dead
 |[],_,_,_,_=>rfl
 |_::_,[],_,_,_=>rfl
 |p::ps,d::ds,k,i,h=>by
  show(bif Nat.beq k i then _ else dH (nu (k+1) ps ds) i)=_
  rw[dl (by omega:k≠i)]
  exact BM ps ds (k+1) i (by omega)
theorem yD:∀(ds:List DV) (k i:Nat),dH (vV k ds) (k+i)=match ds[i]? with|some d => .c (.v d.t d.x)|none => .c .dead
 |[],_,_=>rfl
 |d::ds,k,0=>by
  simp_all [dH,vV]
 |d::ds,k,i+1=>by
  show(bif Nat.beq k (k+(i+1))then _ else dH (vV (k+1) ds) (k+(i+1)))=_
  rw[dl (by omega:k≠k+(i+1)),show k+(i+1)=(k+1)+i by omega]
  exact yD ds (k+1) i
theorem nZ:∀(ts:List Ty) (x:TD ts),(au ts x).length=ts.length
 |[],_=>rfl
 |[t],_=>rfl
 |t::u::r,x=>congrArg (·+1) (nZ (u::r) x.2)
theorem vX:∀(ts:List Ty) (x:TD ts) (i:Nat) (d:DV),(au ts x)[i]?=some d→ts[i]?=some d.t
 |[],_,_,_,h=>by cases h
 |[t],x,0,d,h=>by grind [au]
 |[t],x,i+1,d,h=>by cases h
 |t::u::r,x,0,d,h=>by grind [au]
 |t::u::r,x,i+1,d,h=>vX (u::r) x.2 i d h
theorem wD{P:Program}{K:gA}{f:FuncId}{ps:List Ty}{rs:List PS}(hp:ps.all Ty.one=true) (hr:rs.all PS.outs=true){g:TD (bg (aB 0 (cJ ps)))→Option (TD (bg (dk (cJ ps) (dz rs) [])))}
  (h:∀w x r,g x=some r→K.ok w→Calls P f ((au _ x).map DV.val).toArray w fun e w'=>∃vs,e = .returned (GE vs)∧xY rs (au _ r) vs∧bn (fun _ _=>False) w w') :
  nX P K f { pars:=cJ ps,res:=dz rs,g:=g }:=by
 intro Y L I a w x r hx hR hK hY hw
 have hxl:(au _ x).length=ps.length:=by rw[nZ,so]
 have hrl:(au _ r).length=rs.length:=by rw[nZ,kL,oK,List.length_map]
 have hN:Y.N=ps.length:=hY.trans (List.length_map ..)
 have hxo:∀(i:Nat) (d:DV),(au _ x)[i]?=some d→d.t.one=true:=fun i d hd=>by
  have:=vX _ x i d hd
  rw[so]at this
  exact List.all_eq_true.1 hp _ (List.mem_of_getElem? this)
 have hro:∀(i:Nat) (d:DV),(au _ r)[i]?=some d→∃p,rs[i]?=some p∧p.ty=d.t∧p.outs=true:=fun i d hd=>by
  have:=vX _ r i d hd
  rw[kL,oK,List.getElem?_map]at this
  cases e:rs[i]? with
  |none=>simp_all
  |some p=>grind
 obtain⟨m1,m2⟩:=D8 ps 0 (au _ x) hxl
 have htm:a.tmps=((au _ x).map DV.val).toArray:=by
  refine Array.ext (by rw[hR.size,hN];simp[hxl]) fun i hi _=>?_
  have hi':i<ps.length:=by rw[hR.size,hN]at hi;exact hi
  have hs:=hR.slot i
  have hd:(au _ x)[i]?=some (au _ x)[i]:=List.getElem?_eq_getElem (by omega)
  have hlk:(d8 (aB 0 (cJ ps)) x).t i = .c (.v ((au _ x)[i]).t ((au _ x)[i]).x):=by
   show dH (cC _ _) i=_
   rw[m1]
   have:=yD (au _ x) 0 i
   rw[Nat.zero_add,hd]at this
   exact this
  have hs:RA L I w (AL (d8 (aB 0 (cJ ps)) x).o) ((d8 (aB 0 (cJ ps)) x).t i) (a.tmps.getD i undef):=hs
  rw[hlk]at hs
  have:=(DZ (hxo i _ hd)).1 hs
  rw[Array.getD_eq_getD_getElem?,Array.getElem?_eq_getElem hi]at this
  simp only[Option.getD_some]at this
  rw[this]
  simp
 rw[show first (ac.real { pars:=cJ ps,res:=dz rs,g:=g }) a.tmps=a.tmps from qG (by unfold ac.real;rw[hR.size,hY];exact Nat.le_refl _),htm]
 subst hK
 refine(h w x r hx hR.glob.1).mono fun e w' hp'=>?_
 obtain⟨vs,rfl,hov,hst⟩:=hp'
 have h1:=hR.grows hst
 have hvl:=hov.len.2
 refine⟨_,L,I,⟨((au _ x).map DV.val++vs).toArray,[]⟩,rfl,?_,fun _ _=>rfl,?_⟩
 ·obtain⟨k1,k2⟩:=D7 rs ps.length (au _ r) hr hrl
  have hst2:d8 (ac.ens { pars:=cJ ps,res:=dz rs,g:=g }) r=⟨dH (nu ps.length rs (au _ r)),fun _=>none⟩:=by
   show Fu (dk (cJ ps) (dz rs) []) (au _ r)=_
   unfold Fu
   rw[show cC (dk (cJ ps) (dz rs) []) (au (bg (dk (cJ ps) (dz rs) [])) r)=nu ps.length rs (au _ r)by rw[←k1];congr 1;exact kL ps rs]
   rw[show fR (dk (cJ ps) (dz rs) []) (au (bg (dk (cJ ps) (dz rs) [])) r)=[]by rw[←k2];congr 1;exact kL ps rs]
   rfl
  have hlen:(cJ ps).length+((dz rs).length+0)=ps.length+rs.length:=by simp_all [cJ,dz]
  rw[hst2]
  refine⟨rfl,by simp[hxl,hvl];exact hlen.symm,fun i hi=>?_,fun i hi=>?_,fun _ _ q=>(by cases q),fun _ _ _ _ q=>(by cases q),fun _ _ q=>(by cases q),h1.imm,h1.sub,h1.step,h1.glob⟩
  ·have hi:i<ps.length+rs.length:=by rw[←hlen];exact hi
   rcases Nat.lt_or_ge i ps.length with q|q
   ·have hd:=BM rs (au (bg (dk (cJ ps) (dz rs) [])) r) ps.length i q
    show RA L I w' _ (dH (nu ps.length rs (au (bg (dk (cJ ps) (dz rs) [])) r)) i) _
    rw[hd];trivial
   ·have hd:(au _ r)[i-ps.length]?=some (au _ r)[i-ps.length]:=List.getElem?_eq_getElem (by omega)
    have:=uo rs (au _ r) ps.length (i-ps.length)
    obtain⟨p,hp1,hp2,hp3⟩:=hro _ _ hd
    rw[hd,hp1,show ps.length+(i-ps.length)=i by omega]at this
    show RA L I w' _ (dH (nu ps.length rs (au (bg (dk (cJ ps) (dz rs) [])) r)) i) _
    rw[this]
    obtain⟨v,hv1,hv2⟩:=hov.get hp1 hd
    have hval:(((au _ x).map DV.val++vs).toArray).getD i undef=v:=by
     have hxl':((au (bg (aB 0 (cJ ps))) x).map DV.val).length=ps.length:=(List.length_map ..).trans hxl
     rw[Array.getD_eq_getD_getElem?,List.getElem?_toArray,List.getElem?_append_right (by rw[hxl'];exact q),hxl',hv1];rfl
    rw[hval]
    cases p with
    |i t =>
     have ht:(au _ r)[i-ps.length].t.one=true:=by rw[←hp2];exact hp3
     exact(DZ ht).2 hv2
    |e =>
     obtain⟨b,hb1,hb2⟩:=hv2
     show RC L I w' _ (match DV.as .bool _ with|some b => .er b|none => .dead) v
     rw[hb1];exact hb2
    |_=>cases hp3
  ·have hi:ps.length+rs.length≤i:=by rw[←hlen];exact hi
   show dH (nu ps.length rs (au _ r)) i=_
   have:=uo rs (au _ r) ps.length (i-ps.length)
   rw[show ps.length+(i-ps.length)=i by omega,List.getElem?_eq_none (by omega:rs.length≤i-ps.length)]at this
   exact this
 ·have hl:(cJ ps).length=ps.length:=List.length_map ..
  have hl2:(dz rs).length=rs.length:=List.length_map ..
  have at_:∀j,j<rs.length→(((au _ x).map DV.val++vs).toArray).getD (ps.length+j) undef=vs.getD j undef:=by
   simp_all
  show _=A6 ⟨_,[]⟩ (cJ ps).length (dz rs).length
  rw[hl,hl2]
  clear hov
  match vs,hvl with
  |[],hml =>
   have:rs.length=0:=hml.symm
   rw[this];rfl
  |[v],hml =>
   have:rs.length=1:=hml.symm
   rw[this]
   exact(at_ 0 (by omega)).symm
  |v::u::t,hml =>
   have hz:rs.length=t.length+1+1:=hml.symm
   rw[hz]
   show Value.tuple (v::u::t).toArray=Value.tuple ((List.range (t.length+1+1)).map fun j=>Array.getD _ (ps.length+j) undef).toArray
   congr 2
   refine List.ext_getElem (by simp) fun i h1 h2=>?_
   rw[List.getElem_map,List.getElem_range]
   have h1':i<rs.length:=by omega
   rw[at_ i h1',List.getD_eq_getElem?_getD,List.getElem?_eq_getElem h1];rfl
theorem GQ:∀{rs:List Ty}{ds:List DV},ds.length=rs.length→xY (rs.map .i) ds (ds.map DV.val)
 |[],[],_=>trivial
 |[],_::_,h=>by cases h
 |_::_,[],h=>by cases h
 |_::rs,_::ds,h=>⟨rfl,GQ (rs:=rs) (ds:=ds) (by simpa using h)⟩
theorem Bs{P:Program}{K:gA}{f:FuncId}{ps rs:List Ty}(hp:ps.all Ty.one=true) (hr:rs.all Ty.one=true){g:TD (bg (aB 0 (cJ ps)))→Option (TD (bg (dk (cJ ps) (dz (rs.map .i)) [])))}
  (h:∀w x r,g x=some r→K.ok w→Calls P f ((au _ x).map DV.val).toArray w fun e w'=>e = .returned (GE ((au _ r).map DV.val))∧bn (fun _ _=>False) w w') :
  nX P K f { pars:=cJ ps,res:=dz (rs.map .i),g:=g }:=by
 refine wD hp (by rw[List.all_map];exact hr) fun w x r hx hw=>(h w x r hx hw).mono fun e w' hq=>⟨_,hq.1,?_,hq.2⟩
 exact GQ (by rw[nZ,kL,oK,List.length_map,List.length_map])
def EF:Ty→List Value→Option (List Value)
 | .int k,vs=>match vs with
  | .int l n::r=>if l=k∧n=0 then some r else none
  |_=>none
 | .bool,vs=>match vs with
  | .bool false::r=>some r
  |_=>none
 | .str,vs=>match vs with
  | .string s::r=>bif Nat.beq s.size 0 then some r else none
  |_=>none
 | .sl _,vs=>match vs with
  | .slice none 0 0::r=>some r
  |_=>none
 | .pr a b,vs=>match EF a vs with
  |some r=>EF b r
  |none=>none
theorem qd:∀(t:Ty){vs r:List Value},EF t vs=some r→vs=f9 t++r
 | .int k,vs,r,h=>by
  simp only[EF]at h
  split at h
  ·simp_all [EF,f9]
  ·cases h
 | .bool,vs,r,h=>by
  simp only[EF]at h
  split at h
  ·simp_all [EF,f9]
  ·cases h
 | .str,vs,r,h=>by
  simp only[EF]at h
  split at h
  ·rename_i s r'
   cases q:Nat.beq s.size 0 with
   |false=>simp_all
   |true =>
    rw[q]at h
    obtain rfl:=Option.some.inj h
    have:s=⟨#[]⟩:=by
     have:=Nat.eq_of_beq_eq_true q
     obtain⟨d⟩:=s
     obtain⟨l⟩:=d
     cases l with
     |nil=>rfl
     |cons x l=>trivial
    rw[this];rfl
  ·cases h
 | .sl t,vs,r,h=>by
  simp only[EF]at h
  split at h
  ·simp_all [EF,f9]
  ·cases h
 | .pr a b,vs,r,h=>by
  simp only[EF]at h
  split at h
  ·rename_i r1 h1
   rw[qd a h1,qd b h]
   simp[f9]
  ·cases h
def DH:List Z→List Value→Bool
 |[],[]=>true
 | .t x::zs,vs=>match EF x vs with
  |some r=>DH zs r
  |none=>false
 | .ptr::zs, .pointer none::vs=>DH zs vs
 | .fn::zs, .nilFunc::vs=>DH zs vs
 | .ifc::zs, .nilIface::vs=>DH zs vs
 |_,_=>false
theorem nj:∀{zs:List Z}{vs:List Value},DH zs vs=true→vs=zs.flatMap Z.vals
 |[],[],_=>rfl
 |[],_::_,h=>by cases h
 | .t x::zs,vs,h=>by
  unfold DH at h
  split at h
  ·rename_i r e
   rw[qd x e,nj h];rfl
  ·cases h
 | .ptr::zs,[],h=>by cases h
 | .fn::zs,[],h=>by cases h
 | .ifc::zs,[],h=>by cases h
 | .ptr::zs,v::vs,h=>by
  cases v<;>try (simp[DH]at h;done)
  rename_i q
  cases q<;>first|(simp[DH]at h;done)|(rw[nj (show DH zs vs=true from h)];rfl)
 | .fn::zs,v::vs,h=>by
  cases v<;>first|(simp[DH]at h;done)|(rw[nj (show DH zs vs=true from h)];rfl)
 | .ifc::zs,v::vs,h=>by
  cases v<;>first|(simp[DH]at h;done)|(rw[nj (show DH zs vs=true from h)];rfl)
def uu:TypeDesc→Bool
 | .struct _=>true
 | .array _ _=>true
 |_=>false
def DA (P:Program) (t:TypeId) (b:Bool):Bool:=match P.underlying t with
 |some d=>bif uu d then b else !b
 |none=>false
theorem sw{P:Program}{t:TypeId}{b:Bool}(h:DA P t b=true) (w:World):(isAgg t).run P w = .ok b w:=by
 unfold DA at h
 split at h
 ·rename_i d hd
  simp only[isAgg,Sem.run_bind,run_underlying hd,Result.andThen_ok]
  cases d<;>cases b<;>first|rfl|(cases h;done)
 ·cases h
def vR (P:Program):List Field→List (Nat×Nat×Bool)→Bool
 |[],[]=>true
 |f::fs,x::xs=>Nat.beq f.offset x.1&&(Nat.blt 0 x.2.1&&((match P.info? f.type with|some i=>Nat.beq i.size x.2.1|none=>false)&&(DA P f.type x.2.2&&vR P fs xs)))
 |_,_=>false
theorem rt{P:Program}:∀{fs:List Field}{xs:List (Nat×Nat×Bool)},vR P fs xs=true→fs.length=xs.length∧∀(i:Nat) (x:Nat×Nat×Bool),xs[i]?=some x→∃fd:Field,fs[i]?=some fd∧fd.offset=x.1∧x.2.1≠0 ∧
  (∀w,(sizeOf fd.type).run P w = .ok x.2.1 w)∧(∀w,(isAgg fd.type).run P w = .ok x.2.2 w)
 |[],[],_=>⟨rfl,fun _ _ h=>by cases h⟩
 |[],_::_,h=>by cases h
 |_::_,[],h=>by cases h
 |f::fs,x::xs,h=>by
  unfold vR at h
  simp only[Bool.and_eq_true]at h
  obtain⟨h1,h2,h3,h4,h5⟩:=h
  obtain⟨g1,g2⟩:=rt h5
  refine⟨by simp[g1],fun i y hy=>?_⟩
  cases i with
  |zero =>
   obtain rfl:=Option.some.inj hy
   refine⟨f,rfl,Nat.eq_of_beq_eq_true h1,by have:=Nat.le_of_ble_eq_true h2;omega,fun w=>?_,sw h4⟩
   split at h3
   ·rename_i i hi
    rw[←Nat.eq_of_beq_eq_true h3]
    simp[sizeOf,typeInfo,hi]
   ·cases h3
  |succ i=>grind
def Nh (P:Program):Nat→List Field→List Ty→Bool
 |_,[],[]=>true
 |k,f::fs,t::ts=>Nat.beq f.offset k&&((f.name != "_")&&((match P.info? f.type with|some i=>Nat.beq i.size 1|none=>false)&&(DA P f.type false&&((match P.underlying f.type,t with
   |some (.int k1), .int k2=>decide (k1=k2)
   |some .bool, .bool=>true
   |some .string, .str=>true
   |_,_=>false)&&Nh P (k+1) fs ts))))
 |_,_,_=>false
theorem tY{P:Program}{w:World}{t:TypeId}{i:TypeInfo}(hi:P.info? t=some i) (hs:i.size=1) (ha:DA P t false=true){xs:Array Value}{off:Nat}{v:Value}(hx:xs[off]?=some v):(Go.part t xs off).run P w = .ok v w:=by
 have h1:∀w,(sizeOf t).run P w = .ok 1 w:=fun w=>by simp[sizeOf,typeInfo,hi,hs]
 have h2:=sw ha
 have hlt:=(Array.getElem?_eq_some_iff.1 hx).1
 obtain⟨hlt,hv⟩:=Array.getElem?_eq_some_iff.1 hx
 unfold Go.part
 simp[h1,h2,Result.andThen]
 simp[hx,hlt,hv]
theorem zb{P:Program}{d:Nat}{w:World}{xs ys:Array Value}:∀{k:Nat}{fs:List Field}{ts:List Ty}{us vs:List Value}{e:Bool},Nh P k fs ts=true→aO ts us vs=some e→xs.toList.drop k=us→ys.toList.drop k=vs →
  (Op.eqFields (d+1) xs ys fs).run P w = .ok e w
 |_,[],[],us,vs,e,_,he,_,_=>by
  cases us with
  |nil=>cases vs with
   |nil=>obtain rfl:=Option.some.inj he;simp[Op.eqFields]
   |cons _ _=>cases he
  |cons _ _=>cases he
 |_,[],_::_,_,_,_,h,_,_,_=>by cases h
 |_,_::_,[],_,_,_,h,_,_,_=>by cases h
 |k,f::fs,t::ts,us,vs,e,h,he,hu,hv=>by
  unfold Nh at h
  simp only[Bool.and_eq_true]at h
  obtain⟨h1,h2,h3,h4,h5,h6⟩:=h
  have h1:=Nat.eq_of_beq_eq_true h1
  have hname:f.name≠"_":=by simpa using h2
  split at h3
  case h_2=>cases h3
  rename_i i hi
  have hs:=Nat.eq_of_beq_eq_true h3
  have next:∀{zs:Array Value}{z:Value}{zl:List Value},zs.toList.drop k=z::zl→zs[f.offset]?=some z∧zs.toList.drop (k+1)=zl:=by
   intro zs z zl q
   have g:=congrArg (fun l=>l[0]?) q
   simp at g
   refine⟨by rw[h1];simpa using g,?_⟩
   rw[←List.drop_drop,q];rfl
  have fin:∀{u v:Value}{ul vl:List Value}{b e':Bool},us=u::ul→vs=v::vl→(Op.equalIn (d+1) f.type u v).run P w = .ok b w→aO ts ul vl=some e'→e=(b&&e')→(Op.eqFields (d+1) xs ys (f::fs)).run P w = .ok e w:=by
   intro u v ul vl b e' eu ev hb hr hE
   obtain⟨n1,n2⟩:=next (hu.trans eu)
   obtain⟨n3,n4⟩:=next (hv.trans ev)
   have ih:=zb (d:=d) (w:=w) h6 hr n2 n4
   have p1:=tY (P:=P) (w:=w) hi hs h4 n1
   have p2:=tY (P:=P) (w:=w) hi hs h4 n3
   unfold Op.eqFields
   rw[if_pos hname]
   simp only[Sem.run_bind,p1,Result.andThen_ok,p2,hb]
   cases b with
   |true=>simp_all
   |false=>simp[hE]
  cases us with
  |nil=>simp_all [aO]
  |cons u ul =>
   cases vs with
   |nil=>simp_all [aO]
   |cons v vl =>
    cases t with
    |int q =>
     cases u<;>try (simp[aO]at he;done)
     cases v<;>try (simp[aO]at he;done)
     simp only[aO]at he
     split at he
     ·rename_i hk
      obtain⟨rfl,rfl⟩:=hk
      split at he
      ·rename_i e' hr
       split at h5
       ·exact fin rfl rfl (run_equalIn_int _ _ _ _ _ _ _ ‹_›) hr (Option.some.inj he).symm
       ·trivial
       ·trivial
       ·cases h5
      ·cases he
     ·cases he
    |bool =>
     cases u<;>try (simp[aO]at he;done)
     cases v<;>try (simp[aO]at he;done)
     simp only[aO]at he
     split at he
     ·rename_i e' hr
      split at h5
      ·trivial
      ·exact fin rfl rfl (run_equalIn_bool' _ _ _ _ _ ‹_›) hr (Option.some.inj he).symm
      ·trivial
      ·cases h5
     ·cases he
    |str =>
     cases u<;>try (simp[aO]at he;done)
     cases v<;>try (simp[aO]at he;done)
     simp only[aO]at he
     split at he
     ·rename_i e' hr
      split at h5
      ·trivial
      ·trivial
      ·rename_i hu5 _
       have key:∀a b,(Op.equalIn (d+1) f.type (.string a) (.string b)).run P w = .ok (fi a b) w:=fun a b=>by rw[←n7];exact run_equalIn_string w d f.type a b hu5
       exact fin rfl rfl (key _ _) hr (Option.some.inj he).symm
      ·cases h5
     ·cases he
    |sl _=>trivial
    |pr _ _=>trivial
def Aw (e:Bool) (d:Nat) (xs:Array Value) (fs:List Field):Sem PUnit :=
 forIn (m:=Sem) fs PUnit.unit (fun f _=>do
   if f.name≠"_" then do
    let __do_lift ←Go.part f.type xs f.offset
    Instr.checkKey e (d+1) f.type __do_lift
    pure (ForInStep.yield PUnit.unit)
   else pure (ForInStep.yield PUnit.unit))
theorem ze{P:Program}{d:Nat}{e:Bool}{w:World}{xs:Array Value}:∀{k:Nat}{fs:List Field}{ts:List Ty}{us vs:List Value}{b:Bool},Nh P k fs ts=true→aO ts us vs=some b→xs.toList.drop k=us →
  (Aw e d xs fs).run P w = .ok PUnit.unit w
 |_,[],_,_,_,_,_,_,_=>by rfl
 |_,_::_,[],_,_,_,h,_,_=>by cases h
 |k,f::fs,t::ts,us,vs,b,h,he,hu=>by
  unfold Nh at h
  simp only[Bool.and_eq_true]at h
  obtain⟨h1,h2,h3,h4,h5,h6⟩:=h
  have h1:=Nat.eq_of_beq_eq_true h1
  have hname:f.name≠"_":=by simpa using h2
  split at h3
  case h_2=>cases h3
  rename_i i hi
  have hs:=Nat.eq_of_beq_eq_true h3
  have fin:∀{u:Value}{ul vl:List Value}{b':Bool}{D:TypeDesc},us=u::ul→aO ts ul vl=some b'→P.underlying f.type=some D→(∀w,(Instr.checkKey e (d+1) f.type u).run P w = .ok () w)→(Aw e d xs (f::fs)).run P w = .ok PUnit.unit w:=by
   intro u ul vl b' D eu hr _ hck
   have hu':=hu.trans eu
   have g:xs[f.offset]?=some u∧xs.toList.drop (k+1)=ul:=by
    have g:=congrArg (fun l=>l[0]?) hu'
    simp at g
    refine⟨by rw[h1];simpa using g,?_⟩
    rw[←List.drop_drop,hu'];rfl
   have ih:=ze (d:=d) (e:=e) (w:=w) h6 hr g.2
   have p1:=tY (P:=P) (w:=w) hi hs h4 g.1
   unfold Aw at ih ⊢
   rw[List.forIn_cons]
   simp only[Sem.run_bind,if_pos hname,p1,Result.andThen_ok,hck,Sem.run_pure]
   exact ih
  cases us with
  |nil=>simp_all [aO]
  |cons u ul =>
   cases vs with
   |nil=>simp_all [aO]
   |cons v vl =>
    have ckp:∀{D:TypeDesc},P.underlying f.type=some D→(D = .bool∨D = .string∨∃q,D = .int q)→∀w,(Instr.checkKey e (d+1) f.type u).run P w = .ok () w:=by
     intro D hD hc w
     rcases hc with rfl|rfl|⟨q,rfl⟩<;>simp[Instr.checkKey,run_underlying hD]
    cases t with
    |int q =>
     cases u<;>try (simp[aO]at he;done)
     cases v<;>try (simp[aO]at he;done)
     simp only[aO]at he
     split at he
     ·grind
     ·cases he
    |bool =>
     cases u<;>try (simp[aO]at he;done)
     cases v<;>try (simp[aO]at he;done)
     simp only[aO]at he
     split at he
     ·grind
     ·cases he
    |str =>
     cases u<;>try (simp[aO]at he;done)
     cases v<;>try (simp[aO]at he;done)
     simp only[aO]at he
     split at he
     ·grind
     ·cases he
    |sl _=>trivial
    |pr _ _=>trivial
def S0 (P:Program) (t:Nat) (ti:TI):Bool :=
 (match P.info? t with
  |some i=>Nat.beq i.size ti.size&&(Nat.beq i.bytes ti.bytes&&(match ti.ty with
   |some ty=>Nat.beq ty.sz ti.size&&(match i.zero with
    |some z=>(match EF ty z.cells.toList with|some []=>true|_=>false)
    |none=>false)
   |none=>true))
  |none=>false) &&
 (DA P t ti.agg &&
 ((match P.underlying t with
  |some (.int k) => !Nat.beq ti.kind 1 || decide (k=ti.ik)
  |_ => !Nat.beq ti.kind 1) &&
 ((match P.underlying t with
  |some (.struct fs) => !Nat.beq ti.kind 2 || vR P fs.toList ti.fs
  |_ => !Nat.beq ti.kind 2) &&
 ((match P.underlying t with
  |some (.slice e) => !Nat.beq ti.kind 3 || Nat.beq e ti.el
  |_ => !Nat.beq ti.kind 3) &&
 ((match P.underlying t with
  |some (.array n e) => !Nat.beq ti.kind 4 || (Nat.beq e ti.el&&(match P.info? e with|some i=>Nat.beq ti.size (n*i.size)|none=>true))
  |_ => !Nat.beq ti.kind 4) &&
 ((match P.underlying t with
  |some .string=>true
  |_ => !Nat.beq ti.kind 5) &&
 ((match P.underlying t with
  |some .bool=>true
  |_ => !Nat.beq ti.kind 6) &&
 ((match P.underlying t with
  |some (.interface _)=>true
  |_ => !Nat.beq ti.kind 7) &&
 ((match P.underlying t with
  |some (.pointer _)=>true
  |_ => !Nat.beq ti.kind 8) &&
 ((match P.underlying t with
  |some (.map ky e) => !Nat.beq ti.kind 9 || (Nat.beq ky ti.ky&&Nat.beq e ti.el)
  |_ => !Nat.beq ti.kind 9) &&
 ((!Nat.beq ti.kind 1 || (match P.info? t with
   |some i=>(match i.zero with
    |some (.int k n)=>decide (k=ti.ik∧n=0)
    |_=>false)
   |none=>false)) &&
 ((match ti.zs with
  |none=>true
  |some zs=>(match P.info? t with
   |some i=>(match i.zero with
    |some z=>DH zs z.cells.toList
    |none=>false)
   |none=>false)) &&
 (match ti.eqs with
  |none=>true
  |some ts => !P.stoodInHeld t&&(!P.eqGuardType P.depth t&&(match P.underlying t with
   |some (.struct fs)=>Nh P 0 fs.toList ts
   |_=>false)))))))))))))))
theorem ER{P:Program}{t:Nat}{ti:TI}(h:S0 P t ti=true):vJ P t ti:=by
 unfold S0 at h
 simp only[Bool.and_eq_true]at h
 obtain⟨h1,h2,h3,h4,h5,h6,h7,h8,hi7,hi8,hi9,hz1,hzs,h9⟩:=h
 have nk:∀{k:Nat},ti.kind=k→(!Nat.beq ti.kind k)=true→False:=by
  simp_all
 refine⟨?_,fun zs e=>?_,sw h2,?_,fun e=>?_,fun e=>?_,fun e=>?_,fun e=>?_,fun e=>?_,fun e=>?_,fun e=>?_,fun e=>?_,fun e=>?_,fun e=>?_,fun ts e em w xs ys b hb=>?_,fun ts e w xs ys b hb=>?_⟩
 ·split at h1
  ·rename_i i hi
   simp only[Bool.and_eq_true]at h1
   obtain⟨g1,g2,g3⟩:=h1
   refine⟨i,hi,Nat.eq_of_beq_eq_true g1,Nat.eq_of_beq_eq_true g2,fun ty hty=>?_⟩
   rw[hty]at g3
   dsimp only at g3
   rw[Bool.and_eq_true]at g3
   refine⟨Nat.eq_of_beq_eq_true g3.1,?_⟩
   have g4:=g3.2
   split at g4
   ·rename_i z hz
    refine⟨z,hz,?_⟩
    split at g4
    ·rename_i hzv
     have:=qd ty hzv
     rw[List.append_nil]at this
     rw[←this]
    ·cases g4
   ·cases g4
  ·cases h1
 ·rw[e]at hzs
  dsimp only at hzs
  split at hzs
  ·rename_i i hi
   split at hzs
   ·rename_i z hz
    exact⟨i,z,hi,hz,by rw[←nj hzs]⟩
   ·cases hzs
  ·cases hzs
 ·unfold DA at h2
  split at h2
  ·simp_all
  ·cases h2
 ·split at h3
  ·simp_all
  ·simp_all
 ·split at h4
  ·rename_i fs hfs
   rcases Bool.or_eq_true _ _ |>.mp h4 with q|q
   ·simp_all
   ·obtain⟨g1,g2⟩:=rt q
    refine⟨fs,hfs,by simpa using g1,fun f x hx=>?_⟩
    obtain⟨fd,k1,k2⟩:=g2 f x hx
    exact⟨fd,by simpa using k1,k2⟩
  ·simp_all
 ·split at h5
  ·simp_all
  ·simp_all
 ·split at h6
  ·rename_i n el hel
   rcases Bool.or_eq_true _ _ |>.mp h6 with q|q
   ·simp_all
   ·rw[Bool.and_eq_true]at q
    have q1:=Nat.eq_of_beq_eq_true q.1
    refine⟨n,by rw[hel,q1],fun i hi=>?_⟩
    have q2:=q.2
    rw[q1,hi]at q2
    exact Nat.eq_of_beq_eq_true q2
  ·simp_all
 ·grind
 ·grind
 ·grind
 ·grind
 ·split at hi9
  ·simp_all
  ·simp_all
 ·rcases Bool.or_eq_true _ _ |>.mp hz1 with q|q
  ·simp_all
  ·split at q
   ·grind
   ·cases q
 ·rw[e]at h9
  dsimp only at h9
  simp only[Bool.and_eq_true,Bool.not_eq_true']at h9
  obtain⟨g1,g2,g3⟩:=h9
  split at g3
  ·rename_i fs hfs
   show(Instr.checkKey em (9999+1) t (.agg xs.toArray)).run P w=_
   unfold Instr.checkKey
   simp only[Sem.run_bind,run_underlying hfs,Result.andThen_ok]
   rw[←Array.forIn_toList]
   have hck:=ze (d:=9998) (e:=em) (w:=w) (xs:=xs.toArray) g3 hb (by simp)
   unfold Aw at hck
   rw[hck];rfl
  ·cases g3
 ·rw[e]at h9
  dsimp only at h9
  simp only[Bool.and_eq_true,Bool.not_eq_true']at h9
  obtain⟨g1,g2,g3⟩:=h9
  split at g3
  ·rename_i fs hfs
   have hfo:P.fieldsOf t=fs:=by simp[Program.fieldsOf,hfs]
   refine⟨?_,fun op x y=>run_eqGuard_agg _ op t x y _ _ g2⟩
   show(Op.equalIn (9999+1) t (.agg xs.toArray) (.agg ys.toArray)).run P w=_
   rw[run_equalIn_struct w 9999 t _ _ (by rw[hfo];exact hfs) g1,hfo]
   exact zb (d:=9998) g3 hb (by simp) (by simp)
  ·cases g3
def Lv (P:Program):kb→Bool
 |[]=>true
 |p::r=>S0 P p.1 p.2&&Lv P r
theorem vZ{P:Program}:∀{τ:kb},Lv P τ=true→cS P τ
 |[],_,_,_,e=>by cases e
 |p::r,h,t,ti,e=>by
  unfold Lv at h
  rw[Bool.and_eq_true]at h
  unfold kb.get at e
  cases q:Nat.beq p.1 t with
  |true =>
   simp_all [ER]
  |false=>rw[q]at e;exact vZ h.2 t ti e
def ig:Code→List Code
 | .seq a b=>ig a++ig b
 | .cond _ a b=>ig a++ig b
 | .block _ c=>ig c
 | .loop c=>c::ig c
 |_=>[]
def uU (E:aN) (c:Code):Prop:=∀S,E.Λ (key c)=some S→∃f:Nat→TD (bg S.ent)→Option (EX S.exs),(∀x,f 0 x=none)∧(∃n,S.g=f n)∧∀n x,f (n+1) x=j4 E c S (f n) x
def jw:Code→List (Nat×Array Oper)
 | .region id ops _=>[(id,ops)]
 | .seq a b=>jw a++jw b
 | .cond _ a b=>jw a++jw b
 | .block _ c=>jw c
 | .loop c=>jw c
 |_=>[]
theorem BL{E:aN}:∀c:Code,(∀b∈ig c,uU E b)→(∀p∈jw c,zk E p.1 p.2)→eR E c:=by
 intro c
 induction c with
 |seq a b iha ihb=>exact fun h g=>⟨iha (fun x hx=>h x (List.mem_append_left _ hx)) fun x hx=>g x (List.mem_append_left _ hx),ihb (fun x hx=>h x (List.mem_append_right _ hx)) fun x hx=>g x (List.mem_append_right _ hx)⟩
 |cond _ a b iha ihb=>exact fun h g=>⟨iha (fun x hx=>h x (List.mem_append_left _ hx)) fun x hx=>g x (List.mem_append_left _ hx),ihb (fun x hx=>h x (List.mem_append_right _ hx)) fun x hx=>g x (List.mem_append_right _ hx)⟩
 |block _ c ih=>trivial
 |loop c ih=>exact fun h g=>⟨ih (fun x hx=>h x (List.mem_cons_of_mem _ hx)) g,h c (List.mem_cons_self ..)⟩
 |region id ops d=>exact fun _ g=>g (id,ops) (List.mem_singleton.2 rfl)
 |_=>exact fun _ _=>trivial
def bP (c:Code) (id:Nat):List Oper:=match(jw c).find? (fun p=>Nat.beq p.1 id)with
 |some p=>p.2.toList
 |none=>[]
def nw:List Nat→Bool
 |[]=>true
 |n::r => !aY n r&&nw r
theorem yZ {β:Type}:∀{l:List (Nat×β)},nw (l.map Prod.fst)=true→∀p∈l,l.find? (fun q=>Nat.beq q.1 p.1)=some p
 |[],_,_,h=>by cases h
 |q::l,hn,p,h=>by
  unfold nw at hn
  simp only[List.map_cons,Bool.and_eq_true,Bool.not_eq_true']at hn
  rcases List.mem_cons.1 h with rfl|h
  ·simp_all
  ·have:Nat.beq q.1 p.1=false:=by
    cases z:Nat.beq q.1 p.1 with
    |false=>rfl
    |true =>
     have hm:aY q.1 (l.map Prod.fst)=true:=cP.2 (by rw[Nat.eq_of_beq_eq_true z];exact List.mem_map.2 ⟨p,h,rfl⟩)
     rw[hn.1]at hm;cases hm
   rw[List.find?_cons,this]
   exact yZ hn.2 p h
theorem DQ{E:aN}{c:Code}(hn:nw ((jw c).map Prod.fst)=true) (h:∀id S,E.Ω id=some S→oR (bP c id)=true∧∀x y,S.g x=some y→∀π∈Aq (bP c id),cB E (bP c id) (bY (bP c id) π) (d8 S.ent x) (fun s'=>gT E.N S.out s')=some y):∀p∈jw c,zk E p.1 p.2:=by
 intro p hp S hS
 have hr:bP c p.1=p.2.toList:=by unfold bP;rw[yZ hn p hp]
 rw[←hr]
 exact h p.1 S hS
def c9 (c:Code) (i:Nat):Code:=(ig c).getD i .skip
def ak (fn:Func):Code:=fn.body.getD .skip
theorem oz{E:aN}{c:Code}(k:Nat) (hk:(ig c).length=k) (h:∀i,i<k→uU E (c9 c i)) (hR:∀p∈jw c,zk E p.1 p.2):eR E c:=by
 refine BL c (fun b hb=>?_) hR
 obtain⟨i,hi⟩:=List.getElem?_of_mem hb
 have hlt:i<k:=by rw[←hk];exact(List.getElem?_eq_some_iff.1 hi).1
 have:=h i hlt
 unfold c9 at this
 rw[List.getD_eq_getElem?_getD,hi]at this
 exact this
theorem L0{E:aN}{c:Code}{S:ki}(hS:E.Λ (key c)=some S) (f:Nat→TD (bg S.ent)→Option (EX S.exs)) (h0:∀x,f 0 x=none) (n:Nat) (hn:S.g=f n) (hs:∀m x,f (m+1) x=j4 E c S (f m) x):uU E c:=by
 intro S' hS'
 rw[hS]at hS'
 obtain rfl:=Option.some.inj hS'
 exact⟨f,h0,⟨n,hn⟩,hs⟩
def SC:List (Nat×ac)→Nat→Option ac
 |[],_=>none
 |p::r,f=>bif Nat.beq p.1 f then some p.2 else SC r f
def SB:List ((Nat×Nat)×ac)→Nat→Nat→Option ac
 |[],_,_=>none
 |p::r,f,d=>bif Nat.beq p.1.1 f&&Nat.beq p.1.2 d then some p.2 else SB r f d
def gl (l:List (Nat×ac)) (l2:List ((Nat×Nat)×ac)) (f d:Nat):Option ac :=
 match SB l2 f d with
 |some S=>some S
 |none=>SC l f
def xE (P:Program) (K:gA) (p:Nat×ac):Prop:=Plain P p.1∧nX P K p.1 p.2
def Cv (P:Program) (K:gA):List (Nat×ac)→Prop
 |[]=>True
 |p::r=>xE P K p∧Cv P K r
def xD (P:Program) (K:gA):List ((Nat×Nat)×ac)→Prop
 |[]=>True
 |p::r=>xE P K (p.1.1,p.2)∧xD P K r
theorem B3{P:Program}{K:gA}:∀{l:List (Nat×ac)},Cv P K l→∀f S,SC l f=some S→Plain P f∧nX P K f S
 |[],_,_,_,h=>by cases h
 |p::r,⟨h1,h2⟩,f,S,h=>by
  unfold SC at h
  cases q:Nat.beq p.1 f with
  |true =>
   rw[q]at h
   obtain rfl:=Option.some.inj h
   rw[←Nat.eq_of_beq_eq_true q]
   exact h1
  |false=>rw[q]at h;exact B3 h2 f S h
theorem B0{P:Program}{K:gA}:∀{l:List ((Nat×Nat)×ac)},xD P K l→∀f d S,SB l f d=some S→Plain P f∧nX P K f S
 |[],_,_,_,_,h=>by cases h
 |p::r,⟨h1,h2⟩,f,d,S,h=>by
  unfold SB at h
  cases q:(Nat.beq p.1.1 f&&Nat.beq p.1.2 d)with
  |true =>
   rw[q]at h
   obtain rfl:=Option.some.inj h
   rw[Bool.and_eq_true]at q
   rw[←Nat.eq_of_beq_eq_true q.1]
   exact h1
  |false=>rw[q]at h;exact B0 h2 f d S h
theorem JO{P:Program}{K:gA}{l:List (Nat×ac)}{l2:List ((Nat×Nat)×ac)}(h1:Cv P K l) (h2:xD P K l2) (f d:Nat) (S:ac) (h:gl l l2 f d=some S):Plain P f∧nX P K f S:=by
 grind [gl,split,B0,B3]
theorem kH{P:Program}{f:FuncId}{fn:Func}(h:P.funcs[f]?=some fn) (hn:(fn.name=="runtime.NumGoroutine")=false) (hb:fn.body.isNone=false):Plain P f:=⟨fn,h,hn,hb⟩
theorem JX{fn:Func}(h:fn.body.isSome=true):fn.body=some (ak fn):=by
 unfold ak
 cases q:fn.body with
 |none=>simp_all
 |some c=>rfl
theorem Dz {α β:Type}{xs:List α}{F:α→β}{vs:List β}(h:xs.map F=vs){r:β}(hv:∀v∈vs,v=r):∀x∈xs,F x=r:=fun x hx=>hv _ (h▸List.mem_map.2 ⟨x,hx,rfl⟩)
theorem GU{P:Program}{K:gA}{f:FuncId}{fn:Func}{S:ac}{E:aN}{l:List (Nat×ac)}{l2:List ((Nat×Nat)×ac)}(hf:P.funcs[f]?=some fn) (hmo:P.follows .mixedOrders=true) (hτ:cS P E.τ) (hΓ:E.Γ=gl l l2) (hl:Cv P K l) (hl2:xD P K l2)
  (hb:fn.body.isSome=true) (hN:E.N=fn.ntmps) (hn:S.pars.length≤fn.ntmps) (hr:fn.results.size=S.res.length) (hloops:eR E (ak fn)) (hg:∀x,S.g x=aF E fn S x):nX P K f S :=
 NM ⟨hτ,fun f d S h=>by rw[hΓ]at h;exact JO hl hl2 f d S h,hmo⟩ hf (JX hb) hN hn hr hloops (fun x r h=>by rw[←hg];exact h)
def pd:List (Nat×bh)→Nat→Option bh
 |[],_=>none
 |p::r,i=>bif Nat.beq p.1 i then some p.2 else pd r i
abbrev uR (E:aN) (c:Code) (id:Nat) (S:bh):Prop:=oR (bP c id)=true∧∀x y,S.g x=some y→∀π∈Aq (bP c id),cB E (bP c id) (bY (bP c id) π) (d8 S.ent x) (fun s'=>gT E.N S.out s')=some y
def dG (E:aN) (c:Code):List (Nat×bh)→Prop
 |[]=>True
 |p::r=>uR E c p.1 p.2∧dG E c r
theorem CL{E:aN}{c:Code}:∀{l:List (Nat×bh)},dG E c l→∀id S,pd l id=some S→uR E c id S
 |[],_,_,_,h=>by cases h
 |p::r,h,id,S,hS=>by
  unfold pd at hS
  cases q:Nat.beq p.1 id with
  |true=>rw[q]at hS;obtain rfl:=Option.some.inj hS;obtain rfl:=Nat.eq_of_beq_eq_true q;exact h.1
  |false=>rw[q]at hS;exact CL h.2 id S hS
abbrev oN (b:Bool) (E:aN) (c:Code) (r:Nat) (L:List Nat) (S:bh):Prop:=∀x,ls b E (bP c r) (bY (bP c r) L) (d8 S.ent x) (fun s=>gT E.N S.out s)=S.g x
abbrev M0 (W:WL) (E:aN) (c:Code) (r:Nat) (L:List Nat) (S:bh):Prop:=∀x,oP W E (bP c r) (bY (bP c r) L) (d8 S.ent x) (fun s=>gT E.N S.out s)=S.g x
abbrev RK (E:aN) (c:Code) (r n:Nat) (S:bh):Prop:=∀x,(Aq (bP c r)).map (fun π=>cB E (bP c r) (bY (bP c r) π) (d8 S.ent x) (fun s=>gT E.N S.out s))=List.replicate n (S.g x)
theorem gf{b:Bool}{E:aN}{c:Code}{r:Nat}{L:List Nat}{S:bh}(h:oN b E c r L S) (zs:List (Nat×Nat)) (hb:(L.all (fun i=>Nat.blt i (bP c r).length)&&(List.range (bP c r).length).all (fun i=>aY i L))=true:=by kernel_rfl) (hnd:L.Nodup:=by decide) (ha:oR (bP c r)=true:=by kernel_rfl)
  (hp:cZ (Bl E (bP c r) (aX (bP c r) []) b) L=true:=by kernel_rfl) (ho:cZ (Bq (bP c r)) L=true:=by kernel_rfl) (hok:(!b || L.all (fun j=>GT E (bP c r) (aX (bP c r) []) zs j || yH E (bP c r) (aX (bP c r) []) j))=true:=by kernel_rfl) (hs:∀x:TD (bg S.ent),(!b || zF (bP c r) zs L (cC S.ent (au (bg S.ent) x)) (fR S.ent (au (bg S.ent) x)))=true:=by intro x;kernel_rfl):uR E c r S :=
 ⟨ha,fun x y hy=>FL b zs L hb hnd ha hp ho hok (hs x) ((h x).trans hy)⟩
theorem E9{W:WL}{E:aN}{c:Code}{r:Nat}{L:List Nat}{S:bh}(h:M0 W E c r L S) (T:List (Nat×Nm)) (hb:(L.all (fun i=>Nat.blt i (bP c r).length)&&(List.range (bP c r).length).all (fun i=>aY i L))=true:=by kernel_rfl) (hnd:L.Nodup:=by decide) (ha:oR (bP c r)=true:=by kernel_rfl)
  (hp:cZ (Bm E (bP c r) W T (aX (bP c r) [])) L=true:=by kernel_rfl) (ho:cZ (Bq (bP c r)) L=true:=by kernel_rfl) (hok:L.all (fun j=>Ng E (bP c r) W T (aX (bP c r) []) j || yJ W E (bP c r) (aX (bP c r) []) j)=true:=by kernel_rfl) (hs:∀x:TD (bg S.ent),zG E (bP c r) W T L (cC S.ent (au (bg S.ent) x)) (fR S.ent (au (bg S.ent) x))=true:=by intro x;kernel_rfl):uR E c r S :=
 ⟨ha,fun x y hy=>FK W T L hb hnd ha hp ho hok (hs x) ((h x).trans hy)⟩
theorem Jl{E:aN}{c:Code}{r n:Nat}{S:bh}(h:RK E c r n S) (ha:oR (bP c r)=true:=by kernel_rfl):uR E c r S :=
 ⟨ha,fun x y hy=>Dz (h x) (fun v hv=>(List.eq_of_mem_replicate hv).trans hy)⟩
abbrev Nn (E:aN) (c:Code) (r n:Nat) (S:bh):Prop:=∀x,(B8 E (bP c r) (bP c r).length none (List.range (bP c r).length)).map (fun π=>ls false E (bP c r) (bY (bP c r) π) (d8 S.ent x) (fun s=>gT E.N S.out s))=List.replicate n (S.g x)
theorem GH{E:aN}{c:Code}{r n:Nat}{S:bh}(h:Nn E c r n S) (ha:oR (bP c r)=true:=by kernel_rfl):uR E c r S :=
 ⟨ha,fun x y hy=>JR ha (Dz (h x) (fun v hv=>(List.eq_of_mem_replicate hv).trans hy))⟩
theorem U9{E:aN}{c:Code}(h:∀id,E.Ω id=none):∀p∈jw c,zk E p.1 p.2:=fun p _ S hS=>by simp_all
theorem f8{E:aN}{c:Code}(hk:(ig c).length=0:=by kernel_rfl) (hΩ:∀id,E.Ω id=none:=by intro id;rfl):eR E c:=oz 0 hk (fun i hi=>absurd hi (Nat.not_lt_zero i)) (U9 hΩ)
theorem um{E:aN}{c:Code}{l:List (Nat×bh)}(h:dG E c l) (hk:(ig c).length=0:=by kernel_rfl) (hΩ:E.Ω=pd l:=by rfl) (hn:nw ((jw c).map Prod.fst)=true:=by kernel_rfl):eR E c :=
 oz 0 hk (fun i hi=>absurd hi (Nat.not_lt_zero i)) (DQ hn (fun id S hS=>CL h id S (by rw[←hΩ];exact hS)))
theorem Aa{E:aN}{c:Code}(k:Nat) (h:∀i,i<k→uU E (c9 c i)) (hk:(ig c).length=k:=by kernel_rfl) (hΩ:∀id,E.Ω id=none:=by intro id;rfl):eR E c:=oz k hk h (U9 hΩ)
theorem JF{E:aN}{c:Code}{l:List (Nat×bh)}(k:Nat) (h:∀i,i<k→uU E (c9 c i)) (hr:dG E c l) (hk:(ig c).length=k:=by kernel_rfl) (hΩ:E.Ω=pd l:=by rfl) (hn:nw ((jw c).map Prod.fst)=true:=by kernel_rfl):eR E c :=
 oz k hk h (DQ hn (fun id S hS=>CL hr id S (by rw[←hΩ];exact hS)))
theorem wK{E:aN}{c:Code}(n:Nat) (S:ki) (f:Nat→TD (bg S.ent)→Option (EX S.exs)) (hs:∀m x,f (m+1) x=j4 E c S (f m) x) (hS:E.Λ (key c)=some S:=by kernel_rfl) (h0:∀x,f 0 x=none:=by intro x;rfl) (hn:S.g=f n:=by rfl):uU E c:=L0 hS f h0 n hn hs
theorem ai{P:Program}{K:gA}{f:FuncId}{fn:Func}{S:ac}(hmo:P.follows .mixedOrders=true){t:kb}(hτ:cS P t) (hf:P.funcs[f]?=some fn) (E:aN) (l:List (Nat×ac)) (l2:List ((Nat×Nat)×ac)) (hl:Cv P K l) (hl2:xD P K l2)
  (hloops:eR E (ak fn)) (hg:∀x,S.g x=aF E fn S x) (ht:E.τ=t:=by rfl) (hΓ:E.Γ=gl l l2:=by rfl) (h1:(fn.name=="runtime.NumGoroutine")=false:=by kernel_rfl) (hb:fn.body.isSome=true:=by kernel_rfl) (hN:E.N=fn.ntmps:=by kernel_rfl) (hn:Nat.ble S.pars.length fn.ntmps=true:=by kernel_rfl) (hr:fn.results.size=S.res.length:=by kernel_rfl):xE P K (f,S) :=
 ⟨kH hf h1 (by cases q:fn.body with
  |none=>rw[q]at hb;cases hb
  |some c=>rfl),GU (S:=S) (E:=E) hf hmo (by rw[ht];exact hτ) hΓ hl hl2 hb hN (Nat.le_of_ble_eq_true hn) hr hloops hg⟩
def gA.of (W:World):gA where
 blk:=fun b=>b<W.heap.size
 ok:=fun w=>∀b,b<W.heap.size→w.heap[b]?=W.heap[b]?
 keep:=fun w w' h k b hb=>((k b hb).2).trans (h b hb)
theorem gA.of_cell{W w:World}(h:(gA.of W).ok w){b off:Nat}{u:Value}(hu:W.cell? ⟨b,off,none⟩=some u):w.cell? ⟨b,off,none⟩=some u:=by
 have hb:=World.block_lt_of_cell? W ⟨b,off,none⟩ hu
 rw[World.cell?_of_block (w:=W) (a:=⟨b,off,none⟩) (h b hb)];exact hu
theorem gA.of_tab{P:Program}{W w:World}(h:(gA.of W).ok w){name:String}{k:IntKind}{zs:List Int}(ht:Lib.TabIs P W name k zs):Lib.TabIs P w name k zs:=by
 unfold Lib.TabIs World.var? at ht ⊢
 cases hg:P.globalNamed name with
 |none=>simp_all
 |some g =>
  grind [gA.of,jr.ok]
theorem bn.drewN (w:World) (n:Nat):bn (fun _ _=>False) w (w.drewN n):=⟨rfl,rfl,rfl,Nat.le_refl _,fun _ _=>dP.refl _ _⟩
theorem bn.grow (w:World) (os:Array Go.Obj):bn (fun _ _=>False) w (Sort.grow w os) :=
 ⟨rfl,rfl,rfl,by show w.heap.size≤(w.heap++os).size;simp,fun b hb=>dP.of_eq (by show(w.heap++os)[b]?=w.heap[b]?;rw[Array.getElem?_append_left hb])⟩
def Jg (P:Program) (n:Nat):List TypeId→Option (List (Ty×Bool))
 |[]=>some []
 |T::r=>match AR P n T,P.underlying T,Jg P n r with
  |some t,some d,some l=>some ((t,uu d)::l)
  |_,_,_=>none
section
variable{H:Type}{enc:TypeId×Value→H}{P:Program}{W:World}{sp:Nat→Bool}{held:Bool}
theorem Mj{n T:Nat}{t:Ty}{d:TypeDesc}(ht:AR P n T=some t) (hd:P.underlying T=some d){base:Nat}{v:Value}(hv:Value.okWide P W .any base T v){x:DataW H}{ps:List MemPlace}(h:DataW.Trod enc P W 0 sp held T v x ps) :
  ∃a:jr,a.t=t∧a.agg=uu d∧a.u=v∧a.ok W:=by
 obtain⟨fuel,hf⟩:=h
 obtain⟨y,hr,hfit⟩:=oh n T t ht fuel _ _ hf
 refine⟨⟨t,uu d,y,v⟩,rfl,rfl,rfl,hfit,fun q=>?_,fun q=>?_⟩
 ·have q:uu d=true:=q
  cases d with
  |struct fs =>
   obtain⟨cs,rfl,_⟩:=WideShapes.okWide_struct hd hv
   exact⟨cs.toList,by simp,hr⟩
  |array m e =>
   exfalso
   cases n with
   |zero=>cases ht
   |succ n=>unfold AR at ht;rw[hd]at ht;cases ht
  |_=>cases q
 ·have q:uu d=false:=q
  have hc:v.cells.toList=[v]:=by
   cases n with
   |zero=>cases ht
   |succ n =>
    unfold AR at ht
    rw[hd]at ht
    cases d with
    |bool=>obtain⟨b,rfl⟩:=WideShapes.okWide_bool hd hv;rfl
    |int k=>obtain⟨m,rfl⟩:=WideShapes.okWide_int hd hv;rfl
    |string=>obtain⟨s,rfl⟩:=WideShapes.okWide_string hd hv;rfl
    |slice e=>obtain⟨a,l,c,rfl⟩:=WideShapes.okWide_slice hd hv;rfl
    |struct fs=>cases q
    |_=>cases ht
  rw[hc]at hr
  exact hr
theorem Ey{n base:Nat}:∀{Ts:List TypeId}{vs:List Value}{ds:List (DataW H)}{ps:List MemPlace}{l:List (Ty×Bool)},Jg P n Ts=some l→DataW.TrodAll enc P W 0 sp held Ts vs ds ps →
  (∀(j:Nat) t v,Ts[j]?=some t→vs[j]?=some v→Value.okWide P W .any base t v)→∃as:List jr,as.map (fun a=>(a.t,a.agg))=l∧as.map jr.u=vs∧∀a∈as,a.ok W
 |[],vs,ds,ps,l,hs,h,_=>by
  obtain rfl:=Option.some.inj hs
  obtain⟨rfl,_,_⟩:=ChangeShapes.trodAll_nil h
  exact⟨[],rfl,rfl,fun a ha=>by cases ha⟩
 |T::Ts,vs,ds,ps,l,hs,h,hv=>by
  obtain⟨v,vs',d,ds',p,q,rfl,rfl,rfl,h0,h1⟩:=ChangeShapes.trodAll_cons h
  simp only[Jg]at hs
  split at hs
  ·rename_i t dd l' e1 e2 e3
   obtain rfl:=Option.some.inj hs
   obtain⟨a,a1,a2,a3,a4⟩:=Mj e1 e2 (hv 0 T v rfl rfl) h0
   obtain⟨as,b1,b2,b3⟩:=Ey e3 h1 (fun j t v ht hv'=>hv (j+1) t v ht hv')
   refine⟨a::as,?_,?_,fun x hx=>?_⟩
   ·simp_all
   ·simp_all
   ·grind
  ·cases hs
theorem qU{W':World}(hl:laidOutB P=true) (hb:RowKit.Below W.heap.size W W'){sp':Nat→Bool}:∀{Ts:List TypeId}{vs:List Value}{ds:List (DataW H)}{ps:List MemPlace},Ts.all (fun t=>P.readableRec t&&decide (t<P.types.size))=true →
  DataW.TrodAll enc P W 0 (fun _=>true) true Ts vs ds ps→(∀p∈ps,p.block<W.heap.size)→(∀p∈ps,sp' p.block=true)→DataW.TrodAll enc P W' 0 sp' true Ts vs ds ps
 |[],_,_,_,_,h,_,_=>by
  obtain⟨rfl,rfl,rfl⟩:=ChangeShapes.trodAll_nil h
  exact ChangeShapes.trodAll_mk0
 |T::Ts,_,_,_,hr,h,hlt,hsp=>by
  obtain⟨v,vs',d,ds',p,q,rfl,rfl,rfl,h0,h1⟩:=ChangeShapes.trodAll_cons h
  rw[List.all_cons,Bool.and_eq_true,Bool.and_eq_true]at hr
  obtain⟨⟨hr1,hr2⟩,hr3⟩:=hr
  refine⟨p,q,WideElems.Trod_stays hl hr1 (of_decide_eq_true hr2) h0 (fun x hx=>hb.same (hlt x (List.mem_append_left _ hx))) (fun x hx=>hsp x (List.mem_append_left _ hx)),?_,rfl⟩
  exact qU hl hb hr3 h1 (fun x hx=>hlt x (List.mem_append_right _ hx)) (fun x hx=>hsp x (List.mem_append_right _ hx))
theorem Ii{f:Func}{s:ChangeSpec}{B:TypeId}{W':World}{args:Array Value}{ds gs:List (DataW H)}{before:List MemPlace}(hvars:s.vars=[]) (hfn:∀l:List (DataW H),l.length=f.params.size→s.fn H l={ results:=[.lit (.bool true)],args:=l })
  (hrt:f.resultTypes=#[B]) (hB:P.underlying B=some .bool) (hl:laidOutB P=true) (hrd:f.params.toList.all (fun t=>P.readableRec t&&decide (t<P.types.size))=true)
  (hW:DataW.Whole enc P f.params.toList s.vars false W args.toList ds gs before) (hb:RowKit.Below W.heap.size W W'):s.post enc P f false true false false W args (.bool true) W':=by
 have hlt:=hW.lt
 have hW0:=hW
 obtain⟨p,q,hA,hV,rfl,hz,_⟩:=hW
 rw[hvars]at hV
 obtain⟨rfl,rfl⟩:=ChangeShapes.trodVars_none hV
 have hlen:ds.length=f.params.size:=by
  have:=(trodAll_length hA).2
  simpa using this
 have hfn':=hfn (ds++[]) (by simpa using hlen)
 refine⟨ds,[],p++[],[],p,[],hW0,?_,?_,?_,⟨hb.os,hb.output,fun i hi=>?_⟩,fun h=>by cases h⟩
 ·rw[hfn',hrt]
  exact ChangeShapes.trodAll_mk1 (RowKit.shut_bool hB true)
 ·rw[hfn']
  show DataW.TrodAll enc P W' 0 _ true f.params.toList args.toList (ds++[]) p
  rw[List.append_nil]
  have hlt':∀x∈p,x.block<W.heap.size:=fun x hx=>hlt x (List.mem_append_left _ hx)
  exact qU hl hb hrd hA hlt' (fun x hx=>by simpa using hlt' x hx)
 ·rw[hfn',hvars];rfl
 ·rw[hb.block i hi]
  cases W.heap[i]? with
  |none=>trivial
  |some o=>cases o<;>first|exact⟨rfl,rfl,rfl,fun _ _=>rfl⟩|exact .inr ⟨rfl,rfl⟩|rfl
end
theorem pJ{P:Program}{w:World}:∀{laid:List (String×DataW Unit)}{name:String}{d:DataW Unit},laidMet P laid w→(name,d)∈laid→laidMet P [(name,d)] w:=by
 have vars:∀{laid:List (String×DataW Unit)}{ps:List MemPlace}{name:String}{d:DataW Unit},DataW.LaidVars P w laid ps→(name,d)∈laid→∃qs,DataW.LaidVars P w [(name,d)] qs∧qs.Sublist ps:=by
  intro laid
  induction laid with
  |nil=>simp_all
  |cons x r ih =>
   intro ps name d h hm
   obtain⟨g,t,cs,fuel,p,q,h1,h2,h3,h4,h5,h6⟩:=h
   rcases List.mem_cons.1 hm with rfl|hm
   ·refine⟨_,⟨g,t,cs,fuel,p,[],h1,h2,h3,h4,rfl,rfl⟩,?_⟩
    rw[h6]
    rw[List.append_nil]
    exact List.sublist_append_left ..
   ·grind
 intro laid name d h hm
 obtain⟨ps,h1,h2,h3⟩:=h
 obtain⟨qs,k1,k2⟩:=vars h1 hm
 exact⟨qs,k1,h2.sublist k2,fun b off hq=>h3 b off (k2.subset hq)⟩
def wy (t:Ty) (el:Nat) (g:List t.den→Option (List t.den)):ac:={ pars:=[.c (.i (.sl t))],gh:=[],nb:=[],res:=[(false,[.o el t])],g:=g }
theorem yp{P:Program}{K:gA}{f:FuncId}{t:Ty}{el:Nat}{g:List t.den→Option (List t.den)}
  (h:∀(w:World) (I:Nat→Prop) (xs r:List t.den) (u:Value),g xs=some r→K.ok w→(∀b,I b→b<w.heap.size)→cK I w (.sl t) xs [u] →
   Calls P f #[u] w fun e w'=>∃v' vs,e = .returned v'∧w'.ownsRow w.heap.size el t.sz v' r.length vs∧bv I w t r vs∧bn (fun _ _=>False) w w') :
  nX P K f (wy t el g):=by
 intro Y L I a w x r hx hR hK hY hw
 have hN:Y.N=1:=hY
 have hsz:a.tmps.size=1:=hR.size.trans hN
 have hu:cK I w (.sl t) x [a.tmps.getD 0 undef]:=hR.slot 0
 have hI:∀b,I b→b<w.heap.size:=fun b hb=>(hR.imm b hb).1
 have htm:a.tmps=#[a.tmps.getD 0 undef]:=by
  refine Array.ext (by simp[hsz]) fun i hi _=>?_
  obtain rfl:i=0:=by omega
  rw[Array.getD_eq_getD_getElem?,Array.getElem?_eq_getElem hi];rfl
 subst hK
 rw[show first (ac.real (wy t el g)) a.tmps=a.tmps from qG (by rw[hsz];exact Nat.le_refl _),htm]
 refine(h w I x r _ hx hR.glob.1 hI hu).mono fun e w' hp=>?_
 obtain⟨v',vs,rfl,hown,hf,hst⟩:=hp
 have g1:=hR.grows hst
 have hsm:jV I w w':=fun b hb=>hst.same (hI b hb) (fun _ q=>q)
 have hsl:∃a l c,v' = .slice a l c:=by
  rcases hown.2 with⟨e,_⟩|⟨g,cap,cur,e,_⟩
  ·grind
  ·grind
 have hmk:d8 (ac.ens (wy t el g)) r=⟨dH [(1, .c (.own [1,0]))],be [([1,0], .arr el t r)]⟩:=by
  have ha:su [1,0] el t ⟨.sl t,r⟩=[([1,0], .arr el t r)]:=by
   grind [su,DV.as,kx]
  show St.mk _ (be ((su [1,0] el t ⟨.sl t,r⟩++[])++[]))=_
  rw[ha];rfl
 refine⟨_,fun n=>bif Nm.eqb n [1,0]then v' else L n,I,⟨#[a.tmps.getD 0 undef,v'],[]⟩,rfl,?_,fun n hn=>?_,rfl⟩
 ·rw[hmk]
  have one:∀{n:Nm}{ob:Ob},be [([1,0],Ob.arr el t r)] n=some ob→n=[1,0]∧ob = .arr el t r:=fun{n ob} hq=>by
   have hq:(bif Nm.eqb [1,0] n then some (Ob.arr el t r)else none)=some ob:=hq
   cases hn:Nm.eqb [1,0] n with
   |false=>grind
   |true =>
    grind [bA]
  refine⟨rfl,rfl,fun i hi=>?_,fun i hi=>?_,fun n ob hob=>?_,fun n m ob ob' h1 h2 b o q1 q2=>?_,fun n ob hob b o hq=>?_,g1.imm,g1.sub,g1.step,g1.glob⟩
  ·have hi:i<2:=hi
   match i,hi with
   |0,_=>trivial
   |1,_ =>
    obtain⟨sa,l,c,e⟩:=hsl
    exact⟨sa,l,c,e,rfl⟩
  ·have hi:2≤i:=hi
   match i,hi with
   |i+2,_=>rfl
  ·obtain⟨rfl,rfl⟩:=one hob
   refine⟨vs,⟨hown.1,hown.2.imp id ?_⟩,bv.mono (fun _ q=>q) hsm hf⟩
   rintro ⟨g,cap,cur,k1,k2,k3⟩
   exact⟨g,cap,cur,k1,Nat.zero_le _,k3⟩
  ·exact(one h1).1.trans (one h2).1.symm
  ·obtain⟨rfl,rfl⟩:=one hob
   have hq:v'.ownBlock=some b:=hq
   have hlt:=hown.lt b hq
   refine⟨hlt.2,fun q=>?_,fun q=>?_⟩
   ·have:=hI b q
    omega
   ·exfalso
    have q:b<Y.w0.heap.size:=q
    rw[hw]at q
    omega
 ·show(bif Nm.eqb n [1,0]then v' else L n)=L n
  have hne:Nm.eqb n [1,0]=false:=by
   rw[aT]
   intro e
   subst e
   cases hn
  rw[hne];rfl
theorem tl{I:Nat→Prop}{w:World}{k:IntKind}:∀{xs:List Int}{vs:List Value},bv I w (.int k) xs vs↔vs=xs.map (Value.int k)
 |[],vs=>by
  constructor
  ·rintro ⟨css,h1,rfl⟩
   cases css with
   |nil=>rfl
   |cons=>trivial
  ·rintro rfl;exact bv.nil
 |x::xs,vs=>by
  constructor
  ·intro h
   obtain⟨cs,us,rfl,h1,h2⟩:=h.un
   rw[show cs=[.int k x]from h1,tl.1 h2];rfl
  ·rintro rfl
   exact bv.cons (cs:=[.int k x]) rfl (tl.2 rfl)
theorem wx{w:World}{base e size:Nat}{v:Value}{n:Nat}{vs:List Value}(h:w.ownsRow base e size v n vs):∃a l c,v = .slice a l c:=by
 rcases h.2 with⟨e,_⟩|⟨g,cap,cur,e,_⟩
 ·simp_all
 ·simp_all
def vO (el:Nat) (g:List Int×Int→Option (List Int×Bool)):ac:={ pars:=[.c (.o el (.int .i64)), .c (.i (.int .i64))],gh:=[],nb:=[],res:=[(false,[.o el (.int .i64)]),(false,[.i .bool])],g:=g }
theorem C1{P:Program}{K:gA}{f:FuncId}{el:Nat}{g:List Int×Int→Option (List Int×Bool)}
  (h:∀(w:World) (v:Value) (xs:List Int) (k:Int) (r:List Int) (bb:Bool),g (xs,k)=some (r,bb)→K.ok w→w.ownsRow 0 el 1 v xs.length (xs.map (Value.int .i64)) →
   Calls P f #[v, .int .i64 k] w fun e w'=>∃v',e = .returned (.tuple #[v', .bool bb])∧w'.ownsRow 0 el 1 v' r.length (r.map (Value.int .i64))∧bn (fun b _=>v.ownBlock=some b) w w'∧∀b,v'.ownBlock=some b→v.ownBlock=some b∨w.heap.size≤b) :
  nX P K f (vO el g):=by
 intro Y L I a w x r hx hR hK hY hw
 have hN:Y.N=2:=hY
 have hsz:a.tmps.size=2:=hR.size.trans hN
 obtain⟨xs,k⟩:=x
 obtain⟨r,bb⟩:=r
 have ha0:∀(n:Nm) (l:List Int),su n el (.int .i64) ⟨.sl (.int .i64),l⟩=[(n, .arr el (.int .i64) l)]:=fun n l=>by
  rfl
 have hm0:d8 (aB 0 (vO el g).pars) (xs,k)=⟨dH [(0, .c (.own [0,0])),(1, .c (.v (.int .i64) k))],be [([0,0], .arr el (.int .i64) xs)]⟩:=by
  rfl
 rw[hm0]at hR
 have hu0:=hR.slot 0
 have hu1:=hR.slot 1
 obtain⟨sa,sl,sc,e0,e0'⟩:∃a' l c,a.tmps.getD 0 undef = .slice a' l c∧L [0,0]=a.tmps.getD 0 undef:=hu0
 have e1:a.tmps.getD 1 undef = .int .i64 k:=List.head_eq_of_cons_eq (show [a.tmps.getD 1 undef]=[.int .i64 k]from hu1)
 obtain⟨vs,hown,hf⟩:∃vs,w.ownsRow 0 el 1 (L [0,0]) xs.length vs∧bv I w (.int .i64) xs vs:=hR.obj [0,0] _ rfl
 rw[e0']at hown
 rw[tl.1 hf]at hown
 have hfp:∀b,(a.tmps.getD 0 undef).ownBlock=some b→b<w.heap.size∧¬I b∧∀o,Y.E b o:=fun b hb=>by
  have h0:=fun o=>hR.own [0,0] _ rfl b o (show(L [0,0]).ownBlock=some b by rw[e0'];exact hb)
  exact⟨(h0 0).1,(h0 0).2.1,fun o=>(h0 o).2.2 (by rw[hw];exact(h0 0).1)⟩
 have hI:∀b,I b→b<w.heap.size:=fun b hb=>(hR.imm b hb).1
 have htm:a.tmps=#[a.tmps.getD 0 undef, .int .i64 k]:=by
  refine Array.ext (by simp[hsz]) fun i hi _=>?_
  have hi2:i<2:=by omega
  match i,hi2 with
  |0,_=>simp_all
  |1,_=>simp_all
 generalize hv:a.tmps.getD 0 undef=v at htm hown hfp
 subst hK
 rw[show first (ac.real (vO el g)) a.tmps=a.tmps from qG (by rw[hsz];exact Nat.le_refl _),htm]
 refine(h w v xs k r bb hx hR.glob.1 hown).mono fun e w' hp=>?_
 obtain⟨v',rfl,hown',hst,hblk⟩:=hp
 have hsame:∀b,I b→w'.heap[b]?=w.heap[b]?:=fun b hb=>hst.same (hI b hb) (fun _ q=>(hfp b q).2.1 hb)
 have hsl:=wx hown'
 have hmk:d8 (ac.ens (vO el g)) (r,bb)=⟨dH [(2, .c (.own [2,0])),(3, .c (.v .bool bb))],be [([2,0], .arr el (.int .i64) r)]⟩:=by
  rfl
 refine⟨_,fun n=>bif Nm.eqb n [2,0]then v' else L n,I,⟨#[v, .int .i64 k,v', .bool bb],[]⟩,rfl,?_,fun n hn=>?_,rfl⟩
 ·rw[hmk]
  have one:∀{n:Nm}{ob:Ob},be [([2,0],Ob.arr el (.int .i64) r)] n=some ob→n=[2,0]∧ob = .arr el (.int .i64) r:=fun{n ob} hq=>by
   have hq:(bif Nm.eqb [2,0] n then some (Ob.arr el (.int .i64) r)else none)=some ob:=hq
   cases hn:Nm.eqb [2,0] n with
   |false=>simp_all
   |true =>
    grind [bA]
  refine⟨rfl,rfl,fun i hi=>?_,fun i hi=>?_,fun n ob hob=>?_,fun n m ob ob' h1 h2 b o q1 q2=>?_,fun n ob hob b o hq=>?_,fun b hb=>?_,hR.sub,?_,?_,hR.glob.2⟩
  ·have hi:i<4:=hi
   match i,hi with
   |0,_=>trivial
   |1,_=>trivial
   |2,_ =>
    obtain⟨sa,l,c,e⟩:=hsl
    exact⟨sa,l,c,e,rfl⟩
   |3,_=>exact rfl
  ·have hi:4≤i:=hi
   match i,hi with
   |i+4,_=>rfl
  ·obtain⟨rfl,rfl⟩:=one hob
   exact⟨_,hown',tl.2 rfl⟩
  ·exact(one h1).1.trans (one h2).1.symm
  ·obtain⟨rfl,rfl⟩:=one hob
   have hq:v'.ownBlock=some b:=hq
   have hlt:=hown'.lt b hq
   rcases hblk b hq with q|q
   ·obtain⟨k1,k2,k3⟩:=hfp b q
    exact⟨hlt.2,k2,fun _=>k3 o⟩
   ·refine⟨hlt.2,fun p=>?_,fun p=>?_⟩
    ·have:=hI b p
     omega
    ·exfalso
     have p:b<Y.w0.heap.size:=p
     rw[hw]at p
     omega
  ·obtain⟨k1,k2⟩:=hR.imm b hb
   exact⟨Nat.lt_of_lt_of_le k1 hst.size,k2⟩
  ·rw[show({ Y with N:=_ }:qT).w0=w from hw]
   exact hst.mono fun b o q=>(hfp b q).2.2 o
  ·exact Y.K.keep w w' hR.glob.1 fun b hb=>⟨hI b (hR.glob.2 b hb),hsame b (hR.glob.2 b hb)⟩
 ·show(bif Nm.eqb n [2,0]then v' else L n)=L n
  have hne:Nm.eqb n [2,0]=false:=by
   rw[aT]
   intro e
   subst e
   cases hn
  rw[hne];rfl
end AM
end Go.Proofs.YtobpcllkonomlaaGreatDoor
