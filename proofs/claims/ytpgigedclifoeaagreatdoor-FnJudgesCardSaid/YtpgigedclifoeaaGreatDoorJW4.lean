/- A table of types, held against the program's types by one computation. No condition. And what follows it: see the remarks. -/
import Derived.Test.YtpgigedclifoeaaGreatDoorJW3
import Derived.Laws.StructEq
import Derived.WideShapes
import Derived.RowKit
import Derived.WideKeyArgs
import Derived.ChangeOld
import Derived.Lib.LaidTab
import Derived.Sort.Grow
import Derived.Deep.Draws
import Derived.ChangeCalls
namespace Go.Proofs.YtpgigedclifoeaaGreatDoor
namespace AM
open Go
set_option linter.unusedVariables false
set_option linter.unusedSimpArgs false
def LU:Ty→List Value→Option (List Value)
 | .int k,vs=>match vs with
  | .int l n::r=>if l=k∧n=0 then some r else none
  |_=>none
 | .bool,vs=>match vs with
  | .bool false::r=>some r
  |_=>none
 | .str,vs=>match vs with
  | .string s::r=>bif Nat.beq s.size 0 then some r else none
  |_=>none
 | .sl _,vs=>match vs with
  | .slice none 0 0::r=>some r
  |_=>none
 | .pr a b,vs=>match LU a vs with
  |some r=>LU b r
  |none=>none
theorem u4:∀(t:Ty){vs r:List Value},LU t vs=some r→vs=iP t++r
 | .int k,vs,r,h=>by
  simp only[LU]at h
  split at h
  ·simp_all [LU,iP]
  ·cases h
 | .bool,vs,r,h=>by
  simp only[LU]at h
  split at h
  ·simp_all [LU,iP]
  ·cases h
 | .str,vs,r,h=>by
  simp only[LU]at h
  split at h
  ·rename_i s r'
   cases q:Nat.beq s.size 0 with
   |false=>simp_all
   |true =>
    rw[q]at h
    obtain rfl:=Option.some.inj h
    have:s=⟨#[]⟩:=by
     have:=Nat.eq_of_beq_eq_true q
     obtain⟨d⟩:=s
     obtain⟨l⟩:=d
     cases l with
     |nil=>rfl
     |cons x l=>trivial
    rw[this];rfl
  ·cases h
 | .sl t,vs,r,h=>by
  simp only[LU]at h
  split at h
  ·simp_all [LU,iP]
  ·cases h
 | .pr a b,vs,r,h=>by
  simp only[LU]at h
  split at h
  ·rename_i r1 h1
   rw[u4 a h1,u4 b h]
   simp[iP]
  ·cases h
def Kw:List Z→List Value→Bool
 |[],[]=>true
 | .t x::zs,vs=>match LU x vs with
  |some r=>Kw zs r
  |none=>false
 | .ptr::zs, .pointer none::vs=>Kw zs vs
 | .fn::zs, .nilFunc::vs=>Kw zs vs
 | .ifc::zs, .nilIface::vs=>Kw zs vs
 |_,_=>false
theorem rD:∀{zs:List Z}{vs:List Value},Kw zs vs=true→vs=zs.flatMap Z.vals
 |[],[],_=>rfl
 |[],_::_,h=>by cases h
 | .t x::zs,vs,h=>by
  unfold Kw at h
  split at h
  ·rename_i r e
   rw[u4 x e,rD h];rfl
  ·cases h
 | .ptr::zs,[],h=>by cases h
 | .fn::zs,[],h=>by cases h
 | .ifc::zs,[],h=>by cases h
 | .ptr::zs,v::vs,h=>by
  cases v<;>try (simp[Kw]at h;done)
  rename_i q
  cases q<;>first|(simp[Kw]at h;done)|(rw[rD (show Kw zs vs=true from h)];rfl)
 | .fn::zs,v::vs,h=>by
  cases v<;>first|(simp[Kw]at h;done)|(rw[rD (show Kw zs vs=true from h)];rfl)
 | .ifc::zs,v::vs,h=>by
  cases v<;>first|(simp[Kw]at h;done)|(rw[rD (show Kw zs vs=true from h)];rfl)
def zj:TypeDesc→Bool
 | .struct _=>true
 | .array _ _=>true
 |_=>false
def Kq (P:Program) (t:TypeId) (b:Bool):Bool:=match P.underlying t with
 |some d=>bif zj d then b else !b
 |none=>false
theorem xk{P:Program}{t:TypeId}{b:Bool}(h:Kq P t b=true) (w:World):(isAgg t).run P w = .ok b w:=by
 unfold Kq at h
 split at h
 ·rename_i d hd
  simp only[isAgg,Sem.run_bind,run_underlying hd,Result.andThen_ok]
  cases d<;>cases b<;>first|rfl|(cases h;done)
 ·cases h
def Bi (P:Program):List Field→List (Nat×Nat×Bool)→Bool
 |[],[]=>true
 |f::fs,x::xs=>Nat.beq f.offset x.1&&(Nat.blt 0 x.2.1&&((match P.info? f.type with|some i=>Nat.beq i.size x.2.1|none=>false)&&(Kq P f.type x.2.2&&Bi P fs xs)))
 |_,_=>false
theorem wg{P:Program}:∀{fs:List Field}{xs:List (Nat×Nat×Bool)},Bi P fs xs=true→fs.length=xs.length∧∀(i:Nat) (x:Nat×Nat×Bool),xs[i]?=some x→∃fd:Field,fs[i]?=some fd∧fd.offset=x.1∧x.2.1≠0 ∧
  (∀w,(sizeOf fd.type).run P w = .ok x.2.1 w)∧(∀w,(isAgg fd.type).run P w = .ok x.2.2 w)
 |[],[],_=>⟨rfl,fun _ _ h=>by cases h⟩
 |[],_::_,h=>by cases h
 |_::_,[],h=>by cases h
 |f::fs,x::xs,h=>by
  unfold Bi at h
  simp only[Bool.and_eq_true]at h
  obtain⟨h1,h2,h3,h4,h5⟩:=h
  obtain⟨g1,g2⟩:=wg h5
  refine⟨by simp[g1],fun i y hy=>?_⟩
  cases i with
  |zero =>
   obtain rfl:=Option.some.inj hy
   refine⟨f,rfl,Nat.eq_of_beq_eq_true h1,by have:=Nat.le_of_ble_eq_true h2;omega,fun w=>?_,xk h4⟩
   split at h3
   ·rename_i i hi
    rw[←Nat.eq_of_beq_eq_true h3]
    simp[sizeOf,typeInfo,hi]
   ·cases h3
  |succ i=>grind
def V6 (P:Program):Nat→List Field→List Ty→Bool
 |_,[],[]=>true
 |k,f::fs,t::ts=>Nat.beq f.offset k&&((f.name != "_")&&((match P.info? f.type with|some i=>Nat.beq i.size 1|none=>false)&&(Kq P f.type false&&((match P.underlying f.type,t with
   |some (.int k1), .int k2=>decide (k1=k2)
   |some .bool, .bool=>true
   |some .string, .str=>true
   |_,_=>false)&&V6 P (k+1) fs ts))))
 |_,_,_=>false
theorem yN{P:Program}{w:World}{t:TypeId}{i:TypeInfo}(hi:P.info? t=some i) (hs:i.size=1) (ha:Kq P t false=true){xs:Array Value}{off:Nat}{v:Value}(hx:xs[off]?=some v):(Go.part t xs off).run P w = .ok v w:=by
 have h1:∀w,(sizeOf t).run P w = .ok 1 w:=fun w=>by simp[sizeOf,typeInfo,hi,hs]
 have h2:=xk ha
 have hlt:=(Array.getElem?_eq_some_iff.1 hx).1
 obtain⟨hlt,hv⟩:=Array.getElem?_eq_some_iff.1 hx
 unfold Go.part
 simp[h1,h2,Result.andThen]
 simp[hx,hlt,hv]
theorem Er{P:Program}{d:Nat}{w:World}{xs ys:Array Value}:∀{k:Nat}{fs:List Field}{ts:List Ty}{us vs:List Value}{e:Bool},V6 P k fs ts=true→ba ts us vs=some e→xs.toList.drop k=us→ys.toList.drop k=vs →
  (Op.eqFields (d+1) xs ys fs).run P w = .ok e w
 |_,[],[],us,vs,e,_,he,_,_=>by
  cases us with
  |nil=>cases vs with
   |nil=>obtain rfl:=Option.some.inj he;simp[Op.eqFields]
   |cons _ _=>cases he
  |cons _ _=>cases he
 |_,[],_::_,_,_,_,h,_,_,_=>by cases h
 |_,_::_,[],_,_,_,h,_,_,_=>by cases h
 |k,f::fs,t::ts,us,vs,e,h,he,hu,hv=>by
  unfold V6 at h
  simp only[Bool.and_eq_true]at h
  obtain⟨h1,h2,h3,h4,h5,h6⟩:=h
  have h1:=Nat.eq_of_beq_eq_true h1
  have hname:f.name≠"_":=by simpa using h2
  split at h3
  case h_2=>cases h3
  rename_i i hi
  have hs:=Nat.eq_of_beq_eq_true h3
  have next:∀{zs:Array Value}{z:Value}{zl:List Value},zs.toList.drop k=z::zl→zs[f.offset]?=some z∧zs.toList.drop (k+1)=zl:=by
   intro zs z zl q
   have g:=congrArg (fun l=>l[0]?) q
   simp at g
   refine⟨by rw[h1];simpa using g,?_⟩
   rw[←List.drop_drop,q];rfl
  have fin:∀{u v:Value}{ul vl:List Value}{b e':Bool},us=u::ul→vs=v::vl→(Op.equalIn (d+1) f.type u v).run P w = .ok b w→ba ts ul vl=some e'→e=(b&&e')→(Op.eqFields (d+1) xs ys (f::fs)).run P w = .ok e w:=by
   intro u v ul vl b e' eu ev hb hr hE
   obtain⟨n1,n2⟩:=next (hu.trans eu)
   obtain⟨n3,n4⟩:=next (hv.trans ev)
   have ih:=Er (d:=d) (w:=w) h6 hr n2 n4
   have p1:=yN (P:=P) (w:=w) hi hs h4 n1
   have p2:=yN (P:=P) (w:=w) hi hs h4 n3
   unfold Op.eqFields
   rw[if_pos hname]
   simp only[Sem.run_bind,p1,Result.andThen_ok,p2,hb]
   cases b with
   |true=>simp_all
   |false=>simp[hE]
  cases us with
  |nil=>simp_all [ba]
  |cons u ul =>
   cases vs with
   |nil=>simp_all [ba]
   |cons v vl =>
    cases t with
    |int q =>
     cases u<;>try (simp[ba]at he;done)
     cases v<;>try (simp[ba]at he;done)
     simp only[ba]at he
     split at he
     ·rename_i hk
      obtain⟨rfl,rfl⟩:=hk
      split at he
      ·rename_i e' hr
       split at h5
       ·exact fin rfl rfl (run_equalIn_int _ _ _ _ _ _ _ ‹_›) hr (Option.some.inj he).symm
       ·trivial
       ·trivial
       ·cases h5
      ·cases he
     ·cases he
    |bool =>
     cases u<;>try (simp[ba]at he;done)
     cases v<;>try (simp[ba]at he;done)
     simp only[ba]at he
     split at he
     ·rename_i e' hr
      split at h5
      ·trivial
      ·exact fin rfl rfl (run_equalIn_bool' _ _ _ _ _ ‹_›) hr (Option.some.inj he).symm
      ·trivial
      ·cases h5
     ·cases he
    |str =>
     cases u<;>try (simp[ba]at he;done)
     cases v<;>try (simp[ba]at he;done)
     simp only[ba]at he
     split at he
     ·rename_i e' hr
      split at h5
      ·trivial
      ·trivial
      ·rename_i hu5 _
       have key:∀a b,(Op.equalIn (d+1) f.type (.string a) (.string b)).run P w = .ok (jn a b) w:=fun a b=>by rw[←ss];exact run_equalIn_string w d f.type a b hu5
       exact fin rfl rfl (key _ _) hr (Option.some.inj he).symm
      ·cases h5
     ·cases he
    |sl _=>trivial
    |pr _ _=>trivial
def FS (e:Bool) (d:Nat) (xs:Array Value) (fs:List Field):Sem PUnit :=
 forIn (m:=Sem) fs PUnit.unit (fun f _=>do
   if f.name≠"_" then do
    let __do_lift ←Go.part f.type xs f.offset
    Instr.checkKey e (d+1) f.type __do_lift
    pure (ForInStep.yield PUnit.unit)
   else pure (ForInStep.yield PUnit.unit))
theorem Ev{P:Program}{d:Nat}{e:Bool}{w:World}{xs:Array Value}:∀{k:Nat}{fs:List Field}{ts:List Ty}{us vs:List Value}{b:Bool},V6 P k fs ts=true→ba ts us vs=some b→xs.toList.drop k=us →
  (FS e d xs fs).run P w = .ok PUnit.unit w
 |_,[],_,_,_,_,_,_,_=>by rfl
 |_,_::_,[],_,_,_,h,_,_=>by cases h
 |k,f::fs,t::ts,us,vs,b,h,he,hu=>by
  unfold V6 at h
  simp only[Bool.and_eq_true]at h
  obtain⟨h1,h2,h3,h4,h5,h6⟩:=h
  have h1:=Nat.eq_of_beq_eq_true h1
  have hname:f.name≠"_":=by simpa using h2
  split at h3
  case h_2=>cases h3
  rename_i i hi
  have hs:=Nat.eq_of_beq_eq_true h3
  have fin:∀{u:Value}{ul vl:List Value}{b':Bool}{D:TypeDesc},us=u::ul→ba ts ul vl=some b'→P.underlying f.type=some D→(∀w,(Instr.checkKey e (d+1) f.type u).run P w = .ok () w)→(FS e d xs (f::fs)).run P w = .ok PUnit.unit w:=by
   intro u ul vl b' D eu hr _ hck
   have hu':=hu.trans eu
   have g:xs[f.offset]?=some u∧xs.toList.drop (k+1)=ul:=by
    have g:=congrArg (fun l=>l[0]?) hu'
    simp at g
    refine⟨by rw[h1];simpa using g,?_⟩
    rw[←List.drop_drop,hu'];rfl
   have ih:=Ev (d:=d) (e:=e) (w:=w) h6 hr g.2
   have p1:=yN (P:=P) (w:=w) hi hs h4 g.1
   unfold FS at ih ⊢
   rw[List.forIn_cons]
   simp only[Sem.run_bind,if_pos hname,p1,Result.andThen_ok,hck,Sem.run_pure]
   exact ih
  cases us with
  |nil=>simp_all [ba]
  |cons u ul =>
   cases vs with
   |nil=>simp_all [ba]
   |cons v vl =>
    have ckp:∀{D:TypeDesc},P.underlying f.type=some D→(D = .bool∨D = .string∨∃q,D = .int q)→∀w,(Instr.checkKey e (d+1) f.type u).run P w = .ok () w:=by
     intro D hD hc w
     rcases hc with rfl|rfl|⟨q,rfl⟩<;>simp[Instr.checkKey,run_underlying hD]
    cases t with
    |int q =>
     cases u<;>try (simp[ba]at he;done)
     cases v<;>try (simp[ba]at he;done)
     simp only[ba]at he
     split at he
     ·grind
     ·cases he
    |bool =>
     cases u<;>try (simp[ba]at he;done)
     cases v<;>try (simp[ba]at he;done)
     simp only[ba]at he
     split at he
     ·grind
     ·cases he
    |str =>
     cases u<;>try (simp[ba]at he;done)
     cases v<;>try (simp[ba]at he;done)
     simp only[ba]at he
     split at he
     ·grind
     ·cases he
    |sl _=>trivial
    |pr _ _=>trivial
def tiB (P:Program) (t:Nat) (ti:TI):Bool :=
 (match P.info? t with
  |some i=>Nat.beq i.size ti.size&&(Nat.beq i.bytes ti.bytes&&(match ti.ty with
   |some ty=>Nat.beq ty.sz ti.size&&(match i.zero with
    |some z=>(match LU ty z.cells.toList with|some []=>true|_=>false)
    |none=>false)
   |none=>true))
  |none=>false) &&
 (Kq P t ti.agg &&
 ((match P.underlying t with
  |some (.int k) => !Nat.beq ti.kind 1 || decide (k=ti.ik)
  |_ => !Nat.beq ti.kind 1) &&
 ((match P.underlying t with
  |some (.struct fs) => !Nat.beq ti.kind 2 || Bi P fs.toList ti.fs
  |_ => !Nat.beq ti.kind 2) &&
 ((match P.underlying t with
  |some (.slice e) => !Nat.beq ti.kind 3 || Nat.beq e ti.el
  |_ => !Nat.beq ti.kind 3) &&
 ((match P.underlying t with
  |some (.array n e) => !Nat.beq ti.kind 4 || (Nat.beq e ti.el&&(match P.info? e with|some i=>Nat.beq ti.size (n*i.size)|none=>true))
  |_ => !Nat.beq ti.kind 4) &&
 ((match P.underlying t with
  |some .string=>true
  |_ => !Nat.beq ti.kind 5) &&
 ((match P.underlying t with
  |some .bool=>true
  |_ => !Nat.beq ti.kind 6) &&
 ((match P.underlying t with
  |some (.interface _)=>true
  |_ => !Nat.beq ti.kind 7) &&
 ((match P.underlying t with
  |some (.pointer _)=>true
  |_ => !Nat.beq ti.kind 8) &&
 ((match P.underlying t with
  |some (.map ky e) => !Nat.beq ti.kind 9 || (Nat.beq ky ti.ky&&Nat.beq e ti.el)
  |_ => !Nat.beq ti.kind 9) &&
 ((!Nat.beq ti.kind 1 || (match P.info? t with
   |some i=>(match i.zero with
    |some (.int k n)=>decide (k=ti.ik∧n=0)
    |_=>false)
   |none=>false)) &&
 ((match ti.zs with
  |none=>true
  |some zs=>(match P.info? t with
   |some i=>(match i.zero with
    |some z=>Kw zs z.cells.toList
    |none=>false)
   |none=>false)) &&
 (match ti.eqs with
  |none=>true
  |some ts => !P.stoodInHeld t&&(!P.eqGuardType P.depth t&&(match P.underlying t with
   |some (.struct fs)=>V6 P 0 fs.toList ts
   |_=>false)))))))))))))))
theorem Mb{P:Program}{t:Nat}{ti:TI}(h:tiB P t ti=true):A7 P t ti:=by
 unfold tiB at h
 simp only[Bool.and_eq_true]at h
 obtain⟨h1,h2,h3,h4,h5,h6,h7,h8,hi7,hi8,hi9,hz1,hzs,h9⟩:=h
 have nk:∀{k:Nat},ti.kind=k→(!Nat.beq ti.kind k)=true→False:=by
  simp_all
 refine⟨?_,fun zs e=>?_,xk h2,?_,fun e=>?_,fun e=>?_,fun e=>?_,fun e=>?_,fun e=>?_,fun e=>?_,fun e=>?_,fun e=>?_,fun e=>?_,fun e=>?_,fun ts e em w xs ys b hb=>?_,fun ts e w xs ys b hb=>?_⟩
 ·split at h1
  ·rename_i i hi
   simp only[Bool.and_eq_true]at h1
   obtain⟨g1,g2,g3⟩:=h1
   refine⟨i,hi,Nat.eq_of_beq_eq_true g1,Nat.eq_of_beq_eq_true g2,fun ty hty=>?_⟩
   rw[hty]at g3
   dsimp only at g3
   rw[Bool.and_eq_true]at g3
   refine⟨Nat.eq_of_beq_eq_true g3.1,?_⟩
   have g4:=g3.2
   split at g4
   ·rename_i z hz
    refine⟨z,hz,?_⟩
    split at g4
    ·rename_i hzv
     have:=u4 ty hzv
     rw[List.append_nil]at this
     rw[←this]
    ·cases g4
   ·cases g4
  ·cases h1
 ·rw[e]at hzs
  dsimp only at hzs
  split at hzs
  ·rename_i i hi
   split at hzs
   ·rename_i z hz
    exact⟨i,z,hi,hz,by rw[←rD hzs]⟩
   ·cases hzs
  ·cases hzs
 ·unfold Kq at h2
  split at h2
  ·simp_all
  ·cases h2
 ·split at h3
  ·simp_all
  ·simp_all
 ·split at h4
  ·rename_i fs hfs
   rcases Bool.or_eq_true _ _ |>.mp h4 with q|q
   ·simp_all
   ·obtain⟨g1,g2⟩:=wg q
    refine⟨fs,hfs,by simpa using g1,fun f x hx=>?_⟩
    obtain⟨fd,k1,k2⟩:=g2 f x hx
    exact⟨fd,by simpa using k1,k2⟩
  ·simp_all
 ·split at h5
  ·simp_all
  ·simp_all
 ·split at h6
  ·rename_i n el hel
   rcases Bool.or_eq_true _ _ |>.mp h6 with q|q
   ·simp_all
   ·rw[Bool.and_eq_true]at q
    have q1:=Nat.eq_of_beq_eq_true q.1
    refine⟨n,by rw[hel,q1],fun i hi=>?_⟩
    have q2:=q.2
    rw[q1,hi]at q2
    exact Nat.eq_of_beq_eq_true q2
  ·simp_all
 ·grind
 ·grind
 ·grind
 ·grind
 ·split at hi9
  ·simp_all
  ·simp_all
 ·rcases Bool.or_eq_true _ _ |>.mp hz1 with q|q
  ·simp_all
  ·split at q
   ·grind
   ·cases q
 ·rw[e]at h9
  dsimp only at h9
  simp only[Bool.and_eq_true,Bool.not_eq_true']at h9
  obtain⟨g1,g2,g3⟩:=h9
  split at g3
  ·rename_i fs hfs
   show(Instr.checkKey em (9999+1) t (.agg xs.toArray)).run P w=_
   unfold Instr.checkKey
   simp only[Sem.run_bind,run_underlying hfs,Result.andThen_ok]
   rw[←Array.forIn_toList]
   have hck:=Ev (d:=9998) (e:=em) (w:=w) (xs:=xs.toArray) g3 hb (by simp)
   unfold FS at hck
   rw[hck];rfl
  ·cases g3
 ·rw[e]at h9
  dsimp only at h9
  simp only[Bool.and_eq_true,Bool.not_eq_true']at h9
  obtain⟨g1,g2,g3⟩:=h9
  split at g3
  ·rename_i fs hfs
   have hfo:P.fieldsOf t=fs:=by simp[Program.fieldsOf,hfs]
   refine⟨?_,fun op x y=>run_eqGuard_agg _ op t x y _ _ g2⟩
   show(Op.equalIn (9999+1) t (.agg xs.toArray) (.agg ys.toArray)).run P w=_
   rw[run_equalIn_struct w 9999 t _ _ (by rw[hfo];exact hfs) g1,hfo]
   exact Er (d:=9998) g3 hb (by simp) (by simp)
  ·cases g3
def Tx (P:Program):nK→Bool
 |[]=>true
 |p::r=>tiB P p.1 p.2&&Tx P r
theorem Bs{P:Program}:∀{τ:nK},Tx P τ=true→dZ P τ
 |[],_,_,_,e=>by cases e
 |p::r,h,t,ti,e=>by
  unfold Tx at h
  rw[Bool.and_eq_true]at h
  unfold nK.get at e
  cases q:Nat.beq p.1 t with
  |true =>
   simp_all [Mb]
  |false=>rw[q]at e;exact Bs h.2 t ti e
def ko:Code→List Code
 | .seq a b=>ko a++ko b
 | .cond _ a b=>ko a++ko b
 | .block _ c=>ko c
 | .loop c=>c::ko c
 |_=>[]
def Ah (E:aB) (c:Code):Prop:=∀S,E.Λ (key c)=some S→∃f:Nat→TD (bE S.ent)→Option (EX S.exs),(∀x,f 0 x=none)∧(∃n,S.g=f n)∧∀n x,f (n+1) x=cy E c S (f n) x
def mj:Code→List (Nat×Array Oper)
 | .region id ops _=>[(id,ops)]
 | .seq a b=>mj a++mj b
 | .cond _ a b=>mj a++mj b
 | .block _ c=>mj c
 | .loop c=>mj c
 |_=>[]
theorem Ih{E:aB}:∀c:Code,(∀b∈ko c,Ah E b)→(∀p∈mj c,EC E p.1 p.2)→gW E c:=by
 intro c
 induction c with
 |seq a b iha ihb=>exact fun h g=>⟨iha (fun x hx=>h x (List.mem_append_left _ hx)) fun x hx=>g x (List.mem_append_left _ hx),ihb (fun x hx=>h x (List.mem_append_right _ hx)) fun x hx=>g x (List.mem_append_right _ hx)⟩
 |cond _ a b iha ihb=>exact fun h g=>⟨iha (fun x hx=>h x (List.mem_append_left _ hx)) fun x hx=>g x (List.mem_append_left _ hx),ihb (fun x hx=>h x (List.mem_append_right _ hx)) fun x hx=>g x (List.mem_append_right _ hx)⟩
 |block _ c ih=>trivial
 |loop c ih=>exact fun h g=>⟨ih (fun x hx=>h x (List.mem_cons_of_mem _ hx)) g,h c (List.mem_cons_self ..)⟩
 |region id ops d=>exact fun _ g=>g (id,ops) (List.mem_singleton.2 rfl)
 |_=>exact fun _ _=>trivial
def cQ (c:Code) (id:Nat):List Oper:=match(mj c).find? (fun p=>Nat.beq p.1 id)with
 |some p=>p.2.toList
 |none=>[]
def rH:List Nat→Bool
 |[]=>true
 |n::r => !bo n r&&rH r
theorem Eo {β:Type}:∀{l:List (Nat×β)},rH (l.map Prod.fst)=true→∀p∈l,l.find? (fun q=>Nat.beq q.1 p.1)=some p
 |[],_,_,h=>by cases h
 |q::l,hn,p,h=>by
  unfold rH at hn
  simp only[List.map_cons,Bool.and_eq_true,Bool.not_eq_true']at hn
  rcases List.mem_cons.1 h with rfl|h
  ·simp_all
  ·have:Nat.beq q.1 p.1=false:=by
    cases z:Nat.beq q.1 p.1 with
    |false=>rfl
    |true =>
     have hm:bo q.1 (l.map Prod.fst)=true:=dU.2 (by rw[Nat.eq_of_beq_eq_true z];exact List.mem_map.2 ⟨p,h,rfl⟩)
     rw[hn.1]at hm;cases hm
   rw[List.find?_cons,this]
   exact Eo hn.2 p h
theorem KI{E:aB}{c:Code}(hn:rH ((mj c).map Prod.fst)=true) (h:∀id S,E.Ω id=some S→tF (cQ c id)=true∧∀x y,S.g x=some y→∀π∈FK (cQ c id),dk E (cQ c id) (cU (cQ c id) π) (fu S.ent x) (fun s'=>kH E.N S.out s')=some y):∀p∈mj c,EC E p.1 p.2:=by
 intro p hp S hS
 have hr:cQ c p.1=p.2.toList:=by unfold cQ;rw[Eo hn p hp]
 rw[←hr]
 exact h p.1 S hS
def ax (c:Code) (i:Nat):Code:=(ko c).getD i .skip
def ae (fn:Func):Code:=fn.body.getD .skip
theorem sT{E:aB}{c:Code}(k:Nat) (hk:(ko c).length=k) (h:∀i,i<k→Ah E (ax c i)) (hR:∀p∈mj c,EC E p.1 p.2):gW E c:=by
 refine Ih c (fun b hb=>?_) hR
 obtain⟨i,hi⟩:=List.getElem?_of_mem hb
 have hlt:i<k:=by rw[←hk];exact(List.getElem?_eq_some_iff.1 hi).1
 have:=h i hlt
 unfold ax at this
 rw[List.getD_eq_getElem?_getD,hi]at this
 exact this
theorem Ul{E:aB}{c:Code}{S:cx}(hS:E.Λ (key c)=some S) (f:Nat→TD (bE S.ent)→Option (EX S.exs)) (h0:∀x,f 0 x=none) (n:Nat) (hn:S.g=f n) (hs:∀m x,f (m+1) x=cy E c S (f m) x):Ah E c:=by
 intro S' hS'
 rw[hS]at hS'
 obtain rfl:=Option.some.inj hS'
 exact⟨f,h0,⟨n,hn⟩,hs⟩
def gl1:List (Nat×aa)→Nat→Option aa
 |[],_=>none
 |p::r,f=>bif Nat.beq p.1 f then some p.2 else gl1 r f
def gl2:List ((Nat×Nat)×aa)→Nat→Nat→Option aa
 |[],_,_=>none
 |p::r,f,d=>bif Nat.beq p.1.1 f&&Nat.beq p.1.2 d then some p.2 else gl2 r f d
def gl (l:List (Nat×aa)) (l2:List ((Nat×Nat)×aa)) (f d:Nat):Option aa :=
 match gl2 l2 f d with
 |some S=>some S
 |none=>gl1 l f
def pO (P:Program) (K:fE) (p:Nat×aa):Prop:=Plain P p.1∧m6 P K p.1 p.2
def CO (P:Program) (K:fE):List (Nat×aa)→Prop
 |[]=>True
 |p::r=>pO P K p∧CO P K r
def CN (P:Program) (K:fE):List ((Nat×Nat)×aa)→Prop
 |[]=>True
 |p::r=>pO P K (p.1.1,p.2)∧CN P K r
theorem Iw{P:Program}{K:fE}:∀{l:List (Nat×aa)},CO P K l→∀f S,gl1 l f=some S→Plain P f∧m6 P K f S
 |[],_,_,_,h=>by cases h
 |p::r,⟨h1,h2⟩,f,S,h=>by
  unfold gl1 at h
  cases q:Nat.beq p.1 f with
  |true =>
   rw[q]at h
   obtain rfl:=Option.some.inj h
   rw[←Nat.eq_of_beq_eq_true q]
   exact h1
  |false=>rw[q]at h;exact Iw h2 f S h
theorem Iv{P:Program}{K:fE}:∀{l:List ((Nat×Nat)×aa)},CN P K l→∀f d S,gl2 l f d=some S→Plain P f∧m6 P K f S
 |[],_,_,_,_,h=>by cases h
 |p::r,⟨h1,h2⟩,f,d,S,h=>by
  unfold gl2 at h
  cases q:(Nat.beq p.1.1 f&&Nat.beq p.1.2 d)with
  |true =>
   rw[q]at h
   obtain rfl:=Option.some.inj h
   rw[Bool.and_eq_true]at q
   rw[←Nat.eq_of_beq_eq_true q.1]
   exact h1
  |false=>rw[q]at h;exact Iv h2 f d S h
theorem Rc{P:Program}{K:fE}{l:List (Nat×aa)}{l2:List ((Nat×Nat)×aa)}(h1:CO P K l) (h2:CN P K l2) (f d:Nat) (S:aa) (h:gl l l2 f d=some S):Plain P f∧m6 P K f S:=by
 grind [gl,split,Iv,Iw]
theorem Ef{P:Program}{K:fE}:∀{l:List (Nat×aa)},CO P K l→∀p∈l,Plain P p.1∧m6 P K p.1 p.2
 |[],_,_,h=>by cases h
 |q::r,⟨h1,h2⟩,p,h=>by
  rcases List.mem_cons.1 h with rfl|h
  ·exact h1
  ·exact Ef h2 p h
theorem dT{P:Program}{f:FuncId}{fn:Func}(h:P.funcs[f]?=some fn) (hn:(fn.name=="runtime.NumGoroutine")=false) (hb:fn.body.isNone=false):Plain P f:=⟨fn,h,hn,hb⟩
theorem Rk{fn:Func}(h:fn.body.isSome=true):fn.body=some (ae fn):=by
 unfold ae
 cases q:fn.body with
 |none=>simp_all
 |some c=>rfl
theorem Kp {α β:Type}{xs:List α}{F:α→β}{vs:List β}(h:xs.map F=vs){r:β}(hv:∀v∈vs,v=r):∀x∈xs,F x=r:=fun x hx=>hv _ (h▸List.mem_map.2 ⟨x,hx,rfl⟩)
theorem Oz{P:Program}{K:fE}{f:FuncId}{fn:Func}{S:aa}{E:aB}{l:List (Nat×aa)}{l2:List ((Nat×Nat)×aa)}(hf:P.funcs[f]?=some fn) (hmo:P.follows .mixedOrders=true) (hτ:dZ P E.τ) (hΓ:E.Γ=gl l l2) (hl:CO P K l) (hl2:CN P K l2)
  (hb:fn.body.isSome=true) (hN:E.N=fn.ntmps) (hn:S.pars.length≤fn.ntmps) (hr:fn.results.size=S.res.length) (hloops:gW E (ae fn)) (hg:∀x,S.g x=am E fn S x) (h2:∀p∈E.Γ2,Plain P p.1∧m6 P K p.1 p.2):m6 P K f S :=
 WE ⟨hτ,fun f d S h=>by rw[hΓ]at h;exact Rc hl hl2 f d S h,hmo,h2⟩ hf (Rk hb) hN hn hr hloops (fun x r h=>by rw[←hg];exact h)
def tO:List (Nat×bT)→Nat→Option bT
 |[],_=>none
 |p::r,i=>bif Nat.beq p.1 i then some p.2 else tO r i
abbrev Ae (E:aB) (c:Code) (id:Nat) (S:bT):Prop:=tF (cQ c id)=true∧∀x y,S.g x=some y→∀π∈FK (cQ c id),dk E (cQ c id) (cU (cQ c id) π) (fu S.ent x) (fun s'=>kH E.N S.out s')=some y
def eO (E:aB) (c:Code):List (Nat×bT)→Prop
 |[]=>True
 |p::r=>Ae E c p.1 p.2∧eO E c r
theorem Jo{E:aB}{c:Code}:∀{l:List (Nat×bT)},eO E c l→∀id S,tO l id=some S→Ae E c id S
 |[],_,_,_,h=>by cases h
 |p::r,h,id,S,hS=>by
  unfold tO at hS
  cases q:Nat.beq p.1 id with
  |true=>rw[q]at hS;obtain rfl:=Option.some.inj hS;obtain rfl:=Nat.eq_of_beq_eq_true q;exact h.1
  |false=>rw[q]at hS;exact Jo h.2 id S hS
abbrev yJ (b:Bool) (E:aB) (c:Code) (r:Nat) (L:List Nat) (S:bT):Prop:=∀x,pq b E (cQ c r) (cU (cQ c r) L) (fu S.ent x) (fun s=>kH E.N S.out s)=S.g x
abbrev Ex7 (W:WL) (E:aB) (c:Code) (r:Nat) (L:List Nat) (S:bT):Prop:=∀x,tB W E (cQ c r) (cU (cQ c r) L) (fu S.ent x) (fun s=>kH E.N S.out s)=S.g x
abbrev Tj (E:aB) (c:Code) (r n:Nat) (S:bT):Prop:=∀x,(FK (cQ c r)).map (fun π=>dk E (cQ c r) (cU (cQ c r) π) (fu S.ent x) (fun s=>kH E.N S.out s))=List.replicate n (S.g x)
theorem ny{b:Bool}{E:aB}{c:Code}{r:Nat}{L:List Nat}{S:bT}(h:yJ b E c r L S) (zs:List (Nat×Nat)) (hb:(L.all (fun i=>Nat.blt i (cQ c r).length)&&(List.range (cQ c r).length).all (fun i=>bo i L))=true:=by kernel_rfl) (hnd:L.Nodup:=by decide) (ha:tF (cQ c r)=true:=by kernel_rfl)
  (hp:eB (GL E (cQ c r) (bn (cQ c r) []) b) L=true:=by kernel_rfl) (ho:eB (GQ (cQ c r)) L=true:=by kernel_rfl) (hok:(!b || L.all (fun j=>Oy E (cQ c r) (bn (cQ c r) []) zs j || D2 E (cQ c r) (bn (cQ c r) []) j))=true:=by kernel_rfl) (hs:∀x:TD (bE S.ent),(!b || ES (cQ c r) zs L (dB S.ent (ak (bE S.ent) x)) (g9 S.ent (ak (bE S.ent) x)))=true:=by intro x;kernel_rfl):Ae E c r S :=
 ⟨ha,fun x y hy=>Nb b zs L hb hnd ha hp ho hok (hs x) ((h x).trans hy)⟩
theorem TQ{W:WL}{E:aB}{c:Code}{r:Nat}{L:List Nat}{S:bT}(h:Ex7 W E c r L S) (T:List (Nat×Nm)) (hb:(L.all (fun i=>Nat.blt i (cQ c r).length)&&(List.range (cQ c r).length).all (fun i=>bo i L))=true:=by kernel_rfl) (hnd:L.Nodup:=by decide) (ha:tF (cQ c r)=true:=by kernel_rfl)
  (hp:eB (GM E (cQ c r) W T (bn (cQ c r) [])) L=true:=by kernel_rfl) (ho:eB (GQ (cQ c r)) L=true:=by kernel_rfl) (hok:L.all (fun j=>V5 E (cQ c r) W T (bn (cQ c r) []) j || D5 W E (cQ c r) (bn (cQ c r) []) j)=true:=by kernel_rfl) (hs:∀x:TD (bE S.ent),EU E (cQ c r) W T L (dB S.ent (ak (bE S.ent) x)) (g9 S.ent (ak (bE S.ent) x))=true:=by intro x;kernel_rfl):Ae E c r S :=
 ⟨ha,fun x y hy=>Na W T L hb hnd ha hp ho hok (hs x) ((h x).trans hy)⟩
theorem Jq{E:aB}{c:Code}{r n:Nat}{S:bT}(h:Tj E c r n S) (ha:tF (cQ c r)=true:=by kernel_rfl):Ae E c r S :=
 ⟨ha,fun x y hy=>Kp (h x) (fun v hv=>(List.eq_of_mem_replicate hv).trans hy)⟩
abbrev ExF (E:aB) (c:Code) (r n:Nat) (S:bT):Prop:=∀x,(ID E (cQ c r) (cQ c r).length none (List.range (cQ c r).length)).map (fun π=>pq false E (cQ c r) (cU (cQ c r) π) (fu S.ent x) (fun s=>kH E.N S.out s))=List.replicate n (S.g x)
theorem QF{E:aB}{c:Code}{r n:Nat}{S:bT}(h:ExF E c r n S) (ha:tF (cQ c r)=true:=by kernel_rfl):Ae E c r S :=
 ⟨ha,fun x y hy=>Re ha (Kp (h x) (fun v hv=>(List.eq_of_mem_replicate hv).trans hy))⟩
theorem nor{E:aB}{c:Code}(h:∀id,E.Ω id=none):∀p∈mj c,EC E p.1 p.2:=fun p _ S hS=>by simp_all
theorem ff{E:aB}{c:Code}(hk:(ko c).length=0:=by kernel_rfl) (hΩ:∀id,E.Ω id=none:=by intro id;rfl):gW E c:=sT 0 hk (fun i hi=>absurd hi (Nat.not_lt_zero i)) (nor hΩ)
theorem DU{E:aB}{c:Code}{l:List (Nat×bT)}(h:eO E c l) (hk:(ko c).length=0:=by kernel_rfl) (hΩ:E.Ω=tO l:=by rfl) (hn:rH ((mj c).map Prod.fst)=true:=by kernel_rfl):gW E c :=
 sT 0 hk (fun i hi=>absurd hi (Nat.not_lt_zero i)) (KI hn (fun id S hS=>Jo h id S (by rw[←hΩ];exact hS)))
theorem pu{E:aB}{c:Code}(k:Nat) (h:∀i,i<k→Ah E (ax c i)) (hk:(ko c).length=k:=by kernel_rfl) (hΩ:∀id,E.Ω id=none:=by intro id;rfl):gW E c:=sT k hk h (nor hΩ)
theorem AR{E:aB}{c:Code}{l:List (Nat×bT)}(k:Nat) (h:∀i,i<k→Ah E (ax c i)) (hr:eO E c l) (hk:(ko c).length=k:=by kernel_rfl) (hΩ:E.Ω=tO l:=by rfl) (hn:rH ((mj c).map Prod.fst)=true:=by kernel_rfl):gW E c :=
 sT k hk h (KI hn (fun id S hS=>Jo hr id S (by rw[←hΩ];exact hS)))
theorem iZ{E:aB}{c:Code}(n:Nat) (S:cx) (f:Nat→TD (bE S.ent)→Option (EX S.exs)) (hs:∀m x,f (m+1) x=cy E c S (f m) x) (hS:E.Λ (key c)=some S:=by kernel_rfl) (h0:∀x,f 0 x=none:=by intro x;rfl) (hn:S.g=f n:=by rfl):Ah E c:=Ul hS f h0 n hn hs
theorem M6{P:Program}{K:fE}{f:FuncId}{S:aa}(h:pO P K (f,S)) (p:TD (bE (ej S.pars S.res S.nb))→Bool):pO P K (f,{ S with g:=fun x=>(S.g x).bind fun r=>cond (p r) none (some r) }) :=
 ⟨h.1,fun Y L I a w x r hr=>h.2 Y L I a w x r <| by
  have hr:((S.g x).bind fun r=>cond (p r) none (some r))=some r:=hr
  cases q:S.g x with
  |none=>rw[q]at hr;cases hr
  |some z =>
   rw[q,Option.bind_some]at hr
   cases hp:p z with
   |true=>rw[hp]at hr;cases hr
   |false=>rw[hp]at hr;exact hr⟩
theorem ac{P:Program}{K:fE}{f:FuncId}{fn:Func}{S:aa}(hmo:P.follows .mixedOrders=true){t:nK}(hτ:dZ P t) (hf:P.funcs[f]?=some fn) (E:aB) (l:List (Nat×aa)) (l2:List ((Nat×Nat)×aa)) (hl:CO P K l) (hl2:CN P K l2)
  (hloops:gW E (ae fn)) (hg:∀x,S.g x=am E fn S x) (ht:E.τ=t:=by rfl) (hΓ:E.Γ=gl l l2:=by rfl) (h1:(fn.name=="runtime.NumGoroutine")=false:=by kernel_rfl) (hb:fn.body.isSome=true:=by kernel_rfl) (hN:E.N=fn.ntmps:=by kernel_rfl) (hn:Nat.ble S.pars.length fn.ntmps=true:=by kernel_rfl) (hr:fn.results.size=S.res.length:=by kernel_rfl) (l3:List (Nat×aa):=[]) (hl3:CO P K l3:=by exact trivial) (h2:E.Γ2=l3:=by rfl):pO P K (f,S) :=
 ⟨dT hf h1 (by cases q:fn.body with
  |none=>rw[q]at hb;cases hb
  |some c=>rfl),Oz (S:=S) (E:=E) hf hmo (by rw[ht];exact hτ) hΓ hl hl2 hb hN (Nat.le_of_ble_eq_true hn) hr hloops hg (fun p hp=>Ef hl3 p (h2▸hp))⟩
def fE.of (W:World):fE where
 blk:=fun b=>b<W.heap.size
 ok:=fun w=>∀b,b<W.heap.size→w.heap[b]?=W.heap[b]?
 keep:=fun w w' h k b hb=>((k b hb).2).trans (h b hb)
theorem fE.of_cell{W w:World}(h:(fE.of W).ok w){b off:Nat}{u:Value}(hu:W.cell? ⟨b,off,none⟩=some u):w.cell? ⟨b,off,none⟩=some u:=by
 have hb:=World.block_lt_of_cell? W ⟨b,off,none⟩ hu
 rw[World.cell?_of_block (w:=W) (a:=⟨b,off,none⟩) (h b hb)];exact hu
theorem fE.of_tab{P:Program}{W w:World}(h:(fE.of W).ok w){name:String}{k:IntKind}{zs:List Int}(ht:Lib.TabIs P W name k zs):Lib.TabIs P w name k zs:=by
 unfold Lib.TabIs World.var? at ht ⊢
 cases hg:P.globalNamed name with
 |none=>simp_all
 |some g =>
  grind [fE.of,lU.ok]
theorem bY.drewN (w:World) (n:Nat):bY (fun _ _=>False) w (w.drewN n):=⟨rfl,rfl,rfl,Nat.le_refl _,fun _ _=>fY.refl _ _⟩
theorem bY.grow (w:World) (os:Array Go.Obj):bY (fun _ _=>False) w (Sort.grow w os) :=
 ⟨rfl,rfl,rfl,by show w.heap.size≤(w.heap++os).size;simp,fun b hb=>fY.of_eq (by show(w.heap++os)[b]?=w.heap[b]?;rw[Array.getElem?_append_left hb])⟩
def Qv (P:Program) (n:Nat):List TypeId→Option (List (Ty×Bool))
 |[]=>some []
 |T::r=>match Gj P n T,P.underlying T,Qv P n r with
  |some t,some d,some l=>some ((t,zj d)::l)
  |_,_,_=>none
section
variable{H:Type}{enc:TypeId×Value→H}{P:Program}{W:World}{sp:Nat→Bool}{held:Bool}
theorem UL{n T:Nat}{t:Ty}{d:TypeDesc}(ht:Gj P n T=some t) (hd:P.underlying T=some d){base:Nat}{v:Value}(hv:Value.okWide P W .any base T v){x:DataW H}{ps:List MemPlace}(h:DataW.Trod enc P W 0 sp held T v x ps) :
  ∃a:lU,a.t=t∧a.agg=zj d∧a.u=v∧a.ok W:=by
 obtain⟨fuel,hf⟩:=h
 obtain⟨y,hr,hfit⟩:=sG n T t ht fuel _ _ hf
 refine⟨⟨t,zj d,y,v⟩,rfl,rfl,rfl,hfit,fun q=>?_,fun q=>?_⟩
 ·have q:zj d=true:=q
  cases d with
  |struct fs =>
   obtain⟨cs,rfl,_⟩:=WideShapes.okWide_struct hd hv
   exact⟨cs.toList,by simp,hr⟩
  |array m e =>
   exfalso
   cases n with
   |zero=>cases ht
   |succ n=>unfold Gj at ht;rw[hd]at ht;cases ht
  |_=>cases q
 ·have q:zj d=false:=q
  have hc:v.cells.toList=[v]:=by
   cases n with
   |zero=>cases ht
   |succ n =>
    unfold Gj at ht
    rw[hd]at ht
    cases d with
    |bool=>obtain⟨b,rfl⟩:=WideShapes.okWide_bool hd hv;rfl
    |int k=>obtain⟨m,rfl⟩:=WideShapes.okWide_int hd hv;rfl
    |string=>obtain⟨s,rfl⟩:=WideShapes.okWide_string hd hv;rfl
    |slice e=>obtain⟨a,l,c,rfl⟩:=WideShapes.okWide_slice hd hv;rfl
    |struct fs=>cases q
    |_=>cases ht
  rw[hc]at hr
  exact hr
theorem LD{n base:Nat}:∀{Ts:List TypeId}{vs:List Value}{ds:List (DataW H)}{ps:List MemPlace}{l:List (Ty×Bool)},Qv P n Ts=some l→DataW.TrodAll enc P W 0 sp held Ts vs ds ps →
  (∀(j:Nat) t v,Ts[j]?=some t→vs[j]?=some v→Value.okWide P W .any base t v)→∃as:List lU,as.map (fun a=>(a.t,a.agg))=l∧as.map lU.u=vs∧∀a∈as,a.ok W
 |[],vs,ds,ps,l,hs,h,_=>by
  obtain rfl:=Option.some.inj hs
  obtain⟨rfl,_,_⟩:=ChangeShapes.trodAll_nil h
  exact⟨[],rfl,rfl,fun a ha=>by cases ha⟩
 |T::Ts,vs,ds,ps,l,hs,h,hv=>by
  obtain⟨v,vs',d,ds',p,q,rfl,rfl,rfl,h0,h1⟩:=ChangeShapes.trodAll_cons h
  simp only[Qv]at hs
  split at hs
  ·rename_i t dd l' e1 e2 e3
   obtain rfl:=Option.some.inj hs
   obtain⟨a,a1,a2,a3,a4⟩:=UL e1 e2 (hv 0 T v rfl rfl) h0
   obtain⟨as,b1,b2,b3⟩:=LD e3 h1 (fun j t v ht hv'=>hv (j+1) t v ht hv')
   refine⟨a::as,?_,?_,fun x hx=>?_⟩
   ·simp_all
   ·simp_all
   ·grind
  ·cases hs
theorem vU{W':World}(hl:laidOutB P=true) (hb:RowKit.Below W.heap.size W W'){sp':Nat→Bool}:∀{Ts:List TypeId}{vs:List Value}{ds:List (DataW H)}{ps:List MemPlace},Ts.all (fun t=>P.readableRec t&&decide (t<P.types.size))=true →
  DataW.TrodAll enc P W 0 (fun _=>true) true Ts vs ds ps→(∀p∈ps,p.block<W.heap.size)→(∀p∈ps,sp' p.block=true)→DataW.TrodAll enc P W' 0 sp' true Ts vs ds ps
 |[],_,_,_,_,h,_,_=>by
  obtain⟨rfl,rfl,rfl⟩:=ChangeShapes.trodAll_nil h
  exact ChangeShapes.trodAll_mk0
 |T::Ts,_,_,_,hr,h,hlt,hsp=>by
  obtain⟨v,vs',d,ds',p,q,rfl,rfl,rfl,h0,h1⟩:=ChangeShapes.trodAll_cons h
  rw[List.all_cons,Bool.and_eq_true,Bool.and_eq_true]at hr
  obtain⟨⟨hr1,hr2⟩,hr3⟩:=hr
  refine⟨p,q,WideElems.Trod_stays hl hr1 (of_decide_eq_true hr2) h0 (fun x hx=>hb.same (hlt x (List.mem_append_left _ hx))) (fun x hx=>hsp x (List.mem_append_left _ hx)),?_,rfl⟩
  exact vU hl hb hr3 h1 (fun x hx=>hlt x (List.mem_append_right _ hx)) (fun x hx=>hsp x (List.mem_append_right _ hx))
theorem O9{f:Func}{s:ChangeSpec}{B:TypeId}{W':World}{args:Array Value}{ds gs:List (DataW H)}{before:List MemPlace}(hvars:s.vars=[]) (hfn:∀l:List (DataW H),l.length=f.params.size→s.fn H l={ results:=[.lit (.bool true)],args:=l })
  (hrt:f.resultTypes=#[B]) (hB:P.underlying B=some .bool) (hl:laidOutB P=true) (hrd:f.params.toList.all (fun t=>P.readableRec t&&decide (t<P.types.size))=true)
  (hW:DataW.Whole enc P f.params.toList s.vars false W args.toList ds gs before) (hb:RowKit.Below W.heap.size W W'):s.post enc P f false true false false W args (.bool true) W':=by
 have hlt:=hW.lt
 have hW0:=hW
 obtain⟨p,q,hA,hV,rfl,hz,_⟩:=hW
 rw[hvars]at hV
 obtain⟨rfl,rfl⟩:=ChangeShapes.trodVars_none hV
 have hlen:ds.length=f.params.size:=by
  have:=(trodAll_length hA).2
  simpa using this
 have hfn':=hfn (ds++[]) (by simpa using hlen)
 refine⟨ds,[],p++[],[],p,[],hW0,?_,?_,?_,⟨hb.os,hb.output,fun i hi=>?_⟩,fun h=>by cases h⟩
 ·rw[hfn',hrt]
  exact ChangeShapes.trodAll_mk1 (RowKit.shut_bool hB true)
 ·rw[hfn']
  show DataW.TrodAll enc P W' 0 _ true f.params.toList args.toList (ds++[]) p
  rw[List.append_nil]
  have hlt':∀x∈p,x.block<W.heap.size:=fun x hx=>hlt x (List.mem_append_left _ hx)
  exact vU hl hb hrd hA hlt' (fun x hx=>by simpa using hlt' x hx)
 ·rw[hfn',hvars];rfl
 ·rw[hb.block i hi]
  cases W.heap[i]? with
  |none=>trivial
  |some o=>cases o<;>first|exact⟨rfl,rfl,rfl,fun _ _=>rfl⟩|exact .inr ⟨rfl,rfl⟩|rfl
end
theorem lN{P:Program}{w:World}:∀{laid:List (String×DataW Unit)}{name:String}{d:DataW Unit},laidMet P laid w→(name,d)∈laid→laidMet P [(name,d)] w:=by
 have vars:∀{laid:List (String×DataW Unit)}{ps:List MemPlace}{name:String}{d:DataW Unit},DataW.LaidVars P w laid ps→(name,d)∈laid→∃qs,DataW.LaidVars P w [(name,d)] qs∧qs.Sublist ps:=by
  intro laid
  induction laid with
  |nil=>simp_all
  |cons x r ih =>
   intro ps name d h hm
   obtain⟨g,t,cs,fuel,p,q,h1,h2,h3,h4,h5,h6⟩:=h
   rcases List.mem_cons.1 hm with rfl|hm
   ·refine⟨_,⟨g,t,cs,fuel,p,[],h1,h2,h3,h4,rfl,rfl⟩,?_⟩
    rw[h6]
    rw[List.append_nil]
    exact List.sublist_append_left ..
   ·grind
 intro laid name d h hm
 obtain⟨ps,h1,h2,h3⟩:=h
 obtain⟨qs,k1,k2⟩:=vars h1 hm
 exact⟨qs,k1,h2.sublist k2,fun b off hq=>h3 b off (k2.subset hq)⟩
def BM (t:Ty) (el:Nat) (g:List t.den→Option (List t.den)):aa:={ pars:=[.c (.i (.sl t))],gh:=[],nb:=[],res:=[(false,[.o el t])],g:=g }
theorem DK{P:Program}{K:fE}{f:FuncId}{t:Ty}{el:Nat}{g:List t.den→Option (List t.den)}
  (h:∀(w:World) (I:Nat→Prop) (xs r:List t.den) (u:Value),g xs=some r→K.ok w→(∀b,I b→b<w.heap.size)→dD I w (.sl t) xs [u] →
   Calls P f #[u] w fun e w'=>∃v' vs,e = .returned v'∧w'.ownsRow w.heap.size el t.sz v' r.length vs∧bZ I w t r vs∧bY (fun _ _=>False) w w') :
  m6 P K f (BM t el g):=by
 intro Y L I a w x r hx hR hK hY hw
 have hN:Y.N=1:=hY
 have hsz:a.tmps.size=1:=hR.size.trans hN
 have hu:dD I w (.sl t) x [a.tmps.getD 0 undef]:=hR.slot 0
 have hI:∀b,I b→b<w.heap.size:=fun b hb=>(hR.imm b hb).1
 have htm:a.tmps=#[a.tmps.getD 0 undef]:=by
  refine Array.ext (by simp[hsz]) fun i hi _=>?_
  obtain rfl:i=0:=by omega
  rw[Array.getD_eq_getD_getElem?,Array.getElem?_eq_getElem hi];rfl
 subst hK
 rw[show first (aa.real (BM t el g)) a.tmps=a.tmps from nH (by rw[hsz];exact Nat.le_refl _),htm]
 refine(h w I x r _ hx hR.glob.1 hI hu).mono fun e w' hp=>?_
 obtain⟨v',vs,rfl,hown,hf,hst⟩:=hp
 have g1:=hR.grows hst
 have hsm:mV I w w':=fun b hb=>hst.same (hI b hb) (fun _ q=>q)
 have hsl:∃a l c,v' = .slice a l c:=by
  rcases hown.2 with⟨e,_⟩|⟨g,cap,cur,e,_⟩
  ·grind
  ·grind
 have hmk:fu (aa.ens (BM t el g)) r=⟨d7 [(1, .c (.own [1,0]))],bm [([1,0], .arr el t r)]⟩:=by
  have ha:xi [1,0] el t ⟨.sl t,r⟩=[([1,0], .arr el t r)]:=by
   grind [xi,DV.as,mE]
  show St.mk _ (bm ((xi [1,0] el t ⟨.sl t,r⟩++[])++[]))=_
  rw[ha];rfl
 refine⟨_,fun n=>bif Nm.eqb n [1,0]then v' else L n,I,⟨#[a.tmps.getD 0 undef,v'],[]⟩,rfl,?_,fun n hn=>?_,rfl⟩
 ·rw[hmk]
  have one:∀{n:Nm}{ob:Ob},bm [([1,0],Ob.arr el t r)] n=some ob→n=[1,0]∧ob = .arr el t r:=fun{n ob} hq=>by
   have hq:(bif Nm.eqb [1,0] n then some (Ob.arr el t r)else none)=some ob:=hq
   cases hn:Nm.eqb [1,0] n with
   |false=>grind
   |true =>
    grind [bX]
  refine⟨rfl,rfl,fun i hi=>?_,fun i hi=>?_,fun n ob hob=>?_,fun n m ob ob' h1 h2 b o q1 q2=>?_,fun n ob hob b o hq=>?_,g1.imm,g1.sub,g1.step,g1.glob⟩
  ·have hi:i<2:=hi
   match i,hi with
   |0,_=>trivial
   |1,_ =>
    obtain⟨sa,l,c,e⟩:=hsl
    exact⟨sa,l,c,e,rfl⟩
  ·have hi:2≤i:=hi
   match i,hi with
   |i+2,_=>rfl
  ·obtain⟨rfl,rfl⟩:=one hob
   refine⟨vs,⟨hown.1,hown.2.imp id ?_⟩,bZ.mono (fun _ q=>q) hsm hf⟩
   rintro ⟨g,cap,cur,k1,k2,k3⟩
   exact⟨g,cap,cur,k1,Nat.zero_le _,k3⟩
  ·exact(one h1).1.trans (one h2).1.symm
  ·obtain⟨rfl,rfl⟩:=one hob
   have hq:v'.ownBlock=some b:=hq
   have hlt:=hown.lt b hq
   refine⟨hlt.2,fun q=>?_,fun q=>?_⟩
   ·have:=hI b q
    omega
   ·exfalso
    have q:b<Y.w0.heap.size:=q
    rw[hw]at q
    omega
 ·show(bif Nm.eqb n [1,0]then v' else L n)=L n
  have hne:Nm.eqb n [1,0]=false:=by
   rw[bi]
   intro e
   subst e
   cases hn
  rw[hne];rfl
theorem rM{I:Nat→Prop}{w:World}{k:IntKind}:∀{xs:List Int}{vs:List Value},bZ I w (.int k) xs vs↔vs=xs.map (Value.int k)
 |[],vs=>by
  constructor
  ·rintro ⟨css,h1,rfl⟩
   cases css with
   |nil=>rfl
   |cons=>trivial
  ·rintro rfl;exact bZ.nil
 |x::xs,vs=>by
  constructor
  ·intro h
   obtain⟨cs,us,rfl,h1,h2⟩:=h.un
   rw[show cs=[.int k x]from h1,rM.1 h2];rfl
  ·rintro rfl
   exact bZ.cons (cs:=[.int k x]) rfl (rM.2 rfl)
theorem JE{w:World}{base e size:Nat}{v:Value}{n:Nat}{vs:List Value}(h:w.ownsRow base e size v n vs):∃a l c,v = .slice a l c:=by
 rcases h.2 with⟨e,_⟩|⟨g,cap,cur,e,_⟩
 ·simp_all
 ·simp_all
theorem yR{Y:t7}{L:Nm→Value}{I:Nat→Prop}{a:Act}{w:World}{n:Nm}{el:Nat}{xs:List Int}(hR:ce Y L I ⟨d7 [(0, .c (.own n))],bm [(n, .arr el (.int .i64) xs)]⟩ a w) (hN:Y.N=1) (hw:Y.w0=w) :
  ∃v,a.tmps=#[v]∧L n=v∧(∃b l c,v = .slice b l c)∧w.ownsRow 0 el 1 v xs.length (xs.map (Value.int .i64))∧(∀b,v.ownBlock=some b→b<w.heap.size∧¬I b∧∀o,Y.E b o)∧∀b,I b→b<w.heap.size:=by
 have hsz:a.tmps.size=1:=hR.size.trans hN
 have hu0:=hR.slot 0
 obtain⟨sa,sl,sc,e0,e0'⟩:∃a' l c,a.tmps.getD 0 undef = .slice a' l c∧L n=a.tmps.getD 0 undef:=hu0
 have hob:(bm [(n,Ob.arr el (.int .i64) xs)]) n=some (.arr el (.int .i64) xs):=by
  grind [Nm.eqb,bX,d7,bm]
 obtain⟨vs,hown,hf⟩:∃vs,w.ownsRow 0 el 1 (L n) xs.length vs∧bZ I w (.int .i64) xs vs:=hR.obj n _ hob
 rw[e0']at hown
 rw[rM.1 hf]at hown
 have hfp:∀b,(a.tmps.getD 0 undef).ownBlock=some b→b<w.heap.size∧¬I b∧∀o,Y.E b o:=fun b hb=>by
  have h0:=fun o=>hR.own n _ hob b o (show(L n).ownBlock=some b by rw[e0'];exact hb)
  exact⟨(h0 0).1,(h0 0).2.1,fun o=>(h0 o).2.2 (by rw[hw];exact(h0 0).1)⟩
 have htm:a.tmps=#[a.tmps.getD 0 undef]:=by
  refine Array.ext (by simp[hsz]) fun i hi _=>?_
  obtain rfl:i=0:=by omega
  rw[Array.getD_eq_getD_getElem?,Array.getElem?_eq_getElem hi];rfl
 exact⟨_,htm,e0',⟨_,_,_,e0⟩,hown,hfp,fun b hb=>(hR.imm b hb).1⟩
theorem ux{n m:Nm}{ob ob':Ob}(hq:bm [(n,ob)] m=some ob'):m=n∧ob'=ob:=by
 grind [Nm.eqb,bX,bm]
def A8 (el:Nat) (g:List Int→Option (List Int)):aa:={ pars:=[.c (.b el (.int .i64))],gh:=[],nb:=[],res:=[],g:=g }
theorem JJ{P:Program}{K:fE}{f:FuncId}{el:Nat}{g:List Int→Option (List Int)}
  (h:∀(w:World) (v:Value) (xs r:List Int),g xs=some r→K.ok w→w.ownsRow 0 el 1 v xs.length (xs.map (Value.int .i64)) →
   Calls P f #[v] w fun e w'=>e = .returned (.tuple #[])∧w'.ownsRow 0 el 1 v r.length (r.map (Value.int .i64))∧bY (fun b _=>v.ownBlock=some b) w w') :
  m6 P K f (A8 el g):=by
 intro Y L I a w xs r hx hR hK hY hw
 have hm0:fu (aC 0 (A8 el g).pars) xs=⟨d7 [(0, .c (.own [0,0,99]))],bm [([0,0,99], .arr el (.int .i64) xs)]⟩:=by
  rfl
 rw[hm0]at hR
 obtain⟨v,htm,hL,hsl,hown,hfp,hI⟩:=yR hR hY hw
 subst hK
 rw[show first (aa.real (A8 el g)) a.tmps=a.tmps from nH (by rw[htm];exact Nat.le_refl _),htm]
 refine(h w v xs r hx hR.glob.1 hown).mono fun e w' hp=>?_
 obtain⟨rfl,hown',hst⟩:=hp
 have hsame:∀b,I b→w'.heap[b]?=w.heap[b]?:=fun b hb=>hst.same (hI b hb) (fun _ q=>(hfp b q).2.1 hb)
 have hmk:fu (aa.ens (A8 el g)) r=⟨d7 [(0, .c (.own [0,0,99]))],bm [([0,0,99], .arr el (.int .i64) r)]⟩:=by
  rfl
 refine⟨_,L,I,⟨#[v],[]⟩,rfl,?_,fun n hn=>rfl,rfl⟩
 rw[hmk]
 refine⟨rfl,rfl,fun i hi=>?_,fun i hi=>?_,fun n ob hob=>?_,fun n m ob ob' h1 h2 b o q1 q2=>?_,fun n ob hob b o hq=>?_,fun b hb=>?_,hR.sub,?_,?_,hR.glob.2⟩
 ·have hi:i<1:=hi
  match i,hi with
  |0,_ =>
   obtain⟨sa,l,c,e⟩:=hsl
   exact⟨sa,l,c,e,hL⟩
 ·have hi:1≤i:=hi
  match i,hi with
  |i+1,_=>rfl
 ·obtain⟨rfl,rfl⟩:=ux hob
  exact⟨_,hL▸hown',rM.2 rfl⟩
 ·exact(ux h1).1.trans (ux h2).1.symm
 ·obtain⟨rfl,rfl⟩:=ux hob
  have hq:v.ownBlock=some b:=hL▸(show(L [0,0,99]).ownBlock=some b from hq)
  obtain⟨k1,k2,k3⟩:=hfp b hq
  exact⟨Nat.lt_of_lt_of_le k1 hst.size,k2,fun _=>k3 o⟩
 ·obtain⟨k1,k2⟩:=hR.imm b hb
  exact⟨Nat.lt_of_lt_of_le k1 hst.size,k2⟩
 ·rw[show({ Y with N:=_ }:t7).w0=w from hw]
  exact hst.mono fun b o q=>(hfp b q).2.2 o
 ·exact Y.K.keep w w' hR.glob.1 fun b hb=>⟨hI b (hR.glob.2 b hb),hsame b (hR.glob.2 b hb)⟩
def Bj (el:Nat) (g:List Int→Option (List Int)):aa:={ pars:=[.c (.o el (.int .i64))],gh:=[],nb:=[],res:=[(false,[.o el (.int .i64)])],g:=g }
theorem JK{P:Program}{K:fE}{f:FuncId}{el:Nat}{g:List Int→Option (List Int)}
  (h:∀(w:World) (v:Value) (xs r:List Int),g xs=some r→K.ok w→w.ownsRow 0 el 1 v xs.length (xs.map (Value.int .i64)) →
   Calls P f #[v] w fun e w'=>∃v',e = .returned v'∧w'.ownsRow 0 el 1 v' r.length (r.map (Value.int .i64))∧bY (fun b _=>v.ownBlock=some b) w w'∧∀b,v'.ownBlock=some b→v.ownBlock=some b∨w.heap.size≤b) :
  m6 P K f (Bj el g):=by
 intro Y L I a w xs r hx hR hK hY hw
 have hm0:fu (aC 0 (Bj el g).pars) xs=⟨d7 [(0, .c (.own [0,0]))],bm [([0,0], .arr el (.int .i64) xs)]⟩:=by
  rfl
 rw[hm0]at hR
 obtain⟨v,htm,hL,hsl0,hown,hfp,hI⟩:=yR hR hY hw
 subst hK
 rw[show first (aa.real (Bj el g)) a.tmps=a.tmps from nH (by rw[htm];exact Nat.le_refl _),htm]
 refine(h w v xs r hx hR.glob.1 hown).mono fun e w' hp=>?_
 obtain⟨v',rfl,hown',hst,hblk⟩:=hp
 have hsame:∀b,I b→w'.heap[b]?=w.heap[b]?:=fun b hb=>hst.same (hI b hb) (fun _ q=>(hfp b q).2.1 hb)
 have hsl:=JE hown'
 have hmk:fu (aa.ens (Bj el g)) r=⟨d7 [(1, .c (.own [1,0]))],bm [([1,0], .arr el (.int .i64) r)]⟩:=by
  rfl
 refine⟨_,fun n=>bif Nm.eqb n [1,0]then v' else L n,I,⟨#[v,v'],[]⟩,rfl,?_,fun n hn=>?_,rfl⟩
 ·rw[hmk]
  refine⟨rfl,rfl,fun i hi=>?_,fun i hi=>?_,fun n ob hob=>?_,fun n m ob ob' h1 h2 b o q1 q2=>?_,fun n ob hob b o hq=>?_,fun b hb=>?_,hR.sub,?_,?_,hR.glob.2⟩
  ·have hi:i<2:=hi
   match i,hi with
   |0,_=>trivial
   |1,_ =>
    obtain⟨sa,l,c,e⟩:=hsl
    exact⟨sa,l,c,e,rfl⟩
  ·have hi:2≤i:=hi
   match i,hi with
   |i+2,_=>rfl
  ·obtain⟨rfl,rfl⟩:=ux hob
   exact⟨_,hown',rM.2 rfl⟩
  ·exact(ux h1).1.trans (ux h2).1.symm
  ·obtain⟨rfl,rfl⟩:=ux hob
   have hq:v'.ownBlock=some b:=hq
   have hlt:=hown'.lt b hq
   rcases hblk b hq with q|q
   ·obtain⟨k1,k2,k3⟩:=hfp b q
    exact⟨hlt.2,k2,fun _=>k3 o⟩
   ·refine⟨hlt.2,fun p=>?_,fun p=>?_⟩
    ·have:=hI b p
     omega
    ·exfalso
     have p:b<Y.w0.heap.size:=p
     rw[hw]at p
     omega
  ·obtain⟨k1,k2⟩:=hR.imm b hb
   exact⟨Nat.lt_of_lt_of_le k1 hst.size,k2⟩
  ·rw[show({ Y with N:=_ }:t7).w0=w from hw]
   exact hst.mono fun b o q=>(hfp b q).2.2 o
  ·exact Y.K.keep w w' hR.glob.1 fun b hb=>⟨hI b (hR.glob.2 b hb),hsame b (hR.glob.2 b hb)⟩
 ·show(bif Nm.eqb n [1,0]then v' else L n)=L n
  have hne:Nm.eqb n [1,0]=false:=by
   rw[bi]
   intro e
   subst e
   cases hn
  rw[hne];rfl
def Lv:Value→Value
 | .slice a n _ => .slice a n n
 |v=>v
def FQ (el:Nat) (g:List Int→Option (List Int)):aa:={ pars:=[.c (.o el (.int .i64))],gh:=[],nb:=[],res:=[(false,[.i (.sl (.int .i64))])],g:=g }
theorem JL{P:Program}{K:fE}{f:FuncId}{el:Nat}{g:List Int→Option (List Int)}
  (h:∀(w:World) (v:Value) (xs r:List Int),g xs=some r→K.ok w→w.ownsRow 0 el 1 v xs.length (xs.map (Value.int .i64)) →
   r=xs∧Calls P f #[v] w fun e w'=>e = .returned (Lv v)∧w'=w) :
  m6 P K f (FQ el g):=by
 intro Y L I a w xs r hx hR hK hY hw
 have hm0:fu (aC 0 (FQ el g).pars) xs=⟨d7 [(0, .c (.own [0,0]))],bm [([0,0], .arr el (.int .i64) xs)]⟩:=by
  rfl
 rw[hm0]at hR
 obtain⟨v,htm,hL,hsl0,hown,hfp,hI⟩:=yR hR hY hw
 subst hK
 rw[show first (aa.real (FQ el g)) a.tmps=a.tmps from nH (by rw[htm];exact Nat.le_refl _),htm]
 obtain⟨rfl,h⟩:=h w v xs r hx hR.glob.1 hown
 refine h.mono fun e w' hp=>?_
 obtain⟨rfl,rfl⟩:=hp
 refine⟨_,L,fun b=>I b∨v.ownBlock=some b,⟨#[v,Lv v],[]⟩,rfl,?_,fun n hn=>rfl,rfl⟩
 refine⟨rfl,rfl,fun i hi=>?_,fun i hi=>?_,fun n ob hob=>(by cases hob),fun n m ob ob' h1=>(by cases h1),fun n ob hob=>(by cases hob),fun b hb=>?_,fun b hb => .inl (hR.sub b hb),hR.step,hR.glob.1,fun b hb => .inl (hR.glob.2 b hb)⟩
 ·have hi:i<2:=hi
  match i,hi with
  |0,_=>trivial
  |1,_ =>
   show dD _ w' (.sl (.int .i64)) r [Lv v]
   have hfr:bZ (fun b=>I b∨v.ownBlock=some b) w' (.int .i64) r (r.map (Value.int .i64)):=rM.2 rfl
   obtain⟨css,h1,h2⟩:=hfr
   rcases hown.2 with⟨e,hn⟩|⟨g,cap,cur,e,_,hg,hnc,hcm,hcs,hrow⟩
   ·subst e
    obtain rfl:=List.eq_nil_of_length_eq_zero hn
    exact⟨none,0,css,rfl,Nat.le_refl _,h1, .inl rfl⟩
   ·subst e
    refine⟨some ⟨g,0,none⟩,r.length,css,rfl,Nat.le_refl _,h1, .inr ⟨g,0,rfl, .inr rfl,fun j u hj=>?_⟩⟩
    rw[←h2, ←hrow,List.getElem?_take]at hj
    split at hj
    ·simp only[World.cell?,hg,Nat.zero_add]
     rw[←hj,Array.getElem?_toList];rfl
    ·cases hj
 ·have hi:2≤i:=hi
  match i,hi with
  |i+2,_=>rfl
 ·rcases hb with hb|hb
  ·exact hR.imm b hb
  ·obtain⟨k1,k2,k3⟩:=hfp b hb
   exact⟨k1, .inr (.inr k3)⟩
end AM
end Go.Proofs.YtpgigedclifoeaaGreatDoor
