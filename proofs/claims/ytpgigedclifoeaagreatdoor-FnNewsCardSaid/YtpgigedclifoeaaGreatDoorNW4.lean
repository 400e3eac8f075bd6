/- A table of types, held against the program's types by one computation. No condition. And what follows it: see the remarks. -/
import Derived.Test.YtpgigedclifoeaaGreatDoorNW3
import Derived.Laws.StructEq
import Derived.WideShapes
import Derived.RowKit
import Derived.WideKeyArgs
import Derived.ChangeOld
import Derived.Lib.LaidTab
import Derived.Sort.Grow
import Derived.Deep.Draws
import Derived.ChangeCalls
namespace Go.Proofs.YtpgigedclifoeaaGreatDoor
namespace AM
open Go
set_option linter.unusedVariables false
set_option linter.unusedSimpArgs false
def Gd:Ty→List Value→Option (List Value)
 | .int k,vs=>match vs with
  | .int l n::r=>if l=k∧n=0 then some r else none
  |_=>none
 | .bool,vs=>match vs with
  | .bool false::r=>some r
  |_=>none
 | .str,vs=>match vs with
  | .string s::r=>bif Nat.beq s.size 0 then some r else none
  |_=>none
 | .sl _,vs=>match vs with
  | .slice none 0 0::r=>some r
  |_=>none
 | .pr a b,vs=>match Gd a vs with
  |some r=>Gd b r
  |none=>none
theorem qY:∀(t:Ty){vs r:List Value},Gd t vs=some r→vs=ga t++r
 | .int k,vs,r,h=>by
  simp only[Gd]at h
  split at h
  ·simp_all [Gd,ga]
  ·cases h
 | .bool,vs,r,h=>by
  simp only[Gd]at h
  split at h
  ·simp_all [Gd,ga]
  ·cases h
 | .str,vs,r,h=>by
  simp only[Gd]at h
  split at h
  ·rename_i s r'
   cases q:Nat.beq s.size 0 with
   |false=>simp_all
   |true =>
    rw[q]at h
    obtain rfl:=Option.some.inj h
    have:s=⟨#[]⟩:=by
     have:=Nat.eq_of_beq_eq_true q
     obtain⟨d⟩:=s
     obtain⟨l⟩:=d
     cases l with
     |nil=>rfl
     |cons x l=>trivial
    rw[this];rfl
  ·cases h
 | .sl t,vs,r,h=>by
  simp only[Gd]at h
  split at h
  ·simp_all [Gd,ga]
  ·cases h
 | .pr a b,vs,r,h=>by
  simp only[Gd]at h
  split at h
  ·rename_i r1 h1
   rw[qY a h1,qY b h]
   simp[ga]
  ·cases h
def E2:List Z→List Value→Bool
 |[],[]=>true
 | .t x::zs,vs=>match Gd x vs with
  |some r=>E2 zs r
  |none=>false
 | .ptr::zs, .pointer none::vs=>E2 zs vs
 | .fn::zs, .nilFunc::vs=>E2 zs vs
 | .ifc::zs, .nilIface::vs=>E2 zs vs
 |_,_=>false
theorem nZ:∀{zs:List Z}{vs:List Value},E2 zs vs=true→vs=zs.flatMap Z.vals
 |[],[],_=>rfl
 |[],_::_,h=>by cases h
 | .t x::zs,vs,h=>by
  unfold E2 at h
  split at h
  ·rename_i r e
   rw[qY x e,nZ h];rfl
  ·cases h
 | .ptr::zs,[],h=>by cases h
 | .fn::zs,[],h=>by cases h
 | .ifc::zs,[],h=>by cases h
 | .ptr::zs,v::vs,h=>by
  cases v<;>try (simp[E2]at h;done)
  rename_i q
  cases q<;>first|(simp[E2]at h;done)|(rw[nZ (show E2 zs vs=true from h)];rfl)
 | .fn::zs,v::vs,h=>by
  cases v<;>first|(simp[E2]at h;done)|(rw[nZ (show E2 zs vs=true from h)];rfl)
 | .ifc::zs,v::vs,h=>by
  cases v<;>first|(simp[E2]at h;done)|(rw[nZ (show E2 zs vs=true from h)];rfl)
def vq:TypeDesc→Bool
 | .struct _=>true
 | .array _ _=>true
 |_=>false
def EW (P:Program) (t:TypeId) (b:Bool):Bool:=match P.underlying t with
 |some d=>bif vq d then b else !b
 |none=>false
theorem tD{P:Program}{t:TypeId}{b:Bool}(h:EW P t b=true) (w:World):(isAgg t).run P w = .ok b w:=by
 unfold EW at h
 split at h
 ·rename_i d hd
  simp only[isAgg,Sem.run_bind,run_underlying hd,Result.andThen_ok]
  cases d<;>cases b<;>first|rfl|(cases h;done)
 ·cases h
def xp (P:Program):List Field→List (Nat×Nat×Bool)→Bool
 |[],[]=>true
 |f::fs,x::xs=>Nat.beq f.offset x.1&&(Nat.blt 0 x.2.1&&((match P.info? f.type with|some i=>Nat.beq i.size x.2.1|none=>false)&&(EW P f.type x.2.2&&xp P fs xs)))
 |_,_=>false
theorem sm{P:Program}:∀{fs:List Field}{xs:List (Nat×Nat×Bool)},xp P fs xs=true→fs.length=xs.length∧∀(i:Nat) (x:Nat×Nat×Bool),xs[i]?=some x→∃fd:Field,fs[i]?=some fd∧fd.offset=x.1∧x.2.1≠0 ∧
  (∀w,(sizeOf fd.type).run P w = .ok x.2.1 w)∧(∀w,(isAgg fd.type).run P w = .ok x.2.2 w)
 |[],[],_=>⟨rfl,fun _ _ h=>by cases h⟩
 |[],_::_,h=>by cases h
 |_::_,[],h=>by cases h
 |f::fs,x::xs,h=>by
  unfold xp at h
  simp only[Bool.and_eq_true]at h
  obtain⟨h1,h2,h3,h4,h5⟩:=h
  obtain⟨g1,g2⟩:=sm h5
  refine⟨by simp[g1],fun i y hy=>?_⟩
  cases i with
  |zero =>
   obtain rfl:=Option.some.inj hy
   refine⟨f,rfl,Nat.eq_of_beq_eq_true h1,by have:=Nat.le_of_ble_eq_true h2;omega,fun w=>?_,tD h4⟩
   split at h3
   ·rename_i i hi
    rw[←Nat.eq_of_beq_eq_true h3]
    simp[sizeOf,typeInfo,hi]
   ·cases h3
  |succ i=>grind
def PY (P:Program):Nat→List Field→List Ty→Bool
 |_,[],[]=>true
 |k,f::fs,t::ts=>Nat.beq f.offset k&&((f.name != "_")&&((match P.info? f.type with|some i=>Nat.beq i.size 1|none=>false)&&(EW P f.type false&&((match P.underlying f.type,t with
   |some (.int k1), .int k2=>decide (k1=k2)
   |some .bool, .bool=>true
   |some .string, .str=>true
   |_,_=>false)&&PY P (k+1) fs ts))))
 |_,_,_=>false
theorem uW{P:Program}{w:World}{t:TypeId}{i:TypeInfo}(hi:P.info? t=some i) (hs:i.size=1) (ha:EW P t false=true){xs:Array Value}{off:Nat}{v:Value}(hx:xs[off]?=some v):(Go.part t xs off).run P w = .ok v w:=by
 have h1:∀w,(sizeOf t).run P w = .ok 1 w:=fun w=>by simp[sizeOf,typeInfo,hi,hs]
 have h2:=tD ha
 have hlt:=(Array.getElem?_eq_some_iff.1 hx).1
 obtain⟨hlt,hv⟩:=Array.getElem?_eq_some_iff.1 hx
 unfold Go.part
 simp[h1,h2,Result.andThen]
 simp[hx,hlt,hv]
theorem AB{P:Program}{d:Nat}{w:World}{xs ys:Array Value}:∀{k:Nat}{fs:List Field}{ts:List Ty}{us vs:List Value}{e:Bool},PY P k fs ts=true→aL ts us vs=some e→xs.toList.drop k=us→ys.toList.drop k=vs →
  (Op.eqFields (d+1) xs ys fs).run P w = .ok e w
 |_,[],[],us,vs,e,_,he,_,_=>by
  cases us with
  |nil=>cases vs with
   |nil=>obtain rfl:=Option.some.inj he;simp[Op.eqFields]
   |cons _ _=>cases he
  |cons _ _=>cases he
 |_,[],_::_,_,_,_,h,_,_,_=>by cases h
 |_,_::_,[],_,_,_,h,_,_,_=>by cases h
 |k,f::fs,t::ts,us,vs,e,h,he,hu,hv=>by
  unfold PY at h
  simp only[Bool.and_eq_true]at h
  obtain⟨h1,h2,h3,h4,h5,h6⟩:=h
  have h1:=Nat.eq_of_beq_eq_true h1
  have hname:f.name≠"_":=by simpa using h2
  split at h3
  case h_2=>cases h3
  rename_i i hi
  have hs:=Nat.eq_of_beq_eq_true h3
  have next:∀{zs:Array Value}{z:Value}{zl:List Value},zs.toList.drop k=z::zl→zs[f.offset]?=some z∧zs.toList.drop (k+1)=zl:=by
   intro zs z zl q
   have g:=congrArg (fun l=>l[0]?) q
   simp at g
   refine⟨by rw[h1];simpa using g,?_⟩
   rw[←List.drop_drop,q];rfl
  have fin:∀{u v:Value}{ul vl:List Value}{b e':Bool},us=u::ul→vs=v::vl→(Op.equalIn (d+1) f.type u v).run P w = .ok b w→aL ts ul vl=some e'→e=(b&&e')→(Op.eqFields (d+1) xs ys (f::fs)).run P w = .ok e w:=by
   intro u v ul vl b e' eu ev hb hr hE
   obtain⟨n1,n2⟩:=next (hu.trans eu)
   obtain⟨n3,n4⟩:=next (hv.trans ev)
   have ih:=AB (d:=d) (w:=w) h6 hr n2 n4
   have p1:=uW (P:=P) (w:=w) hi hs h4 n1
   have p2:=uW (P:=P) (w:=w) hi hs h4 n3
   unfold Op.eqFields
   rw[if_pos hname]
   simp only[Sem.run_bind,p1,Result.andThen_ok,p2,hb]
   cases b with
   |true=>simp_all
   |false=>simp[hE]
  cases us with
  |nil=>simp_all [aL]
  |cons u ul =>
   cases vs with
   |nil=>simp_all [aL]
   |cons v vl =>
    cases t with
    |int q =>
     cases u<;>try (simp[aL]at he;done)
     cases v<;>try (simp[aL]at he;done)
     simp only[aL]at he
     split at he
     ·rename_i hk
      obtain⟨rfl,rfl⟩:=hk
      split at he
      ·rename_i e' hr
       split at h5
       ·exact fin rfl rfl (run_equalIn_int _ _ _ _ _ _ _ ‹_›) hr (Option.some.inj he).symm
       ·trivial
       ·trivial
       ·cases h5
      ·cases he
     ·cases he
    |bool =>
     cases u<;>try (simp[aL]at he;done)
     cases v<;>try (simp[aL]at he;done)
     simp only[aL]at he
     split at he
     ·rename_i e' hr
      split at h5
      ·trivial
      ·exact fin rfl rfl (run_equalIn_bool' _ _ _ _ _ ‹_›) hr (Option.some.inj he).symm
      ·trivial
      ·cases h5
     ·cases he
    |str =>
     cases u<;>try (simp[aL]at he;done)
     cases v<;>try (simp[aL]at he;done)
     simp only[aL]at he
     split at he
     ·rename_i e' hr
      split at h5
      ·trivial
      ·trivial
      ·rename_i hu5 _
       have key:∀a b,(Op.equalIn (d+1) f.type (.string a) (.string b)).run P w = .ok (gC a b) w:=fun a b=>by rw[←oM];exact run_equalIn_string w d f.type a b hu5
       exact fin rfl rfl (key _ _) hr (Option.some.inj he).symm
      ·cases h5
     ·cases he
    |sl _=>trivial
    |pr _ _=>trivial
def BJ (e:Bool) (d:Nat) (xs:Array Value) (fs:List Field):Sem PUnit :=
 forIn (m:=Sem) fs PUnit.unit (fun f _=>do
   if f.name≠"_" then do
    let __do_lift ←Go.part f.type xs f.offset
    Instr.checkKey e (d+1) f.type __do_lift
    pure (ForInStep.yield PUnit.unit)
   else pure (ForInStep.yield PUnit.unit))
theorem AE{P:Program}{d:Nat}{e:Bool}{w:World}{xs:Array Value}:∀{k:Nat}{fs:List Field}{ts:List Ty}{us vs:List Value}{b:Bool},PY P k fs ts=true→aL ts us vs=some b→xs.toList.drop k=us →
  (BJ e d xs fs).run P w = .ok PUnit.unit w
 |_,[],_,_,_,_,_,_,_=>by rfl
 |_,_::_,[],_,_,_,h,_,_=>by cases h
 |k,f::fs,t::ts,us,vs,b,h,he,hu=>by
  unfold PY at h
  simp only[Bool.and_eq_true]at h
  obtain⟨h1,h2,h3,h4,h5,h6⟩:=h
  have h1:=Nat.eq_of_beq_eq_true h1
  have hname:f.name≠"_":=by simpa using h2
  split at h3
  case h_2=>cases h3
  rename_i i hi
  have hs:=Nat.eq_of_beq_eq_true h3
  have fin:∀{u:Value}{ul vl:List Value}{b':Bool}{D:TypeDesc},us=u::ul→aL ts ul vl=some b'→P.underlying f.type=some D→(∀w,(Instr.checkKey e (d+1) f.type u).run P w = .ok () w)→(BJ e d xs (f::fs)).run P w = .ok PUnit.unit w:=by
   intro u ul vl b' D eu hr _ hck
   have hu':=hu.trans eu
   have g:xs[f.offset]?=some u∧xs.toList.drop (k+1)=ul:=by
    have g:=congrArg (fun l=>l[0]?) hu'
    simp at g
    refine⟨by rw[h1];simpa using g,?_⟩
    rw[←List.drop_drop,hu'];rfl
   have ih:=AE (d:=d) (e:=e) (w:=w) h6 hr g.2
   have p1:=uW (P:=P) (w:=w) hi hs h4 g.1
   unfold BJ at ih ⊢
   rw[List.forIn_cons]
   simp only[Sem.run_bind,if_pos hname,p1,Result.andThen_ok,hck,Sem.run_pure]
   exact ih
  cases us with
  |nil=>simp_all [aL]
  |cons u ul =>
   cases vs with
   |nil=>simp_all [aL]
   |cons v vl =>
    have ckp:∀{D:TypeDesc},P.underlying f.type=some D→(D = .bool∨D = .string∨∃q,D = .int q)→∀w,(Instr.checkKey e (d+1) f.type u).run P w = .ok () w:=by
     intro D hD hc w
     rcases hc with rfl|rfl|⟨q,rfl⟩<;>simp[Instr.checkKey,run_underlying hD]
    cases t with
    |int q =>
     cases u<;>try (simp[aL]at he;done)
     cases v<;>try (simp[aL]at he;done)
     simp only[aL]at he
     split at he
     ·grind
     ·cases he
    |bool =>
     cases u<;>try (simp[aL]at he;done)
     cases v<;>try (simp[aL]at he;done)
     simp only[aL]at he
     split at he
     ·grind
     ·cases he
    |str =>
     cases u<;>try (simp[aL]at he;done)
     cases v<;>try (simp[aL]at he;done)
     simp only[aL]at he
     split at he
     ·grind
     ·cases he
    |sl _=>trivial
    |pr _ _=>trivial
def Wc (P:Program) (t:Nat) (ti:TI):Bool :=
 (match P.info? t with
  |some i=>Nat.beq i.size ti.size&&(Nat.beq i.bytes ti.bytes&&(match ti.ty with
   |some ty=>Nat.beq ty.sz ti.size&&(match i.zero with
    |some z=>(match Gd ty z.cells.toList with|some []=>true|_=>false)
    |none=>false)
   |none=>true))
  |none=>false) &&
 (EW P t ti.agg &&
 ((match P.underlying t with
  |some (.int k) => !Nat.beq ti.kind 1 || decide (k=ti.ik)
  |_ => !Nat.beq ti.kind 1) &&
 ((match P.underlying t with
  |some (.struct fs) => !Nat.beq ti.kind 2 || xp P fs.toList ti.fs
  |_ => !Nat.beq ti.kind 2) &&
 ((match P.underlying t with
  |some (.slice e) => !Nat.beq ti.kind 3 || Nat.beq e ti.el
  |_ => !Nat.beq ti.kind 3) &&
 ((match P.underlying t with
  |some (.array n e) => !Nat.beq ti.kind 4 || (Nat.beq e ti.el&&(match P.info? e with|some i=>Nat.beq ti.size (n*i.size)|none=>true))
  |_ => !Nat.beq ti.kind 4) &&
 ((match P.underlying t with
  |some .string=>true
  |_ => !Nat.beq ti.kind 5) &&
 ((match P.underlying t with
  |some .bool=>true
  |_ => !Nat.beq ti.kind 6) &&
 ((match P.underlying t with
  |some (.interface _)=>true
  |_ => !Nat.beq ti.kind 7) &&
 ((match P.underlying t with
  |some (.pointer _)=>true
  |_ => !Nat.beq ti.kind 8) &&
 ((match P.underlying t with
  |some (.map ky e) => !Nat.beq ti.kind 9 || (Nat.beq ky ti.ky&&Nat.beq e ti.el)
  |_ => !Nat.beq ti.kind 9) &&
 ((!Nat.beq ti.kind 1 || (match P.info? t with
   |some i=>(match i.zero with
    |some (.int k n)=>decide (k=ti.ik∧n=0)
    |_=>false)
   |none=>false)) &&
 ((match ti.zs with
  |none=>true
  |some zs=>(match P.info? t with
   |some i=>(match i.zero with
    |some z=>E2 zs z.cells.toList
    |none=>false)
   |none=>false)) &&
 (match ti.eqs with
  |none=>true
  |some ts => !P.stoodInHeld t&&(!P.eqGuardType P.depth t&&(match P.underlying t with
   |some (.struct fs)=>PY P 0 fs.toList ts
   |_=>false)))))))))))))))
theorem Gr{P:Program}{t:Nat}{ti:TI}(h:Wc P t ti=true):xg P t ti:=by
 unfold Wc at h
 simp only[Bool.and_eq_true]at h
 obtain⟨h1,h2,h3,h4,h5,h6,h7,h8,hi7,hi8,hi9,hz1,hzs,h9⟩:=h
 have nk:∀{k:Nat},ti.kind=k→(!Nat.beq ti.kind k)=true→False:=by
  simp_all
 refine⟨?_,fun zs e=>?_,tD h2,?_,fun e=>?_,fun e=>?_,fun e=>?_,fun e=>?_,fun e=>?_,fun e=>?_,fun e=>?_,fun e=>?_,fun e=>?_,fun e=>?_,fun ts e em w xs ys b hb=>?_,fun ts e w xs ys b hb=>?_⟩
 ·split at h1
  ·rename_i i hi
   simp only[Bool.and_eq_true]at h1
   obtain⟨g1,g2,g3⟩:=h1
   refine⟨i,hi,Nat.eq_of_beq_eq_true g1,Nat.eq_of_beq_eq_true g2,fun ty hty=>?_⟩
   rw[hty]at g3
   dsimp only at g3
   rw[Bool.and_eq_true]at g3
   refine⟨Nat.eq_of_beq_eq_true g3.1,?_⟩
   have g4:=g3.2
   split at g4
   ·rename_i z hz
    refine⟨z,hz,?_⟩
    split at g4
    ·rename_i hzv
     have:=qY ty hzv
     rw[List.append_nil]at this
     rw[←this]
    ·cases g4
   ·cases g4
  ·cases h1
 ·rw[e]at hzs
  dsimp only at hzs
  split at hzs
  ·rename_i i hi
   split at hzs
   ·rename_i z hz
    exact⟨i,z,hi,hz,by rw[←nZ hzs]⟩
   ·cases hzs
  ·cases hzs
 ·unfold EW at h2
  split at h2
  ·simp_all
  ·cases h2
 ·split at h3
  ·simp_all
  ·simp_all
 ·split at h4
  ·rename_i fs hfs
   rcases Bool.or_eq_true _ _ |>.mp h4 with q|q
   ·simp_all
   ·obtain⟨g1,g2⟩:=sm q
    refine⟨fs,hfs,by simpa using g1,fun f x hx=>?_⟩
    obtain⟨fd,k1,k2⟩:=g2 f x hx
    exact⟨fd,by simpa using k1,k2⟩
  ·simp_all
 ·split at h5
  ·simp_all
  ·simp_all
 ·split at h6
  ·rename_i n el hel
   rcases Bool.or_eq_true _ _ |>.mp h6 with q|q
   ·simp_all
   ·rw[Bool.and_eq_true]at q
    have q1:=Nat.eq_of_beq_eq_true q.1
    refine⟨n,by rw[hel,q1],fun i hi=>?_⟩
    have q2:=q.2
    rw[q1,hi]at q2
    exact Nat.eq_of_beq_eq_true q2
  ·simp_all
 ·grind
 ·grind
 ·grind
 ·grind
 ·split at hi9
  ·simp_all
  ·simp_all
 ·rcases Bool.or_eq_true _ _ |>.mp hz1 with q|q
  ·simp_all
  ·split at q
   ·grind
   ·cases q
 ·rw[e]at h9
  dsimp only at h9
  simp only[Bool.and_eq_true,Bool.not_eq_true']at h9
  obtain⟨g1,g2,g3⟩:=h9
  split at g3
  ·rename_i fs hfs
   show(Instr.checkKey em (9999+1) t (.agg xs.toArray)).run P w=_
   unfold Instr.checkKey
   simp only[Sem.run_bind,run_underlying hfs,Result.andThen_ok]
   rw[←Array.forIn_toList]
   have hck:=AE (d:=9998) (e:=em) (w:=w) (xs:=xs.toArray) g3 hb (by simp)
   unfold BJ at hck
   rw[hck];rfl
  ·cases g3
 ·rw[e]at h9
  dsimp only at h9
  simp only[Bool.and_eq_true,Bool.not_eq_true']at h9
  obtain⟨g1,g2,g3⟩:=h9
  split at g3
  ·rename_i fs hfs
   have hfo:P.fieldsOf t=fs:=by simp[Program.fieldsOf,hfs]
   refine⟨?_,fun op x y=>run_eqGuard_agg _ op t x y _ _ g2⟩
   show(Op.equalIn (9999+1) t (.agg xs.toArray) (.agg ys.toArray)).run P w=_
   rw[run_equalIn_struct w 9999 t _ _ (by rw[hfo];exact hfs) g1,hfo]
   exact AB (d:=9998) g3 hb (by simp) (by simp)
  ·cases g3
def NL (P:Program):kL→Bool
 |[]=>true
 |p::r=>Wc P p.1 p.2&&NL P r
theorem xz{P:Program}:∀{τ:kL},NL P τ=true→dt P τ
 |[],_,_,_,e=>by cases e
 |p::r,h,t,ti,e=>by
  unfold NL at h
  rw[Bool.and_eq_true]at h
  unfold kL.get at e
  cases q:Nat.beq p.1 t with
  |true =>
   simp_all [Gr]
  |false=>rw[q]at e;exact xz h.2 t ti e
def iu:Code→List Code
 | .seq a b=>iu a++iu b
 | .cond _ a b=>iu a++iu b
 | .block _ c=>iu c
 | .loop c=>c::iu c
 |_=>[]
def wm (E:aE) (c:Code):Prop:=∀S,E.Λ (key c)=some S→∃f:Nat→TD (be S.ent)→Option (EX S.exs),(∀x,f 0 x=none)∧(∃n,S.g=f n)∧∀n x,f (n+1) x=dy E c S (f n) x
def jX:Code→List (Nat×Array Oper)
 | .region id ops _=>[(id,ops)]
 | .seq a b=>jX a++jX b
 | .cond _ a b=>jX a++jX b
 | .block _ c=>jX c
 | .loop c=>jX c
 |_=>[]
theorem C7{E:aE}:∀c:Code,(∀b∈iu c,wm E b)→(∀p∈jX c,AK E p.1 p.2)→ff E c:=by
 intro c
 induction c with
 |seq a b iha ihb=>exact fun h g=>⟨iha (fun x hx=>h x (List.mem_append_left _ hx)) fun x hx=>g x (List.mem_append_left _ hx),ihb (fun x hx=>h x (List.mem_append_right _ hx)) fun x hx=>g x (List.mem_append_right _ hx)⟩
 |cond _ a b iha ihb=>exact fun h g=>⟨iha (fun x hx=>h x (List.mem_append_left _ hx)) fun x hx=>g x (List.mem_append_left _ hx),ihb (fun x hx=>h x (List.mem_append_right _ hx)) fun x hx=>g x (List.mem_append_right _ hx)⟩
 |block _ c ih=>trivial
 |loop c ih=>exact fun h g=>⟨ih (fun x hx=>h x (List.mem_cons_of_mem _ hx)) g,h c (List.mem_cons_self ..)⟩
 |region id ops d=>exact fun _ g=>g (id,ops) (List.mem_singleton.2 rfl)
 |_=>exact fun _ _=>trivial
def co (c:Code) (id:Nat):List Oper:=match(jX c).find? (fun p=>Nat.beq p.1 id)with
 |some p=>p.2.toList
 |none=>[]
def og:List Nat→Bool
 |[]=>true
 |n::r => !aU n r&&og r
theorem Az {β:Type}:∀{l:List (Nat×β)},og (l.map Prod.fst)=true→∀p∈l,l.find? (fun q=>Nat.beq q.1 p.1)=some p
 |[],_,_,h=>by cases h
 |q::l,hn,p,h=>by
  unfold og at hn
  simp only[List.map_cons,Bool.and_eq_true,Bool.not_eq_true']at hn
  rcases List.mem_cons.1 h with rfl|h
  ·simp_all
  ·have:Nat.beq q.1 p.1=false:=by
    cases z:Nat.beq q.1 p.1 with
    |false=>rfl
    |true =>
     have hm:aU q.1 (l.map Prod.fst)=true:=dr.2 (by rw[Nat.eq_of_beq_eq_true z];exact List.mem_map.2 ⟨p,h,rfl⟩)
     rw[hn.1]at hm;cases hm
   rw[List.find?_cons,this]
   exact Az hn.2 p h
theorem Fh{E:aE}{c:Code}(hn:og ((jX c).map Prod.fst)=true) (h:∀id S,E.Ω id=some S→pI (co c id)=true∧∀x y,S.g x=some y→∀π∈BC (co c id),cF E (co c id) (cr (co c id) π) (eN S.ent x) (fun s'=>iF E.N S.out s')=some y):∀p∈jX c,AK E p.1 p.2:=by
 intro p hp S hS
 have hr:co c p.1=p.2.toList:=by unfold co;rw[Az hn p hp]
 rw[←hr]
 exact h p.1 S hS
def aN (c:Code) (i:Nat):Code:=(iu c).getD i .skip
def ae (fn:Func):Code:=fn.body.getD .skip
theorem pi{E:aE}{c:Code}(k:Nat) (hk:(iu c).length=k) (h:∀i,i<k→wm E (aN c i)) (hR:∀p∈jX c,AK E p.1 p.2):ff E c:=by
 refine C7 c (fun b hb=>?_) hR
 obtain⟨i,hi⟩:=List.getElem?_of_mem hb
 have hlt:i<k:=by rw[←hk];exact(List.getElem?_eq_some_iff.1 hi).1
 have:=h i hlt
 unfold aN at this
 rw[List.getD_eq_getElem?_getD,hi]at this
 exact this
theorem Ok{E:aE}{c:Code}{S:dC}(hS:E.Λ (key c)=some S) (f:Nat→TD (be S.ent)→Option (EX S.exs)) (h0:∀x,f 0 x=none) (n:Nat) (hn:S.g=f n) (hs:∀m x,f (m+1) x=dy E c S (f m) x):wm E c:=by
 intro S' hS'
 rw[hS]at hS'
 obtain rfl:=Option.some.inj hS'
 exact⟨f,h0,⟨n,hn⟩,hs⟩
def VX:List (Nat×aa)→Nat→Option aa
 |[],_=>none
 |p::r,f=>bif Nat.beq p.1 f then some p.2 else VX r f
def VW:List ((Nat×Nat)×aa)→Nat→Nat→Option aa
 |[],_,_=>none
 |p::r,f,d=>bif Nat.beq p.1.1 f&&Nat.beq p.1.2 d then some p.2 else VW r f d
def gl (l:List (Nat×aa)) (l2:List ((Nat×Nat)×aa)) (f d:Nat):Option aa :=
 match VW l2 f d with
 |some S=>some S
 |none=>VX l f
def qX (P:Program) (K:fN) (p:Nat×aa):Prop:=Plain P p.1∧nL P K p.1 p.2
def yM (P:Program) (K:fN):List (Nat×aa)→Prop
 |[]=>True
 |p::r=>qX P K p∧yM P K r
def yL (P:Program) (K:fN):List ((Nat×Nat)×aa)→Prop
 |[]=>True
 |p::r=>qX P K (p.1.1,p.2)∧yL P K r
theorem Dl{P:Program}{K:fN}:∀{l:List (Nat×aa)},yM P K l→∀f S,VX l f=some S→Plain P f∧nL P K f S
 |[],_,_,_,h=>by cases h
 |p::r,⟨h1,h2⟩,f,S,h=>by
  unfold VX at h
  cases q:Nat.beq p.1 f with
  |true =>
   rw[q]at h
   obtain rfl:=Option.some.inj h
   rw[←Nat.eq_of_beq_eq_true q]
   exact h1
  |false=>rw[q]at h;exact Dl h2 f S h
theorem Dk{P:Program}{K:fN}:∀{l:List ((Nat×Nat)×aa)},yL P K l→∀f d S,VW l f d=some S→Plain P f∧nL P K f S
 |[],_,_,_,_,h=>by cases h
 |p::r,⟨h1,h2⟩,f,d,S,h=>by
  unfold VW at h
  cases q:(Nat.beq p.1.1 f&&Nat.beq p.1.2 d)with
  |true =>
   rw[q]at h
   obtain rfl:=Option.some.inj h
   rw[Bool.and_eq_true]at q
   rw[←Nat.eq_of_beq_eq_true q.1]
   exact h1
  |false=>rw[q]at h;exact Dk h2 f d S h
theorem LW{P:Program}{K:fN}{l:List (Nat×aa)}{l2:List ((Nat×Nat)×aa)}(h1:yM P K l) (h2:yL P K l2) (f d:Nat) (S:aa) (h:gl l l2 f d=some S):Plain P f∧nL P K f S:=by
 grind [gl,split,Dk,Dl]
theorem Ar{P:Program}{K:fN}:∀{l:List (Nat×aa)},yM P K l→∀p∈l,Plain P p.1∧nL P K p.1 p.2
 |[],_,_,h=>by cases h
 |q::r,⟨h1,h2⟩,p,h=>by
  rcases List.mem_cons.1 h with rfl|h
  ·exact h1
  ·exact Ar h2 p h
theorem gf{P:Program}{f:FuncId}{fn:Func}(h:P.funcs[f]?=some fn) (hn:(fn.name=="runtime.NumGoroutine")=false) (hb:fn.body.isNone=false):Plain P f:=⟨fn,h,hn,hb⟩
theorem L6{fn:Func}(h:fn.body.isSome=true):fn.body=some (ae fn):=by
 unfold ae
 cases q:fn.body with
 |none=>simp_all
 |some c=>rfl
theorem EV {α β:Type}{xs:List α}{F:α→β}{vs:List β}(h:xs.map F=vs){r:β}(hv:∀v∈vs,v=r):∀x∈xs,F x=r:=fun x hx=>hv _ (h▸List.mem_map.2 ⟨x,hx,rfl⟩)
theorem JG{P:Program}{K:fN}{f:FuncId}{fn:Func}{S:aa}{E:aE}{l:List (Nat×aa)}{l2:List ((Nat×Nat)×aa)}(hf:P.funcs[f]?=some fn) (hmo:P.follows .mixedOrders=true) (hτ:dt P E.τ) (hΓ:E.Γ=gl l l2) (hl:yM P K l) (hl2:yL P K l2)
  (hb:fn.body.isSome=true) (hN:E.N=fn.ntmps) (hn:S.pars.length≤fn.ntmps) (hr:fn.results.size=S.res.length) (hloops:ff E (ae fn)) (hg:∀x,S.g x=ar E fn S x) (h2:∀p∈E.Γ2,Plain P p.1∧nL P K p.1 p.2):nL P K f S :=
 Qs ⟨hτ,fun f d S h=>by rw[hΓ]at h;exact LW hl hl2 f d S h,hmo,h2⟩ hf (L6 hb) hN hn hr hloops (fun x r h=>by rw[←hg];exact h)
def sC:List (Nat×bX)→Nat→Option bX
 |[],_=>none
 |p::r,i=>bif Nat.beq p.1 i then some p.2 else sC r i
abbrev wg (E:aE) (c:Code) (id:Nat) (S:bX):Prop:=pI (co c id)=true∧∀x y,S.g x=some y→∀π∈BC (co c id),cF E (co c id) (cr (co c id) π) (eN S.ent x) (fun s'=>iF E.N S.out s')=some y
def eL (E:aE) (c:Code):List (Nat×bX)→Prop
 |[]=>True
 |p::r=>wg E c p.1 p.2∧eL E c r
theorem D5{E:aE}{c:Code}:∀{l:List (Nat×bX)},eL E c l→∀id S,sC l id=some S→wg E c id S
 |[],_,_,_,h=>by cases h
 |p::r,h,id,S,hS=>by
  unfold sC at hS
  cases q:Nat.beq p.1 id with
  |true=>rw[q]at hS;obtain rfl:=Option.some.inj hS;obtain rfl:=Nat.eq_of_beq_eq_true q;exact h.1
  |false=>rw[q]at hS;exact D5 h.2 id S hS
abbrev xh (b:Bool) (E:aE) (c:Code) (r:Nat) (L:List Nat) (S:bX):Prop:=∀x,md b E (co c r) (cr (co c r) L) (eN S.ent x) (fun s=>iF E.N S.out s)=S.g x
abbrev Zl (W:WL) (E:aE) (c:Code) (r:Nat) (L:List Nat) (S:bX):Prop:=∀x,pE W E (co c r) (cr (co c r) L) (eN S.ent x) (fun s=>iF E.N S.out s)=S.g x
abbrev Pz (E:aE) (c:Code) (r n:Nat) (S:bX):Prop:=∀x,(BC (co c r)).map (fun π=>cF E (co c r) (cr (co c r) π) (eN S.ent x) (fun s=>iF E.N S.out s))=List.replicate n (S.g x)
theorem mw{b:Bool}{E:aE}{c:Code}{r:Nat}{L:List Nat}{S:bX}(h:xh b E c r L S) (zs:List (Nat×Nat)) (hb:(L.all (fun i=>Nat.blt i (co c r).length)&&(List.range (co c r).length).all (fun i=>aU i L))=true:=by kernel_rfl) (hnd:L.Nodup:=by decide) (ha:pI (co c r)=true:=by kernel_rfl)
  (hp:dD (CD E (co c r) (aT (co c r) []) b) L=true:=by kernel_rfl) (ho:dD (CI (co c r)) L=true:=by kernel_rfl) (hok:(!b || L.all (fun j=>JF E (co c r) (aT (co c r) []) zs j || Ad E (co c r) (aT (co c r) []) j))=true:=by kernel_rfl) (hs:∀x:TD (be S.ent),(!b || A3 (co c r) zs L (cW S.ent (ai (be S.ent) x)) (fm S.ent (ai (be S.ent) x)))=true:=by intro x;kernel_rfl):wg E c r S :=
 ⟨ha,fun x y hy=>It b zs L hb hnd ha hp ho hok (hs x) ((h x).trans hy)⟩
theorem Wk{W:WL}{E:aE}{c:Code}{r:Nat}{L:List Nat}{S:bX}(h:Zl W E c r L S) (T:List (Nat×Nm)) (hb:(L.all (fun i=>Nat.blt i (co c r).length)&&(List.range (co c r).length).all (fun i=>aU i L))=true:=by kernel_rfl) (hnd:L.Nodup:=by decide) (ha:pI (co c r)=true:=by kernel_rfl)
  (hp:dD (CE E (co c r) W T (aT (co c r) [])) L=true:=by kernel_rfl) (ho:dD (CI (co c r)) L=true:=by kernel_rfl) (hok:L.all (fun j=>PX E (co c r) W T (aT (co c r) []) j || Af W E (co c r) (aT (co c r) []) j)=true:=by kernel_rfl) (hs:∀x:TD (be S.ent),A5 E (co c r) W T L (cW S.ent (ai (be S.ent) x)) (fm S.ent (ai (be S.ent) x))=true:=by intro x;kernel_rfl):wg E c r S :=
 ⟨ha,fun x y hy=>Is W T L hb hnd ha hp ho hok (hs x) ((h x).trans hy)⟩
theorem GC{E:aE}{c:Code}{r n:Nat}{S:bX}(h:Pz E c r n S) (ha:pI (co c r)=true:=by kernel_rfl):wg E c r S :=
 ⟨ha,fun x y hy=>EV (h x) (fun v hv=>(List.eq_of_mem_replicate hv).trans hy)⟩
abbrev P1 (E:aE) (c:Code) (r n:Nat) (S:bX):Prop:=∀x,(Dq E (co c r) (co c r).length none (List.range (co c r).length)).map (fun π=>md false E (co c r) (cr (co c r) π) (eN S.ent x) (fun s=>iF E.N S.out s))=List.replicate n (S.g x)
theorem Ju{E:aE}{c:Code}{r n:Nat}{S:bX}(h:P1 E c r n S) (ha:pI (co c r)=true:=by kernel_rfl):wg E c r S :=
 ⟨ha,fun x y hy=>LY ha (EV (h x) (fun v hv=>(List.eq_of_mem_replicate hv).trans hy))⟩
theorem Yq{E:aE}{c:Code}(h:∀id,E.Ω id=none):∀p∈jX c,AK E p.1 p.2:=fun p _ S hS=>by simp_all
theorem fQ{E:aE}{c:Code}(hk:(iu c).length=0:=by kernel_rfl) (hΩ:∀id,E.Ω id=none:=by intro id;rfl):ff E c:=pi 0 hk (fun i hi=>absurd hi (Nat.not_lt_zero i)) (Yq hΩ)
theorem BX{E:aE}{c:Code}{l:List (Nat×bX)}(h:eL E c l) (hk:(iu c).length=0:=by kernel_rfl) (hΩ:E.Ω=sC l:=by rfl) (hn:og ((jX c).map Prod.fst)=true:=by kernel_rfl):ff E c :=
 pi 0 hk (fun i hi=>absurd hi (Nat.not_lt_zero i)) (Fh hn (fun id S hS=>D5 h id S (by rw[←hΩ];exact hS)))
theorem qz{E:aE}{c:Code}(k:Nat) (h:∀i,i<k→wm E (aN c i)) (hk:(iu c).length=k:=by kernel_rfl) (hΩ:∀id,E.Ω id=none:=by intro id;rfl):ff E c:=pi k hk h (Yq hΩ)
theorem C9{E:aE}{c:Code}{l:List (Nat×bX)}(k:Nat) (h:∀i,i<k→wm E (aN c i)) (hr:eL E c l) (hk:(iu c).length=k:=by kernel_rfl) (hΩ:E.Ω=sC l:=by rfl) (hn:og ((jX c).map Prod.fst)=true:=by kernel_rfl):ff E c :=
 pi k hk h (Fh hn (fun id S hS=>D5 hr id S (by rw[←hΩ];exact hS)))
theorem lw{E:aE}{c:Code}(n:Nat) (S:dC) (f:Nat→TD (be S.ent)→Option (EX S.exs)) (hs:∀m x,f (m+1) x=dy E c S (f m) x) (hS:E.Λ (key c)=some S:=by kernel_rfl) (h0:∀x,f 0 x=none:=by intro x;rfl) (hn:S.g=f n:=by rfl):wm E c:=Ok hS f h0 n hn hs
theorem Io{P:Program}{K:fN}{f:FuncId}{S:aa}(h:qX P K (f,S)) (p:TD (be (dA S.pars S.res S.nb))→Bool):qX P K (f,{ S with g:=fun x=>(S.g x).bind fun r=>cond (p r) none (some r) }) :=
 ⟨h.1,fun Y L I a w x r hr=>h.2 Y L I a w x r <| by
  have hr:((S.g x).bind fun r=>cond (p r) none (some r))=some r:=hr
  cases q:S.g x with
  |none=>rw[q]at hr;cases hr
  |some z =>
   rw[q,Option.bind_some]at hr
   cases hp:p z with
   |true=>rw[hp]at hr;cases hr
   |false=>rw[hp]at hr;exact hr⟩
theorem ac{P:Program}{K:fN}{f:FuncId}{fn:Func}{S:aa}(hmo:P.follows .mixedOrders=true){t:kL}(hτ:dt P t) (hf:P.funcs[f]?=some fn) (E:aE) (l:List (Nat×aa)) (l2:List ((Nat×Nat)×aa)) (hl:yM P K l) (hl2:yL P K l2)
  (hloops:ff E (ae fn)) (hg:∀x,S.g x=ar E fn S x) (ht:E.τ=t:=by rfl) (hΓ:E.Γ=gl l l2:=by rfl) (h1:(fn.name=="runtime.NumGoroutine")=false:=by kernel_rfl) (hb:fn.body.isSome=true:=by kernel_rfl) (hN:E.N=fn.ntmps:=by kernel_rfl) (hn:Nat.ble S.pars.length fn.ntmps=true:=by kernel_rfl) (hr:fn.results.size=S.res.length:=by kernel_rfl) (l3:List (Nat×aa):=[]) (hl3:yM P K l3:=by exact trivial) (h2:E.Γ2=l3:=by rfl):qX P K (f,S) :=
 ⟨gf hf h1 (by cases q:fn.body with
  |none=>rw[q]at hb;cases hb
  |some c=>rfl),JG (S:=S) (E:=E) hf hmo (by rw[ht];exact hτ) hΓ hl hl2 hb hN (Nat.le_of_ble_eq_true hn) hr hloops hg (fun p hp=>Ar hl3 p (h2▸hp))⟩
def fN.of (W:World):fN where
 blk:=fun b=>b<W.heap.size
 ok:=fun w=>∀b,b<W.heap.size→w.heap[b]?=W.heap[b]?
 keep:=fun w w' h k b hb=>((k b hb).2).trans (h b hb)
theorem fN.of_cell{W w:World}(h:(fN.of W).ok w){b off:Nat}{u:Value}(hu:W.cell? ⟨b,off,none⟩=some u):w.cell? ⟨b,off,none⟩=some u:=by
 have hb:=World.block_lt_of_cell? W ⟨b,off,none⟩ hu
 rw[World.cell?_of_block (w:=W) (a:=⟨b,off,none⟩) (h b hb)];exact hu
theorem fN.of_tab{P:Program}{W w:World}(h:(fN.of W).ok w){name:String}{k:IntKind}{zs:List Int}(ht:Lib.TabIs P W name k zs):Lib.TabIs P w name k zs:=by
 unfold Lib.TabIs World.var? at ht ⊢
 cases hg:P.globalNamed name with
 |none=>simp_all
 |some g =>
  grind [fN.of,jy.ok]
theorem ct.drewN (w:World) (n:Nat):ct (fun _ _=>False) w (w.drewN n):=⟨rfl,rfl,rfl,Nat.le_refl _,fun _ _=>eJ.refl _ _⟩
theorem ct.grow (w:World) (os:Array Go.Obj):ct (fun _ _=>False) w (Sort.grow w os) :=
 ⟨rfl,rfl,rfl,by show w.heap.size≤(w.heap++os).size;simp,fun b hb=>eJ.of_eq (by show(w.heap++os)[b]?=w.heap[b]?;rw[Array.getElem?_append_left hb])⟩
def Li (P:Program) (n:Nat):List TypeId→Option (List (Ty×Bool))
 |[]=>some []
 |T::r=>match Cc P n T,P.underlying T,Li P n r with
  |some t,some d,some l=>some ((t,vq d)::l)
  |_,_,_=>none
section
variable{H:Type}{enc:TypeId×Value→H}{P:Program}{W:World}{sp:Nat→Bool}{held:Bool}
theorem OH{n T:Nat}{t:Ty}{d:TypeDesc}(ht:Cc P n T=some t) (hd:P.underlying T=some d){base:Nat}{v:Value}(hv:Value.okWide P W .any base T v){x:DataW H}{ps:List MemPlace}(h:DataW.Trod enc P W 0 sp held T v x ps) :
  ∃a:jy,a.t=t∧a.agg=vq d∧a.u=v∧a.ok W:=by
 obtain⟨fuel,hf⟩:=h
 obtain⟨y,hr,hfit⟩:=oW n T t ht fuel _ _ hf
 refine⟨⟨t,vq d,y,v⟩,rfl,rfl,rfl,hfit,fun q=>?_,fun q=>?_⟩
 ·have q:vq d=true:=q
  cases d with
  |struct fs =>
   obtain⟨cs,rfl,_⟩:=WideShapes.okWide_struct hd hv
   exact⟨cs.toList,by simp,hr⟩
  |array m e =>
   exfalso
   cases n with
   |zero=>cases ht
   |succ n=>unfold Cc at ht;rw[hd]at ht;cases ht
  |_=>cases q
 ·have q:vq d=false:=q
  have hc:v.cells.toList=[v]:=by
   cases n with
   |zero=>cases ht
   |succ n =>
    unfold Cc at ht
    rw[hd]at ht
    cases d with
    |bool=>obtain⟨b,rfl⟩:=WideShapes.okWide_bool hd hv;rfl
    |int k=>obtain⟨m,rfl⟩:=WideShapes.okWide_int hd hv;rfl
    |string=>obtain⟨s,rfl⟩:=WideShapes.okWide_string hd hv;rfl
    |slice e=>obtain⟨a,l,c,rfl⟩:=WideShapes.okWide_slice hd hv;rfl
    |struct fs=>cases q
    |_=>cases ht
  rw[hc]at hr
  exact hr
theorem FZ{n base:Nat}:∀{Ts:List TypeId}{vs:List Value}{ds:List (DataW H)}{ps:List MemPlace}{l:List (Ty×Bool)},Li P n Ts=some l→DataW.TrodAll enc P W 0 sp held Ts vs ds ps →
  (∀(j:Nat) t v,Ts[j]?=some t→vs[j]?=some v→Value.okWide P W .any base t v)→∃as:List jy,as.map (fun a=>(a.t,a.agg))=l∧as.map jy.u=vs∧∀a∈as,a.ok W
 |[],vs,ds,ps,l,hs,h,_=>by
  obtain rfl:=Option.some.inj hs
  obtain⟨rfl,_,_⟩:=ChangeShapes.trodAll_nil h
  exact⟨[],rfl,rfl,fun a ha=>by cases ha⟩
 |T::Ts,vs,ds,ps,l,hs,h,hv=>by
  obtain⟨v,vs',d,ds',p,q,rfl,rfl,rfl,h0,h1⟩:=ChangeShapes.trodAll_cons h
  simp only[Li]at hs
  split at hs
  ·rename_i t dd l' e1 e2 e3
   obtain rfl:=Option.some.inj hs
   obtain⟨a,a1,a2,a3,a4⟩:=OH e1 e2 (hv 0 T v rfl rfl) h0
   obtain⟨as,b1,b2,b3⟩:=FZ e3 h1 (fun j t v ht hv'=>hv (j+1) t v ht hv')
   refine⟨a::as,?_,?_,fun x hx=>?_⟩
   ·simp_all
   ·simp_all
   ·grind
  ·cases hs
theorem rV{W':World}(hl:laidOutB P=true) (hb:RowKit.Below W.heap.size W W'){sp':Nat→Bool}:∀{Ts:List TypeId}{vs:List Value}{ds:List (DataW H)}{ps:List MemPlace},Ts.all (fun t=>P.readableRec t&&decide (t<P.types.size))=true →
  DataW.TrodAll enc P W 0 (fun _=>true) true Ts vs ds ps→(∀p∈ps,p.block<W.heap.size)→(∀p∈ps,sp' p.block=true)→DataW.TrodAll enc P W' 0 sp' true Ts vs ds ps
 |[],_,_,_,_,h,_,_=>by
  obtain⟨rfl,rfl,rfl⟩:=ChangeShapes.trodAll_nil h
  exact ChangeShapes.trodAll_mk0
 |T::Ts,_,_,_,hr,h,hlt,hsp=>by
  obtain⟨v,vs',d,ds',p,q,rfl,rfl,rfl,h0,h1⟩:=ChangeShapes.trodAll_cons h
  rw[List.all_cons,Bool.and_eq_true,Bool.and_eq_true]at hr
  obtain⟨⟨hr1,hr2⟩,hr3⟩:=hr
  refine⟨p,q,WideElems.Trod_stays hl hr1 (of_decide_eq_true hr2) h0 (fun x hx=>hb.same (hlt x (List.mem_append_left _ hx))) (fun x hx=>hsp x (List.mem_append_left _ hx)),?_,rfl⟩
  exact rV hl hb hr3 h1 (fun x hx=>hlt x (List.mem_append_right _ hx)) (fun x hx=>hsp x (List.mem_append_right _ hx))
theorem Kg{f:Func}{s:ChangeSpec}{B:TypeId}{W':World}{args:Array Value}{ds gs:List (DataW H)}{before:List MemPlace}(hvars:s.vars=[]) (hfn:∀l:List (DataW H),l.length=f.params.size→s.fn H l={ results:=[.lit (.bool true)],args:=l })
  (hrt:f.resultTypes=#[B]) (hB:P.underlying B=some .bool) (hl:laidOutB P=true) (hrd:f.params.toList.all (fun t=>P.readableRec t&&decide (t<P.types.size))=true)
  (hW:DataW.Whole enc P f.params.toList s.vars false W args.toList ds gs before) (hb:RowKit.Below W.heap.size W W'):s.post enc P f false true false false W args (.bool true) W':=by
 have hlt:=hW.lt
 have hW0:=hW
 obtain⟨p,q,hA,hV,rfl,hz,_⟩:=hW
 rw[hvars]at hV
 obtain⟨rfl,rfl⟩:=ChangeShapes.trodVars_none hV
 have hlen:ds.length=f.params.size:=by
  have:=(trodAll_length hA).2
  simpa using this
 have hfn':=hfn (ds++[]) (by simpa using hlen)
 refine⟨ds,[],p++[],[],p,[],hW0,?_,?_,?_,⟨hb.os,hb.output,fun i hi=>?_⟩,fun h=>by cases h⟩
 ·rw[hfn',hrt]
  exact ChangeShapes.trodAll_mk1 (RowKit.shut_bool hB true)
 ·rw[hfn']
  show DataW.TrodAll enc P W' 0 _ true f.params.toList args.toList (ds++[]) p
  rw[List.append_nil]
  have hlt':∀x∈p,x.block<W.heap.size:=fun x hx=>hlt x (List.mem_append_left _ hx)
  exact rV hl hb hrd hA hlt' (fun x hx=>by simpa using hlt' x hx)
 ·rw[hfn',hvars];rfl
 ·rw[hb.block i hi]
  cases W.heap[i]? with
  |none=>trivial
  |some o=>cases o<;>first|exact⟨rfl,rfl,rfl,fun _ _=>rfl⟩|exact .inr ⟨rfl,rfl⟩|rfl
end
theorem jt{P:Program}{w:World}:∀{laid:List (String×DataW Unit)}{name:String}{d:DataW Unit},laidMet P laid w→(name,d)∈laid→laidMet P [(name,d)] w:=by
 have vars:∀{laid:List (String×DataW Unit)}{ps:List MemPlace}{name:String}{d:DataW Unit},DataW.LaidVars P w laid ps→(name,d)∈laid→∃qs,DataW.LaidVars P w [(name,d)] qs∧qs.Sublist ps:=by
  intro laid
  induction laid with
  |nil=>simp_all
  |cons x r ih =>
   intro ps name d h hm
   obtain⟨g,t,cs,fuel,p,q,h1,h2,h3,h4,h5,h6⟩:=h
   rcases List.mem_cons.1 hm with rfl|hm
   ·refine⟨_,⟨g,t,cs,fuel,p,[],h1,h2,h3,h4,rfl,rfl⟩,?_⟩
    rw[h6]
    rw[List.append_nil]
    exact List.sublist_append_left ..
   ·grind
 intro laid name d h hm
 obtain⟨ps,h1,h2,h3⟩:=h
 obtain⟨qs,k1,k2⟩:=vars h1 hm
 exact⟨qs,k1,h2.sublist k2,fun b off hq=>h3 b off (k2.subset hq)⟩
end AM
end Go.Proofs.YtpgigedclifoeaaGreatDoor
