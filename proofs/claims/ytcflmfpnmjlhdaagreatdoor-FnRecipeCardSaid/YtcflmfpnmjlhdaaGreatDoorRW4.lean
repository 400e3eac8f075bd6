/- A table of types, held against the program's types by one computation. No condition. And what follows it: see the remarks. -/
import Derived.Test.YtcflmfpnmjlhdaaGreatDoorRW3
import Derived.Laws.StructEq
import Derived.WideShapes
import Derived.RowKit
import Derived.WideKeyArgs
import Derived.ChangeOld
import Derived.Lib.LaidTab
import Derived.Sort.Grow
import Derived.Deep.Draws
import Derived.ChangeCalls
namespace Go.Proofs.YtcflmfpnmjlhdaaGreatDoor
namespace AM
open Go
set_option linter.unusedVariables false
set_option linter.unusedSimpArgs false
def Dm:Ty→List Value→Option (List Value)
 | .int k,vs=>match vs with
  | .int l n::r=>if l=k∧n=0 then some r else none
  |_=>none
 | .bool,vs=>match vs with
  | .bool false::r=>some r
  |_=>none
 | .str,vs=>match vs with
  | .string s::r=>bif Nat.beq s.size 0 then some r else none
  |_=>none
 | .sl _,vs=>match vs with
  | .slice none 0 0::r=>some r
  |_=>none
 | .pr a b,vs=>match Dm a vs with
  |some r=>Dm b r
  |none=>none
theorem oD:∀(t:Ty){vs r:List Value},Dm t vs=some r→vs=fF t++r
 | .int k,vs,r,h=>by
  simp only[Dm]at h
  split at h
  ·simp_all [Dm,fF]
  ·cases h
 | .bool,vs,r,h=>by
  simp only[Dm]at h
  split at h
  ·simp_all [Dm,fF]
  ·cases h
 | .str,vs,r,h=>by
  simp only[Dm]at h
  split at h
  ·rename_i s r'
   cases q:Nat.beq s.size 0 with
   |false=>simp_all
   |true =>
    rw[q]at h
    obtain rfl:=Option.some.inj h
    have:s=⟨#[]⟩:=by
     have:=Nat.eq_of_beq_eq_true q
     obtain⟨d⟩:=s
     obtain⟨l⟩:=d
     cases l with
     |nil=>rfl
     |cons x l=>trivial
    rw[this];rfl
  ·cases h
 | .sl t,vs,r,h=>by
  simp only[Dm]at h
  split at h
  ·simp_all [Dm,fF]
  ·cases h
 | .pr a b,vs,r,h=>by
  simp only[Dm]at h
  split at h
  ·rename_i r1 h1
   rw[oD a h1,oD b h]
   simp[fF]
  ·cases h
def Cc:List Z→List Value→Bool
 |[],[]=>true
 | .t x::zs,vs=>match Dm x vs with
  |some r=>Cc zs r
  |none=>false
 | .ptr::zs, .pointer none::vs=>Cc zs vs
 | .fn::zs, .nilFunc::vs=>Cc zs vs
 | .ifc::zs, .nilIface::vs=>Cc zs vs
 |_,_=>false
theorem l7:∀{zs:List Z}{vs:List Value},Cc zs vs=true→vs=zs.flatMap Z.vals
 |[],[],_=>rfl
 |[],_::_,h=>by cases h
 | .t x::zs,vs,h=>by
  unfold Cc at h
  split at h
  ·rename_i r e
   rw[oD x e,l7 h];rfl
  ·cases h
 | .ptr::zs,[],h=>by cases h
 | .fn::zs,[],h=>by cases h
 | .ifc::zs,[],h=>by cases h
 | .ptr::zs,v::vs,h=>by
  cases v<;>try (simp[Cc]at h;done)
  rename_i q
  cases q<;>first|(simp[Cc]at h;done)|(rw[l7 (show Cc zs vs=true from h)];rfl)
 | .fn::zs,v::vs,h=>by
  cases v<;>first|(simp[Cc]at h;done)|(rw[l7 (show Cc zs vs=true from h)];rfl)
 | .ifc::zs,v::vs,h=>by
  cases v<;>first|(simp[Cc]at h;done)|(rw[l7 (show Cc zs vs=true from h)];rfl)
def sj:TypeDesc→Bool
 | .struct _=>true
 | .array _ _=>true
 |_=>false
def B9 (P:Program) (t:TypeId) (b:Bool):Bool:=match P.underlying t with
 |some d=>bif sj d then b else !b
 |none=>false
theorem qq{P:Program}{t:TypeId}{b:Bool}(h:B9 P t b=true) (w:World):(isAgg t).run P w = .ok b w:=by
 unfold B9 at h
 split at h
 ·rename_i d hd
  simp only[isAgg,Sem.run_bind,run_underlying hd,Result.andThen_ok]
  cases d<;>cases b<;>first|rfl|(cases h;done)
 ·cases h
def tY (P:Program):List Field→List (Nat×Nat×Bool)→Bool
 |[],[]=>true
 |f::fs,x::xs=>Nat.beq f.offset x.1&&(Nat.blt 0 x.2.1&&((match P.info? f.type with|some i=>Nat.beq i.size x.2.1|none=>false)&&(B9 P f.type x.2.2&&tY P fs xs)))
 |_,_=>false
theorem pJ{P:Program}:∀{fs:List Field}{xs:List (Nat×Nat×Bool)},tY P fs xs=true→fs.length=xs.length∧∀(i:Nat) (x:Nat×Nat×Bool),xs[i]?=some x→∃fd:Field,fs[i]?=some fd∧fd.offset=x.1∧x.2.1≠0 ∧
  (∀w,(sizeOf fd.type).run P w = .ok x.2.1 w)∧(∀w,(isAgg fd.type).run P w = .ok x.2.2 w)
 |[],[],_=>⟨rfl,fun _ _ h=>by cases h⟩
 |[],_::_,h=>by cases h
 |_::_,[],h=>by cases h
 |f::fs,x::xs,h=>by
  unfold tY at h
  simp only[Bool.and_eq_true]at h
  obtain⟨h1,h2,h3,h4,h5⟩:=h
  obtain⟨g1,g2⟩:=pJ h5
  refine⟨by simp[g1],fun i y hy=>?_⟩
  cases i with
  |zero =>
   obtain rfl:=Option.some.inj hy
   refine⟨f,rfl,Nat.eq_of_beq_eq_true h1,by have:=Nat.le_of_ble_eq_true h2;omega,fun w=>?_,qq h4⟩
   split at h3
   ·rename_i i hi
    rw[←Nat.eq_of_beq_eq_true h3]
    simp[sizeOf,typeInfo,hi]
   ·cases h3
  |succ i=>grind
def K5 (P:Program):Nat→List Field→List Ty→Bool
 |_,[],[]=>true
 |k,f::fs,t::ts=>Nat.beq f.offset k&&((f.name != "_")&&((match P.info? f.type with|some i=>Nat.beq i.size 1|none=>false)&&(B9 P f.type false&&((match P.underlying f.type,t with
   |some (.int k1), .int k2=>decide (k1=k2)
   |some .bool, .bool=>true
   |some .string, .str=>true
   |_,_=>false)&&K5 P (k+1) fs ts))))
 |_,_,_=>false
theorem rJ{P:Program}{w:World}{t:TypeId}{i:TypeInfo}(hi:P.info? t=some i) (hs:i.size=1) (ha:B9 P t false=true){xs:Array Value}{off:Nat}{v:Value}(hx:xs[off]?=some v):(Go.part t xs off).run P w = .ok v w:=by
 have h1:∀w,(sizeOf t).run P w = .ok 1 w:=fun w=>by simp[sizeOf,typeInfo,hi,hs]
 have h2:=qq ha
 have hlt:=(Array.getElem?_eq_some_iff.1 hx).1
 obtain⟨hlt,hv⟩:=Array.getElem?_eq_some_iff.1 hx
 unfold Go.part
 simp[h1,h2,Result.andThen]
 simp[hx,hlt,hv]
theorem xx{P:Program}{d:Nat}{w:World}{xs ys:Array Value}:∀{k:Nat}{fs:List Field}{ts:List Ty}{us vs:List Value}{e:Bool},K5 P k fs ts=true→aT ts us vs=some e→xs.toList.drop k=us→ys.toList.drop k=vs →
  (Op.eqFields (d+1) xs ys fs).run P w = .ok e w
 |_,[],[],us,vs,e,_,he,_,_=>by
  cases us with
  |nil=>cases vs with
   |nil=>obtain rfl:=Option.some.inj he;simp[Op.eqFields]
   |cons _ _=>cases he
  |cons _ _=>cases he
 |_,[],_::_,_,_,_,h,_,_,_=>by cases h
 |_,_::_,[],_,_,_,h,_,_,_=>by cases h
 |k,f::fs,t::ts,us,vs,e,h,he,hu,hv=>by
  unfold K5 at h
  simp only[Bool.and_eq_true]at h
  obtain⟨h1,h2,h3,h4,h5,h6⟩:=h
  have h1:=Nat.eq_of_beq_eq_true h1
  have hname:f.name≠"_":=by simpa using h2
  split at h3
  case h_2=>cases h3
  rename_i i hi
  have hs:=Nat.eq_of_beq_eq_true h3
  have next:∀{zs:Array Value}{z:Value}{zl:List Value},zs.toList.drop k=z::zl→zs[f.offset]?=some z∧zs.toList.drop (k+1)=zl:=by
   intro zs z zl q
   have g:=congrArg (fun l=>l[0]?) q
   simp at g
   refine⟨by rw[h1];simpa using g,?_⟩
   rw[←List.drop_drop,q];rfl
  have fin:∀{u v:Value}{ul vl:List Value}{b e':Bool},us=u::ul→vs=v::vl→(Op.equalIn (d+1) f.type u v).run P w = .ok b w→aT ts ul vl=some e'→e=(b&&e')→(Op.eqFields (d+1) xs ys (f::fs)).run P w = .ok e w:=by
   intro u v ul vl b e' eu ev hb hr hE
   obtain⟨n1,n2⟩:=next (hu.trans eu)
   obtain⟨n3,n4⟩:=next (hv.trans ev)
   have ih:=xx (d:=d) (w:=w) h6 hr n2 n4
   have p1:=rJ (P:=P) (w:=w) hi hs h4 n1
   have p2:=rJ (P:=P) (w:=w) hi hs h4 n3
   unfold Op.eqFields
   rw[if_pos hname]
   simp only[Sem.run_bind,p1,Result.andThen_ok,p2,hb]
   cases b with
   |true=>simp_all
   |false=>simp[hE]
  cases us with
  |nil=>simp_all [aT]
  |cons u ul =>
   cases vs with
   |nil=>simp_all [aT]
   |cons v vl =>
    cases t with
    |int q =>
     cases u<;>try (simp[aT]at he;done)
     cases v<;>try (simp[aT]at he;done)
     simp only[aT]at he
     split at he
     ·rename_i hk
      obtain⟨rfl,rfl⟩:=hk
      split at he
      ·rename_i e' hr
       split at h5
       ·exact fin rfl rfl (run_equalIn_int _ _ _ _ _ _ _ ‹_›) hr (Option.some.inj he).symm
       ·trivial
       ·trivial
       ·cases h5
      ·cases he
     ·cases he
    |bool =>
     cases u<;>try (simp[aT]at he;done)
     cases v<;>try (simp[aT]at he;done)
     simp only[aT]at he
     split at he
     ·rename_i e' hr
      split at h5
      ·trivial
      ·exact fin rfl rfl (run_equalIn_bool' _ _ _ _ _ ‹_›) hr (Option.some.inj he).symm
      ·trivial
      ·cases h5
     ·cases he
    |str =>
     cases u<;>try (simp[aT]at he;done)
     cases v<;>try (simp[aT]at he;done)
     simp only[aT]at he
     split at he
     ·rename_i e' hr
      split at h5
      ·trivial
      ·trivial
      ·rename_i hu5 _
       have key:∀a b,(Op.equalIn (d+1) f.type (.string a) (.string b)).run P w = .ok (l8 a b) w:=fun a b=>by rw[←mF];exact run_equalIn_string w d f.type a b hu5
       exact fin rfl rfl (key _ _) hr (Option.some.inj he).symm
      ·cases h5
     ·cases he
    |sl _=>trivial
    |pr _ _=>trivial
def yK (e:Bool) (d:Nat) (xs:Array Value) (fs:List Field):Sem PUnit :=
 forIn (m:=Sem) fs PUnit.unit (fun f _=>do
   if f.name≠"_" then do
    let __do_lift ←Go.part f.type xs f.offset
    Instr.checkKey e (d+1) f.type __do_lift
    pure (ForInStep.yield PUnit.unit)
   else pure (ForInStep.yield PUnit.unit))
theorem xA{P:Program}{d:Nat}{e:Bool}{w:World}{xs:Array Value}:∀{k:Nat}{fs:List Field}{ts:List Ty}{us vs:List Value}{b:Bool},K5 P k fs ts=true→aT ts us vs=some b→xs.toList.drop k=us →
  (yK e d xs fs).run P w = .ok PUnit.unit w
 |_,[],_,_,_,_,_,_,_=>by rfl
 |_,_::_,[],_,_,_,h,_,_=>by cases h
 |k,f::fs,t::ts,us,vs,b,h,he,hu=>by
  unfold K5 at h
  simp only[Bool.and_eq_true]at h
  obtain⟨h1,h2,h3,h4,h5,h6⟩:=h
  have h1:=Nat.eq_of_beq_eq_true h1
  have hname:f.name≠"_":=by simpa using h2
  split at h3
  case h_2=>cases h3
  rename_i i hi
  have hs:=Nat.eq_of_beq_eq_true h3
  have fin:∀{u:Value}{ul vl:List Value}{b':Bool}{D:TypeDesc},us=u::ul→aT ts ul vl=some b'→P.underlying f.type=some D→(∀w,(Instr.checkKey e (d+1) f.type u).run P w = .ok () w)→(yK e d xs (f::fs)).run P w = .ok PUnit.unit w:=by
   intro u ul vl b' D eu hr _ hck
   have hu':=hu.trans eu
   have g:xs[f.offset]?=some u∧xs.toList.drop (k+1)=ul:=by
    have g:=congrArg (fun l=>l[0]?) hu'
    simp at g
    refine⟨by rw[h1];simpa using g,?_⟩
    rw[←List.drop_drop,hu'];rfl
   have ih:=xA (d:=d) (e:=e) (w:=w) h6 hr g.2
   have p1:=rJ (P:=P) (w:=w) hi hs h4 g.1
   unfold yK at ih ⊢
   rw[List.forIn_cons]
   simp only[Sem.run_bind,if_pos hname,p1,Result.andThen_ok,hck,Sem.run_pure]
   exact ih
  cases us with
  |nil=>simp_all [aT]
  |cons u ul =>
   cases vs with
   |nil=>simp_all [aT]
   |cons v vl =>
    have ckp:∀{D:TypeDesc},P.underlying f.type=some D→(D = .bool∨D = .string∨∃q,D = .int q)→∀w,(Instr.checkKey e (d+1) f.type u).run P w = .ok () w:=by
     intro D hD hc w
     rcases hc with rfl|rfl|⟨q,rfl⟩<;>simp[Instr.checkKey,run_underlying hD]
    cases t with
    |int q =>
     cases u<;>try (simp[aT]at he;done)
     cases v<;>try (simp[aT]at he;done)
     simp only[aT]at he
     split at he
     ·grind
     ·cases he
    |bool =>
     cases u<;>try (simp[aT]at he;done)
     cases v<;>try (simp[aT]at he;done)
     simp only[aT]at he
     split at he
     ·grind
     ·cases he
    |str =>
     cases u<;>try (simp[aT]at he;done)
     cases v<;>try (simp[aT]at he;done)
     simp only[aT]at he
     split at he
     ·grind
     ·cases he
    |sl _=>trivial
    |pr _ _=>trivial
def Oz (P:Program) (t:Nat) (ti:TI):Bool :=
 (match P.info? t with
  |some i=>Nat.beq i.size ti.size&&(Nat.beq i.bytes ti.bytes&&(match ti.ty with
   |some ty=>Nat.beq ty.sz ti.size&&(match i.zero with
    |some z=>(match Dm ty z.cells.toList with|some []=>true|_=>false)
    |none=>false)
   |none=>true))
  |none=>false) &&
 (B9 P t ti.agg &&
 ((match P.underlying t with
  |some (.int k) => !Nat.beq ti.kind 1 || decide (k=ti.ik)
  |_ => !Nat.beq ti.kind 1) &&
 ((match P.underlying t with
  |some (.struct fs) => !Nat.beq ti.kind 2 || tY P fs.toList ti.fs
  |_ => !Nat.beq ti.kind 2) &&
 ((match P.underlying t with
  |some (.slice e) => !Nat.beq ti.kind 3 || Nat.beq e ti.el
  |_ => !Nat.beq ti.kind 3) &&
 ((match P.underlying t with
  |some (.array n e) => !Nat.beq ti.kind 4 || (Nat.beq e ti.el&&(match P.info? e with|some i=>Nat.beq ti.size (n*i.size)|none=>true))
  |_ => !Nat.beq ti.kind 4) &&
 ((match P.underlying t with
  |some .string=>true
  |_ => !Nat.beq ti.kind 5) &&
 ((match P.underlying t with
  |some .bool=>true
  |_ => !Nat.beq ti.kind 6) &&
 ((match P.underlying t with
  |some (.interface _)=>true
  |_ => !Nat.beq ti.kind 7) &&
 ((match P.underlying t with
  |some (.pointer _)=>true
  |_ => !Nat.beq ti.kind 8) &&
 ((match P.underlying t with
  |some (.map ky e) => !Nat.beq ti.kind 9 || (Nat.beq ky ti.ky&&Nat.beq e ti.el)
  |_ => !Nat.beq ti.kind 9) &&
 ((!Nat.beq ti.kind 1 || (match P.info? t with
   |some i=>(match i.zero with
    |some (.int k n)=>decide (k=ti.ik∧n=0)
    |_=>false)
   |none=>false)) &&
 ((match ti.zs with
  |none=>true
  |some zs=>(match P.info? t with
   |some i=>(match i.zero with
    |some z=>Cc zs z.cells.toList
    |none=>false)
   |none=>false)) &&
 (match ti.eqs with
  |none=>true
  |some ts => !P.stoodInHeld t&&(!P.eqGuardType P.depth t&&(match P.underlying t with
   |some (.struct fs)=>K5 P 0 fs.toList ts
   |_=>false)))))))))))))))
theorem Dx{P:Program}{t:Nat}{ti:TI}(h:Oz P t ti=true):tQ P t ti:=by
 unfold Oz at h
 simp only[Bool.and_eq_true]at h
 obtain⟨h1,h2,h3,h4,h5,h6,h7,h8,hi7,hi8,hi9,hz1,hzs,h9⟩:=h
 have nk:∀{k:Nat},ti.kind=k→(!Nat.beq ti.kind k)=true→False:=by
  simp_all
 refine⟨?_,fun zs e=>?_,qq h2,?_,fun e=>?_,fun e=>?_,fun e=>?_,fun e=>?_,fun e=>?_,fun e=>?_,fun e=>?_,fun e=>?_,fun e=>?_,fun e=>?_,fun ts e em w xs ys b hb=>?_,fun ts e w xs ys b hb=>?_⟩
 ·split at h1
  ·rename_i i hi
   simp only[Bool.and_eq_true]at h1
   obtain⟨g1,g2,g3⟩:=h1
   refine⟨i,hi,Nat.eq_of_beq_eq_true g1,Nat.eq_of_beq_eq_true g2,fun ty hty=>?_⟩
   rw[hty]at g3
   dsimp only at g3
   rw[Bool.and_eq_true]at g3
   refine⟨Nat.eq_of_beq_eq_true g3.1,?_⟩
   have g4:=g3.2
   split at g4
   ·rename_i z hz
    refine⟨z,hz,?_⟩
    split at g4
    ·rename_i hzv
     have:=oD ty hzv
     rw[List.append_nil]at this
     rw[←this]
    ·cases g4
   ·cases g4
  ·cases h1
 ·rw[e]at hzs
  dsimp only at hzs
  split at hzs
  ·rename_i i hi
   split at hzs
   ·rename_i z hz
    exact⟨i,z,hi,hz,by rw[←l7 hzs]⟩
   ·cases hzs
  ·cases hzs
 ·unfold B9 at h2
  split at h2
  ·simp_all
  ·cases h2
 ·split at h3
  ·simp_all
  ·simp_all
 ·split at h4
  ·rename_i fs hfs
   rcases Bool.or_eq_true _ _ |>.mp h4 with q|q
   ·simp_all
   ·obtain⟨g1,g2⟩:=pJ q
    refine⟨fs,hfs,by simpa using g1,fun f x hx=>?_⟩
    obtain⟨fd,k1,k2⟩:=g2 f x hx
    exact⟨fd,by simpa using k1,k2⟩
  ·simp_all
 ·split at h5
  ·simp_all
  ·simp_all
 ·split at h6
  ·rename_i n el hel
   rcases Bool.or_eq_true _ _ |>.mp h6 with q|q
   ·simp_all
   ·rw[Bool.and_eq_true]at q
    have q1:=Nat.eq_of_beq_eq_true q.1
    refine⟨n,by rw[hel,q1],fun i hi=>?_⟩
    have q2:=q.2
    rw[q1,hi]at q2
    exact Nat.eq_of_beq_eq_true q2
  ·simp_all
 ·grind
 ·grind
 ·grind
 ·grind
 ·split at hi9
  ·simp_all
  ·simp_all
 ·rcases Bool.or_eq_true _ _ |>.mp hz1 with q|q
  ·simp_all
  ·split at q
   ·grind
   ·cases q
 ·rw[e]at h9
  dsimp only at h9
  simp only[Bool.and_eq_true,Bool.not_eq_true']at h9
  obtain⟨g1,g2,g3⟩:=h9
  split at g3
  ·rename_i fs hfs
   show(Instr.checkKey em (9999+1) t (.agg xs.toArray)).run P w=_
   unfold Instr.checkKey
   simp only[Sem.run_bind,run_underlying hfs,Result.andThen_ok]
   rw[←Array.forIn_toList]
   have hck:=xA (d:=9998) (e:=em) (w:=w) (xs:=xs.toArray) g3 hb (by simp)
   unfold yK at hck
   rw[hck];rfl
  ·cases g3
 ·rw[e]at h9
  dsimp only at h9
  simp only[Bool.and_eq_true,Bool.not_eq_true']at h9
  obtain⟨g1,g2,g3⟩:=h9
  split at g3
  ·rename_i fs hfs
   have hfo:P.fieldsOf t=fs:=by simp[Program.fieldsOf,hfs]
   refine⟨?_,fun op x y=>run_eqGuard_agg _ op t x y _ _ g2⟩
   show(Op.equalIn (9999+1) t (.agg xs.toArray) (.agg ys.toArray)).run P w=_
   rw[run_equalIn_struct w 9999 t _ _ (by rw[hfo];exact hfs) g1,hfo]
   exact xx (d:=9998) g3 hb (by simp) (by simp)
  ·cases g3
def JM (P:Program):jx→Bool
 |[]=>true
 |p::r=>Oz P p.1 p.2&&JM P r
theorem ue{P:Program}:∀{τ:jx},JM P τ=true→cV P τ
 |[],_,_,_,e=>by cases e
 |p::r,h,t,ti,e=>by
  unfold JM at h
  rw[Bool.and_eq_true]at h
  unfold jx.get at e
  cases q:Nat.beq p.1 t with
  |true =>
   simp_all [Dx]
  |false=>rw[q]at e;exact ue h.2 t ti e
def gG:Code→List Code
 | .seq a b=>gG a++gG b
 | .cond _ a b=>gG a++gG b
 | .block _ c=>gG c
 | .loop c=>c::gG c
 |_=>[]
def sV (E:aW) (c:Code):Prop:=∀S,E.Λ (key c)=some S→∃f:Nat→TD (bg S.ent)→Option (EX S.exs),(∀x,f 0 x=none)∧(∃n,S.g=f n)∧∀n x,f (n+1) x=dM E c S (f n) x
def iW:Code→List (Nat×Array Oper)
 | .region id ops _=>[(id,ops)]
 | .seq a b=>iW a++iW b
 | .cond _ a b=>iW a++iW b
 | .block _ c=>iW c
 | .loop c=>iW c
 |_=>[]
theorem Ah{E:aW}:∀c:Code,(∀b∈gG c,sV E b)→(∀p∈iW c,xH E p.1 p.2)→eH E c:=by
 intro c
 induction c with
 |seq a b iha ihb=>exact fun h g=>⟨iha (fun x hx=>h x (List.mem_append_left _ hx)) fun x hx=>g x (List.mem_append_left _ hx),ihb (fun x hx=>h x (List.mem_append_right _ hx)) fun x hx=>g x (List.mem_append_right _ hx)⟩
 |cond _ a b iha ihb=>exact fun h g=>⟨iha (fun x hx=>h x (List.mem_append_left _ hx)) fun x hx=>g x (List.mem_append_left _ hx),ihb (fun x hx=>h x (List.mem_append_right _ hx)) fun x hx=>g x (List.mem_append_right _ hx)⟩
 |block _ c ih=>trivial
 |loop c ih=>exact fun h g=>⟨ih (fun x hx=>h x (List.mem_cons_of_mem _ hx)) g,h c (List.mem_cons_self ..)⟩
 |region id ops d=>exact fun _ g=>g (id,ops) (List.mem_singleton.2 rfl)
 |_=>exact fun _ _=>trivial
def bV (c:Code) (id:Nat):List Oper:=match(iW c).find? (fun p=>Nat.beq p.1 id)with
 |some p=>p.2.toList
 |none=>[]
def mh:List Nat→Bool
 |[]=>true
 |n::r => !a9 n r&&mh r
theorem xu {β:Type}:∀{l:List (Nat×β)},mh (l.map Prod.fst)=true→∀p∈l,l.find? (fun q=>Nat.beq q.1 p.1)=some p
 |[],_,_,h=>by cases h
 |q::l,hn,p,h=>by
  unfold mh at hn
  simp only[List.map_cons,Bool.and_eq_true,Bool.not_eq_true']at hn
  rcases List.mem_cons.1 h with rfl|h
  ·simp_all
  ·have:Nat.beq q.1 p.1=false:=by
    cases z:Nat.beq q.1 p.1 with
    |false=>rfl
    |true =>
     have hm:a9 q.1 (l.map Prod.fst)=true:=cS.2 (by rw[Nat.eq_of_beq_eq_true z];exact List.mem_map.2 ⟨p,h,rfl⟩)
     rw[hn.1]at hm;cases hm
   rw[List.find?_cons,this]
   exact xu hn.2 p h
theorem Co{E:aW}{c:Code}(hn:mh ((iW c).map Prod.fst)=true) (h:∀id S,E.Ω id=some S→nB (bV c id)=true∧∀x y,S.g x=some y→∀π∈yE (bV c id),cg E (bV c id) (bY (bV c id) π) (dO S.ent x) (fun s'=>gP E.N S.out s')=some y):∀p∈iW c,xH E p.1 p.2:=by
 intro p hp S hS
 have hr:bV c p.1=p.2.toList:=by unfold bV;rw[xu hn p hp]
 rw[←hr]
 exact h p.1 S hS
def bh (c:Code) (i:Nat):Code:=(gG c).getD i .skip
def aD (fn:Func):Code:=fn.body.getD .skip
theorem mY{E:aW}{c:Code}(k:Nat) (hk:(gG c).length=k) (h:∀i,i<k→sV E (bh c i)) (hR:∀p∈iW c,xH E p.1 p.2):eH E c:=by
 refine Ah c (fun b hb=>?_) hR
 obtain⟨i,hi⟩:=List.getElem?_of_mem hb
 have hlt:i<k:=by rw[←hk];exact(List.getElem?_eq_some_iff.1 hi).1
 have:=h i hlt
 unfold bh at this
 rw[List.getD_eq_getElem?_getD,hi]at this
 exact this
theorem J8{E:aW}{c:Code}{S:dI}(hS:E.Λ (key c)=some S) (f:Nat→TD (bg S.ent)→Option (EX S.exs)) (h0:∀x,f 0 x=none) (n:Nat) (hn:S.g=f n) (hs:∀m x,f (m+1) x=dM E c S (f m) x):sV E c:=by
 intro S' hS'
 rw[hS]at hS'
 obtain rfl:=Option.some.inj hS'
 exact⟨f,h0,⟨n,hn⟩,hs⟩
def N3:List (Nat×ag)→Nat→Option ag
 |[],_=>none
 |p::r,f=>bif Nat.beq p.1 f then some p.2 else N3 r f
def N2:List ((Nat×Nat)×ag)→Nat→Nat→Option ag
 |[],_,_=>none
 |p::r,f,d=>bif Nat.beq p.1.1 f&&Nat.beq p.1.2 d then some p.2 else N2 r f d
def gl (l:List (Nat×ag)) (l2:List ((Nat×Nat)×ag)) (f d:Nat):Option ag :=
 match N2 l2 f d with
 |some S=>some S
 |none=>N3 l f
def sW (P:Program) (K:eN) (p:Nat×ag):Prop:=Plain P p.1∧jo P K p.1 p.2
def vK (P:Program) (K:eN):List (Nat×ag)→Prop
 |[]=>True
 |p::r=>sW P K p∧vK P K r
def vJ (P:Program) (K:eN):List ((Nat×Nat)×ag)→Prop
 |[]=>True
 |p::r=>sW P K (p.1.1,p.2)∧vJ P K r
theorem At{P:Program}{K:eN}:∀{l:List (Nat×ag)},vK P K l→∀f S,N3 l f=some S→Plain P f∧jo P K f S
 |[],_,_,_,h=>by cases h
 |p::r,⟨h1,h2⟩,f,S,h=>by
  unfold N3 at h
  cases q:Nat.beq p.1 f with
  |true =>
   rw[q]at h
   obtain rfl:=Option.some.inj h
   rw[←Nat.eq_of_beq_eq_true q]
   exact h1
  |false=>rw[q]at h;exact At h2 f S h
theorem As{P:Program}{K:eN}:∀{l:List ((Nat×Nat)×ag)},vJ P K l→∀f d S,N2 l f d=some S→Plain P f∧jo P K f S
 |[],_,_,_,_,h=>by cases h
 |p::r,⟨h1,h2⟩,f,d,S,h=>by
  unfold N2 at h
  cases q:(Nat.beq p.1.1 f&&Nat.beq p.1.2 d)with
  |true =>
   rw[q]at h
   obtain rfl:=Option.some.inj h
   rw[Bool.and_eq_true]at q
   rw[←Nat.eq_of_beq_eq_true q.1]
   exact h1
  |false=>rw[q]at h;exact As h2 f d S h
theorem IJ{P:Program}{K:eN}{l:List (Nat×ag)}{l2:List ((Nat×Nat)×ag)}(h1:vK P K l) (h2:vJ P K l2) (f d:Nat) (S:ag) (h:gl l l2 f d=some S):Plain P f∧jo P K f S:=by
 grind [gl,split,As,At]
theorem xl{P:Program}{K:eN}:∀{l:List (Nat×ag)},vK P K l→∀p∈l,Plain P p.1∧jo P K p.1 p.2
 |[],_,_,h=>by cases h
 |q::r,⟨h1,h2⟩,p,h=>by
  rcases List.mem_cons.1 h with rfl|h
  ·exact h1
  ·exact xl h2 p h
theorem gp{P:Program}{f:FuncId}{fn:Func}(h:P.funcs[f]?=some fn) (hn:(fn.name=="runtime.NumGoroutine")=false) (hb:fn.body.isNone=false):Plain P f:=⟨fn,h,hn,hb⟩
theorem IW{fn:Func}(h:fn.body.isSome=true):fn.body=some (aD fn):=by
 unfold aD
 cases q:fn.body with
 |none=>simp_all
 |some c=>rfl
theorem B8 {α β:Type}{xs:List α}{F:α→β}{vs:List β}(h:xs.map F=vs){r:β}(hv:∀v∈vs,v=r):∀x∈xs,F x=r:=fun x hx=>hv _ (h▸List.mem_map.2 ⟨x,hx,rfl⟩)
theorem FJ{P:Program}{K:eN}{f:FuncId}{fn:Func}{S:ag}{E:aW}{l:List (Nat×ag)}{l2:List ((Nat×Nat)×ag)}(hf:P.funcs[f]?=some fn) (hmo:P.follows .mixedOrders=true) (hτ:cV P E.τ) (hΓ:E.Γ=gl l l2) (hl:vK P K l) (hl2:vJ P K l2)
  (hb:fn.body.isSome=true) (hN:E.N=fn.ntmps) (hn:S.pars.length≤fn.ntmps) (hr:fn.results.size=S.res.length) (hloops:eH E (aD fn)) (hg:∀x,S.g x=aR E fn S x) (h2:∀p∈E.Γ2,Plain P p.1∧jo P K p.1 p.2):jo P K f S :=
 Lm ⟨hτ,fun f d S h=>by rw[hΓ]at h;exact IJ hl hl2 f d S h,hmo,h2⟩ hf (IW hb) hN hn hr hloops (fun x r h=>by rw[←hg];exact h)
def AZ:List (Nat×fc)→Nat→Option fc
 |[],_=>none
 |p::r,i=>bif Nat.beq p.1 i then some p.2 else AZ r i
abbrev sS (E:aW) (c:Code) (id:Nat) (S:fc):Prop:=nB (bV c id)=true∧∀x y,S.g x=some y→∀π∈yE (bV c id),cg E (bV c id) (bY (bV c id) π) (dO S.ent x) (fun s'=>gP E.N S.out s')=some y
def lD (E:aW) (c:Code):List (Nat×fc)→Prop
 |[]=>True
 |p::r=>sS E c p.1 p.2∧lD E c r
theorem Bf{E:aW}{c:Code}:∀{l:List (Nat×fc)},lD E c l→∀id S,AZ l id=some S→sS E c id S
 |[],_,_,_,h=>by cases h
 |p::r,h,id,S,hS=>by
  unfold AZ at hS
  cases q:Nat.beq p.1 id with
  |true=>rw[q]at hS;obtain rfl:=Option.some.inj hS;obtain rfl:=Nat.eq_of_beq_eq_true q;exact h.1
  |false=>rw[q]at hS;exact Bf h.2 id S hS
abbrev KS (b:Bool) (E:aW) (c:Code) (r:Nat) (L:List Nat) (S:fc):Prop:=∀x,kH b E (bV c r) (bY (bV c r) L) (dO S.ent x) (fun s=>gP E.N S.out s)=S.g x
abbrev Oo (W:WL) (E:aW) (c:Code) (r:Nat) (L:List Nat) (S:fc):Prop:=∀x,nv W E (bV c r) (bY (bV c r) L) (dO S.ent x) (fun s=>gP E.N S.out s)=S.g x
abbrev TM (E:aW) (c:Code) (r n:Nat) (S:fc):Prop:=∀x,(yE (bV c r)).map (fun π=>cg E (bV c r) (bY (bV c r) π) (dO S.ent x) (fun s=>gP E.N S.out s))=List.replicate n (S.g x)
theorem DL{b:Bool}{E:aW}{c:Code}{r:Nat}{L:List Nat}{S:fc}(h:KS b E c r L S) (zs:List (Nat×Nat)) (hb:(L.all (fun i=>Nat.blt i (bV c r).length)&&(List.range (bV c r).length).all (fun i=>a9 i L))=true:=by kernel_rfl) (hnd:L.Nodup:=by decide) (ha:nB (bV c r)=true:=by kernel_rfl)
  (hp:de (zK E (bV c r) (a8 (bV c r) []) b) L=true:=by kernel_rfl) (ho:de (zO (bV c r)) L=true:=by kernel_rfl) (hok:(!b || L.all (fun j=>FI E (bV c r) (a8 (bV c r) []) zs j || xc E (bV c r) (a8 (bV c r) []) j))=true:=by kernel_rfl) (hs:∀x:TD (bg S.ent),(!b || xW (bV c r) zs L (cy S.ent (ar (bg S.ent) x)) (eO S.ent (ar (bg S.ent) x)))=true:=by intro x;kernel_rfl):sS E c r S :=
 ⟨ha,fun x y hy=>Ep b zs L hb hnd ha hp ho hok (hs x) ((h x).trans hy)⟩
theorem JQ{W:WL}{E:aW}{c:Code}{r:Nat}{L:List Nat}{S:fc}(h:Oo W E c r L S) (T:List (Nat×Nm)) (hb:(L.all (fun i=>Nat.blt i (bV c r).length)&&(List.range (bV c r).length).all (fun i=>a9 i L))=true:=by kernel_rfl) (hnd:L.Nodup:=by decide) (ha:nB (bV c r)=true:=by kernel_rfl)
  (hp:de (zL E (bV c r) W T (a8 (bV c r) [])) L=true:=by kernel_rfl) (ho:de (zO (bV c r)) L=true:=by kernel_rfl) (hok:L.all (fun j=>K4 E (bV c r) W T (a8 (bV c r) []) j || xe W E (bV c r) (a8 (bV c r) []) j)=true:=by kernel_rfl) (hs:∀x:TD (bg S.ent),xX E (bV c r) W T L (cy S.ent (ar (bg S.ent) x)) (eO S.ent (ar (bg S.ent) x))=true:=by intro x;kernel_rfl):sS E c r S :=
 ⟨ha,fun x y hy=>Eo W T L hb hnd ha hp ho hok (hs x) ((h x).trans hy)⟩
theorem OK{E:aW}{c:Code}{r n:Nat}{S:fc}(h:TM E c r n S) (ha:nB (bV c r)=true:=by kernel_rfl):sS E c r S :=
 ⟨ha,fun x y hy=>B8 (h x) (fun v hv=>(List.eq_of_mem_replicate hv).trans hy)⟩
abbrev RJ (E:aW) (c:Code) (r n:Nat) (S:fc):Prop:=∀x,(AA E (bV c r) (bV c r).length none (List.range (bV c r).length)).map (fun π=>kH false E (bV c r) (bY (bV c r) π) (dO S.ent x) (fun s=>gP E.N S.out s))=List.replicate n (S.g x)
theorem Lk{E:aW}{c:Code}{r n:Nat}{S:fc}(h:RJ E c r n S) (ha:nB (bV c r)=true:=by kernel_rfl):sS E c r S :=
 ⟨ha,fun x y hy=>IN ha (B8 (h x) (fun v hv=>(List.eq_of_mem_replicate hv).trans hy))⟩
theorem R7{E:aW}{c:Code}(h:∀id,E.Ω id=none):∀p∈iW c,xH E p.1 p.2:=fun p _ S hS=>by simp_all
theorem gr{E:aW}{c:Code}(hk:(gG c).length=0:=by kernel_rfl) (hΩ:∀id,E.Ω id=none:=by intro id;rfl):eH E c:=mY 0 hk (fun i hi=>absurd hi (Nat.not_lt_zero i)) (R7 hΩ)
theorem Jn{E:aW}{c:Code}{l:List (Nat×fc)}(h:lD E c l) (hk:(gG c).length=0:=by kernel_rfl) (hΩ:E.Ω=AZ l:=by rfl) (hn:mh ((iW c).map Prod.fst)=true:=by kernel_rfl):eH E c :=
 mY 0 hk (fun i hi=>absurd hi (Nat.not_lt_zero i)) (Co hn (fun id S hS=>Bf h id S (by rw[←hΩ];exact hS)))
theorem pg{E:aW}{c:Code}(k:Nat) (h:∀i,i<k→sV E (bh c i)) (hk:(gG c).length=k:=by kernel_rfl) (hΩ:∀id,E.Ω id=none:=by intro id;rfl):eH E c:=mY k hk h (R7 hΩ)
theorem J9{E:aW}{c:Code}{l:List (Nat×fc)}(k:Nat) (h:∀i,i<k→sV E (bh c i)) (hr:lD E c l) (hk:(gG c).length=k:=by kernel_rfl) (hΩ:E.Ω=AZ l:=by rfl) (hn:mh ((iW c).map Prod.fst)=true:=by kernel_rfl):eH E c :=
 mY k hk h (Co hn (fun id S hS=>Bf hr id S (by rw[←hΩ];exact hS)))
theorem lF{E:aW}{c:Code}(n:Nat) (S:dI) (f:Nat→TD (bg S.ent)→Option (EX S.exs)) (hs:∀m x,f (m+1) x=dM E c S (f m) x) (hS:E.Λ (key c)=some S:=by kernel_rfl) (h0:∀x,f 0 x=none:=by intro x;rfl) (hn:S.g=f n:=by rfl):sV E c:=J8 hS f h0 n hn hs
theorem am{P:Program}{K:eN}{f:FuncId}{fn:Func}{S:ag}(hmo:P.follows .mixedOrders=true){t:jx}(hτ:cV P t) (hf:P.funcs[f]?=some fn) (E:aW) (l:List (Nat×ag)) (l2:List ((Nat×Nat)×ag)) (hl:vK P K l) (hl2:vJ P K l2)
  (hloops:eH E (aD fn)) (hg:∀x,S.g x=aR E fn S x) (ht:E.τ=t:=by rfl) (hΓ:E.Γ=gl l l2:=by rfl) (h1:(fn.name=="runtime.NumGoroutine")=false:=by kernel_rfl) (hb:fn.body.isSome=true:=by kernel_rfl) (hN:E.N=fn.ntmps:=by kernel_rfl) (hn:Nat.ble S.pars.length fn.ntmps=true:=by kernel_rfl) (hr:fn.results.size=S.res.length:=by kernel_rfl) (l3:List (Nat×ag):=[]) (hl3:vK P K l3:=by exact trivial) (h2:E.Γ2=l3:=by rfl):sW P K (f,S) :=
 ⟨gp hf h1 (by cases q:fn.body with
  |none=>rw[q]at hb;cases hb
  |some c=>rfl),FJ (S:=S) (E:=E) hf hmo (by rw[ht];exact hτ) hΓ hl hl2 hb hN (Nat.le_of_ble_eq_true hn) hr hloops hg (fun p hp=>xl hl3 p (h2▸hp))⟩
def eN.of (W:World):eN where
 blk:=fun b=>b<W.heap.size
 ok:=fun w=>∀b,b<W.heap.size→w.heap[b]?=W.heap[b]?
 keep:=fun w w' h k b hb=>((k b hb).2).trans (h b hb)
theorem eN.of_cell{W w:World}(h:(eN.of W).ok w){b off:Nat}{u:Value}(hu:W.cell? ⟨b,off,none⟩=some u):w.cell? ⟨b,off,none⟩=some u:=by
 have hb:=World.block_lt_of_cell? W ⟨b,off,none⟩ hu
 rw[World.cell?_of_block (w:=W) (a:=⟨b,off,none⟩) (h b hb)];exact hu
theorem eN.of_tab{P:Program}{W w:World}(h:(eN.of W).ok w){name:String}{k:IntKind}{zs:List Int}(ht:Lib.TabIs P W name k zs):Lib.TabIs P w name k zs:=by
 unfold Lib.TabIs World.var? at ht ⊢
 cases hg:P.globalNamed name with
 |none=>simp_all
 |some g =>
  grind [eN.of,iO.ok]
theorem bT.drewN (w:World) (n:Nat):bT (fun _ _=>False) w (w.drewN n):=⟨rfl,rfl,rfl,Nat.le_refl _,fun _ _=>dV.refl _ _⟩
theorem bT.grow (w:World) (os:Array Go.Obj):bT (fun _ _=>False) w (Sort.grow w os) :=
 ⟨rfl,rfl,rfl,by show w.heap.size≤(w.heap++os).size;simp,fun b hb=>dV.of_eq (by show(w.heap++os)[b]?=w.heap[b]?;rw[Array.getElem?_append_left hb])⟩
def G2 (P:Program) (n:Nat):List TypeId→Option (List (Ty×Bool))
 |[]=>some []
 |T::r=>match zd P n T,P.underlying T,G2 P n r with
  |some t,some d,some l=>some ((t,sj d)::l)
  |_,_,_=>none
section
variable{H:Type}{enc:TypeId×Value→H}{P:Program}{W:World}{sp:Nat→Bool}{held:Bool}
theorem Kl{n T:Nat}{t:Ty}{d:TypeDesc}(ht:zd P n T=some t) (hd:P.underlying T=some d){base:Nat}{v:Value}(hv:Value.okWide P W .any base T v){x:DataW H}{ps:List MemPlace}(h:DataW.Trod enc P W 0 sp held T v x ps) :
  ∃a:iO,a.t=t∧a.agg=sj d∧a.u=v∧a.ok W:=by
 obtain⟨fuel,hf⟩:=h
 obtain⟨y,hr,hfit⟩:=mM n T t ht fuel _ _ hf
 refine⟨⟨t,sj d,y,v⟩,rfl,rfl,rfl,hfit,fun q=>?_,fun q=>?_⟩
 ·have q:sj d=true:=q
  cases d with
  |struct fs =>
   obtain⟨cs,rfl,_⟩:=WideShapes.okWide_struct hd hv
   exact⟨cs.toList,by simp,hr⟩
  |array m e =>
   exfalso
   cases n with
   |zero=>cases ht
   |succ n=>unfold zd at ht;rw[hd]at ht;cases ht
  |_=>cases q
 ·have q:sj d=false:=q
  have hc:v.cells.toList=[v]:=by
   cases n with
   |zero=>cases ht
   |succ n =>
    unfold zd at ht
    rw[hd]at ht
    cases d with
    |bool=>obtain⟨b,rfl⟩:=WideShapes.okWide_bool hd hv;rfl
    |int k=>obtain⟨m,rfl⟩:=WideShapes.okWide_int hd hv;rfl
    |string=>obtain⟨s,rfl⟩:=WideShapes.okWide_string hd hv;rfl
    |slice e=>obtain⟨a,l,c,rfl⟩:=WideShapes.okWide_slice hd hv;rfl
    |struct fs=>cases q
    |_=>cases ht
  rw[hc]at hr
  exact hr
theorem Df{n base:Nat}:∀{Ts:List TypeId}{vs:List Value}{ds:List (DataW H)}{ps:List MemPlace}{l:List (Ty×Bool)},G2 P n Ts=some l→DataW.TrodAll enc P W 0 sp held Ts vs ds ps →
  (∀(j:Nat) t v,Ts[j]?=some t→vs[j]?=some v→Value.okWide P W .any base t v)→∃as:List iO,as.map (fun a=>(a.t,a.agg))=l∧as.map iO.u=vs∧∀a∈as,a.ok W
 |[],vs,ds,ps,l,hs,h,_=>by
  obtain rfl:=Option.some.inj hs
  obtain⟨rfl,_,_⟩:=ChangeShapes.trodAll_nil h
  exact⟨[],rfl,rfl,fun a ha=>by cases ha⟩
 |T::Ts,vs,ds,ps,l,hs,h,hv=>by
  obtain⟨v,vs',d,ds',p,q,rfl,rfl,rfl,h0,h1⟩:=ChangeShapes.trodAll_cons h
  simp only[G2]at hs
  split at hs
  ·rename_i t dd l' e1 e2 e3
   obtain rfl:=Option.some.inj hs
   obtain⟨a,a1,a2,a3,a4⟩:=Kl e1 e2 (hv 0 T v rfl rfl) h0
   obtain⟨as,b1,b2,b3⟩:=Df e3 h1 (fun j t v ht hv'=>hv (j+1) t v ht hv')
   refine⟨a::as,?_,?_,fun x hx=>?_⟩
   ·simp_all
   ·simp_all
   ·grind
  ·cases hs
theorem pw{W':World}(hl:laidOutB P=true) (hb:RowKit.Below W.heap.size W W'){sp':Nat→Bool}:∀{Ts:List TypeId}{vs:List Value}{ds:List (DataW H)}{ps:List MemPlace},Ts.all (fun t=>P.readableRec t&&decide (t<P.types.size))=true →
  DataW.TrodAll enc P W 0 (fun _=>true) true Ts vs ds ps→(∀p∈ps,p.block<W.heap.size)→(∀p∈ps,sp' p.block=true)→DataW.TrodAll enc P W' 0 sp' true Ts vs ds ps
 |[],_,_,_,_,h,_,_=>by
  obtain⟨rfl,rfl,rfl⟩:=ChangeShapes.trodAll_nil h
  exact ChangeShapes.trodAll_mk0
 |T::Ts,_,_,_,hr,h,hlt,hsp=>by
  obtain⟨v,vs',d,ds',p,q,rfl,rfl,rfl,h0,h1⟩:=ChangeShapes.trodAll_cons h
  rw[List.all_cons,Bool.and_eq_true,Bool.and_eq_true]at hr
  obtain⟨⟨hr1,hr2⟩,hr3⟩:=hr
  refine⟨p,q,WideElems.Trod_stays hl hr1 (of_decide_eq_true hr2) h0 (fun x hx=>hb.same (hlt x (List.mem_append_left _ hx))) (fun x hx=>hsp x (List.mem_append_left _ hx)),?_,rfl⟩
  exact pw hl hb hr3 h1 (fun x hx=>hlt x (List.mem_append_right _ hx)) (fun x hx=>hsp x (List.mem_append_right _ hx))
theorem F3{f:Func}{s:ChangeSpec}{B:TypeId}{W':World}{args:Array Value}{ds gs:List (DataW H)}{before:List MemPlace}(hvars:s.vars=[]) (hfn:∀l:List (DataW H),l.length=f.params.size→s.fn H l={ results:=[.lit (.bool true)],args:=l })
  (hrt:f.resultTypes=#[B]) (hB:P.underlying B=some .bool) (hl:laidOutB P=true) (hrd:f.params.toList.all (fun t=>P.readableRec t&&decide (t<P.types.size))=true)
  (hW:DataW.Whole enc P f.params.toList s.vars false W args.toList ds gs before) (hb:RowKit.Below W.heap.size W W'):s.post enc P f false true false false W args (.bool true) W':=by
 have hlt:=hW.lt
 have hW0:=hW
 obtain⟨p,q,hA,hV,rfl,hz,_⟩:=hW
 rw[hvars]at hV
 obtain⟨rfl,rfl⟩:=ChangeShapes.trodVars_none hV
 have hlen:ds.length=f.params.size:=by
  have:=(trodAll_length hA).2
  simpa using this
 have hfn':=hfn (ds++[]) (by simpa using hlen)
 refine⟨ds,[],p++[],[],p,[],hW0,?_,?_,?_,⟨hb.os,hb.output,fun i hi=>?_⟩,fun h=>by cases h⟩
 ·rw[hfn',hrt]
  exact ChangeShapes.trodAll_mk1 (RowKit.shut_bool hB true)
 ·rw[hfn']
  show DataW.TrodAll enc P W' 0 _ true f.params.toList args.toList (ds++[]) p
  rw[List.append_nil]
  have hlt':∀x∈p,x.block<W.heap.size:=fun x hx=>hlt x (List.mem_append_left _ hx)
  exact pw hl hb hrd hA hlt' (fun x hx=>by simpa using hlt' x hx)
 ·rw[hfn',hvars];rfl
 ·rw[hb.block i hi]
  cases W.heap[i]? with
  |none=>trivial
  |some o=>cases o<;>first|exact⟨rfl,rfl,rfl,fun _ _=>rfl⟩|exact .inr ⟨rfl,rfl⟩|rfl
end
theorem iK{P:Program}{w:World}:∀{laid:List (String×DataW Unit)}{name:String}{d:DataW Unit},laidMet P laid w→(name,d)∈laid→laidMet P [(name,d)] w:=by
 have vars:∀{laid:List (String×DataW Unit)}{ps:List MemPlace}{name:String}{d:DataW Unit},DataW.LaidVars P w laid ps→(name,d)∈laid→∃qs,DataW.LaidVars P w [(name,d)] qs∧qs.Sublist ps:=by
  intro laid
  induction laid with
  |nil=>simp_all
  |cons x r ih =>
   intro ps name d h hm
   obtain⟨g,t,cs,fuel,p,q,h1,h2,h3,h4,h5,h6⟩:=h
   rcases List.mem_cons.1 hm with rfl|hm
   ·refine⟨_,⟨g,t,cs,fuel,p,[],h1,h2,h3,h4,rfl,rfl⟩,?_⟩
    rw[h6]
    rw[List.append_nil]
    exact List.sublist_append_left ..
   ·grind
 intro laid name d h hm
 obtain⟨ps,h1,h2,h3⟩:=h
 obtain⟨qs,k1,k2⟩:=vars h1 hm
 exact⟨qs,k1,h2.sublist k2,fun b off hq=>h3 b off (k2.subset hq)⟩
def uE (t:Ty) (el:Nat) (g:List t.den→Option (List t.den)):ag:={ pars:=[.c (.i (.sl t))],gh:=[],nb:=[],res:=[(false,[.o el t])],g:=g }
theorem wP{P:Program}{K:eN}{f:FuncId}{t:Ty}{el:Nat}{g:List t.den→Option (List t.den)}
  (h:∀(w:World) (I:Nat→Prop) (xs r:List t.den) (u:Value),g xs=some r→K.ok w→(∀b,I b→b<w.heap.size)→cL I w (.sl t) xs [u] →
   Calls P f #[u] w fun e w'=>∃v' vs,e = .returned v'∧w'.ownsRow w.heap.size el t.sz v' r.length vs∧bz I w t r vs∧bT (fun _ _=>False) w w') :
  jo P K f (uE t el g):=by
 intro Y L I a w x r hx hR hK hY hw
 have hN:Y.N=1:=hY
 have hsz:a.tmps.size=1:=hR.size.trans hN
 have hu:cL I w (.sl t) x [a.tmps.getD 0 undef]:=hR.slot 0
 have hI:∀b,I b→b<w.heap.size:=fun b hb=>(hR.imm b hb).1
 have htm:a.tmps=#[a.tmps.getD 0 undef]:=by
  refine Array.ext (by simp[hsz]) fun i hi _=>?_
  obtain rfl:i=0:=by omega
  rw[Array.getD_eq_getD_getElem?,Array.getElem?_eq_getElem hi];rfl
 subst hK
 rw[show first (ag.real (uE t el g)) a.tmps=a.tmps from kZ (by rw[hsz];exact Nat.le_refl _),htm]
 refine(h w I x r _ hx hR.glob.1 hI hu).mono fun e w' hp=>?_
 obtain⟨v',vs,rfl,hown,hf,hst⟩:=hp
 have g1:=hR.grows hst
 have hsm:jk I w w':=fun b hb=>hst.same (hI b hb) (fun _ q=>q)
 have hsl:∃a l c,v' = .slice a l c:=by
  rcases hown.2 with⟨e,_⟩|⟨g,cap,cur,e,_⟩
  ·grind
  ·grind
 have hmk:dO (ag.ens (uE t el g)) r=⟨cY [(1, .c (.own [1,0]))],a5 [([1,0], .arr el t r)]⟩:=by
  have ha:qn [1,0] el t ⟨.sl t,r⟩=[([1,0], .arr el t r)]:=by
   grind [qn,DV.as,jc]
  show St.mk _ (a5 ((qn [1,0] el t ⟨.sl t,r⟩++[])++[]))=_
  rw[ha];rfl
 refine⟨_,fun n=>bif Nm.eqb n [1,0]then v' else L n,I,⟨#[a.tmps.getD 0 undef,v'],[]⟩,rfl,?_,fun n hn=>?_,rfl⟩
 ·rw[hmk]
  have one:∀{n:Nm}{ob:Ob},a5 [([1,0],Ob.arr el t r)] n=some ob→n=[1,0]∧ob = .arr el t r:=fun{n ob} hq=>by
   have hq:(bif Nm.eqb [1,0] n then some (Ob.arr el t r)else none)=some ob:=hq
   cases hn:Nm.eqb [1,0] n with
   |false=>grind
   |true =>
    grind [bx]
  refine⟨rfl,rfl,fun i hi=>?_,fun i hi=>?_,fun n ob hob=>?_,fun n m ob ob' h1 h2 b o q1 q2=>?_,fun n ob hob b o hq=>?_,g1.imm,g1.sub,g1.step,g1.glob⟩
  ·have hi:i<2:=hi
   match i,hi with
   |0,_=>trivial
   |1,_ =>
    obtain⟨sa,l,c,e⟩:=hsl
    exact⟨sa,l,c,e,rfl⟩
  ·have hi:2≤i:=hi
   match i,hi with
   |i+2,_=>rfl
  ·obtain⟨rfl,rfl⟩:=one hob
   refine⟨vs,⟨hown.1,hown.2.imp id ?_⟩,bz.mono (fun _ q=>q) hsm hf⟩
   rintro ⟨g,cap,cur,k1,k2,k3⟩
   exact⟨g,cap,cur,k1,Nat.zero_le _,k3⟩
  ·exact(one h1).1.trans (one h2).1.symm
  ·obtain⟨rfl,rfl⟩:=one hob
   have hq:v'.ownBlock=some b:=hq
   have hlt:=hown.lt b hq
   refine⟨hlt.2,fun q=>?_,fun q=>?_⟩
   ·have:=hI b q
    omega
   ·exfalso
    have q:b<Y.w0.heap.size:=q
    rw[hw]at q
    omega
 ·show(bif Nm.eqb n [1,0]then v' else L n)=L n
  have hne:Nm.eqb n [1,0]=false:=by
   rw[a0]
   intro e
   subst e
   cases hn
  rw[hne];rfl
theorem mq{I:Nat→Prop}{w:World}{k:IntKind}:∀{xs:List Int}{vs:List Value},bz I w (.int k) xs vs↔vs=xs.map (Value.int k)
 |[],vs=>by
  constructor
  ·rintro ⟨css,h1,rfl⟩
   cases css with
   |nil=>rfl
   |cons=>trivial
  ·rintro rfl;exact bz.nil
 |x::xs,vs=>by
  constructor
  ·intro h
   obtain⟨cs,us,rfl,h1,h2⟩:=h.un
   rw[show cs=[.int k x]from h1,mq.1 h2];rfl
  ·rintro rfl
   exact bz.cons (cs:=[.int k x]) rfl (mq.2 rfl)
theorem Bv{w:World}{base e size:Nat}{v:Value}{n:Nat}{vs:List Value}(h:w.ownsRow base e size v n vs):∃a l c,v = .slice a l c:=by
 rcases h.2 with⟨e,_⟩|⟨g,cap,cur,e,_⟩
 ·simp_all
 ·simp_all
theorem rO{Y:oC}{L:Nm→Value}{I:Nat→Prop}{a:Act}{w:World}{n:Nm}{el:Nat}{xs:List Int}(hR:bD Y L I ⟨cY [(0, .c (.own n))],a5 [(n, .arr el (.int .i64) xs)]⟩ a w) (hN:Y.N=1) (hw:Y.w0=w) :
  ∃v,a.tmps=#[v]∧L n=v∧(∃b l c,v = .slice b l c)∧w.ownsRow 0 el 1 v xs.length (xs.map (Value.int .i64))∧(∀b,v.ownBlock=some b→b<w.heap.size∧¬I b∧∀o,Y.E b o)∧∀b,I b→b<w.heap.size:=by
 have hsz:a.tmps.size=1:=hR.size.trans hN
 have hu0:=hR.slot 0
 obtain⟨sa,sl,sc,e0,e0'⟩:∃a' l c,a.tmps.getD 0 undef = .slice a' l c∧L n=a.tmps.getD 0 undef:=hu0
 have hob:(a5 [(n,Ob.arr el (.int .i64) xs)]) n=some (.arr el (.int .i64) xs):=by
  grind [Nm.eqb,bx,cY,a5]
 obtain⟨vs,hown,hf⟩:∃vs,w.ownsRow 0 el 1 (L n) xs.length vs∧bz I w (.int .i64) xs vs:=hR.obj n _ hob
 rw[e0']at hown
 rw[mq.1 hf]at hown
 have hfp:∀b,(a.tmps.getD 0 undef).ownBlock=some b→b<w.heap.size∧¬I b∧∀o,Y.E b o:=fun b hb=>by
  have h0:=fun o=>hR.own n _ hob b o (show(L n).ownBlock=some b by rw[e0'];exact hb)
  exact⟨(h0 0).1,(h0 0).2.1,fun o=>(h0 o).2.2 (by rw[hw];exact(h0 0).1)⟩
 have htm:a.tmps=#[a.tmps.getD 0 undef]:=by
  refine Array.ext (by simp[hsz]) fun i hi _=>?_
  obtain rfl:i=0:=by omega
  rw[Array.getD_eq_getD_getElem?,Array.getElem?_eq_getElem hi];rfl
 exact⟨_,htm,e0',⟨_,_,_,e0⟩,hown,hfp,fun b hb=>(hR.imm b hb).1⟩
theorem n5{n m:Nm}{ob ob':Ob}(hq:a5 [(n,ob)] m=some ob'):m=n∧ob'=ob:=by
 grind [Nm.eqb,bx,a5]
def tR (el:Nat) (g:List Int→Option (List Int)):ag:={ pars:=[.c (.b el (.int .i64))],gh:=[],nb:=[],res:=[],g:=g }
theorem Bz{P:Program}{K:eN}{f:FuncId}{el:Nat}{g:List Int→Option (List Int)}
  (h:∀(w:World) (v:Value) (xs r:List Int),g xs=some r→K.ok w→w.ownsRow 0 el 1 v xs.length (xs.map (Value.int .i64)) →
   Calls P f #[v] w fun e w'=>e = .returned (.tuple #[])∧w'.ownsRow 0 el 1 v r.length (r.map (Value.int .i64))∧bT (fun b _=>v.ownBlock=some b) w w') :
  jo P K f (tR el g):=by
 intro Y L I a w xs r hx hR hK hY hw
 have hm0:dO (aF 0 (tR el g).pars) xs=⟨cY [(0, .c (.own [0,0,99]))],a5 [([0,0,99], .arr el (.int .i64) xs)]⟩:=by
  rfl
 rw[hm0]at hR
 obtain⟨v,htm,hL,hsl,hown,hfp,hI⟩:=rO hR hY hw
 subst hK
 rw[show first (ag.real (tR el g)) a.tmps=a.tmps from kZ (by rw[htm];exact Nat.le_refl _),htm]
 refine(h w v xs r hx hR.glob.1 hown).mono fun e w' hp=>?_
 obtain⟨rfl,hown',hst⟩:=hp
 have hsame:∀b,I b→w'.heap[b]?=w.heap[b]?:=fun b hb=>hst.same (hI b hb) (fun _ q=>(hfp b q).2.1 hb)
 have hmk:dO (ag.ens (tR el g)) r=⟨cY [(0, .c (.own [0,0,99]))],a5 [([0,0,99], .arr el (.int .i64) r)]⟩:=by
  rfl
 refine⟨_,L,I,⟨#[v],[]⟩,rfl,?_,fun n hn=>rfl,rfl⟩
 rw[hmk]
 refine⟨rfl,rfl,fun i hi=>?_,fun i hi=>?_,fun n ob hob=>?_,fun n m ob ob' h1 h2 b o q1 q2=>?_,fun n ob hob b o hq=>?_,fun b hb=>?_,hR.sub,?_,?_,hR.glob.2⟩
 ·have hi:i<1:=hi
  match i,hi with
  |0,_ =>
   obtain⟨sa,l,c,e⟩:=hsl
   exact⟨sa,l,c,e,hL⟩
 ·have hi:1≤i:=hi
  match i,hi with
  |i+1,_=>rfl
 ·obtain⟨rfl,rfl⟩:=n5 hob
  exact⟨_,hL▸hown',mq.2 rfl⟩
 ·exact(n5 h1).1.trans (n5 h2).1.symm
 ·obtain⟨rfl,rfl⟩:=n5 hob
  have hq:v.ownBlock=some b:=hL▸(show(L [0,0,99]).ownBlock=some b from hq)
  obtain⟨k1,k2,k3⟩:=hfp b hq
  exact⟨Nat.lt_of_lt_of_le k1 hst.size,k2,fun _=>k3 o⟩
 ·obtain⟨k1,k2⟩:=hR.imm b hb
  exact⟨Nat.lt_of_lt_of_le k1 hst.size,k2⟩
 ·rw[show({ Y with N:=_ }:oC).w0=w from hw]
  exact hst.mono fun b o q=>(hfp b q).2.2 o
 ·exact Y.K.keep w w' hR.glob.1 fun b hb=>⟨hI b (hR.glob.2 b hb),hsame b (hR.glob.2 b hb)⟩
def t5 (el:Nat) (g:List Int→Option (List Int)):ag:={ pars:=[.c (.o el (.int .i64))],gh:=[],nb:=[],res:=[(false,[.o el (.int .i64)])],g:=g }
theorem BA{P:Program}{K:eN}{f:FuncId}{el:Nat}{g:List Int→Option (List Int)}
  (h:∀(w:World) (v:Value) (xs r:List Int),g xs=some r→K.ok w→w.ownsRow 0 el 1 v xs.length (xs.map (Value.int .i64)) →
   Calls P f #[v] w fun e w'=>∃v',e = .returned v'∧w'.ownsRow 0 el 1 v' r.length (r.map (Value.int .i64))∧bT (fun b _=>v.ownBlock=some b) w w'∧∀b,v'.ownBlock=some b→v.ownBlock=some b∨w.heap.size≤b) :
  jo P K f (t5 el g):=by
 intro Y L I a w xs r hx hR hK hY hw
 have hm0:dO (aF 0 (t5 el g).pars) xs=⟨cY [(0, .c (.own [0,0]))],a5 [([0,0], .arr el (.int .i64) xs)]⟩:=by
  rfl
 rw[hm0]at hR
 obtain⟨v,htm,hL,hsl0,hown,hfp,hI⟩:=rO hR hY hw
 subst hK
 rw[show first (ag.real (t5 el g)) a.tmps=a.tmps from kZ (by rw[htm];exact Nat.le_refl _),htm]
 refine(h w v xs r hx hR.glob.1 hown).mono fun e w' hp=>?_
 obtain⟨v',rfl,hown',hst,hblk⟩:=hp
 have hsame:∀b,I b→w'.heap[b]?=w.heap[b]?:=fun b hb=>hst.same (hI b hb) (fun _ q=>(hfp b q).2.1 hb)
 have hsl:=Bv hown'
 have hmk:dO (ag.ens (t5 el g)) r=⟨cY [(1, .c (.own [1,0]))],a5 [([1,0], .arr el (.int .i64) r)]⟩:=by
  rfl
 refine⟨_,fun n=>bif Nm.eqb n [1,0]then v' else L n,I,⟨#[v,v'],[]⟩,rfl,?_,fun n hn=>?_,rfl⟩
 ·rw[hmk]
  refine⟨rfl,rfl,fun i hi=>?_,fun i hi=>?_,fun n ob hob=>?_,fun n m ob ob' h1 h2 b o q1 q2=>?_,fun n ob hob b o hq=>?_,fun b hb=>?_,hR.sub,?_,?_,hR.glob.2⟩
  ·have hi:i<2:=hi
   match i,hi with
   |0,_=>trivial
   |1,_ =>
    obtain⟨sa,l,c,e⟩:=hsl
    exact⟨sa,l,c,e,rfl⟩
  ·have hi:2≤i:=hi
   match i,hi with
   |i+2,_=>rfl
  ·obtain⟨rfl,rfl⟩:=n5 hob
   exact⟨_,hown',mq.2 rfl⟩
  ·exact(n5 h1).1.trans (n5 h2).1.symm
  ·obtain⟨rfl,rfl⟩:=n5 hob
   have hq:v'.ownBlock=some b:=hq
   have hlt:=hown'.lt b hq
   rcases hblk b hq with q|q
   ·obtain⟨k1,k2,k3⟩:=hfp b q
    exact⟨hlt.2,k2,fun _=>k3 o⟩
   ·refine⟨hlt.2,fun p=>?_,fun p=>?_⟩
    ·have:=hI b p
     omega
    ·exfalso
     have p:b<Y.w0.heap.size:=p
     rw[hw]at p
     omega
  ·obtain⟨k1,k2⟩:=hR.imm b hb
   exact⟨Nat.lt_of_lt_of_le k1 hst.size,k2⟩
  ·rw[show({ Y with N:=_ }:oC).w0=w from hw]
   exact hst.mono fun b o q=>(hfp b q).2.2 o
  ·exact Y.K.keep w w' hR.glob.1 fun b hb=>⟨hI b (hR.glob.2 b hb),hsame b (hR.glob.2 b hb)⟩
 ·show(bif Nm.eqb n [1,0]then v' else L n)=L n
  have hne:Nm.eqb n [1,0]=false:=by
   rw[a0]
   intro e
   subst e
   cases hn
  rw[hne];rfl
def C8:Value→Value
 | .slice a n _ => .slice a n n
 |v=>v
def yI (el:Nat) (g:List Int→Option (List Int)):ag:={ pars:=[.c (.o el (.int .i64))],gh:=[],nb:=[],res:=[(false,[.i (.sl (.int .i64))])],g:=g }
theorem BB{P:Program}{K:eN}{f:FuncId}{el:Nat}{g:List Int→Option (List Int)}
  (h:∀(w:World) (v:Value) (xs r:List Int),g xs=some r→K.ok w→w.ownsRow 0 el 1 v xs.length (xs.map (Value.int .i64)) →
   r=xs∧Calls P f #[v] w fun e w'=>e = .returned (C8 v)∧w'=w) :
  jo P K f (yI el g):=by
 intro Y L I a w xs r hx hR hK hY hw
 have hm0:dO (aF 0 (yI el g).pars) xs=⟨cY [(0, .c (.own [0,0]))],a5 [([0,0], .arr el (.int .i64) xs)]⟩:=by
  rfl
 rw[hm0]at hR
 obtain⟨v,htm,hL,hsl0,hown,hfp,hI⟩:=rO hR hY hw
 subst hK
 rw[show first (ag.real (yI el g)) a.tmps=a.tmps from kZ (by rw[htm];exact Nat.le_refl _),htm]
 obtain⟨rfl,h⟩:=h w v xs r hx hR.glob.1 hown
 refine h.mono fun e w' hp=>?_
 obtain⟨rfl,rfl⟩:=hp
 refine⟨_,L,fun b=>I b∨v.ownBlock=some b,⟨#[v,C8 v],[]⟩,rfl,?_,fun n hn=>rfl,rfl⟩
 refine⟨rfl,rfl,fun i hi=>?_,fun i hi=>?_,fun n ob hob=>(by cases hob),fun n m ob ob' h1=>(by cases h1),fun n ob hob=>(by cases hob),fun b hb=>?_,fun b hb => .inl (hR.sub b hb),hR.step,hR.glob.1,fun b hb => .inl (hR.glob.2 b hb)⟩
 ·have hi:i<2:=hi
  match i,hi with
  |0,_=>trivial
  |1,_ =>
   show cL _ w' (.sl (.int .i64)) r [C8 v]
   have hfr:bz (fun b=>I b∨v.ownBlock=some b) w' (.int .i64) r (r.map (Value.int .i64)):=mq.2 rfl
   obtain⟨css,h1,h2⟩:=hfr
   rcases hown.2 with⟨e,hn⟩|⟨g,cap,cur,e,_,hg,hnc,hcm,hcs,hrow⟩
   ·subst e
    obtain rfl:=List.eq_nil_of_length_eq_zero hn
    exact⟨none,0,css,rfl,Nat.le_refl _,h1, .inl rfl⟩
   ·subst e
    refine⟨some ⟨g,0,none⟩,r.length,css,rfl,Nat.le_refl _,h1, .inr ⟨g,0,rfl, .inr rfl,fun j u hj=>?_⟩⟩
    rw[←h2, ←hrow,List.getElem?_take]at hj
    split at hj
    ·simp only[World.cell?,hg,Nat.zero_add]
     rw[←hj,Array.getElem?_toList];rfl
    ·cases hj
 ·have hi:2≤i:=hi
  match i,hi with
  |i+2,_=>rfl
 ·rcases hb with hb|hb
  ·exact hR.imm b hb
  ·obtain⟨k1,k2,k3⟩:=hfp b hb
   exact⟨k1, .inr (.inr k3)⟩
end AM
end Go.Proofs.YtcflmfpnmjlhdaaGreatDoor
