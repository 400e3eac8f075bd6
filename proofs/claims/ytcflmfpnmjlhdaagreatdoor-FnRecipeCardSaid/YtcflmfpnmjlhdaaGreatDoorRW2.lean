/- Appends, and stores, appends and cuts all together. Under: the table of types tells the program's types. And what follows it: see the remarks. -/
import Derived.Test.YtcflmfpnmjlhdaaGreatDoorRW1
import Derived.LoopN
import Derived.Orders
namespace Go.Proofs.YtcflmfpnmjlhdaaGreatDoor
namespace AM
open Go
set_option linter.unusedVariables false
set_option linter.unusedSimpArgs false
section
variable{P:Program} {τ:jx}{X:oC}{L:Nm→Value}{I:Nat→Prop}{s:St}{a:Act}{w:World}
def KQ (X:oC) (L:Nm→Value) (I:Nat→Prop) (s:St) (w:World) (u:Value):Prop :=
 ∀b,u.ownBlock=some b→b<w.heap.size∧¬I b∧(∀o,b<X.w0.heap.size→X.E b o)∧∀m ob,s.o m=some ob→∀o,¬fp L m ob b o
theorem nu{q el:TypeId}{ty:TypeId}{te:TI}(hu:P.underlying q=some (.slice el)) (hs:∀w,(sizeOf el).run P w = .ok te.size w)
  (base:Option Addr) (n cap:Nat) (hn:n≤cap) (ad:Option Addr) (c:Nat) :
  (Builtin.append_ #[q,q] ty #[.slice base n cap, .slice ad 0 c]).run P w = .ok (.slice base n cap) w:=by
 have h0:(Builtin.firstCells te.size 0 (.slice ad 0 c)).run P w = .ok #[] w:=by
  cases ad<;>simp[Builtin.firstCells,Go.loadCells,loadCellsFrom]
 cases base<;>simp[Builtin.append_,run_underlying hu,hs,Builtin.lenOf,hn,h0,Result.andThen,storeCells]
theorem vy (h:bD X L I s a w){nm:Nm}{q el ty:TypeId}{te:TI}{t:Ty}{xs ys:List t.den}{vs news:List Value}{u:Value}{ad:Option Addr}{c:Nat}
  (hu:P.underlying q=some (.slice el)) (hte:tQ P el te) (hty:te.ty=some t) (hby:te.bytes≤4096) (hown:w.ownsRow 0 el t.sz u xs.length vs) (hf:bz I w t xs vs) (free:KQ X L I s w u)
  (hys:bz I w t ys news) (hc:ys=[]∨∃b off,ad=some ⟨b,off,none⟩∧Cells w b off news) (hroom:xs.length+ys.length≤4294967296) :
  ∃u' w',(Builtin.append_ #[q,q] ty #[u, .slice ad ys.length c]).run P w = .ok u' w'∧bD X (upd L nm u') I ((s.drop nm).setO nm (.arr el t (xs++ys))) a w'∧∃x l y,u' = .slice x l y:=by
 obtain⟨i,i1,i2,i3,i4⟩:=hte.info
 obtain⟨hsz,z,z1,z2⟩:=i4 t hty
 have hsi:i.size=t.sz:=by rw[i2,hsz]
 have hpos:=t.sz_pos
 have hzl:z.cells.size=t.sz:=by rw[z2];simpa using cL.len (I:=I) (w:=w) t (jp t)
 have hnl:news.length=ys.length*t.sz:=hys.len
 have hvl:vs.length=xs.length*t.sz:=hown.1
 have hbytes:(xs.length+ys.length)*i.bytes≤140737488355328:=by
  have:(xs.length+ys.length)*i.bytes≤4294967296*4096:=Nat.mul_le_mul hroom (by omega)
  omega
 have hcat:(vs++news).length=(xs.length+ys.length)*t.sz:=by grind
 rcases hc with rfl|⟨b,off,rfl,hc⟩
 ·-- nothing to append
  have hn0:news=[]:=List.eq_nil_of_length_eq_zero (by simpa using hnl)
  subst hn0
  have hslice:∃x l y,u = .slice x l y∧l=xs.length∧l≤y:=by
   rcases hown.2 with⟨rfl,h0⟩|⟨g,cap,cur,rfl,_,_,h5,_⟩
   ·grind
   ·grind
  obtain⟨x,l,y,rfl,rfl,hly⟩:=hslice
  refine⟨_,w,nu hu hte.sizeOf x _ y hly ad c,?_,_,_,_,rfl⟩
  simp only[List.append_nil]
  refine h.add nm _ _ ⟨vs,by rw[ct];exact hown,hf⟩ fun b o e=>?_
  have e:(upd L nm (.slice x xs.length y) nm).ownBlock=some b:=e
  rw[ct]at e
  obtain⟨f1,f2,f3,f4⟩:=free b e
  exact⟨f1,f2,f3 o,fun m ob _ em=>f4 m ob em o⟩
 ·by_cases hy0:ys.length=0
  ·-- an empty list with an address: as above
   have:ys=[]:=List.length_eq_zero_iff.1 hy0
   subst this
   have hn0:news=[]:=List.eq_nil_of_length_eq_zero (by simpa using hnl)
   subst hn0
   have hslice:∃x l y,u = .slice x l y∧l=xs.length∧l≤y:=by
    rcases hown.2 with⟨rfl,h0⟩|⟨g,cap,cur,rfl,_,_,h5,_⟩
    ·grind
    ·grind
   obtain⟨x,l,y,rfl,rfl,hly⟩:=hslice
   refine⟨_,w,nu hu hte.sizeOf x _ y hly _ c,?_,_,_,_,rfl⟩
   simp only[List.append_nil]
   refine h.add nm _ _ ⟨vs,by rw[ct];exact hown,hf⟩ fun b o e=>?_
   have e:(upd L nm (.slice x xs.length y) nm).ownBlock=some b:=e
   rw[ct]at e
   obtain⟨f1,f2,f3,f4⟩:=free b e
   exact⟨f1,f2,f3 o,fun m ob _ em=>f4 m ob em o⟩
  ·have hcell:∀j v,news[j]?=some v→w.cell? ((⟨b,off,none⟩:Addr).add j)=some v:=fun j v hv=>by rw[Addr.add_lit];exact hc j v hv
   have fresh:∀(old:Nat) (cells:Array Value),cells.size=grownCap w (xs.length+ys.length) old el*t.sz→cells.toList.take ((xs.length+ys.length)*t.sz)=vs++news →
     bD X (upd L nm (.slice (some ⟨w.heap.size,0,none⟩) (xs.length+ys.length) (grownCap w (xs.length+ys.length) old el))) I ((s.drop nm).setO nm (.arr el t (xs++ys))) a (w.drew.alloc (.cells cells el)):=by
    intro old cells h1 h2
    have hs:bT (fun _ _=>False) w (w.drew.alloc (.cells cells el)):=(bT.drew _ w).trans (bT.alloc _ w.drew _) (fun _ _ (q:False) _=>q.elim)
    have hI:jk I w (w.drew.alloc (.cells cells el)):=fun b hb=>hs.same (h.imm b hb).1 (fun _ q=>q)
    refine h.new hs nm _ _ ⟨vs++news,⟨by rw[List.length_append (as:=xs)];exact hcat, .inr ⟨w.heap.size,_,cells,by rw[ct,List.length_append],Nat.zero_le _,qZ w.drew _,?_,?_,h1,?_⟩⟩,(hf.append hys).mono (fun _ q=>q) hI⟩ ?_
    ·rw[List.length_append];exact grownCap_ge w _ old el
    ·exact grownCap_le_maxLen w _ old el (by unfold maxLen;omega)
    ·rw[List.length_append];exact h2
    ·intro b o e
     have e:(upd L nm (.slice (some ⟨w.heap.size,0,none⟩) (xs.length+ys.length) (grownCap w (xs.length+ys.length) old el)) nm).ownBlock=some b:=e
     rw[ct]at e
     have:w.heap.size=b:=Option.some.inj e
     have h3:(w.drew.alloc (.cells cells el)).heap.size=w.heap.size+1:=jT w.drew _
     omega
   have zsize:∀k,(Builtin.zeroCells z.cells k).size=k*t.sz:=fun k=>by rw[size_zeroCells,hzl]
   have hcells:∀old,((vs.toArray++news.toArray++Builtin.zeroCells z.cells (grownCap w (xs.length+ys.length) old el-(xs.length+ys.length))).size=grownCap w (xs.length+ys.length) old el*t.sz) ∧
     (vs.toArray++news.toArray++Builtin.zeroCells z.cells (grownCap w (xs.length+ys.length) old el-(xs.length+ys.length))).toList.take ((xs.length+ys.length)*t.sz)=vs++news:=by
    intro old
    have hge:=grownCap_ge w (xs.length+ys.length) old el
    constructor
    ·simp only[Array.size_append,List.size_toArray,zsize,hvl,hnl, ←Nat.add_mul]
     congr 1
     omega
    ·simp only[Array.toList_append]
     rw[←hcat]
     exact List.take_left
   rcases hown.2 with⟨rfl,h0⟩|⟨g,cap,cur,rfl,_,hg,hnc,hcm,hcs,htake⟩
   ·have hx:xs=[]:=List.length_eq_zero_iff.1 h0
    subst hx
    have hv0:vs=[]:=List.eq_nil_of_length_eq_zero (by simpa using hvl)
    subst hv0
    have hr:=run_append_nil (P:=P) w q ty el i z hu i1 z1 ⟨b,off,none⟩ ys.length c news (by rw[hsi];exact hnl) hcell (by omega) (by omega) (by
     simp only[List.length_nil,Nat.zero_add]at hbytes;omega)
    have hf2:=fresh 0 _ (hcells 0).1 (hcells 0).2
    simp only[List.length_nil,Nat.zero_add,List.nil_append,Array.empty_append]at hf2 ⊢
    exact⟨_,_,hr,hf2,_,_,_,rfl⟩
   ·by_cases hfit:xs.length+ys.length≤cap
    ·have hlen:xs.length*i.size+news.length≤cur.size:=by rw[hsi,hnl,hcs, ←Nat.add_mul];exact Nat.mul_le_mul_right _ hfit
     have hr:=run_append_room (P:=P) w q ty el i hu i1 g xs.length cap cur hg ⟨b,off,none⟩ ys.length c news (by rw[hsi];exact hnl) hcell (bz.one hys) hfit hlen
     refine⟨_,_,hr,?_,_,_,_,rfl⟩
     have hst:=nO hg hlen
     obtain⟨f1,f2,f3,f4⟩:=free g rfl
     have hw:=h.world hst (fun b' j hb' q=>f2 (q.1▸hb')) (fun m ob em b' o q r=>f4 m ob em o (r.1▸q)) (fun b' j q hb'=>by rw[q.1]at hb' ⊢;exact f3 j hb')
     have hI:jk I w (w.setRow g (cur.toList.take (xs.length*i.size)++news++cur.toList.drop (xs.length*i.size+news.length)).toArray):=fun b' hb' =>
      hst.same (h.imm b' hb').1 (fun j q=>f2 (q.1▸hb'))
     refine hw.add nm _ _ ⟨vs++news,⟨by rw[List.length_append (as:=xs)];exact hcat, .inr ⟨g,cap,_,by rw[ct,List.length_append],Nat.zero_le _,setRow_heap w g cur _ el (0,0) hg,by rw[List.length_append];exact hfit,hcm,?_,?_⟩⟩,(hf.append hys).mono (fun _ q=>q) hI⟩ ?_
     ·rw[←hcs];simp;omega
     ·rw[List.length_append]
      simp only[hsi,List.toList_toArray]
      rw[htake, ←hcat]
      exact List.take_left
     ·intro b' o e
      have e:(upd L nm (.slice (some ⟨g,0,none⟩) (xs.length+ys.length) cap) nm).ownBlock=some b':=e
      rw[ct]at e
      have:g=b':=Option.some.inj e
      subst this
      exact⟨Nat.lt_of_lt_of_le f1 hst.size,f2,f3 o,fun m ob _ em=>f4 m ob em o⟩
    ·have holds:∀j v,vs[j]?=some v→w.cell? ((⟨g,0,none⟩:Addr).add j)=some v:=hown.cells (g:=g) rfl
     have hr:=run_append_grow (P:=P) w q ty el i z hu i1 z1 ⟨g,0,none⟩ xs.length cap vs (by rw[hsi];exact hvl) holds ⟨b,off,none⟩ ys.length c news (by rw[hsi];exact hnl) hcell (by omega) (by omega) (growslice_fits (by omega) hbytes)
     exact⟨_,_,hr,fresh cap _ (hcells cap).1 (hcells cap).2,_,_,_,rfl⟩
theorem Ie{e:Nat}{t:Ty}{ys:List t.den}{vs:List Value}{u:Value}(h1:w.ownsRow 0 e t.sz u ys.length vs) (h2:bz I w t ys vs) :
  ∃ad c,u = .slice ad ys.length c∧(ys=[]∨∃b off,ad=some ⟨b,off,none⟩∧Cells w b off vs):=by
 rcases h1.2 with⟨rfl,h0⟩|⟨g,cap,cur,rfl,_,hg,_,_,_,ht⟩
 ·exact⟨none,0,by rw[h0], .inl (List.length_eq_zero_iff.1 h0)⟩
 ·refine⟨_,_,rfl, .inr ⟨g,0,rfl,fun j v hv=>?_⟩⟩
  rw[←ht,List.getElem?_take]at hv
  split at hv
  ·rw[Nat.zero_add]
   simp only[World.cell?,hg]
   simpa using hv
  ·cases hv
theorem qz (h:bD X L I s a w){t:Ty}{y:CV}{ys:List t.den}{u:Value}(e:source s.o t y=some ys) (r:RC L I w (AL s.o) y u) :
  ∃ad c news,u = .slice ad ys.length c∧bz I w t ys news∧(ys=[]∨∃b off,ad=some ⟨b,off,none⟩∧Cells w b off news):=by
 have plain:∀{y:CV},y.as (.sl t)=some ys→RC L I w (AL s.o) y u→∃ad c news,u = .slice ad ys.length c∧bz I w t ys news∧(ys=[]∨∃b off,ad=some ⟨b,off,none⟩∧Cells w b off news):=by
  intro y e r
  obtain⟨ad,c,css,e1,_,h1,h2⟩:=kc e r
  refine⟨ad,c,css.flatten,List.head_eq_of_cons_eq e1,⟨css,h1,rfl⟩,?_⟩
  rcases h2 with h2|⟨b,off,e2,_,h2⟩
  ·simp_all
  ·grind
 cases y with
 |own m =>
  simp only[source]at e
  split at e
  ·rename_i q v zs em
   split at e
   ·rename_i hq eq
    obtain rfl:=Option.some.inj e
    subst hq
    obtain⟨vs,g1,g2⟩:=h.obj m _ em
    obtain⟨_,_,_,_,r⟩:=r
    obtain⟨ad,c,e1,e2⟩:=Ie g1 g2
    exact⟨ad,c,vs,r▸e1,g2,e2⟩
   ·cases e
  ·cases e
 |v q x=>exact plain (by simpa only[source]using e) r
 |nil=>exact plain (by simpa only[source]using e) r
 |pb n i=>exact plain (by simpa only[source]using e) r
 |pa n sz i j=>exact plain (by simpa only[source]using e) r
 |pe q x i=>exact plain (by simpa only[source]using e) r
 |clo f x=>exact plain (by simpa only[source]using e) r
 |mp x=>exact plain (by simpa only[source]using e) r
 |hd x=>exact plain (by simpa only[source]using e) r
 |er x=>exact plain (by simpa only[source]using e) r
 |raw x=>exact plain (by simpa only[source]using e) r
 |dead=>exact plain (by simpa only[source]using e) r
theorem El (h:bD X L I s a w){n:Nm}{k e:Nat}{t:Ty}{xs:List t.den}(en:s.o n=some (.arr e t xs)):KQ X L I (s.past n k) w (L n):=by
 intro b hb
 have fpn:∀o,fp L n (.arr e t xs) b o:=fun o=>hb
 obtain⟨h1,h2,_⟩:=h.own n _ en b 0 (fpn 0)
 refine⟨h1,h2,fun o=>(h.own n _ en b o (fpn o)).2.2,fun m ob em o q=>?_⟩
 obtain⟨hm,ob',e',rfl⟩:=uB em
 exact hm (h.sep m n ob' _ e' en b o (tX.1 q) (fpn o))
theorem If{e sz n:Nat}{u:Value}{vs:List Value}(h:w.ownsRow 0 e sz u n vs):∀a l c,u = .slice a l c→l=n:=by
 intro a l c hu
 rcases h.2 with⟨h1,h0⟩|⟨g,cap,cur,h1,_⟩
 ·simp_all
 ·simp_all
theorem Gd:KQ X L I s w (.slice none 0 0):=fun b hb=>by cases hb
def vL (P:Program) (X:oC) (L:Nm→Value) (o:Oper) (a:Act) (w:World) (s':St):Prop :=
 ∃nx w' L' I',(execOp a.eval o).run P w = .ok nx w'∧(∀m,f6 m=true→L' m=L m)∧((∃u,nx = .value u∧bD X L' I' s' (a.put o.dst u) w')∨(nx = .skip∧bD X L' I' s' (a.put o.dst undef) w'))
theorem Dn (h:bD X L I s a w) (hτ:cV P τ){o:Oper}{t:Nat}{x y:Operand}(ho:o.op = .store t x y) (hd:∀d,o.dst=some d→d<X.N){s':St}
  (e:lE τ (.store t x y) o.dst s=some (true,s')):vL P X L o a w s':=by
 simp only[lE]at e
 split at e
 ·rename_i ti p new e1 e2 e3
  cases k:(Nat.beq new.length ti.size&&new.all CV.fine)with
  |false=>rw[k]at e;cases e
  |true =>
   rw[k]at e
   simp only[cond_true]at e
   rw[Bool.and_eq_true]at k
   split at e
   ·rename_i nm ob e4
    obtain⟨_,rfl⟩:=Prod.mk.inj (Option.some.inj e)
    have rx:=h.ev x
    rw[e2]at rx
    have rv:=lZ e3 (h.ev y)
    have hlen:(a.eval y).cells.size=ti.size:=by
     have:=rv.len
     rw[←Nat.eq_of_beq_eq_true k.1,this];simp
    refine(?_:∃ad w',a.eval x = .pointer (some ad)∧(storeCells ad (a.eval y).cells.toList).run P w = .ok () w'∧bD X L I (s.setO nm ob) a w').elim ?_
    ·cases p with
     |pb n off =>
      simp only[mG]at e4
      split at e4
      ·rename_i cs en
       cases k2:Nat.ble (off+new.length) cs.length with
       |false=>rw[k2]at e4;cases e4
       |true =>
        rw[k2]at e4
        obtain⟨rfl,rfl⟩:=Prod.mk.inj (Option.some.inj e4)
        exact Dy h en rx (Nat.le_of_ble_eq_true k2) rv k.2
      ·cases e4
     |pa n sz i j =>
      simp only[mG]at e4
      split at e4
      ·rename_i el q xs en
       cases k2:Nat.ble (j+new.length) q.sz with
       |false=>rw[k2]at e4;cases e4
       |true =>
        rw[k2]at e4
        simp only[cond_true]at e4
        split at e4
        ·rename_i z e5
         obtain⟨rfl,rfl⟩:=Prod.mk.inj (Option.some.inj e4)
         exact Dz h en rx (Nat.le_of_ble_eq_true k2) e5 rv k.2
        ·cases e4
      ·cases e4
     |_=>cases e4
    ·rintro ad ⟨w',g1,g2,g3⟩
     refine⟨.skip,w',L,I,?_,fun _ _=>rfl, .inr ⟨rfl,g3.put o.dst hd (v := .c .dead) trivial⟩⟩
     have hn:¬(a.eval y).cells.size≠ti.size:=fun q=>q hlen
     simp[execOp,ho,Instr.storeAt,Instr.sureAddr,g1,storeVar,(hτ t ti e1).sizeOf,hn,if_pos hlen,g2,Result.andThen]
   ·cases e
 ·cases e
theorem A5 (h:bD X L I s a w) (hτ:cV P τ){o:Oper}{xs:Array Operand}{ts:Array TypeId}(ho:o.op = .call { callee := .builtin .append,args:=xs,argTypes:=ts }) (hd:∀d,o.dst=some d→d<X.N){s':St}
  (e:lE τ (.call { callee := .builtin .append,args:=xs,argTypes:=ts }) o.dst s=some (true,s')):vL P X L o a w s':=by
 simp only[lE]at e
 split at e
 ·rename_i d x y at_ bt_ e1 e2 e3
  split at e
  ·rename_i ti e4
   cases k:(Nat.beq ti.kind 3&&Nat.beq at_ bt_)with
   |false=>rw[k]at e;cases e
   |true =>
    rw[k]at e
    simp only[cond_true]at e
    rw[Bool.and_eq_true]at k
    split at e
    ·rename_i te e5
     split at e
     ·rename_i ty e6
      cases k2:Nat.ble te.bytes 4096 with
      |false=>rw[k2]at e;cases e
      |true =>
       rw[k2]at e
       simp only[cond_true]at e
       have hk:=Nat.le_of_ble_eq_true k2
       have hu:=(hτ at_ ti e4).slice (Nat.eq_of_beq_eq_true k.1)
       have hte:=hτ _ te e5
       obtain⟨p,q,rfl,f1,f2⟩:=ym e2
       have hts:ts=#[at_,at_]:=by
        obtain⟨l⟩:=ts
        obtain rfl:l=[at_,bt_]:=e3
        rw[←Nat.eq_of_beq_eq_true k.2]
       subst hts
       have rp:=h.ev p
       have rq:=h.ev q
       rw[f1]at rp
       rw[f2]at rq
       have hd':d<X.N:=hd d e1
       have fin:∀{u':Value}{w':World}{u2:Value}{s'':St},(Builtin.append_ #[at_,at_] o.type #[a.eval p,a.eval q]).run P w = .ok u' w'→bD X (upd L [d,0] u2) I s'' a w'→RA (upd L [d,0] u2) I w' (AL s''.o) (.c (.own [d,0])) u' →
         vL P X L o a w (s''.put o.dst (.c (.own [d,0]))):=by
        intro u' w' u2 s'' hr hR hA
        refine⟨.value u',w',_,I,?_,fun m hm=>nN L u2 (fun q=>by rw[q]at hm;cases hm), .inl ⟨u',rfl,hR.put o.dst hd hA⟩⟩
        simp[execOp,ho,resolve,invoke,builtin,hr,Result.andThen]
       split at e
       ·rename_i n
        split at e
        ·rename_i el t zs en
         cases k3:Nat.beq el ti.el with
         |false=>rw[k3]at e;cases e
         |true =>
          rw[k3]at e
          simp only[cond_true]at e
          have hel:=Nat.eq_of_beq_eq_true k3
          subst hel
          split at e
          ·rename_i hq eq
           subst hq
           split at e
           ·rename_i ys e7
            obtain⟨hc,rfl⟩:=Prod.mk.inj (Option.some.inj e)
            obtain⟨ad,c,news,g1,g2,g3⟩:=qz h e7 rq
            obtain⟨vs,g4,g5⟩:=h.obj n _ en
            obtain⟨_,_,_,_,rp⟩:=rp
            obtain⟨u',w',h1,h2,x',l',y',h3⟩:=vy (P:=P) (h.past n (If g4)) (nm:=[d,0]) (ty:=o.type) hu hte e6 hk g4 g5 (El h en) g2 g3 (of_decide_eq_true hc)
            rw[←g1,rp]at h1
            exact fin h1 h2 ⟨x',l',y',h3,ct _ _ _⟩
           ·cases e
          ·cases e
        ·cases e
       ·split at e
        ·rename_i ys e7
         obtain⟨hc,rfl⟩:=Prod.mk.inj (Option.some.inj e)
         obtain⟨ad,c,news,g1,g2,g3⟩:=qz h e7 rq
         obtain⟨u',w',h1,h2,x',l',y',h3⟩:=vy (P:=P) h (nm:=[d,0]) (ty:=o.type) (xs:=[]) (vs:=[]) hu hte e6 hk (World.ownsRow_nil w 0 ti.el ty.sz) bz.nil Gd g2 g3 (by simpa using of_decide_eq_true hc)
         rw[←g1, ←show a.eval p = .slice none 0 0 from rp]at h1
         exact fin h1 h2 ⟨x',l',y',h3,ct _ _ _⟩
        ·cases e
       ·cases e
     ·cases e
    ·cases e
  ·cases e
 ·cases e
theorem Dp (h:bD X L I s a w) (hτ:cV P τ){o:Oper}{t:Nat}{x:Operand}{lo hi mx:Option Operand}(ho:o.op = .slice t x lo hi mx) (hd:∀d,o.dst=some d→d<X.N){s':St}
  (e:lE τ (.slice t x lo hi mx) o.dst s=some (true,s')):vL P X L o a w s':=by
 cases mx with
 |some m=>simp[lE]at e
 |none =>
 simp only[lE]at e
 split at e
 ·rename_i ti n e1 e2
  cases k:Nat.beq ti.kind 3 with
  |false=>rw[k]at e;cases e
  |true =>
   rw[k]at e
   simp only[cond_true]at e
   split at e
   ·rename_i el ty xs te en e5
    cases k2:Nat.beq te.size ty.sz with
    |false=>rw[k2]at e;cases e
    |true =>
     rw[k2]at e
     simp only[cond_true]at e
     have r:=h.ev x
     rw[e2]at r
     have hk:=Nat.eq_of_beq_eq_true k
     have hsz:=Nat.eq_of_beq_eq_true k2
     obtain⟨_,_,_,_,r⟩:=r
     have fin:∀{u':Value}{I':Nat→Prop}{s'':St}{v:AV},(Instr.sliceAt t (a.eval x) (lo.map a.eval) (hi.map a.eval) none).run P w = .ok u' w→bD X L I' s'' a w→RA L I' w (AL s''.o) v u'→vL P X L o a w (s''.put o.dst v):=by
      intro u' I' s'' v hr hR hA
      refine⟨.value u',w,L,I',?_,fun _ _=>rfl, .inl ⟨u',rfl,hR.put o.dst hd hA⟩⟩
      exact dE (e:=Instr.sliceAt t (a.eval x) (lo.map a.eval) (hi.map a.eval) none) (by simp[execOp,ho]) hr
     obtain⟨I',hI,hR,hr⟩:=h.freeze en
     have hr':=hr
     obtain⟨ad,c,css,e6,hc,_,_⟩:=hr
     have e6:=List.head_eq_of_cons_eq e6
     rw[e6]at hr'
     rw[←r,e6]at fin
     split at e
     ·rename_i e3 e4
      obtain⟨_,rfl⟩:=Prod.mk.inj (Option.some.inj e)
      refine fin (iI hτ e1 hk e5 _ _ ad xs.length c 0 _ (.inl ⟨ip e3,rfl⟩) (.inl ⟨ip e4,rfl⟩) (Int.le_refl _) (by omega) (Int.le_refl _) hc) h ?_
      refine⟨_,_,_,rfl,?_⟩
      rw[e6]
      obtain⟨vs,⟨_,g⟩,_⟩:=h.obj n _ en
      rcases g with⟨g1,g2⟩|⟨g0,cap,cur,g1,_⟩
      ·rw[e6]at g1
       injection g1 with g1 g3 g4
       subst g1;subst g4
       simp[sliced];try omega
      ·rw[e6]at g1
       injection g1 with g1 g3 g4
       subst g1;subst g4
       simp[sliced,Addr.add]
     ·rename_i kl l e3 e4
      obtain⟨hq,rfl⟩:=Prod.mk.inj (Option.some.inj e)
      obtain⟨c1,c2,c3⟩:=kO.1 hq
      refine fin (iI hτ e1 hk e5 _ _ ad xs.length c l _ (.inr (ki h (x:=x) e3)) (.inl ⟨ip e4,rfl⟩) c1 c2 c3 hc) hR ?_
      rw[hsz];exact mL hr' (by omega) (by omega)
     ·rename_i kh q e3 e4
      obtain⟨hq,rfl⟩:=Prod.mk.inj (Option.some.inj e)
      obtain⟨c1,c2,c3⟩:=kO.1 hq
      refine fin (iI hτ e1 hk e5 _ _ ad xs.length c 0 q (.inl ⟨ip e3,rfl⟩) (.inr (ki h (x:=x) e4)) c1 c2 c3 hc) hR ?_
      rw[hsz];exact mL hr' (by omega) (by omega)
     ·rename_i kl l kh q e3 e4
      obtain⟨hq,rfl⟩:=Prod.mk.inj (Option.some.inj e)
      obtain⟨c1,c2,c3⟩:=kO.1 hq
      refine fin (iI hτ e1 hk e5 _ _ ad xs.length c l q (.inr (ki h (x:=x) e3)) (.inr (ki h (x:=x) e4)) c1 c2 c3 hc) hR ?_
      rw[hsz];exact mL hr' (by omega) (by omega)
     ·cases e
   ·cases e
 ·cases e
theorem ox (h:bD X L I s a w){n:Nm}{kt:Ty}{vk:IntKind}{ka:Bool}{kvs:List (kt.den×Int)}(en:s.o n=some (.mp kt (.int vk) ka kvs)){b:Nat}(hL:L n = .map (some b)){es:Array MapEntry}{ck:Nat}(hb:w.heap[b]?=some (.map es ck))
  {kvs':List (kt.den×Int)}{es':Array MapEntry}(hr:gJ kt (.int vk) ka 0 kvs' es'.toList){o:Oper}(hd:∀d,o.dst=some d→d<X.N){nx:Next}(hx:(execOp a.eval o).run P w = .ok nx { w with heap:=w.heap.setIfInBounds b (.map es' es'.size) })
  {v:AV}(hv:(∃u,nx = .value u∧∀L I w A,RA L I w A v u)∨(nx = .skip∧v = .c .dead)):vL P X L o a w ((s.setO n (.mp kt (.int vk) ka kvs')).put o.dst v):=by
 have hR:=h.setMap (vt := .int vk) (kvs:=kvs) (kvs':=kvs') en hL hb hr
 refine⟨nx,_,L,I,hx,fun _ _=>rfl,?_⟩
 rcases hv with⟨u,rfl,hv⟩|⟨rfl,rfl⟩
 ·exact .inl ⟨u,rfl,hR.put o.dst hd (hv _ _ _ _)⟩
 ·exact .inr ⟨rfl,hR.put o.dst hd trivial⟩
theorem Cr{kt:Ty}{vk:IntKind}{ka:Bool}{kvs:List (kt.den×Int)}{es:Array MapEntry}(h:gJ kt (.int vk) ka 0 kvs es.toList){key:kt.den}{u:Value}(hu:pv ka kt key u) (x:Int) :
  (∀i v,bR kt key kvs 0=some (i,v)→∃e,es[i]?=some e∧pv ka kt key e.key∧e.val = .int vk v∧e.born=i∧gJ kt (.int vk) ka 0 (kQ kt key x kvs) (es.modify i fun e=>{ e with key:=u,val := .int vk x }).toList) ∧
  (bR kt key kvs 0=none→gJ kt (.int vk) ka 0 (kQ kt key x kvs) (es.push { key:=u,val := .int vk x,born:=es.size }).toList):=by
 constructor
 ·intro i v hf
  obtain⟨_,h2⟩:=lj hf
  obtain⟨e,h3,h4,h5,h6⟩:=h.get h2
  rw[Nat.sub_zero]at h3
  refine⟨e,by simpa using h3,h4,(List.head_eq_of_cons_eq h5).symm,by omega,?_⟩
  unfold kQ
  rw[hf]
  rw[Array.toList_modify]
  exact h.upd fun e' _=>⟨hu,rfl,rfl⟩
 ·intro hf
  unfold kQ
  rw[hf]
  rw[Array.toList_push]
  exact h.push hu rfl (by simp)
theorem vN (h:bD X L I s a w) (hτ:cV P τ){o:Oper}{t:Nat}{m k x:Operand}(ho:o.op = .mapUpdate t m k x) (hd:∀d,o.dst=some d→d<X.N){s':St}
  (e:lE τ (.mapUpdate t m k x) o.dst s=some (true,s')):vL P X L o a w s':=by
 simp only[lE]at e
 split at e
 ·rename_i ti n vk' y e1 e2 e3
  split at e
  ·rename_i kt vk ka kvs en
   split at e
   ·rename_i key e4
    cases q:(Nat.beq ti.kind 9&&(decide (vk'=vk)&&pE τ ti.ky kt ka))with
    |false=>rw[q]at e;cases e
    |true =>
     rw[q]at e
     obtain⟨_,rfl⟩:=Prod.mk.inj (Option.some.inj e)
     simp only[Bool.and_eq_true]at q
     obtain⟨q1,q2,q3⟩:=q
     have q2:=of_decide_eq_true q2
     subst q2
     have hk:=sf hτ q3
     have rm:=h.ev m
     rw[e2]at rm
     obtain⟨b,es,g1,gL,g2,g3⟩:=oR h en rm
     have hkv:=yp hk.flat e4 (h.ev k)
     have rx:=h.ev x
     rw[e3]at rx
     have hu:=(hτ t ti e1).map (Nat.eq_of_beq_eq_true q1)
     obtain⟨p1,p2⟩:=Cr g3 hkv y
     cases hf:bR kt key kvs 0 with
     |some p =>
      obtain⟨i,v⟩:=p
      obtain⟨e0,z1,z2,z3,z4,z5⟩:=p1 i v hf
      refine ox h en gL g2 z5 hd (nx := .skip) ?_ (.inr ⟨rfl,rfl⟩)
      have:(Instr.mapUpdate t (a.eval m) (a.eval k) (a.eval x)).run P w = .ok () { w with heap:=w.heap.setIfInBounds b (.map (es.modify i fun e=>{ e with key:=a.eval k,val := .int vk' y }) es.size) }:=by
       rw[g1,iL rx]
       unfold Instr.mapUpdate
       simp only[Sem.run_bind,run_underlying hu,Result.andThen_ok,run_getObj_map w b es es.size g2,ja hk hkv,od hk hkv g3,hf,ko,z1,Option.map_some,Option.getD_some,wu z2 hkv,lh _ g2]
      rw[Array.size_modify]
      simp[execOp,ho,this,Result.andThen]
     |none =>
      refine ox h en gL g2 (p2 hf) hd (nx := .skip) ?_ (.inr ⟨rfl,rfl⟩)
      have:(Instr.mapUpdate t (a.eval m) (a.eval k) (a.eval x)).run P w = .ok () { w with heap:=w.heap.setIfInBounds b (.map (es.push { key:=a.eval k,val := .int vk' y,born:=es.size }) (es.size+1)) }:=by
       rw[g1,iL rx]
       unfold Instr.mapUpdate
       simp only[Sem.run_bind,run_underlying hu,Result.andThen_ok,run_getObj_map w b es es.size g2,ja hk hkv,od hk hkv g3,hf,ko,lh _ g2]
      rw[Array.size_push]
      simp[execOp,ho,this,Result.andThen]
   ·cases e
  ·cases e
 ·cases e
theorem xN (h:bD X L I s a w) (hτ:cV P τ){o:Oper}{t:Nat}{m k:Operand}(ho:o.op = .mapEntry t m k) (hd:∀d,o.dst=some d→d<X.N){s':St}
  (e:lE τ (.mapEntry t m k) o.dst s=some (true,s')):vL P X L o a w s':=by
 simp only[lE]at e
 split at e
 ·rename_i ti n e1 e2
  split at e
  ·rename_i kt vk ka kvs en
   split at e
   ·rename_i te key e3 e4
    cases q:(Nat.beq ti.kind 9&&(Nat.beq te.kind 1&&(decide (te.ik=vk)&&pE τ ti.ky kt ka)))with
    |false=>rw[q]at e;cases e
    |true =>
     rw[q]at e
     obtain⟨_,rfl⟩:=Prod.mk.inj (Option.some.inj e)
     simp only[Bool.and_eq_true]at q
     obtain⟨q1,qt,q2,q3⟩:=q
     have hk:=sf hτ q3
     have rm:=h.ev m
     rw[e2]at rm
     obtain⟨b,es,g1,gL,g2,g3⟩:=oR h en rm
     have hkv:=yp hk.flat e4 (h.ev k)
     have hu:=(hτ t ti e1).map (Nat.eq_of_beq_eq_true q1)
     obtain⟨i0,z1,z2⟩:=(hτ _ te e3).z1 (Nat.eq_of_beq_eq_true qt)
     have hz:∀w,(zeroValue ti.el).run P w = .ok (.int vk 0) w:=fun w=>by
      rw[←of_decide_eq_true q2];simp[zeroValue,typeInfo,z1,z2]
     obtain⟨p1,p2⟩:=Cr g3 hkv (fH kt key kvs)
     have fin:∀p:Nat,pU kt key kvs=(p:Int)→∀L I w A,RA L I w A (.tup [(false,[.v (.int vk) (fH kt key kvs)]),(false,[.v (.int .i64) (pU kt key kvs)])]) (.tuple #[.int vk (fH kt key kvs),goInt p]):=fun p hp L I w A =>
      ⟨[_,_],rfl,⟨rfl,trivial⟩,⟨by rw[hp];rfl,trivial⟩,trivial⟩
     cases hf:bR kt key kvs 0 with
     |some p =>
      obtain⟨i,v⟩:=p
      obtain⟨e0,y1,y2,y3,y4,y5⟩:=p1 i v hf
      have hmg:fH kt key kvs=v:=by unfold fH;rw[hf]
      have hmp:pU kt key kvs=(i:Int):=by unfold pU;rw[hf]
      refine ox h en gL g2 y5 hd (nx := .value (.tuple #[.int vk (fH kt key kvs),goInt i])) ?_ (.inl ⟨_,rfl,fin i hmp⟩)
      have hsame:(es.modify i fun e=>{ e with key:=a.eval k })=es.modify i fun e=>{ e with key:=a.eval k,val := .int vk (fH kt key kvs) }:=by
       grind
      have:(Instr.mapEntry t (a.eval m) (a.eval k)).run P w = .ok (.tuple #[.int vk (fH kt key kvs),goInt i]) { w with heap:=w.heap.setIfInBounds b (.map (es.modify i fun e=>{ e with key:=a.eval k,val := .int vk (fH kt key kvs) }) es.size) }:=by
       rw[g1, ←hsame]
       unfold Instr.mapEntry
       simp only[Sem.run_bind,run_underlying hu,Result.andThen_ok,run_getObj_map w b es es.size g2,ja hk hkv,od hk hkv g3,hf,ko,y1,Option.map_some,Option.getD_some,wu y2 hkv,lh _ g2,Sem.run_pure,y4,hmg]
      rw[Array.size_modify]
      simp[execOp,ho,this,Result.andThen]
     |none =>
      have hmg:fH kt key kvs=0:=by unfold fH;rw[hf]
      have hmp:pU kt key kvs=((es.size:Nat):Int):=by simp_all [pU,g3.len]
      refine ox h en gL g2 (p2 hf) hd (nx := .value (.tuple #[.int vk (fH kt key kvs),goInt es.size])) ?_ (.inl ⟨_,rfl,fin es.size hmp⟩)
      have:(Instr.mapEntry t (a.eval m) (a.eval k)).run P w = .ok (.tuple #[.int vk (fH kt key kvs),goInt es.size]) { w with heap:=w.heap.setIfInBounds b (.map (es.push { key:=a.eval k,val := .int vk (fH kt key kvs),born:=es.size }) (es.size+1)) }:=by
       rw[g1,hmg]
       unfold Instr.mapEntry
       simp only[Sem.run_bind,run_underlying hu,Result.andThen_ok,run_getObj_map w b es es.size g2,ja hk hkv,od hk hkv g3,hf,ko,hz,lh _ g2,Sem.run_pure]
      rw[Array.size_push]
      simp[execOp,ho,this,Result.andThen]
   ·cases e
  ·cases e
 ·cases e
theorem wV{kt:Ty}{vk:IntKind}{ka:Bool}{x:Int}:∀{kvs:List (kt.den×Int)}{es:List MapEntry}{i:Nat},gJ kt (.int vk) ka i kvs es→∀j,gJ kt (.int vk) ka i (tl x kvs j) (es.modify j fun e=>{ e with val := .int vk x })
 |[],[],_,_,j=>by simp[tl,gJ]
 |[],_::_,_,h,_=>h.elim
 |_::_,[],_,h,_=>h.elim
 |_::_,e0::_,_,h,0=>⟨⟨h.1.1,rfl,h.1.2.2⟩,h.2⟩
 |_::_,_::_,i,h,j+1=>⟨h.1,wV h.2 j⟩
theorem AP{kt vt:Ty}{ka:Bool}:∀{kvs:List (kt.den×vt.den)}{es:List MapEntry}{i:Nat},gJ kt vt ka i kvs es→∀j:Nat,j<es.length→es.findIdx? (fun e=>(e.born:Int)==((i+j:Nat):Int))=some j
 |[],[],_,_,j,h=>by simp at h
 |[],_::_,_,h,_,_=>h.elim
 |_::_,[],_,h,_,_=>h.elim
 |_::_,e0::es,i,h,0,_=>by
  grind [gJ]
 |_::_,e0::es,i,h,j+1,hj=>by
  rw[List.findIdx?_cons]
  have hb:e0.born=i:=h.1.2.2
  have:((e0.born:Int)==((i+(j+1):Nat):Int))=false:=by
   grind
  rw[this]
  have ih:=AP h.2 j (by simpa using hj)
  rw[show i+(j+1)=i+1+j by omega,ih];rfl
theorem t9 (h:bD X L I s a w) (hτ:cV P τ){o:Oper}{t:Nat}{m j x:Operand}(ho:o.op = .entryStore t m j x) (hd:∀d,o.dst=some d→d<X.N){s':St}
  (e:lE τ (.entryStore t m j x) o.dst s=some (true,s')):vL P X L o a w s':=by
 simp only[lE]at e
 split at e
 ·rename_i n i vk' y e1 e2 e3
  split at e
  ·rename_i kt vk ka kvs en
   split at e
   ·rename_i hvk
    subst hvk
    obtain⟨hin,rfl⟩:=Prod.mk.inj (Option.some.inj e)
    obtain⟨h0,h1⟩:=oZ.1 hin
    have rm:=h.ev m
    rw[e1]at rm
    obtain⟨b,es,g1,gL,g2,g3⟩:=oR h en rm
    have rj:=h.ev j
    rw[e2]at rj
    have rx:=h.ev x
    rw[e3]at rx
    have hl:=g3.len
    have hrow:=wV (x:=y) g3 i.toNat
    have hrow:gJ kt (.int vk') ka 0 (D3 i y kvs) (es.modify i.toNat fun e=>{ e with val := .int vk' y }).toList:=by
     rw[Array.toList_modify];exact hrow
    refine ox h en gL g2 hrow hd (nx := .skip) ?_ (.inr ⟨rfl,rfl⟩)
    have hlt:i.toNat<es.toList.length:=by omega
    have hfi:es.findIdx? (fun e=>(e.born:Int)==i)=some i.toNat:=by
     have:=AP g3 i.toNat hlt
     rw[Nat.zero_add,Int.toNat_of_nonneg h0]at this
     clear rm g2 g3 hl hrow hlt
     cases es
     simpa using this
    have:(Instr.entryStore t (a.eval m) (a.eval j) (a.eval x)).run P w = .ok () { w with heap:=w.heap.setIfInBounds b (.map (es.modify i.toNat fun e=>{ e with val := .int vk' y }) es.size) }:=by
     rw[g1,iL rj,iL rx]
     unfold Instr.entryStore
     simp only[Sem.run_bind,Result.andThen_ok,run_getObj_map w b es es.size g2,asInt,asIntOf,Sem.run_map,Sem.run_pure,Result.andThen_ok,hfi,lh _ g2]
    rw[Array.size_modify]
    simp[execOp,ho,this,Result.andThen]
   ·cases e
  ·cases e
 ·cases e
theorem bD.more (h:bD X L I s a w){g:Nat}(hg:g<w.heap.size) (hf:∀m ob,s.o m=some ob→∀b o,fp L m ob b o→b≠g) (hi:X.I0 g∨X.w0.heap.size≤g∨∀o,X.E g o):bD X L (fun b=>I b∨b=g) s a w:=by
 have hw:jk I w w:=fun _ _=>rfl
 have hI:∀b,I b→I b∨b=g:=fun _ q => .inl q
 refine⟨h.defers,h.size,fun i hi=>RA.mono hI hw (fun _ _=>⟨rfl,rfl⟩) (h.tmp i hi),h.hi,fun m ob e=>?_,h.sep,fun m ob e b o q=>?_,fun b hb=>?_,fun b hb => .inl (h.sub b hb),h.step,h.glob.1,fun b hb => .inl (h.glob.2 b hb)⟩
 ·have r:=h.obj m ob e
  cases ob with
  |box cs =>
   obtain⟨b,off,vs,h1,h2,h3⟩:=r
   exact⟨b,off,vs,h1,A3.mono hI hw (fun _ _=>⟨rfl,rfl⟩) h2,h3⟩
  |arr e t xs =>
   obtain⟨vs,h1,h2⟩:=r
   exact⟨vs,h1,h2.mono hI hw⟩
  |mp kt vt ka kvs=>exact r
 ·obtain⟨h1,h2,h3⟩:=h.own m ob e b o q
  exact⟨h1,fun z=>z.elim h2 (hf m ob e b o q),h3⟩
 ·rcases hb with hb|rfl
  ·exact h.imm b hb
  ·trivial
theorem DA{g:Nat}{c:Array Value}{t:TypeId}(hg:w.heap[g]?=some (.cells c t (0,0))) :
  bT (fun b _=>b=g) w (w.freeze ⟨g,c.size,none⟩ 1)∧(w.freeze ⟨g,c.size,none⟩ 1).heap[g]?=some (.cells c t (c.size,c.size+1)):=by
 have hlt:g<w.heap.size:=by
  grind
 have hself:(w.freeze ⟨g,c.size,none⟩ 1).heap[g]?=some (.cells c t (c.size,c.size+1)):=by
  unfold World.freeze
  rw[if_neg (by decide)]
  show(w.heap.modify g _)[g]?=_
  rw[Array.getElem?_modify,if_pos rfl,hg]
  rfl
 refine⟨⟨?_,?_,?_,?_,fun b hb=>?_⟩,hself⟩
 ·unfold World.freeze;rw[if_neg (by decide)]
 ·unfold World.freeze;rw[if_neg (by decide)]
 ·unfold World.freeze;rw[if_neg (by decide)]
 ·unfold World.freeze;rw[if_neg (by decide)];show w.heap.size≤(w.heap.modify g _).size;simp
 ·by_cases q:b=g
  ·subst q
   rw[hg,hself]
   exact⟨c,_,rfl,rfl,fun j hj=>absurd rfl hj,fun⟨j,hj⟩=>absurd rfl hj⟩
  ·refine dV.of_eq ?_
   unfold World.freeze
   rw[if_neg (by decide)]
   show(w.heap.modify g _)[b]?=_
   rw[Array.getElem?_modify,if_neg (fun e=>q e.symm)]
theorem yW (h:bD X L I s a w) (hτ:cV P τ){o:Oper}{q d:Nat}{x:Operand}(ho:o.op = .convert q d x) (hd:∀d,o.dst=some d→d<X.N){s':St}
  (e:lE τ (.convert q d x) o.dst s=some (true,s')):vL P X L o a w s':=by
 simp only[lE]at e
 split at e
 ·rename_i ti n e1 e2
  cases k:(Nat.beq q d&&jQ τ ti)with
  |false=>rw[k]at e;cases e
  |true =>
   rw[k]at e
   simp only[cond_true]at e
   rw[Bool.and_eq_true]at k
   obtain⟨g1,g2⟩:=kR hτ e1 k.2
   obtain rfl:=Nat.eq_of_beq_eq_true k.1
   split at e
   ·rename_i el xs en
    obtain⟨hq,rfl⟩:=Prod.mk.inj (Option.some.inj e)
    have hpos:0<xs.length:=of_decide_eq_true hq
    have r:=h.ev x
    rw[e2]at r
    obtain⟨_,_,_,_,r⟩:=r
    obtain⟨vs,h1,css,h3,rfl⟩:=h.obj n _ en
    obtain⟨_,h1⟩:=h1
    rcases h1 with⟨_,hn⟩|⟨g,cap,cur,hL,_,hg,hc,_,_,ht⟩
    ·omega
    ·have hown:(L n).ownBlock=some g:=by rw[hL];rfl
     obtain⟨o1,o2,o3⟩:=h.own n _ en g 0 hown
     obtain⟨hst,hself⟩:=DA hg
     have hf:∀m ob,(s.drop n).o m=some ob→∀b o,fp L m ob b o→b≠g:=fun m ob em b o q e=>by
      obtain⟨hm,x',ex,rfl⟩:=lY em
      exact hm (h.sep m n x' _ ex en b o (m8.1 q) (show(L n).ownBlock=some b by rw[e];exact hown))
     have h2:=(h.drop' n).world hst (fun b _ hb e=>o2 (e▸hb)) hf (fun b j e hb=>(h.own n _ en b j (show(L n).ownBlock=some b by rw[e];exact hown)).2.2 hb)
     have h4:=h2.more (g:=g) (Nat.lt_of_lt_of_le o1 hst.size) hf (by
      rcases Nat.lt_or_ge g X.w0.heap.size with z|z
      ·exact .inr (.inr fun o=>(h.own n _ en g o hown).2.2 z)
      ·exact .inr (.inl z))
     have hrun:(convert q q (a.eval x)).run P w = .ok (a.eval x) (w.freeze ⟨g,cur.size,none⟩ 1):=by
      have hsh:w.shape? g=some (el,cur.size):=by unfold World.shape?;rw[hg]
      rw[←r,hL]
      simp[convert,run_underlying g1,run_underlying g2,markStringish,hsh,Result.andThen]
     have hx:(execOp a.eval o).run P w = .ok (.value (a.eval x)) (w.freeze ⟨g,cur.size,none⟩ 1):=by
      have hq:execOp a.eval o=(do pure (.value (←convert q q (a.eval x)))):=by simp[execOp,ho]
      rw[hq]
      simp[hrun,Result.andThen]
     refine⟨.value (a.eval x),_,L,_,hx,fun _ _=>rfl, .inl ⟨_,rfl,h4.put o.dst hd ?_⟩⟩
     show cL _ _ (.sl (.int .u8)) xs [a.eval x]
     rw[←r,hL]
     refine⟨some ⟨g,0,none⟩,cap,css,rfl,hc,aI.mono (fun _ _ q=>q) h3, .inr ⟨g,0,rfl, .inr rfl,fun j v hv=>?_⟩⟩
     rw[←ht,List.getElem?_take]at hv
     split at hv
     ·rw[Nat.zero_add]
      simp only[World.cell?,hself]
      simpa using hv
     ·cases hv
   ·cases e
 ·cases e
theorem Do (h:bD X L I s a w) (hτ:cV P τ){o:Oper}(hd:∀d,o.dst=some d→d<X.N){s':St}(e:lE τ o.op o.dst s=some (true,s')):vL P X L o a w s':=by
 cases ho:o.op with
 |store t x y=>grind [Dn]
 |mapUpdate t m k x=>grind [vN]
 |mapEntry t m k=>grind [xN]
 |entryStore t m j x=>grind [t9]
 |slice t x lo hi mx=>grind [Dp]
 |convert q d x=>grind [yW]
 |call c =>
  obtain⟨cl,xs,ts⟩:=c
  cases cl with
  |builtin b =>
   cases b with
   |append=>grind [A5]
   |_=>simp_all [lE]
  |_=>simp_all [lE]
 |_=>simp_all [lE]
end
end AM
end Go.Proofs.YtcflmfpnmjlhdaaGreatDoor
namespace Go.Proofs.YtcflmfpnmjlhdaaGreatDoor
namespace AM
open Go
set_option linter.unusedSimpArgs false
set_option linter.unusedVariables false
theorem fI{n:Nm}:∀{l:List Nm},km n l=true↔n∈l
 |[]=>by simp[km]
 |m::r=>by
  unfold km
  cases h:Nm.eqb n m with
  |true=>simp_all [bx]
  |false=>have:=a0.1 h;simp[this,fI (l:=r)]
theorem ju:∀{l:List Nm},mV l=true↔l.Nodup
 |[]=>by trivial
 |n::r=>by
  unfold mV
  rw[Bool.and_eq_true,Bool.not_eq_true',List.nodup_cons,ju (l:=r), ←Bool.not_eq_true,fI]
theorem vz{xs ys:List Nm}:yQ xs ys=true↔∀n∈xs,n∉ys:=by
 grind [yQ,fI,km]
theorem Dd{t:Ty}{d:DV}{x:t.den}(h:d.as t=some x):d=⟨t,x⟩:=by
 unfold DV.as at h
 split at h
 ·rename_i q e
  obtain rfl:=Option.some.inj h
  cases d
  dsimp only at q
  subst q
  rfl
 ·cases h
theorem jc{t:Ty}(x:t.den):(DV.mk t x).as t=some x:=by
 unfold DV.as
 have:Ty.same t t=some ⟨rfl⟩:=by
  induction t with
  |int k=>simp[Ty.same]
  |bool=>rfl
  |str=>rfl
  |sl t ih=>simp only[Ty.same];rw[ih (Ty.zero t)]
  |pr a b iha ihb=>simp only[Ty.same];rw[iha (Ty.zero a),ihb (Ty.zero b)]
 rw[this]
 rfl
theorem lJ:∀{ts:List Ty}{ds:List DV}{x:TD ts},pc ts ds=some x→ar ts x=ds
 |[],[],_,_=>rfl
 |[],_::_,_,h=>by cases h
 |[t],[],_,h=>by cases h
 |[t],[d],x,h=>by
  grind [Dd,pc,ar]
 |[t],_::_::_,_,h=>by cases h
 |t::u::r,[],_,h=>by cases h
 |t::u::r,d::ds,x,h=>by
  simp only[pc]at h
  split at h
  ·rename_i y z e1 e2
   obtain rfl:=Option.some.inj h
   rw[Dd e1]
   show _::ar (u::r) z=_
   rw[lJ e2]
  ·cases h
section
variable{X:oC}{L:Nm→Value}{I:Nat→Prop}{s:St}{a:Act}{w:World}
theorem ls{o:Nm→Option Ob}{e:Option Nat}{t:Ty}{n:Nm}{xs:List t.den}(h:v8 o e t n=some xs):∃q,o n=some (.arr q t xs)∧∀p,e=some p→q=p:=by
 unfold v8 at h
 split at h
 ·rename_i q u ys en
  cases k:Jv q e with
  |false=>simp_all
  |true =>
   rw[k]at h
   simp only[cond_true]at h
   split at h
   ·rename_i hu eu
    obtain rfl:=Option.some.inj h
    subst hu
    refine⟨q,en,fun p hp=>?_⟩
    subst hp
    exact Nat.eq_of_beq_eq_true k
   ·cases h
 ·cases h
def vE (L L':Nm→Value) (s:St):bG→Prop
 | .ln n=>∃e t xs,s.o n=some (.arr e t xs)
 | .bw new n=>L' new=L n
 | .pb new n off len=>∃b o cs,s.o n=some (.box cs)∧off+len≤cs.length∧0<len∧L n = .pointer (some ⟨b,o,none⟩)∧L' new = .pointer (some ⟨b,o+off,none⟩)
 | .pa new n i j len=>∃b e t xs l c,s.o n=some (.arr e t xs)∧j+len≤t.sz∧0<len∧i<List.length xs∧L n = .slice (some ⟨b,0,none⟩) l c∧L' new = .pointer (some ⟨b,i*t.sz+j,none⟩)
 | .mx new n len=>∃b o cs,s.o n=some (.box cs)∧0+len≤cs.length∧0<len∧L n = .pointer (some ⟨b,o,none⟩)∧L' new = .pointer (some ⟨b,o+0,none⟩)
 |_=>True
def KP (L L':Nm→Value) (p:(Nm×Nat)×(Nm×Nat)):Prop:=∃b o o',L p.2.1 = .pointer (some ⟨b,o,none⟩)∧L' p.1.1 = .pointer (some ⟨b,o',none⟩)∧o+p.2.2=o'+p.1.2
def tE (L L':Nm→Value) (ts:List bG):Prop:=∀t∈ts, ∀p∈t.pts,KP L L' p
theorem C9{L L':Nm→Value}:∀{cs ds:List (Nm×Nat)}{us:List Value},cs.length=ds.length→(∀p∈cs.zip ds,KP L L' p)→rF L ds us→rF L' cs us
 |[],[],us,_,_,h=>by
  grind [KP,rF]
 |c::cs,d::ds,us,hl,hp,h=>by
  cases us with
  |nil=>exact h.elim
  |cons u us =>
   obtain⟨⟨b,o,h1,h2⟩,h3⟩:=h
   obtain⟨b',o1,o2,g1,g2,g3⟩:=hp (c,d) (List.mem_cons_self ..)
   rw[h1]at g1
   injection g1 with g1;injection g1 with g1;injection g1 with g1 g1' _
   subst g1;subst g1'
   exact⟨⟨_,_,g2,by rw[h2];exact congrArg (fun z=>Value.pointer (some ⟨b,z,none⟩)) g3⟩,C9 (by simpa using hl) (fun p hp'=>hp p (List.mem_cons_of_mem _ hp')) h3⟩
 |[],_::_,_,hl,_,_=>by cases hl
 |_::_,[],_,hl,_,_=>by cases hl
def xG (L:Nm→Value):bG→Nat→Nat→Prop
 | .mv _ n,b,_=>(L n).ownBlock=some b
 | .bw _ n,b,_=>(L n).ownBlock=some b
 | .pb _ n off len,b,o=>∃o0,L n = .pointer (some ⟨b,o0,none⟩)∧o0+off≤o∧o<o0+off+len
 | .pa _ n _ _ _,b,_=>(L n).ownBlock=some b
 | .mm _ n,b,_=>L n = .map (some b)
 | .mx _ n len,b,o=>∃o0,L n = .pointer (some ⟨b,o0,none⟩)∧o0+0≤o∧o<o0+0+len
 |_,_,_=>False
structure xK (L:Nm→Value) (s:St) (w:World) (I':Nat→Prop) (names new:List Nm) (lv:List (Nm×Value)) (os:List (Nm×Ob)) (ts:List bG):Prop where
 nm:lv.map Prod.fst=names
 om:os.map Prod.fst=names
 ro:∀L' A',(∀p∈lv,L' p.1=p.2)→tE L L' ts→∀q∈os,RO L' I' w A' q.1 q.2
 fp:∀L',(∀p∈lv,L' p.1=p.2)→∀q∈os, ∀b o,AM.fp L' q.1 q.2 b o→∃t∈ts, ∃n ob,t.pair=[(q.1,n)]∧s.o n=some ob∧AM.fp L n ob b o∧xG L t b o
 st:ts.all bG.stays=true→∀p∈lv,p.1∈new∨p.2=L p.1
 tg:∀L',(∀p∈lv,L' p.1=p.2)→∀t∈ts,vE L L' s t
theorem xK.nil{I':Nat→Prop}:xK L s w I' [] [] [] [] [] :=
 ⟨rfl,rfl,fun _ _ _ _ _ h=>(by cases h),fun _ _ _ h=>(by cases h),fun _ _ h=>(by cases h),fun _ _ _ h=>(by cases h)⟩
theorem xK.append{I':Nat→Prop}{n1 n2 w1 w2:List Nm}{l1 l2:List (Nm×Value)}{o1 o2:List (Nm×Ob)}{t1 t2:List bG}(h:xK L s w I' n1 w1 l1 o1 t1) (g:xK L s w I' n2 w2 l2 o2 t2) :
  xK L s w I' (n1++n2) (w1++w2) (l1++l2) (o1++o2) (t1++t2):=by
 refine⟨by rw[List.map_append,h.nm,g.nm],by rw[List.map_append,h.om,g.om],fun L' A' hL hpt q hq=>?_,fun L' hL q hq b o hb=>?_,fun ht p hp=>?_,fun L' hL t ht=>?_⟩
 ·rcases List.mem_append.1 hq with hq|hq
  ·exact h.ro L' A' (fun p hp=>hL p (List.mem_append_left _ hp)) (fun t ht=>hpt t (List.mem_append_left _ ht)) q hq
  ·exact g.ro L' A' (fun p hp=>hL p (List.mem_append_right _ hp)) (fun t ht=>hpt t (List.mem_append_right _ ht)) q hq
 ·rcases List.mem_append.1 hq with hq|hq
  ·obtain⟨t,e1,e2⟩:=h.fp L' (fun p hp=>hL p (List.mem_append_left _ hp)) q hq b o hb
   exact⟨t,List.mem_append_left _ e1,e2⟩
  ·obtain⟨t,e1,e2⟩:=g.fp L' (fun p hp=>hL p (List.mem_append_right _ hp)) q hq b o hb
   exact⟨t,List.mem_append_right _ e1,e2⟩
 ·rw[List.all_append,Bool.and_eq_true]at ht
  rcases List.mem_append.1 hp with hp|hp
  ·exact(h.st ht.1 p hp).imp (List.mem_append_left _) id
  ·exact(g.st ht.2 p hp).imp (List.mem_append_right _) id
 ·rcases List.mem_append.1 ht with ht|ht
  ·exact h.tg L' (fun p hp=>hL p (List.mem_append_left _ hp)) t ht
  ·exact g.tg L' (fun p hp=>hL p (List.mem_append_right _ hp)) t ht
def Jm (n:Nm) (p:PS) (u:Value):List (Nm×Value):=match p with
 | .o _ _=>[(n,u)]
 | .b _ _=>[(n,u)]
 | .k _ _ _=>[(n,u)]
 | .m _ _ _=>[(n,u)]
 |_=>[]
def EK (n:Nm) (p:PS):List Nm:=match p with
 | .o _ _=>[n]
 | .b _ _=>[n]
 | .k _ _ _=>[n]
 | .m _ _ _=>[n]
 |_=>[]
def BE (n:Nm) (p:PS):List Nm:=match p with
 | .o _ _=>[n]
 | .m _ _ _=>[n]
 |_=>[]
theorem zA (h:bD X L I s a w){n:Nm}{p:PS}{c:CV}{d:DV}{tag:bG}{u:Value}{I':Nat→Prop}(e:cR s.o n p c=some (d,tag)) (r:RC L I w (AL s.o) c u)
  (hI:∀b,I b→I' b) (hl:∀m∈tag.lent, ∀b,(L m).ownBlock=some b→I' b) :
  xK L s w I' (EK n p) (BE n p) (Jm n p u) (vZ n p d) [tag]∧(∀L' A',(∀q∈Jm n p u,L' q.1=q.2)→tE L L' [tag]→RC L' I' w A' (n6 n p d) u):=by
 have hw:jk I w w:=fun _ _=>rfl
 have arr:∀{m:Nm}{q:Nat}{t:Ty}{xs:List t.den},s.o m=some (.arr q t xs)→L m=u→∀{tag:bG},tag.pair=[(n,m)]→(tag.stays=true→BE n p=[n]∨n=m)→(∀L',L' n=L m→vE L L' s tag)→(∀b o,(L m).ownBlock=some b→xG L tag b o)→Jm n p u=[(n,u)]→EK n p=[n]→vZ n p d=[(n, .arr q t xs)] →
   xK L s w I' (EK n p) (BE n p) (Jm n p u) (vZ n p d) [tag]:=by
  intro m q t xs em eu tag ht hs htg htf h1 h2 h3
  rw[h1,h2,h3]
  refine⟨rfl,rfl,fun L' A' hL _ q' hq=>?_,fun L' hL q' hq b o hb=>?_,fun hst p' hp=>?_,fun L' hL t ht=>?_⟩
  ·obtain rfl:=List.mem_singleton.1 hq
   obtain⟨vs,g1,g2⟩:=h.obj m _ em
   refine⟨vs,?_,g2.mono hI hw⟩
   rw[hL _ (List.mem_singleton.2 rfl), ←eu]
   exact g1
  ·obtain rfl:=List.mem_singleton.1 hq
   have hb:(L' n).ownBlock=some b:=hb
   rw[hL _ (List.mem_singleton.2 rfl), ←eu]at hb
   exact⟨tag,List.mem_singleton.2 rfl,m,_,ht,em,hb,htf b o hb⟩
  ·obtain rfl:=List.mem_singleton.1 hp
   have hst:tag.stays=true:=by simp_all
   rcases hs hst with h5|h5
   ·exact .inl (by rw[h5];exact List.mem_singleton.2 rfl)
   ·exact .inr (by rw[←eu,h5])
  ·obtain rfl:=List.mem_singleton.1 ht
   exact htg L' (by rw[hL (n,u) (List.mem_singleton.2 rfl),eu])
 cases p with
 |i t =>
  have plain:(∀L',vE L L' s tag)→xK L s w I' (EK n (.i t)) (BE n (.i t)) (Jm n (.i t) u) (vZ n (.i t) d) [tag]:=fun ht =>
   ⟨rfl,rfl,fun _ _ _ _ _ q=>(by cases q),fun _ _ _ q=>(by cases q),fun _ _ q=>(by cases q),fun L' _ t q=>(List.mem_singleton.1 q)▸ht L'⟩
  have val:∀{x:t.den},c.as t=some x→d=⟨t,x⟩→∀L' A',RC L' I' w A' (n6 n (.i t) d) u:=by
   intro x ec ed L' A'
   subst ed
   exact cL.mono hI hw t (kc ec r)
  simp only[cR]at e
  split at e
  ·rename_i m
   split at e
   ·rename_i v
    split at e
    ·rename_i xs eo
     obtain⟨rfl,rfl⟩:=Prod.mk.inj (Option.some.inj e)
     obtain⟨q,em,_⟩:=ls eo
     refine⟨plain (fun _=>⟨_,_,_,em⟩),fun L' A' _ _=>?_⟩
     obtain⟨_,_,_,_,r⟩:=r
     obtain⟨vs,g1,g2⟩:=h.obj m _ em
     show cL I' w (.sl v) xs [u]
     rw[←r]
     exact ye g1 (g2.mono hI hw) (hl m (List.mem_singleton.2 rfl))
    ·cases e
   ·cases e
  ·split at e
   ·rename_i x ec
    obtain⟨rfl,rfl⟩:=Prod.mk.inj (Option.some.inj e)
    exact⟨plain (fun _=>trivial),fun L' A' _ _=>val ec rfl L' A'⟩
   ·cases e
 |o q t =>
  simp only[cR]at e
  split at e
  ·rename_i m
   split at e
   ·rename_i xs eo
    obtain⟨rfl,rfl⟩:=Prod.mk.inj (Option.some.inj e)
    obtain⟨q',em,eq⟩:=ls eo
    obtain rfl:=eq q rfl
    obtain⟨x1,x2,x3,x4,r⟩:=r
    refine⟨arr em r rfl (fun _ => .inl rfl) (fun _ _=>trivial) (fun _ _ q=>q) rfl rfl ?_,fun L' A' hL _=>⟨x1,x2,x3,x4,hL (n,u) (List.mem_singleton.2 rfl)⟩⟩
    simp[vZ,qn,jc]
   ·cases e
  ·obtain⟨rfl,rfl⟩:=Prod.mk.inj (Option.some.inj e)
   obtain rfl:u = .slice none 0 0:=r
   have ho:vZ n (.o q t) ⟨.sl t,[]⟩=[(n, .arr q t [])]:=by simp[vZ,qn,jc (t := .sl t) []]
   refine⟨?_,fun L' A' hL _=>⟨_,_,_,rfl,hL (n,_) (List.mem_singleton.2 rfl)⟩⟩
   rw[ho]
   refine⟨rfl,rfl,fun L' A' hL _ q' hq=>?_,fun L' hL q' hq b o hb=>?_,fun hst p' hp=>?_,fun L' hL t ht=>(List.mem_singleton.1 ht)▸trivial⟩
   ·obtain rfl:=List.mem_singleton.1 hq
    refine⟨[],?_,bz.nil⟩
    rw[hL (n,_) (List.mem_singleton.2 rfl)]
    exact World.ownsRow_nil w 0 q t.sz
   ·obtain rfl:=List.mem_singleton.1 hq
    have hb:(L' n).ownBlock=some b:=hb
    rw[hL (n,_) (List.mem_singleton.2 rfl)]at hb
    cases hb
   ·obtain rfl:=List.mem_singleton.1 hp
    exact .inl (List.mem_singleton.2 rfl)
  ·cases e
 |b q t =>
  simp only[cR]at e
  split at e
  ·rename_i m
   split at e
   ·rename_i xs eo
    obtain⟨rfl,rfl⟩:=Prod.mk.inj (Option.some.inj e)
    obtain⟨q',em,eq⟩:=ls eo
    obtain rfl:=eq q rfl
    obtain⟨x1,x2,x3,x4,r⟩:=r
    refine⟨arr em r rfl (fun hs => .inr (bx.1 hs)) (fun _ q=>q) (fun _ _ q=>q) rfl rfl ?_,fun L' A' hL _=>⟨x1,x2,x3,x4,hL (n,u) (List.mem_singleton.2 rfl)⟩⟩
    simp[vZ,qn,jc]
   ·cases e
  ·cases e
 |k mk q t =>
  simp only[cR]at e
  split at e
  ·rename_i m
   split at e
   ·rename_i xs eo
    obtain⟨rfl,rfl⟩:=Prod.mk.inj (Option.some.inj e)
    obtain⟨q',em,eq⟩:=ls eo
    obtain rfl:=eq q rfl
    obtain⟨x1,x2,x3,x4,r⟩:=r
    refine⟨arr em r rfl (fun hs => .inr (bx.1 hs)) (fun _ q=>q) (fun _ _ q=>q) rfl rfl ?_,fun L' A' hL _=>⟨x1,x2,x3,x4,hL (n,u) (List.mem_singleton.2 rfl)⟩⟩
    simp[vZ,qn,jc]
   ·cases e
  ·cases e
 |q m0 off =>
  simp only[cR]at e
  split at e
  ·rename_i m k
   obtain⟨rfl,rfl⟩:=Prod.mk.inj (Option.some.inj e)
   refine⟨⟨rfl,rfl,fun _ _ _ _ _ q=>(by cases q),fun _ _ _ q=>(by cases q),fun _ _ q=>(by cases q),fun L' _ t q=>(List.mem_singleton.1 q)▸trivial⟩,fun L' A' _ hpt=>?_⟩
   obtain⟨b,o,o',g1,g2,g3⟩:=hpt _ (List.mem_singleton.2 rfl) ((m0,off),(m,k)) (List.mem_singleton.2 rfl)
   obtain⟨b',o2,r1,r2⟩:=r
   rw[r1]at g1
   injection g1 with g1;injection g1 with g1;injection g1 with g1 g1' _
   subst g1;subst g1'
   exact⟨_,_,g2,by rw[r2];exact congrArg (fun z=>Value.pointer (some ⟨b',z,none⟩)) g3⟩
  ·cases e
 |f g cs =>
  simp only[cR]at e
  split at e
  ·rename_i h' ds
   cases k:(Nat.beq g h'&&Nat.beq cs.length ds.length)with
   |false=>rw[k]at e;cases e
   |true =>
    rw[k]at e
    simp only[cond_true]at e
    obtain⟨rfl,rfl⟩:=Prod.mk.inj (Option.some.inj e)
    rw[Bool.and_eq_true]at k
    have k1:=Nat.eq_of_beq_eq_true k.1
    subst k1
    refine⟨⟨rfl,rfl,fun _ _ _ _ _ q=>(by cases q),fun _ _ _ q=>(by cases q),fun _ _ q=>(by cases q),fun L' _ t q=>(List.mem_singleton.1 q)▸trivial⟩,fun L' A' _ hpt=>?_⟩
    obtain⟨us,r1,r2⟩:=r
    exact⟨us,r1,C9 (Nat.eq_of_beq_eq_true k.2) (fun p hp=>hpt _ (List.mem_singleton.2 rfl) p hp) r2⟩
  ·cases e
 |e =>
  have plain:xK L s w I' (EK n .e) (BE n .e) (Jm n .e u) (vZ n .e d) [tag]→xK L s w I' (EK n .e) (BE n .e) (Jm n .e u) (vZ n .e d) [tag]:=fun q=>q
  simp only[cR]at e
  split at e
  ·rename_i b
   obtain⟨rfl,rfl⟩:=Prod.mk.inj (Option.some.inj e)
   refine⟨⟨rfl,rfl,fun _ _ _ _ _ q=>(by cases q),fun _ _ _ q=>(by cases q),fun _ _ q=>(by cases q),fun L' _ t q=>(List.mem_singleton.1 q)▸trivial⟩,fun L' A' _ _=>?_⟩
   simp only[n6,jc]
   exact r
  ·obtain⟨rfl,rfl⟩:=Prod.mk.inj (Option.some.inj e)
   refine⟨⟨rfl,rfl,fun _ _ _ _ _ q=>(by cases q),fun _ _ _ q=>(by cases q),fun _ _ q=>(by cases q),fun L' _ t q=>(List.mem_singleton.1 q)▸trivial⟩,fun L' A' _ _=>?_⟩
   simp only[n6,jc]
   exact r
  ·cases e
 |l =>
  simp only[cR]at e
  split at e
  ·rename_i k ek
   obtain⟨rfl,rfl⟩:=Prod.mk.inj (Option.some.inj e)
   refine⟨⟨rfl,rfl,fun _ _ _ _ _ q=>(by cases q),fun _ _ _ q=>(by cases q),fun _ _ q=>(by cases q),fun L' _ t q=>(List.mem_singleton.1 q)▸trivial⟩,fun L' A' _ _=>?_⟩
   simp only[n6,jc]
   show ∃a c,u = .slice a (Int.toNat (k:Int)) c
   rw[Int.toNat_natCast]
   unfold yz at ek
   split at ek
   ·rename_i m
    split at ek
    ·rename_i q t xs em
     obtain rfl:=Option.some.inj ek
     obtain⟨x1,x2,x3,rfl,r⟩:=r
     obtain⟨vs,g1,_⟩:=h.obj m _ em
     rcases g1.2 with⟨g,hn⟩|⟨b,cap,cur,g,_⟩
     ·rw[r]at g
      injection g with g g' g''
      exact⟨x1,x3,by rw[g',hn]⟩
     ·rw[r]at g
      injection g with g g' g''
      exact⟨x1,x3,by rw[g']⟩
    ·cases ek
   ·obtain rfl:=Option.some.inj ek
    obtain⟨a1,c1,css,q1,_⟩:=r
    exact⟨a1,c1,List.head_eq_of_cons_eq q1⟩
   ·obtain rfl:=Option.some.inj ek
    exact⟨none,0,r⟩
   ·obtain rfl:=Option.some.inj ek
    exact r
   ·cases ek
  ·cases e
 |m kt vt ka =>
  simp only[cR]at e
  split at e
  ·rename_i m'
   split at e
   ·rename_i xs eo
    obtain⟨rfl,rfl⟩:=Prod.mk.inj (Option.some.inj e)
    unfold Kd at eo
    split at eo
    ·rename_i k v a' kvs em
     cases q:(a'==ka)with
     |false=>rw[q]at eo;cases eo
     |true =>
      rw[q]at eo
      simp only[cond_true]at eo
      split at eo
      ·rename_i hty ety
       obtain rfl:=Option.some.inj eo
       injection hty with hty
       injection hty with hk hv
       subst hk;subst hv
       have ha:a'=ka:=by simp_all
       subst ha
       obtain⟨b,r1,r2⟩:=r
       have hmk:vZ n (.m k v a') ⟨.sl (.pr k v),Ty.cast (rfl:(Ty.sl (.pr k v)) = .sl (.pr k v)) kvs⟩=[(n, .mp k v a' kvs)]:=by
        show D9 n k v a' _=_
        unfold D9
        rw[jc];rfl
       have hmk2:∀h:(Ty.sl (.pr k v)) = .sl (.pr k v),vZ n (.m k v a') ⟨.sl (.pr k v),Ty.cast h kvs⟩=[(n, .mp k v a' kvs)]:=fun _=>hmk
       rw[hmk2]
       refine⟨⟨rfl,rfl,fun L' A' hL _ q' hq=>?_,fun L' hL q' hq b' o hb=>?_,fun hst p' hp=>?_,fun L' hL t ht=>(List.mem_singleton.1 ht)▸trivial⟩,fun L' A' hL _=>⟨b,r1,hL (n,u) (List.mem_singleton.2 rfl)⟩⟩
       ·obtain rfl:=List.mem_singleton.1 hq
        obtain⟨b2,es,g1,g2⟩:=h.obj m' _ em
        exact⟨b2,es,by rw[hL (n,u) (List.mem_singleton.2 rfl), ←r2];exact g1,g2⟩
       ·obtain rfl:=List.mem_singleton.1 hq
        have hb:L' n = .map (some b'):=hb
        rw[hL (n,u) (List.mem_singleton.2 rfl), ←r2]at hb
        exact⟨_,List.mem_singleton.2 rfl,m',_,rfl,em,hb,hb⟩
       ·obtain rfl:=List.mem_singleton.1 hp
        exact .inl (List.mem_singleton.2 rfl)
      ·cases eo
    ·cases eo
   ·cases e
  ·cases e
theorem mO (nm:Nat→PS→Nm) (k:Nat) (p:PS) (ps:List PS):fq nm k (p::ps)=EK (nm k p) p++fq nm (k+1) ps:=by cases p<;>rfl
theorem Bl (nm:Nat→PS→Nm) (k:Nat) (p:PS) (ps:List PS):nX nm k (p::ps)=BE (nm k p) p++nX nm (k+1) ps:=by cases p<;>rfl
theorem mP{o:Nm→Option Ob}{nm:Nat→PS→Nm}:∀{ps:List PS}{cs:List CV}{k:Nat}{ds:List DV}{ts:List bG},dZ o nm k ps cs=some (ds,ts)→ds.length=ps.length∧cs.length=ps.length
 |[],[],_,_,_,e=>by simp_all [dZ]
 |[],_::_,_,_,_,e=>by cases e
 |_::_,[],_,_,_,e=>by cases e
 |p::ps,c::cs,k,_,_,e=>by
  simp only[dZ]at e
  split at e
  ·rename_i d t ds ts e1 e2
   obtain⟨rfl,rfl⟩:=Prod.mk.inj (Option.some.inj e)
   obtain⟨g1,g2⟩:=mP e2
   exact⟨by simp[g1],by simp[g2]⟩
  ·cases e
theorem kP (h:bD X L I s a w){nm:Nat→PS→Nm}{I':Nat→Prop}(hI:∀b,I b→I' b):∀{ps:List PS}{cs:List CV}{k:Nat}{ds:List DV}{ts:List bG}{us:List Value},dZ s.o nm k ps cs=some (ds,ts) →
  aI (RC L I w (AL s.o)) cs us→(∀m∈ts.flatMap bG.lent, ∀b,(L m).ownBlock=some b→I' b) →
  ∃lv,xK L s w I' (fq nm k ps) (nX nm k ps) lv (rV nm k ps ds) ts∧(∀L' A',(∀q∈lv,L' q.1=q.2)→tE L L' ts→aI (RC L' I' w A') (fX nm k ps ds) us)
 |[],[],_,_,_,us,e,r,_=>by
  obtain⟨rfl,rfl⟩:=Prod.mk.inj (Option.some.inj e)
  cases us with
  |nil=>exact⟨[],xK.nil,fun _ _ _ _=>trivial⟩
  |cons _ _=>exact r.elim
 |[],_::_,_,_,_,_,e,_,_=>by cases e
 |_::_,[],_,_,_,_,e,_,_=>by cases e
 |p::ps,c::cs,k,_,_,us,e,r,hl=>by
  simp only[dZ]at e
  split at e
  ·rename_i d t ds ts e1 e2
   obtain⟨rfl,rfl⟩:=Prod.mk.inj (Option.some.inj e)
   cases us with
   |nil=>exact r.elim
   |cons u us =>
    obtain⟨r1,r2⟩:=r
    rw[List.flatMap_cons]at hl
    obtain⟨g1,g2⟩:=zA h e1 r1 hI (fun m hm=>hl m (List.mem_append_left _ hm))
    obtain⟨lv,g3,g4⟩:=kP h hI e2 r2 (fun m hm=>hl m (List.mem_append_right _ hm))
    refine⟨Jm (nm k p) p u++lv,?_,fun L' A' hL hpt=>⟨g2 L' A' (fun q hq=>hL q (List.mem_append_left _ hq)) (fun t ht=>hpt t ((List.mem_singleton.1 ht)▸List.mem_cons_self ..)),g4 L' A' (fun q hq=>hL q (List.mem_append_right _ hq)) (fun t ht=>hpt t (List.mem_cons_of_mem _ ht))⟩⟩
    rw[mO,Bl]
    exact g1.append g3
  ·cases e
end
section
variable{X:oC}{L:Nm→Value}{I:Nat→Prop}{s:St}{a:Act}{w:World}
theorem tm (nm:Nat→PS→Nm):∀(k:Nat) (ps:List PS) (ds:List DV),ds.length=ps.length→(fX nm k ps ds).length=ps.length
 |_,[],[],_=>rfl
 |_,[],_::_,h=>by cases h
 |_,_::_,[],h=>by cases h
 |k,p::ps,d::ds,h=>by
  show(fX nm (k+1) ps ds).length+1=_
  rw[tm nm (k+1) ps ds (by simpa using h)];rfl
theorem mB.part{b off:Nat}{vs:List Value}(h:mB w b off vs) (k n:Nat) (hk:k+n≤vs.length):mB w b (off+k) ((vs.drop k).take n):=by
 obtain⟨c,T,fz,h1,hz,h2,h3⟩:=h
 refine⟨c,T,fz,h1,fun hp=>hz (by rw[List.length_take,List.length_drop]at hp;omega),?_,fun j u hu=>?_⟩
 ·grind
 ·grind
theorem rN (h:bD X L I s a w){m:Nm}{off len:Nat}{cs:List CV}{u:Value}(em:s.o m=some (.box cs)) (r:RC L I w (AL s.o) (.pb m off) u) (hl:off+len≤cs.length) :
  ∃b o us,u = .pointer (some ⟨b,o+off,none⟩)∧L m = .pointer (some ⟨b,o,none⟩)∧aI (RC L I w (AL s.o)) ((cs.drop off).take len) us∧us.length=len∧mB w b (o+off) us ∧
   ∀j,o+off≤j→j<o+off+len→fp L m (.box cs) b j:=by
 obtain⟨b,o,h1,rfl⟩:=r
 obtain⟨b',o',vs,h2,h3,h4⟩:=h.obj m _ em
 rw[h1]at h2
 injection h2 with h2;injection h2 with h2;injection h2 with h2 h2' _
 subst h2;subst h2'
 have hl2:=h3.len
 refine⟨b,o,(vs.drop off).take len,rfl,h1,(h3.drop off).take len,?_,h4.part off len (by omega),fun j g1 g2=>⟨o,h1,by omega,by omega⟩⟩
 rw[List.length_take,List.length_drop];omega
theorem DO (h:bD X L I s a w){m:Nm}{sz i j len e:Nat}{t:Ty}{xs:List t.den}{u:Value}(em:s.o m=some (.arr e t xs)) (r:RC L I w (AL s.o) (.pa m sz i j) u) (hl:j+len≤t.sz) :
  ∃b o us,u = .pointer (some ⟨b,o,none⟩)∧aI (RC L I w (AL s.o)) (((split t (xs.getD i t.zero)).drop j).take len) us∧us.length=len∧mB w b o us ∧
   (∀k,fp L m (.arr e t xs) b k)∧i<xs.length∧o=i*t.sz+j∧∃l c,L m = .slice (some ⟨b,0,none⟩) l c:=by
 obtain⟨b,ln,cap,h1,h2,h3,rfl⟩:=r
 have hA:(t.sz,xs.length)=(sz,ln):=by
  simp_all [AL]
 obtain⟨rfl,rfl⟩:=Prod.mk.inj hA
 obtain⟨vs,⟨k1,k2⟩,k3⟩:=h.obj m _ em
 rcases k2 with⟨k2,_⟩|⟨g,cap',cur,k2,_,k4,k5,k6,k7,k8⟩
 ·rw[k2]at h1;cases h1
 ·have hL:=k2
  rw[h1]at k2
  injection k2 with k2 _ k2';injection k2 with k2;injection k2 with k2 _ _
  subst k2;subst k2'
  obtain⟨A,cs,B,rfl,hA1,hcs,_⟩:=k3.at i h3
  have hcl:=cL.len t hcs
  have hvl:(A++cs++B).length=xs.length*t.sz:=k1
  have hal:A.length+cs.length+B.length=xs.length*t.sz:=by grind
  have hcz:xs.length*t.sz≤cur.size:=by grind
  have hlen:((cs.drop j).take len).length=len:=by rw[List.length_take,List.length_drop];omega
  refine⟨b,i*t.sz+j,(cs.drop j).take len,rfl,((ff t hcs).drop j).take len,hlen,⟨cur,e,_,k4,fun _=>rfl,by omega,fun q v hq=>?_⟩,fun o=>?_,h3,rfl,_,_,h1⟩
  ·rw[List.getElem?_take]at hq
   split at hq
   ·rw[List.getElem?_drop]at hq
    have hj:j+q<cs.length:=by omega
    have:(cur.toList.take (xs.length*t.sz))[i*t.sz+j+q]?=some v:=by
     rw[k8,List.append_assoc,List.getElem?_append_right (by omega),List.getElem?_append_left (by omega)]
     rw[show i*t.sz+j+q-A.length=j+q by omega]
     exact hq
    rw[List.getElem?_take]at this
    split at this
    ·simpa using this
    ·cases this
   ·cases hq
  ·show(L m).ownBlock=some b
   rw[hL];rfl
theorem AC (h:bD X L I s a w){I':Nat→Prop}(hI:∀b,I b→I' b){en:En}{v:AV}{ds:List DV}{ts:List bG}{u:Value}(e:i8 s.o en v=some (ds,ts)) (r:RA L I w (AL s.o) v u)
  (hl:∀m∈ts.flatMap bG.lent, ∀b,(L m).ownBlock=some b→I' b) :
  ds.length=en.cells.length∧∃lv,xK L s w I' en.names en.new lv (NZ en ds) ts ∧
   (∀L' A',(∀q∈lv,L' q.1=q.2)→tE L L' ts→(∀i n k,en = .ptr i n k→L' n=L n)→RA L' I' w A' (J6 en ds) u):=by
 have box:∀{i:Nat}{n m:Nm}{ps:List PS}{cs:List CV}{ds:List DV}{ts:List bG}{tag:bG}{ob:Ob}{b o:Nat}{us:List Value},dZ s.o (gK n) 0 ps cs=some (ds,ts)→aI (RC L I w (AL s.o)) cs us →
   (∀m∈ts.flatMap bG.lent, ∀b,(L m).ownBlock=some b→I' b)→us.length=ps.length→mB w b o us→s.o m=some ob→(∀j,o≤j→j<o+ps.length→fp L m ob b j)→tag.pair=[(n,m)]→(∀L',L' n = .pointer (some ⟨b,o,none⟩)→vE L L' s tag)→(∀j,o≤j→j<o+ps.length→xG L tag b j) →
   ∀{new:List Nm},(∀x∈(En.box i n ps).new,x∈new)→(tag.stays=true→n∈new∨L n = .pointer (some ⟨b,o,none⟩)) →
   ds.length=ps.length∧∃lv,xK L s w I' (En.box i n ps).names new lv (NZ (.box i n ps) ds) (tag::ts) ∧
    (∀L' A',(∀q∈lv,L' q.1=q.2)→RA L' I' w A' (J6 (.box i n ps) ds) (.pointer (some ⟨b,o,none⟩))):=by
  intro i n m ps cs ds ts tag ob b o us e r hl hul hb em hf ht htg htf new hnew hst
  obtain⟨lv,g1,g2⟩:=kP h hI e r hl
  have hdl:=(mP e).1
  refine⟨hdl,(n, .pointer (some ⟨b,o,none⟩))::lv,?_,fun L' A' hL=>⟨b,o,hL _ (List.mem_cons_self ..),rfl⟩⟩
  have hc:=tm (gK n) 0 ps ds hdl
  refine⟨by show _::lv.map Prod.fst=_;rw[g1.nm];rfl,by show _::(rV (gK n) 0 ps ds).map Prod.fst=_;rw[g1.om];rfl,fun L' A' hL hpt q hq=>?_,fun L' hL q hq b' o' hb'=>?_,fun hst' p hp=>?_,fun L' hL t ht'=>?_⟩
  ·have hpt':tE L L' ts:=fun t ht=>hpt t (List.mem_cons_of_mem _ ht)
   rcases List.mem_cons.1 hq with rfl|hq
   ·exact⟨b,o,us,hL _ (List.mem_cons_self ..),g2 L' A' (fun q hq=>hL q (List.mem_cons_of_mem _ hq)) hpt',hb⟩
   ·exact g1.ro L' A' (fun p hp=>hL p (List.mem_cons_of_mem _ hp)) hpt' q hq
  ·rcases List.mem_cons.1 hq with rfl|hq
   ·obtain⟨o2,q1,q2,q3⟩:=hb'
    have q0:L' n = .pointer (some ⟨b,o,none⟩):=hL _ (List.mem_cons_self ..)
    rw[show(n,Ob.box (fX (gK n) 0 ps ds)).1=n from rfl,q0]at q1
    injection q1 with q1;injection q1 with q1;injection q1 with q1 q1' _
    subst q1;subst q1'
    rw[hc]at q3
    exact⟨tag,List.mem_cons_self ..,m,ob,ht,em,hf o' q2 q3,htf o' q2 q3⟩
   ·obtain⟨t,e1,e2⟩:=g1.fp L' (fun p hp=>hL p (List.mem_cons_of_mem _ hp)) q hq b' o' hb'
    exact⟨t,List.mem_cons_of_mem _ e1,e2⟩
  ·rw[List.all_cons,Bool.and_eq_true]at hst'
   rcases List.mem_cons.1 hp with rfl|hp
   ·exact(hst hst'.1).imp id Eq.symm
   ·exact(g1.st hst'.2 p hp).imp (hnew _) id
  ·rcases List.mem_cons.1 ht' with rfl|ht'
   ·exact htg L' (hL (n,_) (List.mem_cons_self ..))
   ·exact g1.tg L' (fun p hp=>hL p (List.mem_cons_of_mem _ hp)) t ht'
 cases en with
 |val i p =>
  cases v with
  |c x =>
   have e:dZ s.o (pT i) 0 [p] [x]=some (ds,ts):=e
   obtain⟨lv,g1,g2⟩:=kP h hI (us:=[u]) e ⟨r,trivial⟩ hl
   have hdl:=(mP e).1
   refine⟨hdl,lv,g1,fun L' A' hL hpt _=>?_⟩
   have:=g2 L' A' hL hpt
   cases ds with
   |nil=>cases hdl
   |cons d ds=>exact this.1
  |g _=>cases e
  |tup _=>cases e
 |agg i ps =>
  cases v with
  |g cs =>
   have e:dZ s.o (pT i) 0 ps cs=some (ds,ts):=e
   obtain⟨vs,rfl,r⟩:=r
   obtain⟨lv,g1,g2⟩:=kP h hI e r hl
   exact⟨(mP e).1,lv,g1,fun L' A' hL hpt _=>⟨vs,rfl,g2 L' A' hL hpt⟩⟩
  |c _=>cases e
  |tup _=>cases e
 |box i n ps =>
  cases v with
  |c x =>
   cases x with
   |pb m off =>
    simp only[i8]at e
    split at e
    ·rename_i cs em
     cases k:(Nat.ble (off+ps.length) cs.length&&(Nat.blt 0 ps.length&&Ip ps))with
     |false=>rw[k]at e;cases e
     |true =>
      rw[k]at e
      simp only[cond_true]at e
      rw[Bool.and_eq_true]at k
      split at e
      ·rename_i ds' ts' e1
       obtain⟨rfl,rfl⟩:=Prod.mk.inj (Option.some.inj e)
       obtain⟨b,o,us,rfl,q1,q2,q3,q4,q5⟩:=rN h em r (Nat.le_of_ble_eq_true k.1)
       obtain⟨g0,lv,g1,g2⟩:=box (i:=i) e1 q2 (fun m hm=>hl m hm) q3 q4 em q5 (tag := .pb n m off ps.length) rfl (fun L' q=>⟨b,o,cs,em,Nat.le_of_ble_eq_true k.1,Nat.le_of_ble_eq_true (Bool.and_eq_true_iff.1 k.2).1,q1,q⟩) (fun j p1 p2=>⟨o,q1,p1,p2⟩) (fun _ q=>q) (fun hs=>by
        simp only[bG.stays,Bool.and_eq_true]at hs
        exact .inr (by rw[bx.1 hs.1,q1,Nat.eq_of_beq_eq_true hs.2];rfl))
       exact⟨g0,lv,g1,fun L' A' hL _ _=>g2 L' A' hL⟩
      ·cases e
    ·cases e
   |pa m sz k j =>
    simp only[i8]at e
    split at e
    ·rename_i q t xs em
     cases k2:(Nat.ble (j+ps.length) t.sz&&(Nat.blt 0 ps.length&&Kn ps))with
     |false=>rw[k2]at e;cases e
     |true =>
      rw[k2]at e
      simp only[cond_true]at e
      rw[Bool.and_eq_true]at k2
      split at e
      ·rename_i ds' ts' e1
       obtain⟨rfl,rfl⟩:=Prod.mk.inj (Option.some.inj e)
       obtain⟨b,o,us,rfl,q2,q3,q4,q5,q6,rfl,l,c,q7⟩:=DO h em r (Nat.le_of_ble_eq_true k2.1)
       obtain⟨g0,lv,g1,g2⟩:=box (i:=i) e1 q2 (fun m hm=>hl m hm) q3 q4 em (fun j _ _=>q5 j) (tag := .pa n m k j ps.length) rfl (fun L' q8=>⟨b,q,t,xs,l,c,em,Nat.le_of_ble_eq_true k2.1,Nat.le_of_ble_eq_true (Bool.and_eq_true_iff.1 k2.2).1,q6,q7,q8⟩) (fun _ _ _=>q5 0) (fun _ q=>q) (fun hs=>by cases hs)
       exact⟨g0,lv,g1,fun L' A' hL _ _=>g2 L' A' hL⟩
      ·cases e
    ·cases e
   |_=>cases e
  |g _=>cases e
  |tup _=>cases e
 |ptr i n off =>
  cases v with
  |c x =>
   cases x with
   |pb m k =>
    simp only[i8]at e
    cases k2:(Nm.eqb m n&&Nat.beq k off)with
    |false=>rw[k2]at e;cases e
    |true =>
     rw[k2]at e
     obtain⟨rfl,rfl⟩:=Prod.mk.inj (Option.some.inj e)
     rw[Bool.and_eq_true]at k2
     have h1:=bx.1 k2.1
     have h2:=Nat.eq_of_beq_eq_true k2.2
     subst h1;subst h2
     refine⟨rfl,[],xK.nil,fun L' A' _ _ hp=>?_⟩
     obtain⟨b,o,r1,r2⟩:=r
     exact⟨b,o,by rw[hp i m k rfl];exact r1,r2⟩
   |_=>cases e
  |g _=>cases e
  |tup _=>cases e
 |nbox i n ps =>
  cases v with
  |c x =>
   cases x with
   |pb m off =>
    cases off with
    |succ _=>cases e
    |zero =>
    simp only[i8]at e
    split at e
    ·rename_i cs em
     cases k:(Nat.beq ps.length cs.length&&(Nat.blt 0 ps.length&&Ip ps))with
     |false=>rw[k]at e;cases e
     |true =>
      rw[k]at e
      simp only[cond_true]at e
      rw[Bool.and_eq_true]at k
      have kl:=Nat.eq_of_beq_eq_true k.1
      split at e
      ·rename_i ds' ts' e1
       obtain⟨rfl,rfl⟩:=Prod.mk.inj (Option.some.inj e)
       obtain⟨b,o,us,rfl,q1,q2,q3,q4,q5⟩:=rN h (len:=cs.length) em r (by omega)
       rw[List.drop_zero,List.take_length]at q2
       obtain⟨g0,lv,g1,g2⟩:=box (i:=i) e1 q2 (fun m hm=>hl m hm) (by rw[q3,kl]) q4 em (fun j z1 z2=>q5 j z1 (by rw[←kl];exact z2)) (tag := .mx n m ps.length) rfl (fun L' q=>⟨b,o,cs,em,by omega,Nat.le_of_ble_eq_true (Bool.and_eq_true_iff.1 k.2).1,q1,q⟩) (fun j p1 p2=>⟨o,q1,p1,p2⟩) (new:=En.new (.nbox i n ps)) (fun _ q=>List.mem_cons_of_mem _ q) (fun _ => .inl (List.mem_cons_self ..))
       exact⟨g0,lv,g1,fun L' A' hL _ _=>g2 L' A' hL⟩
      ·cases e
    ·cases e
   |_=>cases e
  |g _=>cases e
  |tup _=>cases e
 |hid n ps =>
  have e:(match s.o n with
   |some (.box cs)=>bif Nat.beq ps.length cs.length&&(Nat.blt 0 ps.length&&Ip ps)then(match dZ s.o (gK n) 0 ps cs with
    |some (ds,ts)=>some (ds,bG.pb n n 0 ps.length::ts)
    |none=>none)else none
   |_=>none)=some (ds,ts):=by trivial
  split at e
  ·rename_i cs em
   cases k:(Nat.beq ps.length cs.length&&(Nat.blt 0 ps.length&&Ip ps))with
   |false=>rw[k]at e;cases e
   |true =>
    rw[k]at e
    simp only[cond_true]at e
    rw[Bool.and_eq_true]at k
    have kl:=Nat.eq_of_beq_eq_true k.1
    split at e
    ·rename_i ds' ts' e1
     obtain⟨rfl,rfl⟩:=Prod.mk.inj (Option.some.inj e)
     obtain⟨b0,o0,vs0,hb0,_,_⟩:=h.obj n _ em
     obtain⟨b,o,us,_,q1,q2,q3,q4,q5⟩:=rN h (u := .pointer (some ⟨b0,o0+0,none⟩)) (len:=cs.length) em ⟨b0,o0,hb0,rfl⟩ (by omega)
     rw[List.drop_zero,List.take_length]at q2
     obtain⟨g0,lv,g1,g2⟩:=box (i:=0) e1 q2 (fun m hm=>hl m hm) (by rw[q3,kl]) q4 em (fun j z1 z2=>q5 j z1 (by rw[←kl];exact z2)) (tag := .pb n n 0 ps.length) rfl (fun L' q=>⟨b,o,cs,em,by omega,Nat.le_of_ble_eq_true (Bool.and_eq_true_iff.1 k.2).1,q1,q⟩) (fun j p1 p2=>⟨o,q1,p1,p2⟩) (new:=En.new (.hid n ps)) (fun _ q=>q) (fun _ => .inr q1)
     exact⟨g0,lv,g1,fun L' A' hL _ _=>trivial⟩
    ·cases e
  ·cases e
 |no i =>
  have e:some ([],[])=some (ds,ts):=by trivial
  obtain⟨rfl,rfl⟩:=Prod.mk.inj (Option.some.inj e)
  exact⟨rfl,[],xK.nil,fun L' A' _ _ _=>trivial⟩
theorem tp (h:bD X L I s a w){I':Nat→Prop}(hI:∀b,I b→I' b):∀{es:List En}{vs:List AV}{ds:List DV}{ts:List bG}{us:List Value},gM s.o es vs=some (ds,ts)→aI (RA L I w (AL s.o)) vs us →
  (∀m∈ts.flatMap bG.lent, ∀b,(L m).ownBlock=some b→I' b) →
  ∃lv,xK L s w I' (es.flatMap En.names) (es.flatMap En.new) lv (eO es ds) ts ∧
   (∀L' A',(∀q∈lv,L' q.1=q.2)→tE L L' ts→(∀i n k,En.ptr i n k∈es→L' n=L n)→aI (fun(p:Nat×AV) u=>RA L' I' w A' p.2 u) (cy es ds) us)
 |[],[],_,_,us,e,r,_=>by
  obtain⟨rfl,rfl⟩:=Prod.mk.inj (Option.some.inj e)
  cases us with
  |nil=>exact⟨[],xK.nil,fun _ _ _ _ _=>trivial⟩
  |cons _ _=>exact r.elim
 |[],_::_,_,_,_,e,_,_=>by cases e
 |_::_,[],_,_,_,e,_,_=>by cases e
 |en::es,v::vs,_,_,us,e,r,hl=>by
  simp only[gM]at e
  split at e
  ·rename_i d t ds ts e1 e2
   obtain⟨rfl,rfl⟩:=Prod.mk.inj (Option.some.inj e)
   cases us with
   |nil=>exact r.elim
   |cons u us =>
    obtain⟨r1,r2⟩:=r
    rw[List.flatMap_append]at hl
    obtain⟨g0,l1,g1,g2⟩:=AC h hI e1 r1 (fun m hm=>hl m (List.mem_append_left _ hm))
    obtain⟨l2,g3,g4⟩:=tp h hI e2 r2 (fun m hm=>hl m (List.mem_append_right _ hm))
    refine⟨l1++l2,?_,fun L' A' hL hpt hp=>⟨?_,?_⟩⟩
    ·show xK L s w I' (en.names++es.flatMap En.names) (en.new++es.flatMap En.new) _ (NZ en ((d++ds).take en.cells.length)++eO es ((d++ds).drop en.cells.length)) _
     rw[←g0,List.take_left,List.drop_left]
     exact g1.append g3
    ·show RA L' I' w A' (J6 en ((d++ds).take en.cells.length)) u
     rw[←g0,List.take_left]
     exact g2 L' A' (fun q hq=>hL q (List.mem_append_left _ hq)) (fun t ht=>hpt t (List.mem_append_left _ ht)) (fun i n k q=>hp i n k (q▸List.mem_cons_self ..))
    ·show aI (fun(p:Nat×AV) u=>RA L' I' w A' p.2 u) (cy es ((d++ds).drop en.cells.length)) us
     rw[←g0,List.drop_left]
     exact g4 L' A' (fun q hq=>hL q (List.mem_append_right _ hq)) (fun t ht=>hpt t (List.mem_append_right _ ht)) (fun i n k q=>hp i n k (List.mem_cons_of_mem _ q))
  ·cases e
def n7 (l:List (Nm×Value)) (L:Nm→Value) (n:Nm):Value:=match l with
 |[]=>L n
 |p::r=>bif Nm.eqb p.1 n then p.2 else n7 r L n
theorem xb{L:Nm→Value}:∀{l:List (Nm×Value)},(l.map Prod.fst).Nodup→∀p∈l,n7 l L p.1=p.2
 |[],_,_,h=>by cases h
 |q::l,hn,p,h=>by
  rw[List.map_cons,List.nodup_cons]at hn
  unfold n7
  rcases List.mem_cons.1 h with rfl|h
  ·rw[mw];rfl
  ·have:q.1≠p.1:=fun e=>hn.1 (e▸List.mem_map.2 ⟨p,h,rfl⟩)
   rw[a0.2 this]
   exact xb hn.2 p h
theorem xa{L:Nm→Value}{n:Nm}:∀{l:List (Nm×Value)},n∉l.map Prod.fst→n7 l L n=L n
 |[],_=>rfl
 |q::l,h=>by
  rw[List.map_cons,List.mem_cons]at h
  have:q.1≠n:=fun e=>h (.inl e.symm)
  unfold n7
  rw[a0.2 this]
  exact xa fun e=>h (.inr e)
theorem kX{n:Nm}{ob:Ob}:∀{l:List (Nm×Ob)},a5 l n=some ob→(n,ob)∈l
 |[],h=>by cases h
 |q::l,h=>by
  unfold a5 at h
  cases e:Nm.eqb q.1 n with
  |true =>
   grind [bx]
  |false=>rw[e]at h;exact List.mem_cons_of_mem _ (kX h)
theorem tW (l:List (Nat×AV)) (i:Nat):(∃p∈l,p.1=i∧cY l i=p.2)∨((∀p∈l,p.1≠i)∧cY l i = .c .dead):=by
 induction l with
 |nil=>simp_all [cY]
 |cons q l ih =>
  unfold cY
  cases e:Nat.beq q.1 i with
  |true=>simp_all
  |false =>
   rcases ih with⟨p,h1,h2⟩|⟨h1,h2⟩
   ·grind
   ·refine .inr ⟨fun p hp=>?_,h2⟩
    rcases List.mem_cons.1 hp with rfl|hp
    ·exact Nat.ne_of_beq_eq_false e
    ·grind
theorem wH:∀{l:List (Nm×Nm)},(l.map Prod.snd).Nodup→∀{a b n:Nm},(a,n)∈l→(b,n)∈l→a=b
 |[],_,_,_,_,h,_=>by cases h
 |q::l,hn,a,b,n,h,g=>by
  rw[List.map_cons,List.nodup_cons]at hn
  rcases List.mem_cons.1 h with h1|h1
  ·grind
  ·rcases List.mem_cons.1 g with g1|g1
   ·grind
   ·exact wH hn.2 h1 g1
theorem uM:∀{es:List En}{ds:List DV}{p:Nat×AV},p∈cy es ds→∃e∈es,p.1=e.slot
 |[],_,_,h=>by cases h
 |e::es,ds,p,h=>by
  rcases List.mem_cons.1 h with rfl|h
  ·simp_all
  ·obtain⟨e',h1,h2⟩:=uM h
   exact⟨e',List.mem_cons_of_mem _ h1,h2⟩
theorem aI.mem {α β:Type}{R:α→β→Prop}:∀{as:List α}{bs:List β},aI R as bs→∀{a:α},a∈as→∃(i:Nat) (b:β),as[i]?=some a∧bs[i]?=some b∧R a b
 |[],_,_,_,h=>by cases h
 |x::as,[],h,_,_=>h.elim
 |x::as,y::bs,⟨h1,h2⟩,a,h=>by
  rcases List.mem_cons.1 h with rfl|h
  ·exact⟨0,y,rfl,rfl,h1⟩
  ·obtain⟨i,b,g1,g2,g3⟩:=aI.mem h2 h
   exact⟨i+1,b,g1,g2,g3⟩
theorem Ac:∀{es:List En}{ds:List DV}{i:Nat}{p:Nat×AV},(cy es ds)[i]?=some p→∃e,es[i]?=some e∧p.1=e.slot
 |[],_,_,_,h=>by cases h
 |e::es,ds,0,p,h=>by grind [cy,En.slot]
 |e::es,ds,i+1,p,h=>Ac (es:=es) (ds:=ds.drop e.cells.length) (i:=i) h
theorem ie{m:Nm}:∀{ts:List bG},fZ m ts = .no∨(fZ m ts∈ts∧(fZ m ts).new=some m)
 |[] => .inl rfl
 |t::r=>by
  unfold fZ
  cases e:t.new with
  |none =>
   dsimp only
   rcases ie (m:=m) (ts:=r)with h|⟨h1,h2⟩
   ·exact .inl h
   ·simp_all
  |some k =>
   dsimp only
   cases e2:Nm.eqb k m with
   |true=>simp_all [bx]
   |false =>
    rcases ie (m:=m) (ts:=r)with h|⟨h1,h2⟩
    ·exact .inl h
    ·simp_all
theorem JS{L':Nm→Value}{ts:List bG}(ht:(ts.flatMap bG.pts).all (JT ts)=true) (htg:∀t∈ts,vE L L' s t):tE L L' ts:=by
 intro t h1 p hp
 rw[List.all_eq_true]at ht
 have k:=ht p (List.mem_flatMap.2 ⟨t,h1,hp⟩)
 unfold JT at k
 have fs:=ie (m:=p.1.1) (ts:=ts)
 split at k
 ·rename_i k0 m off len e
  rw[Bool.and_eq_true]at k
  rw[e]at fs
  rcases fs with fs|⟨f1,f2⟩
  ·cases fs
  ·obtain⟨b,o,cs,_,_,_,g1,g2⟩:=htg _ f1
   have:k0=p.1.1:=Option.some.inj f2
   rw[this]at g2
   have k1:=bx.1 k.1
   subst k1
   exact⟨b,o,_,g1,g2,by have:=Nat.eq_of_beq_eq_true k.2;omega⟩
 ·rename_i k0 m len e
  rw[Bool.and_eq_true]at k
  rw[e]at fs
  rcases fs with fs|⟨f1,f2⟩
  ·cases fs
  ·obtain⟨b,o,cs,_,_,_,g1,g2⟩:=htg _ f1
   have:k0=p.1.1:=Option.some.inj f2
   rw[this]at g2
   have k1:=bx.1 k.1
   subst k1
   exact⟨b,o,_,g1,g2,by have:=Nat.eq_of_beq_eq_true k.2;omega⟩
 ·cases k
theorem bD.reshape (h:bD X L I s a w){I':Nat→Prop}(hI:∀b,I b→I' b){N:Nat}{es:List En}{vs:List AV}{ds:List DV}{ts:List bG}{us:List Value}(e:gM s.o es vs=some (ds,ts)) (r:aI (RA L I w (AL s.o)) vs us)
  (hl:∀b,I' b↔I b∨∃m∈ts.flatMap bG.lent,(L m).ownBlock=some b)
  (hs:il N es=true) (ht:iq ts=true){Y:oC}(hK:Y.K=X.K) (hN:Y.N=N){a':Act}(ha:a'.defers=[]) (hz:a'.tmps.size=N) (hu:∀(i:Nat) (e:En) (u:Value),es[i]?=some e→us[i]?=some u→a'.tmps.getD e.slot undef=u)
  (hown:∀t n ob b o,t∈ts→(∃m,t.pair=[(m,n)])→s.o n=some ob→fp L n ob b o→xG L t b o→b<Y.w0.heap.size→Y.E b o)
  (himm:∀b,I' b→Y.I0 b∨Y.w0.heap.size≤b∨∀o,Y.E b o) (hsub:∀b,Y.I0 b→I' b) (hstep:bT Y.E Y.w0 w)
  (hptr:ts.all bG.stays=true∨∀i n k,En.ptr i n k∉es) :
  ∃L',bD Y L' I' (D8 es ds) a' w∧(ts.all bG.stays=true→∀n,f6 n=true→L' n=L n)∧(∀t∈ts,vE L L' s t):=by
 unfold il at hs
 rw[Bool.and_eq_true,Bool.and_eq_true,ju,List.all_eq_true,List.all_eq_true]at hs
 obtain⟨hs1,hs2,hs3⟩:=hs
 unfold iq at ht
 rw[Bool.and_eq_true,Bool.and_eq_true,ju,vz]at ht
 obtain⟨ht1,ht2,ht3⟩:=ht
 obtain⟨lv,g,gv⟩:=tp h hI e r (fun m hm b hb=>(hl b).2 (.inr ⟨m,hm,hb⟩))
 have hnd:(lv.map Prod.fst).Nodup:=by rw[g.nm];exact hs1
 have hL:∀p∈lv,n7 lv L p.1=p.2:=xb hnd
 have same:ts.all bG.stays=true→∀n,n∉es.flatMap En.new→n7 lv L n=L n:=by
  intro hst n hn
  by_cases q:n∈lv.map Prod.fst
  ·obtain⟨p,hp,rfl⟩:=List.mem_map.1 q
   rcases g.st hst p hp with q1|q1
   ·trivial
   ·grind
  ·exact xa q
 have htg:=g.tg _ hL
 have hpts:tE L (n7 lv L) ts:=JS ht3 htg
 have hlt:∀m∈ts.flatMap bG.lent, ∃e t xs,s.o m=some (.arr e t xs):=by
  intro m hm
  obtain⟨t,h1,h2⟩:=List.mem_flatMap.1 hm
  have h3:=htg t h1
  cases t<;>simp only[bG.lent,List.mem_singleton,List.not_mem_nil]at h2
  subst h2
  exact h3
 have hptr':∀i n k,En.ptr i n k∈es→n7 lv L n=L n:=by
  grind [fI]
 refine⟨n7 lv L,⟨ha,by rw[hz,hN],fun i _=>?_,fun i hi=>?_,fun n ob q=>?_,fun n m x y ex ey b o qx qy=>?_,fun n ob q b o qf=>?_,fun b hb=>⟨?_,himm b hb⟩,hsub,hstep,hK▸h.glob.1,fun b q=>hI b (h.glob.2 b (hK▸q))⟩,fun hst n hn=>same hst n fun q=>?_,htg⟩
 ·rcases tW (cy es ds) i with⟨p,hp,rfl,h2⟩|⟨_,h2⟩
  ·have h3:=gv (n7 lv L) (AL (D8 es ds).o) hL hpts hptr'
   obtain⟨j,u,j1,j2,j3⟩:=h3.mem hp
   obtain⟨en,e1,e2⟩:=Ac j1
   show RA _ I' w _ (cY (cy es ds) p.1) _
   rw[h2,e2,hu j en u e1 j2]
   exact j3
  ·show RA _ I' w _ (cY (cy es ds) i) _
   rw[h2];trivial
 ·show cY (cy es ds) i=_
  rcases tW (cy es ds) i with⟨p,hp,rfl,h2⟩|⟨_,h2⟩
  ·obtain⟨en,e1,e2⟩:=uM hp
   have h5:=hs3 _ e1
   simp only[Bool.and_eq_true]at h5
   have h6:en.slot+1≤N:=Nat.le_of_ble_eq_true h5.1
   omega
  ·exact h2
 ·exact g.ro _ _ hL hpts (n,ob) (kX q)
 ·obtain⟨t1,p0,n',ob',p1,p2,p3,_⟩:=g.fp _ hL _ (kX ex) b o qx
  obtain⟨t2,q0,m',ob2,q1,q2,q3,_⟩:=g.fp _ hL _ (kX ey) b o qy
  obtain rfl:=h.sep n' m' ob' ob2 p2 q2 b o p3 q3
  exact wH ht1 (List.mem_flatMap.2 ⟨t1,p0,by rw[p1];exact List.mem_singleton.2 rfl⟩) (List.mem_flatMap.2 ⟨t2,q0,by rw[q1];exact List.mem_singleton.2 rfl⟩)
 ·obtain⟨t1,p0,n',ob',p1,p2,p3,p4⟩:=g.fp _ hL _ (kX q) b o qf
  obtain⟨h1,h2,h3⟩:=h.own n' ob' p2 b o p3
  have hex:n'∈(ts.flatMap bG.pair).map Prod.snd:=List.mem_map.2 ⟨(n,n'),List.mem_flatMap.2 ⟨t1,p0,by rw[p1];exact List.mem_singleton.2 rfl⟩,rfl⟩
  refine⟨h1,fun q2=>?_,hown t1 n' ob' b o p0 ⟨_,p1⟩ p2 p3 p4⟩
  rcases(hl b).1 q2 with q2|⟨m,hm,hb⟩
  ·exact h2 q2
  ·obtain⟨e',t',xs',em⟩:=hlt m hm
   obtain rfl:=h.sep n' m ob' _ p2 em b o p3 hb
   exact ht2 n' hm hex
 ·rcases(hl b).1 hb with hb|⟨m,hm,hb⟩
  ·exact(h.imm b hb).1
  ·obtain⟨e',t',xs',em⟩:=hlt m hm
   exact(h.own m _ em b 0 hb).1
 ·have:=hs2 n q
  rw[hn]at this
  cases this
def EJ (L:Nm→Value) (I:Nat→Prop) (ts:List bG) (b:Nat):Prop:=I b∨∃m∈ts.flatMap bG.lent,(L m).ownBlock=some b
theorem F2 (h:bD X L I s a w){ts:List bG}(hlt:∀m∈ts.flatMap bG.lent, ∃e t xs,s.o m=some (.arr e t xs)):∀b,EJ L I ts b→X.I0 b∨X.w0.heap.size≤b∨∀o,X.E b o:=by
 intro b hb
 rcases hb with hb|⟨m,hm,hb⟩
 ·exact(h.imm b hb).2
 ·obtain⟨e,t,xs,em⟩:=hlt m hm
  rcases Nat.lt_or_ge b X.w0.heap.size with q|q
  ·exact .inr (.inr fun o=>(h.own m _ em b o hb).2.2 q)
  ·omega
def fK (o:Nm→Option Ob) (m:Nm):Prop:=∃e t xs,o m=some (.arr e t xs)
theorem Bm{o:Nm→Option Ob}{n:Nm}{p:PS}{c:CV}{d:DV}{tag:bG}(e:cR o n p c=some (d,tag)):∀m∈tag.lent,fK o m:=by
 cases p with
 |i t =>
  simp only[cR]at e
  split at e
  ·grind [split,ls,cR,bG.lent,fK]
  ·grind [cR,bG.lent,fK]
 |o q t =>
  simp only[cR]at e
  split at e
  ·grind [cR,bG.lent,fK]
  ·grind [cR,bG.lent,fK]
  ·cases e
 |b q t =>
  simp only[cR]at e
  split at e
  ·grind [cR,bG.lent,fK]
  ·cases e
 |k mk q t =>
  simp only[cR]at e
  split at e
  ·grind [cR,bG.lent,fK]
  ·cases e
 |q m0 off =>
  simp only[cR]at e
  split at e
  ·grind [cR,bG.lent,fK]
  ·cases e
 |f g cs =>
  simp only[cR]at e
  split at e
  ·grind [cR,bG.lent,fK]
  ·cases e
 |e =>
  simp only[cR]at e
  split at e
  ·grind [cR,bG.lent,fK]
  ·grind [cR,bG.lent,fK]
  ·cases e
 |l =>
  grind [cR,split,bG.lent,fK]
 |m kt vt ka =>
  simp only[cR]at e
  split at e
  ·grind [cR,bG.lent,fK]
  ·cases e
theorem gn{o:Nm→Option Ob}{nm:Nat→PS→Nm}:∀{ps:List PS}{cs:List CV}{k:Nat}{ds:List DV}{ts:List bG},dZ o nm k ps cs=some (ds,ts)→∀m∈ts.flatMap bG.lent,fK o m
 |[],[],_,_,_,e=>by simp_all [dZ,bG.lent,fK]
 |[],_::_,_,_,_,e=>by cases e
 |_::_,[],_,_,_,e=>by cases e
 |p::ps,c::cs,k,_,_,e=>by
  simp only[dZ]at e
  split at e
  ·rename_i d t ds ts e1 e2
   obtain⟨rfl,rfl⟩:=Prod.mk.inj (Option.some.inj e)
   intro m hm
   rw[List.flatMap_cons]at hm
   rcases List.mem_append.1 hm with hm|hm
   ·exact Bm e1 m hm
   ·exact gn e2 m hm
  ·cases e
theorem BK{o:Nm→Option Ob}{en:En}{v:AV}{ds:List DV}{ts:List bG}(e:i8 o en v=some (ds,ts)):∀m∈ts.flatMap bG.lent,fK o m:=by
 have two:∀{q:Option (List DV×List bG)}{k:Bool}{tag:bG},tag.lent=[]→(∀ds ts,q=some (ds,ts)→∀m∈ts.flatMap bG.lent,fK o m) →
   (bif k then(match q with|some (ds,ts)=>some (ds,tag::ts)|none=>none)else none)=some (ds,ts)→∀m∈ts.flatMap bG.lent,fK o m:=by
  intro q k tag ht hq e
  cases k with
  |false=>cases e
  |true =>
   rw[cond_true]at e
   cases q with
   |none=>cases e
   |some p =>
    obtain⟨ds',ts'⟩:=p
    obtain⟨rfl,rfl⟩:=Prod.mk.inj (Option.some.inj e)
    intro m hm
    rw[List.flatMap_cons,ht]at hm
    exact hq _ _ rfl m hm
 cases en with
 |val i p =>
  cases v with
  |c x=>exact gn e
  |g _=>cases e
  |tup _=>cases e
 |agg i ps =>
  cases v with
  |g cs=>exact gn e
  |c _=>cases e
  |tup _=>cases e
 |box i n ps =>
  cases v with
  |c x =>
   cases x with
   |pb m off =>
    grind [i8,split,gn,bG.lent,fK]
   |pa m sz k j =>
    grind [i8,split,gn,bG.lent,fK]
   |_=>cases e
  |g _=>cases e
  |tup _=>cases e
 |ptr i n off =>
  cases v with
  |c x =>
   cases x with
   |pb m k =>
    grind [i8,Nm.eqb]
   |_=>cases e
  |g _=>cases e
  |tup _=>cases e
 |nbox i n ps =>
  cases v with
  |c x =>
   cases x with
   |pb m off =>
    cases off with
    |succ _=>cases e
    |zero =>
    simp only[i8]at e
    split at e
    ·grind [gn,i8,bG.lent,fK]
    ·cases e
   |_=>cases e
  |g _=>cases e
  |tup _=>cases e
 |hid n ps =>
  grind [Ip,dZ,gK,split,gn,i8,bG.lent,fK]
 |no i =>
  simp_all [i8,bG.lent,fK]
theorem u4{o:Nm→Option Ob}:∀{es:List En}{vs:List AV}{ds:List DV}{ts:List bG},gM o es vs=some (ds,ts)→∀m∈ts.flatMap bG.lent,fK o m
 |[],[],_,_,e=>by simp_all [gM,bG.lent,fK]
 |[],_::_,_,_,e=>by cases e
 |_::_,[],_,_,e=>by cases e
 |en::es,v::vs,_,_,e=>by
  simp only[gM]at e
  split at e
  ·rename_i d t ds ts e1 e2
   obtain⟨rfl,rfl⟩:=Prod.mk.inj (Option.some.inj e)
   intro m hm
   rw[List.flatMap_append]at hm
   rcases List.mem_append.1 hm with hm|hm
   ·exact BK e1 m hm
   ·exact u4 e2 m hm
  ·cases e
theorem uk (h:bD X L I s a w){N:Nat}{es:List En}{vs:List AV}{us:List Value}{x:TD (bg es)}(e:G3 N es vs s.o=some x) (r:aI (RA L I w (AL s.o)) vs us){a':Act}(ha:a'.defers=[]) (hz:a'.tmps.size=N)
  (hu:∀(i:Nat) (e:En) (u:Value),es[i]?=some e→us[i]?=some u→a'.tmps.getD e.slot undef=u) :
  ∃L' I',bD { X with N:=N } L' I' (dO es x) a' w∧(∀b,I b→I' b)∧∀n,f6 n=true→L' n=L n:=by
 unfold G3 at e
 split at e
 ·rename_i ds ts e1
  cases k:(il N es&&(iq ts&&ts.all bG.stays))with
  |false=>rw[k]at e;cases e
  |true =>
   rw[k]at e
   simp only[cond_true]at e
   rw[Bool.and_eq_true,Bool.and_eq_true]at k
   have hlt:=u4 e1
   obtain⟨L',h1,h2,_⟩:=h.reshape (I':=EJ L I ts) (Y:={ X with N:=N }) (fun b q=>Or.inl q) e1 r (fun _=>Iff.rfl) k.1 k.2.1 rfl rfl ha hz hu (fun _ n ob b o _ _ en q _=>(h.own n ob en b o q).2.2) (F2 h hlt) (fun b q=>Or.inl (h.sub b q)) h.step (.inl k.2.2)
   refine⟨L',EJ L I ts,?_,fun b q=>Or.inl q,h2 k.2.2⟩
   unfold dO
   rw[lJ e]
   exact h1
 ·cases e
end
section
variable{X:oC}{L:Nm→Value}{I:Nat→Prop}{s:St}{a:Act}{w:World}
def al:Ob→Option (Nat×Nat)
 | .arr _ t xs=>some (t.sz,List.length xs)
 |_=>none
theorem JH (o:Nm→Option Ob) (n:Nm):AL o n=(o n).bind al:=by
 unfold AL
 cases o n with
 |none=>rfl
 |some ob=>cases ob<;>rfl
def gB (s:St) (n:Nm):Prop:=(∀i,¬aJ (s.t i) n)∧(∀m cs,s.o m=some (.box cs)→¬bM cs n)∧s.o n=none
theorem rU (s:St) (n:Nm):gB (s.drop n) n :=
 ⟨fun i h=>qj h rfl,fun m cs e h=>vj e h rfl,Et s n⟩
theorem gB.drop{n m:Nm}(h:gB s n):gB (s.drop m) n:=by
 refine⟨fun i q=>h.1 i (aJ.drop q).1,fun k cs e q=>?_,?_⟩
 ·obtain⟨_,ob,e1,e2⟩:=lY e
  cases ob with
  |box ds=>obtain rfl:=Ob.box.inj e2;exact h.2.1 k ds e1 (bM.drop q).1
  |arr=>cases e2
  |mp=>cases e2
 ·simp_all [CV.drop,AV.drop,St.drop,gB]
theorem bD.drops:∀(ns:List Nm){s:St},bD X L I s a w→bD X L I (s.drops ns) a w
 |[],_,h=>h
 |n::r,s,h=>bD.drops r (s:=s.drop n) (h.drop n (L':=L) (fun _ _=>rfl))
theorem gB.drops{n:Nm}:∀(ns:List Nm){s:St},gB s n→gB (s.drops ns) n
 |[],_,h=>h
 |m::ns,s,h=>gB.drops ns (s:=s.drop m) (gB.drop h)
theorem qL{n:Nm}:∀(ns:List Nm){s:St},n∈ns→gB (s.drops ns) n
 |m::ns,s,h=>by
  rcases List.mem_cons.1 h with rfl|h
  ·exact gB.drops ns (s:=s.drop n) (rU s n)
  ·exact qL ns (s:=s.drop m) h
theorem C4{n:Nm}{ob:Ob}:∀{ns:List Nm}{s:St},(s.drops ns).o n=some ob→n∉ns∧∃ob',s.o n=some ob'∧al ob=al ob'∧∀L b o,fp L n ob b o↔fp L n ob' b o
 |[],s,h=>⟨by simp,ob,h,rfl,fun _ _ _=>Iff.rfl⟩
 |m::ns,s,h=>by
  obtain⟨h1,ob',h2,h3,h4⟩:=C4 (ns:=ns) (s:=s.drop m) h
  obtain⟨h5,ob2,h6,rfl⟩:=lY h2
  refine⟨by simp[h1,h5],ob2,h6,by rw[h3];cases ob2<;>rfl,fun L b o=>(h4 L b o).trans m8⟩
theorem bD.over (h:bD X L I s a w){w':World}{T:Nat→Nat→Prop}(hs:bT T w w'){ups:List (Nm×Ob)}{L2:Nm→Value}{I2:Nat→Prop}{F:Nm→Prop}
  (hL:∀n,¬F n→L2 n=L n) (hF:∀n,F n→gB s n)
  (hU:∀n ob',a5 ups n=some ob'→F n∨∃ob,s.o n=some ob∧al ob'=al ob)
  (hI:∀b,I b→I2 b) (hIT:∀b j,I b→¬T b j) (hI2:∀b,I2 b→b<w'.heap.size∧(X.I0 b∨X.w0.heap.size≤b∨∀o,X.E b o))
  (hOld:∀n ob,s.o n=some ob→a5 ups n=none→∀b o,fp L n ob b o→¬T b o∧¬I2 b)
  (hNew:∀n ob',a5 ups n=some ob'→RO L2 I2 w' (AL (s.over ups).o) n ob'∧∀b o,fp L2 n ob' b o→b<w'.heap.size∧¬I2 b∧(b<X.w0.heap.size→X.E b o) ∧
   (∀m ob,s.o m=some ob→a5 ups m=none→¬fp L m ob b o)∧∀m ob2,a5 ups m=some ob2→fp L2 m ob2 b o→m=n)
  (hE:∀b j,T b j→b<X.w0.heap.size→X.E b j):bD X L2 I2 (s.over ups) a w':=by
 have hw:jk I w w':=fun b hb=>hs.same (h.imm b hb).1 (fun j=>hIT b j hb)
 have oth:∀n,a5 ups n=none→(s.over ups).o n=s.o n:=fun n q=>by
  grind [St.over,gB,al,fp,RO,AL]
 have new:∀n ob,a5 ups n=some ob→(s.over ups).o n=some ob:=fun n ob q=>by
  grind [St.over,gB,al,fp,RO,AL]
 have key:∀m,¬F m→L2 m=L m∧AL (s.over ups).o m=AL s.o m:=fun m hm=>by
  grind [JH,a5,St.over,gB,al,fp,RO,AL]
 have fpL:∀n ob b o,s.o n=some ob→(fp L2 n ob b o↔fp L n ob b o):=fun n ob b o e=>by
  have:L2 n=L n:=hL n (fun q=>by rw[(hF n q).2.2]at e;cases e)
  cases ob with
  |box cs=>simp only[fp,this]
  |arr e t xs=>simp only[fp,this]
  |mp _ _ _ _=>simp only[fp,this]
 refine⟨h.defers,h.size,fun i hi=>?_,h.hi,fun n ob e=>?_,fun n m x y ex ey b o qx qy=>?_,fun n ob e b o q=>?_,hI2,fun b hb=>hI b (h.sub b hb),h.step.trans hs hE,(h.globs hw).1,fun b q=>hI b (h.glob.2 b q)⟩
 ·exact RA.mono hI hw (fun m hm=>key m fun q=>(hF m q).1 i hm) (h.tmp i hi)
 ·cases q:a5 ups n with
  |some ob' =>
   rw[new n ob' q]at e
   obtain rfl:=Option.some.inj e
   exact(hNew n _ q).1
  |none =>
   rw[oth n q]at e
   have hn:¬F n:=fun z=>by rw[(hF n z).2.2]at e;cases e
   have r:=RO.step hs hw (fun b o z=>(hOld n ob e q b o z).1) (h.obj n ob e)
   cases ob with
   |box cs =>
    obtain⟨b,off,vs,h1,h2,h3⟩:=r
    exact⟨b,off,vs,by rw[hL n hn];exact h1,A3.mono hI (fun _ _=>rfl) (fun m hm=>key m fun z=>(hF m z).2.1 n cs e hm) h2,h3⟩
   |arr e' t xs =>
    obtain⟨vs,h1,h2⟩:=r
    exact⟨vs,by rw[hL n hn];exact h1,h2.mono hI (fun _ _=>rfl)⟩
   |mp kt vt ka kvs =>
    obtain⟨b,es,h1,h2⟩:=r
    exact⟨b,es,by rw[hL n hn];exact h1,h2⟩
 ·cases q:a5 ups n with
  |some x' =>
   rw[new n x' q]at ex
   obtain rfl:=Option.some.inj ex
   obtain⟨_,hx⟩:=hNew n _ q
   cases q2:a5 ups m with
   |some y' =>
    rw[new m y' q2]at ey
    obtain rfl:=Option.some.inj ey
    exact((hx b o qx).2.2.2.2 m _ q2 qy).symm
   |none =>
    rw[oth m q2]at ey
    exact absurd ((fpL m y b o ey).1 qy) ((hx b o qx).2.2.2.1 m y ey q2)
  |none =>
   rw[oth n q]at ex
   cases q2:a5 ups m with
   |some y' =>
    rw[new m y' q2]at ey
    obtain rfl:=Option.some.inj ey
    obtain⟨_,hy⟩:=hNew m _ q2
    exact absurd ((fpL n x b o ex).1 qx) ((hy b o qy).2.2.2.1 n x ex q)
   |none =>
    rw[oth m q2]at ey
    exact h.sep n m x y ex ey b o ((fpL n x b o ex).1 qx) ((fpL m y b o ey).1 qy)
 ·cases q2:a5 ups n with
  |some ob' =>
   rw[new n ob' q2]at e
   obtain rfl:=Option.some.inj e
   obtain⟨g1,g2,g3,_⟩:=(hNew n _ q2).2 b o q
   exact⟨g1,g2,g3⟩
  |none =>
   rw[oth n q2]at e
   have q':=(fpL n ob b o e).1 q
   obtain⟨h1,h2,h3⟩:=h.own n ob e b o q'
   exact⟨Nat.lt_of_lt_of_le h1 hs.size,(hOld n ob e q2 b o q').2,h3⟩
theorem bD.frzs:∀(ns:List Nm){I:Nat→Prop}{s:St},bD X L I s a w→∃I',(∀b,I b→I' b)∧bD X L I' (s.frzs ns) a w
 |[],I,s,h=>⟨I,fun _ q=>q,h⟩
 |n::r,I,s,h=>by
  have:∃I',(∀b,I b→I' b)∧bD X L I' (s.frz1 n) a w:=by
   unfold St.frz1
   split
   ·rename_i e t xs en
    obtain⟨I',h1,h2,_⟩:=h.freeze en
    exact⟨I',h1,h2⟩
   ·grind
  obtain⟨I1,h1,h2⟩:=this
  obtain⟨I2,h3,h4⟩:=bD.frzs r h2
  exact⟨I2,fun b q=>h3 b (h1 b q),h4⟩
theorem wq{d:Nat}{o:Nm→Option Ob}{ts:List bG}{names:List Nm}:∀{l ups:List (Nm×Ob)},kG d o ts names l=some ups→∀{n:Nm}{ob':Ob},(n,ob')∈ups→∃m ob,(m,ob)∈l∧tH d o ts names m ob=some (n,ob')
 |[],_,e,_,_,h=>by simp_all [kG,tH]
 |(m,ob)::r,_,e,n,ob',h=>by
  simp only[kG]at e
  split at e
  ·rename_i q l e1 e2
   obtain rfl:=Option.some.inj e
   rcases List.mem_cons.1 h with rfl|h
   ·grind
   ·obtain⟨m',ob2,g1,g2⟩:=wq e2 h
    exact⟨m',ob2,List.mem_cons_of_mem _ g1,g2⟩
  ·cases e
theorem qR{n:Nm}{ob:Ob}:∀{l:List (Nm×Ob)},(l.map Prod.fst).Nodup→(n,ob)∈l→a5 l n=some ob
 |[],_,h=>by cases h
 |q::l,hn,h=>by
  rw[List.map_cons,List.nodup_cons]at hn
  unfold a5
  rcases List.mem_cons.1 h with h|h
  ·subst h;rw[mw];rfl
  ·have:q.1≠n:=fun e=>hn.1 (e▸List.mem_map.2 ⟨(n,ob),h,rfl⟩)
   rw[a0.2 this]
   exact qR hn.2 h
theorem uQ{n:Nm}:∀{l:List (Nm×Ob)},a5 l n=none↔n∉l.map Prod.fst
 |[]=>by simp[a5]
 |q::l=>by
  unfold a5
  cases e:Nm.eqb q.1 n with
  |true=>simp_all [bx]
  |false=>have:=a0.1 e;simp[uQ (l:=l),Ne.symm this]
theorem D7{n:Nm}{p:PS}{d:DV}{q:Nm×Ob}(h:q∈vZ n p d):q.1∈EK n p:=by
 cases p with
 |i t=>cases h
 |o e t =>
  grind [qn,split,vZ,EK]
 |b e t =>
  grind [qn,split,vZ,EK]
 |k mk e t =>
  grind [qn,split,vZ,EK]
 |m kt vt ka =>
  grind [D9,split,vZ,EK]
 |q _ _=>cases h
 |f _ _=>cases h
 |e=>cases h
 |l=>cases h
theorem jv{nm:Nat→PS→Nm}:∀{ps:List PS}{ds:List DV}{k:Nat}{q:Nm×Ob},q∈rV nm k ps ds→q.1∈fq nm k ps
 |[],_,_,_,h=>by cases h
 |_::_,[],_,_,h=>by cases h
 |p::ps,d::ds,k,q,h=>by
  rw[mO]
  rcases List.mem_append.1 h with h|h
  ·grind [D7]
  ·exact List.mem_append_right _ (jv h)
theorem mW:∀{es:List En}{ds:List DV}{q:Nm×Ob},q∈eO es ds→q.1∈es.flatMap En.names
 |[],_,_,h=>by cases h
 |e::es,ds,q,h=>by
  rw[List.flatMap_cons]
  rcases List.mem_append.1 h with h|h
  ·refine List.mem_append_left _ ?_
   cases e with
   |val i p=>exact jv h
   |agg i ps=>exact jv h
   |box i n ps =>
    rcases List.mem_cons.1 h with rfl|h
    ·exact List.mem_cons_self ..
    ·exact List.mem_cons_of_mem _ (jv h)
   |ptr i n off=>cases h
   |nbox i n ps =>
    rcases List.mem_cons.1 h with rfl|h
    ·exact List.mem_cons_self ..
    ·exact List.mem_cons_of_mem _ (jv h)
   |hid n ps =>
    rcases List.mem_cons.1 h with rfl|h
    ·exact List.mem_cons_self ..
    ·exact List.mem_cons_of_mem _ (jv h)
   |no i=>cases h
  ·exact List.mem_append_right _ (mW h)
theorem iJ{nm:Nat→PS→Nm}{n:Nm}:∀{ps:List PS}{ds:List DV}{k:Nat},CV.own n∈fX nm k ps ds→n∈fq nm k ps
 |[],_,_,h=>by cases h
 |_::_,[],_,h=>by cases h
 |p::ps,d::ds,k,h=>by
  rw[mO]
  rcases List.mem_cons.1 h with h|h
  ·refine List.mem_append_left _ ?_
   cases p with
   |i t=>cases h
   |o e t=>obtain rfl:=CV.own.inj h;exact List.mem_singleton.2 rfl
   |b e t=>obtain rfl:=CV.own.inj h;exact List.mem_singleton.2 rfl
   |k mk e t=>obtain rfl:=CV.own.inj h;exact List.mem_singleton.2 rfl
   |q _ _=>cases h
   |f _ _=>cases h
   |m _ _ _=>cases h
   |l =>
    have h:CV.own n=(match d.as (.int .i64)with|some k=>CV.hd (Int.toNat k)|none => .dead):=h
    split at h<;>cases h
   |e =>
    have h:CV.own n=(match d.as .bool with|some b=>CV.er b|none => .dead):=h
    split at h<;>cases h
  ·exact List.mem_append_right _ (iJ h)
def AV.cellsOf:AV→List CV
 | .c x=>[x]
 | .g cs=>cs
 | .tup l=>l.flatMap Prod.snd
theorem Iz{e:En}{ds:List DV}{n:Nm}(h:CV.own n∈(J6 e ds).cellsOf):n∈e.names:=by
 cases e with
 |val i p =>
  grind [J6,split,iJ,En.names,AV.cellsOf]
 |agg i ps=>exact iJ h
 |box i m ps=>trivial
 |ptr i m off=>trivial
 |nbox i m ps=>trivial
 |hid m ps=>trivial
 |no i=>trivial
theorem Ab:∀{es:List En}{ds:List DV}{p:Nat×AV}{n:Nm},p∈cy es ds→CV.own n∈p.2.cellsOf→n∈es.flatMap En.names
 |[],_,_,_,h,_=>by cases h
 |e::es,ds,p,n,h,g=>by
  rw[List.flatMap_cons]
  rcases List.mem_cons.1 h with rfl|h
  ·grind [Iz]
  ·exact List.mem_append_right _ (Ab h g)
theorem Ad:∀{es:List En}{ds:List DV}{m:Nm}{cs:List CV}{n:Nm},(m,Ob.box cs)∈eO es ds→CV.own n∈cs→n∈es.flatMap En.names
 |[],_,_,_,_,h,_=>by cases h
 |e::es,ds,m,cs,n,h,g=>by
  have arrs:∀{nm:Nat→PS→Nm}{ps:List PS}{k:Nat}{ds:List DV},(m,Ob.box cs)∉rV nm k ps ds:=by
   intro nm ps
   induction ps with
   |nil=>intro k ds h;cases h
   |cons p ps ih =>
    intro k ds h
    cases ds with
    |nil=>cases h
    |cons d ds =>
     rcases List.mem_append.1 h with h|h
     ·have arr1:∀{n:Nm}{e:Nat}{t:Ty},(m,Ob.box cs)∉qn n e t d:=by
       grind [qn,split]
      cases p with
      |i t=>cases h
      |o e t=>exact arr1 h
      |b e t=>exact arr1 h
      |k mk e t=>exact arr1 h
      |q _ _=>cases h
      |f _ _=>cases h
      |e=>cases h
      |l=>cases h
      |m kt vt ka =>
       have h:(m,Ob.box cs)∈D9 _ kt vt ka d:=h
       unfold D9 at h
       split at h
       ·trivial
       ·cases h
     ·exact ih h
  rw[List.flatMap_cons]
  rcases List.mem_append.1 h with h|h
  ·refine List.mem_append_left _ ?_
   cases e with
   |val i p=>exact absurd h arrs
   |agg i ps=>exact absurd h arrs
   |box i m' ps =>
    rcases List.mem_cons.1 h with h|h
    ·grind [iJ,eO,En.names]
    ·simp_all
   |ptr i m' off=>cases h
   |nbox i m' ps =>
    rcases List.mem_cons.1 h with h|h
    ·grind [iJ,eO,En.names]
    ·simp_all
   |hid m' ps =>
    rcases List.mem_cons.1 h with h|h
    ·grind [iJ,eO,En.names]
    ·simp_all
   |no i=>cases h
  ·exact List.mem_append_right _ (Ad h g)
end
def zq (a:Act) (np:Nat):Nat→Value
 |1=>a.tmps.getD np undef
 |n => .tuple ((List.range n).map fun j=>a.tmps.getD (np+j) undef).toArray
def first (n:Nat) (xs:Array Value):Array Value:=(xs.toList.take n).toArray
def jo (P:Program) (K:eN) (f:FuncId) (S:ag):Prop :=
 ∀(Y:oC) (L:Nm→Value) (I:Nat→Prop) (a:Act) (w:World) (x:TD (bg (aF 0 S.pars))) (r:TD (bg (dl S.pars S.res S.nb))),S.g x=some r →
  bD Y L I (dO (aF 0 S.pars) x) a w→Y.K=K→Y.N=S.pars.length→Y.w0=w →
  Calls P f (first S.real a.tmps) w fun e w'=>∃v L' I' a',e = .returned v∧bD { Y with N:=S.pars.length+(S.res.length+S.nb.length) } L' I' (dO S.ens r) a' w' ∧
   (∀n,f6 n=true→L' n=L n)∧v=zq a' S.pars.length S.res.length
section
variable{P:Program}{X:oC}{L:Nm→Value}{I:Nat→Prop}{s:St}{a:Act}{w:World}
theorem uD:∀{ps:List AU}{k i:Nat}{e:En},(aF k ps)[i]?=some e→e.slot=k+i
 |[],_,_,_,h=>by cases h
 |p::ps,k,0,e,h=>by cases p<;>(obtain rfl:=Option.some.inj h;rfl)
 |p::ps,k,i+1,e,h=>by
  have h:(aF (k+1) ps)[i]?=some e:=by cases p<;>exact h
  rw[uD h];omega
theorem pO:∀(ps:List AU) (k:Nat),(aF k ps).length=ps.length
 |[],_=>rfl
 |p::ps,k=>by cases p<;>simp[aF,pO ps]
theorem uC:∀(ps:List AU) (k i:Nat) (n:Nm) (o:Nat),En.ptr i n o∉aF k ps
 |[],_,_,_,_=>by simp[aF]
 |p::ps,k,i,n,o=>by cases p<;>simp[aF,uC ps]
theorem sn{o:Nm→Option Ob}:∀{es:List En}{vs:List AV}{ds:List DV}{ts:List bG},gM o es vs=some (ds,ts)→vs.length=es.length
 |[],[],_,_,_=>rfl
 |[],_::_,_,_,e=>by cases e
 |_::_,[],_,_,e=>by cases e
 |en::es,v::vs,_,_,e=>by
  simp only[gM]at e
  split at e
  ·rename_i d t ds ts e1 e2
   simp[sn e2]
  ·cases e
theorem sA (h:bD X L I s a w):∀xs:List Operand,aI (RA L I w (AL s.o)) (xs.map s.ev) (xs.map a.eval)
 |[]=>trivial
 |x::xs=>⟨h.ev x,sA h xs⟩
theorem zb{d:Nat}{o:Nm→Option Ob}{ts:List bG}{names:List Nm}{m n:Nm}{ob ob':Ob}(h:tH d o ts names m ob=some (n,ob')) :
  (∃k e t xs e' u xs',fZ m ts = .bw k n∧ob = .arr e t xs∧o n=some (.arr e' u xs')∧u.sz=t.sz∧f6 m=true∧ob' = .arr e t xs) ∨
  (∃k off len cells cs,fZ m ts = .pb k n off len∧ob = .box cells∧o n=some (.box cs)∧off+len≤cs.length∧cells.length=len∧f6 m=true∧ob' = .box (vR cs off (cells.map (nU d ts names)))) ∨
  (∃e t xs,ob = .arr e t xs∧n=d::m∧ob'=ob) ∨
  (∃cells,ob = .box cells∧n=d::m∧ob' = .box (cells.map (nU d ts names))):=by
 unfold tH at h
 cases ht:fZ m ts with
 |bw k n' =>
  rw[ht]at h
  cases ob with
  |box _=>cases h
  |mp _ _ _ _=>cases h
  |arr e t xs =>
   dsimp only at h
   split at h
   ·rename_i e' u xs' en
    cases q:(f6 m&&Nat.beq u.sz t.sz)with
    |false=>rw[q]at h;cases h
    |true =>
     rw[q]at h
     obtain⟨rfl,rfl⟩:=Prod.mk.inj (Option.some.inj h)
     rw[Bool.and_eq_true]at q
     exact .inl ⟨k,e,t,xs,e',u,xs',rfl,rfl,en,Nat.eq_of_beq_eq_true q.2,q.1,rfl⟩
   ·cases h
 |pb k n' off len =>
  rw[ht]at h
  cases ob with
  |arr _ _ _=>cases h
  |mp _ _ _ _=>cases h
  |box cells =>
   dsimp only at h
   split at h
   ·rename_i cs en
    cases q:(f6 m&&(Nat.ble (off+len) cs.length&&Nat.beq cells.length len))with
    |false=>rw[q]at h;cases h
    |true =>
     rw[q]at h
     obtain⟨rfl,rfl⟩:=Prod.mk.inj (Option.some.inj h)
     rw[Bool.and_eq_true,Bool.and_eq_true]at q
     exact .inr (.inl ⟨k,off,len,cells,cs,rfl,rfl,en,Nat.le_of_ble_eq_true q.2.1,Nat.eq_of_beq_eq_true q.2.2,q.1,rfl⟩)
   ·cases h
 |pa _ _ _ _ _=>rw[ht]at h;cases h
 |mx _ _ _=>rw[ht]at h;cases h
 |no =>
  rw[ht]at h
  cases ob with
  |mp _ _ _ _=>cases h
  |box cells=>obtain⟨rfl,rfl⟩:=Prod.mk.inj (Option.some.inj h);exact .inr (.inr (.inr ⟨cells,rfl,rfl,rfl⟩))
  |arr e t xs=>obtain⟨rfl,rfl⟩:=Prod.mk.inj (Option.some.inj h);exact .inr (.inr (.inl ⟨e,t,xs,rfl,rfl,rfl⟩))
 |ln _ =>
  rw[ht]at h
  cases ob with
  |mp _ _ _ _=>cases h
  |box cells=>obtain⟨rfl,rfl⟩:=Prod.mk.inj (Option.some.inj h);exact .inr (.inr (.inr ⟨cells,rfl,rfl,rfl⟩))
  |arr e t xs=>obtain⟨rfl,rfl⟩:=Prod.mk.inj (Option.some.inj h);exact .inr (.inr (.inl ⟨e,t,xs,rfl,rfl,rfl⟩))
 |mv _ _ =>
  rw[ht]at h
  cases ob with
  |mp _ _ _ _=>cases h
  |box cells=>obtain⟨rfl,rfl⟩:=Prod.mk.inj (Option.some.inj h);exact .inr (.inr (.inr ⟨cells,rfl,rfl,rfl⟩))
  |arr e t xs=>obtain⟨rfl,rfl⟩:=Prod.mk.inj (Option.some.inj h);exact .inr (.inr (.inl ⟨e,t,xs,rfl,rfl,rfl⟩))
 |pt _ =>
  rw[ht]at h
  cases ob with
  |mp _ _ _ _=>cases h
  |box cells=>obtain⟨rfl,rfl⟩:=Prod.mk.inj (Option.some.inj h);exact .inr (.inr (.inr ⟨cells,rfl,rfl,rfl⟩))
  |arr e t xs=>obtain⟨rfl,rfl⟩:=Prod.mk.inj (Option.some.inj h);exact .inr (.inr (.inl ⟨e,t,xs,rfl,rfl,rfl⟩))
 |mm _ _ =>
  rw[ht]at h
  cases ob with
  |mp _ _ _ _=>cases h
  |box cells=>obtain⟨rfl,rfl⟩:=Prod.mk.inj (Option.some.inj h);exact .inr (.inr (.inr ⟨cells,rfl,rfl,rfl⟩))
  |arr e t xs=>obtain⟨rfl,rfl⟩:=Prod.mk.inj (Option.some.inj h);exact .inr (.inr (.inl ⟨e,t,xs,rfl,rfl,rfl⟩))
theorem zg:∀{ts:List bG},((ts.flatMap bG.pair).map Prod.snd).Nodup→∀{t t':bG}{a b n:Nm},t∈ts→t'∈ts→t.pair=[(a,n)]→t'.pair=[(b,n)]→t=t'
 |[],_,_,_,_,_,_,h,_,_,_=>by cases h
 |q::ts,hn,t,t',a,b,n,h,h',e,e'=>by
  rw[List.flatMap_cons,List.map_append]at hn
  have hd:=List.nodup_append.1 hn
  have inn:∀{x:bG}{c:Nm},x∈ts→x.pair=[(c,n)]→n∈(ts.flatMap bG.pair).map Prod.snd:=fun{x c} h e=>List.mem_map.2 ⟨(c,n),List.mem_flatMap.2 ⟨x,h,by rw[e];exact List.mem_singleton.2 rfl⟩,rfl⟩
  rcases List.mem_cons.1 h with h1|h1
  ·grind
  ·rcases List.mem_cons.1 h' with h2|h2
   ·grind
   ·exact zg hd.2.1 h1 h2 e e'
section
variable{L' L2:Nm→Value}{I' I2:Nat→Prop}{A' A2:Nm→Option (Nat×Nat)}{d:Nat}{ts:List bG}{names:List Nm}
structure Ren (L' L2:Nm→Value) (I' I2:Nat→Prop) (w:World) (d:Nat) (ts:List bG) (names:List Nm) (fl:Bool):Prop where
 nm:∀m∈names,L2 (d::m)=L' m
 pt:∀p q,vT d ts names p=some q→∀b o,L' p.1 = .pointer (some ⟨b,o,none⟩)→∃o',L2 q.1 = .pointer (some ⟨b,o',none⟩)∧o'+q.2=o+p.2
 im:fl=false→∀b,I' b→I2 b
variable{fl:Bool}
theorem Ren.rep (h:Ren L' L2 I' I2 w d ts names fl){t:Ty}{x:t.den}{us:List Value}(hf:fl=true→t.hasSl=false) (r:cL I' w t x us):cL I2 w t x us:=by
 cases e:fl with
 |true=>exact cL.plain t (hf e) r
 |false=>exact cL.mono (h.im e) (fun _ _=>rfl) t r
theorem Ren.frep (h:Ren L' L2 I' I2 w d ts names fl){t:Ty}{xs:List t.den}{us:List Value}(hf:fl=true→t.hasSl=false) (r:bz I' w t xs us):bz I2 w t xs us:=by
 cases e:fl with
 |true=>exact bz.plain (hf e) r
 |false=>exact bz.mono (h.im e) (fun _ _=>rfl) r
theorem Ren.caps (h:Ren L' L2 I' I2 w d ts names fl):∀{cs ds:List (Nm×Nat)}{us:List Value},pB d ts names cs=some ds→rF L' cs us→rF L2 ds us
 |[],ds,us,e,r=>by
  grind [pB,rF]
 |c::cs,ds,us,e,r=>by
  simp only[pB]at e
  split at e
  ·rename_i q l e1 e2
   obtain rfl:=Option.some.inj e
   cases us with
   |nil=>exact r.elim
   |cons u us =>
    obtain⟨⟨b,o,r1,r2⟩,r3⟩:=r
    obtain⟨o',g1,g2⟩:=h.pt c q e1 b o r1
    exact⟨⟨b,o',g1,by rw[r2, ←g2]⟩,h.caps e2 r3⟩
  ·cases e
theorem Ren.rc (h:Ren L' L2 I' I2 w d ts names fl){c:CV}{u:Value}(hn:∀m,c = .own m→m∈names) (hf:fl=true→c.flat=true) (r:RC L' I' w A' c u):RC L2 I2 w A2 (nU d ts names c) u:=by
 cases c with
 |own m =>
  obtain⟨x1,x2,x3,rfl,r⟩:=r
  exact⟨x1,x2,x3,rfl,by rw[h.nm m (hn m rfl),r]⟩
 |v t x=>exact h.rep (fun q=>by simpa [CV.flat]using hf q) r
 |er b=>exact r
 |hd k=>exact r
 |pb n i =>
  obtain⟨b,o,r1,r2⟩:=r
  simp only[nU]
  cases e:vT d ts names (n,i)with
  |none=>trivial
  |some q =>
   obtain⟨o',g1,g2⟩:=h.pt _ q e b o r1
   exact⟨b,o',g1,by rw[r2,g2]⟩
 |clo f cs =>
  obtain⟨us,r1,r2⟩:=r
  simp only[nU]
  cases e:pB d ts names cs with
  |none=>trivial
  |some l=>exact⟨us,r1,h.caps e r2⟩
 |_=>trivial
theorem Ren.rcs (h:Ren L' L2 I' I2 w d ts names fl):∀{cs:List CV}{us:List Value},(∀m,CV.own m∈cs→m∈names)→(fl=true→cs.all CV.flat=true)→aI (RC L' I' w A') cs us→aI (RC L2 I2 w A2) (cs.map (nU d ts names)) us
 |[],[],_,_,_=>trivial
 |[],_::_,_,_,r=>r.elim
 |_::_,[],_,_,r=>r.elim
 |c::cs,u::us,hn,hf,⟨r1,r2⟩=>by
  have hf':fl=true→c.flat=true∧cs.all CV.flat=true:=fun q=>by simpa using hf q
  exact⟨h.rc (fun m e=>hn m (e▸List.mem_cons_self ..)) (fun q=>(hf' q).1) r1,h.rcs (fun m e=>hn m (List.mem_cons_of_mem _ e)) (fun q=>(hf' q).2) r2⟩
theorem Ren.ra (h:Ren L' L2 I' I2 w d ts names fl){v:AV}{u:Value}(hn:∀m,CV.own m∈v.cellsOf→m∈names) (hf:fl=true→v.flat=true) (r:RA L' I' w A' v u):RA L2 I2 w A2 (v.ren d ts names) u:=by
 cases v with
 |c x=>exact h.rc (fun m e=>hn m (e▸List.mem_singleton.2 rfl)) hf r
 |g cs=>obtain⟨vs,rfl,r⟩:=r;exact⟨vs,rfl,h.rcs hn hf r⟩
 |tup l =>
  cases e:fl with
  |true=>cases hf e
  |false =>
   obtain⟨us,rfl,r⟩:=r
   refine⟨us,rfl,?_⟩
   clear hf
   induction l generalizing us with
   |nil=>cases us with
    |nil=>trivial
    |cons _ _=>exact r.elim
   |cons p l ih =>
    cases us with
    |nil=>exact r.elim
    |cons u us =>
     obtain⟨r1,r2⟩:=r
     refine⟨?_,ih (fun m hm=>hn m (List.mem_append_right _ hm)) us r2⟩
     obtain⟨b,cs⟩:=p
     have hn':∀m,CV.own m∈cs→m∈names:=fun m hm=>hn m (List.mem_append_left _ hm)
     cases b with
     |true=>obtain⟨vs,rfl,r⟩:=r1;exact⟨vs,rfl,h.rcs hn' (fun q=>by rw[e]at q;cases q) r⟩
     |false=>exact h.rcs hn' (fun q=>by rw[e]at q;cases q) r1
theorem Ren.rp (h:Ren L' L2 I' I2 w d ts names fl){v:AV}{u:Value}(hn:∀m,CV.own m∈v.cellsOf→m∈names) (hf:fl=true→v.flat=true) (r:RA L' I' w A' v u):RP L2 I2 w A2 (v.part.1,v.part.2.map (nU d ts names)) u:=by
 cases v with
 |c x=>exact⟨h.ra hn hf r,trivial⟩
 |g cs=>exact h.ra hn hf r
 |tup l=>trivial
theorem Ren.res (h:Ren L' L2 I' I2 w d ts names fl){te:List (Nat×AV)}{a':Act}{np:Nat}(hn:∀i m,CV.own m∈(cY te i).cellsOf→m∈names) (hf:fl=true→∀i,(cY te i).flat=true)
  (r:∀i,RA L' I' w A' (cY te i) (a'.tmps.getD i undef)) (n:Nat):RA L2 I2 w A2 ((nT te np n).ren d ts names) (zq a' np n):=by
 have many:∀l:List Nat,RA L2 I2 w A2 ((AV.tup (l.map fun j=>(cY te (np+j)).part)).ren d ts names) (.tuple (l.map fun j=>a'.tmps.getD (np+j) undef).toArray):=by
  intro l
  refine⟨l.map fun j=>a'.tmps.getD (np+j) undef,rfl,?_⟩
  induction l with
  |nil=>trivial
  |cons j l ih=>exact⟨h.rp (hn _) (fun q=>hf q _) (r _),ih⟩
 unfold nT zq
 split
 ·exact h.ra (hn np) (fun q=>hf q np) (r np)
 ·rename_i h1
  split
  ·exact absurd rfl h1
  ·exact many _
end
end
end AM
end Go.Proofs.YtcflmfpnmjlhdaaGreatDoor
namespace Go.Proofs.YtcflmfpnmjlhdaaGreatDoor
namespace AM
open Go
set_option linter.unusedVariables false
set_option linter.unusedSimpArgs false
set_option maxHeartbeats 1000000
section
variable{P:Program}{X:oC}{L:Nm→Value}{I:Nat→Prop}{s:St}{a:Act}{w:World}
theorem FB{ups:List (Nm×Ob)}{F:Nm→Prop}(hU:∀n ob',a5 ups n=some ob'→F n∨∃ob,s.o n=some ob∧al ob'=al ob):∀m,¬F m→AL (s.over ups).o m=AL s.o m:=by
 grind [JH,a5,al,AL,St.over]
theorem zM{e e' sz sz':Nat}{u:Value}{n m:Nat}{vs us:List Value}{w':World}(h:w.ownsRow 0 e sz u n vs) (g:w'.ownsRow 0 e' sz' u m us):n=m:=by
 rcases h.2 with⟨rfl,h0⟩|⟨b,cap,cur,rfl,_⟩
 ·rcases g.2 with⟨_,g0⟩|⟨b,cap,cur,g1,_⟩
  ·omega
  ·simp_all
 ·rcases g.2 with⟨g1,_⟩|⟨b',cap',cur',g1,_⟩
  ·simp_all
  ·injection g1
theorem Ko (h:bD X L I s a w){S:ag}{d:Nat}{ts:List bG}{Lc:Nm→Value}{Y:oC}{L':Nm→Value}{I':Nat→Prop}{a':Act}{w':World}{te:List (Nat×AV)}{oe ups:List (Nm×Ob)}{s1:St}
  (hYw:Y.w0=w) (hYE:∀b o,Y.E b o↔∃t∈ts, ∃n ob,(∃m,t.pair=[(m,n)])∧s.o n=some ob∧fp L n ob b o∧xG L t b o)
  (hYI:∀b,Y.I0 b↔EJ L I ts b) (htag:∀t∈ts,vE L Lc s t) (hE:bD Y L' I' ⟨cY te,a5 oe⟩ a' w') (hkept:∀n,f6 n=true→L' n=Lc n)
  (ht:iq ts=true) (hsh:S.shares=true→ts.flatMap bG.lent=[])
  (hs1:s1=s.drops (ts.flatMap bG.moved++(S.ens.flatMap En.names).map (fun m=>d::m)))
  (hup:kG d s1.o ts (S.ens.flatMap En.names) oe=some ups) (hok:gQ S d s1.o ts te oe ups=true)
  (ote:∀p∈te, ∀m,CV.own m∈p.2.cellsOf→m∈S.ens.flatMap En.names) (ooe:∀q∈oe,q.1∈S.ens.flatMap En.names) (obx:∀m cs n,(m,Ob.box cs)∈oe→CV.own n∈cs→n∈S.ens.flatMap En.names) (np nr:Nat) :
  ∃L2 I2,bD X L2 I2 (s1.over ups) a w'∧RA L2 I2 w' (AL (s1.over ups).o) ((nT te np nr).ren d ts (S.ens.flatMap En.names)) (zq a' np nr)∧(∀n,f6 n=true→L2 n=L n)∧∀b,I b→I2 b:=by
 unfold gQ at hok
 rw[Bool.and_eq_true,Bool.and_eq_true,Bool.and_eq_true,Bool.and_eq_true,ju,ju]at hok
 obtain⟨hnu,hno,hfl,hkn,hall⟩:=hok
 rw[List.all_eq_true]at hkn hall
 unfold iq at ht
 rw[Bool.and_eq_true,Bool.and_eq_true,ju,vz]at ht
 obtain⟨ht1,ht2,_⟩:=ht
 generalize hnm:S.ens.flatMap En.names=names at *
 have hlent:∀b,I b→Y.I0 b:=fun b q=>(hYI b).2 (.inl q)
 have hII:∀b,I b→I' b:=fun b q=>hE.sub b (hlent b q)
 have hstep:bT Y.E w w':=hYw▸hE.step
 let L2:Nm→Value:=fun n=>match n with
  |[]=>L []
  |x::m=>bif Nat.beq x d&&km m names then L' m else L (x::m)
 let I2:Nat→Prop:=fun b=>(S.shares=true∧I' b)∨(S.shares=false∧I b)
 let F:Nm→Prop:=fun n=>∃m,n=d::m∧m∈names
 have hL:∀n,¬F n→L2 n=L n:=by
  intro n hn
  cases n with
  |nil=>rfl
  |cons x m =>
   show(bif Nat.beq x d&&km m names then L' m else L (x::m))=_
   cases q:(Nat.beq x d&&km m names)with
   |false=>rfl
   |true =>
    rw[Bool.and_eq_true]at q
    exact absurd ⟨m,by rw[Nat.eq_of_beq_eq_true q.1],fI.1 q.2⟩ hn
 have hLF:∀m∈names,L2 (d::m)=L' m:=by
  grind [km,fI,Nat.beq_refl]
 have hF:∀n,F n→gB s1 n:=by
  grind [qL]
 have nF:∀n ob,s1.o n=some ob→¬F n:=fun n ob e q=>by rw[(hF n q).2.2]at e;cases e
 have h2:bD X L I s1 a w:=by rw[hs1];exact h.drops _
 have old:∀n ob,s1.o n=some ob→∃ob0,s.o n=some ob0∧al ob=al ob0∧∀L b o,fp L n ob b o↔fp L n ob0 b o:=by
  intro n ob e
  rw[hs1]at e
  exact(C4 e).2
 have hI2I:∀b,I b→I2 b:=by
  grind
 have lentI:S.shares=true→∀b,Y.I0 b→I b:=by
  intro hq b q
  rcases(hYI b).1 q with q|⟨m,hm,_⟩
  ·exact q
  ·grind
 have ET:∀b o,Y.E b o→∃n ob,n∈(ts.flatMap bG.pair).map Prod.snd∧s.o n=some ob∧fp L n ob b o:=by
  grind
 have EX0:∀b o,Y.E b o→b<X.w0.heap.size→X.E b o:=by
  intro b o q q2
  obtain⟨n,ob,_,h4,h5⟩:=ET b o q
  exact(h.own n ob h4 b o h5).2.2 q2
 have EI:∀b o,Y.E b o→¬I b:=by
  intro b o q
  obtain⟨n,ob,_,h4,h5⟩:=ET b o q
  exact(h.own n ob h4 b o h5).2.1
 -- an object that is not written is not lent
 have notE:∀n ob,s1.o n=some ob→a5 ups n=none→∀b o,fp L n ob b o→¬Y.E b o:=by
  intro n ob e hn b o q qE
  obtain⟨n',ob',h3,h4,h5⟩:=ET b o qE
  obtain⟨ob0,h6,_,h7⟩:=old n ob e
  obtain rfl:=h.sep n n' ob0 ob' h6 h4 b o ((h7 L b o).1 q) h5
  have h8:=hall n h3
  rw[e]at h8
  exact(uQ.1 hn) (fI.1 h8)
 have I2sub:∀b,I2 b→I' b:=by
  grind
 have hI2:∀b,I2 b→b<w'.heap.size∧(X.I0 b∨X.w0.heap.size≤b∨∀o,X.E b o):=by
  rintro b (⟨q1,q⟩|⟨q1,q⟩)
  ·obtain⟨g1,g2⟩:=hE.imm b q
   refine⟨g1,?_⟩
   rcases g2 with g2|g2|g2
   ·exact(h.imm b (lentI q1 b g2)).2
   ·rw[hYw]at g2
    exact .inr (.inl (Nat.le_trans h.step.size g2))
   ·grind
  ·obtain⟨g1,g2⟩:=h.imm b q
   exact⟨Nat.lt_of_lt_of_le g1 hstep.size,g2⟩
 have notI2:∀b o,b<w.heap.size→¬I b→¬Y.E b o→¬I2 b:=by
  rintro b o q1 q2 q3 (⟨q4,q5⟩|⟨q4,q5⟩)
  ·rcases(hE.imm b q5).2 with g2|g2|g2
   ·grind
   ·grind
   ·grind
  ·exact q2 q5
 have rpt:∀p q,vT d ts names p=some q→∀b o,L' p.1 = .pointer (some ⟨b,o,none⟩)→∃o',L2 q.1 = .pointer (some ⟨b,o',none⟩)∧o'+q.2=o+p.2:=by
  intro p q e b o hp
  unfold vT at e
  have fs:=ie (m:=p.1) (ts:=ts)
  split at e
  ·rename_i k0 m off len e1
   rw[e1]at fs
   rcases fs with fs|⟨f1,f2⟩
   ·cases fs
   ·cases kk:(f6 p.1 && !Py d names m)with
    |false=>grind
    |true =>
     rw[kk]at e
     obtain rfl:=Option.some.inj e
     rw[Bool.and_eq_true]at kk
     obtain⟨b0,o0,cs,_,_,_,g1,g2⟩:=htag _ f1
     have:k0=p.1:=Option.some.inj f2
     rw[this, ←hkept _ kk.1,hp]at g2
     injection g2 with g2;injection g2 with g2;injection g2 with g2 g2' _
     subst g2;subst g2'
     refine⟨o0,?_,by simp only;omega⟩
     rw[←g1]
     refine hL m ?_
     rintro ⟨m',rfl,hm⟩
     have:=kk.2
     rw[show Py d names (d::m')=(Nat.beq d d&&km m' names)from rfl,fI.2 hm,Nat.beq_refl]at this
     cases this
  ·grind [km,fI]
  ·cases e
 have ren:Ren L' L2 I' I2 w' d ts names (!S.shares):=⟨hLF,rpt,fun q b hb => .inl ⟨by simpa using q,hb⟩⟩
 have hflt:(!S.shares)=true→te.all (fun p=>p.2.flat)=true∧oe.all (fun q=>q.2.flat)=true:=by
  grind
 have eobj:∀m ob,(m,ob)∈oe→(⟨cY te,a5 oe⟩:St).o m=some ob:=fun m ob hm=>qR hno hm
 -- the news,one by one
 have news:∀n ob',a5 ups n=some ob'→∃m ob,(m,ob)∈oe∧tH d s1.o ts names m ob=some (n,ob'):=fun n ob' q=>wq hup (kX q)
 have same:∀{m ob},(m,ob)∈oe→∀{ob2},(m,ob2)∈oe→ob=ob2:=by
  grind
 have back:∀k t n,t∈ts→t=bG.bw k n→f6 k=true→L' k=L n:=by
  rintro k t n h1 rfl h3
  rw[hkept k h3]
  exact htag _ h1
 have tagOf:∀m t,fZ m ts=t→t.new≠none→t∈ts∧t.new=some m:=by
  intro m t e hn
  rcases ie (m:=m) (ts:=ts)with q|q
  ·rw[e]at q;subst q;exact absurd rfl hn
  ·grind
 have hU:∀n ob',a5 ups n=some ob'→F n∨∃ob,s1.o n=some ob∧al ob'=al ob:=by
  intro n ob' q
  obtain⟨m,ob,hm,hu⟩:=news n ob' q
  rcases zb hu with⟨k,e,t,xs,e',u,xs',h1,rfl,h3,h4,h5,rfl⟩|⟨k,off,len,cells,cs,h1,rfl,h3,h4,h5,h6,rfl⟩|⟨e,t,xs,rfl,rfl,rfl⟩|⟨cells,rfl,rfl,rfl⟩
  ·refine .inr ⟨_,h3,?_⟩
   obtain⟨q1,q2⟩:=tagOf m _ h1 (by simp[bG.new])
   have hk:k=m:=Option.some.inj q2
   subst hk
   obtain⟨vs,g1,_⟩:=h2.obj n _ h3
   obtain⟨vs',g3,_⟩:=hE.obj k _ (eobj k _ hm)
   rw[back k _ n q1 rfl h5]at g3
   show some (t.sz,_)=some (u.sz,_)
   rw[h4,zM g1 g3]
  ·exact .inr ⟨_,h3,rfl⟩
  ·exact .inl ⟨m,rfl,ooe _ hm⟩
  ·exact .inl ⟨m,rfl,ooe _ hm⟩
 have key:=FB hU
 -- where what is new stands
 have cls:∀n ob',a5 ups n=some ob'→∀m ob,(m,ob)∈oe→tH d s1.o ts names m ob=some (n,ob') →
   RO L2 I2 w' (AL (s1.over ups).o) n ob'∧∀b o,fp L2 n ob' b o→fp L' m ob b o∨∃obo,s1.o n=some obo∧fp L n obo b o∧¬Y.E b o∧¬I2 b:=by
  intro n ob' q m ob hm hu
  have hob:=hE.obj m ob (eobj m ob hm)
  have hflo:(!S.shares)=true→ob.flat=true:=fun q=>by
   have:=(hflt q).2
   rw[List.all_eq_true]at this
   exact this _ hm
  rcases zb hu with⟨k,e,t,xs,e',u,xs',h1,rfl,h3,h4,h5,rfl⟩|⟨k,off,len,cells,cs,h1,rfl,h3,h4,h5,h6,rfl⟩|⟨e,t,xs,rfl,rfl,rfl⟩|⟨cells,rfl,rfl,rfl⟩
  ·obtain⟨q1,q2⟩:=tagOf m _ h1 (by simp[bG.new])
   have hk:k=m:=Option.some.inj q2
   subst hk
   have hb:=back k _ n q1 rfl h5
   have hLn:=hL n (nF n _ h3)
   obtain⟨vs,g1,g2⟩:=hob
   refine⟨⟨vs,by rw[hLn, ←hb];exact g1,ren.frep (fun q=>by simpa [Ob.flat]using hflo q) g2⟩,fun b o qf => .inl ?_⟩
   show(L' k).ownBlock=some b
   rw[hb, ←hLn];exact qf
  ·obtain⟨q1,q2⟩:=tagOf m _ h1 (by simp[bG.new])
   have hk:k=m:=Option.some.inj q2
   subst hk
   obtain⟨b0,o0,cs0,_,_,hpos,hp1,hp2⟩:=htag _ q1
   have hLn:=hL n (nF n _ h3)
   have hLk:L' k = .pointer (some ⟨b0,o0+off,none⟩):=by rw[hkept k h6,hp2]
   obtain⟨b1,o1,us,g1,g2,g3⟩:=hob
   rw[hLk]at g1
   injection g1 with g1;injection g1 with g1;injection g1 with g1 g1' _
   subst g1;subst g1'
   obtain⟨b2,o2,vs,f1,f2,f3⟩:=h2.obj n _ h3
   rw[hp1]at f1
   injection f1 with f1;injection f1 with f1;injection f1 with f1 f1' _
   subst f1;subst f1'
   have hul:=g2.len
   have hvl:=f2.len
   have inR:∀o,o0+off≤o→o<o0+off+len→fp L' k (.box cells) b0 o:=fun o z1 z2=>⟨o0+off,hLk,z1,by omega⟩
   have notR:∀o,o0≤o→o<o0+cs.length→¬(o0+off≤o∧o<o0+off+len)→¬Y.E b0 o:=by
    intro o z1 z2 z3 z4
    obtain⟨t,y1,n',ob',⟨m',y3⟩,y4,y5,y6⟩:=(hYE b0 o).1 z4
    obtain⟨ob0,y7,_,y8⟩:=old n _ h3
    obtain rfl:=h.sep n n' ob0 ob' y7 y4 b0 o ((y8 L b0 o).1 ⟨o0,hp1,z1,z2⟩) y5
    obtain rfl:=zg ht1 y1 q1 y3 (show(bG.pb k n off len).pair=[(k,n)]from rfl)
    obtain⟨o3,y9,y10,y11⟩:=y6
    rw[hp1]at y9
    injection y9 with y9;injection y9 with y9;injection y9 with _ y9 _
    subst y9
    exact z3 ⟨y10,y11⟩
   have hw:jk I w w':=fun b hb=>hstep.same (h.imm b hb).1 (fun j q=>EI b j q hb)
   have oldRC:aI (RC L2 I2 w' (AL (s1.over ups).o)) cs vs:=A3.mono hI2I hw (fun m' hm'=>by
    have nf:¬F m':=fun z=>(hF m' z).2.1 n cs h3 hm'
    exact⟨hL m' nf,key m' nf⟩) f2
   have newRC:=ren.rcs (A2:=AL (s1.over ups).o) (fun n' hn'=>obx k cells n' hm hn') (fun q=>by simpa [Ob.flat]using hflo q) g2
   have hml:(cells.map (nU d ts names)).length=len:=by rw[List.length_map,h5]
   refine⟨⟨b0,o0,vs.take off++us++vs.drop (off+(cells.map (nU d ts names)).length),by rw[hLn];exact hp1,((oldRC.take off).append newRC).append (oldRC.drop _),?_⟩,fun b o qf=>?_⟩
   ·obtain⟨c,T,fz,c1,cz,c2,c3⟩:=f3
    have hlt:b0<w.heap.size:=by
     rcases Nat.lt_or_ge b0 w.heap.size with z|z
     ·exact z
     ·rw[Array.getElem?_eq_none z]at c1;cases c1
    have bq:=hstep.blk b0 hlt
    rw[c1]at bq
    obtain⟨c',fz',d1,d2,d3,d4⟩:=bq
    obtain⟨c2',T2,fz2,k1,kz,k2,k3⟩:=g3
    rw[d1]at k1
    injection k1 with k1;injection k1 with k1 k1' k1''
    subst k1;subst k1';subst k1''
    refine⟨c',T,fz',d1,fun hp=>?_,?_,fun j v hj=>?_⟩
    ·rcases Nat.eq_zero_or_pos us.length with z|z
     ·have hv:0<vs.length:=by
       rw[List.length_append,List.length_append,List.length_take,List.length_drop]at hp;omega
      exact(d4 ⟨o0,notR _ (by omega) (by omega) (by omega)⟩).trans (cz hv)
     ·exact kz z
    ·rw[List.length_append,List.length_append,List.length_take,List.length_drop,hml];omega
    ·rcases Nat.lt_or_ge j off with z|z
     ·rw[List.append_assoc,List.getElem?_append_left (by rw[List.length_take];omega),List.getElem?_take,if_pos z]at hj
      rw[d3 (o0+j) (notR _ (by omega) (by omega) (by omega))]
      exact c3 j v hj
     ·have htl:(vs.take off).length=off:=by rw[List.length_take];omega
      rcases Nat.lt_or_ge j (off+len)with z2|z2
      ·rw[List.append_assoc,List.getElem?_append_right (by omega),htl,List.getElem?_append_left (by omega)]at hj
       have:=k3 (j-off) v hj
       rw[show o0+j=o0+off+(j-off)by omega]
       exact this
      ·have hjl:j<vs.length:=by
        rcases Nat.lt_or_ge j vs.length with z3|z3
        ·exact z3
        ·rw[List.getElem?_eq_none (by rw[List.length_append,List.length_append,htl,List.length_drop,hml];omega)]at hj;cases hj
       rw[List.getElem?_append_right (by rw[List.length_append,htl];omega),List.length_append,htl,List.getElem?_drop,hml]at hj
       rw[d3 (o0+j) (notR _ (by omega) (by omega) (by omega))]
       refine c3 j v ?_
       rw[show j=off+len+(j-(off+us.length))by omega]
       exact hj
   ·obtain⟨o2,y1,y2,y3⟩:=qf
    rw[hLn,hp1]at y1
    injection y1 with y1;injection y1 with y1;injection y1 with y1 y1' _
    subst y1;subst y1'
    rw[Cm (cs:=cs) (new:=cells.map (nU d ts names)) (off:=off) (by omega)]at y3
    by_cases z:o0+off≤o∧o<o0+off+len
    ·exact .inl (inR o z.1 z.2)
    ·exact .inr ⟨_,h3,⟨o0,hp1,y2,y3⟩,notR o y2 y3 z,fun z2=>(hE.own k _ (eobj k _ hm) b0 (o0+off) (inR _ (by omega) (by omega))).2.1 (I2sub b0 z2)⟩
  ·obtain⟨vs,g1,g2⟩:=hob
   have hLn:=hLF m (ooe _ hm)
   refine⟨⟨vs,by rw[hLn];exact g1,ren.frep (fun q=>by simpa [Ob.flat]using hflo q) g2⟩,fun b o qf => .inl ?_⟩
   show(L' m).ownBlock=some b
   rw[←hLn];exact qf
  ·obtain⟨b0,o0,us,g1,g2,g3⟩:=hob
   have hLn:=hLF m (ooe _ hm)
   refine⟨⟨b0,o0,us,by rw[hLn];exact g1,ren.rcs (A2:=AL (s1.over ups).o) (fun n' hn'=>obx m cells n' hm hn') (fun q=>by simpa [Ob.flat]using hflo q) g2,g3⟩,fun b o qf => .inl ?_⟩
   obtain⟨o1,y1,y2,y3⟩:=qf
   rw[hLn]at y1
   rw[List.length_map]at y3
   exact⟨o1,y1,y2,y3⟩
 have ownE:∀m ob,(m,ob)∈oe→∀b o,fp L' m ob b o→b<w'.heap.size∧¬I' b∧(b<w.heap.size→Y.E b o):=by
  intro m ob hm b o q
  have:=hE.own m ob (eobj m ob hm) b o q
  rw[show({ Y with N:=Y.N }:oC).w0=w from hYw]at this
  exact this
 have hNew:∀n ob',a5 ups n=some ob'→RO L2 I2 w' (AL (s1.over ups).o) n ob'∧∀b o,fp L2 n ob' b o→b<w'.heap.size∧¬I2 b∧(b<X.w0.heap.size→X.E b o) ∧
   (∀m ob,s1.o m=some ob→a5 ups m=none→¬fp L m ob b o)∧∀m ob2,a5 ups m=some ob2→fp L2 m ob2 b o→m=n:=by
  intro n ob' q
  obtain⟨m,ob,hm,hu⟩:=news n ob' q
  obtain⟨r1,r2⟩:=cls n ob' q m ob hm hu
  refine⟨r1,fun b o qf=>?_⟩
  rcases r2 b o qf with c1|⟨obo,c1,c2,c3,c4⟩
  ·obtain⟨o1,o2,o3⟩:=ownE m ob hm b o c1
   refine⟨o1,fun z=>o2 (I2sub b z),fun z=>EX0 b o (o3 (Nat.lt_of_lt_of_le z h.step.size)) z,fun m' obm em hn' qm=>notE m' obm em hn' b o qm (o3 (h2.own m' obm em b o qm).1),fun m2 ob2 q2 qf2=>?_⟩
   obtain⟨k,obk,hk,huk⟩:=news m2 ob2 q2
   rcases(cls m2 ob2 q2 k obk hk huk).2 b o qf2 with d1|⟨obo2,d1,d2,d3,_⟩
   ·obtain rfl:=hE.sep k m obk ob (eobj k obk hk) (eobj m ob hm) b o d1 c1
    obtain rfl:=same hk hm
    rw[huk]at hu
    exact(Prod.mk.inj (Option.some.inj hu)).1
   ·exact absurd (o3 (h2.own m2 obo2 d1 b o d2).1) d3
  ·obtain⟨p1,p2,p3⟩:=h2.own n obo c1 b o c2
   refine⟨Nat.lt_of_lt_of_le p1 hstep.size,c4,p3,fun m' obm em hn' qm=>?_,fun m2 ob2 q2 qf2=>?_⟩
   ·obtain rfl:=h2.sep n m' obo obm c1 em b o c2 qm
    rw[hn']at q;cases q
   ·obtain⟨k,obk,hk,huk⟩:=news m2 ob2 q2
    rcases(cls m2 ob2 q2 k obk hk huk).2 b o qf2 with d1|⟨obo2,d1,d2,d3,_⟩
    ·exact absurd ((ownE k obk hk b o d1).2.2 p1) c3
    ·exact h2.sep m2 n obo2 obo d1 c1 b o d2 c2
 have hR:=h2.over hstep hL hF hU hI2I (fun b j q z=>EI b j z q) hI2 (fun n ob e hn b o q=>⟨notE n ob e hn b o q,notI2 b o (h2.own n ob e b o q).1 (h2.own n ob e b o q).2.1 (notE n ob e hn b o q)⟩) hNew EX0
 refine⟨L2,I2,hR,ren.res (fun i m hm=>?_) (fun q i=>?_) (fun i=>hE.slot i) nr,fun n hn=>hL n ?_,hI2I⟩
 ·rcases tW te i with⟨p,z1,_,z2⟩|⟨_,z2⟩
  ·rw[z2]at hm;exact ote p z1 m hm
  ·rw[z2]at hm;cases List.mem_singleton.1 hm
 ·have:=(hflt q).1
  rw[List.all_eq_true]at this
  rcases tW te i with⟨p,z1,_,z2⟩|⟨_,z2⟩
  ·rw[z2];exact this p z1
  ·rw[z2];rfl
 ·rintro ⟨m,rfl,hm⟩
  have:=hkn m hm
  rw[hn]at this
  cases this
end
def Plain (P:Program) (f:FuncId):Prop:=∃fn,P.funcs[f]?=some fn∧(fn.name=="runtime.NumGoroutine")=false∧fn.body.isNone=false
structure nI (P:Program) (K:eN) (E:aW):Prop where
 τ:cV P E.τ
 Γ:∀f d S,E.Γ f d=some S→Plain P f∧jo P K f S
 mo:P.follows .mixedOrders=true
 alt:∀p∈E.Γ2,Plain P p.1∧jo P K p.1 p.2
section
variable{P:Program}{X:oC}{L:Nm→Value}{I:Nat→Prop}{s:St}{a:Act}{w:World}{R:Type}
def fU.vals (a:Act):fU→List Value
 | .fn=>[]
 | .tmp t=>match a.tmps.getD t undef with
  | .func _ _ cs=>cs.toList
  |_=>[]
theorem yL{A:Nm→Option (Nat×Nat)}:∀{cs:List (Nm×Nat)}{us:List Value},rF L cs us→aI (RA L I w A) (cs.map fun p=>AV.c (.pb p.1 p.2)) us
 |[],[],_=>trivial
 |p::ps,u::us,⟨h1,h2⟩=>⟨h1,yL h2⟩
 |[],_::_,h=>h.elim
 |_::_,[],h=>h.elim
theorem yP (h:bD X L I s a w){f:Nat}{c:fU}{xs:List Operand}{vs:List AV}(e:s.argsOf f c xs=some vs):aI (RA L I w (AL s.o)) vs (xs.map a.eval++c.vals a):=by
 cases c with
 |fn =>
  obtain rfl:=Option.some.inj e
  simpa [fU.vals]using sA h xs
 |tmp t =>
  simp only[St.argsOf]at e
  split at e
  ·rename_i g cs et
   cases q:Nat.beq f g with
   |false=>simp_all
   |true =>
    rw[q]at e
    obtain rfl:=Option.some.inj e
    have r:=h.slot t
    rw[et]at r
    obtain⟨us,r1,r2⟩:=r
    refine(sA h xs).append ?_
    rw[show fU.vals a (.tmp t)=us by simp only[fU.vals,r1]]
    exact yL r2
  ·cases e
theorem oy{A:Nm→Option (Nat×Nat)}{c:CV}{u:Value}(r:RC L I w A c u) (g:Option Nat):∃u',RA L I w A (AI c g) u':=by
 unfold AI
 split
 ·exact⟨_,r⟩
 ·split
  ·rename_i p e
   obtain⟨us,_,r2⟩:=r
   obtain⟨u',_,r3⟩:=(yL (I:=I) (w:=w) (A:=A) r2).get (i:=_) (a:=AV.c (.pb p.1 p.2)) (by rw[List.getElem?_map,e];rfl)
   exact⟨u',r3⟩
  ·exact⟨undef,trivial⟩
 ·exact⟨undef,trivial⟩
theorem aI.getD{R:CV→Value→Prop}(hd:∀u,R .dead u){as:List CV}{bs:List Value}(h:aI R as bs) (i:Nat):∃u,R (as.getD i .dead) u:=by
 rw[List.getD_eq_getElem?_getD]
 cases e:as[i]? with
 |none=>simp_all
 |some a=>obtain⟨u,_,r⟩:=h.get e;exact⟨u,r⟩
theorem yA (h:bD X L I s a w){vs:List AV}{us:List Value}(r:aI (RA L I w (AL s.o)) vs us) (g:Nat×Nat×Option Nat):∃u,RA L I w (AL s.o) (yB s.o vs g) u:=by
 unfold yB
 split
 ·rename_i m off e
  split
  ·rename_i cs em
   obtain⟨b,o,vs',_,r1,_⟩:=h.obj m _ em
   obtain⟨u,r2⟩:=r1.getD (fun _=>trivial) (off+g.2.1)
   exact oy r2 _
  ·exact⟨undef,trivial⟩
 ·rename_i f cs e
  obtain⟨u,_,r1⟩:=r.get e
  exact oy (c := .clo f cs) r1 _
 ·rename_i cs e
  obtain⟨u,_,r1⟩:=r.get e
  obtain⟨vs',_,r1⟩:=r1
  obtain⟨u,r2⟩:=r1.getD (fun _=>trivial) g.2.1
  exact oy r2 _
 ·exact⟨undef,trivial⟩
theorem rb (h:bD X L I s a w):∀(gh:List (Nat×Nat×Option Nat)){vs:List AV}{us:List Value},aI (RA L I w (AL s.o)) vs us→∃us',aI (RA L I w (AL s.o)) (lV s.o vs gh) (us++us')
 |[],vs,us,r=>⟨[],by simpa [lV]using r⟩
 |g::gh,vs,us,r=>by
  obtain⟨u,r1⟩:=yA h r g
  obtain⟨us',r2⟩:=rb h gh (r.append (show aI (RA L I w (AL s.o)) [yB s.o vs g] [u]from⟨r1,trivial⟩))
  exact⟨u::us',by simpa [lV]using r2⟩
theorem tz (h:bD X L I s a w){f:FuncId}{S:ag}{K:eN}(hK:X.K=K) (ob:jo P K f S){c:fU}{xs:List Operand}{d:Nat}{k:St→Option R}{y:R}(e:kI S f c xs d s k=some y) (hd:d<X.N) :
  Calls P f (xs.map a.eval++c.vals a).toArray w fun e w'=>∃v,e = .returned v∧∃s' L' I',bD X L' I' s' (a.put (some d) v) w'∧(∀n,f6 n=true→L' n=L n)∧k s'=some y:=by
 unfold kI at e
 split at e
 ·rename_i vs0 ea0
  split at e
  ·rename_i ds0 ts0 e0
   have hfr:∃I1,(∀b,I b→I1 b)∧bD X L I1 (bif S.shares then s.frzs (ts0.flatMap bG.lent)else s) a w:=by
    cases S.shares with
    |true=>exact bD.frzs _ h
    |false=>grind
   obtain⟨I1,hI1,h1⟩:=hfr
   generalize (bif S.shares then s.frzs (ts0.flatMap bG.lent)else s)=s' at e h1
   unfold lu at e
   split at e
   ·rename_i vs ea
    cases q0:Nat.beq (vs.length+S.gh.length) S.pars.length with
    |false=>rw[q0]at e;cases e
    |true =>
    rw[q0]at e
    simp only[cond_true]at e
    have q0:=Nat.eq_of_beq_eq_true q0
    split at e
    ·rename_i ds ts e1
     cases q1:(il S.pars.length (aF 0 S.pars)&&(iq ts&&(bif S.shares then d9 (ts.flatMap bG.lent)else true)))with
     |false=>rw[q1]at e;cases e
     |true =>
      rw[q1]at e
      simp only[cond_true]at e
      rw[Bool.and_eq_true,Bool.and_eq_true]at q1
      obtain⟨q1,q2,q3⟩:=q1
      split at e
      ·rename_i x e2
       split at e
       ·rename_i r e3
        split at e
        ·rename_i ups e4
         cases q4:(gQ S d (s'.drops (ts.flatMap bG.moved++(S.ens.flatMap En.names).map (fun m=>d::m))).o ts (cy S.ens (ar _ r)) (eO S.ens (ar _ r)) ups)with
         |false=>rw[show gQ S d _ ts (cy S.ens (ar _ r)) (eO S.ens (ar _ r)) ups=false from q4]at e;cases e
         |true =>
          rw[show gQ S d _ ts (cy S.ens (ar _ r)) (eO S.ens (ar _ r)) ups=true from q4]at e
          simp only[cond_true]at e
          let Y:oC:={ K:=X.K,N:=S.pars.length,w0:=w,E:=fun b o=>∃t∈ts, ∃n ob,(∃m,t.pair=[(m,n)])∧s'.o n=some ob∧fp L n ob b o∧xG L t b o,I0:=EJ L I1 ts }
          have hus0:=yP h1 ea
          obtain⟨us',hus⟩:=rb h1 S.gh hus0
          have hlen:(xs.map a.eval++c.vals a++us').length=S.pars.length:=by
           grind [sn,pO,hus.len]
          have hreal:(xs.map a.eval++c.vals a).length=S.real:=by
           rw[←hus0.len];unfold ag.real;omega
          obtain⟨Lc,g1,_,g3⟩:=h1.reshape (I':=EJ L I1 ts) (fun b q => .inl q) e1 hus (fun _=>Iff.rfl) q1 q2 (Y:=Y) rfl rfl (a':=⟨(xs.map a.eval++c.vals a++us').toArray,[]⟩) rfl (by simpa using hlen)
           (fun i en u z1 z2=>by
            rw[uD z1,Nat.zero_add,Array.getD_eq_getD_getElem?,List.getElem?_toArray,z2];rfl)
           (fun t n ob b o z1 z2 z3 z4 z5 _=>⟨t,z1,n,ob,z2,z3,z4,z5⟩) (fun b q => .inl q) (fun b q=>q) (bT.refl _ w) (.inr (uC _ 0))
          have hx:dO (aF 0 S.pars) x=D8 (aF 0 S.pars) ds:=by unfold dO;rw[lJ e2]
          have hc:=ob Y Lc _ ⟨(xs.map a.eval++c.vals a++us').toArray,[]⟩ w x r e3 (by rw[hx];exact g1) hK rfl rfl
          have hf1:first S.real (xs.map a.eval++c.vals a++us').toArray=(xs.map a.eval++c.vals a).toArray:=by
           grind [first]
          rw[show(⟨(xs.map a.eval++c.vals a++us').toArray,[]⟩:Act).tmps=(xs.map a.eval++c.vals a++us').toArray from rfl,hf1]at hc
          refine Calls.mono hc fun en w' hen=>?_
          obtain⟨v,L',I',a',rfl,hE,hk,rfl⟩:=hen
          have hE':bD { Y with N:=S.pars.length+(S.res.length+S.nb.length) } L' I' ⟨cY (cy S.ens (ar _ r)),a5 (eO S.ens (ar _ r))⟩ a' w':=hE
          obtain⟨L2,I2,r1,r2,r3,_⟩:=Ko h1 (d:=d) (Y:={ Y with N:=S.pars.length+(S.res.length+S.nb.length) }) rfl (fun _ _=>Iff.rfl) (fun _=>Iff.rfl) g3 hE' hk q2 (fun hs=>by
           rw[hs]at q3
           generalize ts.flatMap bG.lent=l at q3
           cases l with
           |nil=>rfl
           |cons _ _=>cases q3) rfl e4 q4 (fun p hp m hm=>Ab hp hm) (fun q hq=>mW hq) (fun m cs n z1 z2=>Ad z1 z2) S.pars.length S.res.length
          exact⟨_,rfl,_,L2,I2,r1.put (some d) (fun i q=>(Option.some.inj q)▸hd) r2,r3,e⟩
        ·cases e
       ·cases e
      ·cases e
    ·cases e
   ·cases e
  ·cases e
 ·cases e
def oB (X:oC) (L:Nm→Value) (k:St→Option R) (y:R) (a:Act) (w:World):Prop :=
 ∃s' L' I',bD X L' I' s' a w∧(∀n,f6 n=true→L' n=L n)∧k s'=some y
theorem xk{d:Nat}{n:Nm}{off sz:Nat}{j:Int}{k:St→Option R}{y:R}:∀{m c:Nat},p7 s d n off sz j k c m=some y→∃q:Nat,c≤q∧q<c+m∧j=(q:Int)∧k (s.put (some d) (.c (.pb n (off+q*sz))))=some y
 |0,c,e=>by cases e
 |m+1,c,e=>by
  have e:(bif decide (j=(c:Int))then k (s.put (some d) (.c (.pb n (off+c*sz))))else p7 s d n off sz j k (c+1) m)=some y:=e
  by_cases h:j=(c:Int)
  ·grind
  ·rw[decide_eq_false h]at e
   obtain⟨q,h1,h2,h3,h4⟩:=xk (m:=m) (c:=c+1) e
   exact⟨q,by omega,by omega,h3,h4⟩
theorem B6 (h:bD X L I s a w) {τ:jx}(hτ:cV P τ){o:Oper}{d:Nat}(hd:o.dst=some d) (hdN:d<X.N){k:St→Option R}{y:R}(e:rB τ o.op d s k=some y) (Q:Exit→Act→World→Prop) :
  o.wp P a w (oB X L k y) Q:=by
 cases ho:o.op with
 |indexAddr t x i =>
  rw[ho]at e
  unfold rB at e
  dsimp only at e
  split at e
  ·rename_i ti n off ik j e1 e2 e3
   cases k4:Nat.beq ti.kind 4 with
   |false=>rw[k4]at e;cases e
   |true =>
    rw[k4]at e
    simp only[cond_true]at e
    split at e
    ·rename_i te e4
     cases k5:Nat.blt 0 te.size with
     |false=>rw[k5]at e;cases e
     |true =>
      rw[k5]at e
      simp only[cond_true]at e
      have hpos:0<te.size:=Nat.le_of_ble_eq_true k5
      obtain⟨q,_,h2,rfl,h4⟩:=xk e
      have rx:=h.ev x
      have ri:=h.ev i
      rw[e2]at rx
      rw[e3]at ri
      obtain⟨b,o0,g1,g2⟩:=rx
      obtain⟨len,hu,hn⟩:=(hτ t ti e1).array (Nat.eq_of_beq_eq_true k4)
      obtain⟨inf,hi1,hi2,_⟩:=(hτ _ te e4).info
      have hsize:ti.size=len*te.size:=by simp_all
      have hlen:ti.size / te.size=len:=by simp_all
      have hsz:=fun w=>(hτ _ te e4).sizeOf w
      have hq:q<len:=by omega
      have hg:ee P w a.eval o (.pointer (some ⟨b,o0+off+q*te.size,none⟩)):=by
       refine dE (e:=Instr.indexAt t (a.eval x) (a.eval i)) (by simp[execOp,ho]) ?_
       rw[g2,iL ri]
       have q1:(0:Int)≤(q:Int)∧(q:Int)<(len:Int):=⟨by omega,by omega⟩
       simp[Instr.indexAt,asIntOf,Instr.sureAddr,run_underlying hu,hsz,Result.andThen,q1,hq,Addr.add_lit]
      unfold Oper.wp
      rw[show(execOp a.eval o).run P w=_ from hg,Oper.upon_value,hd]
      refine⟨_,L,I,h.put (some d) (fun i hi=>(Option.some.inj hi)▸hdN) ?_,fun _ _=>rfl,h4⟩
      exact⟨b,o0,g1,by rw[Nat.add_assoc]⟩
    ·cases e
  ·cases e
 |_=>rw[ho]at e;cases e
theorem wL (h:bD X L I s a w){E:aW}(hE:nI P X.K E) (hN:E.N=X.N){o:Oper}{k:St→Option R}{y:R}(e:mT E o s k=some y) (Q:Exit→Act→World→Prop) :
  o.wp P a w (oB X L k y) Q:=by
 unfold mT at e
 split at e
 ·rename_i f args ts ho
  split at e
  ·rename_i d hd
   split at e
   ·rename_i S hS
    cases q:Nat.blt d E.N with
    |false=>rw[q]at e;cases e
    |true =>
     rw[q]at e
     simp only[cond_true]at e
     have hdN:d<X.N:=by simp_all
     obtain⟨⟨fn,p1,p2,p3⟩,ob⟩:=hE.Γ f d S hS
     have hc:=tz h rfl ob e hdN
     rw[show args.toList.map a.eval++fU.vals a .fn=args.toList.map a.eval from List.append_nil _]at hc
     have hex:(execOp a.eval o).run P w = .ok (.enter f (args.toList.map a.eval).toArray) w:=by
      have:(args.map a.eval)=(args.toList.map a.eval).toArray:=by rw[←Array.toList_map]
      rw[←this]
      have p2':¬fn.name="runtime.NumGoroutine":=fun z=>by rw[z]at p2;cases p2
      have p3':¬fn.body=none:=fun z=>by rw[z]at p3;cases p3
      simp[execOp,ho,resolve,invoke,callFunc,Deferred.ofValue,p1,p2',p3',Result.andThen,Act.eval]
     unfold Oper.wp
     rw[hex,Oper.upon_enter]
     refine Calls.mono hc fun en w' hen=>?_
     obtain⟨v,rfl,s',L',I',r1,r2,r3⟩:=hen
     show oB X L k y (a.put o.dst v) w'
     rw[hd]
     exact⟨s',L',I',r1,r2,r3⟩
   ·cases e
  ·cases e
 ·rename_i t args ts ho
  split at e
  ·rename_i d f cs hd hst
   split at e
   ·rename_i S hS
    cases q:Nat.blt d E.N with
    |false=>rw[q]at e;cases e
    |true =>
     rw[q]at e
     simp only[cond_true]at e
     have hdN:d<X.N:=by simp_all
     obtain⟨⟨fn,p1,p2,p3⟩,ob⟩:=hE.Γ f d S hS
     have hc:=tz h rfl ob e hdN
     have r:=h.slot t
     rw[hst]at r
     obtain⟨us,r1,_⟩:=r
     rw[show fU.vals a (.tmp t)=us by simp only[fU.vals,r1]]at hc
     have hex:(execOp a.eval o).run P w = .ok (.enter f (args.toList.map a.eval++us).toArray) w:=by
      have e1:(args.map a.eval)=(args.toList.map a.eval).toArray:=by rw[←Array.toList_map]
      have e2:(args.toList.map a.eval++us).toArray=#[]++(args.toList.map a.eval).toArray++us.toArray:=by simp
      have r1':a.eval (.tmp t) = .func (.func f) #[] us.toArray:=r1
      rw[e2, ←e1]
      have p2':¬fn.name="runtime.NumGoroutine":=fun z=>by rw[z]at p2;cases p2
      have p3':¬fn.body=none:=fun z=>by rw[z]at p3;cases p3
      simp[execOp,ho,resolve,invoke,callFunc,Deferred.ofValue,p1,p2',p3',Result.andThen,r1']
     unfold Oper.wp
     rw[hex,Oper.upon_enter]
     refine Calls.mono hc fun en w' hen=>?_
     obtain⟨v,rfl,s',L',I',r1,r2,r3⟩:=hen
     show oB X L k y (a.put o.dst v) w'
     rw[hd]
     exact⟨s',L',I',r1,r2,r3⟩
   ·cases e
  ·cases e
 ·rename_i op _
  split at e
  ·rename_i c v ev
   cases q:dn E.N o.dst with
   |false=>rw[q]at e;cases e
   |true =>
    rw[q]at e
    simp only[cond_true]at e
    split at e
    ·obtain⟨u,g1,g2⟩:=Dq h hE.τ ev
     unfold Oper.wp
     rw[show(execOp a.eval o).run P w=_ from g1,Oper.upon_value]
     refine⟨_,L,I,h.put o.dst (fun i hi=>?_) g2,fun _ _=>rfl,e⟩
     rw[hi]at q
     rw[←hN];exact Nat.le_of_ble_eq_true q
    ·cases e
  ·have write:∀{dst:Option Nat}{s':St},o.dst=dst→(∀i,dst=some i→i<X.N)→lE E.τ o.op dst s=some (true,s')→k s'=some y→o.wp P a w (oB X L k y) Q:=by
    intro dst s' hd hdN ew ek
    subst hd
    obtain⟨nx,w',L',I',g1,g2,g3⟩:=Do h hE.τ hdN ew
    unfold Oper.wp
    rw[g1]
    rcases g3 with⟨u,rfl,g3⟩|⟨rfl,g3⟩
    ·rw[Oper.upon_value];exact⟨s',L',I',g3,g2,ek⟩
    ·rw[Oper.upon_skip];exact⟨s',L',I',g3,g2,ek⟩
   split at e
   ·rename_i d hd
    cases q:Nat.blt d E.N with
    |false=>rw[q]at e;cases e
    |true =>
     rw[q]at e
     simp only[cond_true]at e
     have hdN:d<X.N:=by simp_all
     split at e
     ·rename_i c ob v em
      split at e
      ·obtain⟨u,w',u',g1,g2,g3⟩:=D4 h hE.τ em
       unfold Oper.wp
       rw[g1,Oper.upon_value,hd]
       exact⟨_,_,I,g2.put (some d) (fun i hi=>(Option.some.inj hi)▸hdN) g3,fun m hm=>nN L u' (fun z=>by rw[z]at hm;cases hm),e⟩
      ·cases e
     ·split at e
      ·rename_i c s' ew
       split at e
       ·exact write hd (fun i hi=>(Option.some.inj hi)▸hdN) ew e
       ·cases e
      ·exact B6 h hE.τ hd hdN e Q
   ·rename_i hd
    split at e
    ·rename_i c s' ew
     split at e
     ·exact write hd (fun i hi=>by cases hi) ew e
     ·cases e
    ·cases e
theorem uT{v:AV}{b:Bool}(h:lp v=some b):v = .c (.v .bool b):=by
 unfold lp at h
 split at h
 ·simp_all
 ·cases h
theorem oV{c:Operand}{b:Bool}(h:lp (s.ev c)=some b):s.know c b=s:=by
 cases c with
 |tmp t =>
  have e:=uT h
  have e:s.t t = .c (.v .bool b):=e
  have:(fun i=>bif Nat.beq i t then AV.c (.v .bool b)else s.t i)=s.t:=by
   funext i
   cases q:Nat.beq i t with
   |true=>simp_all
   |false=>rfl
  show(⟨fun i=>bif Nat.beq i t then AV.c (.v .bool b)else s.t i,s.o⟩:St)=s
  rw[this]
 |_=>rfl
theorem wo (h:bD X L I s a w){all:List Oper}{o:Oper}{j t:Nat}{want b:Bool}(hg:o.guard=some (j,want)) (ht:(all[j]?).bind (·.dst)=some t) (hb:lp (s.t t)=some b) :
  Region.wanted o (yielded all.toArray a.tmps)=(b==want):=by
 have hv:=uT hb
 have hsl:=h.slot t
 rw[hv]at hsl
 have hsl:a.tmps.getD t undef = .bool b:=List.head_eq_of_cons_eq hsl
 have hy:yielded all.toArray a.tmps j=some b:=by
  unfold yielded
  have:(all.toArray[j]?).bind (·.dst)=some t:=by simpa using ht
  rw[this]
  have:a.tmps[t]?=some (.bool b):=by
   rw[Array.getD_eq_getD_getElem?]at hsl
   cases q:a.tmps[t]? with
   |none=>rw[q]at hsl;cases hsl
   |some z=>simp_all
  simp[this]
 unfold Region.wanted
 rw[hg]
 show(yielded all.toArray a.tmps j==some want)=_
 rw[hy]
 cases b<;>cases want<;>rfl
theorem II{v:AV}(h:jw v=true):v=lT:=by
 grind [jw,split,lT]
theorem sZ (h:bD X L I s a w){all:List Oper}{o:Oper}{j t:Nat}{want:Bool}(hg:o.guard=some (j,want)) (ht:(all[j]?).bind (·.dst)=some t) (hb:jw (s.t t)=true) :
  Region.wanted o (yielded all.toArray a.tmps)=false:=by
 have hv:=II hb
 have hsl:=h.slot t
 rw[hv]at hsl
 have hsl:a.tmps.getD t undef = .tuple #[]:=hsl
 have hy:yielded all.toArray a.tmps j=none:=by
  unfold yielded
  have:(all.toArray[j]?).bind (·.dst)=some t:=by simpa using ht
  rw[this]
  rw[Array.getD_eq_getD_getElem?]at hsl
  cases q:a.tmps[t]? with
  |none=>simp[q]
  |some z =>
   simp_all
 unfold Region.wanted
 rw[hg]
 show(yielded all.toArray a.tmps j==some want)=_
 rw[hy];rfl
theorem uG (h:bD X L I s a w){E:aW}(hE:nI P X.K E) (hN:E.N=X.N){all:List Oper}{o:Oper}{r:List Oper}{k:St→Option R}{y:R}(e:cg E all (o::r) s k=some y) (Q:Exit→Act→World→Prop) :
  if Region.wanted o (yielded all.toArray a.tmps)then o.wp P a w (oB X L (fun s'=>cg E all r s' k) y) Q else oB X L (fun s'=>cg E all r s' k) y (a.put o.dst undef) w:=by
 have go:mT E o s (fun s'=>cg E all r s' k)=some y→o.wp P a w (oB X L (fun s'=>cg E all r s' k) y) Q:=fun e=>wL h hE hN e Q
 have skip:(bif dn E.N o.dst then cg E all r (s.put o.dst lT) k else none)=some y→oB X L (fun s'=>cg E all r s' k) y (a.put o.dst undef) w:=by
  intro e
  cases q:dn E.N o.dst with
  |false=>simp_all
  |true =>
   rw[q]at e
   simp only[cond_true]at e
   refine⟨_,L,I,h.put o.dst (fun i hi=>?_) (v:=lT) rfl,fun _ _=>rfl,e⟩
   rw[hi]at q
   rw[←hN];exact Nat.le_of_ble_eq_true q
 simp only[cg]at e
 split at e
 ·rename_i hg
  rw[if_pos (by simp[Region.wanted,hg])]
  exact go e
 ·rename_i j want hg
  split at e
  ·rename_i t ht
   split at e
   ·rename_i b hb
    rw[wo h hg ht hb]
    have hkn:∀c,c=b→s.know (.tmp t) c=s:=fun c q=>by subst q;exact oV (c := .tmp t) hb
    cases b with
    |true =>
     cases want with
     |true=>rw[if_pos (show(true==true)=true from rfl)];simp only[hkn true rfl]at e;exact go e
     |false=>rw[if_neg (by decide)];simp only[hkn true rfl]at e;exact skip e
    |false =>
     cases want with
     |false=>rw[if_pos (show(false==false)=true from rfl)];simp only[hkn false rfl]at e;exact go e
     |true=>rw[if_neg (by decide)];simp only[hkn false rfl]at e;exact skip e
   ·rename_i hb
    cases qg:jw (s.t t)with
    |false=>rw[qg]at e;cases e
    |true =>
     rw[qg,Bool.true_and]at e
     rw[sZ h hg ht qg,if_neg (by decide)]
     exact skip e
  ·cases e
theorem uF{E:aW}(hE:nI P X.K E) (hN:E.N=X.N){all:List Oper}{Q:Exit→Act→World→Prop}{k:St→Option R}{y:R}(hQ:∀a w,oB X L k y a w→Q .normal a w) :
  ∀{l:List Oper}{L1:Nm→Value}{I:Nat→Prop}{s:St}{a:Act}{w:World},bD X L1 I s a w→(∀n,f6 n=true→L1 n=L n)→cg E all l s k=some y→wpList P all.toArray Q l a w
 |[],L1,I,s,a,w,h,hk,e=>wpList_nil (hQ _ _ ⟨s,L1,I,h,hk,e⟩)
 |o::r,L1,I,s,a,w,h,hk,e=>by
  have one:=uG h hE hN e Q
  have next:∀a' w',oB X L1 (fun s'=>cg E all r s' k) y a' w'→wpList P all.toArray Q r a' w':=fun a' w' hp=>by
   obtain⟨s',L',I',r1,r2,r3⟩:=hp
   exact uF hE hN hQ r1 (fun n hn=>(r2 n hn).trans (hk n hn)) r3
  unfold wpList
  split
  ·rename_i hw;rw[if_pos hw]at one;exact .inl (Oper.wp_mono next one)
  ·simp_all
end
section
variable{P:Program}{X:oC}{L:Nm→Value}{I:Nat→Prop}{s:St}{a:Act}{w:World}{R:Type}
theorem dz{a b:Nat}(h:a≠b):Nat.beq a b=false:=by
 cases q:Nat.beq a b with
 |false=>rfl
 |true=>simp_all
theorem si{l:List Nm}:d9 l=true↔l=[]:=by cases l<;>simp[d9]
theorem AN{S:ag}{xs:List Operand}{d:Nat}{v:AV}(e:xB S (xs.map s.ev) d s.o=some v) (f:Nat) (k:St→Option R):kI S f .fn xs d s k=k (s.put (some d) v):=by
 unfold xB at e
 split at e
 ·rename_i ds ts e1
  cases q:Ll S ts with
  |false=>simp_all
  |true =>
   rw[q]at e
   simp only[cond_true]at e
   unfold Ll at q
   rw[Bool.and_eq_true,Bool.and_eq_true,Bool.and_eq_true,Bool.and_eq_true,Bool.and_eq_true,si,si]at q
   obtain⟨qg,qt,q1,q2,q3,q4⟩:=q
   have hgh:S.gh=[]:=by
    generalize S.gh=l at qg
    cases l with
    |nil=>rfl
    |cons _ _=>cases qg
   have hpts:ts.flatMap bG.pts=[]:=by
    generalize ts.flatMap bG.pts=l at qt
    cases l with
    |nil=>rfl
    |cons _ _=>cases qt
   have hvl:Nat.beq ((xs.map s.ev).length+S.gh.length) S.pars.length=true:=by
    have:=sn e1
    rw[pO]at this
    rw[this,hgh];exact Nat.beq_refl _
   split at e
   ·rename_i x e2
    split at e
    ·rename_i r e3
     cases q5:(bif S.shares then true else(cy S.ens (ar (bg (dl S.pars S.res S.nb)) r)).all (fun p=>p.2.flat))with
     |false=>simp_all
     |true =>
      rw[q5]at e
      obtain rfl:=Option.some.inj e
      have hs:(bif S.shares then s.frzs (ts.flatMap bG.lent)else s)=s:=by
       cases hsh:S.shares with
       |false=>rfl
       |true =>
        rw[hsh]at q3
        rw[si.1 q3];rfl
      have hp:ts.flatMap bG.pair=[]:=List.map_eq_nil_iff.1 q2
      have hm:ts.flatMap bG.moved=[]:=by
       rw[List.flatMap_eq_nil_iff]at hp ⊢
       intro t ht
       have:=hp t ht
       cases t<;>simp_all [bG.pair,bG.moved]
      have ho:eO S.ens (ar (bg (dl S.pars S.res S.nb)) r)=[]:=by
       rcases hmb:eO S.ens (ar (bg (dl S.pars S.res S.nb)) r)with _|⟨z,l⟩
       ·rfl
       ·have:=mW (q:=z) (by rw[hmb];exact List.mem_cons_self ..)
        rw[q4]at this;cases this
      have htags:iq ts=true:=by
       grind [iq,mV,yQ,km]
      have hok:gQ S d s.o ts (cy S.ens (ar (bg (dl S.pars S.res S.nb)) r)) [] []=true:=by
       simp_all [gQ,mV]
      unfold kI
      rw[show s.argsOf f .fn xs=some (xs.map s.ev)from rfl]
      dsimp only
      rw[hgh,show lV s.o (xs.map s.ev) []=xs.map s.ev from rfl,e1]
      dsimp only
      rw[hs]
      unfold lu
      rw[show s.argsOf f .fn xs=some (xs.map s.ev)from rfl]
      dsimp only
      rw[hvl]
      simp only[cond_true]
      rw[hgh,show lV s.o (xs.map s.ev) []=xs.map s.ev from rfl,e1]
      dsimp only
      rw[q1,htags,q3]
      simp only[Bool.and_true,cond_true,Bool.true_and]
      rw[e2]
      dsimp only
      rw[e3]
      dsimp only
      rw[hm,q4,ho]
      simp only[List.map_nil,List.append_nil,St.drops,kG]
      rw[hok]
      rfl
    ·cases e
   ·cases e
 ·cases e
theorem Ih{E:aW}{o:Oper}{v:AV}(e:DY E o s.ev s.o=some (true,v)) (hd:dn E.N o.dst=true) (k:St→Option R):mT E o s k=k (s.put o.dst v):=by
 unfold DY at e
 unfold mT
 split at e
 ·grind [split,AN,DY,St.ev,dn,mT,St.put]
 ·rename_i op hno
  split
  ·simp_all
  ·simp_all [eZ]
  ·simp_all
theorem rI {τ:jx}{op:Op}{e e':Operand→AV}{o:Nm→Option Ob}(h:∀x∈op.operands,e x=e' x):eZ τ op e o=eZ τ op e' o:=by
 have pairs:∀ps:Array (Nat×Operand),(∀x∈(ps.toList.map (·.2)).toArray,e x=e' x)→(ps.toList.map fun p=>(p.1,e p.2))=(ps.toList.map fun p=>(p.1,e' p.2)):=fun ps hp =>
  List.map_congr_left fun p hm=>by rw[hp p.2 (by simp;exact⟨p.1,by simpa using hm⟩)]
 cases op<;>simp only[Op.operands]at h<;>simp only[eZ]
 case build t ps=>rw[pairs ps h]
 case call c =>
  obtain⟨cl,xs,ts⟩:=c
  cases cl with
  |builtin b =>
   have:xs.toList.map e=xs.toList.map e':=List.map_congr_left fun x hx=>h x (by simp[Call.operands];simpa using hx)
   simp only[this]
  |_=>rfl
 case lookup t m k ok =>
  cases ok with
  |true=>rfl
  |false =>
   have h1:=h m (by simp)
   have h2:=h k (by simp)
   simp only[h1,h2]
 case makeFunc fn xs ys =>
  cases fn with
  |func f =>
   have:ys.toList.map e=ys.toList.map e':=List.map_congr_left fun x hx=>h x (by simp;exact .inr (by simpa using hx))
   simp only[this]
  |_=>rfl
 case slice t x lo hi mx =>
  cases mx with
  |some m=>rfl
  |none =>
   have h1:=h x (by simp)
   have h2:lo.map e=lo.map e':=by cases lo with
    |none=>rfl
    |some l=>exact congrArg some (h l (by simp))
   have h3:hi.map e=hi.map e':=by cases hi with
    |none=>rfl
    |some l=>exact congrArg some (h l (by simp))
   simp only[h1,h2,h3]
 all_goals first
  |rfl
  |(simp at h;simp only[h];done)
  |(simp at h;rw[h];done)
  |(simp at h;obtain⟨h1,h2⟩:=h;simp only[h1,h2];done)
  |(simp at h;obtain⟨h1,h2,h3⟩:=h;simp only[h1,h2,h3];done)
theorem DW{E:aW}{o:Oper}{e e':Operand→AV}{ob:Nm→Option Ob}(h:∀x∈o.op.operands,e x=e' x):DY E o e ob=DY E o e' ob:=by
 unfold DY
 split
 ·rename_i f args ts ho
  rw[ho]at h
  have:args.toList.map e=args.toList.map e':=List.map_congr_left fun x hx=>h x (by simp[Op.operands,Call.operands];exact .inr (by simpa using hx))
  rw[this]
 ·exact rI h
theorem EA{S:ag}{vs:List AV}{d:Nat}{o:Nm→Option Ob}(k:AV→Option R):BX S vs d o k=match xB S vs d o with|some v=>k v|none=>none:=by
 grind [BX,xB,split,Ll,cy,ar,bg,dl]
theorem yg{E:aW}{o:Oper}{e:Operand→AV}{ob:Nm→Option Ob}(k:AV→Option R):DX E o e ob k=match(match DY E o e ob with|some (true,v)=>some v|_=>none)with|some v=>k v|none=>none:=by
 unfold DX DY
 split
 ·grind [split,EA,xB]
 ·grind
def xS (E:aW) (all:List Oper) (o:Oper) (s:St):Option AV :=
 match o.guard with
 |none=>match DY E o s.ev s.o with
  |some (true,v)=>some v
  |_=>none
 |some (j,want)=>match(all[j]?).bind (·.dst)with
  |some t=>match lp (s.t t)with
   |some b=>match b==want with
    |true=>match DY E o s.ev s.o with
     |some (true,v)=>some v
     |_=>none
    |false=>some lT
   |none=>match jw (s.t t)with
    |true=>some lT
    |false=>none
  |none=>none
theorem rQ (E:aW) (all:List Oper) (o:Oper) (r:List Oper) (s:St) (k:St→Option R) :
  kj E all (o::r) s k=bif dn E.N o.dst then(match xS E all o s with|some v=>kj E all r (s.put o.dst v) k|none=>none)else none:=by
 simp only[kj]
 congr 1
 unfold xS
 cases hg:o.guard with
 |none=>exact yg _
 |some gw =>
  obtain⟨j,want⟩:=gw
  dsimp only
  cases ht:(all[j]?).bind (·.dst)with
  |none=>rfl
  |some t =>
   dsimp only
   cases hb:lp (s.t t)with
   |none=>cases qg:jw (s.t t)<;>rfl
   |some b =>
    dsimp only
    have hkn:∀c,c=b→s.know (.tmp t) c=s:=fun c q=>by subst q;exact oV (c := .tmp t) hb
    cases b with
    |true =>
     simp only[hkn true rfl]
     cases want with
     |true=>exact yg _
     |false=>rfl
    |false =>
     simp only[hkn false rfl]
     cases want with
     |false=>exact yg _
     |true=>rfl
theorem za{E:aW}{all:List Oper}{o:Oper}{x:Option Nat}{u:AV}(h:∀d,x=some d→d∉o.looksAt all.toArray):xS E all o (s.put x u)=xS E all o s:=by
 cases x with
 |none=>rfl
 |some d =>
  have hd:=h d rfl
  have hop:DY E o (s.put (some d) u).ev (s.put (some d) u).o=DY E o s.ev s.o:=by
   refine DW fun y hy=>?_
   cases y with
   |tmp t =>
    have:t≠d:=fun q=>hd (List.mem_append_left _ (List.mem_filterMap.2 ⟨.tmp t,by simpa using hy,by rw[q]⟩))
    show(bif Nat.beq t d then u else s.t t)=s.t t
    rw[dz this];rfl
   |_=>rfl
  unfold xS
  rw[hop]
  cases hg:o.guard with
  |none=>rfl
  |some gw =>
   obtain⟨j,want⟩:=gw
   dsimp only
   cases ht:(all[j]?).bind (·.dst)with
   |none=>rfl
   |some t =>
    have:t≠d:=fun q=>hd (List.mem_append_right _ (by
     rw[hg]
     have ht':(all.toArray[j]?).bind (·.dst)=some t:=by simpa using ht
     simp only[ht',q]
     simp))
    have hst:(s.put (some d) u).t t=s.t t:=by
     simp_all [dz,xS,St.put]
    simp only[hst]
theorem me{x y:Option Nat}{u v:AV}(h:∀d,x=some d→y≠some d):(s.put x u).put y v=(s.put y v).put x u:=by
 cases x with
 |none=>rfl
 |some d =>
  cases y with
  |none=>rfl
  |some e =>
   have hne:d≠e:=fun q=>h d rfl (by rw[q])
   show(⟨_,_⟩:St)=⟨_,_⟩
   congr 1
   funext i
   show(bif Nat.beq i e then v else bif Nat.beq i d then u else s.t i)=bif Nat.beq i d then u else bif Nat.beq i e then v else s.t i
   cases q1:Nat.beq i e with
   |false=>rfl
   |true =>
    simp_all [dz]
theorem Gs{E:aW}{all:List Oper}{oj:Oper}{k:St→Option R}{y:R}{B:List Oper}:∀{A:List Oper}{s:St},kj E all (A++oj::B) s k=some y→(∀oi∈A,oi.apart all.toArray oj=true) →
  dn E.N oj.dst=true∧∃v,xS E all oj s=some v∧kj E all (A++B) (s.put oj.dst v) k=some y
 |[],s,e,_=>by
  grind [rQ,dn,split]
 |oi::A,s,e,h=>by
  rw[List.cons_append,rQ]at e
  cases q:dn E.N oi.dst with
  |false=>simp_all
  |true =>
   rw[q]at e
   simp only[cond_true]at e
   split at e
   ·rename_i u eu
    obtain⟨g1,v,g2,g3⟩:=Gs e (fun x hx=>h x (List.mem_cons_of_mem _ hx))
    obtain⟨h1,h2,h3⟩:=Oper.apart_spec (h oi (List.mem_cons_self ..))
    rw[za h1]at g2
    refine⟨g1,v,g2,?_⟩
    rw[List.cons_append,rQ,q]
    simp only[cond_true]
    rw[za h3,eu]
    dsimp only
    rw[←me h2]
    exact g3
   ·cases e
theorem Dw (h:bD X L I s a w){E:aW}(hE:nI P X.K E) (hN:E.N=X.N){all:List Oper}{o:Oper}{v:AV}(hd:dn E.N o.dst=true) (e:xS E all o s=some v) (Q:Exit→Act→World→Prop) :
  if Region.wanted o (yielded all.toArray a.tmps)then o.wp P a w (oB X L (fun s'=>some s') (s.put o.dst v)) Q else oB X L (fun s'=>some s') (s.put o.dst v) (a.put o.dst undef) w:=by
 have go:∀{q:Option (Bool×AV)},DY E o s.ev s.o=q→(match q with|some (true,v)=>some v|_=>none)=some v→o.wp P a w (oB X L (fun s'=>some s') (s.put o.dst v)) Q:=by
  grind [wL,Ih]
 unfold xS at e
 cases hg:o.guard with
 |none =>
  rw[hg]at e
  rw[if_pos (by simp[Region.wanted,hg])]
  exact go rfl e
 |some gw =>
  obtain⟨j,want⟩:=gw
  rw[hg]at e
  dsimp only at e
  split at e
  ·rename_i t ht
   split at e
   ·rename_i b hb
    rw[wo h hg ht hb]
    split at e
    ·rename_i hbw
     rw[if_pos hbw]
     exact go rfl e
    ·rename_i hbw
     rw[if_neg (by rw[hbw];decide)]
     obtain rfl:=Option.some.inj e
     refine⟨_,L,I,h.put o.dst (fun i hi=>?_) (v:=lT) rfl,fun _ _=>rfl,rfl⟩
     rw[hi]at hd
     rw[←hN];exact Nat.le_of_ble_eq_true hd
   ·split at e
    ·rename_i qg
     rw[sZ h hg ht qg,if_neg (by decide)]
     obtain rfl:=Option.some.inj e
     refine⟨_,L,I,h.put o.dst (fun i hi=>?_) (v:=lT) rfl,fun _ _=>rfl,rfl⟩
     rw[hi]at hd
     rw[←hN];exact Nat.le_of_ble_eq_true hd
    ·cases e
  ·cases e
def kJ (v:AV):Prop:=∀n,v.drop n=v∧(∀t xs,v.frz n t xs=v)∧∀k,v.past n k=v
theorem zh (c:Value):kJ (lM c):=by
 intro n
 have cells:∀(l:List CV),(∀x∈l, ∀m,¬dc x m)→l.map (CV.drop n)=l∧(∀t xs,l.map (CV.frz n t xs)=l)∧∀k,l.map (CV.past n k)=l:=by
  intro l
  induction l with
  |nil=>simp_all
  |cons x l ih =>
   intro h
   obtain⟨h1,h2,h3⟩:=ih (fun y hy=>h y (List.mem_cons_of_mem _ hy))
   have hx:x.drop n=x∧(∀t xs,x.frz n t xs=x)∧∀k,x.past n k=x:=by
    have:=h x (List.mem_cons_self ..)
    cases x with
    |own m=>exact absurd rfl (this m)
    |pb m i=>exact absurd rfl (this m)
    |pa m _ _ _=>exact absurd rfl (this m)
    |mp m=>exact absurd rfl (this m)
    |clo f cs =>
     cases cs with
     |nil=>exact⟨rfl,fun _ _=>rfl,fun _=>rfl⟩
     |cons p cs=>exact absurd ⟨p,List.mem_cons_self ..,rfl⟩ (this p.1)
    |_=>exact⟨rfl,fun _ _=>rfl,fun _=>rfl⟩
   exact⟨by rw[List.map_cons,hx.1,h1],fun t xs=>by rw[List.map_cons,hx.2.1,h2],fun k=>by rw[List.map_cons,hx.2.2,h3]⟩
 unfold lM
 split
 ·exact⟨rfl,fun _ _=>rfl,fun _=>rfl⟩
 ·exact⟨rfl,fun _ _=>rfl,fun _=>rfl⟩
 ·exact⟨rfl,fun _ _=>rfl,fun _=>rfl⟩
 ·exact⟨rfl,fun _ _=>rfl,fun _=>rfl⟩
 ·rename_i cs
  have:=cells (cs.toList.map fun
   | .int k n=>CV.v (.int k) n
   | .bool b => .v .bool b
   | .string s => .v .str s
   | .slice none 0 0 => .nil
   |u => .raw u) (fun x hx m=>by
    obtain⟨u,_,rfl⟩:=List.mem_map.1 hx
    split<;>exact id)
  exact⟨congrArg AV.g this.1,fun t xs=>congrArg AV.g (this.2.1 t xs),fun k=>congrArg AV.g (this.2.2 k)⟩
 ·exact⟨rfl,fun _ _=>rfl,fun _=>rfl⟩
section
variable{df:Nat}{v:AV}
theorem nW (hv:kJ v) (n:Nm):(s.put (some df) v).drop n=(s.drop n).put (some df) v:=by
 show(⟨_,_⟩:St)=⟨_,_⟩
 congr 1
 funext i
 show(bif Nat.beq i df then v else s.t i).drop n=bif Nat.beq i df then v else(s.t i).drop n
 cases Nat.beq i df with
 |true=>exact(hv n).1
 |false=>rfl
theorem Ft (hv:kJ v) (n:Nm) (k:Nat):(s.put (some df) v).past n k=(s.past n k).put (some df) v:=by
 show(⟨_,_⟩:St)=⟨_,_⟩
 congr 1
 funext i
 show(bif Nat.beq i df then v else s.t i).past n k=bif Nat.beq i df then v else(s.t i).past n k
 cases Nat.beq i df with
 |true=>exact(hv n).2.2 k
 |false=>rfl
theorem uw (hv:kJ v) (n:Nm) (t:Ty) (xs:List t.den):(s.put (some df) v).freeze n t xs=(s.freeze n t xs).put (some df) v:=by
 show(⟨_,_⟩:St)=⟨_,_⟩
 congr 1
 funext i
 show(bif Nat.beq i df then v else s.t i).frz n t xs=bif Nat.beq i df then v else(s.t i).frz n t xs
 cases Nat.beq i df with
 |true=>exact(hv n).2.1 t xs
 |false=>rfl
theorem wA (hv:kJ v):∀(ns:List Nm) (s:St),(s.put (some df) v).drops ns=(s.drops ns).put (some df) v
 |[],_=>rfl
 |n::r,s=>by
  show((s.put (some df) v).drop n).drops r=((s.drop n).drops r).put (some df) v
  rw[nW hv,wA hv r]
theorem zw (hv:kJ v):∀(ns:List Nm) (s:St),(s.put (some df) v).frzs ns=(s.frzs ns).put (some df) v
 |[],_=>rfl
 |n::r,s=>by
  show((s.put (some df) v).frz1 n).frzs r=((s.frz1 n).frzs r).put (some df) v
  have:(s.put (some df) v).frz1 n=(s.frz1 n).put (some df) v:=by
   grind [St.frz1,uw,kJ,St.put,St.frzs]
  rw[this,zw hv r]
theorem fS{x:Operand}(h:x ≠ .tmp df):(s.put (some df) v).ev x=s.ev x:=by
 cases x with
 |tmp t =>
  simp_all [dz,St.put,St.ev]
 |_=>rfl
theorem yF{xs:List Operand}(h:∀x∈xs,x ≠ .tmp df):xs.map (s.put (some df) v).ev=xs.map s.ev:=List.map_congr_left fun x hx=>fS (h x hx)
theorem vw{f:Nat}{c:fU}{xs:List Operand}(h:∀x∈xs,x ≠ .tmp df) (hc:∀t,c = .tmp t→t≠df):(s.put (some df) v).argsOf f c xs=s.argsOf f c xs:=by
 cases c with
 |fn=>exact congrArg some (yF h)
 |tmp t =>
  grind [dz,St.argsOf,yF,St.put]
theorem yN{S:ag}{f:Nat}{c:fU}{xs:List Operand}{d:Nat}(hv:kJ v) (h:∀x∈xs,x ≠ .tmp df) (hc:∀t,c = .tmp t→t≠df) (hd:d≠df) (k:St→Option R):lu S f c xs d (s.put (some df) v) k=lu S f c xs d s (fun s'=>k (s'.put (some df) v)):=by
 have hp:∀ups s1 (u:AV),(St.over ups (St.put (some df) v s1)).put (some d) u=((St.over ups s1).put (some d) u).put (some df) v:=fun ups s1 u =>
  me (s:=St.over ups s1) (fun e he q=>hd ((Option.some.inj q).trans (Option.some.inj he).symm))
 unfold lu
 rw[vw h hc]
 rw[show(s.put (some df) v).o=s.o from rfl]
 simp only[wA hv,hp]
 rfl
theorem tA{S:ag}{f:Nat}{c:fU}{xs:List Operand}{d:Nat}(hv:kJ v) (h:∀x∈xs,x ≠ .tmp df) (hc:∀t,c = .tmp t→t≠df) (hd:d≠df) (k:St→Option R):kI S f c xs d (s.put (some df) v) k=kI S f c xs d s (fun s'=>k (s'.put (some df) v)):=by
 grind [kI,vw,split,bG.lent,zw,yN,kJ,St.put]
theorem nQ (n:Nm) (ob:Ob):(s.put (some df) v).setO n ob=(s.setO n ob).put (some df) v:=rfl
theorem t6 {α β:Type}(c:Bool) (f:α→β) (x y:Option α):Option.map f (bif c then x else y)=bif c then Option.map f x else Option.map f y:=by grind
theorem wn {τ:jx}{op:Op}{dst:Option Nat}(hv:kJ v) (h:∀x∈op.operands,x ≠ .tmp df) (hd:∀d,dst=some d→d≠df) :
  lE τ op dst (s.put (some df) v)=(lE τ op dst s).map fun p=>(p.1,p.2.put (some df) v):=by
 have hp:∀s1 (u:AV),(St.put (some df) v s1).put dst u=(St.put dst u s1).put (some df) v:=fun s1 u =>
  me (s:=s1) (fun e he q=>hd _ q (Option.some.inj he).symm)
 cases op with
 |store t a x =>
  have h1:=fS (s:=s) (v:=v) (h a (by simp[Op.operands]))
  have h2:=fS (s:=s) (v:=v) (h x (by simp[Op.operands]))
  simp only[lE,h1,h2]
  rw[show(s.put (some df) v).o=s.o from rfl]
  split
  ·rename_i ti p new e1 e2 e3
   cases(Nat.beq new.length ti.size&&new.all CV.fine)with
   |false=>rfl
   |true =>
    simp only[cond_true]
    split
    ·rename_i nm ob e4
     show some (true,St.put dst _ (St.put (some df) v (s.setO nm ob)))=some (true,St.put (some df) v (St.put dst _ (s.setO nm ob)))
     rw[hp]
    ·rfl
  ·rfl
 |slice ty x lo hi mx =>
  cases mx with
  |some m=>rfl
  |none =>
   have h1:=fS (s:=s) (v:=v) (h x (by simp[Op.operands]))
   have h2:lo.map (s.put (some df) v).ev=lo.map s.ev:=by
    cases lo with
    |none=>rfl
    |some l=>simp_all [fS,Op.operands]
   have h3:hi.map (s.put (some df) v).ev=hi.map s.ev:=by
    cases hi with
    |none=>rfl
    |some l=>simp_all [fS,Op.operands]
   simp only[lE,h1,h2,h3]
   rw[show(s.put (some df) v).o=s.o from rfl]
   split
   ·rename_i ti n e1 e2
    cases Nat.beq ti.kind 3 with
    |false=>rfl
    |true =>
     simp only[cond_true]
     split
     ·rename_i el t xs te e3 e4
      cases Nat.beq te.size t.sz with
      |false=>rfl
      |true =>
       simp only[cond_true]
       split<;>first
        |rfl
        |(simp only[uw hv,hp,Option.map_some];done)
        |(simp only[hp,Option.map_some];done)
     ·rfl
   ·rfl
 |convert q d x =>
  have h1:=fS (s:=s) (v:=v) (h x (by simp[Op.operands]))
  simp only[lE,h1]
  rw[show(s.put (some df) v).o=s.o from rfl]
  simp only[nW hv,hp]
  repeat' (first|rfl|split)
  all_goals simp only[t6,Option.map_none,Option.map_some]
 |mapUpdate t m k x =>
  have h1:=fS (s:=s) (v:=v) (h m (by simp[Op.operands]))
  have h2:=fS (s:=s) (v:=v) (h k (by simp[Op.operands]))
  have h3:=fS (s:=s) (v:=v) (h x (by simp[Op.operands]))
  simp only[lE,h1,h2,h3]
  rw[show(s.put (some df) v).o=s.o from rfl]
  simp only[nQ,hp]
  repeat' (first|rfl|split)
  all_goals simp only[t6,Option.map_none,Option.map_some]
 |mapEntry t m k =>
  have h1:=fS (s:=s) (v:=v) (h m (by simp[Op.operands]))
  have h2:=fS (s:=s) (v:=v) (h k (by simp[Op.operands]))
  simp only[lE,h1,h2]
  rw[show(s.put (some df) v).o=s.o from rfl]
  simp only[nQ,hp]
  repeat' (first|rfl|split)
  all_goals simp only[t6,Option.map_none,Option.map_some]
 |entryStore t m j x =>
  have h1:=fS (s:=s) (v:=v) (h m (by simp[Op.operands]))
  have h2:=fS (s:=s) (v:=v) (h j (by simp[Op.operands]))
  have h3:=fS (s:=s) (v:=v) (h x (by simp[Op.operands]))
  simp only[lE,h1,h2,h3]
  rw[show(s.put (some df) v).o=s.o from rfl]
  simp only[nQ,hp]
  repeat' (first|rfl|split)
 |call c =>
  obtain⟨cl,xs,ts⟩:=c
  cases cl with
  |builtin b =>
   cases b with
   |append =>
    have h1:xs.toList.map (s.put (some df) v).ev=xs.toList.map s.ev:=yF fun x hx=>h x (by simp[Op.operands,Call.operands];simpa using hx)
    simp only[lE,h1]
    rw[show(s.put (some df) v).o=s.o from rfl]
    simp only[nW hv,Ft hv,nQ,hp]
    repeat' (first|rfl|split)
    all_goals simp only[t6,Option.map_none,Option.map_some]
   |_=>rfl
  |_=>rfl
 |_=>rfl
theorem D5 {τ:jx}{op:Op}{e e':Operand→AV}{nm:Nm}(h:∀x∈op.operands,e x=e' x):pC τ op e nm=pC τ op e' nm:=by
 cases op with
 |alloc t=>rfl
 |box t x=>simp_all [pC,Op.operands]
 |buildSlice t n ps =>
  have:(ps.toList.map fun p=>(p.1,e p.2))=(ps.toList.map fun p=>(p.1,e' p.2)):=List.map_congr_left fun p hm=>by rw[h p.2 (by simp[Op.operands];exact⟨p.1,by simpa using hm⟩)]
  simp only[pC,this]
 |makeSlice t l c=>simp_all [pC,Op.operands]
 |makeMap t r=>cases r<;>rfl
 |_=>rfl
theorem uY{df d:Nat}{v:AV}(hd:d≠df){n:Nm}{off sz:Nat}{j:Int}(k:St→Option R):∀(m c:Nat),p7 (s.put (some df) v) d n off sz j k c m=p7 s d n off sz j (fun s'=>k (s'.put (some df) v)) c m
 |0,c=>rfl
 |m+1,c=>by
  show(bif decide (j=(c:Int))then k ((s.put (some df) v).put (some d) _)else p7 (s.put (some df) v) d n off sz j k (c+1) m)=(bif decide (j=(c:Int))then k ((s.put (some d) _).put (some df) v)else p7 s d n off sz j (fun s'=>k (s'.put (some df) v)) (c+1) m)
  rw[uY hd k m (c+1),me (s:=s) (fun e he q=>hd ((Option.some.inj q).trans (Option.some.inj he).symm))]
theorem B7 {τ:jx}{op:Op}{df d:Nat}{v:AV}(h:∀x∈op.operands,x ≠ .tmp df) (hd:d≠df) (k:St→Option R):rB τ op d (s.put (some df) v) k=rB τ op d s (fun s'=>k (s'.put (some df) v)):=by
 cases op with
 |indexAddr t x i =>
  simp_all [rB,fS,split,uY,Op.operands]
 |_=>rfl
theorem rR{E:aW}{o:Oper}(hv:kJ v) (h:∀x∈o.op.operands,x ≠ .tmp df) (hd:∀d,o.dst=some d→d≠df) (k:St→Option R) :
  mT E o (s.put (some df) v) k=mT E o s (fun s'=>k (s'.put (some df) v)):=by
 have hp:∀s1 (u:AV),(St.put (some df) v s1).put o.dst u=(St.put o.dst u s1).put (some df) v:=fun s1 u =>
  me (s:=s1) (fun e he q=>hd _ q (Option.some.inj he).symm)
 unfold mT
 split
 ·rename_i f args ts ho
  split
  ·rename_i d hdst
   split
   ·rename_i S hS
    cases Nat.blt d E.N with
    |false=>rfl
    |true =>
     simp only[cond_true]
     exact tA hv (fun x hx=>h x (by rw[ho];simp[Op.operands,Call.operands];exact .inr (by simpa using hx))) (fun t q=>by cases q) (hd d hdst) k
   ·rfl
  ·rfl
 ·rename_i t args ts ho
  have ht:t≠df:=fun q=>h (.tmp t) (by rw[ho];simp[Op.operands,Call.operands]) (by rw[q])
  have hst:(s.put (some df) v).t t=s.t t:=by
   simp_all [dz,kJ,mT,St.put]
  rw[hst]
  split
  ·rename_i d f cs hdst hcl
   split
   ·rename_i S hS
    cases Nat.blt d E.N with
    |false=>rfl
    |true =>
     simp only[cond_true]
     exact tA hv (fun x hx=>h x (by rw[ho];simp[Op.operands,Call.operands];exact .inr (by simpa using hx))) (fun t' q=>by injection q with q;rw[←q];exact ht) (hd d hdst) k
   ·rfl
  ·rfl
 ·have h1:eZ E.τ o.op (s.put (some df) v).ev s.o=eZ E.τ o.op s.ev s.o:=rI fun x hx=>fS (h x hx)
  rw[show(s.put (some df) v).o=s.o from rfl,h1]
  split
  ·rename_i c u e1
   cases dn E.N o.dst with
   |false=>rfl
   |true =>
    simp only[cond_true]
    split
    ·rw[hp]
    ·rfl
  ·split
   ·rename_i d hdst
    cases Nat.blt d E.N with
    |false=>rfl
    |true =>
     simp only[cond_true]
     have h2:pC E.τ o.op ((s.put (some df) v).drop [d,0]).ev [d,0]=pC E.τ o.op (s.drop [d,0]).ev [d,0]:=D5 fun x hx=>by rw[nW hv];exact fS (h x hx)
     rw[h2]
     rw[hdst]at hp
     split
     ·rename_i c ob u e2
      split
      ·rw[nW hv,nQ,hp]
      ·rfl
     ·rw[wn hv h (fun e he=>hd e (hdst.trans he))]
      cases lE E.τ o.op (some d) s with
      |none=>exact B7 h (hd d hdst) k
      |some p=>obtain⟨c,s'⟩:=p;cases c<;>rfl
   ·rename_i hdst
    rw[wn hv h (fun e he=>by cases he)]
    cases lE E.τ o.op none s with
    |none=>rfl
    |some p=>obtain⟨c,s'⟩:=p;cases c<;>rfl
end
end
theorem cS{n:Nat}:∀{l:List Nat},a9 n l=true↔n∈l
 |[]=>by simp[a9]
 |m::r=>by
  unfold a9
  cases h:Nat.beq n m with
  |true=>simp_all
  |false=>have:=Nat.ne_of_beq_eq_false h;simp[this,cS (l:=r)]
theorem vD{n m:Nat}{l:List Nat}:m∈yT n l↔m=n∨m∈l:=by
 grind [yT,a9,cS]
theorem tD{m:Nat}:∀{xs l:List Nat},m∈rE xs l↔m∈xs∨m∈l
 |[],l=>by simp[rE]
 |n::r,l=>by
  unfold rE
  rw[tD (xs:=r),vD,List.mem_cons]
  constructor
  ·grind
  ·grind
theorem td{acc:List (List Nat)}{i:Nat}:∀{as:List Nat},i∈oJ acc as→∃a∈as,i=a∨i∈acc.getD a []
 |[],h=>by cases h
 |a::r,h=>by
  unfold oJ at h
  rw[vD,tD]at h
  rcases h with h|h|h
  ·simp_all
  ·simp_all
  ·obtain⟨b,h1,h2⟩:=td h
   exact⟨b,List.mem_cons_of_mem _ h1,h2⟩
def t8 (l0:List Oper) (acc:List (List Nat)):Prop :=
 ∀j,j<acc.length→∀i∈acc.getD j [], ∃o,l0[j]?=some o∧∃a∈bC o,i=a∨(a<j∧i∈acc.getD a [])
theorem wz{l0:List Oper}:∀(l pre:List Oper) (acc:List (List Nat)),l0=pre++l→acc.length=pre.length→t8 l0 acc→t8 l0 (a8 l acc)
 |[],pre,acc,_,_,h=>h
 |o::r,pre,acc,he,hl,h=>by
  refine wz r (pre++[o]) (acc++[oJ acc (bC o)]) (by simp[he]) (by simp[hl]) ?_
  intro j hj i hi
  have get:∀a,a<acc.length→(acc++[oJ acc (bC o)]).getD a []=acc.getD a []:=fun a ha=>by
   grind
  rcases Nat.lt_or_ge j acc.length with q|q
  ·grind [t8,a8]
  ·grind [td]
def vG (l:List Oper) (i j:Nat):Prop:=i∈(a8 l []).getD j []
theorem mN{l:List Oper}{D:Nat→Prop}(hD:∀j o,D j→l[j]?=some o→∀i∈bC o,D i):∀(j:Nat){i:Nat}{o:Oper},l[j]?=some o→(∀i∈bC o,D i)→vG l i j→D i:=by
 have ok:t8 l (a8 l []):=wz l [] [] rfl rfl (fun j hj=>by simp at hj)
 intro j
 induction j using Nat.strongRecOn with
 |_ j ih =>
  intro i o ho ha hr
  have hj:j<(a8 l []).length:=by
   grind [a8,vG]
  obtain⟨o',h1,a,h2,h3⟩:=ok j hj i hr
  rw[ho]at h1
  obtain rfl:=Option.some.inj h1
  rcases h3 with rfl|⟨h3,h4⟩
  ·simp_all
  ·have hda:=ha a h2
   cases hoa:l[a]? with
   |none =>
    grind
   |some oa=>exact ih a h3 hoa (hD a oa hda hoa) h4
section
variable{P:Program}{X:oC}{L:Nm→Value}{I:Nat→Prop}{s:St}{a:Act}{w:World}{R:Type}
theorem DU (E:aW) (all:List Oper) (o:Oper) (r:List Oper) (s:St) (k:St→Option R):cg E all (o::r) s k=cg E all [o] s (fun s'=>cg E all r s' k):=by
 rfl
theorem Bx{E:aW}{all:List Oper}{o:Oper}{df:Nat}{v:AV}(hv:kJ v) (h1:df∉o.looksAt all.toArray) (h2:∀d,o.dst=some d→d≠df) (k:St→Option R) :
  cg E all [o] (s.put (some df) v) k=cg E all [o] s (fun s'=>k (s'.put (some df) v)):=by
 have hop:∀x∈o.op.operands,x ≠ .tmp df:=fun x hx q=>h1 (List.mem_append_left _ (List.mem_filterMap.2 ⟨.tmp df,by rw[←q];simpa using hx,rfl⟩))
 have hp:∀s1 (u:AV),(St.put (some df) v s1).put o.dst u=(St.put o.dst u s1).put (some df) v:=fun s1 u =>
  me (s:=s1) (fun e he q=>h2 _ q (Option.some.inj he).symm)
 simp only[cg]
 cases hg:o.guard with
 |none=>exact rR hv hop h2 k
 |some gw =>
  obtain⟨j,want⟩:=gw
  dsimp only
  cases ht:(all[j]?).bind (·.dst)with
  |none=>rfl
  |some t =>
   dsimp only
   have htd:t≠df:=fun q=>h1 (List.mem_append_right _ (by
    rw[hg]
    have ht':(all.toArray[j]?).bind (·.dst)=some t:=by simp_all
    simp only[ht',q]
    simp))
   have hst:(s.put (some df) v).t t=s.t t:=by
    simp_all [dz,kJ,cg,St.put]
   rw[hst]
   have skip0:(bif jw (s.t t)&&dn E.N o.dst then k ((s.put (some df) v).put o.dst lT)else none)=bif jw (s.t t)&&dn E.N o.dst then k ((s.put o.dst lT).put (some df) v)else none:=by rw[hp]
   cases hb:lp (s.t t)with
   |none=>exact skip0
   |some b =>
    dsimp only
    have hk1:∀c,c=b→s.know (.tmp t) c=s:=fun c q=>by subst q;exact oV (c := .tmp t) hb
    have hk2:∀c,c=b→(s.put (some df) v).know (.tmp t) c=s.put (some df) v:=fun c q=>by subst q;exact oV (c := .tmp t) (by rw[show(s.put (some df) v).ev (.tmp t)=s.t t from hst];exact hb)
    have skip:(bif dn E.N o.dst then k ((s.put (some df) v).put o.dst lT)else none)=bif dn E.N o.dst then k ((s.put o.dst lT).put (some df) v)else none:=by rw[hp]
    cases b with
    |true =>
     simp only[hk1 true rfl,hk2 true rfl]
     cases want with
     |true=>exact rR hv hop h2 k
     |false=>exact skip
    |false =>
     simp only[hk1 false rfl,hk2 false rfl]
     cases want with
     |false=>exact rR hv hop h2 k
     |true=>exact skip
theorem Em{o:Oper}(h:oY o=true):o.guard=none∧∃c,o.op = .assign (.const c)∨o.op = .move (.const c):=by
 grind [oY,split]
theorem Bw{E:aW}{all:List Oper}{o:Oper}{r:List Oper}(h:oY o=true):∃v,kJ v∧∀(s:St) (k:St→Option R),kj E all (o::r) s k=bif dn E.N o.dst then kj E all r (s.put o.dst v) k else none:=by
 obtain⟨hg,c,hc⟩:=Em h
 refine⟨lM c,zh c,fun s k=>?_⟩
 simp only[kj]
 rw[hg]
 dsimp only
 congr 1
 unfold DX
 rcases hc with hc|hc<;>rw[hc]<;>rfl
theorem u6{E:aW}{all:List Oper}{o:Oper}{r:List Oper}{k:St→Option R}:∀{Rl:List Oper}{s:St},(∀x∈Rl,oY x=true∧x.apart all.toArray o=true) →
  kj E all Rl s (fun s'=>cg E all (o::r) s' k)=cg E all [o] s (fun s1=>kj E all Rl s1 (fun s'=>cg E all r s' k))∨kj E all Rl s (fun s'=>cg E all (o::r) s' k)=none
 |[],s,_ => .inl (by simp only[kj];exact DU E all o r s k)
 |x::Rl,s,h=>by
  obtain⟨h1,h2⟩:=h x (List.mem_cons_self ..)
  obtain⟨g1,g2,g3⟩:=Oper.apart_spec h2
  obtain⟨v,hv,e⟩:=Bw (R:=R) (E:=E) (all:=all) (r:=Rl) h1
  have e2:∀s1,kj E all (x::Rl) s1 (fun s'=>cg E all r s' k)=bif dn E.N x.dst then kj E all Rl (s1.put x.dst v) (fun s'=>cg E all r s' k)else none:=fun s1=>e s1 _
  rw[e]
  simp only[e2]
  cases q:dn E.N x.dst with
  |false=>simp_all
  |true =>
   simp only[cond_true]
   rcases u6 (E:=E) (all:=all) (o:=o) (r:=r) (k:=k) (Rl:=Rl) (s:=s.put x.dst v) (fun y hy=>h y (List.mem_cons_of_mem _ hy))with q2|q2
   ·refine .inl (q2.trans ?_)
    cases hx:x.dst with
    |none=>rfl
    |some df=>grind [Bx]
   ·simp_all
theorem pI{listed:Array Bool}{i j:Nat}(h:i<listed.size):(listed.setIfInBounds i true).getD j true=(if j=i then true else listed.getD j true):=by
 by_cases q:j=i
 ·simp_all
 ·rw[getD_set_ne true (Ne.symm q),if_neg q]
theorem mX{o:Oper}{i:Nat}:i∈bC o↔∃e∈o.after,Region.binds .any e=true∧e.on=i:=by
 grind [bC]
theorem nY{R:Nat→Nat→Bool}:∀{l:List Nat},de R l=true→l.Pairwise (fun x y=>R x y=true)
 |[],_=>List.Pairwise.nil
 |x::r,h=>by
  unfold de at h
  rw[Bool.and_eq_true,List.all_eq_true]at h
  exact List.pairwise_cons.2 ⟨h.1,nY h.2⟩
structure Left (l:List Oper) (RP TP:List Nat) (listed:Array Bool):Prop where
 sz:listed.size=l.length
 ltP:∀i∈RP,i<l.length
 ltT:∀i∈TP,i<l.length
 nd:(RP++TP).Nodup
 un:∀i,i<l.length→(listed.getD i true=false↔i∈RP∨i∈TP)
 cl:∀j o,listed.getD j false=true→l[j]?=some o→∀i∈bC o,listed.getD i false=true
 aft:∀j o,l[j]?=some o→∀i∈bC o,i<j
 pp:RP.Pairwise (fun x y=>vG l x y∨o8 l x y=true)
 tt:TP.Pairwise (vG l)
 pt:∀x∈RP, ∀y∈TP,vG l x y∨(m9 l x=true∧o8 l x y=true)
theorem Left.unl{l:List Oper}{RP TP:List Nat}{listed:Array Bool}(h:Left l RP TP listed){i:Nat}(hi:i∈RP∨i∈TP):listed.getD i false=false:=by
 have hl:i<l.length:=hi.elim (h.ltP i) (h.ltT i)
 have q:=(h.un i hl).2 hi
 have hs:=h.sz
 rw[Array.getD_eq_getD_getElem?]at q ⊢
 rw[Array.getElem?_eq_getElem (by omega)]at q ⊢
 exact q
theorem Left.lis{l:List Oper}{RP TP:List Nat}{listed:Array Bool}(h:Left l RP TP listed){i:Nat}(hl:i<l.length) (hi:¬(i∈RP∨i∈TP)):listed.getD i false=true:=by
 have hs:=h.sz
 have q:listed.getD i true≠false:=fun z=>hi ((h.un i hl).1 z)
 rw[Array.getD_eq_getD_getElem?]at q ⊢
 rw[Array.getElem?_eq_getElem (by omega)]at q ⊢
 simpa using q
theorem Left.next{l:List Oper}{RP TP:List Nat}{listed:Array Bool}(h:Left l RP TP listed):∀i,i∈RP∨i∈TP→∃j,j∈Region.ready .any l.toArray listed:=by
 intro i
 induction i using Nat.strongRecOn with
 |_ i ih =>
  intro hi
  have hl:i<l.length:=hi.elim (h.ltP i) (h.ltT i)
  have ho:l[i]?=some l[i]:=List.getElem?_eq_getElem hl
  by_cases q:∀a∈bC l[i],listed.getD a false=true
  ·refine⟨i,mem_ready.2 ⟨(h.un i hl).2 hi,l[i],by simp[hl],fun ed he hb=>q ed.on (mX.2 ⟨ed,he,hb,rfl⟩)⟩⟩
  ·have:∃a,a∈bC l[i]∧listed.getD a false≠true:=by
    simp_all
   obtain⟨a,h1,h2⟩:=this
   have ha:=h.aft i _ ho a h1
   refine ih a ha (Classical.byContradiction fun z=>h2 (h.lis (by omega) z))
theorem Left.ready{l:List Oper}{RP TP:List Nat}{listed:Array Bool}(h:Left l RP TP listed){i:Nat}(hi:i∈Region.ready .any l.toArray listed) :
  i<l.length∧(i∈RP∨i∈TP)∧(∀o,l[i]?=some o→∀a∈bC o,listed.getD a false=true)∧∀x,x∈RP∨x∈TP→¬vG l x i:=by
 obtain⟨h0,o,ho,hall⟩:=mem_ready.1 hi
 have hil:i<l.length:=by
  grind
 have hol:l[i]?=some o:=by simp_all
 have hA:∀a∈bC o,listed.getD a false=true:=fun a ha=>by
  grind [mX]
 refine⟨hil,(h.un i hil).1 h0,fun o' ho'=>by rw[hol]at ho';obtain rfl:=Option.some.inj ho';exact hA,fun x hx hr=>?_⟩
 have:=mN (D:=fun j=>listed.getD j false=true) (fun j o hj ho=>h.cl j o hj ho) i hol hA hr
 rw[h.unl hx]at this
 cases this
theorem Left.rest{l:List Oper}{RP TP RP' TP':List Nat}{listed:Array Bool}(h:Left l RP TP listed){i:Nat}(hi:i∈Region.ready .any l.toArray listed)
  (h1:RP'.Sublist RP) (h2:TP'.Sublist TP) (hm:∀x,x∈RP'∨x∈TP'↔(x∈RP∨x∈TP)∧x≠i):Left l RP' TP' (listed.setIfInBounds i true):=by
 obtain⟨g1,g2,g3,_⟩:=h.ready hi
 have hs:=h.sz
 refine⟨by simpa using h.sz,fun x hx=>h.ltP x (h1.subset hx),fun x hx=>h.ltT x (h2.subset hx),h.nd.sublist (h1.append h2),fun x hx=>?_,fun j o hj ho a ha=>?_,h.aft,h.pp.sublist h1,h.tt.sublist h2,
  fun x hx y hy=>h.pt x (h1.subset hx) y (h2.subset hy)⟩
 ·rw[pI (by omega),hm x]
  by_cases q:x=i
  ·simp[q]
  ·rw[if_neg q,h.un x hx];simp[q]
 ·refine getD_set_true ?_
  by_cases q:i=j
  ·subst q;exact g3 o ho a ha
  ·rw[getD_set_ne false q]at hj;exact h.cl j o hj ho a ha
theorem rC{l:List Oper}{i j:Nat}{x y:Oper}(h:o8 l i j=true) (hx:l[i]?=some x) (hy:l[j]?=some y):x.apart l.toArray y=true:=by
 simp_all [o8]
theorem v9{l:List Oper}{A B:List Nat}{i:Nat}{o:Oper}(h:l[i]?=some o):(A++i::B).filterMap (fun i=>l[i]?)=A.filterMap (fun i=>l[i]?)++o::B.filterMap (fun i=>l[i]?):=by
 simp_all
theorem Gl{E:aW}(hE:nI P X.K E) (hN:E.N=X.N){l:List Oper}{k:St→Option R}{y:R}{Q:Exit→Act→World→Prop}(hQ:∀a w,oB X L k y a w→Q .normal a w) :
  ∀(n:Nat) (RP TP:List Nat) (listed:Array Bool){L1:Nm→Value}{I:Nat→Prop}{s:St}{a:Act}{w:World},n=RP.length+TP.length→Left l RP TP listed→bD X L1 I s a w→(∀n,f6 n=true→L1 n=L n) →
   kj E l (RP.filterMap fun i=>l[i]?) s (fun s'=>cg E l (TP.filterMap fun i=>l[i]?) s' k)=some y→wpAny P .any l.toArray Q n listed a w:=by
 intro n
 induction n with
 |zero =>
  intro RP TP listed L1 I s a w hn hl h hk e
  obtain rfl:RP=[]:=List.eq_nil_of_length_eq_zero (by omega)
  obtain rfl:TP=[]:=List.eq_nil_of_length_eq_zero (by omega)
  refine⟨?_,hQ _ _ ⟨s,L1,I,h,hk,e⟩⟩
  rcases hr:Region.ready .any l.toArray listed with _|⟨i,r⟩
  ·rfl
  ·obtain⟨_,g,_⟩:=hl.ready (show i∈Region.ready .any l.toArray listed by rw[hr];exact List.mem_cons_self ..)
   rcases g with g|g<;>cases g
 |succ n ih =>
  intro RP TP listed L1 I s a w hn hl h hk e
  refine⟨fun hr=>?_,fun i hi=>?_⟩
  ·have:∃i,i∈RP∨i∈TP:=by
    cases RP with
    |cons x r=>exact⟨x, .inl (List.mem_cons_self ..)⟩
    |nil =>
     cases TP with
     |cons x r=>exact⟨x, .inr (List.mem_cons_self ..)⟩
     |nil=>simp at hn
   obtain⟨i,hi⟩:=this
   obtain⟨j,hj⟩:=hl.next i hi
   rw[hr]at hj;cases hj
  obtain⟨hil,hmem,hA,hno⟩:=hl.ready hi
  have hol:l[i]?=some l[i]:=List.getElem?_eq_getElem hil
  generalize l[i]=o at hol
  have step:∀{K:Act→World→Prop},(if Region.wanted o (yielded l.toArray a.tmps)then o.wp P a w K Q else K (a.put o.dst undef) w)→wpOp P l.toArray Q i K a w:=by
   intro K q
   have ho:l.toArray[i]?=some o:=by simpa using hol
   unfold wpOp
   simp only[ho]
   split
   ·simp_all
   ·simp_all
  have mono:∀{K K':Act→World→Prop},(∀a w,K a w→K' a w)→(if Region.wanted o (yielded l.toArray a.tmps)then o.wp P a w K Q else K (a.put o.dst undef) w)→(if Region.wanted o (yielded l.toArray a.tmps)then o.wp P a w K' Q else K' (a.put o.dst undef) w):=by
   intro K K' hK q
   split
   ·rename_i hw;rw[if_pos hw]at q;exact Oper.wp_mono hK q
   ·simp_all
  have hnd:=List.nodup_append.1 hl.nd
  rcases hmem with hiR|hiT
  ·-- a plain one
   obtain⟨A,B,rfl⟩:=List.append_of_mem hiR
   rw[v9 hol]at e
   have hpA:=List.pairwise_append.1 hl.pp
   obtain⟨g1,v,g2,g3⟩:=Gs e (fun oi hoi=>by
    obtain⟨i',h1,h2⟩:=List.mem_filterMap.1 hoi
    rcases hpA.2.2 i' h1 i (List.mem_cons_self ..)with q|q
    ·exact absurd q (hno i' (.inl (List.mem_append_left _ h1)))
    ·exact rC q h2 hol)
   have hnR:=List.nodup_append.1 hnd.1
   have hAi:i∉A:=fun q=>hnR.2.2 i q i (List.mem_cons_self ..) rfl
   have hBi:i∉B:=(List.nodup_cons.1 hnR.2.1).1
   have hTi:i∉TP:=fun q=>hnd.2.2 i hiR i q rfl
   refine step (mono (fun a' w' hp'=>?_) (Dw h hE hN g1 g2 Q))
   obtain⟨s',L',I',r1,r2,r3⟩:=hp'
   obtain rfl:=Option.some.inj r3
   refine ih (A++B) TP (listed.setIfInBounds i true) (by simp at hn ⊢;omega) (hl.rest hi (List.Sublist.append (List.Sublist.refl _) (List.sublist_cons_self ..)) (List.Sublist.refl _) fun x=>?_) r1 (fun n hn=>(r2 n hn).trans (hk n hn)) (by rw[List.filterMap_append];exact g3)
   simp only[List.mem_append,List.mem_cons]
   constructor
   ·rintro ((q|q)|q)
    ·exact⟨.inl (.inl q),fun z=>hAi (z▸q)⟩
    ·exact⟨.inl (.inr (.inr q)),fun z=>hBi (z▸q)⟩
    ·exact⟨.inr q,fun z=>hTi (z▸q)⟩
   ·rintro ⟨(q|q|q)|q,z⟩
    ·exact .inl (.inl q)
    ·exact absurd q z
    ·exact .inl (.inr q)
    ·exact .inr q
  ·-- one of the tail
   obtain⟨A,B,rfl⟩:=List.append_of_mem hiT
   have hA0:A=[]:=by
    cases A with
    |nil=>rfl
    |cons x A =>
     refine absurd ((List.pairwise_append.1 hl.tt).2.2 x (List.mem_cons_self ..) i (List.mem_cons_self ..)) (hno x (.inr (List.mem_append_left _ (List.mem_cons_self ..))))
   subst hA0
   have hfl:∀x∈RP.filterMap (fun i=>l[i]?),oY x=true∧x.apart l.toArray o=true:=by
    intro x hx
    obtain⟨i',h1,h2⟩:=List.mem_filterMap.1 hx
    rcases hl.pt i' h1 i (List.mem_cons_self ..)with q|⟨q1,q2⟩
    ·simp_all
    ·grind [rC,m9]
   have e:kj E l (RP.filterMap fun i=>l[i]?) s (fun s'=>cg E l (o::B.filterMap fun i=>l[i]?) s' k)=some y:=by
    simp_all
   have e2:cg E l [o] s (fun s1=>kj E l (RP.filterMap fun i=>l[i]?) s1 (fun s'=>cg E l (B.filterMap fun i=>l[i]?) s' k))=some y:=by
    rcases u6 (E:=E) (all:=l) (o:=o) (r:=B.filterMap fun i=>l[i]?) (k:=k) hfl with q|q
    ·rw[←q];exact e
    ·simp_all
   refine step (mono (fun a' w' hp'=>?_) (uG h hE hN e2 Q))
   obtain⟨s',L',I',r1,r2,r3⟩:=hp'
   have r3:kj E l (RP.filterMap fun i=>l[i]?) s' (fun s'=>cg E l (B.filterMap fun i=>l[i]?) s' k)=some y:=r3
   have hBi:i∉B:=(List.nodup_cons.1 hnd.2.1).1
   have hRi:i∉RP:=fun q=>hnd.2.2 i q i (List.mem_cons_self ..) rfl
   refine ih RP B (listed.setIfInBounds i true) (by simp at hn ⊢;omega) (hl.rest hi (List.Sublist.refl _) (List.sublist_cons_self ..) fun x=>?_) r1 (fun n hn=>(r2 n hn).trans (hk n hn)) r3
   simp only[List.nil_append,List.mem_cons]
   constructor
   ·rintro (q|q)
    ·exact⟨.inl q,fun z=>hRi (z▸q)⟩
    ·exact⟨.inr (.inr q),fun z=>hBi (z▸q)⟩
   ·rintro ⟨q|q|q,z⟩
    ·exact .inl q
    ·exact absurd q z
    ·exact .inr q
theorem Bi{l:List Oper}{i j:Nat}(h:a9 i ((a8 l []).getD j [])=true):vG l i j:=cS.1 h
theorem BF{l:List Oper}{m:Nat}(hm:m≤l.length) (h:sO l m=true):Left l (eU l m) (gC l m) (Array.replicate l.length false)∧(eU l m).length+(gC l m).length=l.length:=by
 unfold sO at h
 simp only[Bool.and_eq_true]at h
 obtain⟨h1,h2,h3,h4⟩:=h
 have memP:∀i,i∈eU l m→i<l.length:=by
  grind [eU]
 have v6:∀i,i∈gC l m→i<l.length:=by
  grind [gC]
 have all:∀i,i<l.length→i∈eU l m∨i∈gC l m:=by
  intro i hi
  unfold eU gC
  rcases Nat.lt_or_ge i m with q|q
  ·simp_all
  ·have hx:i∈(List.range (l.length-m)).map (·+m):=List.mem_map.2 ⟨i-m,List.mem_range.2 (by omega),by show i-m+m=i;omega⟩
   cases qf:m9 l i with
   |true=>simp_all
   |false=>simp_all
 have ndr:((List.range (l.length-m)).map (·+m)).Nodup:=by
  refine List.Pairwise.map _ (fun a b hab=>?_) List.nodup_range
  show a+m≠b+m
  omega
 refine⟨⟨by simp,memP,v6,?_,fun i hi=>?_,fun j o hj _=>?_,fun j o hj a ha=>?_,?_,?_,fun x hx y hy=>?_⟩,?_⟩
 ·refine List.nodup_append.2 ⟨?_,ndr.sublist (List.filter_sublist ..),fun a ha b hb hab=>?_⟩
  ·grind [sO,eU,gC]
  ·grind [sO,eU,gC]
 ·simp_all
 ·exfalso
  rw[Array.getD_eq_getD_getElem?]at hj
  rcases Nat.lt_or_ge j l.length with q|q
  ·simp_all
  ·simp_all
 ·rw[List.all_eq_true]at h1
  have hl:j<l.length:=by
   grind
  have:=h1 j (List.mem_range.2 hl)
  rw[hj]at this
  simp only[List.all_eq_true]at this
  exact Nat.le_of_ble_eq_true (this a ha)
 ·refine(nY h2).imp fun{x y} q=>?_
  rw[Bool.or_eq_true]at q
  exact q.imp Bi id
 ·exact(nY h3).imp fun{x y} q=>Bi q
 ·grind [Bi]
 ·unfold eU gC
  have:∀(p:Nat→Bool) (xs:List Nat),(xs.filter p).length+(xs.filter (fun i => !p i)).length=xs.length:=by
   intro p xs
   induction xs with
   |nil=>rfl
   |cons x xs ih =>
    grind
  have h6:=this (m9 l) ((List.range (l.length-m)).map (·+m))
  rw[List.length_map,List.length_range]at h6
  rw[List.length_append,List.length_range]
  omega
theorem wF (E:aW):∀l:List Oper,mQ E l≤l.length
 |[]=>Nat.le_refl _
 |o::r=>by
  unfold mQ
  cases Cw E o with
  |true=>simpa using wF E r
  |false=>simp
end
section
variable{P:Program}{X:oC}{L:Nm→Value}{I:Nat→Prop}{s:St}{a:Act}{w:World}{R:Type}
theorem oz {α β:Type}(c:Bool) (x y:Option α) (k:α→Option β):Option.bind (bif c then x else y) k=bif c then x.bind k else y.bind k:=by grind
theorem B3{S:ag}{f:Nat}{c:fU}{xs:List Operand}{d:Nat}(k:St→Option R):lu S f c xs d s k=(lu S f c xs d s some).bind k:=by
 unfold lu
 repeat' (first|rfl|split)
 all_goals simp only[oz,Option.bind_some,Option.bind_none]
theorem xC{S:ag}{f:Nat}{c:fU}{xs:List Operand}{d:Nat}(k:St→Option R):kI S f c xs d s k=(kI S f c xs d s some).bind k:=by
 grind [kI,split,B3]
theorem Aq{R:Type}{s:St}{d:Nat}{n:Nm}{off sz:Nat}{j:Int}(k:St→Option R):∀(m c:Nat),p7 s d n off sz j k c m=(p7 s d n off sz j some c m).bind k
 |0,c=>rfl
 |m+1,c=>by
  show(bif decide (j=(c:Int))then _ else p7 s d n off sz j k (c+1) m)=(bif decide (j=(c:Int))then _ else p7 s d n off sz j some (c+1) m).bind k
  rw[Aq k m (c+1)]
  cases decide (j=(c:Int))<;>rfl
theorem Gz{R:Type} {τ:jx}{op:Op}{d:Nat}{s:St}(k:St→Option R):rB τ op d s k=(rB τ op d s some).bind k:=by
 cases op with
 |indexAddr t x i =>
  grind [rB,split,Aq]
 |_=>rfl
theorem qJ{E:aW}{o:Oper}(k:St→Option R):mT E o s k=(mT E o s some).bind k:=by
 unfold mT
 split
 ·grind [split,xC]
 ·grind [split,xC]
 ·grind [split,dn,Gz]
theorem nZ{E:aW}{all:List Oper}{o:Oper}{r:List Oper}(k:St→Option R):cg E all (o::r) s k=(cg E all [o] s some).bind fun s'=>cg E all r s' k:=by
 simp only[cg]
 cases hg:o.guard with
 |none=>exact qJ _
 |some gw =>
  grind [lp,jw,dn,qJ]
theorem eJ{i j:Nat}{rem:List Nat}:j∈dN i rem↔j∈rem∧j≠i:=by
 grind [dN,dz,Nat.beq_refl]
theorem pM{i:Nat}:∀{rem:List Nat},rem.Nodup→i∈rem→(dN i rem).length+1=rem.length
 |[],_,h=>by cases h
 |x::r,hn,h=>by
  have hn:=List.nodup_cons.1 hn
  rcases List.mem_cons.1 h with rfl|h
  ·grind [dN,dz,List.filter_eq_self,Nat.beq_refl,Bool.not_true,Bool.false_eq_true,List.length_cons]
  ·have hne:i≠x:=fun q=>hn.1 (by rw[←q];exact h)
   have:=pM hn.2 h
   unfold dN at this ⊢
   rw[List.filter_cons,dz hne]
   simp only[Bool.not_false,if_true,List.length_cons,this]
theorem CP:∀{l:List Nat},l≠[]→∃m∈l, ∀x∈l,m≤x
 |[],h=>absurd rfl h
 |[x],_=>⟨x,List.mem_cons_self ..,fun y hy=>by rw[List.mem_singleton.1 hy];exact Nat.le_refl _⟩
 |x::y::r,_=>by
  obtain⟨m,h1,h2⟩:=CP (l:=y::r) (by simp)
  rcases Nat.le_total x m with q|q
  ·grind
  ·grind
def K3 (l:List Oper):Prop:=∀j o,l[j]?=some o→∀i∈bC o,i<j
theorem yS{l:List Oper}(h:nB l=true):K3 l:=by
 intro j o hj i hi
 unfold nB at h
 rw[List.all_eq_true]at h
 have hl:j<l.length:=(List.getElem?_eq_some_iff.1 hj).1
 have:=h j (List.mem_range.2 hl)
 rw[hj]at this
 simp only[List.all_eq_true]at this
 exact Nat.le_of_ble_eq_true (this i hi)
theorem Au{l:List Oper}(ha:K3 l){rem:List Nat}(hlt:∀i∈rem,i<l.length) (hne:rem≠[]):∃m∈rem,eg l rem m=true:=by
 obtain⟨m,h1,h2⟩:=CP hne
 refine⟨m,h1,?_⟩
 have hml:=hlt m h1
 have ho:l[m]?=some l[m]:=List.getElem?_eq_getElem hml
 unfold eg
 rw[ho]
 simp only[List.all_eq_true]
 intro a hA
 have:=ha m _ ho a hA
 cases q:a9 a rem with
 |false=>rfl
 |true=>grind [cS]
theorem C1{l:List Oper}(ha:K3 l):∀(n:Nat) (rem:List Nat),rem.length=n→rem.Nodup→(∀i∈rem,i<l.length)→∃π,π∈jm l n rem
 |0,rem,_,_,_=>⟨[],List.mem_singleton.2 rfl⟩
 |n+1,rem,hl,hn,hlt=>by
  obtain⟨m,h1,h2⟩:=Au ha hlt (fun q=>by rw[q]at hl;cases hl)
  obtain⟨π,hπ⟩:=C1 ha n (dN m rem) (by have:=pM hn h1;omega) (hn.sublist (List.filter_sublist ..)) (fun i hi=>hlt i (eJ.1 hi).1)
  refine⟨m::π,?_⟩
  show _∈rem.flatMap _
  refine List.mem_flatMap.2 ⟨m,h1,?_⟩
  rw[h2]
  exact List.mem_map.2 ⟨π,hπ,rfl⟩
structure RH (l:List Oper) (rem:List Nat) (listed:Array Bool):Prop where
 sz:listed.size=l.length
 lt:∀i∈rem,i<l.length
 nd:rem.Nodup
 un:∀i,i<l.length→(listed.getD i true=false↔i∈rem)
theorem RH.lis{l:List Oper}{rem:List Nat}{listed:Array Bool}(h:RH l rem listed){i:Nat}(hl:i<l.length):listed.getD i false=true↔i∉rem:=by
 have hs:=h.sz
 have q:=h.un i hl
 rw[Array.getD_eq_getD_getElem?]at q ⊢
 rw[Array.getElem?_eq_getElem (by omega)]at q ⊢
 rw[←q]
 simp
theorem Eu{E:aW}(hE:nI P X.K E) (hN:E.N=X.N){l:List Oper}(ha:K3 l){k:St→Option R}{y:R}{Q:Exit→Act→World→Prop}(hQ:∀a w,oB X L k y a w→Q .normal a w) :
  ∀(n:Nat) (rem:List Nat) (listed:Array Bool){L1:Nm→Value}{I:Nat→Prop}{s:St}{a:Act}{w:World},n=rem.length→RH l rem listed→bD X L1 I s a w→(∀n,f6 n=true→L1 n=L n) →
   (∀π∈jm l n rem,cg E l (bY l π) s k=some y)→wpAny P .any l.toArray Q n listed a w:=by
 intro n
 induction n with
 |zero =>
  intro rem listed L1 I s a w hn hl h hk e
  obtain rfl:rem=[]:=List.eq_nil_of_length_eq_zero hn.symm
  refine⟨?_,hQ _ _ ⟨s,L1,I,h,hk,e [] (List.mem_singleton.2 rfl)⟩⟩
  rcases hr:Region.ready .any l.toArray listed with _|⟨i,r⟩
  ·rfl
  ·have hi:i∈Region.ready .any l.toArray listed:=by rw[hr];exact List.mem_cons_self ..
   obtain⟨h0,o,ho,_⟩:=mem_ready.1 hi
   have hil:i<l.length:=by grind
   exact absurd ((hl.un i hil).1 h0) (by simp)
 |succ n ih =>
  intro rem listed L1 I s a w hn hl h hk e
  refine⟨fun hr=>?_,fun i hi=>?_⟩
  ·obtain⟨m,h1,h2⟩:=Au ha hl.lt (fun q=>by rw[q]at hn;cases hn)
   have hml:=hl.lt m h1
   have ho:l[m]?=some l[m]:=List.getElem?_eq_getElem hml
   have:m∈Region.ready .any l.toArray listed:=by
    refine mem_ready.2 ⟨(hl.un m hml).2 h1,l[m],by simp[hml],fun ed he hb=>?_⟩
    have hA:ed.on∈bC l[m]:=mX.2 ⟨ed,he,hb,rfl⟩
    have:=ha m _ ho _ hA
    refine(hl.lis (by omega)).2 fun q=>?_
    unfold eg at h2
    rw[ho]at h2
    simp only[List.all_eq_true]at h2
    have:=h2 _ hA
    rw[cS.2 q]at this;cases this
   rw[hr]at this;cases this
  ·obtain⟨h0,o,ho,hall⟩:=mem_ready.1 hi
   have hil:i<l.length:=by grind
   have hol:l[i]?=some o:=by simp_all
   have him:i∈rem:=(hl.un i hil).1 h0
   have hfree:eg l rem i=true:=by
    unfold eg
    rw[hol]
    simp only[List.all_eq_true]
    intro b hb
    obtain⟨ed,h1,h2,rfl⟩:=mX.1 hb
    have h3:=hall ed h1 h2
    have h4:=ha i _ hol _ hb
    cases q:a9 ed.on rem with
    |false=>rfl
    |true=>exact absurd (cS.1 q) ((hl.lis (by omega)).1 h3)
   have hlen:=pM hl.nd him
   have hsub:∀π∈jm l n (dN i rem),(cg E l [o] s some).bind (fun s'=>cg E l (bY l π) s' k)=some y:=by
    intro π hπ
    have:=e (i::π) (by
     show _∈rem.flatMap _
     refine List.mem_flatMap.2 ⟨i,him,?_⟩
     rw[hfree]
     exact List.mem_map.2 ⟨π,hπ,rfl⟩)
    rw[←nZ, ←this]
    unfold bY
    rw[List.filterMap_cons,hol]
   obtain⟨π0,hπ0⟩:=C1 ha n (dN i rem) (by omega) (hl.nd.sublist (List.filter_sublist ..)) (fun j hj=>hl.lt j (eJ.1 hj).1)
   cases hs1:cg E l [o] s some with
   |none=>have:=hsub π0 hπ0;rw[hs1]at this;cases this
   |some s1 =>
    have hs2:∀π∈jm l n (dN i rem),cg E l (bY l π) s1 k=some y:=fun π hπ=>by
     simp_all
    have one:=uG h hE hN (k:=some) (r:=[]) hs1 Q
    have nxt:∀a' w',oB X L1 (fun s'=>cg E l [] s' some) s1 a' w'→wpAny P .any l.toArray Q n (listed.setIfInBounds i true) a' w':=by
     rintro a' w' ⟨s',L',I',r1,r2,r3⟩
     obtain rfl:=Option.some.inj (show some s'=some s1 from r3)
     refine ih (dN i rem) (listed.setIfInBounds i true) (by omega) ⟨by simpa using hl.sz,fun j hj=>hl.lt j (eJ.1 hj).1,hl.nd.sublist (List.filter_sublist ..),fun j hj=>?_⟩ r1 (fun n hn=>(r2 n hn).trans (hk n hn)) hs2
     have hsz:=hl.sz
     rw[pI (by omega),eJ]
     by_cases q:j=i
     ·simp[q]
     ·rw[if_neg q,hl.un j hj];simp[q]
    unfold wpOp
    simp only[ho]
    split
    ·rename_i hw;rw[if_pos hw]at one;exact .inl (Oper.wp_mono nxt one)
    ·rename_i hw;rw[if_neg hw]at one;exact nxt _ _ one
end
end AM
end Go.Proofs.YtcflmfpnmjlhdaaGreatDoor
