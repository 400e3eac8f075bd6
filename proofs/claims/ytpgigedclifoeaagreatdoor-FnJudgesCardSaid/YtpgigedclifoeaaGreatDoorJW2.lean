/- Appends, and stores, appends and cuts all together. Under: the table of types tells the program's types. And what follows it: see the remarks. -/
import Derived.Test.YtpgigedclifoeaaGreatDoorJW1
import Derived.LoopN
import Derived.Orders
namespace Go.Proofs.YtpgigedclifoeaaGreatDoor
namespace AM
open Go
set_option linter.unusedVariables false
set_option linter.unusedSimpArgs false
section
variable{P:Program} {τ:nK}{X:t7}{L:Nm→Value}{I:Nat→Prop}{s:St}{a:Act}{w:World}
def VE (X:t7) (L:Nm→Value) (I:Nat→Prop) (s:St) (w:World) (u:Value):Prop :=
 ∀b,u.ownBlock=some b→b<w.heap.size∧¬I b∧(∀o,b<X.w0.heap.size→X.E b o)∧∀m ob,s.o m=some ob→∀o,¬fp L m ob b o
theorem tz{q el:TypeId}{ty:TypeId}{te:TI}(hu:P.underlying q=some (.slice el)) (hs:∀w,(sizeOf el).run P w = .ok te.size w)
  (base:Option Addr) (n cap:Nat) (hn:n≤cap) (ad:Option Addr) (c:Nat) :
  (Builtin.append_ #[q,q] ty #[.slice base n cap, .slice ad 0 c]).run P w = .ok (.slice base n cap) w:=by
 have h0:(Builtin.firstCells te.size 0 (.slice ad 0 c)).run P w = .ok #[] w:=by
  cases ad<;>simp[Builtin.firstCells,Go.loadCells,loadCellsFrom]
 cases base<;>simp[Builtin.append_,run_underlying hu,hs,Builtin.lenOf,hn,h0,Result.andThen,storeCells]
theorem CF (h:ce X L I s a w){nm:Nm}{q el ty:TypeId}{te:TI}{t:Ty}{xs ys:List t.den}{vs news:List Value}{u:Value}{ad:Option Addr}{c:Nat}
  (hu:P.underlying q=some (.slice el)) (hte:A7 P el te) (hty:te.ty=some t) (hby:te.bytes≤4096) (hown:w.ownsRow 0 el t.sz u xs.length vs) (hf:bZ I w t xs vs) (free:VE X L I s w u)
  (hys:bZ I w t ys news) (hc:ys=[]∨∃b off,ad=some ⟨b,off,none⟩∧Cells w b off news) (hroom:xs.length+ys.length≤4294967296) :
  ∃u' w',(Builtin.append_ #[q,q] ty #[u, .slice ad ys.length c]).run P w = .ok u' w'∧ce X (upd L nm u') I ((s.drop nm).setO nm (.arr el t (xs++ys))) a w'∧∃x l y,u' = .slice x l y:=by
 obtain⟨i,i1,i2,i3,i4⟩:=hte.info
 obtain⟨hsz,z,z1,z2⟩:=i4 t hty
 have hsi:i.size=t.sz:=by rw[i2,hsz]
 have hpos:=t.sz_pos
 have hzl:z.cells.size=t.sz:=by rw[z2];simpa using dD.len (I:=I) (w:=w) t (m7 t)
 have hnl:news.length=ys.length*t.sz:=hys.len
 have hvl:vs.length=xs.length*t.sz:=hown.1
 have hbytes:(xs.length+ys.length)*i.bytes≤140737488355328:=by
  have:(xs.length+ys.length)*i.bytes≤4294967296*4096:=Nat.mul_le_mul hroom (by omega)
  omega
 have hcat:(vs++news).length=(xs.length+ys.length)*t.sz:=by grind
 rcases hc with rfl|⟨b,off,rfl,hc⟩
 ·-- nothing to append
  have hn0:news=[]:=List.eq_nil_of_length_eq_zero (by simpa using hnl)
  subst hn0
  have hslice:∃x l y,u = .slice x l y∧l=xs.length∧l≤y:=by
   rcases hown.2 with⟨rfl,h0⟩|⟨g,cap,cur,rfl,_,_,h5,_⟩
   ·grind
   ·grind
  obtain⟨x,l,y,rfl,rfl,hly⟩:=hslice
  refine⟨_,w,tz hu hte.sizeOf x _ y hly ad c,?_,_,_,_,rfl⟩
  simp only[List.append_nil]
  refine h.add nm _ _ ⟨vs,by rw[dt];exact hown,hf⟩ fun b o e=>?_
  have e:(upd L nm (.slice x xs.length y) nm).ownBlock=some b:=e
  rw[dt]at e
  obtain⟨f1,f2,f3,f4⟩:=free b e
  exact⟨f1,f2,f3 o,fun m ob _ em=>f4 m ob em o⟩
 ·by_cases hy0:ys.length=0
  ·-- an empty list with an address: as above
   have:ys=[]:=List.length_eq_zero_iff.1 hy0
   subst this
   have hn0:news=[]:=List.eq_nil_of_length_eq_zero (by simpa using hnl)
   subst hn0
   have hslice:∃x l y,u = .slice x l y∧l=xs.length∧l≤y:=by
    rcases hown.2 with⟨rfl,h0⟩|⟨g,cap,cur,rfl,_,_,h5,_⟩
    ·grind
    ·grind
   obtain⟨x,l,y,rfl,rfl,hly⟩:=hslice
   refine⟨_,w,tz hu hte.sizeOf x _ y hly _ c,?_,_,_,_,rfl⟩
   simp only[List.append_nil]
   refine h.add nm _ _ ⟨vs,by rw[dt];exact hown,hf⟩ fun b o e=>?_
   have e:(upd L nm (.slice x xs.length y) nm).ownBlock=some b:=e
   rw[dt]at e
   obtain⟨f1,f2,f3,f4⟩:=free b e
   exact⟨f1,f2,f3 o,fun m ob _ em=>f4 m ob em o⟩
  ·have hcell:∀j v,news[j]?=some v→w.cell? ((⟨b,off,none⟩:Addr).add j)=some v:=fun j v hv=>by rw[Addr.add_lit];exact hc j v hv
   have fresh:∀(old:Nat) (cells:Array Value),cells.size=grownCap w (xs.length+ys.length) old el*t.sz→cells.toList.take ((xs.length+ys.length)*t.sz)=vs++news →
     ce X (upd L nm (.slice (some ⟨w.heap.size,0,none⟩) (xs.length+ys.length) (grownCap w (xs.length+ys.length) old el))) I ((s.drop nm).setO nm (.arr el t (xs++ys))) a (w.drew.alloc (.cells cells el)):=by
    intro old cells h1 h2
    have hs:bY (fun _ _=>False) w (w.drew.alloc (.cells cells el)):=(bY.drew _ w).trans (bY.alloc _ w.drew _) (fun _ _ (q:False) _=>q.elim)
    have hI:mV I w (w.drew.alloc (.cells cells el)):=fun b hb=>hs.same (h.imm b hb).1 (fun _ q=>q)
    refine h.new hs nm _ _ ⟨vs++news,⟨by rw[List.length_append (as:=xs)];exact hcat, .inr ⟨w.heap.size,_,cells,by rw[dt,List.length_append],Nat.zero_le _,xX w.drew _,?_,?_,h1,?_⟩⟩,(hf.append hys).mono (fun _ q=>q) hI⟩ ?_
    ·rw[List.length_append];exact grownCap_ge w _ old el
    ·exact grownCap_le_maxLen w _ old el (by unfold maxLen;omega)
    ·rw[List.length_append];exact h2
    ·intro b o e
     have e:(upd L nm (.slice (some ⟨w.heap.size,0,none⟩) (xs.length+ys.length) (grownCap w (xs.length+ys.length) old el)) nm).ownBlock=some b:=e
     rw[dt]at e
     have:w.heap.size=b:=Option.some.inj e
     have h3:(w.drew.alloc (.cells cells el)).heap.size=w.heap.size+1:=nZ w.drew _
     omega
   have zsize:∀k,(Builtin.zeroCells z.cells k).size=k*t.sz:=fun k=>by rw[size_zeroCells,hzl]
   have hcells:∀old,((vs.toArray++news.toArray++Builtin.zeroCells z.cells (grownCap w (xs.length+ys.length) old el-(xs.length+ys.length))).size=grownCap w (xs.length+ys.length) old el*t.sz) ∧
     (vs.toArray++news.toArray++Builtin.zeroCells z.cells (grownCap w (xs.length+ys.length) old el-(xs.length+ys.length))).toList.take ((xs.length+ys.length)*t.sz)=vs++news:=by
    intro old
    have hge:=grownCap_ge w (xs.length+ys.length) old el
    constructor
    ·simp only[Array.size_append,List.size_toArray,zsize,hvl,hnl, ←Nat.add_mul]
     congr 1
     omega
    ·simp only[Array.toList_append]
     rw[←hcat]
     exact List.take_left
   rcases hown.2 with⟨rfl,h0⟩|⟨g,cap,cur,rfl,_,hg,hnc,hcm,hcs,htake⟩
   ·have hx:xs=[]:=List.length_eq_zero_iff.1 h0
    subst hx
    have hv0:vs=[]:=List.eq_nil_of_length_eq_zero (by simpa using hvl)
    subst hv0
    have hr:=run_append_nil (P:=P) w q ty el i z hu i1 z1 ⟨b,off,none⟩ ys.length c news (by rw[hsi];exact hnl) hcell (by omega) (by omega) (by
     simp only[List.length_nil,Nat.zero_add]at hbytes;omega)
    have hf2:=fresh 0 _ (hcells 0).1 (hcells 0).2
    simp only[List.length_nil,Nat.zero_add,List.nil_append,Array.empty_append]at hf2 ⊢
    exact⟨_,_,hr,hf2,_,_,_,rfl⟩
   ·by_cases hfit:xs.length+ys.length≤cap
    ·have hlen:xs.length*i.size+news.length≤cur.size:=by rw[hsi,hnl,hcs, ←Nat.add_mul];exact Nat.mul_le_mul_right _ hfit
     have hr:=run_append_room (P:=P) w q ty el i hu i1 g xs.length cap cur hg ⟨b,off,none⟩ ys.length c news (by rw[hsi];exact hnl) hcell (bZ.one hys) hfit hlen
     refine⟨_,_,hr,?_,_,_,_,rfl⟩
     have hst:=uc hg hlen
     obtain⟨f1,f2,f3,f4⟩:=free g rfl
     have hw:=h.world hst (fun b' j hb' q=>f2 (q.1▸hb')) (fun m ob em b' o q r=>f4 m ob em o (r.1▸q)) (fun b' j q hb'=>by rw[q.1]at hb' ⊢;exact f3 j hb')
     have hI:mV I w (w.setRow g (cur.toList.take (xs.length*i.size)++news++cur.toList.drop (xs.length*i.size+news.length)).toArray):=fun b' hb' =>
      hst.same (h.imm b' hb').1 (fun j q=>f2 (q.1▸hb'))
     refine hw.add nm _ _ ⟨vs++news,⟨by rw[List.length_append (as:=xs)];exact hcat, .inr ⟨g,cap,_,by rw[dt,List.length_append],Nat.zero_le _,setRow_heap w g cur _ el (0,0) hg,by rw[List.length_append];exact hfit,hcm,?_,?_⟩⟩,(hf.append hys).mono (fun _ q=>q) hI⟩ ?_
     ·rw[←hcs];simp;omega
     ·rw[List.length_append]
      simp only[hsi,List.toList_toArray]
      rw[htake, ←hcat]
      exact List.take_left
     ·intro b' o e
      have e:(upd L nm (.slice (some ⟨g,0,none⟩) (xs.length+ys.length) cap) nm).ownBlock=some b':=e
      rw[dt]at e
      have:g=b':=Option.some.inj e
      subst this
      exact⟨Nat.lt_of_lt_of_le f1 hst.size,f2,f3 o,fun m ob _ em=>f4 m ob em o⟩
    ·have holds:∀j v,vs[j]?=some v→w.cell? ((⟨g,0,none⟩:Addr).add j)=some v:=hown.cells (g:=g) rfl
     have hr:=run_append_grow (P:=P) w q ty el i z hu i1 z1 ⟨g,0,none⟩ xs.length cap vs (by rw[hsi];exact hvl) holds ⟨b,off,none⟩ ys.length c news (by rw[hsi];exact hnl) hcell (by omega) (by omega) (growslice_fits (by omega) hbytes)
     exact⟨_,_,hr,fresh cap _ (hcells cap).1 (hcells cap).2,_,_,_,rfl⟩
theorem QJ{e:Nat}{t:Ty}{ys:List t.den}{vs:List Value}{u:Value}(h1:w.ownsRow 0 e t.sz u ys.length vs) (h2:bZ I w t ys vs) :
  ∃ad c,u = .slice ad ys.length c∧(ys=[]∨∃b off,ad=some ⟨b,off,none⟩∧Cells w b off vs):=by
 rcases h1.2 with⟨rfl,h0⟩|⟨g,cap,cur,rfl,_,hg,_,_,_,ht⟩
 ·exact⟨none,0,by rw[h0], .inl (List.length_eq_zero_iff.1 h0)⟩
 ·refine⟨_,_,rfl, .inr ⟨g,0,rfl,fun j v hv=>?_⟩⟩
  rw[←ht,List.getElem?_take]at hv
  split at hv
  ·rw[Nat.zero_add]
   simp only[World.cell?,hg]
   simpa using hv
  ·cases hv
theorem xu (h:ce X L I s a w){t:Ty}{y:CV}{ys:List t.den}{u:Value}(e:source s.o t y=some ys) (r:RC L I w (AL s.o) y u) :
  ∃ad c news,u = .slice ad ys.length c∧bZ I w t ys news∧(ys=[]∨∃b off,ad=some ⟨b,off,none⟩∧Cells w b off news):=by
 have plain:∀{y:CV},y.as (.sl t)=some ys→RC L I w (AL s.o) y u→∃ad c news,u = .slice ad ys.length c∧bZ I w t ys news∧(ys=[]∨∃b off,ad=some ⟨b,off,none⟩∧Cells w b off news):=by
  intro y e r
  obtain⟨ad,c,css,e1,_,h1,h2⟩:=oC e r
  refine⟨ad,c,css.flatten,List.head_eq_of_cons_eq e1,⟨css,h1,rfl⟩,?_⟩
  rcases h2 with h2|⟨b,off,e2,_,h2⟩
  ·simp_all
  ·grind
 cases y with
 |own m =>
  simp only[source]at e
  split at e
  ·rename_i q v zs em
   split at e
   ·rename_i hq eq
    obtain rfl:=Option.some.inj e
    subst hq
    obtain⟨vs,g1,g2⟩:=h.obj m _ em
    obtain⟨_,_,_,_,r⟩:=r
    obtain⟨ad,c,e1,e2⟩:=QJ g1 g2
    exact⟨ad,c,vs,r▸e1,g2,e2⟩
   ·cases e
  ·cases e
 |v q x=>exact plain (by simpa only[source]using e) r
 |nil=>exact plain (by simpa only[source]using e) r
 |pb n i=>exact plain (by simpa only[source]using e) r
 |pa n sz i j=>exact plain (by simpa only[source]using e) r
 |pe q x i=>exact plain (by simpa only[source]using e) r
 |clo f x=>exact plain (by simpa only[source]using e) r
 |mp x=>exact plain (by simpa only[source]using e) r
 |hd x=>exact plain (by simpa only[source]using e) r
 |er x=>exact plain (by simpa only[source]using e) r
 |raw x=>exact plain (by simpa only[source]using e) r
 |dead=>exact plain (by simpa only[source]using e) r
theorem M8 (h:ce X L I s a w){n:Nm}{k e:Nat}{t:Ty}{xs:List t.den}(en:s.o n=some (.arr e t xs)):VE X L I (s.past n k) w (L n):=by
 intro b hb
 have fpn:∀o,fp L n (.arr e t xs) b o:=fun o=>hb
 obtain⟨h1,h2,_⟩:=h.own n _ en b 0 (fpn 0)
 refine⟨h1,h2,fun o=>(h.own n _ en b o (fpn o)).2.2,fun m ob em o q=>?_⟩
 obtain⟨hm,ob',e',rfl⟩:=BJ em
 exact hm (h.sep m n ob' _ e' en b o (Bh.1 q) (fpn o))
theorem QK{e sz n:Nat}{u:Value}{vs:List Value}(h:w.ownsRow 0 e sz u n vs):∀a l c,u = .slice a l c→l=n:=by
 intro a l c hu
 rcases h.2 with⟨h1,h0⟩|⟨g,cap,cur,h1,_⟩
 ·simp_all
 ·simp_all
theorem Pj:VE X L I s w (.slice none 0 0):=fun b hb=>by cases hb
def CP (P:Program) (X:t7) (L:Nm→Value) (o:Oper) (a:Act) (w:World) (s':St):Prop :=
 ∃nx w' L' I',(execOp a.eval o).run P w = .ok nx w'∧(∀m,ju m=true→L' m=L m)∧((∃u,nx = .value u∧ce X L' I' s' (a.put o.dst u) w')∨(nx = .skip∧ce X L' I' s' (a.put o.dst undef) w'))
theorem LW (h:ce X L I s a w) (hτ:dZ P τ){o:Oper}{t:Nat}{x y:Operand}(ho:o.op = .store t x y) (hd:∀d,o.dst=some d→d<X.N){s':St}
  (e:qF τ (.store t x y) o.dst s=some (true,s')):CP P X L o a w s':=by
 simp only[qF]at e
 split at e
 ·rename_i ti p new e1 e2 e3
  cases k:(Nat.beq new.length ti.size&&new.all CV.fine)with
  |false=>rw[k]at e;cases e
  |true =>
   rw[k]at e
   simp only[cond_true]at e
   rw[Bool.and_eq_true]at k
   split at e
   ·rename_i nm ob e4
    obtain⟨_,rfl⟩:=Prod.mk.inj (Option.some.inj e)
    have rx:=h.ev x
    rw[e2]at rx
    have rv:=rB e3 (h.ev y)
    have hlen:(a.eval y).cells.size=ti.size:=by
     have:=rv.len
     rw[←Nat.eq_of_beq_eq_true k.1,this];simp
    refine(?_:∃ad w',a.eval x = .pointer (some ad)∧(storeCells ad (a.eval y).cells.toList).run P w = .ok () w'∧ce X L I (s.setO nm ob) a w').elim ?_
    ·cases p with
     |pb n off =>
      simp only[sv]at e4
      split at e4
      ·rename_i cs en
       cases k2:Nat.ble (off+new.length) cs.length with
       |false=>rw[k2]at e4;cases e4
       |true =>
        rw[k2]at e4
        obtain⟨rfl,rfl⟩:=Prod.mk.inj (Option.some.inj e4)
        exact Md h en rx (Nat.le_of_ble_eq_true k2) rv k.2
      ·cases e4
     |pa n sz i j =>
      simp only[sv]at e4
      split at e4
      ·rename_i el q xs en
       cases k2:Nat.ble (j+new.length) q.sz with
       |false=>rw[k2]at e4;cases e4
       |true =>
        rw[k2]at e4
        simp only[cond_true]at e4
        split at e4
        ·rename_i z e5
         obtain⟨rfl,rfl⟩:=Prod.mk.inj (Option.some.inj e4)
         exact Me h en rx (Nat.le_of_ble_eq_true k2) e5 rv k.2
        ·cases e4
      ·cases e4
     |_=>cases e4
    ·rintro ad ⟨w',g1,g2,g3⟩
     refine⟨.skip,w',L,I,?_,fun _ _=>rfl, .inr ⟨rfl,g3.put o.dst hd (v := .c .dead) trivial⟩⟩
     have hn:¬(a.eval y).cells.size≠ti.size:=fun q=>q hlen
     simp[execOp,ho,Instr.storeAt,Instr.sureAddr,g1,storeVar,(hτ t ti e1).sizeOf,hn,if_pos hlen,g2,Result.andThen]
   ·cases e
 ·cases e
theorem I9 (h:ce X L I s a w) (hτ:dZ P τ){o:Oper}{xs:Array Operand}{ts:Array TypeId}(ho:o.op = .call { callee := .builtin .append,args:=xs,argTypes:=ts }) (hd:∀d,o.dst=some d→d<X.N){s':St}
  (e:qF τ (.call { callee := .builtin .append,args:=xs,argTypes:=ts }) o.dst s=some (true,s')):CP P X L o a w s':=by
 simp only[qF]at e
 split at e
 ·rename_i d x y at_ bt_ e1 e2 e3
  split at e
  ·rename_i ti e4
   cases k:(Nat.beq ti.kind 3&&Nat.beq at_ bt_)with
   |false=>rw[k]at e;cases e
   |true =>
    rw[k]at e
    simp only[cond_true]at e
    rw[Bool.and_eq_true]at k
    split at e
    ·rename_i te e5
     split at e
     ·rename_i ty e6
      cases k2:Nat.ble te.bytes 4096 with
      |false=>rw[k2]at e;cases e
      |true =>
       rw[k2]at e
       simp only[cond_true]at e
       have hk:=Nat.le_of_ble_eq_true k2
       have hu:=(hτ at_ ti e4).slice (Nat.eq_of_beq_eq_true k.1)
       have hte:=hτ _ te e5
       obtain⟨p,q,rfl,f1,f2⟩:=Fq e2
       have hts:ts=#[at_,at_]:=by
        obtain⟨l⟩:=ts
        obtain rfl:l=[at_,bt_]:=e3
        rw[←Nat.eq_of_beq_eq_true k.2]
       subst hts
       have rp:=h.ev p
       have rq:=h.ev q
       rw[f1]at rp
       rw[f2]at rq
       have hd':d<X.N:=hd d e1
       have fin:∀{u':Value}{w':World}{u2:Value}{s'':St},(Builtin.append_ #[at_,at_] o.type #[a.eval p,a.eval q]).run P w = .ok u' w'→ce X (upd L [d,0] u2) I s'' a w'→RA (upd L [d,0] u2) I w' (AL s''.o) (.c (.own [d,0])) u' →
         CP P X L o a w (s''.put o.dst (.c (.own [d,0]))):=by
        intro u' w' u2 s'' hr hR hA
        refine⟨.value u',w',_,I,?_,fun m hm=>t9 L u2 (fun q=>by rw[q]at hm;cases hm), .inl ⟨u',rfl,hR.put o.dst hd hA⟩⟩
        simp[execOp,ho,resolve,invoke,builtin,hr,Result.andThen]
       split at e
       ·rename_i n
        split at e
        ·rename_i el t zs en
         cases k3:Nat.beq el ti.el with
         |false=>rw[k3]at e;cases e
         |true =>
          rw[k3]at e
          simp only[cond_true]at e
          have hel:=Nat.eq_of_beq_eq_true k3
          subst hel
          split at e
          ·rename_i hq eq
           subst hq
           split at e
           ·rename_i ys e7
            obtain⟨hc,rfl⟩:=Prod.mk.inj (Option.some.inj e)
            obtain⟨ad,c,news,g1,g2,g3⟩:=xu h e7 rq
            obtain⟨vs,g4,g5⟩:=h.obj n _ en
            obtain⟨_,_,_,_,rp⟩:=rp
            obtain⟨u',w',h1,h2,x',l',y',h3⟩:=CF (P:=P) (h.past n (QK g4)) (nm:=[d,0]) (ty:=o.type) hu hte e6 hk g4 g5 (M8 h en) g2 g3 (of_decide_eq_true hc)
            rw[←g1,rp]at h1
            exact fin h1 h2 ⟨x',l',y',h3,dt _ _ _⟩
           ·cases e
          ·cases e
        ·cases e
       ·split at e
        ·rename_i ys e7
         obtain⟨hc,rfl⟩:=Prod.mk.inj (Option.some.inj e)
         obtain⟨ad,c,news,g1,g2,g3⟩:=xu h e7 rq
         obtain⟨u',w',h1,h2,x',l',y',h3⟩:=CF (P:=P) h (nm:=[d,0]) (ty:=o.type) (xs:=[]) (vs:=[]) hu hte e6 hk (World.ownsRow_nil w 0 ti.el ty.sz) bZ.nil Pj g2 g3 (by simpa using of_decide_eq_true hc)
         rw[←g1, ←show a.eval p = .slice none 0 0 from rp]at h1
         exact fin h1 h2 ⟨x',l',y',h3,dt _ _ _⟩
        ·cases e
       ·cases e
     ·cases e
    ·cases e
  ·cases e
 ·cases e
theorem LY (h:ce X L I s a w) (hτ:dZ P τ){o:Oper}{t:Nat}{x:Operand}{lo hi mx:Option Operand}(ho:o.op = .slice t x lo hi mx) (hd:∀d,o.dst=some d→d<X.N){s':St}
  (e:qF τ (.slice t x lo hi mx) o.dst s=some (true,s')):CP P X L o a w s':=by
 cases mx with
 |some m=>simp[qF]at e
 |none =>
 simp only[qF]at e
 split at e
 ·rename_i ti n e1 e2
  cases k:Nat.beq ti.kind 3 with
  |false=>rw[k]at e;cases e
  |true =>
   rw[k]at e
   simp only[cond_true]at e
   split at e
   ·rename_i el ty xs te en e5
    cases k2:Nat.beq te.size ty.sz with
    |false=>rw[k2]at e;cases e
    |true =>
     rw[k2]at e
     simp only[cond_true]at e
     have r:=h.ev x
     rw[e2]at r
     have hk:=Nat.eq_of_beq_eq_true k
     have hsz:=Nat.eq_of_beq_eq_true k2
     obtain⟨_,_,_,_,r⟩:=r
     have fin:∀{u':Value}{I':Nat→Prop}{s'':St}{v:AV},(Instr.sliceAt t (a.eval x) (lo.map a.eval) (hi.map a.eval) none).run P w = .ok u' w→ce X L I' s'' a w→RA L I' w (AL s''.o) v u'→CP P X L o a w (s''.put o.dst v):=by
      intro u' I' s'' v hr hR hA
      refine⟨.value u',w,L,I',?_,fun _ _=>rfl, .inl ⟨u',rfl,hR.put o.dst hd hA⟩⟩
      exact fq (e:=Instr.sliceAt t (a.eval x) (lo.map a.eval) (hi.map a.eval) none) (by simp[execOp,ho]) hr
     obtain⟨I',hI,hR,hr⟩:=h.freeze en
     have hr':=hr
     obtain⟨ad,c,css,e6,hc,_,_⟩:=hr
     have e6:=List.head_eq_of_cons_eq e6
     rw[e6]at hr'
     rw[←r,e6]at fin
     split at e
     ·rename_i e3 e4
      obtain⟨_,rfl⟩:=Prod.mk.inj (Option.some.inj e)
      refine fin (lL hτ e1 hk e5 _ _ ad xs.length c 0 _ (.inl ⟨lh e3,rfl⟩) (.inl ⟨lh e4,rfl⟩) (Int.le_refl _) (by omega) (Int.le_refl _) hc) h ?_
      refine⟨_,_,_,rfl,?_⟩
      rw[e6]
      obtain⟨vs,⟨_,g⟩,_⟩:=h.obj n _ en
      rcases g with⟨g1,g2⟩|⟨g0,cap,cur,g1,_⟩
      ·rw[e6]at g1
       injection g1 with g1 g3 g4
       subst g1;subst g4
       simp[sliced];try omega
      ·rw[e6]at g1
       injection g1 with g1 g3 g4
       subst g1;subst g4
       simp[sliced,Addr.add]
     ·rename_i kl l e3 e4
      obtain⟨hq,rfl⟩:=Prod.mk.inj (Option.some.inj e)
      obtain⟨c1,c2,c3⟩:=pB.1 hq
      refine fin (lL hτ e1 hk e5 _ _ ad xs.length c l _ (.inr (oT h (x:=x) e3)) (.inl ⟨lh e4,rfl⟩) c1 c2 c3 hc) hR ?_
      rw[hsz];exact sF hr' (by omega) (by omega)
     ·rename_i kh q e3 e4
      obtain⟨hq,rfl⟩:=Prod.mk.inj (Option.some.inj e)
      obtain⟨c1,c2,c3⟩:=pB.1 hq
      refine fin (lL hτ e1 hk e5 _ _ ad xs.length c 0 q (.inl ⟨lh e3,rfl⟩) (.inr (oT h (x:=x) e4)) c1 c2 c3 hc) hR ?_
      rw[hsz];exact sF hr' (by omega) (by omega)
     ·rename_i kl l kh q e3 e4
      obtain⟨hq,rfl⟩:=Prod.mk.inj (Option.some.inj e)
      obtain⟨c1,c2,c3⟩:=pB.1 hq
      refine fin (lL hτ e1 hk e5 _ _ ad xs.length c l q (.inr (oT h (x:=x) e3)) (.inr (oT h (x:=x) e4)) c1 c2 c3 hc) hR ?_
      rw[hsz];exact sF hr' (by omega) (by omega)
     ·cases e
   ·cases e
 ·cases e
theorem uU (h:ce X L I s a w){n:Nm}{kt:Ty}{vk:IntKind}{ka:Bool}{kvs:List (kt.den×Int)}(en:s.o n=some (.mp kt (.int vk) ka kvs)){b:Nat}(hL:L n = .map (some b)){es:Array MapEntry}{ck:Nat}(hb:w.heap[b]?=some (.map es ck))
  {kvs':List (kt.den×Int)}{es':Array MapEntry}(hr:kx kt (.int vk) ka 0 kvs' es'.toList){o:Oper}(hd:∀d,o.dst=some d→d<X.N){nx:Next}(hx:(execOp a.eval o).run P w = .ok nx { w with heap:=w.heap.setIfInBounds b (.map es' es'.size) })
  {v:AV}(hv:(∃u,nx = .value u∧∀L I w A,RA L I w A v u)∨(nx = .skip∧v = .c .dead)):CP P X L o a w ((s.setO n (.mp kt (.int vk) ka kvs')).put o.dst v):=by
 have hR:=h.setMap (vt := .int vk) (kvs:=kvs) (kvs':=kvs') en hL hb hr
 refine⟨nx,_,L,I,hx,fun _ _=>rfl,?_⟩
 rcases hv with⟨u,rfl,hv⟩|⟨rfl,rfl⟩
 ·exact .inl ⟨u,rfl,hR.put o.dst hd (hv _ _ _ _)⟩
 ·exact .inr ⟨rfl,hR.put o.dst hd trivial⟩
theorem KK{kt:Ty}{vk:IntKind}{ka:Bool}{kvs:List (kt.den×Int)}{es:Array MapEntry}(h:kx kt (.int vk) ka 0 kvs es.toList){key:kt.den}{u:Value}(hu:vT ka kt key u) (x:Int) :
  (∀i v,cN kt key kvs 0=some (i,v)→∃e,es[i]?=some e∧vT ka kt key e.key∧e.val = .int vk v∧e.born=i∧kx kt (.int vk) ka 0 (mU kt key x kvs) (es.modify i fun e=>{ e with key:=u,val := .int vk x }).toList) ∧
  (cN kt key kvs 0=none→kx kt (.int vk) ka 0 (mU kt key x kvs) (es.push { key:=u,val := .int vk x,born:=es.size }).toList):=by
 constructor
 ·intro i v hf
  obtain⟨_,h2⟩:=qd hf
  obtain⟨e,h3,h4,h5,h6⟩:=h.get h2
  rw[Nat.sub_zero]at h3
  refine⟨e,by simpa using h3,h4,(List.head_eq_of_cons_eq h5).symm,by omega,?_⟩
  unfold mU
  rw[hf]
  rw[Array.toList_modify]
  exact h.upd fun e' _=>⟨hu,rfl,rfl⟩
 ·intro hf
  unfold mU
  rw[hf]
  rw[Array.toList_push]
  exact h.push hu rfl (by simp)
theorem CQ (h:ce X L I s a w) (hτ:dZ P τ){o:Oper}{t:Nat}{m k x:Operand}(ho:o.op = .mapUpdate t m k x) (hd:∀d,o.dst=some d→d<X.N){s':St}
  (e:qF τ (.mapUpdate t m k x) o.dst s=some (true,s')):CP P X L o a w s':=by
 simp only[qF]at e
 split at e
 ·rename_i ti n vk' y e1 e2 e3
  split at e
  ·rename_i kt vk ka kvs en
   split at e
   ·rename_i key e4
    cases q:(Nat.beq ti.kind 9&&(decide (vk'=vk)&&wb τ ti.ky kt ka))with
    |false=>rw[q]at e;cases e
    |true =>
     rw[q]at e
     obtain⟨_,rfl⟩:=Prod.mk.inj (Option.some.inj e)
     simp only[Bool.and_eq_true]at q
     obtain⟨q1,q2,q3⟩:=q
     have q2:=of_decide_eq_true q2
     subst q2
     have hk:=ze hτ q3
     have rm:=h.ev m
     rw[e2]at rm
     obtain⟨b,es,g1,gL,g2,g3⟩:=vo h en rm
     have hkv:=Ft hk.flat e4 (h.ev k)
     have rx:=h.ev x
     rw[e3]at rx
     have hu:=(hτ t ti e1).map (Nat.eq_of_beq_eq_true q1)
     obtain⟨p1,p2⟩:=KK g3 hkv y
     cases hf:cN kt key kvs 0 with
     |some p =>
      obtain⟨i,v⟩:=p
      obtain⟨e0,z1,z2,z3,z4,z5⟩:=p1 i v hf
      refine uU h en gL g2 z5 hd (nx := .skip) ?_ (.inr ⟨rfl,rfl⟩)
      have:(Instr.mapUpdate t (a.eval m) (a.eval k) (a.eval x)).run P w = .ok () { w with heap:=w.heap.setIfInBounds b (.map (es.modify i fun e=>{ e with key:=a.eval k,val := .int vk' y }) es.size) }:=by
       rw[g1,lO rx]
       unfold Instr.mapUpdate
       simp only[Sem.run_bind,run_underlying hu,Result.andThen_ok,run_getObj_map w b es es.size g2,mC hk hkv,uK hk hkv g3,hf,oX,z1,Option.map_some,Option.getD_some,Dq z2 hkv,p8 _ g2]
      rw[Array.size_modify]
      simp[execOp,ho,this,Result.andThen]
     |none =>
      refine uU h en gL g2 (p2 hf) hd (nx := .skip) ?_ (.inr ⟨rfl,rfl⟩)
      have:(Instr.mapUpdate t (a.eval m) (a.eval k) (a.eval x)).run P w = .ok () { w with heap:=w.heap.setIfInBounds b (.map (es.push { key:=a.eval k,val := .int vk' y,born:=es.size }) (es.size+1)) }:=by
       rw[g1,lO rx]
       unfold Instr.mapUpdate
       simp only[Sem.run_bind,run_underlying hu,Result.andThen_ok,run_getObj_map w b es es.size g2,mC hk hkv,uK hk hkv g3,hf,oX,p8 _ g2]
      rw[Array.size_push]
      simp[execOp,ho,this,Result.andThen]
   ·cases e
  ·cases e
 ·cases e
theorem EK (h:ce X L I s a w) (hτ:dZ P τ){o:Oper}{t:Nat}{m k:Operand}(ho:o.op = .mapEntry t m k) (hd:∀d,o.dst=some d→d<X.N){s':St}
  (e:qF τ (.mapEntry t m k) o.dst s=some (true,s')):CP P X L o a w s':=by
 simp only[qF]at e
 split at e
 ·rename_i ti n e1 e2
  split at e
  ·rename_i kt vk ka kvs en
   split at e
   ·rename_i te key e3 e4
    cases q:(Nat.beq ti.kind 9&&(Nat.beq te.kind 1&&(decide (te.ik=vk)&&wb τ ti.ky kt ka)))with
    |false=>rw[q]at e;cases e
    |true =>
     rw[q]at e
     obtain⟨_,rfl⟩:=Prod.mk.inj (Option.some.inj e)
     simp only[Bool.and_eq_true]at q
     obtain⟨q1,qt,q2,q3⟩:=q
     have hk:=ze hτ q3
     have rm:=h.ev m
     rw[e2]at rm
     obtain⟨b,es,g1,gL,g2,g3⟩:=vo h en rm
     have hkv:=Ft hk.flat e4 (h.ev k)
     have hu:=(hτ t ti e1).map (Nat.eq_of_beq_eq_true q1)
     obtain⟨i0,z1,z2⟩:=(hτ _ te e3).z1 (Nat.eq_of_beq_eq_true qt)
     have hz:∀w,(zeroValue ti.el).run P w = .ok (.int vk 0) w:=fun w=>by
      rw[←of_decide_eq_true q2];simp[zeroValue,typeInfo,z1,z2]
     obtain⟨p1,p2⟩:=KK g3 hkv (fZ kt key kvs)
     have fin:∀p:Nat,wD kt key kvs=(p:Int)→∀L I w A,RA L I w A (.tup [(false,[.v (.int vk) (fZ kt key kvs)]),(false,[.v (.int .i64) (wD kt key kvs)])]) (.tuple #[.int vk (fZ kt key kvs),goInt p]):=fun p hp L I w A =>
      ⟨[_,_],rfl,⟨rfl,trivial⟩,⟨by rw[hp];rfl,trivial⟩,trivial⟩
     cases hf:cN kt key kvs 0 with
     |some p =>
      obtain⟨i,v⟩:=p
      obtain⟨e0,y1,y2,y3,y4,y5⟩:=p1 i v hf
      have hmg:fZ kt key kvs=v:=by unfold fZ;rw[hf]
      have hmp:wD kt key kvs=(i:Int):=by unfold wD;rw[hf]
      refine uU h en gL g2 y5 hd (nx := .value (.tuple #[.int vk (fZ kt key kvs),goInt i])) ?_ (.inl ⟨_,rfl,fin i hmp⟩)
      have hsame:(es.modify i fun e=>{ e with key:=a.eval k })=es.modify i fun e=>{ e with key:=a.eval k,val := .int vk (fZ kt key kvs) }:=by
       grind
      have:(Instr.mapEntry t (a.eval m) (a.eval k)).run P w = .ok (.tuple #[.int vk (fZ kt key kvs),goInt i]) { w with heap:=w.heap.setIfInBounds b (.map (es.modify i fun e=>{ e with key:=a.eval k,val := .int vk (fZ kt key kvs) }) es.size) }:=by
       rw[g1, ←hsame]
       unfold Instr.mapEntry
       simp only[Sem.run_bind,run_underlying hu,Result.andThen_ok,run_getObj_map w b es es.size g2,mC hk hkv,uK hk hkv g3,hf,oX,y1,Option.map_some,Option.getD_some,Dq y2 hkv,p8 _ g2,Sem.run_pure,y4,hmg]
      rw[Array.size_modify]
      simp[execOp,ho,this,Result.andThen]
     |none =>
      have hmg:fZ kt key kvs=0:=by unfold fZ;rw[hf]
      have hmp:wD kt key kvs=((es.size:Nat):Int):=by simp_all [wD,g3.len]
      refine uU h en gL g2 (p2 hf) hd (nx := .value (.tuple #[.int vk (fZ kt key kvs),goInt es.size])) ?_ (.inl ⟨_,rfl,fin es.size hmp⟩)
      have:(Instr.mapEntry t (a.eval m) (a.eval k)).run P w = .ok (.tuple #[.int vk (fZ kt key kvs),goInt es.size]) { w with heap:=w.heap.setIfInBounds b (.map (es.push { key:=a.eval k,val := .int vk (fZ kt key kvs),born:=es.size }) (es.size+1)) }:=by
       rw[g1,hmg]
       unfold Instr.mapEntry
       simp only[Sem.run_bind,run_underlying hu,Result.andThen_ok,run_getObj_map w b es es.size g2,mC hk hkv,uK hk hkv g3,hf,oX,hz,p8 _ g2,Sem.run_pure]
      rw[Array.size_push]
      simp[execOp,ho,this,Result.andThen]
   ·cases e
  ·cases e
 ·cases e
theorem DO{kt:Ty}{vk:IntKind}{ka:Bool}{x:Int}:∀{kvs:List (kt.den×Int)}{es:List MapEntry}{i:Nat},kx kt (.int vk) ka i kvs es→∀j,kx kt (.int vk) ka i (Ax x kvs j) (es.modify j fun e=>{ e with val := .int vk x })
 |[],[],_,_,j=>by simp[Ax,kx]
 |[],_::_,_,h,_=>h.elim
 |_::_,[],_,h,_=>h.elim
 |_::_,e0::_,_,h,0=>⟨⟨h.1.1,rfl,h.1.2.2⟩,h.2⟩
 |_::_,_::_,i,h,j+1=>⟨h.1,DO h.2 j⟩
theorem IR{kt vt:Ty}{ka:Bool}:∀{kvs:List (kt.den×vt.den)}{es:List MapEntry}{i:Nat},kx kt vt ka i kvs es→∀j:Nat,j<es.length→es.findIdx? (fun e=>(e.born:Int)==((i+j:Nat):Int))=some j
 |[],[],_,_,j,h=>by simp at h
 |[],_::_,_,h,_,_=>h.elim
 |_::_,[],_,h,_,_=>h.elim
 |_::_,e0::es,i,h,0,_=>by
  grind [kx]
 |_::_,e0::es,i,h,j+1,hj=>by
  rw[List.findIdx?_cons]
  have hb:e0.born=i:=h.1.2.2
  have:((e0.born:Int)==((i+(j+1):Nat):Int))=false:=by
   grind
  rw[this]
  have ih:=IR h.2 j (by simpa using hj)
  rw[show i+(j+1)=i+1+j by omega,ih];rfl
theorem Bn (h:ce X L I s a w) (hτ:dZ P τ){o:Oper}{t:Nat}{m j x:Operand}(ho:o.op = .entryStore t m j x) (hd:∀d,o.dst=some d→d<X.N){s':St}
  (e:qF τ (.entryStore t m j x) o.dst s=some (true,s')):CP P X L o a w s':=by
 simp only[qF]at e
 split at e
 ·rename_i n i vk' y e1 e2 e3
  split at e
  ·rename_i kt vk ka kvs en
   split at e
   ·rename_i hvk
    subst hvk
    obtain⟨hin,rfl⟩:=Prod.mk.inj (Option.some.inj e)
    obtain⟨h0,h1⟩:=vz.1 hin
    have rm:=h.ev m
    rw[e1]at rm
    obtain⟨b,es,g1,gL,g2,g3⟩:=vo h en rm
    have rj:=h.ev j
    rw[e2]at rj
    have rx:=h.ev x
    rw[e3]at rx
    have hl:=g3.len
    have hrow:=DO (x:=y) g3 i.toNat
    have hrow:kx kt (.int vk') ka 0 (MF i y kvs) (es.modify i.toNat fun e=>{ e with val := .int vk' y }).toList:=by
     rw[Array.toList_modify];exact hrow
    refine uU h en gL g2 hrow hd (nx := .skip) ?_ (.inr ⟨rfl,rfl⟩)
    have hlt:i.toNat<es.toList.length:=by omega
    have hfi:es.findIdx? (fun e=>(e.born:Int)==i)=some i.toNat:=by
     have:=IR g3 i.toNat hlt
     rw[Nat.zero_add,Int.toNat_of_nonneg h0]at this
     clear rm g2 g3 hl hrow hlt
     cases es
     simpa using this
    have:(Instr.entryStore t (a.eval m) (a.eval j) (a.eval x)).run P w = .ok () { w with heap:=w.heap.setIfInBounds b (.map (es.modify i.toNat fun e=>{ e with val := .int vk' y }) es.size) }:=by
     rw[g1,lO rj,lO rx]
     unfold Instr.entryStore
     simp only[Sem.run_bind,Result.andThen_ok,run_getObj_map w b es es.size g2,asInt,asIntOf,Sem.run_map,Sem.run_pure,Result.andThen_ok,hfi,p8 _ g2]
    rw[Array.size_modify]
    simp[execOp,ho,this,Result.andThen]
   ·cases e
  ·cases e
 ·cases e
theorem ce.more (h:ce X L I s a w){g:Nat}(hg:g<w.heap.size) (hf:∀m ob,s.o m=some ob→∀b o,fp L m ob b o→b≠g) (hi:X.I0 g∨X.w0.heap.size≤g∨∀o,X.E g o):ce X L (fun b=>I b∨b=g) s a w:=by
 have hw:mV I w w:=fun _ _=>rfl
 have hI:∀b,I b→I b∨b=g:=fun _ q => .inl q
 refine⟨h.defers,h.size,fun i hi=>RA.mono hI hw (fun _ _=>⟨rfl,rfl⟩) (h.tmp i hi),h.hi,fun m ob e=>?_,h.sep,fun m ob e b o q=>?_,fun b hb=>?_,fun b hb => .inl (h.sub b hb),h.step,h.glob.1,fun b hb => .inl (h.glob.2 b hb)⟩
 ·have r:=h.obj m ob e
  cases ob with
  |box cs =>
   obtain⟨b,off,vs,h1,h2,h3⟩:=r
   exact⟨b,off,vs,h1,I5.mono hI hw (fun _ _=>⟨rfl,rfl⟩) h2,h3⟩
  |arr e t xs =>
   obtain⟨vs,h1,h2⟩:=r
   exact⟨vs,h1,h2.mono hI hw⟩
  |mp kt vt ka kvs=>exact r
 ·obtain⟨h1,h2,h3⟩:=h.own m ob e b o q
  exact⟨h1,fun z=>z.elim h2 (hf m ob e b o q),h3⟩
 ·rcases hb with hb|rfl
  ·exact h.imm b hb
  ·trivial
theorem Mf{g:Nat}{c:Array Value}{t:TypeId}(hg:w.heap[g]?=some (.cells c t (0,0))) :
  bY (fun b _=>b=g) w (w.freeze ⟨g,c.size,none⟩ 1)∧(w.freeze ⟨g,c.size,none⟩ 1).heap[g]?=some (.cells c t (c.size,c.size+1)):=by
 have hlt:g<w.heap.size:=by
  grind
 have hself:(w.freeze ⟨g,c.size,none⟩ 1).heap[g]?=some (.cells c t (c.size,c.size+1)):=by
  unfold World.freeze
  rw[if_neg (by decide)]
  show(w.heap.modify g _)[g]?=_
  rw[Array.getElem?_modify,if_pos rfl,hg]
  rfl
 refine⟨⟨?_,?_,?_,?_,fun b hb=>?_⟩,hself⟩
 ·unfold World.freeze;rw[if_neg (by decide)]
 ·unfold World.freeze;rw[if_neg (by decide)]
 ·unfold World.freeze;rw[if_neg (by decide)]
 ·unfold World.freeze;rw[if_neg (by decide)];show w.heap.size≤(w.heap.modify g _).size;simp
 ·by_cases q:b=g
  ·subst q
   rw[hg,hself]
   exact⟨c,_,rfl,rfl,fun j hj=>absurd rfl hj,fun⟨j,hj⟩=>absurd rfl hj⟩
  ·refine fY.of_eq ?_
   unfold World.freeze
   rw[if_neg (by decide)]
   show(w.heap.modify g _)[b]?=_
   rw[Array.getElem?_modify,if_neg (fun e=>q e.symm)]
theorem Gb (h:ce X L I s a w) (hτ:dZ P τ){o:Oper}{q d:Nat}{x:Operand}(ho:o.op = .convert q d x) (hd:∀d,o.dst=some d→d<X.N){s':St}
  (e:qF τ (.convert q d x) o.dst s=some (true,s')):CP P X L o a w s':=by
 simp only[qF]at e
 split at e
 ·rename_i ti n e1 e2
  cases k:(Nat.beq q d&&nV τ ti)with
  |false=>rw[k]at e;cases e
  |true =>
   rw[k]at e
   simp only[cond_true]at e
   rw[Bool.and_eq_true]at k
   obtain⟨g1,g2⟩:=pF hτ e1 k.2
   obtain rfl:=Nat.eq_of_beq_eq_true k.1
   split at e
   ·rename_i el xs en
    obtain⟨hq,rfl⟩:=Prod.mk.inj (Option.some.inj e)
    have hpos:0<xs.length:=of_decide_eq_true hq
    have r:=h.ev x
    rw[e2]at r
    obtain⟨_,_,_,_,r⟩:=r
    obtain⟨vs,h1,css,h3,rfl⟩:=h.obj n _ en
    obtain⟨_,h1⟩:=h1
    rcases h1 with⟨_,hn⟩|⟨g,cap,cur,hL,_,hg,hc,_,_,ht⟩
    ·omega
    ·have hown:(L n).ownBlock=some g:=by rw[hL];rfl
     obtain⟨o1,o2,o3⟩:=h.own n _ en g 0 hown
     obtain⟨hst,hself⟩:=Mf hg
     have hf:∀m ob,(s.drop n).o m=some ob→∀b o,fp L m ob b o→b≠g:=fun m ob em b o q e=>by
      obtain⟨hm,x',ex,rfl⟩:=rA em
      exact hm (h.sep m n x' _ ex en b o (s6.1 q) (show(L n).ownBlock=some b by rw[e];exact hown))
     have h2:=(h.drop' n).world hst (fun b _ hb e=>o2 (e▸hb)) hf (fun b j e hb=>(h.own n _ en b j (show(L n).ownBlock=some b by rw[e];exact hown)).2.2 hb)
     have h4:=h2.more (g:=g) (Nat.lt_of_lt_of_le o1 hst.size) hf (by
      rcases Nat.lt_or_ge g X.w0.heap.size with z|z
      ·exact .inr (.inr fun o=>(h.own n _ en g o hown).2.2 z)
      ·exact .inr (.inl z))
     have hrun:(convert q q (a.eval x)).run P w = .ok (a.eval x) (w.freeze ⟨g,cur.size,none⟩ 1):=by
      have hsh:w.shape? g=some (el,cur.size):=by unfold World.shape?;rw[hg]
      rw[←r,hL]
      simp[convert,run_underlying g1,run_underlying g2,markStringish,hsh,Result.andThen]
     have hx:(execOp a.eval o).run P w = .ok (.value (a.eval x)) (w.freeze ⟨g,cur.size,none⟩ 1):=by
      have hq:execOp a.eval o=(do pure (.value (←convert q q (a.eval x)))):=by simp[execOp,ho]
      rw[hq]
      simp[hrun,Result.andThen]
     refine⟨.value (a.eval x),_,L,_,hx,fun _ _=>rfl, .inl ⟨_,rfl,h4.put o.dst hd ?_⟩⟩
     show dD _ _ (.sl (.int .u8)) xs [a.eval x]
     rw[←r,hL]
     refine⟨some ⟨g,0,none⟩,cap,css,rfl,hc,aK.mono (fun _ _ q=>q) h3, .inr ⟨g,0,rfl, .inr rfl,fun j v hv=>?_⟩⟩
     rw[←ht,List.getElem?_take]at hv
     split at hv
     ·rw[Nat.zero_add]
      simp only[World.cell?,hself]
      simpa using hv
     ·cases hv
   ·cases e
 ·cases e
theorem LX (h:ce X L I s a w) (hτ:dZ P τ){o:Oper}(hd:∀d,o.dst=some d→d<X.N){s':St}(e:qF τ o.op o.dst s=some (true,s')):CP P X L o a w s':=by
 cases ho:o.op with
 |store t x y=>grind [LW]
 |mapUpdate t m k x=>grind [CQ]
 |mapEntry t m k=>grind [EK]
 |entryStore t m j x=>grind [Bn]
 |slice t x lo hi mx=>grind [LY]
 |convert q d x=>grind [Gb]
 |call c =>
  obtain⟨cl,xs,ts⟩:=c
  cases cl with
  |builtin b =>
   cases b with
   |append=>grind [I9]
   |_=>simp_all [qF]
  |_=>simp_all [qF]
 |_=>simp_all [qF]
end
end AM
end Go.Proofs.YtpgigedclifoeaaGreatDoor
namespace Go.Proofs.YtpgigedclifoeaaGreatDoor
namespace AM
open Go
set_option linter.unusedSimpArgs false
set_option linter.unusedVariables false
theorem iU{n:Nm}:∀{l:List Nm},oV n l=true↔n∈l
 |[]=>by simp[oV]
 |m::r=>by
  unfold oV
  cases h:Nm.eqb n m with
  |true=>simp_all [bX]
  |false=>have:=bi.1 h;simp[this,iU (l:=r)]
theorem nB:∀{l:List Nm},sP l=true↔l.Nodup
 |[]=>by trivial
 |n::r=>by
  unfold sP
  rw[Bool.and_eq_true,Bool.not_eq_true',List.nodup_cons,nB (l:=r), ←Bool.not_eq_true,iU]
theorem CG{xs ys:List Nm}:F1 xs ys=true↔∀n∈xs,n∉ys:=by
 grind [F1,iU,oV]
theorem LB{t:Ty}{d:DV}{x:t.den}(h:d.as t=some x):d=⟨t,x⟩:=by
 unfold DV.as at h
 split at h
 ·rename_i q e
  obtain rfl:=Option.some.inj h
  cases d
  dsimp only at q
  subst q
  rfl
 ·cases h
theorem mE{t:Ty}(x:t.den):(DV.mk t x).as t=some x:=by
 unfold DV.as
 have:Ty.same t t=some ⟨rfl⟩:=by
  induction t with
  |int k=>simp[Ty.same]
  |bool=>rfl
  |str=>rfl
  |sl t ih=>simp only[Ty.same];rw[ih (Ty.zero t)]
  |pr a b iha ihb=>simp only[Ty.same];rw[iha (Ty.zero a),ihb (Ty.zero b)]
 rw[this]
 rfl
theorem qK:∀{ts:List Ty}{ds:List DV}{x:TD ts},vG ts ds=some x→ak ts x=ds
 |[],[],_,_=>rfl
 |[],_::_,_,h=>by cases h
 |[t],[],_,h=>by cases h
 |[t],[d],x,h=>by
  grind [LB,vG,ak]
 |[t],_::_::_,_,h=>by cases h
 |t::u::r,[],_,h=>by cases h
 |t::u::r,d::ds,x,h=>by
  simp only[vG]at h
  split at h
  ·rename_i y z e1 e2
   obtain rfl:=Option.some.inj h
   rw[LB e1]
   show _::ak (u::r) z=_
   rw[qK e2]
  ·cases h
section
variable{X:t7}{L:Nm→Value}{I:Nat→Prop}{s:St}{a:Act}{w:World}
theorem qi{o:Nm→Option Ob}{e:Option Nat}{t:Ty}{n:Nm}{xs:List t.den}(h:Da o e t n=some xs):∃q,o n=some (.arr q t xs)∧∀p,e=some p→q=p:=by
 unfold Da at h
 split at h
 ·rename_i q u ys en
  cases k:SJ q e with
  |false=>simp_all
  |true =>
   rw[k]at h
   simp only[cond_true]at h
   split at h
   ·rename_i hu eu
    obtain rfl:=Option.some.inj h
    subst hu
    refine⟨q,en,fun p hp=>?_⟩
    subst hp
    exact Nat.eq_of_beq_eq_true k
   ·cases h
 ·cases h
def CJ (L L':Nm→Value) (s:St):cr→Prop
 | .ln n=>∃e t xs,s.o n=some (.arr e t xs)
 | .bw new n=>L' new=L n
 | .pb new n off len=>∃b o cs,s.o n=some (.box cs)∧off+len≤cs.length∧0<len∧L n = .pointer (some ⟨b,o,none⟩)∧L' new = .pointer (some ⟨b,o+off,none⟩)
 | .pa new n i j len=>∃b e t xs l c,s.o n=some (.arr e t xs)∧j+len≤t.sz∧0<len∧i<List.length xs∧L n = .slice (some ⟨b,0,none⟩) l c∧L' new = .pointer (some ⟨b,i*t.sz+j,none⟩)
 | .mx new n len=>∃b o cs,s.o n=some (.box cs)∧0+len≤cs.length∧0<len∧L n = .pointer (some ⟨b,o,none⟩)∧L' new = .pointer (some ⟨b,o+0,none⟩)
 |_=>True
def VD (L L':Nm→Value) (p:(Nm×Nat)×(Nm×Nat)):Prop:=∃b o o',L p.2.1 = .pointer (some ⟨b,o,none⟩)∧L' p.1.1 = .pointer (some ⟨b,o',none⟩)∧o+p.2.2=o'+p.1.2
def AK (L L':Nm→Value) (ts:List cr):Prop:=∀t∈ts, ∀p∈t.pts,VD L L' p
theorem Lw{L L':Nm→Value}:∀{cs ds:List (Nm×Nat)}{us:List Value},cs.length=ds.length→(∀p∈cs.zip ds,VD L L' p)→yI L ds us→yI L' cs us
 |[],[],us,_,_,h=>by
  grind [VD,yI]
 |c::cs,d::ds,us,hl,hp,h=>by
  cases us with
  |nil=>exact h.elim
  |cons u us =>
   obtain⟨⟨b,o,h1,h2⟩,h3⟩:=h
   obtain⟨b',o1,o2,g1,g2,g3⟩:=hp (c,d) (List.mem_cons_self ..)
   rw[h1]at g1
   injection g1 with g1;injection g1 with g1;injection g1 with g1 g1' _
   subst g1;subst g1'
   exact⟨⟨_,_,g2,by rw[h2];exact congrArg (fun z=>Value.pointer (some ⟨b,z,none⟩)) g3⟩,Lw (by simpa using hl) (fun p hp'=>hp p (List.mem_cons_of_mem _ hp')) h3⟩
 |[],_::_,_,hl,_,_=>by cases hl
 |_::_,[],_,hl,_,_=>by cases hl
def EA (L:Nm→Value):cr→Nat→Nat→Prop
 | .mv _ n,b,_=>(L n).ownBlock=some b
 | .bw _ n,b,_=>(L n).ownBlock=some b
 | .pb _ n off len,b,o=>∃o0,L n = .pointer (some ⟨b,o0,none⟩)∧o0+off≤o∧o<o0+off+len
 | .pa _ n _ _ _,b,_=>(L n).ownBlock=some b
 | .mm _ n,b,_=>L n = .map (some b)
 | .mx _ n len,b,o=>∃o0,L n = .pointer (some ⟨b,o0,none⟩)∧o0+0≤o∧o<o0+0+len
 |_,_,_=>False
structure EE (L:Nm→Value) (s:St) (w:World) (I':Nat→Prop) (names new:List Nm) (lv:List (Nm×Value)) (os:List (Nm×Ob)) (ts:List cr):Prop where
 nm:lv.map Prod.fst=names
 om:os.map Prod.fst=names
 ro:∀L' A',(∀p∈lv,L' p.1=p.2)→AK L L' ts→∀q∈os,RO L' I' w A' q.1 q.2
 fp:∀L',(∀p∈lv,L' p.1=p.2)→∀q∈os, ∀b o,AM.fp L' q.1 q.2 b o→∃t∈ts, ∃n ob,t.pair=[(q.1,n)]∧s.o n=some ob∧AM.fp L n ob b o∧EA L t b o
 st:ts.all cr.stays=true→∀p∈lv,p.1∈new∨p.2=L p.1
 tg:∀L',(∀p∈lv,L' p.1=p.2)→∀t∈ts,CJ L L' s t
theorem EE.nil{I':Nat→Prop}:EE L s w I' [] [] [] [] [] :=
 ⟨rfl,rfl,fun _ _ _ _ _ h=>(by cases h),fun _ _ _ h=>(by cases h),fun _ _ h=>(by cases h),fun _ _ _ h=>(by cases h)⟩
theorem EE.append{I':Nat→Prop}{n1 n2 w1 w2:List Nm}{l1 l2:List (Nm×Value)}{o1 o2:List (Nm×Ob)}{t1 t2:List cr}(h:EE L s w I' n1 w1 l1 o1 t1) (g:EE L s w I' n2 w2 l2 o2 t2) :
  EE L s w I' (n1++n2) (w1++w2) (l1++l2) (o1++o2) (t1++t2):=by
 refine⟨by rw[List.map_append,h.nm,g.nm],by rw[List.map_append,h.om,g.om],fun L' A' hL hpt q hq=>?_,fun L' hL q hq b o hb=>?_,fun ht p hp=>?_,fun L' hL t ht=>?_⟩
 ·rcases List.mem_append.1 hq with hq|hq
  ·exact h.ro L' A' (fun p hp=>hL p (List.mem_append_left _ hp)) (fun t ht=>hpt t (List.mem_append_left _ ht)) q hq
  ·exact g.ro L' A' (fun p hp=>hL p (List.mem_append_right _ hp)) (fun t ht=>hpt t (List.mem_append_right _ ht)) q hq
 ·rcases List.mem_append.1 hq with hq|hq
  ·obtain⟨t,e1,e2⟩:=h.fp L' (fun p hp=>hL p (List.mem_append_left _ hp)) q hq b o hb
   exact⟨t,List.mem_append_left _ e1,e2⟩
  ·obtain⟨t,e1,e2⟩:=g.fp L' (fun p hp=>hL p (List.mem_append_right _ hp)) q hq b o hb
   exact⟨t,List.mem_append_right _ e1,e2⟩
 ·rw[List.all_append,Bool.and_eq_true]at ht
  rcases List.mem_append.1 hp with hp|hp
  ·exact(h.st ht.1 p hp).imp (List.mem_append_left _) id
  ·exact(g.st ht.2 p hp).imp (List.mem_append_right _) id
 ·rcases List.mem_append.1 ht with ht|ht
  ·exact h.tg L' (fun p hp=>hL p (List.mem_append_left _ hp)) t ht
  ·exact g.tg L' (fun p hp=>hL p (List.mem_append_right _ hp)) t ht
def SF (n:Nm) (p:PS) (u:Value):List (Nm×Value):=match p with
 | .o _ _=>[(n,u)]
 | .b _ _=>[(n,u)]
 | .k _ _ _=>[(n,u)]
 | .m _ _ _=>[(n,u)]
 |_=>[]
def NL (n:Nm) (p:PS):List Nm:=match p with
 | .o _ _=>[n]
 | .b _ _=>[n]
 | .k _ _ _=>[n]
 | .m _ _ _=>[n]
 |_=>[]
def JS (n:Nm) (p:PS):List Nm:=match p with
 | .o _ _=>[n]
 | .m _ _ _=>[n]
 |_=>[]
theorem GC (h:ce X L I s a w){n:Nm}{p:PS}{c:CV}{d:DV}{tag:cr}{u:Value}{I':Nat→Prop}(e:dS s.o n p c=some (d,tag)) (r:RC L I w (AL s.o) c u)
  (hI:∀b,I b→I' b) (hl:∀m∈tag.lent, ∀b,(L m).ownBlock=some b→I' b) :
  EE L s w I' (NL n p) (JS n p) (SF n p u) (C3 n p d) [tag]∧(∀L' A',(∀q∈SF n p u,L' q.1=q.2)→AK L L' [tag]→RC L' I' w A' (uB n p d) u):=by
 have hw:mV I w w:=fun _ _=>rfl
 have arr:∀{m:Nm}{q:Nat}{t:Ty}{xs:List t.den},s.o m=some (.arr q t xs)→L m=u→∀{tag:cr},tag.pair=[(n,m)]→(tag.stays=true→JS n p=[n]∨n=m)→(∀L',L' n=L m→CJ L L' s tag)→(∀b o,(L m).ownBlock=some b→EA L tag b o)→SF n p u=[(n,u)]→NL n p=[n]→C3 n p d=[(n, .arr q t xs)] →
   EE L s w I' (NL n p) (JS n p) (SF n p u) (C3 n p d) [tag]:=by
  intro m q t xs em eu tag ht hs htg htf h1 h2 h3
  rw[h1,h2,h3]
  refine⟨rfl,rfl,fun L' A' hL _ q' hq=>?_,fun L' hL q' hq b o hb=>?_,fun hst p' hp=>?_,fun L' hL t ht=>?_⟩
  ·obtain rfl:=List.mem_singleton.1 hq
   obtain⟨vs,g1,g2⟩:=h.obj m _ em
   refine⟨vs,?_,g2.mono hI hw⟩
   rw[hL _ (List.mem_singleton.2 rfl), ←eu]
   exact g1
  ·obtain rfl:=List.mem_singleton.1 hq
   have hb:(L' n).ownBlock=some b:=hb
   rw[hL _ (List.mem_singleton.2 rfl), ←eu]at hb
   exact⟨tag,List.mem_singleton.2 rfl,m,_,ht,em,hb,htf b o hb⟩
  ·obtain rfl:=List.mem_singleton.1 hp
   have hst:tag.stays=true:=by simp_all
   rcases hs hst with h5|h5
   ·exact .inl (by rw[h5];exact List.mem_singleton.2 rfl)
   ·exact .inr (by rw[←eu,h5])
  ·obtain rfl:=List.mem_singleton.1 ht
   exact htg L' (by rw[hL (n,u) (List.mem_singleton.2 rfl),eu])
 cases p with
 |i t =>
  have plain:(∀L',CJ L L' s tag)→EE L s w I' (NL n (.i t)) (JS n (.i t)) (SF n (.i t) u) (C3 n (.i t) d) [tag]:=fun ht =>
   ⟨rfl,rfl,fun _ _ _ _ _ q=>(by cases q),fun _ _ _ q=>(by cases q),fun _ _ q=>(by cases q),fun L' _ t q=>(List.mem_singleton.1 q)▸ht L'⟩
  have val:∀{x:t.den},c.as t=some x→d=⟨t,x⟩→∀L' A',RC L' I' w A' (uB n (.i t) d) u:=by
   intro x ec ed L' A'
   subst ed
   exact dD.mono hI hw t (oC ec r)
  simp only[dS]at e
  split at e
  ·rename_i m
   split at e
   ·rename_i v
    split at e
    ·rename_i xs eo
     obtain⟨rfl,rfl⟩:=Prod.mk.inj (Option.some.inj e)
     obtain⟨q,em,_⟩:=qi eo
     refine⟨plain (fun _=>⟨_,_,_,em⟩),fun L' A' _ _=>?_⟩
     obtain⟨_,_,_,_,r⟩:=r
     obtain⟨vs,g1,g2⟩:=h.obj m _ em
     show dD I' w (.sl v) xs [u]
     rw[←r]
     exact Ff g1 (g2.mono hI hw) (hl m (List.mem_singleton.2 rfl))
    ·cases e
   ·cases e
  ·split at e
   ·rename_i x ec
    obtain⟨rfl,rfl⟩:=Prod.mk.inj (Option.some.inj e)
    exact⟨plain (fun _=>trivial),fun L' A' _ _=>val ec rfl L' A'⟩
   ·cases e
 |o q t =>
  simp only[dS]at e
  split at e
  ·rename_i m
   split at e
   ·rename_i xs eo
    obtain⟨rfl,rfl⟩:=Prod.mk.inj (Option.some.inj e)
    obtain⟨q',em,eq⟩:=qi eo
    obtain rfl:=eq q rfl
    obtain⟨x1,x2,x3,x4,r⟩:=r
    refine⟨arr em r rfl (fun _ => .inl rfl) (fun _ _=>trivial) (fun _ _ q=>q) rfl rfl ?_,fun L' A' hL _=>⟨x1,x2,x3,x4,hL (n,u) (List.mem_singleton.2 rfl)⟩⟩
    simp[C3,xi,mE]
   ·cases e
  ·obtain⟨rfl,rfl⟩:=Prod.mk.inj (Option.some.inj e)
   obtain rfl:u = .slice none 0 0:=r
   have ho:C3 n (.o q t) ⟨.sl t,[]⟩=[(n, .arr q t [])]:=by simp[C3,xi,mE (t := .sl t) []]
   refine⟨?_,fun L' A' hL _=>⟨_,_,_,rfl,hL (n,_) (List.mem_singleton.2 rfl)⟩⟩
   rw[ho]
   refine⟨rfl,rfl,fun L' A' hL _ q' hq=>?_,fun L' hL q' hq b o hb=>?_,fun hst p' hp=>?_,fun L' hL t ht=>(List.mem_singleton.1 ht)▸trivial⟩
   ·obtain rfl:=List.mem_singleton.1 hq
    refine⟨[],?_,bZ.nil⟩
    rw[hL (n,_) (List.mem_singleton.2 rfl)]
    exact World.ownsRow_nil w 0 q t.sz
   ·obtain rfl:=List.mem_singleton.1 hq
    have hb:(L' n).ownBlock=some b:=hb
    rw[hL (n,_) (List.mem_singleton.2 rfl)]at hb
    cases hb
   ·obtain rfl:=List.mem_singleton.1 hp
    exact .inl (List.mem_singleton.2 rfl)
  ·cases e
 |b q t =>
  simp only[dS]at e
  split at e
  ·rename_i m
   split at e
   ·rename_i xs eo
    obtain⟨rfl,rfl⟩:=Prod.mk.inj (Option.some.inj e)
    obtain⟨q',em,eq⟩:=qi eo
    obtain rfl:=eq q rfl
    obtain⟨x1,x2,x3,x4,r⟩:=r
    refine⟨arr em r rfl (fun hs => .inr (bX.1 hs)) (fun _ q=>q) (fun _ _ q=>q) rfl rfl ?_,fun L' A' hL _=>⟨x1,x2,x3,x4,hL (n,u) (List.mem_singleton.2 rfl)⟩⟩
    simp[C3,xi,mE]
   ·cases e
  ·cases e
 |k mk q t =>
  simp only[dS]at e
  split at e
  ·rename_i m
   split at e
   ·rename_i xs eo
    obtain⟨rfl,rfl⟩:=Prod.mk.inj (Option.some.inj e)
    obtain⟨q',em,eq⟩:=qi eo
    obtain rfl:=eq q rfl
    obtain⟨x1,x2,x3,x4,r⟩:=r
    refine⟨arr em r rfl (fun hs => .inr (bX.1 hs)) (fun _ q=>q) (fun _ _ q=>q) rfl rfl ?_,fun L' A' hL _=>⟨x1,x2,x3,x4,hL (n,u) (List.mem_singleton.2 rfl)⟩⟩
    simp[C3,xi,mE]
   ·cases e
  ·cases e
 |q m0 off =>
  simp only[dS]at e
  split at e
  ·rename_i m k
   obtain⟨rfl,rfl⟩:=Prod.mk.inj (Option.some.inj e)
   refine⟨⟨rfl,rfl,fun _ _ _ _ _ q=>(by cases q),fun _ _ _ q=>(by cases q),fun _ _ q=>(by cases q),fun L' _ t q=>(List.mem_singleton.1 q)▸trivial⟩,fun L' A' _ hpt=>?_⟩
   obtain⟨b,o,o',g1,g2,g3⟩:=hpt _ (List.mem_singleton.2 rfl) ((m0,off),(m,k)) (List.mem_singleton.2 rfl)
   obtain⟨b',o2,r1,r2⟩:=r
   rw[r1]at g1
   injection g1 with g1;injection g1 with g1;injection g1 with g1 g1' _
   subst g1;subst g1'
   exact⟨_,_,g2,by rw[r2];exact congrArg (fun z=>Value.pointer (some ⟨b',z,none⟩)) g3⟩
  ·cases e
 |f g cs =>
  simp only[dS]at e
  split at e
  ·rename_i h' ds
   cases k:(Nat.beq g h'&&Nat.beq cs.length ds.length)with
   |false=>rw[k]at e;cases e
   |true =>
    rw[k]at e
    simp only[cond_true]at e
    obtain⟨rfl,rfl⟩:=Prod.mk.inj (Option.some.inj e)
    rw[Bool.and_eq_true]at k
    have k1:=Nat.eq_of_beq_eq_true k.1
    subst k1
    refine⟨⟨rfl,rfl,fun _ _ _ _ _ q=>(by cases q),fun _ _ _ q=>(by cases q),fun _ _ q=>(by cases q),fun L' _ t q=>(List.mem_singleton.1 q)▸trivial⟩,fun L' A' _ hpt=>?_⟩
    obtain⟨us,r1,r2⟩:=r
    exact⟨us,r1,Lw (Nat.eq_of_beq_eq_true k.2) (fun p hp=>hpt _ (List.mem_singleton.2 rfl) p hp) r2⟩
  ·cases e
 |e =>
  have plain:EE L s w I' (NL n .e) (JS n .e) (SF n .e u) (C3 n .e d) [tag]→EE L s w I' (NL n .e) (JS n .e) (SF n .e u) (C3 n .e d) [tag]:=fun q=>q
  simp only[dS]at e
  split at e
  ·rename_i b
   obtain⟨rfl,rfl⟩:=Prod.mk.inj (Option.some.inj e)
   refine⟨⟨rfl,rfl,fun _ _ _ _ _ q=>(by cases q),fun _ _ _ q=>(by cases q),fun _ _ q=>(by cases q),fun L' _ t q=>(List.mem_singleton.1 q)▸trivial⟩,fun L' A' _ _=>?_⟩
   simp only[uB,mE]
   exact r
  ·obtain⟨rfl,rfl⟩:=Prod.mk.inj (Option.some.inj e)
   refine⟨⟨rfl,rfl,fun _ _ _ _ _ q=>(by cases q),fun _ _ _ q=>(by cases q),fun _ _ q=>(by cases q),fun L' _ t q=>(List.mem_singleton.1 q)▸trivial⟩,fun L' A' _ _=>?_⟩
   simp only[uB,mE]
   exact r
  ·cases e
 |l =>
  simp only[dS]at e
  split at e
  ·rename_i k ek
   obtain⟨rfl,rfl⟩:=Prod.mk.inj (Option.some.inj e)
   refine⟨⟨rfl,rfl,fun _ _ _ _ _ q=>(by cases q),fun _ _ _ q=>(by cases q),fun _ _ q=>(by cases q),fun L' _ t q=>(List.mem_singleton.1 q)▸trivial⟩,fun L' A' _ _=>?_⟩
   simp only[uB,mE]
   show ∃a c,u = .slice a (Int.toNat (k:Int)) c
   rw[Int.toNat_natCast]
   unfold FE at ek
   split at ek
   ·rename_i m
    split at ek
    ·rename_i q t xs em
     obtain rfl:=Option.some.inj ek
     obtain⟨x1,x2,x3,rfl,r⟩:=r
     obtain⟨vs,g1,_⟩:=h.obj m _ em
     rcases g1.2 with⟨g,hn⟩|⟨b,cap,cur,g,_⟩
     ·rw[r]at g
      injection g with g g' g''
      exact⟨x1,x3,by rw[g',hn]⟩
     ·rw[r]at g
      injection g with g g' g''
      exact⟨x1,x3,by rw[g']⟩
    ·cases ek
   ·obtain rfl:=Option.some.inj ek
    obtain⟨a1,c1,css,q1,_⟩:=r
    exact⟨a1,c1,List.head_eq_of_cons_eq q1⟩
   ·obtain rfl:=Option.some.inj ek
    exact⟨none,0,r⟩
   ·obtain rfl:=Option.some.inj ek
    exact r
   ·cases ek
  ·cases e
 |m kt vt ka =>
  simp only[dS]at e
  split at e
  ·rename_i m'
   split at e
   ·rename_i xs eo
    obtain⟨rfl,rfl⟩:=Prod.mk.inj (Option.some.inj e)
    unfold Ur at eo
    split at eo
    ·rename_i k v a' kvs em
     cases q:(a'==ka)with
     |false=>rw[q]at eo;cases eo
     |true =>
      rw[q]at eo
      simp only[cond_true]at eo
      split at eo
      ·rename_i hty ety
       obtain rfl:=Option.some.inj eo
       injection hty with hty
       injection hty with hk hv
       subst hk;subst hv
       have ha:a'=ka:=by simp_all
       subst ha
       obtain⟨b,r1,r2⟩:=r
       have hmk:C3 n (.m k v a') ⟨.sl (.pr k v),Ty.cast (rfl:(Ty.sl (.pr k v)) = .sl (.pr k v)) kvs⟩=[(n, .mp k v a' kvs)]:=by
        show MO n k v a' _=_
        unfold MO
        rw[mE];rfl
       have hmk2:∀h:(Ty.sl (.pr k v)) = .sl (.pr k v),C3 n (.m k v a') ⟨.sl (.pr k v),Ty.cast h kvs⟩=[(n, .mp k v a' kvs)]:=fun _=>hmk
       rw[hmk2]
       refine⟨⟨rfl,rfl,fun L' A' hL _ q' hq=>?_,fun L' hL q' hq b' o hb=>?_,fun hst p' hp=>?_,fun L' hL t ht=>(List.mem_singleton.1 ht)▸trivial⟩,fun L' A' hL _=>⟨b,r1,hL (n,u) (List.mem_singleton.2 rfl)⟩⟩
       ·obtain rfl:=List.mem_singleton.1 hq
        obtain⟨b2,es,g1,g2⟩:=h.obj m' _ em
        exact⟨b2,es,by rw[hL (n,u) (List.mem_singleton.2 rfl), ←r2];exact g1,g2⟩
       ·obtain rfl:=List.mem_singleton.1 hq
        have hb:L' n = .map (some b'):=hb
        rw[hL (n,u) (List.mem_singleton.2 rfl), ←r2]at hb
        exact⟨_,List.mem_singleton.2 rfl,m',_,rfl,em,hb,hb⟩
       ·obtain rfl:=List.mem_singleton.1 hp
        exact .inl (List.mem_singleton.2 rfl)
      ·cases eo
    ·cases eo
   ·cases e
  ·cases e
theorem sJ (nm:Nat→PS→Nm) (k:Nat) (p:PS) (ps:List PS):iI nm k (p::ps)=NL (nm k p) p++iI nm (k+1) ps:=by cases p<;>rfl
theorem Ju (nm:Nat→PS→Nm) (k:Nat) (p:PS) (ps:List PS):ut nm k (p::ps)=JS (nm k p) p++ut nm (k+1) ps:=by cases p<;>rfl
theorem sK{o:Nm→Option Ob}{nm:Nat→PS→Nm}:∀{ps:List PS}{cs:List CV}{k:Nat}{ds:List DV}{ts:List cr},gi o nm k ps cs=some (ds,ts)→ds.length=ps.length∧cs.length=ps.length
 |[],[],_,_,_,e=>by simp_all [gi]
 |[],_::_,_,_,_,e=>by cases e
 |_::_,[],_,_,_,e=>by cases e
 |p::ps,c::cs,k,_,_,e=>by
  simp only[gi]at e
  split at e
  ·rename_i d t ds ts e1 e2
   obtain⟨rfl,rfl⟩:=Prod.mk.inj (Option.some.inj e)
   obtain⟨g1,g2⟩:=sK e2
   exact⟨by simp[g1],by simp[g2]⟩
  ·cases e
theorem pD (h:ce X L I s a w){nm:Nat→PS→Nm}{I':Nat→Prop}(hI:∀b,I b→I' b):∀{ps:List PS}{cs:List CV}{k:Nat}{ds:List DV}{ts:List cr}{us:List Value},gi s.o nm k ps cs=some (ds,ts) →
  aK (RC L I w (AL s.o)) cs us→(∀m∈ts.flatMap cr.lent, ∀b,(L m).ownBlock=some b→I' b) →
  ∃lv,EE L s w I' (iI nm k ps) (ut nm k ps) lv (yZ nm k ps ds) ts∧(∀L' A',(∀q∈lv,L' q.1=q.2)→AK L L' ts→aK (RC L' I' w A') (jq nm k ps ds) us)
 |[],[],_,_,_,us,e,r,_=>by
  obtain⟨rfl,rfl⟩:=Prod.mk.inj (Option.some.inj e)
  cases us with
  |nil=>exact⟨[],EE.nil,fun _ _ _ _=>trivial⟩
  |cons _ _=>exact r.elim
 |[],_::_,_,_,_,_,e,_,_=>by cases e
 |_::_,[],_,_,_,_,e,_,_=>by cases e
 |p::ps,c::cs,k,_,_,us,e,r,hl=>by
  simp only[gi]at e
  split at e
  ·rename_i d t ds ts e1 e2
   obtain⟨rfl,rfl⟩:=Prod.mk.inj (Option.some.inj e)
   cases us with
   |nil=>exact r.elim
   |cons u us =>
    obtain⟨r1,r2⟩:=r
    rw[List.flatMap_cons]at hl
    obtain⟨g1,g2⟩:=GC h e1 r1 hI (fun m hm=>hl m (List.mem_append_left _ hm))
    obtain⟨lv,g3,g4⟩:=pD h hI e2 r2 (fun m hm=>hl m (List.mem_append_right _ hm))
    refine⟨SF (nm k p) p u++lv,?_,fun L' A' hL hpt=>⟨g2 L' A' (fun q hq=>hL q (List.mem_append_left _ hq)) (fun t ht=>hpt t ((List.mem_singleton.1 ht)▸List.mem_cons_self ..)),g4 L' A' (fun q hq=>hL q (List.mem_append_right _ hq)) (fun t ht=>hpt t (List.mem_cons_of_mem _ ht))⟩⟩
    rw[sJ,Ju]
    exact g1.append g3
  ·cases e
end
section
variable{X:t7}{L:Nm→Value}{I:Nat→Prop}{s:St}{a:Act}{w:World}
theorem Ay (nm:Nat→PS→Nm):∀(k:Nat) (ps:List PS) (ds:List DV),ds.length=ps.length→(jq nm k ps ds).length=ps.length
 |_,[],[],_=>rfl
 |_,[],_::_,h=>by cases h
 |_,_::_,[],h=>by cases h
 |k,p::ps,d::ds,h=>by
  show(jq nm (k+1) ps ds).length+1=_
  rw[Ay nm (k+1) ps ds (by simpa using h)];rfl
theorem sm.part{b off:Nat}{vs:List Value}(h:sm w b off vs) (k n:Nat) (hk:k+n≤vs.length):sm w b (off+k) ((vs.drop k).take n):=by
 obtain⟨c,T,fz,h1,hz,h2,h3⟩:=h
 refine⟨c,T,fz,h1,fun hp=>hz (by rw[List.length_take,List.length_drop]at hp;omega),?_,fun j u hu=>?_⟩
 ·grind
 ·grind
theorem yQ (h:ce X L I s a w){m:Nm}{off len:Nat}{cs:List CV}{u:Value}(em:s.o m=some (.box cs)) (r:RC L I w (AL s.o) (.pb m off) u) (hl:off+len≤cs.length) :
  ∃b o us,u = .pointer (some ⟨b,o+off,none⟩)∧L m = .pointer (some ⟨b,o,none⟩)∧aK (RC L I w (AL s.o)) ((cs.drop off).take len) us∧us.length=len∧sm w b (o+off) us ∧
   ∀j,o+off≤j→j<o+off+len→fp L m (.box cs) b j:=by
 obtain⟨b,o,h1,rfl⟩:=r
 obtain⟨b',o',vs,h2,h3,h4⟩:=h.obj m _ em
 rw[h1]at h2
 injection h2 with h2;injection h2 with h2;injection h2 with h2 h2' _
 subst h2;subst h2'
 have hl2:=h3.len
 refine⟨b,o,(vs.drop off).take len,rfl,h1,(h3.drop off).take len,?_,h4.part off len (by omega),fun j g1 g2=>⟨o,h1,by omega,by omega⟩⟩
 rw[List.length_take,List.length_drop];omega
theorem Mo (h:ce X L I s a w){m:Nm}{sz i j len e:Nat}{t:Ty}{xs:List t.den}{u:Value}(em:s.o m=some (.arr e t xs)) (r:RC L I w (AL s.o) (.pa m sz i j) u) (hl:j+len≤t.sz) :
  ∃b o us,u = .pointer (some ⟨b,o,none⟩)∧aK (RC L I w (AL s.o)) (((split t (xs.getD i t.zero)).drop j).take len) us∧us.length=len∧sm w b o us ∧
   (∀k,fp L m (.arr e t xs) b k)∧i<xs.length∧o=i*t.sz+j∧∃l c,L m = .slice (some ⟨b,0,none⟩) l c:=by
 obtain⟨b,ln,cap,h1,h2,h3,rfl⟩:=r
 have hA:(t.sz,xs.length)=(sz,ln):=by
  simp_all [AL]
 obtain⟨rfl,rfl⟩:=Prod.mk.inj hA
 obtain⟨vs,⟨k1,k2⟩,k3⟩:=h.obj m _ em
 rcases k2 with⟨k2,_⟩|⟨g,cap',cur,k2,_,k4,k5,k6,k7,k8⟩
 ·rw[k2]at h1;cases h1
 ·have hL:=k2
  rw[h1]at k2
  injection k2 with k2 _ k2';injection k2 with k2;injection k2 with k2 _ _
  subst k2;subst k2'
  obtain⟨A,cs,B,rfl,hA1,hcs,_⟩:=k3.at i h3
  have hcl:=dD.len t hcs
  have hvl:(A++cs++B).length=xs.length*t.sz:=k1
  have hal:A.length+cs.length+B.length=xs.length*t.sz:=by grind
  have hcz:xs.length*t.sz≤cur.size:=by grind
  have hlen:((cs.drop j).take len).length=len:=by rw[List.length_take,List.length_drop];omega
  refine⟨b,i*t.sz+j,(cs.drop j).take len,rfl,((iD t hcs).drop j).take len,hlen,⟨cur,e,_,k4,fun _=>rfl,by omega,fun q v hq=>?_⟩,fun o=>?_,h3,rfl,_,_,h1⟩
  ·rw[List.getElem?_take]at hq
   split at hq
   ·rw[List.getElem?_drop]at hq
    have hj:j+q<cs.length:=by omega
    have:(cur.toList.take (xs.length*t.sz))[i*t.sz+j+q]?=some v:=by
     rw[k8,List.append_assoc,List.getElem?_append_right (by omega),List.getElem?_append_left (by omega)]
     rw[show i*t.sz+j+q-A.length=j+q by omega]
     exact hq
    rw[List.getElem?_take]at this
    split at this
    ·simpa using this
    ·cases this
   ·cases hq
  ·show(L m).ownBlock=some b
   rw[hL];rfl
theorem IG (h:ce X L I s a w){I':Nat→Prop}(hI:∀b,I b→I' b){en:En}{v:AV}{ds:List DV}{ts:List cr}{u:Value}(e:mA s.o en v=some (ds,ts)) (r:RA L I w (AL s.o) v u)
  (hl:∀m∈ts.flatMap cr.lent, ∀b,(L m).ownBlock=some b→I' b) :
  ds.length=en.cells.length∧∃lv,EE L s w I' en.names en.new lv (mkB en ds) ts ∧
   (∀L' A',(∀q∈lv,L' q.1=q.2)→AK L L' ts→(∀i n k,en = .ptr i n k→L' n=L n)→RA L' I' w A' (Uj en ds) u):=by
 have box:∀{i:Nat}{n m:Nm}{ps:List PS}{cs:List CV}{ds:List DV}{ts:List cr}{tag:cr}{ob:Ob}{b o:Nat}{us:List Value},gi s.o (kA n) 0 ps cs=some (ds,ts)→aK (RC L I w (AL s.o)) cs us →
   (∀m∈ts.flatMap cr.lent, ∀b,(L m).ownBlock=some b→I' b)→us.length=ps.length→sm w b o us→s.o m=some ob→(∀j,o≤j→j<o+ps.length→fp L m ob b j)→tag.pair=[(n,m)]→(∀L',L' n = .pointer (some ⟨b,o,none⟩)→CJ L L' s tag)→(∀j,o≤j→j<o+ps.length→EA L tag b j) →
   ∀{new:List Nm},(∀x∈(En.box i n ps).new,x∈new)→(tag.stays=true→n∈new∨L n = .pointer (some ⟨b,o,none⟩)) →
   ds.length=ps.length∧∃lv,EE L s w I' (En.box i n ps).names new lv (mkB (.box i n ps) ds) (tag::ts) ∧
    (∀L' A',(∀q∈lv,L' q.1=q.2)→RA L' I' w A' (Uj (.box i n ps) ds) (.pointer (some ⟨b,o,none⟩))):=by
  intro i n m ps cs ds ts tag ob b o us e r hl hul hb em hf ht htg htf new hnew hst
  obtain⟨lv,g1,g2⟩:=pD h hI e r hl
  have hdl:=(sK e).1
  refine⟨hdl,(n, .pointer (some ⟨b,o,none⟩))::lv,?_,fun L' A' hL=>⟨b,o,hL _ (List.mem_cons_self ..),rfl⟩⟩
  have hc:=Ay (kA n) 0 ps ds hdl
  refine⟨by show _::lv.map Prod.fst=_;rw[g1.nm];rfl,by show _::(yZ (kA n) 0 ps ds).map Prod.fst=_;rw[g1.om];rfl,fun L' A' hL hpt q hq=>?_,fun L' hL q hq b' o' hb'=>?_,fun hst' p hp=>?_,fun L' hL t ht'=>?_⟩
  ·have hpt':AK L L' ts:=fun t ht=>hpt t (List.mem_cons_of_mem _ ht)
   rcases List.mem_cons.1 hq with rfl|hq
   ·exact⟨b,o,us,hL _ (List.mem_cons_self ..),g2 L' A' (fun q hq=>hL q (List.mem_cons_of_mem _ hq)) hpt',hb⟩
   ·exact g1.ro L' A' (fun p hp=>hL p (List.mem_cons_of_mem _ hp)) hpt' q hq
  ·rcases List.mem_cons.1 hq with rfl|hq
   ·obtain⟨o2,q1,q2,q3⟩:=hb'
    have q0:L' n = .pointer (some ⟨b,o,none⟩):=hL _ (List.mem_cons_self ..)
    rw[show(n,Ob.box (jq (kA n) 0 ps ds)).1=n from rfl,q0]at q1
    injection q1 with q1;injection q1 with q1;injection q1 with q1 q1' _
    subst q1;subst q1'
    rw[hc]at q3
    exact⟨tag,List.mem_cons_self ..,m,ob,ht,em,hf o' q2 q3,htf o' q2 q3⟩
   ·obtain⟨t,e1,e2⟩:=g1.fp L' (fun p hp=>hL p (List.mem_cons_of_mem _ hp)) q hq b' o' hb'
    exact⟨t,List.mem_cons_of_mem _ e1,e2⟩
  ·rw[List.all_cons,Bool.and_eq_true]at hst'
   rcases List.mem_cons.1 hp with rfl|hp
   ·exact(hst hst'.1).imp id Eq.symm
   ·exact(g1.st hst'.2 p hp).imp (hnew _) id
  ·rcases List.mem_cons.1 ht' with rfl|ht'
   ·exact htg L' (hL (n,_) (List.mem_cons_self ..))
   ·exact g1.tg L' (fun p hp=>hL p (List.mem_cons_of_mem _ hp)) t ht'
 cases en with
 |val i p =>
  cases v with
  |c x =>
   have e:gi s.o (wC i) 0 [p] [x]=some (ds,ts):=e
   obtain⟨lv,g1,g2⟩:=pD h hI (us:=[u]) e ⟨r,trivial⟩ hl
   have hdl:=(sK e).1
   refine⟨hdl,lv,g1,fun L' A' hL hpt _=>?_⟩
   have:=g2 L' A' hL hpt
   cases ds with
   |nil=>cases hdl
   |cons d ds=>exact this.1
  |g _=>cases e
  |tup _=>cases e
 |agg i ps =>
  cases v with
  |g cs =>
   have e:gi s.o (wC i) 0 ps cs=some (ds,ts):=e
   obtain⟨vs,rfl,r⟩:=r
   obtain⟨lv,g1,g2⟩:=pD h hI e r hl
   exact⟨(sK e).1,lv,g1,fun L' A' hL hpt _=>⟨vs,rfl,g2 L' A' hL hpt⟩⟩
  |c _=>cases e
  |tup _=>cases e
 |box i n ps =>
  cases v with
  |c x =>
   cases x with
   |pb m off =>
    simp only[mA]at e
    split at e
    ·rename_i cs em
     cases k:(Nat.ble (off+ps.length) cs.length&&(Nat.blt 0 ps.length&&QU ps))with
     |false=>rw[k]at e;cases e
     |true =>
      rw[k]at e
      simp only[cond_true]at e
      rw[Bool.and_eq_true]at k
      split at e
      ·rename_i ds' ts' e1
       obtain⟨rfl,rfl⟩:=Prod.mk.inj (Option.some.inj e)
       obtain⟨b,o,us,rfl,q1,q2,q3,q4,q5⟩:=yQ h em r (Nat.le_of_ble_eq_true k.1)
       obtain⟨g0,lv,g1,g2⟩:=box (i:=i) e1 q2 (fun m hm=>hl m hm) q3 q4 em q5 (tag := .pb n m off ps.length) rfl (fun L' q=>⟨b,o,cs,em,Nat.le_of_ble_eq_true k.1,Nat.le_of_ble_eq_true (Bool.and_eq_true_iff.1 k.2).1,q1,q⟩) (fun j p1 p2=>⟨o,q1,p1,p2⟩) (fun _ q=>q) (fun hs=>by
        simp only[cr.stays,Bool.and_eq_true]at hs
        exact .inr (by rw[bX.1 hs.1,q1,Nat.eq_of_beq_eq_true hs.2];rfl))
       exact⟨g0,lv,g1,fun L' A' hL _ _=>g2 L' A' hL⟩
      ·cases e
    ·cases e
   |pa m sz k j =>
    simp only[mA]at e
    split at e
    ·rename_i q t xs em
     cases k2:(Nat.ble (j+ps.length) t.sz&&(Nat.blt 0 ps.length&&UO ps))with
     |false=>rw[k2]at e;cases e
     |true =>
      rw[k2]at e
      simp only[cond_true]at e
      rw[Bool.and_eq_true]at k2
      split at e
      ·rename_i ds' ts' e1
       obtain⟨rfl,rfl⟩:=Prod.mk.inj (Option.some.inj e)
       obtain⟨b,o,us,rfl,q2,q3,q4,q5,q6,rfl,l,c,q7⟩:=Mo h em r (Nat.le_of_ble_eq_true k2.1)
       obtain⟨g0,lv,g1,g2⟩:=box (i:=i) e1 q2 (fun m hm=>hl m hm) q3 q4 em (fun j _ _=>q5 j) (tag := .pa n m k j ps.length) rfl (fun L' q8=>⟨b,q,t,xs,l,c,em,Nat.le_of_ble_eq_true k2.1,Nat.le_of_ble_eq_true (Bool.and_eq_true_iff.1 k2.2).1,q6,q7,q8⟩) (fun _ _ _=>q5 0) (fun _ q=>q) (fun hs=>by cases hs)
       exact⟨g0,lv,g1,fun L' A' hL _ _=>g2 L' A' hL⟩
      ·cases e
    ·cases e
   |_=>cases e
  |g _=>cases e
  |tup _=>cases e
 |ptr i n off =>
  cases v with
  |c x =>
   cases x with
   |pb m k =>
    simp only[mA]at e
    cases k2:(Nm.eqb m n&&Nat.beq k off)with
    |false=>rw[k2]at e;cases e
    |true =>
     rw[k2]at e
     obtain⟨rfl,rfl⟩:=Prod.mk.inj (Option.some.inj e)
     rw[Bool.and_eq_true]at k2
     have h1:=bX.1 k2.1
     have h2:=Nat.eq_of_beq_eq_true k2.2
     subst h1;subst h2
     refine⟨rfl,[],EE.nil,fun L' A' _ _ hp=>?_⟩
     obtain⟨b,o,r1,r2⟩:=r
     exact⟨b,o,by rw[hp i m k rfl];exact r1,r2⟩
   |_=>cases e
  |g _=>cases e
  |tup _=>cases e
 |nbox i n ps =>
  cases v with
  |c x =>
   cases x with
   |pb m off =>
    cases off with
    |succ _=>cases e
    |zero =>
    simp only[mA]at e
    split at e
    ·rename_i cs em
     cases k:(Nat.beq ps.length cs.length&&(Nat.blt 0 ps.length&&QU ps))with
     |false=>rw[k]at e;cases e
     |true =>
      rw[k]at e
      simp only[cond_true]at e
      rw[Bool.and_eq_true]at k
      have kl:=Nat.eq_of_beq_eq_true k.1
      split at e
      ·rename_i ds' ts' e1
       obtain⟨rfl,rfl⟩:=Prod.mk.inj (Option.some.inj e)
       obtain⟨b,o,us,rfl,q1,q2,q3,q4,q5⟩:=yQ h (len:=cs.length) em r (by omega)
       rw[List.drop_zero,List.take_length]at q2
       obtain⟨g0,lv,g1,g2⟩:=box (i:=i) e1 q2 (fun m hm=>hl m hm) (by rw[q3,kl]) q4 em (fun j z1 z2=>q5 j z1 (by rw[←kl];exact z2)) (tag := .mx n m ps.length) rfl (fun L' q=>⟨b,o,cs,em,by omega,Nat.le_of_ble_eq_true (Bool.and_eq_true_iff.1 k.2).1,q1,q⟩) (fun j p1 p2=>⟨o,q1,p1,p2⟩) (new:=En.new (.nbox i n ps)) (fun _ q=>List.mem_cons_of_mem _ q) (fun _ => .inl (List.mem_cons_self ..))
       exact⟨g0,lv,g1,fun L' A' hL _ _=>g2 L' A' hL⟩
      ·cases e
    ·cases e
   |_=>cases e
  |g _=>cases e
  |tup _=>cases e
 |hid n ps =>
  have e:(match s.o n with
   |some (.box cs)=>bif Nat.beq ps.length cs.length&&(Nat.blt 0 ps.length&&QU ps)then(match gi s.o (kA n) 0 ps cs with
    |some (ds,ts)=>some (ds,cr.pb n n 0 ps.length::ts)
    |none=>none)else none
   |_=>none)=some (ds,ts):=by trivial
  split at e
  ·rename_i cs em
   cases k:(Nat.beq ps.length cs.length&&(Nat.blt 0 ps.length&&QU ps))with
   |false=>rw[k]at e;cases e
   |true =>
    rw[k]at e
    simp only[cond_true]at e
    rw[Bool.and_eq_true]at k
    have kl:=Nat.eq_of_beq_eq_true k.1
    split at e
    ·rename_i ds' ts' e1
     obtain⟨rfl,rfl⟩:=Prod.mk.inj (Option.some.inj e)
     obtain⟨b0,o0,vs0,hb0,_,_⟩:=h.obj n _ em
     obtain⟨b,o,us,_,q1,q2,q3,q4,q5⟩:=yQ h (u := .pointer (some ⟨b0,o0+0,none⟩)) (len:=cs.length) em ⟨b0,o0,hb0,rfl⟩ (by omega)
     rw[List.drop_zero,List.take_length]at q2
     obtain⟨g0,lv,g1,g2⟩:=box (i:=0) e1 q2 (fun m hm=>hl m hm) (by rw[q3,kl]) q4 em (fun j z1 z2=>q5 j z1 (by rw[←kl];exact z2)) (tag := .pb n n 0 ps.length) rfl (fun L' q=>⟨b,o,cs,em,by omega,Nat.le_of_ble_eq_true (Bool.and_eq_true_iff.1 k.2).1,q1,q⟩) (fun j p1 p2=>⟨o,q1,p1,p2⟩) (new:=En.new (.hid n ps)) (fun _ q=>q) (fun _ => .inr q1)
     exact⟨g0,lv,g1,fun L' A' hL _ _=>trivial⟩
    ·cases e
  ·cases e
 |no i =>
  have e:some ([],[])=some (ds,ts):=by trivial
  obtain⟨rfl,rfl⟩:=Prod.mk.inj (Option.some.inj e)
  exact⟨rfl,[],EE.nil,fun L' A' _ _ _=>trivial⟩
theorem AA (h:ce X L I s a w){I':Nat→Prop}(hI:∀b,I b→I' b):∀{es:List En}{vs:List AV}{ds:List DV}{ts:List cr}{us:List Value},kB s.o es vs=some (ds,ts)→aK (RA L I w (AL s.o)) vs us →
  (∀m∈ts.flatMap cr.lent, ∀b,(L m).ownBlock=some b→I' b) →
  ∃lv,EE L s w I' (es.flatMap En.names) (es.flatMap En.new) lv (g9 es ds) ts ∧
   (∀L' A',(∀q∈lv,L' q.1=q.2)→AK L L' ts→(∀i n k,En.ptr i n k∈es→L' n=L n)→aK (fun(p:Nat×AV) u=>RA L' I' w A' p.2 u) (dB es ds) us)
 |[],[],_,_,us,e,r,_=>by
  obtain⟨rfl,rfl⟩:=Prod.mk.inj (Option.some.inj e)
  cases us with
  |nil=>exact⟨[],EE.nil,fun _ _ _ _ _=>trivial⟩
  |cons _ _=>exact r.elim
 |[],_::_,_,_,_,e,_,_=>by cases e
 |_::_,[],_,_,_,e,_,_=>by cases e
 |en::es,v::vs,_,_,us,e,r,hl=>by
  simp only[kB]at e
  split at e
  ·rename_i d t ds ts e1 e2
   obtain⟨rfl,rfl⟩:=Prod.mk.inj (Option.some.inj e)
   cases us with
   |nil=>exact r.elim
   |cons u us =>
    obtain⟨r1,r2⟩:=r
    rw[List.flatMap_append]at hl
    obtain⟨g0,l1,g1,g2⟩:=IG h hI e1 r1 (fun m hm=>hl m (List.mem_append_left _ hm))
    obtain⟨l2,g3,g4⟩:=AA h hI e2 r2 (fun m hm=>hl m (List.mem_append_right _ hm))
    refine⟨l1++l2,?_,fun L' A' hL hpt hp=>⟨?_,?_⟩⟩
    ·show EE L s w I' (en.names++es.flatMap En.names) (en.new++es.flatMap En.new) _ (mkB en ((d++ds).take en.cells.length)++g9 es ((d++ds).drop en.cells.length)) _
     rw[←g0,List.take_left,List.drop_left]
     exact g1.append g3
    ·show RA L' I' w A' (Uj en ((d++ds).take en.cells.length)) u
     rw[←g0,List.take_left]
     exact g2 L' A' (fun q hq=>hL q (List.mem_append_left _ hq)) (fun t ht=>hpt t (List.mem_append_left _ ht)) (fun i n k q=>hp i n k (q▸List.mem_cons_self ..))
    ·show aK (fun(p:Nat×AV) u=>RA L' I' w A' p.2 u) (dB es ((d++ds).drop en.cells.length)) us
     rw[←g0,List.drop_left]
     exact g4 L' A' (fun q hq=>hL q (List.mem_append_right _ hq)) (fun t ht=>hpt t (List.mem_append_right _ ht)) (fun i n k q=>hp i n k (List.mem_cons_of_mem _ q))
  ·cases e
def uC (l:List (Nm×Value)) (L:Nm→Value) (n:Nm):Value:=match l with
 |[]=>L n
 |p::r=>bif Nm.eqb p.1 n then p.2 else uC r L n
theorem DZ{L:Nm→Value}:∀{l:List (Nm×Value)},(l.map Prod.fst).Nodup→∀p∈l,uC l L p.1=p.2
 |[],_,_,h=>by cases h
 |q::l,hn,p,h=>by
  rw[List.map_cons,List.nodup_cons]at hn
  unfold uC
  rcases List.mem_cons.1 h with rfl|h
  ·rw[rV];rfl
  ·have:q.1≠p.1:=fun e=>hn.1 (e▸List.mem_map.2 ⟨p,h,rfl⟩)
   rw[bi.2 this]
   exact DZ hn.2 p h
theorem DY{L:Nm→Value}{n:Nm}:∀{l:List (Nm×Value)},n∉l.map Prod.fst→uC l L n=L n
 |[],_=>rfl
 |q::l,h=>by
  rw[List.map_cons,List.mem_cons]at h
  have:q.1≠n:=fun e=>h (.inl e.symm)
  unfold uC
  rw[bi.2 this]
  exact DY fun e=>h (.inr e)
theorem pP{n:Nm}{ob:Ob}:∀{l:List (Nm×Ob)},bm l n=some ob→(n,ob)∈l
 |[],h=>by cases h
 |q::l,h=>by
  unfold bm at h
  cases e:Nm.eqb q.1 n with
  |true =>
   grind [bX]
  |false=>rw[e]at h;exact List.mem_cons_of_mem _ (pP h)
theorem Be (l:List (Nat×AV)) (i:Nat):(∃p∈l,p.1=i∧d7 l i=p.2)∨((∀p∈l,p.1≠i)∧d7 l i = .c .dead):=by
 induction l with
 |nil=>simp_all [d7]
 |cons q l ih =>
  unfold d7
  cases e:Nat.beq q.1 i with
  |true=>simp_all
  |false =>
   rcases ih with⟨p,h1,h2⟩|⟨h1,h2⟩
   ·grind
   ·refine .inr ⟨fun p hp=>?_,h2⟩
    rcases List.mem_cons.1 hp with rfl|hp
    ·exact Nat.ne_of_beq_eq_false e
    ·grind
theorem DD:∀{l:List (Nm×Nm)},(l.map Prod.snd).Nodup→∀{a b n:Nm},(a,n)∈l→(b,n)∈l→a=b
 |[],_,_,_,_,h,_=>by cases h
 |q::l,hn,a,b,n,h,g=>by
  rw[List.map_cons,List.nodup_cons]at hn
  rcases List.mem_cons.1 h with h1|h1
  ·grind
  ·rcases List.mem_cons.1 g with g1|g1
   ·grind
   ·exact DD hn.2 h1 g1
theorem BZ:∀{es:List En}{ds:List DV}{p:Nat×AV},p∈dB es ds→∃e∈es,p.1=e.slot
 |[],_,_,h=>by cases h
 |e::es,ds,p,h=>by
  rcases List.mem_cons.1 h with rfl|h
  ·simp_all
  ·obtain⟨e',h1,h2⟩:=BZ h
   exact⟨e',List.mem_cons_of_mem _ h1,h2⟩
theorem aK.mem {α β:Type}{R:α→β→Prop}:∀{as:List α}{bs:List β},aK R as bs→∀{a:α},a∈as→∃(i:Nat) (b:β),as[i]?=some a∧bs[i]?=some b∧R a b
 |[],_,_,_,h=>by cases h
 |x::as,[],h,_,_=>h.elim
 |x::as,y::bs,⟨h1,h2⟩,a,h=>by
  rcases List.mem_cons.1 h with rfl|h
  ·exact⟨0,y,rfl,rfl,h1⟩
  ·obtain⟨i,b,g1,g2,g3⟩:=aK.mem h2 h
   exact⟨i+1,b,g1,g2,g3⟩
theorem Ia:∀{es:List En}{ds:List DV}{i:Nat}{p:Nat×AV},(dB es ds)[i]?=some p→∃e,es[i]?=some e∧p.1=e.slot
 |[],_,_,_,h=>by cases h
 |e::es,ds,0,p,h=>by grind [dB,En.slot]
 |e::es,ds,i+1,p,h=>Ia (es:=es) (ds:=ds.drop e.cells.length) (i:=i) h
theorem k9{m:Nm}:∀{ts:List cr},js m ts = .no∨(js m ts∈ts∧(js m ts).new=some m)
 |[] => .inl rfl
 |t::r=>by
  unfold js
  cases e:t.new with
  |none =>
   dsimp only
   rcases k9 (m:=m) (ts:=r)with h|⟨h1,h2⟩
   ·exact .inl h
   ·simp_all
  |some k =>
   dsimp only
   cases e2:Nm.eqb k m with
   |true=>simp_all [bX]
   |false =>
    rcases k9 (m:=m) (ts:=r)with h|⟨h1,h2⟩
    ·exact .inl h
    ·simp_all
theorem TS{L':Nm→Value}{ts:List cr}(ht:(ts.flatMap cr.pts).all (TT ts)=true) (htg:∀t∈ts,CJ L L' s t):AK L L' ts:=by
 intro t h1 p hp
 rw[List.all_eq_true]at ht
 have k:=ht p (List.mem_flatMap.2 ⟨t,h1,hp⟩)
 unfold TT at k
 have fs:=k9 (m:=p.1.1) (ts:=ts)
 split at k
 ·rename_i k0 m off len e
  rw[Bool.and_eq_true]at k
  rw[e]at fs
  rcases fs with fs|⟨f1,f2⟩
  ·cases fs
  ·obtain⟨b,o,cs,_,_,_,g1,g2⟩:=htg _ f1
   have:k0=p.1.1:=Option.some.inj f2
   rw[this]at g2
   have k1:=bX.1 k.1
   subst k1
   exact⟨b,o,_,g1,g2,by have:=Nat.eq_of_beq_eq_true k.2;omega⟩
 ·rename_i k0 m len e
  rw[Bool.and_eq_true]at k
  rw[e]at fs
  rcases fs with fs|⟨f1,f2⟩
  ·cases fs
  ·obtain⟨b,o,cs,_,_,_,g1,g2⟩:=htg _ f1
   have:k0=p.1.1:=Option.some.inj f2
   rw[this]at g2
   have k1:=bX.1 k.1
   subst k1
   exact⟨b,o,_,g1,g2,by have:=Nat.eq_of_beq_eq_true k.2;omega⟩
 ·cases k
theorem ce.reshape (h:ce X L I s a w){I':Nat→Prop}(hI:∀b,I b→I' b){N:Nat}{es:List En}{vs:List AV}{ds:List DV}{ts:List cr}{us:List Value}(e:kB s.o es vs=some (ds,ts)) (r:aK (RA L I w (AL s.o)) vs us)
  (hl:∀b,I' b↔I b∨∃m∈ts.flatMap cr.lent,(L m).ownBlock=some b)
  (hs:ld N es=true) (ht:ll ts=true){Y:t7}(hK:Y.K=X.K) (hN:Y.N=N){a':Act}(ha:a'.defers=[]) (hz:a'.tmps.size=N) (hu:∀(i:Nat) (e:En) (u:Value),es[i]?=some e→us[i]?=some u→a'.tmps.getD e.slot undef=u)
  (hown:∀t n ob b o,t∈ts→(∃m,t.pair=[(m,n)])→s.o n=some ob→fp L n ob b o→EA L t b o→b<Y.w0.heap.size→Y.E b o)
  (himm:∀b,I' b→Y.I0 b∨Y.w0.heap.size≤b∨∀o,Y.E b o) (hsub:∀b,Y.I0 b→I' b) (hstep:bY Y.E Y.w0 w)
  (hptr:ts.all cr.stays=true∨∀i n k,En.ptr i n k∉es) :
  ∃L',ce Y L' I' (ML es ds) a' w∧(ts.all cr.stays=true→∀n,ju n=true→L' n=L n)∧(∀t∈ts,CJ L L' s t):=by
 unfold ld at hs
 rw[Bool.and_eq_true,Bool.and_eq_true,nB,List.all_eq_true,List.all_eq_true]at hs
 obtain⟨hs1,hs2,hs3⟩:=hs
 unfold ll at ht
 rw[Bool.and_eq_true,Bool.and_eq_true,nB,CG]at ht
 obtain⟨ht1,ht2,ht3⟩:=ht
 obtain⟨lv,g,gv⟩:=AA h hI e r (fun m hm b hb=>(hl b).2 (.inr ⟨m,hm,hb⟩))
 have hnd:(lv.map Prod.fst).Nodup:=by rw[g.nm];exact hs1
 have hL:∀p∈lv,uC lv L p.1=p.2:=DZ hnd
 have same:ts.all cr.stays=true→∀n,n∉es.flatMap En.new→uC lv L n=L n:=by
  intro hst n hn
  by_cases q:n∈lv.map Prod.fst
  ·obtain⟨p,hp,rfl⟩:=List.mem_map.1 q
   rcases g.st hst p hp with q1|q1
   ·trivial
   ·grind
  ·exact DY q
 have htg:=g.tg _ hL
 have hpts:AK L (uC lv L) ts:=TS ht3 htg
 have hlt:∀m∈ts.flatMap cr.lent, ∃e t xs,s.o m=some (.arr e t xs):=by
  intro m hm
  obtain⟨t,h1,h2⟩:=List.mem_flatMap.1 hm
  have h3:=htg t h1
  cases t<;>simp only[cr.lent,List.mem_singleton,List.not_mem_nil]at h2
  subst h2
  exact h3
 have hptr':∀i n k,En.ptr i n k∈es→uC lv L n=L n:=by
  grind [iU]
 refine⟨uC lv L,⟨ha,by rw[hz,hN],fun i _=>?_,fun i hi=>?_,fun n ob q=>?_,fun n m x y ex ey b o qx qy=>?_,fun n ob q b o qf=>?_,fun b hb=>⟨?_,himm b hb⟩,hsub,hstep,hK▸h.glob.1,fun b q=>hI b (h.glob.2 b (hK▸q))⟩,fun hst n hn=>same hst n fun q=>?_,htg⟩
 ·rcases Be (dB es ds) i with⟨p,hp,rfl,h2⟩|⟨_,h2⟩
  ·have h3:=gv (uC lv L) (AL (ML es ds).o) hL hpts hptr'
   obtain⟨j,u,j1,j2,j3⟩:=h3.mem hp
   obtain⟨en,e1,e2⟩:=Ia j1
   show RA _ I' w _ (d7 (dB es ds) p.1) _
   rw[h2,e2,hu j en u e1 j2]
   exact j3
  ·show RA _ I' w _ (d7 (dB es ds) i) _
   rw[h2];trivial
 ·show d7 (dB es ds) i=_
  rcases Be (dB es ds) i with⟨p,hp,rfl,h2⟩|⟨_,h2⟩
  ·obtain⟨en,e1,e2⟩:=BZ hp
   have h5:=hs3 _ e1
   simp only[Bool.and_eq_true]at h5
   have h6:en.slot+1≤N:=Nat.le_of_ble_eq_true h5.1
   omega
  ·exact h2
 ·exact g.ro _ _ hL hpts (n,ob) (pP q)
 ·obtain⟨t1,p0,n',ob',p1,p2,p3,_⟩:=g.fp _ hL _ (pP ex) b o qx
  obtain⟨t2,q0,m',ob2,q1,q2,q3,_⟩:=g.fp _ hL _ (pP ey) b o qy
  obtain rfl:=h.sep n' m' ob' ob2 p2 q2 b o p3 q3
  exact DD ht1 (List.mem_flatMap.2 ⟨t1,p0,by rw[p1];exact List.mem_singleton.2 rfl⟩) (List.mem_flatMap.2 ⟨t2,q0,by rw[q1];exact List.mem_singleton.2 rfl⟩)
 ·obtain⟨t1,p0,n',ob',p1,p2,p3,p4⟩:=g.fp _ hL _ (pP q) b o qf
  obtain⟨h1,h2,h3⟩:=h.own n' ob' p2 b o p3
  have hex:n'∈(ts.flatMap cr.pair).map Prod.snd:=List.mem_map.2 ⟨(n,n'),List.mem_flatMap.2 ⟨t1,p0,by rw[p1];exact List.mem_singleton.2 rfl⟩,rfl⟩
  refine⟨h1,fun q2=>?_,hown t1 n' ob' b o p0 ⟨_,p1⟩ p2 p3 p4⟩
  rcases(hl b).1 q2 with q2|⟨m,hm,hb⟩
  ·exact h2 q2
  ·obtain⟨e',t',xs',em⟩:=hlt m hm
   obtain rfl:=h.sep n' m ob' _ p2 em b o p3 hb
   exact ht2 n' hm hex
 ·rcases(hl b).1 hb with hb|⟨m,hm,hb⟩
  ·exact(h.imm b hb).1
  ·obtain⟨e',t',xs',em⟩:=hlt m hm
   exact(h.own m _ em b 0 hb).1
 ·have:=hs2 n q
  rw[hn]at this
  cases this
def NH (L:Nm→Value) (I:Nat→Prop) (ts:List cr) (b:Nat):Prop:=I b∨∃m∈ts.flatMap cr.lent,(L m).ownBlock=some b
theorem O8 (h:ce X L I s a w){ts:List cr}(hlt:∀m∈ts.flatMap cr.lent, ∃e t xs,s.o m=some (.arr e t xs)):∀b,NH L I ts b→X.I0 b∨X.w0.heap.size≤b∨∀o,X.E b o:=by
 intro b hb
 rcases hb with hb|⟨m,hm,hb⟩
 ·exact(h.imm b hb).2
 ·obtain⟨e,t,xs,em⟩:=hlt m hm
  rcases Nat.lt_or_ge b X.w0.heap.size with q|q
  ·exact .inr (.inr fun o=>(h.own m _ em b o hb).2.2 q)
  ·omega
def iW (o:Nm→Option Ob) (m:Nm):Prop:=∃e t xs,o m=some (.arr e t xs)
theorem Jv{o:Nm→Option Ob}{n:Nm}{p:PS}{c:CV}{d:DV}{tag:cr}(e:dS o n p c=some (d,tag)):∀m∈tag.lent,iW o m:=by
 cases p with
 |i t =>
  simp only[dS]at e
  split at e
  ·grind [split,qi,dS,cr.lent,iW]
  ·grind [dS,cr.lent,iW]
 |o q t =>
  simp only[dS]at e
  split at e
  ·grind [dS,cr.lent,iW]
  ·grind [dS,cr.lent,iW]
  ·cases e
 |b q t =>
  simp only[dS]at e
  split at e
  ·grind [dS,cr.lent,iW]
  ·cases e
 |k mk q t =>
  simp only[dS]at e
  split at e
  ·grind [dS,cr.lent,iW]
  ·cases e
 |q m0 off =>
  simp only[dS]at e
  split at e
  ·grind [dS,cr.lent,iW]
  ·cases e
 |f g cs =>
  simp only[dS]at e
  split at e
  ·grind [dS,cr.lent,iW]
  ·cases e
 |e =>
  simp only[dS]at e
  split at e
  ·grind [dS,cr.lent,iW]
  ·grind [dS,cr.lent,iW]
  ·cases e
 |l =>
  grind [dS,split,cr.lent,iW]
 |m kt vt ka =>
  simp only[dS]at e
  split at e
  ·grind [dS,cr.lent,iW]
  ·cases e
theorem jU{o:Nm→Option Ob}{nm:Nat→PS→Nm}:∀{ps:List PS}{cs:List CV}{k:Nat}{ds:List DV}{ts:List cr},gi o nm k ps cs=some (ds,ts)→∀m∈ts.flatMap cr.lent,iW o m
 |[],[],_,_,_,e=>by simp_all [gi,cr.lent,iW]
 |[],_::_,_,_,_,e=>by cases e
 |_::_,[],_,_,_,e=>by cases e
 |p::ps,c::cs,k,_,_,e=>by
  simp only[gi]at e
  split at e
  ·rename_i d t ds ts e1 e2
   obtain⟨rfl,rfl⟩:=Prod.mk.inj (Option.some.inj e)
   intro m hm
   rw[List.flatMap_cons]at hm
   rcases List.mem_append.1 hm with hm|hm
   ·exact Jv e1 m hm
   ·exact jU e2 m hm
  ·cases e
theorem J6{o:Nm→Option Ob}{en:En}{v:AV}{ds:List DV}{ts:List cr}(e:mA o en v=some (ds,ts)):∀m∈ts.flatMap cr.lent,iW o m:=by
 have two:∀{q:Option (List DV×List cr)}{k:Bool}{tag:cr},tag.lent=[]→(∀ds ts,q=some (ds,ts)→∀m∈ts.flatMap cr.lent,iW o m) →
   (bif k then(match q with|some (ds,ts)=>some (ds,tag::ts)|none=>none)else none)=some (ds,ts)→∀m∈ts.flatMap cr.lent,iW o m:=by
  intro q k tag ht hq e
  cases k with
  |false=>cases e
  |true =>
   rw[cond_true]at e
   cases q with
   |none=>cases e
   |some p =>
    obtain⟨ds',ts'⟩:=p
    obtain⟨rfl,rfl⟩:=Prod.mk.inj (Option.some.inj e)
    intro m hm
    rw[List.flatMap_cons,ht]at hm
    exact hq _ _ rfl m hm
 cases en with
 |val i p =>
  cases v with
  |c x=>exact jU e
  |g _=>cases e
  |tup _=>cases e
 |agg i ps =>
  cases v with
  |g cs=>exact jU e
  |c _=>cases e
  |tup _=>cases e
 |box i n ps =>
  cases v with
  |c x =>
   cases x with
   |pb m off =>
    grind [mA,split,jU,cr.lent,iW]
   |pa m sz k j =>
    grind [mA,split,jU,cr.lent,iW]
   |_=>cases e
  |g _=>cases e
  |tup _=>cases e
 |ptr i n off =>
  cases v with
  |c x =>
   cases x with
   |pb m k =>
    grind [mA,Nm.eqb]
   |_=>cases e
  |g _=>cases e
  |tup _=>cases e
 |nbox i n ps =>
  cases v with
  |c x =>
   cases x with
   |pb m off =>
    cases off with
    |succ _=>cases e
    |zero =>
    simp only[mA]at e
    split at e
    ·grind [jU,mA,cr.lent,iW]
    ·cases e
   |_=>cases e
  |g _=>cases e
  |tup _=>cases e
 |hid n ps =>
  grind [QU,gi,kA,split,jU,mA,cr.lent,iW]
 |no i =>
  simp_all [mA,cr.lent,iW]
theorem Cn{o:Nm→Option Ob}:∀{es:List En}{vs:List AV}{ds:List DV}{ts:List cr},kB o es vs=some (ds,ts)→∀m∈ts.flatMap cr.lent,iW o m
 |[],[],_,_,e=>by simp_all [kB,cr.lent,iW]
 |[],_::_,_,_,e=>by cases e
 |_::_,[],_,_,e=>by cases e
 |en::es,v::vs,_,_,e=>by
  simp only[kB]at e
  split at e
  ·rename_i d t ds ts e1 e2
   obtain⟨rfl,rfl⟩:=Prod.mk.inj (Option.some.inj e)
   intro m hm
   rw[List.flatMap_append]at hm
   rcases List.mem_append.1 hm with hm|hm
   ·exact J6 e1 m hm
   ·exact Cn e2 m hm
  ·cases e
theorem Bx (h:ce X L I s a w){N:Nat}{es:List En}{vs:List AV}{us:List Value}{x:TD (bE es)}(e:Qw N es vs s.o=some x) (r:aK (RA L I w (AL s.o)) vs us){a':Act}(ha:a'.defers=[]) (hz:a'.tmps.size=N)
  (hu:∀(i:Nat) (e:En) (u:Value),es[i]?=some e→us[i]?=some u→a'.tmps.getD e.slot undef=u) :
  ∃L' I',ce { X with N:=N } L' I' (fu es x) a' w∧(∀b,I b→I' b)∧∀n,ju n=true→L' n=L n:=by
 unfold Qw at e
 split at e
 ·rename_i ds ts e1
  cases k:(ld N es&&(ll ts&&ts.all cr.stays))with
  |false=>rw[k]at e;cases e
  |true =>
   rw[k]at e
   simp only[cond_true]at e
   rw[Bool.and_eq_true,Bool.and_eq_true]at k
   have hlt:=Cn e1
   obtain⟨L',h1,h2,_⟩:=h.reshape (I':=NH L I ts) (Y:={ X with N:=N }) (fun b q=>Or.inl q) e1 r (fun _=>Iff.rfl) k.1 k.2.1 rfl rfl ha hz hu (fun _ n ob b o _ _ en q _=>(h.own n ob en b o q).2.2) (O8 h hlt) (fun b q=>Or.inl (h.sub b q)) h.step (.inl k.2.2)
   refine⟨L',NH L I ts,?_,fun b q=>Or.inl q,h2 k.2.2⟩
   unfold fu
   rw[qK e]
   exact h1
 ·cases e
end
section
variable{X:t7}{L:Nm→Value}{I:Nat→Prop}{s:St}{a:Act}{w:World}
def al:Ob→Option (Nat×Nat)
 | .arr _ t xs=>some (t.sz,List.length xs)
 |_=>none
theorem Tq (o:Nm→Option Ob) (n:Nm):AL o n=(o n).bind al:=by
 unfold AL
 cases o n with
 |none=>rfl
 |some ob=>cases ob<;>rfl
def kc (s:St) (n:Nm):Prop:=(∀i,¬aL (s.t i) n)∧(∀m cs,s.o m=some (.box cs)→¬cD cs n)∧s.o n=none
theorem yY (s:St) (n:Nm):kc (s.drop n) n :=
 ⟨fun i h=>xd h rfl,fun m cs e h=>Cw e h rfl,Nf s n⟩
theorem kc.drop{n m:Nm}(h:kc s n):kc (s.drop m) n:=by
 refine⟨fun i q=>h.1 i (aL.drop q).1,fun k cs e q=>?_,?_⟩
 ·obtain⟨_,ob,e1,e2⟩:=rA e
  cases ob with
  |box ds=>obtain rfl:=Ob.box.inj e2;exact h.2.1 k ds e1 (cD.drop q).1
  |arr=>cases e2
  |mp=>cases e2
 ·simp_all [CV.drop,AV.drop,St.drop,kc]
theorem ce.drops:∀(ns:List Nm){s:St},ce X L I s a w→ce X L I (s.drops ns) a w
 |[],_,h=>h
 |n::r,s,h=>ce.drops r (s:=s.drop n) (h.drop n (L':=L) (fun _ _=>rfl))
theorem kc.drops{n:Nm}:∀(ns:List Nm){s:St},kc s n→kc (s.drops ns) n
 |[],_,h=>h
 |m::ns,s,h=>kc.drops ns (s:=s.drop m) (kc.drop h)
theorem xG{n:Nm}:∀(ns:List Nm){s:St},n∈ns→kc (s.drops ns) n
 |m::ns,s,h=>by
  rcases List.mem_cons.1 h with rfl|h
  ·exact kc.drops ns (s:=s.drop n) (yY s n)
  ·exact xG ns (s:=s.drop m) h
theorem Lr{n:Nm}{ob:Ob}:∀{ns:List Nm}{s:St},(s.drops ns).o n=some ob→n∉ns∧∃ob',s.o n=some ob'∧al ob=al ob'∧∀L b o,fp L n ob b o↔fp L n ob' b o
 |[],s,h=>⟨by simp,ob,h,rfl,fun _ _ _=>Iff.rfl⟩
 |m::ns,s,h=>by
  obtain⟨h1,ob',h2,h3,h4⟩:=Lr (ns:=ns) (s:=s.drop m) h
  obtain⟨h5,ob2,h6,rfl⟩:=rA h2
  refine⟨by simp[h1,h5],ob2,h6,by rw[h3];cases ob2<;>rfl,fun L b o=>(h4 L b o).trans s6⟩
theorem ce.over (h:ce X L I s a w){w':World}{T:Nat→Nat→Prop}(hs:bY T w w'){ups:List (Nm×Ob)}{L2:Nm→Value}{I2:Nat→Prop}{F:Nm→Prop}
  (hL:∀n,¬F n→L2 n=L n) (hF:∀n,F n→kc s n)
  (hU:∀n ob',bm ups n=some ob'→F n∨∃ob,s.o n=some ob∧al ob'=al ob)
  (hI:∀b,I b→I2 b) (hIT:∀b j,I b→¬T b j) (hI2:∀b,I2 b→b<w'.heap.size∧(X.I0 b∨X.w0.heap.size≤b∨∀o,X.E b o))
  (hOld:∀n ob,s.o n=some ob→bm ups n=none→∀b o,fp L n ob b o→¬T b o∧¬I2 b)
  (hNew:∀n ob',bm ups n=some ob'→RO L2 I2 w' (AL (s.over ups).o) n ob'∧∀b o,fp L2 n ob' b o→b<w'.heap.size∧¬I2 b∧(b<X.w0.heap.size→X.E b o) ∧
   (∀m ob,s.o m=some ob→bm ups m=none→¬fp L m ob b o)∧∀m ob2,bm ups m=some ob2→fp L2 m ob2 b o→m=n)
  (hE:∀b j,T b j→b<X.w0.heap.size→X.E b j):ce X L2 I2 (s.over ups) a w':=by
 have hw:mV I w w':=fun b hb=>hs.same (h.imm b hb).1 (fun j=>hIT b j hb)
 have oth:∀n,bm ups n=none→(s.over ups).o n=s.o n:=fun n q=>by
  grind [St.over,kc,al,fp,RO,AL]
 have new:∀n ob,bm ups n=some ob→(s.over ups).o n=some ob:=fun n ob q=>by
  grind [St.over,kc,al,fp,RO,AL]
 have key:∀m,¬F m→L2 m=L m∧AL (s.over ups).o m=AL s.o m:=fun m hm=>by
  grind [Tq,bm,St.over,kc,al,fp,RO,AL]
 have fpL:∀n ob b o,s.o n=some ob→(fp L2 n ob b o↔fp L n ob b o):=fun n ob b o e=>by
  have:L2 n=L n:=hL n (fun q=>by rw[(hF n q).2.2]at e;cases e)
  cases ob with
  |box cs=>simp only[fp,this]
  |arr e t xs=>simp only[fp,this]
  |mp _ _ _ _=>simp only[fp,this]
 refine⟨h.defers,h.size,fun i hi=>?_,h.hi,fun n ob e=>?_,fun n m x y ex ey b o qx qy=>?_,fun n ob e b o q=>?_,hI2,fun b hb=>hI b (h.sub b hb),h.step.trans hs hE,(h.globs hw).1,fun b q=>hI b (h.glob.2 b q)⟩
 ·exact RA.mono hI hw (fun m hm=>key m fun q=>(hF m q).1 i hm) (h.tmp i hi)
 ·cases q:bm ups n with
  |some ob' =>
   rw[new n ob' q]at e
   obtain rfl:=Option.some.inj e
   exact(hNew n _ q).1
  |none =>
   rw[oth n q]at e
   have hn:¬F n:=fun z=>by rw[(hF n z).2.2]at e;cases e
   have r:=RO.step hs hw (fun b o z=>(hOld n ob e q b o z).1) (h.obj n ob e)
   cases ob with
   |box cs =>
    obtain⟨b,off,vs,h1,h2,h3⟩:=r
    exact⟨b,off,vs,by rw[hL n hn];exact h1,I5.mono hI (fun _ _=>rfl) (fun m hm=>key m fun z=>(hF m z).2.1 n cs e hm) h2,h3⟩
   |arr e' t xs =>
    obtain⟨vs,h1,h2⟩:=r
    exact⟨vs,by rw[hL n hn];exact h1,h2.mono hI (fun _ _=>rfl)⟩
   |mp kt vt ka kvs =>
    obtain⟨b,es,h1,h2⟩:=r
    exact⟨b,es,by rw[hL n hn];exact h1,h2⟩
 ·cases q:bm ups n with
  |some x' =>
   rw[new n x' q]at ex
   obtain rfl:=Option.some.inj ex
   obtain⟨_,hx⟩:=hNew n _ q
   cases q2:bm ups m with
   |some y' =>
    rw[new m y' q2]at ey
    obtain rfl:=Option.some.inj ey
    exact((hx b o qx).2.2.2.2 m _ q2 qy).symm
   |none =>
    rw[oth m q2]at ey
    exact absurd ((fpL m y b o ey).1 qy) ((hx b o qx).2.2.2.1 m y ey q2)
  |none =>
   rw[oth n q]at ex
   cases q2:bm ups m with
   |some y' =>
    rw[new m y' q2]at ey
    obtain rfl:=Option.some.inj ey
    obtain⟨_,hy⟩:=hNew m _ q2
    exact absurd ((fpL n x b o ex).1 qx) ((hy b o qy).2.2.2.1 n x ex q)
   |none =>
    rw[oth m q2]at ey
    exact h.sep n m x y ex ey b o ((fpL n x b o ex).1 qx) ((fpL m y b o ey).1 qy)
 ·cases q2:bm ups n with
  |some ob' =>
   rw[new n ob' q2]at e
   obtain rfl:=Option.some.inj e
   obtain⟨g1,g2,g3,_⟩:=(hNew n _ q2).2 b o q
   exact⟨g1,g2,g3⟩
  |none =>
   rw[oth n q2]at e
   have q':=(fpL n ob b o e).1 q
   obtain⟨h1,h2,h3⟩:=h.own n ob e b o q'
   exact⟨Nat.lt_of_lt_of_le h1 hs.size,(hOld n ob e q2 b o q').2,h3⟩
theorem ce.frzs:∀(ns:List Nm){I:Nat→Prop}{s:St},ce X L I s a w→∃I',(∀b,I b→I' b)∧ce X L I' (s.frzs ns) a w
 |[],I,s,h=>⟨I,fun _ q=>q,h⟩
 |n::r,I,s,h=>by
  have:∃I',(∀b,I b→I' b)∧ce X L I' (s.frz1 n) a w:=by
   unfold St.frz1
   split
   ·rename_i e t xs en
    obtain⟨I',h1,h2,_⟩:=h.freeze en
    exact⟨I',h1,h2⟩
   ·grind
  obtain⟨I1,h1,h2⟩:=this
  obtain⟨I2,h3,h4⟩:=ce.frzs r h2
  exact⟨I2,fun b q=>h3 b (h1 b q),h4⟩
theorem Dn{d:Nat}{o:Nm→Option Ob}{ts:List cr}{names:List Nm}:∀{l ups:List (Nm×Ob)},po d o ts names l=some ups→∀{n:Nm}{ob':Ob},(n,ob')∈ups→∃m ob,(m,ob)∈l∧AO d o ts names m ob=some (n,ob')
 |[],_,e,_,_,h=>by simp_all [po,AO]
 |(m,ob)::r,_,e,n,ob',h=>by
  simp only[po]at e
  split at e
  ·rename_i q l e1 e2
   obtain rfl:=Option.some.inj e
   rcases List.mem_cons.1 h with rfl|h
   ·grind
   ·obtain⟨m',ob2,g1,g2⟩:=Dn e2 h
    exact⟨m',ob2,List.mem_cons_of_mem _ g1,g2⟩
  ·cases e
theorem xM{n:Nm}{ob:Ob}:∀{l:List (Nm×Ob)},(l.map Prod.fst).Nodup→(n,ob)∈l→bm l n=some ob
 |[],_,h=>by cases h
 |q::l,hn,h=>by
  rw[List.map_cons,List.nodup_cons]at hn
  unfold bm
  rcases List.mem_cons.1 h with h|h
  ·subst h;rw[rV];rfl
  ·have:q.1≠n:=fun e=>hn.1 (e▸List.mem_map.2 ⟨(n,ob),h,rfl⟩)
   rw[bi.2 this]
   exact xM hn.2 h
theorem B7{n:Nm}:∀{l:List (Nm×Ob)},bm l n=none↔n∉l.map Prod.fst
 |[]=>by simp[bm]
 |q::l=>by
  unfold bm
  cases e:Nm.eqb q.1 n with
  |true=>simp_all [bX]
  |false=>have:=bi.1 e;simp[B7 (l:=l),Ne.symm this]
theorem MK{n:Nm}{p:PS}{d:DV}{q:Nm×Ob}(h:q∈C3 n p d):q.1∈NL n p:=by
 cases p with
 |i t=>cases h
 |o e t =>
  grind [xi,split,C3,NL]
 |b e t =>
  grind [xi,split,C3,NL]
 |k mk e t =>
  grind [xi,split,C3,NL]
 |m kt vt ka =>
  grind [MO,split,C3,NL]
 |q _ _=>cases h
 |f _ _=>cases h
 |e=>cases h
 |l=>cases h
theorem nC{nm:Nat→PS→Nm}:∀{ps:List PS}{ds:List DV}{k:Nat}{q:Nm×Ob},q∈yZ nm k ps ds→q.1∈iI nm k ps
 |[],_,_,_,h=>by cases h
 |_::_,[],_,_,h=>by cases h
 |p::ps,d::ds,k,q,h=>by
  rw[sJ]
  rcases List.mem_append.1 h with h|h
  ·grind [MK]
  ·exact List.mem_append_right _ (nC h)
theorem sR:∀{es:List En}{ds:List DV}{q:Nm×Ob},q∈g9 es ds→q.1∈es.flatMap En.names
 |[],_,_,h=>by cases h
 |e::es,ds,q,h=>by
  rw[List.flatMap_cons]
  rcases List.mem_append.1 h with h|h
  ·refine List.mem_append_left _ ?_
   cases e with
   |val i p=>exact nC h
   |agg i ps=>exact nC h
   |box i n ps =>
    rcases List.mem_cons.1 h with rfl|h
    ·exact List.mem_cons_self ..
    ·exact List.mem_cons_of_mem _ (nC h)
   |ptr i n off=>cases h
   |nbox i n ps =>
    rcases List.mem_cons.1 h with rfl|h
    ·exact List.mem_cons_self ..
    ·exact List.mem_cons_of_mem _ (nC h)
   |hid n ps =>
    rcases List.mem_cons.1 h with rfl|h
    ·exact List.mem_cons_self ..
    ·exact List.mem_cons_of_mem _ (nC h)
   |no i=>cases h
  ·exact List.mem_append_right _ (sR h)
theorem lM{nm:Nat→PS→Nm}{n:Nm}:∀{ps:List PS}{ds:List DV}{k:Nat},CV.own n∈jq nm k ps ds→n∈iI nm k ps
 |[],_,_,h=>by cases h
 |_::_,[],_,h=>by cases h
 |p::ps,d::ds,k,h=>by
  rw[sJ]
  rcases List.mem_cons.1 h with h|h
  ·refine List.mem_append_left _ ?_
   cases p with
   |i t=>cases h
   |o e t=>obtain rfl:=CV.own.inj h;exact List.mem_singleton.2 rfl
   |b e t=>obtain rfl:=CV.own.inj h;exact List.mem_singleton.2 rfl
   |k mk e t=>obtain rfl:=CV.own.inj h;exact List.mem_singleton.2 rfl
   |q _ _=>cases h
   |f _ _=>cases h
   |m _ _ _=>cases h
   |l =>
    have h:CV.own n=(match d.as (.int .i64)with|some k=>CV.hd (Int.toNat k)|none => .dead):=h
    split at h<;>cases h
   |e =>
    have h:CV.own n=(match d.as .bool with|some b=>CV.er b|none => .dead):=h
    split at h<;>cases h
  ·exact List.mem_append_right _ (lM h)
def AV.cellsOf:AV→List CV
 | .c x=>[x]
 | .g cs=>cs
 | .tup l=>l.flatMap Prod.snd
theorem Q0{e:En}{ds:List DV}{n:Nm}(h:CV.own n∈(Uj e ds).cellsOf):n∈e.names:=by
 cases e with
 |val i p =>
  grind [Uj,split,lM,En.names,AV.cellsOf]
 |agg i ps=>exact lM h
 |box i m ps=>trivial
 |ptr i m off=>trivial
 |nbox i m ps=>trivial
 |hid m ps=>trivial
 |no i=>trivial
theorem G8:∀{es:List En}{ds:List DV}{p:Nat×AV}{n:Nm},p∈dB es ds→CV.own n∈p.2.cellsOf→n∈es.flatMap En.names
 |[],_,_,_,h,_=>by cases h
 |e::es,ds,p,n,h,g=>by
  rw[List.flatMap_cons]
  rcases List.mem_cons.1 h with rfl|h
  ·grind [Q0]
  ·exact List.mem_append_right _ (G8 h g)
theorem Ib:∀{es:List En}{ds:List DV}{m:Nm}{cs:List CV}{n:Nm},(m,Ob.box cs)∈g9 es ds→CV.own n∈cs→n∈es.flatMap En.names
 |[],_,_,_,_,h,_=>by cases h
 |e::es,ds,m,cs,n,h,g=>by
  have arrs:∀{nm:Nat→PS→Nm}{ps:List PS}{k:Nat}{ds:List DV},(m,Ob.box cs)∉yZ nm k ps ds:=by
   intro nm ps
   induction ps with
   |nil=>intro k ds h;cases h
   |cons p ps ih =>
    intro k ds h
    cases ds with
    |nil=>cases h
    |cons d ds =>
     rcases List.mem_append.1 h with h|h
     ·have arr1:∀{n:Nm}{e:Nat}{t:Ty},(m,Ob.box cs)∉xi n e t d:=by
       grind [xi,split]
      cases p with
      |i t=>cases h
      |o e t=>exact arr1 h
      |b e t=>exact arr1 h
      |k mk e t=>exact arr1 h
      |q _ _=>cases h
      |f _ _=>cases h
      |e=>cases h
      |l=>cases h
      |m kt vt ka =>
       have h:(m,Ob.box cs)∈MO _ kt vt ka d:=h
       unfold MO at h
       split at h
       ·trivial
       ·cases h
     ·exact ih h
  rw[List.flatMap_cons]
  rcases List.mem_append.1 h with h|h
  ·refine List.mem_append_left _ ?_
   cases e with
   |val i p=>exact absurd h arrs
   |agg i ps=>exact absurd h arrs
   |box i m' ps =>
    rcases List.mem_cons.1 h with h|h
    ·grind [lM,g9,En.names]
    ·simp_all
   |ptr i m' off=>cases h
   |nbox i m' ps =>
    rcases List.mem_cons.1 h with h|h
    ·grind [lM,g9,En.names]
    ·simp_all
   |hid m' ps =>
    rcases List.mem_cons.1 h with h|h
    ·grind [lM,g9,En.names]
    ·simp_all
   |no i=>cases h
  ·exact List.mem_append_right _ (Ib h g)
end
def Gw (a:Act) (np:Nat):Nat→Value
 |1=>a.tmps.getD np undef
 |n => .tuple ((List.range n).map fun j=>a.tmps.getD (np+j) undef).toArray
def first (n:Nat) (xs:Array Value):Array Value:=(xs.toList.take n).toArray
def m6 (P:Program) (K:fE) (f:FuncId) (S:aa):Prop :=
 ∀(Y:t7) (L:Nm→Value) (I:Nat→Prop) (a:Act) (w:World) (x:TD (bE (aC 0 S.pars))) (r:TD (bE (ej S.pars S.res S.nb))),S.g x=some r →
  ce Y L I (fu (aC 0 S.pars) x) a w→Y.K=K→Y.N=S.pars.length→Y.w0=w →
  Calls P f (first S.real a.tmps) w fun e w'=>∃v L' I' a',e = .returned v∧ce { Y with N:=S.pars.length+(S.res.length+S.nb.length) } L' I' (fu S.ens r) a' w' ∧
   (∀n,ju n=true→L' n=L n)∧v=Gw a' S.pars.length S.res.length
section
variable{P:Program}{X:t7}{L:Nm→Value}{I:Nat→Prop}{s:St}{a:Act}{w:World}
theorem BL:∀{ps:List IW}{k i:Nat}{e:En},(aC k ps)[i]?=some e→e.slot=k+i
 |[],_,_,_,h=>by cases h
 |p::ps,k,0,e,h=>by cases p<;>(obtain rfl:=Option.some.inj h;rfl)
 |p::ps,k,i+1,e,h=>by
  have h:(aC (k+1) ps)[i]?=some e:=by cases p<;>exact h
  rw[BL h];omega
theorem wz:∀(ps:List IW) (k:Nat),(aC k ps).length=ps.length
 |[],_=>rfl
 |p::ps,k=>by cases p<;>simp[aC,wz ps]
theorem BK:∀(ps:List IW) (k i:Nat) (n:Nm) (o:Nat),En.ptr i n o∉aC k ps
 |[],_,_,_,_=>by simp[aC]
 |p::ps,k,i,n,o=>by cases p<;>simp[aC,BK ps]
theorem zq{o:Nm→Option Ob}:∀{es:List En}{vs:List AV}{ds:List DV}{ts:List cr},kB o es vs=some (ds,ts)→vs.length=es.length
 |[],[],_,_,_=>rfl
 |[],_::_,_,_,e=>by cases e
 |_::_,[],_,_,e=>by cases e
 |en::es,v::vs,_,_,e=>by
  simp only[kB]at e
  split at e
  ·rename_i d t ds ts e1 e2
   simp[zq e2]
  ·cases e
theorem zD (h:ce X L I s a w):∀xs:List Operand,aK (RA L I w (AL s.o)) (xs.map s.ev) (xs.map a.eval)
 |[]=>trivial
 |x::xs=>⟨h.ev x,zD h xs⟩
theorem Gi{d:Nat}{o:Nm→Option Ob}{ts:List cr}{names:List Nm}{m n:Nm}{ob ob':Ob}(h:AO d o ts names m ob=some (n,ob')) :
  (∃k e t xs e' u xs',js m ts = .bw k n∧ob = .arr e t xs∧o n=some (.arr e' u xs')∧u.sz=t.sz∧ju m=true∧ob' = .arr e t xs) ∨
  (∃k off len cells cs,js m ts = .pb k n off len∧ob = .box cells∧o n=some (.box cs)∧off+len≤cs.length∧cells.length=len∧ju m=true∧ob' = .box (CT cs off (cells.map (uq d ts names)))) ∨
  (∃e t xs,ob = .arr e t xs∧n=d::m∧ob'=ob) ∨
  (∃cells,ob = .box cells∧n=d::m∧ob' = .box (cells.map (uq d ts names))):=by
 unfold AO at h
 cases ht:js m ts with
 |bw k n' =>
  rw[ht]at h
  cases ob with
  |box _=>cases h
  |mp _ _ _ _=>cases h
  |arr e t xs =>
   dsimp only at h
   split at h
   ·rename_i e' u xs' en
    cases q:(ju m&&Nat.beq u.sz t.sz)with
    |false=>rw[q]at h;cases h
    |true =>
     rw[q]at h
     obtain⟨rfl,rfl⟩:=Prod.mk.inj (Option.some.inj h)
     rw[Bool.and_eq_true]at q
     exact .inl ⟨k,e,t,xs,e',u,xs',rfl,rfl,en,Nat.eq_of_beq_eq_true q.2,q.1,rfl⟩
   ·cases h
 |pb k n' off len =>
  rw[ht]at h
  cases ob with
  |arr _ _ _=>cases h
  |mp _ _ _ _=>cases h
  |box cells =>
   dsimp only at h
   split at h
   ·rename_i cs en
    cases q:(ju m&&(Nat.ble (off+len) cs.length&&Nat.beq cells.length len))with
    |false=>rw[q]at h;cases h
    |true =>
     rw[q]at h
     obtain⟨rfl,rfl⟩:=Prod.mk.inj (Option.some.inj h)
     rw[Bool.and_eq_true,Bool.and_eq_true]at q
     exact .inr (.inl ⟨k,off,len,cells,cs,rfl,rfl,en,Nat.le_of_ble_eq_true q.2.1,Nat.eq_of_beq_eq_true q.2.2,q.1,rfl⟩)
   ·cases h
 |pa _ _ _ _ _=>rw[ht]at h;cases h
 |mx _ _ _=>rw[ht]at h;cases h
 |no =>
  rw[ht]at h
  cases ob with
  |mp _ _ _ _=>cases h
  |box cells=>obtain⟨rfl,rfl⟩:=Prod.mk.inj (Option.some.inj h);exact .inr (.inr (.inr ⟨cells,rfl,rfl,rfl⟩))
  |arr e t xs=>obtain⟨rfl,rfl⟩:=Prod.mk.inj (Option.some.inj h);exact .inr (.inr (.inl ⟨e,t,xs,rfl,rfl,rfl⟩))
 |ln _ =>
  rw[ht]at h
  cases ob with
  |mp _ _ _ _=>cases h
  |box cells=>obtain⟨rfl,rfl⟩:=Prod.mk.inj (Option.some.inj h);exact .inr (.inr (.inr ⟨cells,rfl,rfl,rfl⟩))
  |arr e t xs=>obtain⟨rfl,rfl⟩:=Prod.mk.inj (Option.some.inj h);exact .inr (.inr (.inl ⟨e,t,xs,rfl,rfl,rfl⟩))
 |mv _ _ =>
  rw[ht]at h
  cases ob with
  |mp _ _ _ _=>cases h
  |box cells=>obtain⟨rfl,rfl⟩:=Prod.mk.inj (Option.some.inj h);exact .inr (.inr (.inr ⟨cells,rfl,rfl,rfl⟩))
  |arr e t xs=>obtain⟨rfl,rfl⟩:=Prod.mk.inj (Option.some.inj h);exact .inr (.inr (.inl ⟨e,t,xs,rfl,rfl,rfl⟩))
 |pt _ =>
  rw[ht]at h
  cases ob with
  |mp _ _ _ _=>cases h
  |box cells=>obtain⟨rfl,rfl⟩:=Prod.mk.inj (Option.some.inj h);exact .inr (.inr (.inr ⟨cells,rfl,rfl,rfl⟩))
  |arr e t xs=>obtain⟨rfl,rfl⟩:=Prod.mk.inj (Option.some.inj h);exact .inr (.inr (.inl ⟨e,t,xs,rfl,rfl,rfl⟩))
 |mm _ _ =>
  rw[ht]at h
  cases ob with
  |mp _ _ _ _=>cases h
  |box cells=>obtain⟨rfl,rfl⟩:=Prod.mk.inj (Option.some.inj h);exact .inr (.inr (.inr ⟨cells,rfl,rfl,rfl⟩))
  |arr e t xs=>obtain⟨rfl,rfl⟩:=Prod.mk.inj (Option.some.inj h);exact .inr (.inr (.inl ⟨e,t,xs,rfl,rfl,rfl⟩))
theorem Gm:∀{ts:List cr},((ts.flatMap cr.pair).map Prod.snd).Nodup→∀{t t':cr}{a b n:Nm},t∈ts→t'∈ts→t.pair=[(a,n)]→t'.pair=[(b,n)]→t=t'
 |[],_,_,_,_,_,_,h,_,_,_=>by cases h
 |q::ts,hn,t,t',a,b,n,h,h',e,e'=>by
  rw[List.flatMap_cons,List.map_append]at hn
  have hd:=List.nodup_append.1 hn
  have inn:∀{x:cr}{c:Nm},x∈ts→x.pair=[(c,n)]→n∈(ts.flatMap cr.pair).map Prod.snd:=fun{x c} h e=>List.mem_map.2 ⟨(c,n),List.mem_flatMap.2 ⟨x,h,by rw[e];exact List.mem_singleton.2 rfl⟩,rfl⟩
  rcases List.mem_cons.1 h with h1|h1
  ·grind
  ·rcases List.mem_cons.1 h' with h2|h2
   ·grind
   ·exact Gm hd.2.1 h1 h2 e e'
section
variable{L' L2:Nm→Value}{I' I2:Nat→Prop}{A' A2:Nm→Option (Nat×Nat)}{d:Nat}{ts:List cr}{names:List Nm}
structure Ren (L' L2:Nm→Value) (I' I2:Nat→Prop) (w:World) (d:Nat) (ts:List cr) (names:List Nm) (fl:Bool):Prop where
 nm:∀m∈names,L2 (d::m)=L' m
 pt:∀p q,CX d ts names p=some q→∀b o,L' p.1 = .pointer (some ⟨b,o,none⟩)→∃o',L2 q.1 = .pointer (some ⟨b,o',none⟩)∧o'+q.2=o+p.2
 im:fl=false→∀b,I' b→I2 b
variable{fl:Bool}
theorem Ren.rep (h:Ren L' L2 I' I2 w d ts names fl){t:Ty}{x:t.den}{us:List Value}(hf:fl=true→t.hasSl=false) (r:dD I' w t x us):dD I2 w t x us:=by
 cases e:fl with
 |true=>exact dD.plain t (hf e) r
 |false=>exact dD.mono (h.im e) (fun _ _=>rfl) t r
theorem Ren.frep (h:Ren L' L2 I' I2 w d ts names fl){t:Ty}{xs:List t.den}{us:List Value}(hf:fl=true→t.hasSl=false) (r:bZ I' w t xs us):bZ I2 w t xs us:=by
 cases e:fl with
 |true=>exact bZ.plain (hf e) r
 |false=>exact bZ.mono (h.im e) (fun _ _=>rfl) r
theorem Ren.caps (h:Ren L' L2 I' I2 w d ts names fl):∀{cs ds:List (Nm×Nat)}{us:List Value},vZ d ts names cs=some ds→yI L' cs us→yI L2 ds us
 |[],ds,us,e,r=>by
  grind [vZ,yI]
 |c::cs,ds,us,e,r=>by
  simp only[vZ]at e
  split at e
  ·rename_i q l e1 e2
   obtain rfl:=Option.some.inj e
   cases us with
   |nil=>exact r.elim
   |cons u us =>
    obtain⟨⟨b,o,r1,r2⟩,r3⟩:=r
    obtain⟨o',g1,g2⟩:=h.pt c q e1 b o r1
    exact⟨⟨b,o',g1,by rw[r2, ←g2]⟩,h.caps e2 r3⟩
  ·cases e
theorem Ren.rc (h:Ren L' L2 I' I2 w d ts names fl){c:CV}{u:Value}(hn:∀m,c = .own m→m∈names) (hf:fl=true→c.flat=true) (r:RC L' I' w A' c u):RC L2 I2 w A2 (uq d ts names c) u:=by
 cases c with
 |own m =>
  obtain⟨x1,x2,x3,rfl,r⟩:=r
  exact⟨x1,x2,x3,rfl,by rw[h.nm m (hn m rfl),r]⟩
 |v t x=>exact h.rep (fun q=>by simpa [CV.flat]using hf q) r
 |er b=>exact r
 |hd k=>exact r
 |pb n i =>
  obtain⟨b,o,r1,r2⟩:=r
  simp only[uq]
  cases e:CX d ts names (n,i)with
  |none=>trivial
  |some q =>
   obtain⟨o',g1,g2⟩:=h.pt _ q e b o r1
   exact⟨b,o',g1,by rw[r2,g2]⟩
 |clo f cs =>
  obtain⟨us,r1,r2⟩:=r
  simp only[uq]
  cases e:vZ d ts names cs with
  |none=>trivial
  |some l=>exact⟨us,r1,h.caps e r2⟩
 |_=>trivial
theorem Ren.rcs (h:Ren L' L2 I' I2 w d ts names fl):∀{cs:List CV}{us:List Value},(∀m,CV.own m∈cs→m∈names)→(fl=true→cs.all CV.flat=true)→aK (RC L' I' w A') cs us→aK (RC L2 I2 w A2) (cs.map (uq d ts names)) us
 |[],[],_,_,_=>trivial
 |[],_::_,_,_,r=>r.elim
 |_::_,[],_,_,r=>r.elim
 |c::cs,u::us,hn,hf,⟨r1,r2⟩=>by
  have hf':fl=true→c.flat=true∧cs.all CV.flat=true:=fun q=>by simpa using hf q
  exact⟨h.rc (fun m e=>hn m (e▸List.mem_cons_self ..)) (fun q=>(hf' q).1) r1,h.rcs (fun m e=>hn m (List.mem_cons_of_mem _ e)) (fun q=>(hf' q).2) r2⟩
theorem Ren.ra (h:Ren L' L2 I' I2 w d ts names fl){v:AV}{u:Value}(hn:∀m,CV.own m∈v.cellsOf→m∈names) (hf:fl=true→v.flat=true) (r:RA L' I' w A' v u):RA L2 I2 w A2 (v.ren d ts names) u:=by
 cases v with
 |c x=>exact h.rc (fun m e=>hn m (e▸List.mem_singleton.2 rfl)) hf r
 |g cs=>obtain⟨vs,rfl,r⟩:=r;exact⟨vs,rfl,h.rcs hn hf r⟩
 |tup l =>
  cases e:fl with
  |true=>cases hf e
  |false =>
   obtain⟨us,rfl,r⟩:=r
   refine⟨us,rfl,?_⟩
   clear hf
   induction l generalizing us with
   |nil=>cases us with
    |nil=>trivial
    |cons _ _=>exact r.elim
   |cons p l ih =>
    cases us with
    |nil=>exact r.elim
    |cons u us =>
     obtain⟨r1,r2⟩:=r
     refine⟨?_,ih (fun m hm=>hn m (List.mem_append_right _ hm)) us r2⟩
     obtain⟨b,cs⟩:=p
     have hn':∀m,CV.own m∈cs→m∈names:=fun m hm=>hn m (List.mem_append_left _ hm)
     cases b with
     |true=>obtain⟨vs,rfl,r⟩:=r1;exact⟨vs,rfl,h.rcs hn' (fun q=>by rw[e]at q;cases q) r⟩
     |false=>exact h.rcs hn' (fun q=>by rw[e]at q;cases q) r1
theorem Ren.rp (h:Ren L' L2 I' I2 w d ts names fl){v:AV}{u:Value}(hn:∀m,CV.own m∈v.cellsOf→m∈names) (hf:fl=true→v.flat=true) (r:RA L' I' w A' v u):RP L2 I2 w A2 (v.part.1,v.part.2.map (uq d ts names)) u:=by
 cases v with
 |c x=>exact⟨h.ra hn hf r,trivial⟩
 |g cs=>exact h.ra hn hf r
 |tup l=>trivial
theorem Ren.res (h:Ren L' L2 I' I2 w d ts names fl){te:List (Nat×AV)}{a':Act}{np:Nat}(hn:∀i m,CV.own m∈(d7 te i).cellsOf→m∈names) (hf:fl=true→∀i,(d7 te i).flat=true)
  (r:∀i,RA L' I' w A' (d7 te i) (a'.tmps.getD i undef)) (n:Nat):RA L2 I2 w A2 ((uo te np n).ren d ts names) (Gw a' np n):=by
 have many:∀l:List Nat,RA L2 I2 w A2 ((AV.tup (l.map fun j=>(d7 te (np+j)).part)).ren d ts names) (.tuple (l.map fun j=>a'.tmps.getD (np+j) undef).toArray):=by
  intro l
  refine⟨l.map fun j=>a'.tmps.getD (np+j) undef,rfl,?_⟩
  induction l with
  |nil=>trivial
  |cons j l ih=>exact⟨h.rp (hn _) (fun q=>hf q _) (r _),ih⟩
 unfold uo Gw
 split
 ·exact h.ra (hn np) (fun q=>hf q np) (r np)
 ·rename_i h1
  split
  ·exact absurd rfl h1
  ·exact many _
end
end
end AM
end Go.Proofs.YtpgigedclifoeaaGreatDoor
namespace Go.Proofs.YtpgigedclifoeaaGreatDoor
namespace AM
open Go
set_option linter.unusedVariables false
set_option linter.unusedSimpArgs false
set_option maxHeartbeats 1000000
section
variable{P:Program}{X:t7}{L:Nm→Value}{I:Nat→Prop}{s:St}{a:Act}{w:World}
theorem On{ups:List (Nm×Ob)}{F:Nm→Prop}(hU:∀n ob',bm ups n=some ob'→F n∨∃ob,s.o n=some ob∧al ob'=al ob):∀m,¬F m→AL (s.over ups).o m=AL s.o m:=by
 grind [Tq,bm,al,AL,St.over]
theorem GN{e e' sz sz':Nat}{u:Value}{n m:Nat}{vs us:List Value}{w':World}(h:w.ownsRow 0 e sz u n vs) (g:w'.ownsRow 0 e' sz' u m us):n=m:=by
 rcases h.2 with⟨rfl,h0⟩|⟨b,cap,cur,rfl,_⟩
 ·rcases g.2 with⟨_,g0⟩|⟨b,cap,cur,g1,_⟩
  ·omega
  ·simp_all
 ·rcases g.2 with⟨g1,_⟩|⟨b',cap',cur',g1,_⟩
  ·simp_all
  ·injection g1
theorem UP (h:ce X L I s a w){S:aa}{d:Nat}{ts:List cr}{Lc:Nm→Value}{Y:t7}{L':Nm→Value}{I':Nat→Prop}{a':Act}{w':World}{te:List (Nat×AV)}{oe ups:List (Nm×Ob)}{s1:St}
  (hYw:Y.w0=w) (hYE:∀b o,Y.E b o↔∃t∈ts, ∃n ob,(∃m,t.pair=[(m,n)])∧s.o n=some ob∧fp L n ob b o∧EA L t b o)
  (hYI:∀b,Y.I0 b↔NH L I ts b) (htag:∀t∈ts,CJ L Lc s t) (hE:ce Y L' I' ⟨d7 te,bm oe⟩ a' w') (hkept:∀n,ju n=true→L' n=Lc n)
  (ht:ll ts=true) (hsh:S.shares=true→ts.flatMap cr.lent=[])
  (hs1:s1=s.drops (ts.flatMap cr.moved++(S.ens.flatMap En.names).map (fun m=>d::m)))
  (hup:po d s1.o ts (S.ens.flatMap En.names) oe=some ups) (hok:kJ S d s1.o ts te oe ups=true)
  (ote:∀p∈te, ∀m,CV.own m∈p.2.cellsOf→m∈S.ens.flatMap En.names) (ooe:∀q∈oe,q.1∈S.ens.flatMap En.names) (obx:∀m cs n,(m,Ob.box cs)∈oe→CV.own n∈cs→n∈S.ens.flatMap En.names) (np nr:Nat) :
  ∃L2 I2,ce X L2 I2 (s1.over ups) a w'∧RA L2 I2 w' (AL (s1.over ups).o) ((uo te np nr).ren d ts (S.ens.flatMap En.names)) (Gw a' np nr)∧(∀n,ju n=true→L2 n=L n)∧∀b,I b→I2 b:=by
 unfold kJ at hok
 rw[Bool.and_eq_true,Bool.and_eq_true,Bool.and_eq_true,Bool.and_eq_true,nB,nB]at hok
 obtain⟨hnu,hno,hfl,hkn,hall⟩:=hok
 rw[List.all_eq_true]at hkn hall
 unfold ll at ht
 rw[Bool.and_eq_true,Bool.and_eq_true,nB,CG]at ht
 obtain⟨ht1,ht2,_⟩:=ht
 generalize hnm:S.ens.flatMap En.names=names at *
 have hlent:∀b,I b→Y.I0 b:=fun b q=>(hYI b).2 (.inl q)
 have hII:∀b,I b→I' b:=fun b q=>hE.sub b (hlent b q)
 have hstep:bY Y.E w w':=hYw▸hE.step
 let L2:Nm→Value:=fun n=>match n with
  |[]=>L []
  |x::m=>bif Nat.beq x d&&oV m names then L' m else L (x::m)
 let I2:Nat→Prop:=fun b=>(S.shares=true∧I' b)∨(S.shares=false∧I b)
 let F:Nm→Prop:=fun n=>∃m,n=d::m∧m∈names
 have hL:∀n,¬F n→L2 n=L n:=by
  intro n hn
  cases n with
  |nil=>rfl
  |cons x m =>
   show(bif Nat.beq x d&&oV m names then L' m else L (x::m))=_
   cases q:(Nat.beq x d&&oV m names)with
   |false=>rfl
   |true =>
    rw[Bool.and_eq_true]at q
    exact absurd ⟨m,by rw[Nat.eq_of_beq_eq_true q.1],iU.1 q.2⟩ hn
 have hLF:∀m∈names,L2 (d::m)=L' m:=by
  grind [oV,iU,Nat.beq_refl]
 have hF:∀n,F n→kc s1 n:=by
  grind [xG]
 have nF:∀n ob,s1.o n=some ob→¬F n:=fun n ob e q=>by rw[(hF n q).2.2]at e;cases e
 have h2:ce X L I s1 a w:=by rw[hs1];exact h.drops _
 have old:∀n ob,s1.o n=some ob→∃ob0,s.o n=some ob0∧al ob=al ob0∧∀L b o,fp L n ob b o↔fp L n ob0 b o:=by
  intro n ob e
  rw[hs1]at e
  exact(Lr e).2
 have hI2I:∀b,I b→I2 b:=by
  grind
 have lentI:S.shares=true→∀b,Y.I0 b→I b:=by
  intro hq b q
  rcases(hYI b).1 q with q|⟨m,hm,_⟩
  ·exact q
  ·grind
 have ET:∀b o,Y.E b o→∃n ob,n∈(ts.flatMap cr.pair).map Prod.snd∧s.o n=some ob∧fp L n ob b o:=by
  grind
 have EX0:∀b o,Y.E b o→b<X.w0.heap.size→X.E b o:=by
  intro b o q q2
  obtain⟨n,ob,_,h4,h5⟩:=ET b o q
  exact(h.own n ob h4 b o h5).2.2 q2
 have EI:∀b o,Y.E b o→¬I b:=by
  intro b o q
  obtain⟨n,ob,_,h4,h5⟩:=ET b o q
  exact(h.own n ob h4 b o h5).2.1
 -- an object that is not written is not lent
 have notE:∀n ob,s1.o n=some ob→bm ups n=none→∀b o,fp L n ob b o→¬Y.E b o:=by
  intro n ob e hn b o q qE
  obtain⟨n',ob',h3,h4,h5⟩:=ET b o qE
  obtain⟨ob0,h6,_,h7⟩:=old n ob e
  obtain rfl:=h.sep n n' ob0 ob' h6 h4 b o ((h7 L b o).1 q) h5
  have h8:=hall n h3
  rw[e]at h8
  exact(B7.1 hn) (iU.1 h8)
 have I2sub:∀b,I2 b→I' b:=by
  grind
 have hI2:∀b,I2 b→b<w'.heap.size∧(X.I0 b∨X.w0.heap.size≤b∨∀o,X.E b o):=by
  rintro b (⟨q1,q⟩|⟨q1,q⟩)
  ·obtain⟨g1,g2⟩:=hE.imm b q
   refine⟨g1,?_⟩
   rcases g2 with g2|g2|g2
   ·exact(h.imm b (lentI q1 b g2)).2
   ·rw[hYw]at g2
    exact .inr (.inl (Nat.le_trans h.step.size g2))
   ·grind
  ·obtain⟨g1,g2⟩:=h.imm b q
   exact⟨Nat.lt_of_lt_of_le g1 hstep.size,g2⟩
 have notI2:∀b o,b<w.heap.size→¬I b→¬Y.E b o→¬I2 b:=by
  rintro b o q1 q2 q3 (⟨q4,q5⟩|⟨q4,q5⟩)
  ·rcases(hE.imm b q5).2 with g2|g2|g2
   ·grind
   ·grind
   ·grind
  ·exact q2 q5
 have rpt:∀p q,CX d ts names p=some q→∀b o,L' p.1 = .pointer (some ⟨b,o,none⟩)→∃o',L2 q.1 = .pointer (some ⟨b,o',none⟩)∧o'+q.2=o+p.2:=by
  intro p q e b o hp
  unfold CX at e
  have fs:=k9 (m:=p.1) (ts:=ts)
  split at e
  ·rename_i k0 m off len e1
   rw[e1]at fs
   rcases fs with fs|⟨f1,f2⟩
   ·cases fs
   ·cases kk:(ju p.1 && !isF d names m)with
    |false=>grind
    |true =>
     rw[kk]at e
     obtain rfl:=Option.some.inj e
     rw[Bool.and_eq_true]at kk
     obtain⟨b0,o0,cs,_,_,_,g1,g2⟩:=htag _ f1
     have:k0=p.1:=Option.some.inj f2
     rw[this, ←hkept _ kk.1,hp]at g2
     injection g2 with g2;injection g2 with g2;injection g2 with g2 g2' _
     subst g2;subst g2'
     refine⟨o0,?_,by simp only;omega⟩
     rw[←g1]
     refine hL m ?_
     rintro ⟨m',rfl,hm⟩
     have:=kk.2
     rw[show isF d names (d::m')=(Nat.beq d d&&oV m' names)from rfl,iU.2 hm,Nat.beq_refl]at this
     cases this
  ·grind [oV,iU]
  ·cases e
 have ren:Ren L' L2 I' I2 w' d ts names (!S.shares):=⟨hLF,rpt,fun q b hb => .inl ⟨by simpa using q,hb⟩⟩
 have hflt:(!S.shares)=true→te.all (fun p=>p.2.flat)=true∧oe.all (fun q=>q.2.flat)=true:=by
  grind
 have eobj:∀m ob,(m,ob)∈oe→(⟨d7 te,bm oe⟩:St).o m=some ob:=fun m ob hm=>xM hno hm
 -- the news,one by one
 have news:∀n ob',bm ups n=some ob'→∃m ob,(m,ob)∈oe∧AO d s1.o ts names m ob=some (n,ob'):=fun n ob' q=>Dn hup (pP q)
 have same:∀{m ob},(m,ob)∈oe→∀{ob2},(m,ob2)∈oe→ob=ob2:=by
  grind
 have back:∀k t n,t∈ts→t=cr.bw k n→ju k=true→L' k=L n:=by
  rintro k t n h1 rfl h3
  rw[hkept k h3]
  exact htag _ h1
 have tagOf:∀m t,js m ts=t→t.new≠none→t∈ts∧t.new=some m:=by
  intro m t e hn
  rcases k9 (m:=m) (ts:=ts)with q|q
  ·rw[e]at q;subst q;exact absurd rfl hn
  ·grind
 have hU:∀n ob',bm ups n=some ob'→F n∨∃ob,s1.o n=some ob∧al ob'=al ob:=by
  intro n ob' q
  obtain⟨m,ob,hm,hu⟩:=news n ob' q
  rcases Gi hu with⟨k,e,t,xs,e',u,xs',h1,rfl,h3,h4,h5,rfl⟩|⟨k,off,len,cells,cs,h1,rfl,h3,h4,h5,h6,rfl⟩|⟨e,t,xs,rfl,rfl,rfl⟩|⟨cells,rfl,rfl,rfl⟩
  ·refine .inr ⟨_,h3,?_⟩
   obtain⟨q1,q2⟩:=tagOf m _ h1 (by simp[cr.new])
   have hk:k=m:=Option.some.inj q2
   subst hk
   obtain⟨vs,g1,_⟩:=h2.obj n _ h3
   obtain⟨vs',g3,_⟩:=hE.obj k _ (eobj k _ hm)
   rw[back k _ n q1 rfl h5]at g3
   show some (t.sz,_)=some (u.sz,_)
   rw[h4,GN g1 g3]
  ·exact .inr ⟨_,h3,rfl⟩
  ·exact .inl ⟨m,rfl,ooe _ hm⟩
  ·exact .inl ⟨m,rfl,ooe _ hm⟩
 have key:=On hU
 -- where what is new stands
 have cls:∀n ob',bm ups n=some ob'→∀m ob,(m,ob)∈oe→AO d s1.o ts names m ob=some (n,ob') →
   RO L2 I2 w' (AL (s1.over ups).o) n ob'∧∀b o,fp L2 n ob' b o→fp L' m ob b o∨∃obo,s1.o n=some obo∧fp L n obo b o∧¬Y.E b o∧¬I2 b:=by
  intro n ob' q m ob hm hu
  have hob:=hE.obj m ob (eobj m ob hm)
  have hflo:(!S.shares)=true→ob.flat=true:=fun q=>by
   have:=(hflt q).2
   rw[List.all_eq_true]at this
   exact this _ hm
  rcases Gi hu with⟨k,e,t,xs,e',u,xs',h1,rfl,h3,h4,h5,rfl⟩|⟨k,off,len,cells,cs,h1,rfl,h3,h4,h5,h6,rfl⟩|⟨e,t,xs,rfl,rfl,rfl⟩|⟨cells,rfl,rfl,rfl⟩
  ·obtain⟨q1,q2⟩:=tagOf m _ h1 (by simp[cr.new])
   have hk:k=m:=Option.some.inj q2
   subst hk
   have hb:=back k _ n q1 rfl h5
   have hLn:=hL n (nF n _ h3)
   obtain⟨vs,g1,g2⟩:=hob
   refine⟨⟨vs,by rw[hLn, ←hb];exact g1,ren.frep (fun q=>by simpa [Ob.flat]using hflo q) g2⟩,fun b o qf => .inl ?_⟩
   show(L' k).ownBlock=some b
   rw[hb, ←hLn];exact qf
  ·obtain⟨q1,q2⟩:=tagOf m _ h1 (by simp[cr.new])
   have hk:k=m:=Option.some.inj q2
   subst hk
   obtain⟨b0,o0,cs0,_,_,hpos,hp1,hp2⟩:=htag _ q1
   have hLn:=hL n (nF n _ h3)
   have hLk:L' k = .pointer (some ⟨b0,o0+off,none⟩):=by rw[hkept k h6,hp2]
   obtain⟨b1,o1,us,g1,g2,g3⟩:=hob
   rw[hLk]at g1
   injection g1 with g1;injection g1 with g1;injection g1 with g1 g1' _
   subst g1;subst g1'
   obtain⟨b2,o2,vs,f1,f2,f3⟩:=h2.obj n _ h3
   rw[hp1]at f1
   injection f1 with f1;injection f1 with f1;injection f1 with f1 f1' _
   subst f1;subst f1'
   have hul:=g2.len
   have hvl:=f2.len
   have inR:∀o,o0+off≤o→o<o0+off+len→fp L' k (.box cells) b0 o:=fun o z1 z2=>⟨o0+off,hLk,z1,by omega⟩
   have notR:∀o,o0≤o→o<o0+cs.length→¬(o0+off≤o∧o<o0+off+len)→¬Y.E b0 o:=by
    intro o z1 z2 z3 z4
    obtain⟨t,y1,n',ob',⟨m',y3⟩,y4,y5,y6⟩:=(hYE b0 o).1 z4
    obtain⟨ob0,y7,_,y8⟩:=old n _ h3
    obtain rfl:=h.sep n n' ob0 ob' y7 y4 b0 o ((y8 L b0 o).1 ⟨o0,hp1,z1,z2⟩) y5
    obtain rfl:=Gm ht1 y1 q1 y3 (show(cr.pb k n off len).pair=[(k,n)]from rfl)
    obtain⟨o3,y9,y10,y11⟩:=y6
    rw[hp1]at y9
    injection y9 with y9;injection y9 with y9;injection y9 with _ y9 _
    subst y9
    exact z3 ⟨y10,y11⟩
   have hw:mV I w w':=fun b hb=>hstep.same (h.imm b hb).1 (fun j q=>EI b j q hb)
   have oldRC:aK (RC L2 I2 w' (AL (s1.over ups).o)) cs vs:=I5.mono hI2I hw (fun m' hm'=>by
    have nf:¬F m':=fun z=>(hF m' z).2.1 n cs h3 hm'
    exact⟨hL m' nf,key m' nf⟩) f2
   have newRC:=ren.rcs (A2:=AL (s1.over ups).o) (fun n' hn'=>obx k cells n' hm hn') (fun q=>by simpa [Ob.flat]using hflo q) g2
   have hml:(cells.map (uq d ts names)).length=len:=by rw[List.length_map,h5]
   refine⟨⟨b0,o0,vs.take off++us++vs.drop (off+(cells.map (uq d ts names)).length),by rw[hLn];exact hp1,((oldRC.take off).append newRC).append (oldRC.drop _),?_⟩,fun b o qf=>?_⟩
   ·obtain⟨c,T,fz,c1,cz,c2,c3⟩:=f3
    have hlt:b0<w.heap.size:=by
     rcases Nat.lt_or_ge b0 w.heap.size with z|z
     ·exact z
     ·rw[Array.getElem?_eq_none z]at c1;cases c1
    have bq:=hstep.blk b0 hlt
    rw[c1]at bq
    obtain⟨c',fz',d1,d2,d3,d4⟩:=bq
    obtain⟨c2',T2,fz2,k1,kz,k2,k3⟩:=g3
    rw[d1]at k1
    injection k1 with k1;injection k1 with k1 k1' k1''
    subst k1;subst k1';subst k1''
    refine⟨c',T,fz',d1,fun hp=>?_,?_,fun j v hj=>?_⟩
    ·rcases Nat.eq_zero_or_pos us.length with z|z
     ·have hv:0<vs.length:=by
       rw[List.length_append,List.length_append,List.length_take,List.length_drop]at hp;omega
      exact(d4 ⟨o0,notR _ (by omega) (by omega) (by omega)⟩).trans (cz hv)
     ·exact kz z
    ·rw[List.length_append,List.length_append,List.length_take,List.length_drop,hml];omega
    ·rcases Nat.lt_or_ge j off with z|z
     ·rw[List.append_assoc,List.getElem?_append_left (by rw[List.length_take];omega),List.getElem?_take,if_pos z]at hj
      rw[d3 (o0+j) (notR _ (by omega) (by omega) (by omega))]
      exact c3 j v hj
     ·have htl:(vs.take off).length=off:=by rw[List.length_take];omega
      rcases Nat.lt_or_ge j (off+len)with z2|z2
      ·rw[List.append_assoc,List.getElem?_append_right (by omega),htl,List.getElem?_append_left (by omega)]at hj
       have:=k3 (j-off) v hj
       rw[show o0+j=o0+off+(j-off)by omega]
       exact this
      ·have hjl:j<vs.length:=by
        rcases Nat.lt_or_ge j vs.length with z3|z3
        ·exact z3
        ·rw[List.getElem?_eq_none (by rw[List.length_append,List.length_append,htl,List.length_drop,hml];omega)]at hj;cases hj
       rw[List.getElem?_append_right (by rw[List.length_append,htl];omega),List.length_append,htl,List.getElem?_drop,hml]at hj
       rw[d3 (o0+j) (notR _ (by omega) (by omega) (by omega))]
       refine c3 j v ?_
       rw[show j=off+len+(j-(off+us.length))by omega]
       exact hj
   ·obtain⟨o2,y1,y2,y3⟩:=qf
    rw[hLn,hp1]at y1
    injection y1 with y1;injection y1 with y1;injection y1 with y1 y1' _
    subst y1;subst y1'
    rw[KD (cs:=cs) (new:=cells.map (uq d ts names)) (off:=off) (by omega)]at y3
    by_cases z:o0+off≤o∧o<o0+off+len
    ·exact .inl (inR o z.1 z.2)
    ·exact .inr ⟨_,h3,⟨o0,hp1,y2,y3⟩,notR o y2 y3 z,fun z2=>(hE.own k _ (eobj k _ hm) b0 (o0+off) (inR _ (by omega) (by omega))).2.1 (I2sub b0 z2)⟩
  ·obtain⟨vs,g1,g2⟩:=hob
   have hLn:=hLF m (ooe _ hm)
   refine⟨⟨vs,by rw[hLn];exact g1,ren.frep (fun q=>by simpa [Ob.flat]using hflo q) g2⟩,fun b o qf => .inl ?_⟩
   show(L' m).ownBlock=some b
   rw[←hLn];exact qf
  ·obtain⟨b0,o0,us,g1,g2,g3⟩:=hob
   have hLn:=hLF m (ooe _ hm)
   refine⟨⟨b0,o0,us,by rw[hLn];exact g1,ren.rcs (A2:=AL (s1.over ups).o) (fun n' hn'=>obx m cells n' hm hn') (fun q=>by simpa [Ob.flat]using hflo q) g2,g3⟩,fun b o qf => .inl ?_⟩
   obtain⟨o1,y1,y2,y3⟩:=qf
   rw[hLn]at y1
   rw[List.length_map]at y3
   exact⟨o1,y1,y2,y3⟩
 have ownE:∀m ob,(m,ob)∈oe→∀b o,fp L' m ob b o→b<w'.heap.size∧¬I' b∧(b<w.heap.size→Y.E b o):=by
  intro m ob hm b o q
  have:=hE.own m ob (eobj m ob hm) b o q
  rw[show({ Y with N:=Y.N }:t7).w0=w from hYw]at this
  exact this
 have hNew:∀n ob',bm ups n=some ob'→RO L2 I2 w' (AL (s1.over ups).o) n ob'∧∀b o,fp L2 n ob' b o→b<w'.heap.size∧¬I2 b∧(b<X.w0.heap.size→X.E b o) ∧
   (∀m ob,s1.o m=some ob→bm ups m=none→¬fp L m ob b o)∧∀m ob2,bm ups m=some ob2→fp L2 m ob2 b o→m=n:=by
  intro n ob' q
  obtain⟨m,ob,hm,hu⟩:=news n ob' q
  obtain⟨r1,r2⟩:=cls n ob' q m ob hm hu
  refine⟨r1,fun b o qf=>?_⟩
  rcases r2 b o qf with c1|⟨obo,c1,c2,c3,c4⟩
  ·obtain⟨o1,o2,o3⟩:=ownE m ob hm b o c1
   refine⟨o1,fun z=>o2 (I2sub b z),fun z=>EX0 b o (o3 (Nat.lt_of_lt_of_le z h.step.size)) z,fun m' obm em hn' qm=>notE m' obm em hn' b o qm (o3 (h2.own m' obm em b o qm).1),fun m2 ob2 q2 qf2=>?_⟩
   obtain⟨k,obk,hk,huk⟩:=news m2 ob2 q2
   rcases(cls m2 ob2 q2 k obk hk huk).2 b o qf2 with d1|⟨obo2,d1,d2,d3,_⟩
   ·obtain rfl:=hE.sep k m obk ob (eobj k obk hk) (eobj m ob hm) b o d1 c1
    obtain rfl:=same hk hm
    rw[huk]at hu
    exact(Prod.mk.inj (Option.some.inj hu)).1
   ·exact absurd (o3 (h2.own m2 obo2 d1 b o d2).1) d3
  ·obtain⟨p1,p2,p3⟩:=h2.own n obo c1 b o c2
   refine⟨Nat.lt_of_lt_of_le p1 hstep.size,c4,p3,fun m' obm em hn' qm=>?_,fun m2 ob2 q2 qf2=>?_⟩
   ·obtain rfl:=h2.sep n m' obo obm c1 em b o c2 qm
    rw[hn']at q;cases q
   ·obtain⟨k,obk,hk,huk⟩:=news m2 ob2 q2
    rcases(cls m2 ob2 q2 k obk hk huk).2 b o qf2 with d1|⟨obo2,d1,d2,d3,_⟩
    ·exact absurd ((ownE k obk hk b o d1).2.2 p1) c3
    ·exact h2.sep m2 n obo2 obo d1 c1 b o d2 c2
 have hR:=h2.over hstep hL hF hU hI2I (fun b j q z=>EI b j z q) hI2 (fun n ob e hn b o q=>⟨notE n ob e hn b o q,notI2 b o (h2.own n ob e b o q).1 (h2.own n ob e b o q).2.1 (notE n ob e hn b o q)⟩) hNew EX0
 refine⟨L2,I2,hR,ren.res (fun i m hm=>?_) (fun q i=>?_) (fun i=>hE.slot i) nr,fun n hn=>hL n ?_,hI2I⟩
 ·rcases Be te i with⟨p,z1,_,z2⟩|⟨_,z2⟩
  ·rw[z2]at hm;exact ote p z1 m hm
  ·rw[z2]at hm;cases List.mem_singleton.1 hm
 ·have:=(hflt q).1
  rw[List.all_eq_true]at this
  rcases Be te i with⟨p,z1,_,z2⟩|⟨_,z2⟩
  ·rw[z2];exact this p z1
  ·rw[z2];rfl
 ·rintro ⟨m,rfl,hm⟩
  have:=hkn m hm
  rw[hn]at this
  cases this
end
def Plain (P:Program) (f:FuncId):Prop:=∃fn,P.funcs[f]?=some fn∧(fn.name=="runtime.NumGoroutine")=false∧fn.body.isNone=false
structure tN (P:Program) (K:fE) (E:aB):Prop where
 τ:dZ P E.τ
 Γ:∀f d S,E.Γ f d=some S→Plain P f∧m6 P K f S
 mo:P.follows .mixedOrders=true
 alt:∀p∈E.Γ2,Plain P p.1∧m6 P K p.1 p.2
section
variable{P:Program}{X:t7}{L:Nm→Value}{I:Nat→Prop}{s:St}{a:Act}{w:World}{R:Type}
def ji.vals (a:Act):ji→List Value
 | .fn=>[]
 | .tmp t=>match a.tmps.getD t undef with
  | .func _ _ cs=>cs.toList
  |_=>[]
theorem FT{A:Nm→Option (Nat×Nat)}:∀{cs:List (Nm×Nat)}{us:List Value},yI L cs us→aK (RA L I w A) (cs.map fun p=>AV.c (.pb p.1 p.2)) us
 |[],[],_=>trivial
 |p::ps,u::us,⟨h1,h2⟩=>⟨h1,FT h2⟩
 |[],_::_,h=>h.elim
 |_::_,[],h=>h.elim
theorem F0 (h:ce X L I s a w){f:Nat}{c:ji}{xs:List Operand}{vs:List AV}(e:s.argsOf f c xs=some vs):aK (RA L I w (AL s.o)) vs (xs.map a.eval++c.vals a):=by
 cases c with
 |fn =>
  obtain rfl:=Option.some.inj e
  simpa [ji.vals]using zD h xs
 |tmp t =>
  simp only[St.argsOf]at e
  split at e
  ·rename_i g cs et
   cases q:Nat.beq f g with
   |false=>simp_all
   |true =>
    rw[q]at e
    obtain rfl:=Option.some.inj e
    have r:=h.slot t
    rw[et]at r
    obtain⟨us,r1,r2⟩:=r
    refine(zD h xs).append ?_
    rw[show ji.vals a (.tmp t)=us by simp only[ji.vals,r1]]
    exact FT r2
  ·cases e
theorem uV{A:Nm→Option (Nat×Nat)}{c:CV}{u:Value}(r:RC L I w A c u) (g:Option Nat):∃u',RA L I w A (IL c g) u':=by
 unfold IL
 split
 ·exact⟨_,r⟩
 ·split
  ·rename_i p e
   obtain⟨us,_,r2⟩:=r
   obtain⟨u',_,r3⟩:=(FT (I:=I) (w:=w) (A:=A) r2).get (i:=_) (a:=AV.c (.pb p.1 p.2)) (by rw[List.getElem?_map,e];rfl)
   exact⟨u',r3⟩
  ·exact⟨undef,trivial⟩
 ·exact⟨undef,trivial⟩
theorem aK.getD{R:CV→Value→Prop}(hd:∀u,R .dead u){as:List CV}{bs:List Value}(h:aK R as bs) (i:Nat):∃u,R (as.getD i .dead) u:=by
 rw[List.getD_eq_getElem?_getD]
 cases e:as[i]? with
 |none=>simp_all
 |some a=>obtain⟨u,_,r⟩:=h.get e;exact⟨u,r⟩
theorem FG (h:ce X L I s a w){vs:List AV}{us:List Value}(r:aK (RA L I w (AL s.o)) vs us) (g:Nat×Nat×Option Nat):∃u,RA L I w (AL s.o) (FH s.o vs g) u:=by
 unfold FH
 split
 ·rename_i m off e
  split
  ·rename_i cs em
   obtain⟨b,o,vs',_,r1,_⟩:=h.obj m _ em
   obtain⟨u,r2⟩:=r1.getD (fun _=>trivial) (off+g.2.1)
   exact uV r2 _
  ·exact⟨undef,trivial⟩
 ·rename_i f cs e
  obtain⟨u,_,r1⟩:=r.get e
  exact uV (c := .clo f cs) r1 _
 ·rename_i cs e
  obtain⟨u,_,r1⟩:=r.get e
  obtain⟨vs',_,r1⟩:=r1
  obtain⟨u,r2⟩:=r1.getD (fun _=>trivial) g.2.1
  exact uV r2 _
 ·exact⟨undef,trivial⟩
theorem xZ (h:ce X L I s a w):∀(gh:List (Nat×Nat×Option Nat)){vs:List AV}{us:List Value},aK (RA L I w (AL s.o)) vs us→∃us',aK (RA L I w (AL s.o)) (rt s.o vs gh) (us++us')
 |[],vs,us,r=>⟨[],by simpa [rt]using r⟩
 |g::gh,vs,us,r=>by
  obtain⟨u,r1⟩:=FG h r g
  obtain⟨us',r2⟩:=xZ h gh (r.append (show aK (RA L I w (AL s.o)) [FH s.o vs g] [u]from⟨r1,trivial⟩))
  exact⟨u::us',by simpa [rt]using r2⟩
theorem AF (h:ce X L I s a w){f:FuncId}{S:aa}{K:fE}(hK:X.K=K) (ob:m6 P K f S){c:ji}{xs:List Operand}{d:Nat}{k:St→Option R}{y:R}(e:pw S f c xs d s k=some y) (hd:d<X.N) :
  Calls P f (xs.map a.eval++c.vals a).toArray w fun e w'=>∃v,e = .returned v∧∃s' L' I',ce X L' I' s' (a.put (some d) v) w'∧(∀n,ju n=true→L' n=L n)∧k s'=some y:=by
 unfold pw at e
 split at e
 ·rename_i vs0 ea0
  split at e
  ·rename_i ds0 ts0 e0
   have hfr:∃I1,(∀b,I b→I1 b)∧ce X L I1 (bif S.shares then s.frzs (ts0.flatMap cr.lent)else s) a w:=by
    cases S.shares with
    |true=>exact ce.frzs _ h
    |false=>grind
   obtain⟨I1,hI1,h1⟩:=hfr
   generalize (bif S.shares then s.frzs (ts0.flatMap cr.lent)else s)=s' at e h1
   unfold qk at e
   split at e
   ·rename_i vs ea
    cases q0:Nat.beq (vs.length+S.gh.length) S.pars.length with
    |false=>rw[q0]at e;cases e
    |true =>
    rw[q0]at e
    simp only[cond_true]at e
    have q0:=Nat.eq_of_beq_eq_true q0
    split at e
    ·rename_i ds ts e1
     cases q1:(ld S.pars.length (aC 0 S.pars)&&(ll ts&&(bif S.shares then gt (ts.flatMap cr.lent)else true)))with
     |false=>rw[q1]at e;cases e
     |true =>
      rw[q1]at e
      simp only[cond_true]at e
      rw[Bool.and_eq_true,Bool.and_eq_true]at q1
      obtain⟨q1,q2,q3⟩:=q1
      split at e
      ·rename_i x e2
       split at e
       ·rename_i r e3
        split at e
        ·rename_i ups e4
         cases q4:(kJ S d (s'.drops (ts.flatMap cr.moved++(S.ens.flatMap En.names).map (fun m=>d::m))).o ts (dB S.ens (ak _ r)) (g9 S.ens (ak _ r)) ups)with
         |false=>rw[show kJ S d _ ts (dB S.ens (ak _ r)) (g9 S.ens (ak _ r)) ups=false from q4]at e;cases e
         |true =>
          rw[show kJ S d _ ts (dB S.ens (ak _ r)) (g9 S.ens (ak _ r)) ups=true from q4]at e
          simp only[cond_true]at e
          let Y:t7:={ K:=X.K,N:=S.pars.length,w0:=w,E:=fun b o=>∃t∈ts, ∃n ob,(∃m,t.pair=[(m,n)])∧s'.o n=some ob∧fp L n ob b o∧EA L t b o,I0:=NH L I1 ts }
          have hus0:=F0 h1 ea
          obtain⟨us',hus⟩:=xZ h1 S.gh hus0
          have hlen:(xs.map a.eval++c.vals a++us').length=S.pars.length:=by
           grind [zq,wz,hus.len]
          have hreal:(xs.map a.eval++c.vals a).length=S.real:=by
           rw[←hus0.len];unfold aa.real;omega
          obtain⟨Lc,g1,_,g3⟩:=h1.reshape (I':=NH L I1 ts) (fun b q => .inl q) e1 hus (fun _=>Iff.rfl) q1 q2 (Y:=Y) rfl rfl (a':=⟨(xs.map a.eval++c.vals a++us').toArray,[]⟩) rfl (by simpa using hlen)
           (fun i en u z1 z2=>by
            rw[BL z1,Nat.zero_add,Array.getD_eq_getD_getElem?,List.getElem?_toArray,z2];rfl)
           (fun t n ob b o z1 z2 z3 z4 z5 _=>⟨t,z1,n,ob,z2,z3,z4,z5⟩) (fun b q => .inl q) (fun b q=>q) (bY.refl _ w) (.inr (BK _ 0))
          have hx:fu (aC 0 S.pars) x=ML (aC 0 S.pars) ds:=by unfold fu;rw[qK e2]
          have hc:=ob Y Lc _ ⟨(xs.map a.eval++c.vals a++us').toArray,[]⟩ w x r e3 (by rw[hx];exact g1) hK rfl rfl
          have hf1:first S.real (xs.map a.eval++c.vals a++us').toArray=(xs.map a.eval++c.vals a).toArray:=by
           grind [first]
          rw[show(⟨(xs.map a.eval++c.vals a++us').toArray,[]⟩:Act).tmps=(xs.map a.eval++c.vals a++us').toArray from rfl,hf1]at hc
          refine Calls.mono hc fun en w' hen=>?_
          obtain⟨v,L',I',a',rfl,hE,hk,rfl⟩:=hen
          have hE':ce { Y with N:=S.pars.length+(S.res.length+S.nb.length) } L' I' ⟨d7 (dB S.ens (ak _ r)),bm (g9 S.ens (ak _ r))⟩ a' w':=hE
          obtain⟨L2,I2,r1,r2,r3,_⟩:=UP h1 (d:=d) (Y:={ Y with N:=S.pars.length+(S.res.length+S.nb.length) }) rfl (fun _ _=>Iff.rfl) (fun _=>Iff.rfl) g3 hE' hk q2 (fun hs=>by
           rw[hs]at q3
           generalize ts.flatMap cr.lent=l at q3
           cases l with
           |nil=>rfl
           |cons _ _=>cases q3) rfl e4 q4 (fun p hp m hm=>G8 hp hm) (fun q hq=>sR hq) (fun m cs n z1 z2=>Ib z1 z2) S.pars.length S.res.length
          exact⟨_,rfl,_,L2,I2,r1.put (some d) (fun i q=>(Option.some.inj q)▸hd) r2,r3,e⟩
        ·cases e
       ·cases e
      ·cases e
    ·cases e
   ·cases e
  ·cases e
 ·cases e
def u3 (X:t7) (L:Nm→Value) (k:St→Option R) (y:R) (a:Act) (w:World):Prop :=
 ∃s' L' I',ce X L' I' s' a w∧(∀n,ju n=true→L' n=L n)∧k s'=some y
theorem Ed{d:Nat}{n:Nm}{off sz:Nat}{j:Int}{k:St→Option R}{y:R}:∀{m c:Nat},wJ s d n off sz j k c m=some y→∃q:Nat,c≤q∧q<c+m∧j=(q:Int)∧k (s.put (some d) (.c (.pb n (off+q*sz))))=some y
 |0,c,e=>by cases e
 |m+1,c,e=>by
  have e:(bif decide (j=(c:Int))then k (s.put (some d) (.c (.pb n (off+c*sz))))else wJ s d n off sz j k (c+1) m)=some y:=e
  by_cases h:j=(c:Int)
  ·grind
  ·rw[decide_eq_false h]at e
   obtain⟨q,h1,h2,h3,h4⟩:=Ed (m:=m) (c:=c+1) e
   exact⟨q,by omega,by omega,h3,h4⟩
theorem Kn (h:ce X L I s a w) {τ:nK}(hτ:dZ P τ){o:Oper}{d:Nat}(hd:o.dst=some d) (hdN:d<X.N){k:St→Option R}{y:R}(e:yD τ o.op d s k=some y) (Q:Exit→Act→World→Prop) :
  o.wp P a w (u3 X L k y) Q:=by
 cases ho:o.op with
 |indexAddr t x i =>
  rw[ho]at e
  unfold yD at e
  dsimp only at e
  split at e
  ·rename_i ti n off ik j e1 e2 e3
   cases k4:Nat.beq ti.kind 4 with
   |false=>rw[k4]at e;cases e
   |true =>
    rw[k4]at e
    simp only[cond_true]at e
    split at e
    ·rename_i te e4
     cases k5:Nat.blt 0 te.size with
     |false=>rw[k5]at e;cases e
     |true =>
      rw[k5]at e
      simp only[cond_true]at e
      have hpos:0<te.size:=Nat.le_of_ble_eq_true k5
      obtain⟨q,_,h2,rfl,h4⟩:=Ed e
      have rx:=h.ev x
      have ri:=h.ev i
      rw[e2]at rx
      rw[e3]at ri
      obtain⟨b,o0,g1,g2⟩:=rx
      obtain⟨len,hu,hn⟩:=(hτ t ti e1).array (Nat.eq_of_beq_eq_true k4)
      obtain⟨inf,hi1,hi2,_⟩:=(hτ _ te e4).info
      have hsize:ti.size=len*te.size:=by simp_all
      have hlen:ti.size / te.size=len:=by simp_all
      have hsz:=fun w=>(hτ _ te e4).sizeOf w
      have hq:q<len:=by omega
      have hg:gu P w a.eval o (.pointer (some ⟨b,o0+off+q*te.size,none⟩)):=by
       refine fq (e:=Instr.indexAt t (a.eval x) (a.eval i)) (by simp[execOp,ho]) ?_
       rw[g2,lO ri]
       have q1:(0:Int)≤(q:Int)∧(q:Int)<(len:Int):=⟨by omega,by omega⟩
       simp[Instr.indexAt,asIntOf,Instr.sureAddr,run_underlying hu,hsz,Result.andThen,q1,hq,Addr.add_lit]
      unfold Oper.wp
      rw[show(execOp a.eval o).run P w=_ from hg,Oper.upon_value,hd]
      refine⟨_,L,I,h.put (some d) (fun i hi=>(Option.some.inj hi)▸hdN) ?_,fun _ _=>rfl,h4⟩
      exact⟨b,o0,g1,by rw[Nat.add_assoc]⟩
    ·cases e
  ·cases e
 |_=>rw[ho]at e;cases e
theorem DG (h:ce X L I s a w){E:aB}(hE:tN P X.K E) (hN:E.N=X.N){o:Oper}{k:St→Option R}{y:R}(e:sN E o s k=some y) (Q:Exit→Act→World→Prop) :
  o.wp P a w (u3 X L k y) Q:=by
 unfold sN at e
 split at e
 ·rename_i f args ts ho
  split at e
  ·rename_i d hd
   split at e
   ·rename_i S hS
    cases q:Nat.blt d E.N with
    |false=>rw[q]at e;cases e
    |true =>
     rw[q]at e
     simp only[cond_true]at e
     have hdN:d<X.N:=by simp_all
     obtain⟨⟨fn,p1,p2,p3⟩,ob⟩:=hE.Γ f d S hS
     have hc:=AF h rfl ob e hdN
     rw[show args.toList.map a.eval++ji.vals a .fn=args.toList.map a.eval from List.append_nil _]at hc
     have hex:(execOp a.eval o).run P w = .ok (.enter f (args.toList.map a.eval).toArray) w:=by
      have:(args.map a.eval)=(args.toList.map a.eval).toArray:=by rw[←Array.toList_map]
      rw[←this]
      have p2':¬fn.name="runtime.NumGoroutine":=fun z=>by rw[z]at p2;cases p2
      have p3':¬fn.body=none:=fun z=>by rw[z]at p3;cases p3
      simp[execOp,ho,resolve,invoke,callFunc,Deferred.ofValue,p1,p2',p3',Result.andThen,Act.eval]
     unfold Oper.wp
     rw[hex,Oper.upon_enter]
     refine Calls.mono hc fun en w' hen=>?_
     obtain⟨v,rfl,s',L',I',r1,r2,r3⟩:=hen
     show u3 X L k y (a.put o.dst v) w'
     rw[hd]
     exact⟨s',L',I',r1,r2,r3⟩
   ·cases e
  ·cases e
 ·rename_i t args ts ho
  split at e
  ·rename_i d f cs hd hst
   split at e
   ·rename_i S hS
    cases q:Nat.blt d E.N with
    |false=>rw[q]at e;cases e
    |true =>
     rw[q]at e
     simp only[cond_true]at e
     have hdN:d<X.N:=by simp_all
     obtain⟨⟨fn,p1,p2,p3⟩,ob⟩:=hE.Γ f d S hS
     have hc:=AF h rfl ob e hdN
     have r:=h.slot t
     rw[hst]at r
     obtain⟨us,r1,_⟩:=r
     rw[show ji.vals a (.tmp t)=us by simp only[ji.vals,r1]]at hc
     have hex:(execOp a.eval o).run P w = .ok (.enter f (args.toList.map a.eval++us).toArray) w:=by
      have e1:(args.map a.eval)=(args.toList.map a.eval).toArray:=by rw[←Array.toList_map]
      have e2:(args.toList.map a.eval++us).toArray=#[]++(args.toList.map a.eval).toArray++us.toArray:=by simp
      have r1':a.eval (.tmp t) = .func (.func f) #[] us.toArray:=r1
      rw[e2, ←e1]
      have p2':¬fn.name="runtime.NumGoroutine":=fun z=>by rw[z]at p2;cases p2
      have p3':¬fn.body=none:=fun z=>by rw[z]at p3;cases p3
      simp[execOp,ho,resolve,invoke,callFunc,Deferred.ofValue,p1,p2',p3',Result.andThen,r1']
     unfold Oper.wp
     rw[hex,Oper.upon_enter]
     refine Calls.mono hc fun en w' hen=>?_
     obtain⟨v,rfl,s',L',I',r1,r2,r3⟩:=hen
     show u3 X L k y (a.put o.dst v) w'
     rw[hd]
     exact⟨s',L',I',r1,r2,r3⟩
   ·cases e
  ·cases e
 ·rename_i op _
  split at e
  ·rename_i c v ev
   cases q:eN E.N o.dst with
   |false=>rw[q]at e;cases e
   |true =>
    rw[q]at e
    simp only[cond_true]at e
    split at e
    ·obtain⟨u,g1,g2⟩:=LZ h hE.τ ev
     unfold Oper.wp
     rw[show(execOp a.eval o).run P w=_ from g1,Oper.upon_value]
     refine⟨_,L,I,h.put o.dst (fun i hi=>?_) g2,fun _ _=>rfl,e⟩
     rw[hi]at q
     rw[←hN];exact Nat.le_of_ble_eq_true q
    ·cases e
  ·have write:∀{dst:Option Nat}{s':St},o.dst=dst→(∀i,dst=some i→i<X.N)→qF E.τ o.op dst s=some (true,s')→k s'=some y→o.wp P a w (u3 X L k y) Q:=by
    intro dst s' hd hdN ew ek
    subst hd
    obtain⟨nx,w',L',I',g1,g2,g3⟩:=LX h hE.τ hdN ew
    unfold Oper.wp
    rw[g1]
    rcases g3 with⟨u,rfl,g3⟩|⟨rfl,g3⟩
    ·rw[Oper.upon_value];exact⟨s',L',I',g3,g2,ek⟩
    ·rw[Oper.upon_skip];exact⟨s',L',I',g3,g2,ek⟩
   split at e
   ·rename_i d hd
    cases q:Nat.blt d E.N with
    |false=>rw[q]at e;cases e
    |true =>
     rw[q]at e
     simp only[cond_true]at e
     have hdN:d<X.N:=by simp_all
     split at e
     ·rename_i c ob v em
      split at e
      ·obtain⟨u,w',u',g1,g2,g3⟩:=MG h hE.τ em
       unfold Oper.wp
       rw[g1,Oper.upon_value,hd]
       exact⟨_,_,I,g2.put (some d) (fun i hi=>(Option.some.inj hi)▸hdN) g3,fun m hm=>t9 L u' (fun z=>by rw[z]at hm;cases hm),e⟩
      ·cases e
     ·split at e
      ·rename_i c s' ew
       split at e
       ·exact write hd (fun i hi=>(Option.some.inj hi)▸hdN) ew e
       ·cases e
      ·exact Kn h hE.τ hd hdN e Q
   ·rename_i hd
    split at e
    ·rename_i c s' ew
     split at e
     ·exact write hd (fun i hi=>by cases hi) ew e
     ·cases e
    ·cases e
theorem Cg{v:AV}{b:Bool}(h:qh v=some b):v = .c (.v .bool b):=by
 unfold qh at h
 split at h
 ·simp_all
 ·cases h
theorem vr{c:Operand}{b:Bool}(h:qh (s.ev c)=some b):s.know c b=s:=by
 cases c with
 |tmp t =>
  have e:=Cg h
  have e:s.t t = .c (.v .bool b):=e
  have:(fun i=>bif Nat.beq i t then AV.c (.v .bool b)else s.t i)=s.t:=by
   funext i
   cases q:Nat.beq i t with
   |true=>simp_all
   |false=>rfl
  show(⟨fun i=>bif Nat.beq i t then AV.c (.v .bool b)else s.t i,s.o⟩:St)=s
  rw[this]
 |_=>rfl
theorem Dm (h:ce X L I s a w){all:List Oper}{o:Oper}{j t:Nat}{want b:Bool}(hg:o.guard=some (j,want)) (ht:(all[j]?).bind (·.dst)=some t) (hb:qh (s.t t)=some b) :
  Region.wanted o (yielded all.toArray a.tmps)=(b==want):=by
 have hv:=Cg hb
 have hsl:=h.slot t
 rw[hv]at hsl
 have hsl:a.tmps.getD t undef = .bool b:=List.head_eq_of_cons_eq hsl
 have hy:yielded all.toArray a.tmps j=some b:=by
  unfold yielded
  have:(all.toArray[j]?).bind (·.dst)=some t:=by simpa using ht
  rw[this]
  have:a.tmps[t]?=some (.bool b):=by
   rw[Array.getD_eq_getD_getElem?]at hsl
   cases q:a.tmps[t]? with
   |none=>rw[q]at hsl;cases hsl
   |some z=>simp_all
  simp[this]
 unfold Region.wanted
 rw[hg]
 show(yielded all.toArray a.tmps j==some want)=_
 rw[hy]
 cases b<;>cases want<;>rfl
theorem Rb{v:AV}(h:nE v=true):v=rn:=by
 grind [nE,split,rn]
theorem Am (h:ce X L I s a w){all:List Oper}{o:Oper}{j t:Nat}{want:Bool}(hg:o.guard=some (j,want)) (ht:(all[j]?).bind (·.dst)=some t) (hb:nE (s.t t)=true) :
  Region.wanted o (yielded all.toArray a.tmps)=false:=by
 have hv:=Rb hb
 have hsl:=h.slot t
 rw[hv]at hsl
 have hsl:a.tmps.getD t undef = .tuple #[]:=hsl
 have hy:yielded all.toArray a.tmps j=none:=by
  unfold yielded
  have:(all.toArray[j]?).bind (·.dst)=some t:=by simpa using ht
  rw[this]
  rw[Array.getD_eq_getD_getElem?]at hsl
  cases q:a.tmps[t]? with
  |none=>simp[q]
  |some z =>
   simp_all
 unfold Region.wanted
 rw[hg]
 show(yielded all.toArray a.tmps j==some want)=_
 rw[hy];rfl
theorem BO (h:ce X L I s a w){E:aB}(hE:tN P X.K E) (hN:E.N=X.N){all:List Oper}{o:Oper}{r:List Oper}{k:St→Option R}{y:R}(e:dk E all (o::r) s k=some y) (Q:Exit→Act→World→Prop) :
  if Region.wanted o (yielded all.toArray a.tmps)then o.wp P a w (u3 X L (fun s'=>dk E all r s' k) y) Q else u3 X L (fun s'=>dk E all r s' k) y (a.put o.dst undef) w:=by
 have go:sN E o s (fun s'=>dk E all r s' k)=some y→o.wp P a w (u3 X L (fun s'=>dk E all r s' k) y) Q:=fun e=>DG h hE hN e Q
 have skip:(bif eN E.N o.dst then dk E all r (s.put o.dst rn) k else none)=some y→u3 X L (fun s'=>dk E all r s' k) y (a.put o.dst undef) w:=by
  intro e
  cases q:eN E.N o.dst with
  |false=>simp_all
  |true =>
   rw[q]at e
   simp only[cond_true]at e
   refine⟨_,L,I,h.put o.dst (fun i hi=>?_) (v:=rn) rfl,fun _ _=>rfl,e⟩
   rw[hi]at q
   rw[←hN];exact Nat.le_of_ble_eq_true q
 simp only[dk]at e
 split at e
 ·rename_i hg
  rw[if_pos (by simp[Region.wanted,hg])]
  exact go e
 ·rename_i j want hg
  split at e
  ·rename_i t ht
   split at e
   ·rename_i b hb
    rw[Dm h hg ht hb]
    have hkn:∀c,c=b→s.know (.tmp t) c=s:=fun c q=>by subst q;exact vr (c := .tmp t) hb
    cases b with
    |true =>
     cases want with
     |true=>rw[if_pos (show(true==true)=true from rfl)];simp only[hkn true rfl]at e;exact go e
     |false=>rw[if_neg (by decide)];simp only[hkn true rfl]at e;exact skip e
    |false =>
     cases want with
     |false=>rw[if_pos (show(false==false)=true from rfl)];simp only[hkn false rfl]at e;exact go e
     |true=>rw[if_neg (by decide)];simp only[hkn false rfl]at e;exact skip e
   ·rename_i hb
    cases qg:nE (s.t t)with
    |false=>rw[qg]at e;cases e
    |true =>
     rw[qg,Bool.true_and]at e
     rw[Am h hg ht qg,if_neg (by decide)]
     exact skip e
  ·cases e
theorem BN{E:aB}(hE:tN P X.K E) (hN:E.N=X.N){all:List Oper}{Q:Exit→Act→World→Prop}{k:St→Option R}{y:R}(hQ:∀a w,u3 X L k y a w→Q .normal a w) :
  ∀{l:List Oper}{L1:Nm→Value}{I:Nat→Prop}{s:St}{a:Act}{w:World},ce X L1 I s a w→(∀n,ju n=true→L1 n=L n)→dk E all l s k=some y→wpList P all.toArray Q l a w
 |[],L1,I,s,a,w,h,hk,e=>wpList_nil (hQ _ _ ⟨s,L1,I,h,hk,e⟩)
 |o::r,L1,I,s,a,w,h,hk,e=>by
  have one:=BO h hE hN e Q
  have next:∀a' w',u3 X L1 (fun s'=>dk E all r s' k) y a' w'→wpList P all.toArray Q r a' w':=fun a' w' hp=>by
   obtain⟨s',L',I',r1,r2,r3⟩:=hp
   exact BN hE hN hQ r1 (fun n hn=>(r2 n hn).trans (hk n hn)) r3
  unfold wpList
  split
  ·rename_i hw;rw[if_pos hw]at one;exact .inl (Oper.wp_mono next one)
  ·simp_all
end
section
variable{P:Program}{X:t7}{L:Nm→Value}{I:Nat→Prop}{s:St}{a:Act}{w:World}{R:Type}
theorem e9{a b:Nat}(h:a≠b):Nat.beq a b=false:=by
 cases q:Nat.beq a b with
 |false=>rfl
 |true=>simp_all
theorem zg{l:List Nm}:gt l=true↔l=[]:=by cases l<;>simp[gt]
theorem IP{S:aa}{xs:List Operand}{d:Nat}{v:AV}(e:Ew S (xs.map s.ev) d s.o=some v) (f:Nat) (k:St→Option R):pw S f .fn xs d s k=k (s.put (some d) v):=by
 unfold Ew at e
 split at e
 ·rename_i ds ts e1
  cases q:WD S ts with
  |false=>simp_all
  |true =>
   rw[q]at e
   simp only[cond_true]at e
   unfold WD at q
   rw[Bool.and_eq_true,Bool.and_eq_true,Bool.and_eq_true,Bool.and_eq_true,Bool.and_eq_true,zg,zg]at q
   obtain⟨qg,qt,q1,q2,q3,q4⟩:=q
   have hgh:S.gh=[]:=by
    generalize S.gh=l at qg
    cases l with
    |nil=>rfl
    |cons _ _=>cases qg
   have hpts:ts.flatMap cr.pts=[]:=by
    generalize ts.flatMap cr.pts=l at qt
    cases l with
    |nil=>rfl
    |cons _ _=>cases qt
   have hvl:Nat.beq ((xs.map s.ev).length+S.gh.length) S.pars.length=true:=by
    have:=zq e1
    rw[wz]at this
    rw[this,hgh];exact Nat.beq_refl _
   split at e
   ·rename_i x e2
    split at e
    ·rename_i r e3
     cases q5:(bif S.shares then true else(dB S.ens (ak (bE (ej S.pars S.res S.nb)) r)).all (fun p=>p.2.flat))with
     |false=>simp_all
     |true =>
      rw[q5]at e
      obtain rfl:=Option.some.inj e
      have hs:(bif S.shares then s.frzs (ts.flatMap cr.lent)else s)=s:=by
       cases hsh:S.shares with
       |false=>rfl
       |true =>
        rw[hsh]at q3
        rw[zg.1 q3];rfl
      have hp:ts.flatMap cr.pair=[]:=List.map_eq_nil_iff.1 q2
      have hm:ts.flatMap cr.moved=[]:=by
       rw[List.flatMap_eq_nil_iff]at hp ⊢
       intro t ht
       have:=hp t ht
       cases t<;>simp_all [cr.pair,cr.moved]
      have ho:g9 S.ens (ak (bE (ej S.pars S.res S.nb)) r)=[]:=by
       rcases hmb:g9 S.ens (ak (bE (ej S.pars S.res S.nb)) r)with _|⟨z,l⟩
       ·rfl
       ·have:=sR (q:=z) (by rw[hmb];exact List.mem_cons_self ..)
        rw[q4]at this;cases this
      have htags:ll ts=true:=by
       grind [ll,sP,F1,oV]
      have hok:kJ S d s.o ts (dB S.ens (ak (bE (ej S.pars S.res S.nb)) r)) [] []=true:=by
       simp_all [kJ,sP]
      unfold pw
      rw[show s.argsOf f .fn xs=some (xs.map s.ev)from rfl]
      dsimp only
      rw[hgh,show rt s.o (xs.map s.ev) []=xs.map s.ev from rfl,e1]
      dsimp only
      rw[hs]
      unfold qk
      rw[show s.argsOf f .fn xs=some (xs.map s.ev)from rfl]
      dsimp only
      rw[hvl]
      simp only[cond_true]
      rw[hgh,show rt s.o (xs.map s.ev) []=xs.map s.ev from rfl,e1]
      dsimp only
      rw[q1,htags,q3]
      simp only[Bool.and_true,cond_true,Bool.true_and]
      rw[e2]
      dsimp only
      rw[e3]
      dsimp only
      rw[hm,q4,ho]
      simp only[List.map_nil,List.append_nil,St.drops,po]
      rw[hok]
      rfl
    ·cases e
   ·cases e
 ·cases e
theorem QN{E:aB}{o:Oper}{v:AV}(e:My E o s.ev s.o=some (true,v)) (hd:eN E.N o.dst=true) (k:St→Option R):sN E o s k=k (s.put o.dst v):=by
 unfold My at e
 unfold sN
 split at e
 ·grind [split,IP,My,St.ev,eN,sN,St.put]
 ·rename_i op hno
  split
  ·simp_all
  ·simp_all [iC]
  ·simp_all
theorem yL {τ:nK}{op:Op}{e e':Operand→AV}{o:Nm→Option Ob}(h:∀x∈op.operands,e x=e' x):iC τ op e o=iC τ op e' o:=by
 have pairs:∀ps:Array (Nat×Operand),(∀x∈(ps.toList.map (·.2)).toArray,e x=e' x)→(ps.toList.map fun p=>(p.1,e p.2))=(ps.toList.map fun p=>(p.1,e' p.2)):=fun ps hp =>
  List.map_congr_left fun p hm=>by rw[hp p.2 (by simp;exact⟨p.1,by simpa using hm⟩)]
 cases op<;>simp only[Op.operands]at h<;>simp only[iC]
 case build t ps=>rw[pairs ps h]
 case call c =>
  obtain⟨cl,xs,ts⟩:=c
  cases cl with
  |builtin b =>
   have:xs.toList.map e=xs.toList.map e':=List.map_congr_left fun x hx=>h x (by simp[Call.operands];simpa using hx)
   simp only[this]
  |_=>rfl
 case lookup t m k ok =>
  cases ok with
  |true=>rfl
  |false =>
   have h1:=h m (by simp)
   have h2:=h k (by simp)
   simp only[h1,h2]
 case makeFunc fn xs ys =>
  cases fn with
  |func f =>
   have:ys.toList.map e=ys.toList.map e':=List.map_congr_left fun x hx=>h x (by simp;exact .inr (by simpa using hx))
   simp only[this]
  |_=>rfl
 case slice t x lo hi mx =>
  cases mx with
  |some m=>rfl
  |none =>
   have h1:=h x (by simp)
   have h2:lo.map e=lo.map e':=by cases lo with
    |none=>rfl
    |some l=>exact congrArg some (h l (by simp))
   have h3:hi.map e=hi.map e':=by cases hi with
    |none=>rfl
    |some l=>exact congrArg some (h l (by simp))
   simp only[h1,h2,h3]
 all_goals first
  |rfl
  |(simp at h;simp only[h];done)
  |(simp at h;rw[h];done)
  |(simp at h;obtain⟨h1,h2⟩:=h;simp only[h1,h2];done)
  |(simp at h;obtain⟨h1,h2,h3⟩:=h;simp only[h1,h2,h3];done)
theorem Mw{E:aB}{o:Oper}{e e':Operand→AV}{ob:Nm→Option Ob}(h:∀x∈o.op.operands,e x=e' x):My E o e ob=My E o e' ob:=by
 unfold My
 split
 ·rename_i f args ts ho
  rw[ho]at h
  have:args.toList.map e=args.toList.map e':=List.map_congr_left fun x hx=>h x (by simp[Op.operands,Call.operands];exact .inr (by simpa using hx))
  rw[this]
 ·exact yL h
theorem Nn{S:aa}{vs:List AV}{d:Nat}{o:Nm→Option Ob}(k:AV→Option R):Kf S vs d o k=match Ew S vs d o with|some v=>k v|none=>none:=by
 grind [Kf,Ew,split,WD,dB,ak,bE,ej]
theorem Fi{E:aB}{o:Oper}{e:Operand→AV}{ob:Nm→Option Ob}(k:AV→Option R):Mx E o e ob k=match(match My E o e ob with|some (true,v)=>some v|_=>none)with|some v=>k v|none=>none:=by
 unfold Mx My
 split
 ·grind [split,Nn,Ew]
 ·grind
def EP (E:aB) (all:List Oper) (o:Oper) (s:St):Option AV :=
 match o.guard with
 |none=>match My E o s.ev s.o with
  |some (true,v)=>some v
  |_=>none
 |some (j,want)=>match(all[j]?).bind (·.dst)with
  |some t=>match qh (s.t t)with
   |some b=>match b==want with
    |true=>match My E o s.ev s.o with
     |some (true,v)=>some v
     |_=>none
    |false=>some rn
   |none=>match nE (s.t t)with
    |true=>some rn
    |false=>none
  |none=>none
theorem yT (E:aB) (all:List Oper) (o:Oper) (r:List Oper) (s:St) (k:St→Option R) :
  oU E all (o::r) s k=bif eN E.N o.dst then(match EP E all o s with|some v=>oU E all r (s.put o.dst v) k|none=>none)else none:=by
 simp only[oU]
 congr 1
 unfold EP
 cases hg:o.guard with
 |none=>exact Fi _
 |some gw =>
  obtain⟨j,want⟩:=gw
  dsimp only
  cases ht:(all[j]?).bind (·.dst)with
  |none=>rfl
  |some t =>
   dsimp only
   cases hb:qh (s.t t)with
   |none=>cases qg:nE (s.t t)<;>rfl
   |some b =>
    dsimp only
    have hkn:∀c,c=b→s.know (.tmp t) c=s:=fun c q=>by subst q;exact vr (c := .tmp t) hb
    cases b with
    |true =>
     simp only[hkn true rfl]
     cases want with
     |true=>exact Fi _
     |false=>rfl
    |false =>
     simp only[hkn false rfl]
     cases want with
     |false=>exact Fi _
     |true=>rfl
theorem Gh{E:aB}{all:List Oper}{o:Oper}{x:Option Nat}{u:AV}(h:∀d,x=some d→d∉o.looksAt all.toArray):EP E all o (s.put x u)=EP E all o s:=by
 cases x with
 |none=>rfl
 |some d =>
  have hd:=h d rfl
  have hop:My E o (s.put (some d) u).ev (s.put (some d) u).o=My E o s.ev s.o:=by
   refine Mw fun y hy=>?_
   cases y with
   |tmp t =>
    have:t≠d:=fun q=>hd (List.mem_append_left _ (List.mem_filterMap.2 ⟨.tmp t,by simpa using hy,by rw[q]⟩))
    show(bif Nat.beq t d then u else s.t t)=s.t t
    rw[e9 this];rfl
   |_=>rfl
  unfold EP
  rw[hop]
  cases hg:o.guard with
  |none=>rfl
  |some gw =>
   obtain⟨j,want⟩:=gw
   dsimp only
   cases ht:(all[j]?).bind (·.dst)with
   |none=>rfl
   |some t =>
    have:t≠d:=fun q=>hd (List.mem_append_right _ (by
     rw[hg]
     have ht':(all.toArray[j]?).bind (·.dst)=some t:=by simpa using ht
     simp only[ht',q]
     simp))
    have hst:(s.put (some d) u).t t=s.t t:=by
     simp_all [e9,EP,St.put]
    simp only[hst]
theorem rF{x y:Option Nat}{u v:AV}(h:∀d,x=some d→y≠some d):(s.put x u).put y v=(s.put y v).put x u:=by
 cases x with
 |none=>rfl
 |some d =>
  cases y with
  |none=>rfl
  |some e =>
   have hne:d≠e:=fun q=>h d rfl (by rw[q])
   show(⟨_,_⟩:St)=⟨_,_⟩
   congr 1
   funext i
   show(bif Nat.beq i e then v else bif Nat.beq i d then u else s.t i)=bif Nat.beq i d then u else bif Nat.beq i e then v else s.t i
   cases q1:Nat.beq i e with
   |false=>rfl
   |true =>
    simp_all [e9]
theorem Px{E:aB}{all:List Oper}{oj:Oper}{k:St→Option R}{y:R}{B:List Oper}:∀{A:List Oper}{s:St},oU E all (A++oj::B) s k=some y→(∀oi∈A,oi.apart all.toArray oj=true) →
  eN E.N oj.dst=true∧∃v,EP E all oj s=some v∧oU E all (A++B) (s.put oj.dst v) k=some y
 |[],s,e,_=>by
  grind [yT,eN,split]
 |oi::A,s,e,h=>by
  rw[List.cons_append,yT]at e
  cases q:eN E.N oi.dst with
  |false=>simp_all
  |true =>
   rw[q]at e
   simp only[cond_true]at e
   split at e
   ·rename_i u eu
    obtain⟨g1,v,g2,g3⟩:=Px e (fun x hx=>h x (List.mem_cons_of_mem _ hx))
    obtain⟨h1,h2,h3⟩:=Oper.apart_spec (h oi (List.mem_cons_self ..))
    rw[Gh h1]at g2
    refine⟨g1,v,g2,?_⟩
    rw[List.cons_append,yT,q]
    simp only[cond_true]
    rw[Gh h3,eu]
    dsimp only
    rw[←rF h2]
    exact g3
   ·cases e
theorem L8 (h:ce X L I s a w){E:aB}(hE:tN P X.K E) (hN:E.N=X.N){all:List Oper}{o:Oper}{v:AV}(hd:eN E.N o.dst=true) (e:EP E all o s=some v) (Q:Exit→Act→World→Prop) :
  if Region.wanted o (yielded all.toArray a.tmps)then o.wp P a w (u3 X L (fun s'=>some s') (s.put o.dst v)) Q else u3 X L (fun s'=>some s') (s.put o.dst v) (a.put o.dst undef) w:=by
 have go:∀{q:Option (Bool×AV)},My E o s.ev s.o=q→(match q with|some (true,v)=>some v|_=>none)=some v→o.wp P a w (u3 X L (fun s'=>some s') (s.put o.dst v)) Q:=by
  grind [DG,QN]
 unfold EP at e
 cases hg:o.guard with
 |none =>
  rw[hg]at e
  rw[if_pos (by simp[Region.wanted,hg])]
  exact go rfl e
 |some gw =>
  obtain⟨j,want⟩:=gw
  rw[hg]at e
  dsimp only at e
  split at e
  ·rename_i t ht
   split at e
   ·rename_i b hb
    rw[Dm h hg ht hb]
    split at e
    ·rename_i hbw
     rw[if_pos hbw]
     exact go rfl e
    ·rename_i hbw
     rw[if_neg (by rw[hbw];decide)]
     obtain rfl:=Option.some.inj e
     refine⟨_,L,I,h.put o.dst (fun i hi=>?_) (v:=rn) rfl,fun _ _=>rfl,rfl⟩
     rw[hi]at hd
     rw[←hN];exact Nat.le_of_ble_eq_true hd
   ·split at e
    ·rename_i qg
     rw[Am h hg ht qg,if_neg (by decide)]
     obtain rfl:=Option.some.inj e
     refine⟨_,L,I,h.put o.dst (fun i hi=>?_) (v:=rn) rfl,fun _ _=>rfl,rfl⟩
     rw[hi]at hd
     rw[←hN];exact Nat.le_of_ble_eq_true hd
    ·cases e
  ·cases e
def px (v:AV):Prop:=∀n,v.drop n=v∧(∀t xs,v.frz n t xs=v)∧∀k,v.past n k=v
theorem Gn (c:Value):px (qN c):=by
 intro n
 have cells:∀(l:List CV),(∀x∈l, ∀m,¬eA x m)→l.map (CV.drop n)=l∧(∀t xs,l.map (CV.frz n t xs)=l)∧∀k,l.map (CV.past n k)=l:=by
  intro l
  induction l with
  |nil=>simp_all
  |cons x l ih =>
   intro h
   obtain⟨h1,h2,h3⟩:=ih (fun y hy=>h y (List.mem_cons_of_mem _ hy))
   have hx:x.drop n=x∧(∀t xs,x.frz n t xs=x)∧∀k,x.past n k=x:=by
    have:=h x (List.mem_cons_self ..)
    cases x with
    |own m=>exact absurd rfl (this m)
    |pb m i=>exact absurd rfl (this m)
    |pa m _ _ _=>exact absurd rfl (this m)
    |mp m=>exact absurd rfl (this m)
    |clo f cs =>
     cases cs with
     |nil=>exact⟨rfl,fun _ _=>rfl,fun _=>rfl⟩
     |cons p cs=>exact absurd ⟨p,List.mem_cons_self ..,rfl⟩ (this p.1)
    |_=>exact⟨rfl,fun _ _=>rfl,fun _=>rfl⟩
   exact⟨by rw[List.map_cons,hx.1,h1],fun t xs=>by rw[List.map_cons,hx.2.1,h2],fun k=>by rw[List.map_cons,hx.2.2,h3]⟩
 unfold qN
 split
 ·exact⟨rfl,fun _ _=>rfl,fun _=>rfl⟩
 ·exact⟨rfl,fun _ _=>rfl,fun _=>rfl⟩
 ·exact⟨rfl,fun _ _=>rfl,fun _=>rfl⟩
 ·exact⟨rfl,fun _ _=>rfl,fun _=>rfl⟩
 ·rename_i cs
  have:=cells (cs.toList.map fun
   | .int k n=>CV.v (.int k) n
   | .bool b => .v .bool b
   | .string s => .v .str s
   | .slice none 0 0 => .nil
   |u => .raw u) (fun x hx m=>by
    obtain⟨u,_,rfl⟩:=List.mem_map.1 hx
    split<;>exact id)
  exact⟨congrArg AV.g this.1,fun t xs=>congrArg AV.g (this.2.1 t xs),fun k=>congrArg AV.g (this.2.2 k)⟩
 ·exact⟨rfl,fun _ _=>rfl,fun _=>rfl⟩
section
variable{df:Nat}{v:AV}
theorem ur (hv:px v) (n:Nm):(s.put (some df) v).drop n=(s.drop n).put (some df) v:=by
 show(⟨_,_⟩:St)=⟨_,_⟩
 congr 1
 funext i
 show(bif Nat.beq i df then v else s.t i).drop n=bif Nat.beq i df then v else(s.t i).drop n
 cases Nat.beq i df with
 |true=>exact(hv n).1
 |false=>rfl
theorem Og (hv:px v) (n:Nm) (k:Nat):(s.put (some df) v).past n k=(s.past n k).put (some df) v:=by
 show(⟨_,_⟩:St)=⟨_,_⟩
 congr 1
 funext i
 show(bif Nat.beq i df then v else s.t i).past n k=bif Nat.beq i df then v else(s.t i).past n k
 cases Nat.beq i df with
 |true=>exact(hv n).2.2 k
 |false=>rfl
theorem BE (hv:px v) (n:Nm) (t:Ty) (xs:List t.den):(s.put (some df) v).freeze n t xs=(s.freeze n t xs).put (some df) v:=by
 show(⟨_,_⟩:St)=⟨_,_⟩
 congr 1
 funext i
 show(bif Nat.beq i df then v else s.t i).frz n t xs=bif Nat.beq i df then v else(s.t i).frz n t xs
 cases Nat.beq i df with
 |true=>exact(hv n).2.1 t xs
 |false=>rfl
theorem Dx (hv:px v):∀(ns:List Nm) (s:St),(s.put (some df) v).drops ns=(s.drops ns).put (some df) v
 |[],_=>rfl
 |n::r,s=>by
  show((s.put (some df) v).drop n).drops r=((s.drop n).drops r).put (some df) v
  rw[ur hv,Dx hv r]
theorem Gz (hv:px v):∀(ns:List Nm) (s:St),(s.put (some df) v).frzs ns=(s.frzs ns).put (some df) v
 |[],_=>rfl
 |n::r,s=>by
  show((s.put (some df) v).frz1 n).frzs r=((s.frz1 n).frzs r).put (some df) v
  have:(s.put (some df) v).frz1 n=(s.frz1 n).put (some df) v:=by
   grind [St.frz1,BE,px,St.put,St.frzs]
  rw[this,Gz hv r]
theorem jf{x:Operand}(h:x ≠ .tmp df):(s.put (some df) v).ev x=s.ev x:=by
 cases x with
 |tmp t =>
  simp_all [e9,St.put,St.ev]
 |_=>rfl
theorem FL{xs:List Operand}(h:∀x∈xs,x ≠ .tmp df):xs.map (s.put (some df) v).ev=xs.map s.ev:=List.map_congr_left fun x hx=>jf (h x hx)
theorem CE{f:Nat}{c:ji}{xs:List Operand}(h:∀x∈xs,x ≠ .tmp df) (hc:∀t,c = .tmp t→t≠df):(s.put (some df) v).argsOf f c xs=s.argsOf f c xs:=by
 cases c with
 |fn=>exact congrArg some (FL h)
 |tmp t =>
  grind [e9,St.argsOf,FL,St.put]
theorem FX{S:aa}{f:Nat}{c:ji}{xs:List Operand}{d:Nat}(hv:px v) (h:∀x∈xs,x ≠ .tmp df) (hc:∀t,c = .tmp t→t≠df) (hd:d≠df) (k:St→Option R):qk S f c xs d (s.put (some df) v) k=qk S f c xs d s (fun s'=>k (s'.put (some df) v)):=by
 have hp:∀ups s1 (u:AV),(St.over ups (St.put (some df) v s1)).put (some d) u=((St.over ups s1).put (some d) u).put (some df) v:=fun ups s1 u =>
  rF (s:=St.over ups s1) (fun e he q=>hd ((Option.some.inj q).trans (Option.some.inj he).symm))
 unfold qk
 rw[CE h hc]
 rw[show(s.put (some df) v).o=s.o from rfl]
 simp only[Dx hv,hp]
 rfl
theorem AG{S:aa}{f:Nat}{c:ji}{xs:List Operand}{d:Nat}(hv:px v) (h:∀x∈xs,x ≠ .tmp df) (hc:∀t,c = .tmp t→t≠df) (hd:d≠df) (k:St→Option R):pw S f c xs d (s.put (some df) v) k=pw S f c xs d s (fun s'=>k (s'.put (some df) v)):=by
 grind [pw,CE,split,cr.lent,Gz,FX,px,St.put]
theorem ui (n:Nm) (ob:Ob):(s.put (some df) v).setO n ob=(s.setO n ob).put (some df) v:=rfl
theorem Bk {α β:Type}(c:Bool) (f:α→β) (x y:Option α):Option.map f (bif c then x else y)=bif c then Option.map f x else Option.map f y:=by grind
theorem Dl {τ:nK}{op:Op}{dst:Option Nat}(hv:px v) (h:∀x∈op.operands,x ≠ .tmp df) (hd:∀d,dst=some d→d≠df) :
  qF τ op dst (s.put (some df) v)=(qF τ op dst s).map fun p=>(p.1,p.2.put (some df) v):=by
 have hp:∀s1 (u:AV),(St.put (some df) v s1).put dst u=(St.put dst u s1).put (some df) v:=fun s1 u =>
  rF (s:=s1) (fun e he q=>hd _ q (Option.some.inj he).symm)
 cases op with
 |store t a x =>
  have h1:=jf (s:=s) (v:=v) (h a (by simp[Op.operands]))
  have h2:=jf (s:=s) (v:=v) (h x (by simp[Op.operands]))
  simp only[qF,h1,h2]
  rw[show(s.put (some df) v).o=s.o from rfl]
  split
  ·rename_i ti p new e1 e2 e3
   cases(Nat.beq new.length ti.size&&new.all CV.fine)with
   |false=>rfl
   |true =>
    simp only[cond_true]
    split
    ·rename_i nm ob e4
     show some (true,St.put dst _ (St.put (some df) v (s.setO nm ob)))=some (true,St.put (some df) v (St.put dst _ (s.setO nm ob)))
     rw[hp]
    ·rfl
  ·rfl
 |slice ty x lo hi mx =>
  cases mx with
  |some m=>rfl
  |none =>
   have h1:=jf (s:=s) (v:=v) (h x (by simp[Op.operands]))
   have h2:lo.map (s.put (some df) v).ev=lo.map s.ev:=by
    cases lo with
    |none=>rfl
    |some l=>simp_all [jf,Op.operands]
   have h3:hi.map (s.put (some df) v).ev=hi.map s.ev:=by
    cases hi with
    |none=>rfl
    |some l=>simp_all [jf,Op.operands]
   simp only[qF,h1,h2,h3]
   rw[show(s.put (some df) v).o=s.o from rfl]
   split
   ·rename_i ti n e1 e2
    cases Nat.beq ti.kind 3 with
    |false=>rfl
    |true =>
     simp only[cond_true]
     split
     ·rename_i el t xs te e3 e4
      cases Nat.beq te.size t.sz with
      |false=>rfl
      |true =>
       simp only[cond_true]
       split<;>first
        |rfl
        |(simp only[BE hv,hp,Option.map_some];done)
        |(simp only[hp,Option.map_some];done)
     ·rfl
   ·rfl
 |convert q d x =>
  have h1:=jf (s:=s) (v:=v) (h x (by simp[Op.operands]))
  simp only[qF,h1]
  rw[show(s.put (some df) v).o=s.o from rfl]
  simp only[ur hv,hp]
  repeat' (first|rfl|split)
  all_goals simp only[Bk,Option.map_none,Option.map_some]
 |mapUpdate t m k x =>
  have h1:=jf (s:=s) (v:=v) (h m (by simp[Op.operands]))
  have h2:=jf (s:=s) (v:=v) (h k (by simp[Op.operands]))
  have h3:=jf (s:=s) (v:=v) (h x (by simp[Op.operands]))
  simp only[qF,h1,h2,h3]
  rw[show(s.put (some df) v).o=s.o from rfl]
  simp only[ui,hp]
  repeat' (first|rfl|split)
  all_goals simp only[Bk,Option.map_none,Option.map_some]
 |mapEntry t m k =>
  have h1:=jf (s:=s) (v:=v) (h m (by simp[Op.operands]))
  have h2:=jf (s:=s) (v:=v) (h k (by simp[Op.operands]))
  simp only[qF,h1,h2]
  rw[show(s.put (some df) v).o=s.o from rfl]
  simp only[ui,hp]
  repeat' (first|rfl|split)
  all_goals simp only[Bk,Option.map_none,Option.map_some]
 |entryStore t m j x =>
  have h1:=jf (s:=s) (v:=v) (h m (by simp[Op.operands]))
  have h2:=jf (s:=s) (v:=v) (h j (by simp[Op.operands]))
  have h3:=jf (s:=s) (v:=v) (h x (by simp[Op.operands]))
  simp only[qF,h1,h2,h3]
  rw[show(s.put (some df) v).o=s.o from rfl]
  simp only[ui,hp]
  repeat' (first|rfl|split)
 |call c =>
  obtain⟨cl,xs,ts⟩:=c
  cases cl with
  |builtin b =>
   cases b with
   |append =>
    have h1:xs.toList.map (s.put (some df) v).ev=xs.toList.map s.ev:=FL fun x hx=>h x (by simp[Op.operands,Call.operands];simpa using hx)
    simp only[qF,h1]
    rw[show(s.put (some df) v).o=s.o from rfl]
    simp only[ur hv,Og hv,ui,hp]
    repeat' (first|rfl|split)
    all_goals simp only[Bk,Option.map_none,Option.map_some]
   |_=>rfl
  |_=>rfl
 |_=>rfl
theorem MH {τ:nK}{op:Op}{e e':Operand→AV}{nm:Nm}(h:∀x∈op.operands,e x=e' x):v8 τ op e nm=v8 τ op e' nm:=by
 cases op with
 |alloc t=>rfl
 |box t x=>simp_all [v8,Op.operands]
 |buildSlice t n ps =>
  have:(ps.toList.map fun p=>(p.1,e p.2))=(ps.toList.map fun p=>(p.1,e' p.2)):=List.map_congr_left fun p hm=>by rw[h p.2 (by simp[Op.operands];exact⟨p.1,by simpa using hm⟩)]
  simp only[v8,this]
 |makeSlice t l c=>simp_all [v8,Op.operands]
 |makeMap t r=>cases r<;>rfl
 |_=>rfl
theorem Cm{df d:Nat}{v:AV}(hd:d≠df){n:Nm}{off sz:Nat}{j:Int}(k:St→Option R):∀(m c:Nat),wJ (s.put (some df) v) d n off sz j k c m=wJ s d n off sz j (fun s'=>k (s'.put (some df) v)) c m
 |0,c=>rfl
 |m+1,c=>by
  show(bif decide (j=(c:Int))then k ((s.put (some df) v).put (some d) _)else wJ (s.put (some df) v) d n off sz j k (c+1) m)=(bif decide (j=(c:Int))then k ((s.put (some d) _).put (some df) v)else wJ s d n off sz j (fun s'=>k (s'.put (some df) v)) (c+1) m)
  rw[Cm hd k m (c+1),rF (s:=s) (fun e he q=>hd ((Option.some.inj q).trans (Option.some.inj he).symm))]
theorem Ko {τ:nK}{op:Op}{df d:Nat}{v:AV}(h:∀x∈op.operands,x ≠ .tmp df) (hd:d≠df) (k:St→Option R):yD τ op d (s.put (some df) v) k=yD τ op d s (fun s'=>k (s'.put (some df) v)):=by
 cases op with
 |indexAddr t x i =>
  simp_all [yD,jf,split,Cm,Op.operands]
 |_=>rfl
theorem yU{E:aB}{o:Oper}(hv:px v) (h:∀x∈o.op.operands,x ≠ .tmp df) (hd:∀d,o.dst=some d→d≠df) (k:St→Option R) :
  sN E o (s.put (some df) v) k=sN E o s (fun s'=>k (s'.put (some df) v)):=by
 have hp:∀s1 (u:AV),(St.put (some df) v s1).put o.dst u=(St.put o.dst u s1).put (some df) v:=fun s1 u =>
  rF (s:=s1) (fun e he q=>hd _ q (Option.some.inj he).symm)
 unfold sN
 split
 ·rename_i f args ts ho
  split
  ·rename_i d hdst
   split
   ·rename_i S hS
    cases Nat.blt d E.N with
    |false=>rfl
    |true =>
     simp only[cond_true]
     exact AG hv (fun x hx=>h x (by rw[ho];simp[Op.operands,Call.operands];exact .inr (by simpa using hx))) (fun t q=>by cases q) (hd d hdst) k
   ·rfl
  ·rfl
 ·rename_i t args ts ho
  have ht:t≠df:=fun q=>h (.tmp t) (by rw[ho];simp[Op.operands,Call.operands]) (by rw[q])
  have hst:(s.put (some df) v).t t=s.t t:=by
   simp_all [e9,px,sN,St.put]
  rw[hst]
  split
  ·rename_i d f cs hdst hcl
   split
   ·rename_i S hS
    cases Nat.blt d E.N with
    |false=>rfl
    |true =>
     simp only[cond_true]
     exact AG hv (fun x hx=>h x (by rw[ho];simp[Op.operands,Call.operands];exact .inr (by simpa using hx))) (fun t' q=>by injection q with q;rw[←q];exact ht) (hd d hdst) k
   ·rfl
  ·rfl
 ·have h1:iC E.τ o.op (s.put (some df) v).ev s.o=iC E.τ o.op s.ev s.o:=yL fun x hx=>jf (h x hx)
  rw[show(s.put (some df) v).o=s.o from rfl,h1]
  split
  ·rename_i c u e1
   cases eN E.N o.dst with
   |false=>rfl
   |true =>
    simp only[cond_true]
    split
    ·rw[hp]
    ·rfl
  ·split
   ·rename_i d hdst
    cases Nat.blt d E.N with
    |false=>rfl
    |true =>
     simp only[cond_true]
     have h2:v8 E.τ o.op ((s.put (some df) v).drop [d,0]).ev [d,0]=v8 E.τ o.op (s.drop [d,0]).ev [d,0]:=MH fun x hx=>by rw[ur hv];exact jf (h x hx)
     rw[h2]
     rw[hdst]at hp
     split
     ·rename_i c ob u e2
      split
      ·rw[ur hv,ui,hp]
      ·rfl
     ·rw[Dl hv h (fun e he=>hd e (hdst.trans he))]
      cases qF E.τ o.op (some d) s with
      |none=>exact Ko h (hd d hdst) k
      |some p=>obtain⟨c,s'⟩:=p;cases c<;>rfl
   ·rename_i hdst
    rw[Dl hv h (fun e he=>by cases he)]
    cases qF E.τ o.op none s with
    |none=>rfl
    |some p=>obtain⟨c,s'⟩:=p;cases c<;>rfl
end
end
theorem dU{n:Nat}:∀{l:List Nat},bo n l=true↔n∈l
 |[]=>by simp[bo]
 |m::r=>by
  unfold bo
  cases h:Nat.beq n m with
  |true=>simp_all
  |false=>have:=Nat.ne_of_beq_eq_false h;simp[this,dU (l:=r)]
theorem CH{n m:Nat}{l:List Nat}:m∈F3 n l↔m=n∨m∈l:=by
 grind [F3,bo,dU]
theorem AJ{m:Nat}:∀{xs l:List Nat},m∈yH xs l↔m∈xs∨m∈l
 |[],l=>by simp[yH]
 |n::r,l=>by
  unfold yH
  rw[AJ (xs:=r),CH,List.mem_cons]
  constructor
  ·grind
  ·grind
theorem As{acc:List (List Nat)}{i:Nat}:∀{as:List Nat},i∈u7 acc as→∃a∈as,i=a∨i∈acc.getD a []
 |[],h=>by cases h
 |a::r,h=>by
  unfold u7 at h
  rw[CH,AJ]at h
  rcases h with h|h|h
  ·simp_all
  ·simp_all
  ·obtain⟨b,h1,h2⟩:=As h
   exact⟨b,List.mem_cons_of_mem _ h1,h2⟩
def Bl (l0:List Oper) (acc:List (List Nat)):Prop :=
 ∀j,j<acc.length→∀i∈acc.getD j [], ∃o,l0[j]?=some o∧∃a∈cd o,i=a∨(a<j∧i∈acc.getD a [])
theorem Dv{l0:List Oper}:∀(l pre:List Oper) (acc:List (List Nat)),l0=pre++l→acc.length=pre.length→Bl l0 acc→Bl l0 (bn l acc)
 |[],pre,acc,_,_,h=>h
 |o::r,pre,acc,he,hl,h=>by
  refine Dv r (pre++[o]) (acc++[u7 acc (cd o)]) (by simp[he]) (by simp[hl]) ?_
  intro j hj i hi
  have get:∀a,a<acc.length→(acc++[u7 acc (cd o)]).getD a []=acc.getD a []:=fun a ha=>by
   grind
  rcases Nat.lt_or_ge j acc.length with q|q
  ·grind [Bl,bn]
  ·grind [As]
def CK (l:List Oper) (i j:Nat):Prop:=i∈(bn l []).getD j []
theorem sH{l:List Oper}{D:Nat→Prop}(hD:∀j o,D j→l[j]?=some o→∀i∈cd o,D i):∀(j:Nat){i:Nat}{o:Oper},l[j]?=some o→(∀i∈cd o,D i)→CK l i j→D i:=by
 have ok:Bl l (bn l []):=Dv l [] [] rfl rfl (fun j hj=>by simp at hj)
 intro j
 induction j using Nat.strongRecOn with
 |_ j ih =>
  intro i o ho ha hr
  have hj:j<(bn l []).length:=by
   grind [bn,CK]
  obtain⟨o',h1,a,h2,h3⟩:=ok j hj i hr
  rw[ho]at h1
  obtain rfl:=Option.some.inj h1
  rcases h3 with rfl|⟨h3,h4⟩
  ·simp_all
  ·have hda:=ha a h2
   cases hoa:l[a]? with
   |none =>
    grind
   |some oa=>exact ih a h3 hoa (hD a oa hda hoa) h4
section
variable{P:Program}{X:t7}{L:Nm→Value}{I:Nat→Prop}{s:St}{a:Act}{w:World}{R:Type}
theorem Mu (E:aB) (all:List Oper) (o:Oper) (r:List Oper) (s:St) (k:St→Option R):dk E all (o::r) s k=dk E all [o] s (fun s'=>dk E all r s' k):=by
 rfl
theorem JG{E:aB}{all:List Oper}{o:Oper}{df:Nat}{v:AV}(hv:px v) (h1:df∉o.looksAt all.toArray) (h2:∀d,o.dst=some d→d≠df) (k:St→Option R) :
  dk E all [o] (s.put (some df) v) k=dk E all [o] s (fun s'=>k (s'.put (some df) v)):=by
 have hop:∀x∈o.op.operands,x ≠ .tmp df:=fun x hx q=>h1 (List.mem_append_left _ (List.mem_filterMap.2 ⟨.tmp df,by rw[←q];simpa using hx,rfl⟩))
 have hp:∀s1 (u:AV),(St.put (some df) v s1).put o.dst u=(St.put o.dst u s1).put (some df) v:=fun s1 u =>
  rF (s:=s1) (fun e he q=>h2 _ q (Option.some.inj he).symm)
 simp only[dk]
 cases hg:o.guard with
 |none=>exact yU hv hop h2 k
 |some gw =>
  obtain⟨j,want⟩:=gw
  dsimp only
  cases ht:(all[j]?).bind (·.dst)with
  |none=>rfl
  |some t =>
   dsimp only
   have htd:t≠df:=fun q=>h1 (List.mem_append_right _ (by
    rw[hg]
    have ht':(all.toArray[j]?).bind (·.dst)=some t:=by simp_all
    simp only[ht',q]
    simp))
   have hst:(s.put (some df) v).t t=s.t t:=by
    simp_all [e9,px,dk,St.put]
   rw[hst]
   have skip0:(bif nE (s.t t)&&eN E.N o.dst then k ((s.put (some df) v).put o.dst rn)else none)=bif nE (s.t t)&&eN E.N o.dst then k ((s.put o.dst rn).put (some df) v)else none:=by rw[hp]
   cases hb:qh (s.t t)with
   |none=>exact skip0
   |some b =>
    dsimp only
    have hk1:∀c,c=b→s.know (.tmp t) c=s:=fun c q=>by subst q;exact vr (c := .tmp t) hb
    have hk2:∀c,c=b→(s.put (some df) v).know (.tmp t) c=s.put (some df) v:=fun c q=>by subst q;exact vr (c := .tmp t) (by rw[show(s.put (some df) v).ev (.tmp t)=s.t t from hst];exact hb)
    have skip:(bif eN E.N o.dst then k ((s.put (some df) v).put o.dst rn)else none)=bif eN E.N o.dst then k ((s.put o.dst rn).put (some df) v)else none:=by rw[hp]
    cases b with
    |true =>
     simp only[hk1 true rfl,hk2 true rfl]
     cases want with
     |true=>exact yU hv hop h2 k
     |false=>exact skip
    |false =>
     simp only[hk1 false rfl,hk2 false rfl]
     cases want with
     |false=>exact yU hv hop h2 k
     |true=>exact skip
theorem M9{o:Oper}(h:vv o=true):o.guard=none∧∃c,o.op = .assign (.const c)∨o.op = .move (.const c):=by
 grind [vv,split]
theorem JF{E:aB}{all:List Oper}{o:Oper}{r:List Oper}(h:vv o=true):∃v,px v∧∀(s:St) (k:St→Option R),oU E all (o::r) s k=bif eN E.N o.dst then oU E all r (s.put o.dst v) k else none:=by
 obtain⟨hg,c,hc⟩:=M9 h
 refine⟨qN c,Gn c,fun s k=>?_⟩
 simp only[oU]
 rw[hg]
 dsimp only
 congr 1
 unfold Mx
 rcases hc with hc|hc<;>rw[hc]<;>rfl
theorem Cp{E:aB}{all:List Oper}{o:Oper}{r:List Oper}{k:St→Option R}:∀{Rl:List Oper}{s:St},(∀x∈Rl,vv x=true∧x.apart all.toArray o=true) →
  oU E all Rl s (fun s'=>dk E all (o::r) s' k)=dk E all [o] s (fun s1=>oU E all Rl s1 (fun s'=>dk E all r s' k))∨oU E all Rl s (fun s'=>dk E all (o::r) s' k)=none
 |[],s,_ => .inl (by simp only[oU];exact Mu E all o r s k)
 |x::Rl,s,h=>by
  obtain⟨h1,h2⟩:=h x (List.mem_cons_self ..)
  obtain⟨g1,g2,g3⟩:=Oper.apart_spec h2
  obtain⟨v,hv,e⟩:=JF (R:=R) (E:=E) (all:=all) (r:=Rl) h1
  have e2:∀s1,oU E all (x::Rl) s1 (fun s'=>dk E all r s' k)=bif eN E.N x.dst then oU E all Rl (s1.put x.dst v) (fun s'=>dk E all r s' k)else none:=fun s1=>e s1 _
  rw[e]
  simp only[e2]
  cases q:eN E.N x.dst with
  |false=>simp_all
  |true =>
   simp only[cond_true]
   rcases Cp (E:=E) (all:=all) (o:=o) (r:=r) (k:=k) (Rl:=Rl) (s:=s.put x.dst v) (fun y hy=>h y (List.mem_cons_of_mem _ hy))with q2|q2
   ·refine .inl (q2.trans ?_)
    cases hx:x.dst with
    |none=>rfl
    |some df=>grind [JG]
   ·simp_all
theorem we{listed:Array Bool}{i j:Nat}(h:i<listed.size):(listed.setIfInBounds i true).getD j true=(if j=i then true else listed.getD j true):=by
 by_cases q:j=i
 ·simp_all
 ·rw[getD_set_ne true (Ne.symm q),if_neg q]
theorem sS{o:Oper}{i:Nat}:i∈cd o↔∃e∈o.after,Region.binds .any e=true∧e.on=i:=by
 grind [cd]
theorem uv{R:Nat→Nat→Bool}:∀{l:List Nat},eB R l=true→l.Pairwise (fun x y=>R x y=true)
 |[],_=>List.Pairwise.nil
 |x::r,h=>by
  unfold eB at h
  rw[Bool.and_eq_true,List.all_eq_true]at h
  exact List.pairwise_cons.2 ⟨h.1,uv h.2⟩
structure Left (l:List Oper) (RP TP:List Nat) (listed:Array Bool):Prop where
 sz:listed.size=l.length
 ltP:∀i∈RP,i<l.length
 ltT:∀i∈TP,i<l.length
 nd:(RP++TP).Nodup
 un:∀i,i<l.length→(listed.getD i true=false↔i∈RP∨i∈TP)
 cl:∀j o,listed.getD j false=true→l[j]?=some o→∀i∈cd o,listed.getD i false=true
 aft:∀j o,l[j]?=some o→∀i∈cd o,i<j
 pp:RP.Pairwise (fun x y=>CK l x y∨vD l x y=true)
 tt:TP.Pairwise (CK l)
 pt:∀x∈RP, ∀y∈TP,CK l x y∨(s8 l x=true∧vD l x y=true)
theorem Left.unl{l:List Oper}{RP TP:List Nat}{listed:Array Bool}(h:Left l RP TP listed){i:Nat}(hi:i∈RP∨i∈TP):listed.getD i false=false:=by
 have hl:i<l.length:=hi.elim (h.ltP i) (h.ltT i)
 have q:=(h.un i hl).2 hi
 have hs:=h.sz
 rw[Array.getD_eq_getD_getElem?]at q ⊢
 rw[Array.getElem?_eq_getElem (by omega)]at q ⊢
 exact q
theorem Left.lis{l:List Oper}{RP TP:List Nat}{listed:Array Bool}(h:Left l RP TP listed){i:Nat}(hl:i<l.length) (hi:¬(i∈RP∨i∈TP)):listed.getD i false=true:=by
 have hs:=h.sz
 have q:listed.getD i true≠false:=fun z=>hi ((h.un i hl).1 z)
 rw[Array.getD_eq_getD_getElem?]at q ⊢
 rw[Array.getElem?_eq_getElem (by omega)]at q ⊢
 simpa using q
theorem Left.next{l:List Oper}{RP TP:List Nat}{listed:Array Bool}(h:Left l RP TP listed):∀i,i∈RP∨i∈TP→∃j,j∈Region.ready .any l.toArray listed:=by
 intro i
 induction i using Nat.strongRecOn with
 |_ i ih =>
  intro hi
  have hl:i<l.length:=hi.elim (h.ltP i) (h.ltT i)
  have ho:l[i]?=some l[i]:=List.getElem?_eq_getElem hl
  by_cases q:∀a∈cd l[i],listed.getD a false=true
  ·refine⟨i,mem_ready.2 ⟨(h.un i hl).2 hi,l[i],by simp[hl],fun ed he hb=>q ed.on (sS.2 ⟨ed,he,hb,rfl⟩)⟩⟩
  ·have:∃a,a∈cd l[i]∧listed.getD a false≠true:=by
    simp_all
   obtain⟨a,h1,h2⟩:=this
   have ha:=h.aft i _ ho a h1
   refine ih a ha (Classical.byContradiction fun z=>h2 (h.lis (by omega) z))
theorem Left.ready{l:List Oper}{RP TP:List Nat}{listed:Array Bool}(h:Left l RP TP listed){i:Nat}(hi:i∈Region.ready .any l.toArray listed) :
  i<l.length∧(i∈RP∨i∈TP)∧(∀o,l[i]?=some o→∀a∈cd o,listed.getD a false=true)∧∀x,x∈RP∨x∈TP→¬CK l x i:=by
 obtain⟨h0,o,ho,hall⟩:=mem_ready.1 hi
 have hil:i<l.length:=by
  grind
 have hol:l[i]?=some o:=by simp_all
 have hA:∀a∈cd o,listed.getD a false=true:=fun a ha=>by
  grind [sS]
 refine⟨hil,(h.un i hil).1 h0,fun o' ho'=>by rw[hol]at ho';obtain rfl:=Option.some.inj ho';exact hA,fun x hx hr=>?_⟩
 have:=sH (D:=fun j=>listed.getD j false=true) (fun j o hj ho=>h.cl j o hj ho) i hol hA hr
 rw[h.unl hx]at this
 cases this
theorem Left.rest{l:List Oper}{RP TP RP' TP':List Nat}{listed:Array Bool}(h:Left l RP TP listed){i:Nat}(hi:i∈Region.ready .any l.toArray listed)
  (h1:RP'.Sublist RP) (h2:TP'.Sublist TP) (hm:∀x,x∈RP'∨x∈TP'↔(x∈RP∨x∈TP)∧x≠i):Left l RP' TP' (listed.setIfInBounds i true):=by
 obtain⟨g1,g2,g3,_⟩:=h.ready hi
 have hs:=h.sz
 refine⟨by simpa using h.sz,fun x hx=>h.ltP x (h1.subset hx),fun x hx=>h.ltT x (h2.subset hx),h.nd.sublist (h1.append h2),fun x hx=>?_,fun j o hj ho a ha=>?_,h.aft,h.pp.sublist h1,h.tt.sublist h2,
  fun x hx y hy=>h.pt x (h1.subset hx) y (h2.subset hy)⟩
 ·rw[we (by omega),hm x]
  by_cases q:x=i
  ·simp[q]
  ·rw[if_neg q,h.un x hx];simp[q]
 ·refine getD_set_true ?_
  by_cases q:i=j
  ·subst q;exact g3 o ho a ha
  ·rw[getD_set_ne false q]at hj;exact h.cl j o hj ho a ha
theorem yF{l:List Oper}{i j:Nat}{x y:Oper}(h:vD l i j=true) (hx:l[i]?=some x) (hy:l[j]?=some y):x.apart l.toArray y=true:=by
 simp_all [vD]
theorem Db{l:List Oper}{A B:List Nat}{i:Nat}{o:Oper}(h:l[i]?=some o):(A++i::B).filterMap (fun i=>l[i]?)=A.filterMap (fun i=>l[i]?)++o::B.filterMap (fun i=>l[i]?):=by
 simp_all
theorem Po{E:aB}(hE:tN P X.K E) (hN:E.N=X.N){l:List Oper}{k:St→Option R}{y:R}{Q:Exit→Act→World→Prop}(hQ:∀a w,u3 X L k y a w→Q .normal a w) :
  ∀(n:Nat) (RP TP:List Nat) (listed:Array Bool){L1:Nm→Value}{I:Nat→Prop}{s:St}{a:Act}{w:World},n=RP.length+TP.length→Left l RP TP listed→ce X L1 I s a w→(∀n,ju n=true→L1 n=L n) →
   oU E l (RP.filterMap fun i=>l[i]?) s (fun s'=>dk E l (TP.filterMap fun i=>l[i]?) s' k)=some y→wpAny P .any l.toArray Q n listed a w:=by
 intro n
 induction n with
 |zero =>
  intro RP TP listed L1 I s a w hn hl h hk e
  obtain rfl:RP=[]:=List.eq_nil_of_length_eq_zero (by omega)
  obtain rfl:TP=[]:=List.eq_nil_of_length_eq_zero (by omega)
  refine⟨?_,hQ _ _ ⟨s,L1,I,h,hk,e⟩⟩
  rcases hr:Region.ready .any l.toArray listed with _|⟨i,r⟩
  ·rfl
  ·obtain⟨_,g,_⟩:=hl.ready (show i∈Region.ready .any l.toArray listed by rw[hr];exact List.mem_cons_self ..)
   rcases g with g|g<;>cases g
 |succ n ih =>
  intro RP TP listed L1 I s a w hn hl h hk e
  refine⟨fun hr=>?_,fun i hi=>?_⟩
  ·have:∃i,i∈RP∨i∈TP:=by
    cases RP with
    |cons x r=>exact⟨x, .inl (List.mem_cons_self ..)⟩
    |nil =>
     cases TP with
     |cons x r=>exact⟨x, .inr (List.mem_cons_self ..)⟩
     |nil=>simp at hn
   obtain⟨i,hi⟩:=this
   obtain⟨j,hj⟩:=hl.next i hi
   rw[hr]at hj;cases hj
  obtain⟨hil,hmem,hA,hno⟩:=hl.ready hi
  have hol:l[i]?=some l[i]:=List.getElem?_eq_getElem hil
  generalize l[i]=o at hol
  have step:∀{K:Act→World→Prop},(if Region.wanted o (yielded l.toArray a.tmps)then o.wp P a w K Q else K (a.put o.dst undef) w)→wpOp P l.toArray Q i K a w:=by
   intro K q
   have ho:l.toArray[i]?=some o:=by simpa using hol
   unfold wpOp
   simp only[ho]
   split
   ·simp_all
   ·simp_all
  have mono:∀{K K':Act→World→Prop},(∀a w,K a w→K' a w)→(if Region.wanted o (yielded l.toArray a.tmps)then o.wp P a w K Q else K (a.put o.dst undef) w)→(if Region.wanted o (yielded l.toArray a.tmps)then o.wp P a w K' Q else K' (a.put o.dst undef) w):=by
   intro K K' hK q
   split
   ·rename_i hw;rw[if_pos hw]at q;exact Oper.wp_mono hK q
   ·simp_all
  have hnd:=List.nodup_append.1 hl.nd
  rcases hmem with hiR|hiT
  ·-- a plain one
   obtain⟨A,B,rfl⟩:=List.append_of_mem hiR
   rw[Db hol]at e
   have hpA:=List.pairwise_append.1 hl.pp
   obtain⟨g1,v,g2,g3⟩:=Px e (fun oi hoi=>by
    obtain⟨i',h1,h2⟩:=List.mem_filterMap.1 hoi
    rcases hpA.2.2 i' h1 i (List.mem_cons_self ..)with q|q
    ·exact absurd q (hno i' (.inl (List.mem_append_left _ h1)))
    ·exact yF q h2 hol)
   have hnR:=List.nodup_append.1 hnd.1
   have hAi:i∉A:=fun q=>hnR.2.2 i q i (List.mem_cons_self ..) rfl
   have hBi:i∉B:=(List.nodup_cons.1 hnR.2.1).1
   have hTi:i∉TP:=fun q=>hnd.2.2 i hiR i q rfl
   refine step (mono (fun a' w' hp'=>?_) (L8 h hE hN g1 g2 Q))
   obtain⟨s',L',I',r1,r2,r3⟩:=hp'
   obtain rfl:=Option.some.inj r3
   refine ih (A++B) TP (listed.setIfInBounds i true) (by simp at hn ⊢;omega) (hl.rest hi (List.Sublist.append (List.Sublist.refl _) (List.sublist_cons_self ..)) (List.Sublist.refl _) fun x=>?_) r1 (fun n hn=>(r2 n hn).trans (hk n hn)) (by rw[List.filterMap_append];exact g3)
   simp only[List.mem_append,List.mem_cons]
   constructor
   ·rintro ((q|q)|q)
    ·exact⟨.inl (.inl q),fun z=>hAi (z▸q)⟩
    ·exact⟨.inl (.inr (.inr q)),fun z=>hBi (z▸q)⟩
    ·exact⟨.inr q,fun z=>hTi (z▸q)⟩
   ·rintro ⟨(q|q|q)|q,z⟩
    ·exact .inl (.inl q)
    ·exact absurd q z
    ·exact .inl (.inr q)
    ·exact .inr q
  ·-- one of the tail
   obtain⟨A,B,rfl⟩:=List.append_of_mem hiT
   have hA0:A=[]:=by
    cases A with
    |nil=>rfl
    |cons x A =>
     refine absurd ((List.pairwise_append.1 hl.tt).2.2 x (List.mem_cons_self ..) i (List.mem_cons_self ..)) (hno x (.inr (List.mem_append_left _ (List.mem_cons_self ..))))
   subst hA0
   have hfl:∀x∈RP.filterMap (fun i=>l[i]?),vv x=true∧x.apart l.toArray o=true:=by
    intro x hx
    obtain⟨i',h1,h2⟩:=List.mem_filterMap.1 hx
    rcases hl.pt i' h1 i (List.mem_cons_self ..)with q|⟨q1,q2⟩
    ·simp_all
    ·grind [yF,s8]
   have e:oU E l (RP.filterMap fun i=>l[i]?) s (fun s'=>dk E l (o::B.filterMap fun i=>l[i]?) s' k)=some y:=by
    simp_all
   have e2:dk E l [o] s (fun s1=>oU E l (RP.filterMap fun i=>l[i]?) s1 (fun s'=>dk E l (B.filterMap fun i=>l[i]?) s' k))=some y:=by
    rcases Cp (E:=E) (all:=l) (o:=o) (r:=B.filterMap fun i=>l[i]?) (k:=k) hfl with q|q
    ·rw[←q];exact e
    ·simp_all
   refine step (mono (fun a' w' hp'=>?_) (BO h hE hN e2 Q))
   obtain⟨s',L',I',r1,r2,r3⟩:=hp'
   have r3:oU E l (RP.filterMap fun i=>l[i]?) s' (fun s'=>dk E l (B.filterMap fun i=>l[i]?) s' k)=some y:=r3
   have hBi:i∉B:=(List.nodup_cons.1 hnd.2.1).1
   have hRi:i∉RP:=fun q=>hnd.2.2 i q i (List.mem_cons_self ..) rfl
   refine ih RP B (listed.setIfInBounds i true) (by simp at hn ⊢;omega) (hl.rest hi (List.Sublist.refl _) (List.sublist_cons_self ..) fun x=>?_) r1 (fun n hn=>(r2 n hn).trans (hk n hn)) r3
   simp only[List.nil_append,List.mem_cons]
   constructor
   ·rintro (q|q)
    ·exact⟨.inl q,fun z=>hRi (z▸q)⟩
    ·exact⟨.inr (.inr q),fun z=>hBi (z▸q)⟩
   ·rintro ⟨q|q|q,z⟩
    ·exact .inl q
    ·exact absurd q z
    ·exact .inr q
theorem Js{l:List Oper}{i j:Nat}(h:bo i ((bn l []).getD j [])=true):CK l i j:=dU.1 h
theorem JW{l:List Oper}{m:Nat}(hm:m≤l.length) (h:zZ l m=true):Left l (it l m) (ke l m) (Array.replicate l.length false)∧(it l m).length+(ke l m).length=l.length:=by
 unfold zZ at h
 simp only[Bool.and_eq_true]at h
 obtain⟨h1,h2,h3,h4⟩:=h
 have memP:∀i,i∈it l m→i<l.length:=by
  grind [it]
 have C5:∀i,i∈ke l m→i<l.length:=by
  grind [ke]
 have all:∀i,i<l.length→i∈it l m∨i∈ke l m:=by
  intro i hi
  unfold it ke
  rcases Nat.lt_or_ge i m with q|q
  ·simp_all
  ·have hx:i∈(List.range (l.length-m)).map (·+m):=List.mem_map.2 ⟨i-m,List.mem_range.2 (by omega),by show i-m+m=i;omega⟩
   cases qf:s8 l i with
   |true=>simp_all
   |false=>simp_all
 have ndr:((List.range (l.length-m)).map (·+m)).Nodup:=by
  refine List.Pairwise.map _ (fun a b hab=>?_) List.nodup_range
  show a+m≠b+m
  omega
 refine⟨⟨by simp,memP,C5,?_,fun i hi=>?_,fun j o hj _=>?_,fun j o hj a ha=>?_,?_,?_,fun x hx y hy=>?_⟩,?_⟩
 ·refine List.nodup_append.2 ⟨?_,ndr.sublist (List.filter_sublist ..),fun a ha b hb hab=>?_⟩
  ·grind [zZ,it,ke]
  ·grind [zZ,it,ke]
 ·simp_all
 ·exfalso
  rw[Array.getD_eq_getD_getElem?]at hj
  rcases Nat.lt_or_ge j l.length with q|q
  ·simp_all
  ·simp_all
 ·rw[List.all_eq_true]at h1
  have hl:j<l.length:=by
   grind
  have:=h1 j (List.mem_range.2 hl)
  rw[hj]at this
  simp only[List.all_eq_true]at this
  exact Nat.le_of_ble_eq_true (this a ha)
 ·refine(uv h2).imp fun{x y} q=>?_
  rw[Bool.or_eq_true]at q
  exact q.imp Js id
 ·exact(uv h3).imp fun{x y} q=>Js q
 ·grind [Js]
 ·unfold it ke
  have:∀(p:Nat→Bool) (xs:List Nat),(xs.filter p).length+(xs.filter (fun i => !p i)).length=xs.length:=by
   intro p xs
   induction xs with
   |nil=>rfl
   |cons x xs ih =>
    grind
  have h6:=this (s8 l) ((List.range (l.length-m)).map (·+m))
  rw[List.length_map,List.length_range]at h6
  rw[List.length_append,List.length_range]
  omega
theorem DA (E:aB):∀l:List Oper,sL E l≤l.length
 |[]=>Nat.le_refl _
 |o::r=>by
  unfold sL
  cases KL E o with
  |true=>simpa using DA E r
  |false=>simp
end
section
variable{P:Program}{X:t7}{L:Nm→Value}{I:Nat→Prop}{s:St}{a:Act}{w:World}{R:Type}
theorem uW {α β:Type}(c:Bool) (x y:Option α) (k:α→Option β):Option.bind (bif c then x else y) k=bif c then x.bind k else y.bind k:=by grind
theorem Kj{S:aa}{f:Nat}{c:ji}{xs:List Operand}{d:Nat}(k:St→Option R):qk S f c xs d s k=(qk S f c xs d s some).bind k:=by
 unfold qk
 repeat' (first|rfl|split)
 all_goals simp only[uW,Option.bind_some,Option.bind_none]
theorem Ey{S:aa}{f:Nat}{c:ji}{xs:List Operand}{d:Nat}(k:St→Option R):pw S f c xs d s k=(pw S f c xs d s some).bind k:=by
 grind [pw,split,Kj]
theorem It{R:Type}{s:St}{d:Nat}{n:Nm}{off sz:Nat}{j:Int}(k:St→Option R):∀(m c:Nat),wJ s d n off sz j k c m=(wJ s d n off sz j some c m).bind k
 |0,c=>rfl
 |m+1,c=>by
  show(bif decide (j=(c:Int))then _ else wJ s d n off sz j k (c+1) m)=(bif decide (j=(c:Int))then _ else wJ s d n off sz j some (c+1) m).bind k
  rw[It k m (c+1)]
  cases decide (j=(c:Int))<;>rfl
theorem PF{R:Type} {τ:nK}{op:Op}{d:Nat}{s:St}(k:St→Option R):yD τ op d s k=(yD τ op d s some).bind k:=by
 cases op with
 |indexAddr t x i =>
  grind [yD,split,It]
 |_=>rfl
theorem xE{E:aB}{o:Oper}(k:St→Option R):sN E o s k=(sN E o s some).bind k:=by
 unfold sN
 split
 ·grind [split,Ey]
 ·grind [split,Ey]
 ·grind [split,eN,PF]
theorem uw{E:aB}{all:List Oper}{o:Oper}{r:List Oper}(k:St→Option R):dk E all (o::r) s k=(dk E all [o] s some).bind fun s'=>dk E all r s' k:=by
 simp only[dk]
 cases hg:o.guard with
 |none=>exact xE _
 |some gw =>
  grind [qh,nE,eN,xE]
theorem gY{i j:Nat}{rem:List Nat}:j∈fK i rem↔j∈rem∧j≠i:=by
 grind [fK,e9,Nat.beq_refl]
theorem ww{i:Nat}:∀{rem:List Nat},rem.Nodup→i∈rem→(fK i rem).length+1=rem.length
 |[],_,h=>by cases h
 |x::r,hn,h=>by
  have hn:=List.nodup_cons.1 hn
  rcases List.mem_cons.1 h with rfl|h
  ·grind [fK,e9,List.filter_eq_self,Nat.beq_refl,Bool.not_true,Bool.false_eq_true,List.length_cons]
  ·have hne:i≠x:=fun q=>hn.1 (by rw[←q];exact h)
   have:=ww hn.2 h
   unfold fK at this ⊢
   rw[List.filter_cons,e9 hne]
   simp only[Bool.not_false,if_true,List.length_cons,this]
theorem K7:∀{l:List Nat},l≠[]→∃m∈l, ∀x∈l,m≤x
 |[],h=>absurd rfl h
 |[x],_=>⟨x,List.mem_cons_self ..,fun y hy=>by rw[List.mem_singleton.1 hy];exact Nat.le_refl _⟩
 |x::y::r,_=>by
  obtain⟨m,h1,h2⟩:=K7 (l:=y::r) (by simp)
  rcases Nat.le_total x m with q|q
  ·grind
  ·grind
def V1 (l:List Oper):Prop:=∀j o,l[j]?=some o→∀i∈cd o,i<j
theorem F2{l:List Oper}(h:tF l=true):V1 l:=by
 intro j o hj i hi
 unfold tF at h
 rw[List.all_eq_true]at h
 have hl:j<l.length:=(List.getElem?_eq_some_iff.1 hj).1
 have:=h j (List.mem_range.2 hl)
 rw[hj]at this
 simp only[List.all_eq_true]at this
 exact Nat.le_of_ble_eq_true (this i hi)
theorem Iy{l:List Oper}(ha:V1 l){rem:List Nat}(hlt:∀i∈rem,i<l.length) (hne:rem≠[]):∃m∈rem,gA l rem m=true:=by
 obtain⟨m,h1,h2⟩:=K7 hne
 refine⟨m,h1,?_⟩
 have hml:=hlt m h1
 have ho:l[m]?=some l[m]:=List.getElem?_eq_getElem hml
 unfold gA
 rw[ho]
 simp only[List.all_eq_true]
 intro a hA
 have:=ha m _ ho a hA
 cases q:bo a rem with
 |false=>rfl
 |true=>grind [dU]
theorem Ln{l:List Oper}(ha:V1 l):∀(n:Nat) (rem:List Nat),rem.length=n→rem.Nodup→(∀i∈rem,i<l.length)→∃π,π∈mX l n rem
 |0,rem,_,_,_=>⟨[],List.mem_singleton.2 rfl⟩
 |n+1,rem,hl,hn,hlt=>by
  obtain⟨m,h1,h2⟩:=Iy ha hlt (fun q=>by rw[q]at hl;cases hl)
  obtain⟨π,hπ⟩:=Ln ha n (fK m rem) (by have:=ww hn h1;omega) (hn.sublist (List.filter_sublist ..)) (fun i hi=>hlt i (gY.1 hi).1)
  refine⟨m::π,?_⟩
  show _∈rem.flatMap _
  refine List.mem_flatMap.2 ⟨m,h1,?_⟩
  rw[h2]
  exact List.mem_map.2 ⟨π,hπ,rfl⟩
structure Rem (l:List Oper) (rem:List Nat) (listed:Array Bool):Prop where
 sz:listed.size=l.length
 lt:∀i∈rem,i<l.length
 nd:rem.Nodup
 un:∀i,i<l.length→(listed.getD i true=false↔i∈rem)
theorem Rem.lis{l:List Oper}{rem:List Nat}{listed:Array Bool}(h:Rem l rem listed){i:Nat}(hl:i<l.length):listed.getD i false=true↔i∉rem:=by
 have hs:=h.sz
 have q:=h.un i hl
 rw[Array.getD_eq_getD_getElem?]at q ⊢
 rw[Array.getElem?_eq_getElem (by omega)]at q ⊢
 rw[←q]
 simp
theorem Ng{E:aB}(hE:tN P X.K E) (hN:E.N=X.N){l:List Oper}(ha:V1 l){k:St→Option R}{y:R}{Q:Exit→Act→World→Prop}(hQ:∀a w,u3 X L k y a w→Q .normal a w) :
  ∀(n:Nat) (rem:List Nat) (listed:Array Bool){L1:Nm→Value}{I:Nat→Prop}{s:St}{a:Act}{w:World},n=rem.length→Rem l rem listed→ce X L1 I s a w→(∀n,ju n=true→L1 n=L n) →
   (∀π∈mX l n rem,dk E l (cU l π) s k=some y)→wpAny P .any l.toArray Q n listed a w:=by
 intro n
 induction n with
 |zero =>
  intro rem listed L1 I s a w hn hl h hk e
  obtain rfl:rem=[]:=List.eq_nil_of_length_eq_zero hn.symm
  refine⟨?_,hQ _ _ ⟨s,L1,I,h,hk,e [] (List.mem_singleton.2 rfl)⟩⟩
  rcases hr:Region.ready .any l.toArray listed with _|⟨i,r⟩
  ·rfl
  ·have hi:i∈Region.ready .any l.toArray listed:=by rw[hr];exact List.mem_cons_self ..
   obtain⟨h0,o,ho,_⟩:=mem_ready.1 hi
   have hil:i<l.length:=by grind
   exact absurd ((hl.un i hil).1 h0) (by simp)
 |succ n ih =>
  intro rem listed L1 I s a w hn hl h hk e
  refine⟨fun hr=>?_,fun i hi=>?_⟩
  ·obtain⟨m,h1,h2⟩:=Iy ha hl.lt (fun q=>by rw[q]at hn;cases hn)
   have hml:=hl.lt m h1
   have ho:l[m]?=some l[m]:=List.getElem?_eq_getElem hml
   have:m∈Region.ready .any l.toArray listed:=by
    refine mem_ready.2 ⟨(hl.un m hml).2 h1,l[m],by simp[hml],fun ed he hb=>?_⟩
    have hA:ed.on∈cd l[m]:=sS.2 ⟨ed,he,hb,rfl⟩
    have:=ha m _ ho _ hA
    refine(hl.lis (by omega)).2 fun q=>?_
    unfold gA at h2
    rw[ho]at h2
    simp only[List.all_eq_true]at h2
    have:=h2 _ hA
    rw[dU.2 q]at this;cases this
   rw[hr]at this;cases this
  ·obtain⟨h0,o,ho,hall⟩:=mem_ready.1 hi
   have hil:i<l.length:=by grind
   have hol:l[i]?=some o:=by simp_all
   have him:i∈rem:=(hl.un i hil).1 h0
   have hfree:gA l rem i=true:=by
    unfold gA
    rw[hol]
    simp only[List.all_eq_true]
    intro b hb
    obtain⟨ed,h1,h2,rfl⟩:=sS.1 hb
    have h3:=hall ed h1 h2
    have h4:=ha i _ hol _ hb
    cases q:bo ed.on rem with
    |false=>rfl
    |true=>exact absurd (dU.1 q) ((hl.lis (by omega)).1 h3)
   have hlen:=ww hl.nd him
   have hsub:∀π∈mX l n (fK i rem),(dk E l [o] s some).bind (fun s'=>dk E l (cU l π) s' k)=some y:=by
    intro π hπ
    have:=e (i::π) (by
     show _∈rem.flatMap _
     refine List.mem_flatMap.2 ⟨i,him,?_⟩
     rw[hfree]
     exact List.mem_map.2 ⟨π,hπ,rfl⟩)
    rw[←uw, ←this]
    unfold cU
    rw[List.filterMap_cons,hol]
   obtain⟨π0,hπ0⟩:=Ln ha n (fK i rem) (by omega) (hl.nd.sublist (List.filter_sublist ..)) (fun j hj=>hl.lt j (gY.1 hj).1)
   cases hs1:dk E l [o] s some with
   |none=>have:=hsub π0 hπ0;rw[hs1]at this;cases this
   |some s1 =>
    have hs2:∀π∈mX l n (fK i rem),dk E l (cU l π) s1 k=some y:=fun π hπ=>by
     simp_all
    have one:=BO h hE hN (k:=some) (r:=[]) hs1 Q
    have nxt:∀a' w',u3 X L1 (fun s'=>dk E l [] s' some) s1 a' w'→wpAny P .any l.toArray Q n (listed.setIfInBounds i true) a' w':=by
     rintro a' w' ⟨s',L',I',r1,r2,r3⟩
     obtain rfl:=Option.some.inj (show some s'=some s1 from r3)
     refine ih (fK i rem) (listed.setIfInBounds i true) (by omega) ⟨by simpa using hl.sz,fun j hj=>hl.lt j (gY.1 hj).1,hl.nd.sublist (List.filter_sublist ..),fun j hj=>?_⟩ r1 (fun n hn=>(r2 n hn).trans (hk n hn)) hs2
     have hsz:=hl.sz
     rw[we (by omega),gY]
     by_cases q:j=i
     ·simp[q]
     ·rw[if_neg q,hl.un j hj];simp[q]
    unfold wpOp
    simp only[ho]
    split
    ·rename_i hw;rw[if_pos hw]at one;exact .inl (Oper.wp_mono nxt one)
    ·rename_i hw;rw[if_neg hw]at one;exact nxt _ _ one
end
end AM
end Go.Proofs.YtpgigedclifoeaaGreatDoor
