/- StreamDo is one function by both; the law FnExactStreamDo. Condition: the lengths. And what follows it: see the remarks. -/
import Derived.Test.YtleofghbkfpdaaaGreatDoorTP2
namespace Go.Proofs.YtleofghbkfpdaaaGreatDoor
namespace AM
open Go
set_option linter.unusedVariables false
set_option linter.unusedSimpArgs false
theorem insL_mem {v x:Int}:∀ {r:List Int},x ∈ insL v r → x = v ∨ x ∈ r
 | [],h => by rw [insL] at h; exact .inl (List.mem_singleton.1 h)
 | y :: r,h => by
  rw [insL] at h
  split at h
  ·rcases List.mem_cons.1 h with e | e
   ·exact .inr (e ▸ List.mem_cons_self ..)
   ·rcases insL_mem e with e | e
    ·exact .inl e
    ·exact .inr (List.mem_cons_of_mem _ e)
  ·rcases List.mem_cons.1 h with e | e
   ·exact .inl e
   ·exact .inr e
theorem insL_pw {v:Int}:∀ {r:List Int},v ∉ r → r.Pairwise (· < ·) → (insL v r).Pairwise (· < ·)
 | [],_,_ => by rw [insL]; exact List.pairwise_singleton _ _
 | y :: r,hv,h => by
  have h' := List.pairwise_cons.1 h
  have hne:v ≠ y := fun q => hv (q ▸ List.mem_cons_self ..)
  rw [insL]
  split
  ·rename_i q
   refine List.pairwise_cons.2 ⟨fun x hx => ?_,insL_pw (fun q => hv (List.mem_cons_of_mem _ q)) h'.2⟩
   rcases insL_mem hx with e | e
   ·omega
   ·exact h'.1 x e
  ·rename_i q
   refine List.pairwise_cons.2 ⟨fun x hx => ?_,h⟩
   rcases List.mem_cons.1 hx with e | e
   ·omega
   ·have := h'.1 x e; omega
theorem knowV_of {xs:List Node3} {k:List Int} (hp:poolB xs = true) (hl:k.length ≤ 200) (pw:k.Pairwise (· < ·)) (hm:∀ v,v ∈ k → hasB xs v = true):knowV xs k = true := by
 refine knowV_iff.2 ⟨allN_iff.2 (fun j _ hj => ?_),hl,hp⟩
 have hj':j < k.length := by omega
 have e:k.getD j 0 = k[j] := by simp [List.getD_eq_getElem?_getD,hj']
 unfold knowAt ascAt
 rw [e,hm _ (List.getElem_mem hj'),Bool.true_and]
 rcases Nat.eq_zero_or_pos j with q | q
 ·subst q; rfl
 ·have hj2:j - 1 < k.length := by omega
  have e2:k.getD (j - 1) 0 = k[j - 1] := by simp [List.getD_eq_getElem?_getD,hj2]
  rw [e2,decide_eq_true (List.pairwise_iff_getElem.1 pw (j - 1) j hj2 hj' (by omega)),Bool.or_true]
theorem knowV_mem {xs:List Node3} {k:List Int} (h:knowV xs k = true) (v:Int) (hv:v ∈ k):hasB xs v = true := by
 obtain ⟨j,hj,e⟩ := List.mem_iff_getElem.1 hv
 have := (knowV_kn h).2 j hj
 have e1:k.getD j 0 = k[j] := by simp [List.getD_eq_getElem?_getD,hj]
 rw [e1,e] at this
 exact this
theorem termsV_pre {xs ys:List Node3} {l l':List Int} (h:termsV xs l = true) (e:∃ zs,ys = xs ++ zs) (hl:l' = l ∨ ∃ u,l' = l ++ [u] ∧ hasB ys u = true) (h60:l'.length ≤ 60):termsV ys l' = true := by
 obtain ⟨a,b⟩ := termsV_iff.1 h
 refine termsV_iff.2 ⟨fun j hj => ?_,h60⟩
 rcases hl with rfl | ⟨u,rfl,hu⟩
 ·exact hasB_pre (a j hj) e
 ·by_cases q:j < l.length
  ·have := hasB_pre (a j q) e
   rw [show (l ++ [u]).getD j 0 = l.getD j 0 from by simp [List.getD_eq_getElem?_getD,List.getElem?_append_left q]]; exact this
  ·have hj':j = l.length := by simp at hj; omega
   subst hj'
   have:(l ++ [u]).getD l.length 0 = u := get_pre l [] u 0
   rw [this]; exact hu
section
variable {xs:List Node3} {kn:List Int} {k t s k2 t2 s2:Int} {d d2:Bool} {se go:List Int} {act v:Int} {T:ByteArray}
theorem deed_right {ys:List Node3} {kn':List Int} {k' t' s' k2' t2' s2':Int} {se' go':List Int} (h:streamV xs kn k t s k2 t2 s2 se go = true) (g:Deed xs kn k t s k2 t2 s2 se go ys kn' k' t' s' k2' t2' s2' se' go') (h1:se'.length ≤ 60) (h2:go'.length ≤ 60):streamV ys kn' k' t' s' k2' t2' s2' se' go' = true := by
 obtain ⟨hk,_,_,h3,h4⟩ := streamV_iff.1 h
 obtain ⟨g1,g2,g3,g4,g5,g6,g7⟩ := g
 refine streamV_iff.2 ⟨?_,g3,g4,termsV_pre h3 g2 g6 h1,termsV_pre h4 g2 g7 h2⟩
 have hkl := knowV_len hk
 have hm:∀ v,v ∈ kn → hasB ys v = true := fun v hv => hasB_pre (knowV_mem hk v hv) g2
 rcases g5 with rfl | ⟨u,rfl,hu,hl⟩
 ·exact knowV_of g1 hkl (knowV_pw hk) hm
 ·unfold putL at hl ⊢
  cases hc:kn.contains u with
  | true => rw [hc] at hl; exact knowV_of g1 hl (knowV_pw hk) hm
  | false =>
   rw [hc] at hl
   have hnm:u ∉ kn := fun q => by rw [List.contains_iff_mem.2 q] at hc; cases hc
   refine knowV_of g1 hl (insL_pw hnm (knowV_pw hk)) (fun v hv => ?_)
   rcases insL_mem hv with e | e
   ·exact e ▸ hu
   ·exact hm v e
theorem streamDo_same (hx:xs.length ≤ 4294967296) (hk:kn.length ≤ 4294967296) (hs:se.length ≤ 4294967296) (hg:go.length ≤ 4294967296) :
  ∃ ys kn' k' t' s' d' k2' t2' s2' d2' se' go' ok,impl_StreamDo N0 (xs,kn,k,t,s,d,k2,t2,s2,d2,se,go,act,v,T) = some (ys,kn',k',t',s',d',k2',t2',s2',d2',se',go',ok) ∧ spec_StreamDo N0 (xs,kn,k,t,s,d,k2,t2,s2,d2,se,go,act,v,T) = some (ys,kn',k',t',s',d',k2',t2',s2',d2',se',go',ok) ∧ ys.length ≤ 4294967296 ∧ kn'.length ≤ 4294967296 ∧ se'.length ≤ 4294967296 ∧ go'.length ≤ 4294967296 ∧
   (streamV xs kn k t s k2 t2 s2 se go = true → streamV ys kn' k' t' s' k2' t2' s2' se' go' = true ∧ (ok = false → (ys,kn',k',t',s',d',k2',t2',s2',d2',se',go') = (xs,kn,k,t,s,d,k2,t2,s2,d2,se,go))) := by
 have iS := implStream_eq (k := k) (t := t) (s := s) (d := d) (k2 := k2) (t2 := t2) (s2 := s2) (d2 := d2) hx hk hs hg
 have sS := specStream_eq (k := k) (t := t) (s := s) (d := d) (k2 := k2) (t2 := t2) (s2 := s2) (d2 := d2) hx hk hs hg
 have iC := implCopy_eq (k := k) (t := t) (s := s) (d := d) (k2 := k2) (t2 := t2) (s2 := s2) (d2 := d2) hx hk hs hg
 have sC := specCopy_eq (k := k) (t := t) (s := s) (d := d) (k2 := k2) (t2 := t2) (s2 := s2) (d2 := d2) hx hk hs hg
 cases hv:streamV xs kn k t s k2 t2 s2 se go with
 | false =>
  rw [hv] at iS sS
  refine ⟨[],[],0,0,0,false,0,0,0,false,[],[],false, ?_, ?_,by simp,by simp,by simp,by simp,(fun q => by cases q)⟩
  ·unfold impl_StreamDo
   simp only [iS,Option.bind_some,Bool.not_false,cond_true]
  ·unfold spec_StreamDo
   simp only [sS,Option.bind_some,Bool.not_false,cond_true]
 | true =>
  rw [hv] at iS sS
  have hac := action_eq (act := act) (v := v) (T := T)
  have same:(∃ r:Bool,r = false) := ⟨false,rfl⟩
  unfold impl_StreamDo spec_StreamDo
  dsimp only
  simp only [iS,sS,iC,hac,Option.bind_some,Bool.not_true,cond_false,spec_StreamDo_R5]
  rcases do_both (d := d) (d2 := d2) (act := act) (v := v) (T := T) hv with ⟨a1,⟨ys,kn',k',t',s',d',k2',t2',s2',d2',se',go',q1,q2,q3⟩ | ⟨y,z,q1,q2⟩⟩ | ⟨a1,q1⟩
  ·have hp := poolB_len q3.1
   have hk2:kn'.length ≤ 201 := by
    have := knowV_len (streamV_iff.1 hv).1
    rcases q3.2.2.2.2.1 with e | ⟨u,e,_,hl⟩
    ·rw [e]; omega
    ·omega
   have hse2:se'.length ≤ 61 := by
    have := (termsV_iff.1 (streamV_iff.1 hv).2.2.2.1).2
    rcases q3.2.2.2.2.2.1 with e | ⟨u,e,_⟩
    ·rw [e]; omega
    ·rw [e]; simp; omega
   have hgo2:go'.length ≤ 61 := by
    have := (termsV_iff.1 (streamV_iff.1 hv).2.2.2.2).2
    rcases q3.2.2.2.2.2.2 with e | ⟨u,e,_⟩
    ·rw [e]; omega
    ·rw [e]; simp; omega
   have sC' := specCopy_eq (xs := ys) (kn := kn') (k := k') (t := t') (s := s') (d := d') (k2 := k2') (t2 := t2') (s2 := s2') (d2 := d2') (se := se') (go := go') (by omega) (by omega) (by omega) (by omega)
   simp only [a1,sC,q1,q2,Option.bind_some,Bool.not_true,cond_false,impl_Stream_fits]
   by_cases c1:ys.length ≤ 400
   ·by_cases c2:se'.length ≤ 60
    ·by_cases c3:go'.length ≤ 60
     ·refine ⟨ys,kn',k',t',s',d',k2',t2',s2',d2',se',go',true, ?_, ?_,by omega,by omega,by omega,by omega,fun _ => ⟨deed_right hv q3 c2 c3,fun q => by cases q⟩⟩
      ·simp only [(show decide ((ys.length:Int) ≤ (400:Int)) = true from decide_eq_true (by omega)),(show decide ((se'.length:Int) ≤ (60:Int)) = true from decide_eq_true (by omega)),(show decide ((go'.length:Int) ≤ (60:Int)) = true from decide_eq_true (by omega)),cond_true,cond_false,Option.bind_some,Bool.not_true]
      ·simp only [(show decide ((ys.length:Int) > (400:Int)) = false from decide_eq_false (by omega)),(show decide ((se'.length:Int) > (60:Int)) = false from decide_eq_false (by omega)),(show decide ((go'.length:Int) > (60:Int)) = false from decide_eq_false (by omega)),cond_true,cond_false,Option.bind_some,sC']
     ·refine ⟨xs,kn,k,t,s,d,k2,t2,s2,d2,se,go,false, ?_, ?_,hx,hk,hs,hg,fun _ => ⟨hv,fun _ => rfl⟩⟩
      ·simp only [(show decide ((ys.length:Int) ≤ (400:Int)) = true from decide_eq_true (by omega)),(show decide ((se'.length:Int) ≤ (60:Int)) = true from decide_eq_true (by omega)),(show decide ((go'.length:Int) ≤ (60:Int)) = false from decide_eq_false (by omega)),cond_true,cond_false,Option.bind_some,Bool.not_false,iC]
      ·simp only [(show decide ((ys.length:Int) > (400:Int)) = false from decide_eq_false (by omega)),(show decide ((se'.length:Int) > (60:Int)) = false from decide_eq_false (by omega)),(show decide ((go'.length:Int) > (60:Int)) = true from decide_eq_true (by omega)),cond_true,cond_false,Option.bind_some,sC]
    ·refine ⟨xs,kn,k,t,s,d,k2,t2,s2,d2,se,go,false, ?_, ?_,hx,hk,hs,hg,fun _ => ⟨hv,fun _ => rfl⟩⟩
     ·simp only [(show decide ((ys.length:Int) ≤ (400:Int)) = true from decide_eq_true (by omega)),(show decide ((se'.length:Int) ≤ (60:Int)) = false from decide_eq_false (by omega)),cond_true,cond_false,Option.bind_some,Bool.not_false,iC]
     ·simp only [(show decide ((ys.length:Int) > (400:Int)) = false from decide_eq_false (by omega)),(show decide ((se'.length:Int) > (60:Int)) = true from decide_eq_true (by omega)),cond_true,cond_false,Option.bind_some,sC]
   ·refine ⟨xs,kn,k,t,s,d,k2,t2,s2,d2,se,go,false, ?_, ?_,hx,hk,hs,hg,fun _ => ⟨hv,fun _ => rfl⟩⟩
    ·simp only [(show decide ((ys.length:Int) ≤ (400:Int)) = false from decide_eq_false (by omega)),cond_true,cond_false,Option.bind_some,Bool.not_false,iC]
    ·simp only [(show decide ((ys.length:Int) > (400:Int)) = true from decide_eq_true (by omega)),cond_true,cond_false,Option.bind_some,sC]
  ·simp only [a1,sC,q1,q2,Option.bind_some,Bool.not_true,Bool.not_false,cond_false,cond_true]
   exact ⟨xs,kn,k,t,s,d,k2,t2,s2,d2,se,go,false,rfl,rfl,hx,hk,hs,hg,fun _ => ⟨hv,fun _ => rfl⟩⟩
  ·simp only [a1,sC,iC,q1,Option.bind_some,Bool.not_true,Bool.not_false,cond_false,cond_true]
   exact ⟨xs,kn,k,t,s,d,k2,t2,s2,d2,se,go,false,rfl,rfl,hx,hk,hs,hg,fun _ => ⟨hv,fun _ => rfl⟩⟩
theorem toStream_eq (hx:xs.length ≤ 4294967296) (hk:kn.length ≤ 4294967296) (hs:se.length ≤ 4294967296) (hg:go.length ≤ 4294967296):laws_toStream N0 (xs,kn,k,t,s,d,k2,t2,s2,d2,se,go) = some (xs,kn,k,t,s,d,k2,t2,s2,d2,se,go) ∧ laws_toStream_o N0 (xs,kn,k,t,s,d,k2,t2,s2,d2,se,go) = some (xs,kn,k,t,s,d,k2,t2,s2,d2,se,go) := by
 unfold laws_toStream laws_toStream_o laws_toLink
 dsimp only
 simp only [toPool_eq N0 n0 hx,toIntS_eq N0 n0 hk,toIntS_eq N0 n0 hs,toIntS_eq N0 n0 hg,Option.bind_some,and_self]
theorem eqLink_self:laws_eqLink N0 (k,t,s,d,k,t,s,d) = some true := by
 unfold laws_eqLink
 simp only [bne_self_eq_false,cond_false]
theorem eqStream_self (hx:xs.length ≤ 4294967296) (hk:kn.length ≤ 4294967296) (hs:se.length ≤ 4294967296) (hg:go.length ≤ 4294967296):laws_eqStream N0 (xs,kn,k,t,s,d,k2,t2,s2,d2,se,go,xs,kn,k,t,s,d,k2,t2,s2,d2,se,go) = some true := by
 unfold laws_eqStream
 dsimp only
 simp only [eqPool_self N0 n0 hx,eqIntS_self hk,eqIntS_self hs,eqIntS_self hg,eqLink_self,Option.bind_some,Bool.not_true,cond_false]
def mkE (xs:List Node3) (kn se go:List Int):Int := 1 + 3 * (xs.length:Int) + (kn.length:Int) + (se.length:Int) + (go.length:Int)
theorem markStream_eq (hx:xs.length ≤ 4294967296) (hk:kn.length ≤ 4294967296) (hs:se.length ≤ 4294967296) (hg:go.length ≤ 4294967296):∃ xm km sm gm,laws_markStream N0 (xs,kn,k,t,s,d,k2,t2,s2,d2,se,go,1) = some (xm,km,k,t,s,d,k2,t2,s2,d2,sm,gm,mkE xs kn se go) ∧ laws_heldStream N0 (xm,km,k,t,s,d,k2,t2,s2,d2,sm,gm,1) = some (mkE xs kn se go) := by
 refine ⟨mkN 1 xs.length,mkI (1 + 3 * (xs.length:Int)) kn.length,mkI (1 + 3 * (xs.length:Int) + (kn.length:Int)) se.length,mkI (1 + 3 * (xs.length:Int) + (kn.length:Int) + (se.length:Int)) go.length, ?_, ?_⟩
 ·unfold laws_markStream
  dsimp only
  simp only [markPool_eq (xs := xs) (k := 1) hx (by omega) (by omega),markIntS_eq (v := kn) (k := 1 + 3 * (xs.length:Int)) hk (by omega) (by omega),markIntS_eq (v := se) (k := 1 + 3 * (xs.length:Int) + (kn.length:Int)) hs (by omega) (by omega),markIntS_eq (v := go) (k := 1 + 3 * (xs.length:Int) + (kn.length:Int) + (se.length:Int)) hg (by omega) (by omega),Option.bind_some]
  rfl
 ·unfold laws_heldStream
  dsimp only
  simp only [heldPool_eq (n := xs.length) (k := 1) hx (by omega) (by omega),heldIntS_eq (n := kn.length) (k := 1 + 3 * (xs.length:Int)) hk (by omega) (by omega),heldIntS_eq (n := se.length) (k := 1 + 3 * (xs.length:Int) + (kn.length:Int)) hs (by omega) (by omega),heldIntS_eq (n := go.length) (k := 1 + 3 * (xs.length:Int) + (kn.length:Int) + (se.length:Int)) hg (by omega) (by omega),Option.bind_some,
   (show decide (1 + 3 * (xs.length:Int) < 0) = false from decide_eq_false (by omega)),(show decide (1 + 3 * (xs.length:Int) + (kn.length:Int) < 0) = false from decide_eq_false (by omega)),(show decide (1 + 3 * (xs.length:Int) + (kn.length:Int) + (se.length:Int) < 0) = false from decide_eq_false (by omega)),(show decide (1 + 3 * (xs.length:Int) + (kn.length:Int) + (se.length:Int) + (go.length:Int) < 0) = false from decide_eq_false (by omega)),cond_false]
  rfl
theorem szI_eq {l:List Int} {r:Int} (hr:0 ≤ r ∧ r ≤ 1048576) (hl:l.length ≤ 9223372036854775807):laws_szIntS N0 (l,r) = some (if (l.length:Int) ≤ r then r - (l.length:Int) else -1) := by
 unfold laws_szIntS
 simp only [wrap_ok (show -9223372036854775808 ≤ r - (l.length:Int) by omega) (show r - (l.length:Int) ≤ 9223372036854775807 by omega)]
 by_cases q:(l.length:Int) ≤ r
 ·rw [if_pos q,decide_eq_false (by omega:¬ r - (l.length:Int) < (0:Int))]; rfl
 ·rw [if_neg q,decide_eq_true (by omega:r - (l.length:Int) < (0:Int))]; rfl
theorem szStream_eq (hx:xs.length ≤ 9223372036854775807) (hk:kn.length ≤ 9223372036854775807) (hs:se.length ≤ 9223372036854775807) (hg:go.length ≤ 9223372036854775807) :
  laws_szStream N0 (xs,kn,k,t,s,d,k2,t2,s2,d2,se,go,1048576) = some (-1) ∨ (∃ r,laws_szStream N0 (xs,kn,k,t,s,d,k2,t2,s2,d2,se,go,1048576) = some r ∧ 0 ≤ r ∧ r ≤ 1048576 ∧ xs.length ≤ 1048576 ∧ kn.length ≤ 1048576 ∧ se.length ≤ 1048576 ∧ go.length ≤ 1048576) := by
 unfold laws_szStream
 dsimp only
 have hm1:decide ((-1:Int) < 0) = true := rfl
 rw [szPool_eq N0 hx,Option.bind_some]
 by_cases q:xs.length ≤ 1048576
 ·rw [if_pos q]
  simp only [(show decide ((1048576:Int) - (xs.length:Int) < 0) = false from decide_eq_false (by omega)),cond_false,szI_eq (l := kn) (r := (1048576:Int) - (xs.length:Int)) (by omega) hk,Option.bind_some]
  by_cases q1:(kn.length:Int) ≤ (1048576:Int) - (xs.length:Int)
  ·rw [if_pos q1]
   simp only [(show decide ((1048576:Int) - (xs.length:Int) - (kn.length:Int) < 0) = false from decide_eq_false (by omega)),cond_false,szI_eq (l := se) (r := (1048576:Int) - (xs.length:Int) - (kn.length:Int)) (by omega) hs,Option.bind_some]
   by_cases q2:(se.length:Int) ≤ (1048576:Int) - (xs.length:Int) - (kn.length:Int)
   ·rw [if_pos q2]
    simp only [(show decide ((1048576:Int) - (xs.length:Int) - (kn.length:Int) - (se.length:Int) < 0) = false from decide_eq_false (by omega)),cond_false,szI_eq (l := go) (r := (1048576:Int) - (xs.length:Int) - (kn.length:Int) - (se.length:Int)) (by omega) hg,Option.bind_some]
    by_cases q3:(go.length:Int) ≤ (1048576:Int) - (xs.length:Int) - (kn.length:Int) - (se.length:Int)
    ·rw [if_pos q3]
     simp only [(show decide ((1048576:Int) - (xs.length:Int) - (kn.length:Int) - (se.length:Int) - (go.length:Int) < 0) = false from decide_eq_false (by omega)),cond_false]
     exact .inr ⟨_,rfl,by omega,by omega,by omega,by omega,by omega,by omega⟩
    ·rw [if_neg q3]; exact .inl rfl
   ·rw [if_neg q2]; exact .inl rfl
  ·rw [if_neg q1]; exact .inl rfl
 ·rw [if_neg q]; exact .inl rfl
end
abbrev Act3 := Int×Int×ByteArray
abbrev zA:Act3 := ((0:Int),((0:Int),(⟨#[]⟩:ByteArray)))
theorem toActS_loop {lg:List Act3} (hl:lg.length ≤ 4294967296):∀ (m i:Nat) (ys:List Act3),i ≤ lg.length → ys.length = lg.length → (∀ j,j < i → ys[j]? = lg[j]?) → lg.length < m + i → laws_toActionS_L3 N0 m (lg,ys,(i:Int)) = some lg ∧ laws_toActionS_o_L3 N0 m (lg,ys,(i:Int)) = some lg
 | 0,i,ys,hi,hy,h,hm => by omega
 | m + 1,i,ys,hi,hy,h,hm => by
  rcases Nat.eq_or_lt_of_le hi with q | q
  ·subst q
   rw [laws_toActionS_L3,laws_toActionS_o_L3]; dsimp only; rw [lt_f,cond_false,copy_done (Nat.le_refl _) hy h]; exact ⟨rfl,rfl⟩
  ·have e:laws_toActionS_L3 N0 (m + 1) (lg,ys,(i:Int)) = laws_toActionS_L3 N0 m (lg,ys.set i (lg.getD i zA),((i + 1:Nat):Int)) := by
    rw [laws_toActionS_L3]; dsimp only
    rw [lt_t q,cond_true,inb_nat q,cond_true,Int.toNat_natCast,show laws_toAction N0 ((lg.getD i zA).1,(lg.getD i zA).2.1,(lg.getD i zA).2.2) = some (lg.getD i zA) from rfl]
    simp only [Option.bind_some]
    rw [inb_nat (by omega:i < ys.length),cond_true,step_wrap q hl]
   have e2:laws_toActionS_o_L3 N0 (m + 1) (lg,ys,(i:Int)) = laws_toActionS_o_L3 N0 m (lg,ys.set i (lg.getD i zA),((i + 1:Nat):Int)) := by
    rw [laws_toActionS_o_L3]; dsimp only
    rw [lt_t q,cond_true,inb_nat q,cond_true,Int.toNat_natCast,show laws_toAction N0 ((lg.getD i zA).1,(lg.getD i zA).2.1,(lg.getD i zA).2.2) = some (lg.getD i zA) from rfl]
    simp only [Option.bind_some]
    rw [inb_nat (by omega:i < ys.length),cond_true,step_wrap q hl]
   obtain ⟨h1,h2⟩ := getD_set_copy zA q hy h
   rw [e,e2]
   exact toActS_loop hl m (i + 1) _ q h1 h2 (by omega)
theorem toActS_eq {lg:List Act3} (hl:lg.length ≤ 4294967296):laws_toActionS N0 lg = some lg ∧ laws_toActionS_o N0 lg = some lg := by
 have := toActS_loop hl N0 0 (List.replicate ((lg.length:Int)).toNat zA) (Nat.zero_le _) (by simp) (fun j hj => by omega) (by have := n0; omega)
 unfold laws_toActionS laws_toActionS_o
 rw [decide_eq_true (by omega:0 ≤ (lg.length:Int) ∧ (lg.length:Int) ≤ (lg.length:Int) ∧ (lg.length:Int) ≤ 4294967296),cond_true]
 constructor
 ·rw [show laws_toActionS_L3 N0 N0 (lg,List.replicate ((lg.length:Int)).toNat zA,(0:Int)) = _ from this.1]; rfl
 ·rw [show laws_toActionS_o_L3 N0 N0 (lg,List.replicate ((lg.length:Int)).toNat zA,(0:Int)) = _ from this.2]; rfl
theorem eqAct_self (x:Act3):laws_eqAction N0 (x.1,x.2.1,x.2.2,x.1,x.2.1,x.2.2) = some true := by
 unfold laws_eqAction
 simp only [bne_self_eq_false,cond_false,strEq_self,Bool.not_true]
theorem eqActS_self {lg:List Act3} (hl:lg.length ≤ 4294967296):laws_eqActionS N0 (lg,lg) = some true := by
 have h := test_loop (laws_eqActionS_L4 N0) (fun i => (lg,lg,(i:Int))) (fun _ => true) false () lg.length (fun m i hi => by
  rw [laws_eqActionS_L4]; dsimp only
  rw [lt_t hi,cond_true,inb_nat hi,cond_true,cond_true,Int.toNat_natCast,eqAct_self]
  simp only [Option.bind_some,step_wrap hi hl]; rfl) (fun m => by
  rw [laws_eqActionS_L4]; dsimp only; rw [lt_f]; rfl) N0 0 (Nat.zero_le _) (by have := n0; omega)
 have ht:allN (fun _ => true) 0 (lg.length - 0) = true := allN_iff.2 fun _ _ _ => rfl
 rw [ht] at h
 unfold laws_eqActionS
 simp only [bne_self_eq_false,cond_false]
 rw [show laws_eqActionS_L4 N0 N0 (lg,lg,(0:Int)) = _ from h]; rfl
theorem bytes1 (x:Int):(bytesOf [x]).size = 1 := rfl
theorem markTx_loop:∀ (m:Nat) (x:Int) (T:ByteArray),0 ≤ x → x.toNat < m → T.size + x.toNat ≤ 1099511627776 → ∃ U,laws_markText_L4 N0 m (x,T) = some U ∧ U.size ≤ T.size + x.toNat
 | 0,x,T,h0,hm,hs => by omega
 | m + 1,x,T,h0,hm,hs => by
  rw [laws_markText_L4]
  dsimp only
  by_cases hx:0 < x
  ·have h10:((10:Int) != 0) = true := rfl
   have w:IntKind.i64.wrap (x.tdiv (10:Int)) = x / 10 := by
    rw [Int.tdiv_eq_ediv_of_nonneg h0]
    exact wrap_ok (by omega) (by omega)
   rw [decide_eq_true (show x > 0 from hx),cond_true,h10,cond_true,cond_true,w,strRoom_of (by rw [bytes1]; omega),cond_true]
   obtain ⟨U,u1,u2⟩ := markTx_loop m (x / 10) (bytesOf [IntKind.u8.wrap (IntKind.i64.wrap ((48:Int) + x.tmod (10:Int)))] ++ T) (by omega) (by omega) (by rw [ByteArray.size_append,bytes1]; omega)
   refine ⟨U,u1, ?_⟩
   rw [ByteArray.size_append,bytes1] at u2
   omega
  ·rw [decide_eq_false (show ¬ x > 0 from hx),cond_false]
   exact ⟨T,rfl,by omega⟩
theorem markTx_ex {x:Int} (h:x ≤ 1000000000000):∃ U,laws_markText N0 x = some U := by
 unfold laws_markText
 by_cases hx:x ≤ 0
 ·rw [decide_eq_true hx]; exact ⟨_,rfl⟩
 ·have hN:(1000000000000:Nat) < N0 := by decide
  obtain ⟨U,u1,u2⟩ := markTx_loop N0 x ⟨#[]⟩ (by omega) (by omega) (by show 0 + x.toNat ≤ _; omega)
  have u2':U.size ≤ 0 + x.toNat := u2
  rw [decide_eq_false hx,cond_false,u1,Option.bind_some,strRoom_of (by show 1 + U.size ≤ _; omega),cond_true]
  exact ⟨_,rfl⟩
theorem markAct_loop:∀ (n i:Nat) (l:List Act3) (k:Int) (m:Nat),n + i = l.length → n < m → 0 ≤ k → k + 3 * (n:Int) ≤ 100000000000 → l.length ≤ 4294967296 → ∃ l',laws_markActionS_L2 N0 m (l,k,(i:Int)) = some (l',k + 3 * (n:Int))
 | 0,i,l,k,m,hi,hm,h0,h1,hl => by
  obtain ⟨j,rfl⟩:∃ j,m = j + 1 := ⟨m - 1,by omega⟩
  obtain rfl:i = l.length := by omega
  rw [laws_markActionS_L2]
  dsimp only
  rw [lt_f,cond_false]
  exact ⟨l,by simp⟩
 | n + 1,i,l,k,m,hi,hm,h0,h1,hl => by
  obtain ⟨j,rfl⟩:∃ j,m = j + 1 := ⟨m - 1,by omega⟩
  have hil:i < l.length := by omega
  have w1:IntKind.i64.wrap (k + (1:Int)) = k + 1 := wrap_ok (by omega) (by omega)
  have w2:IntKind.i64.wrap (k + 1 + (1:Int)) = k + 2 := by rw [wrap_ok (by omega) (by omega)]; omega
  have w3:IntKind.i64.wrap (k + 2 + (1:Int)) = k + 3 := by rw [wrap_ok (by omega) (by omega)]; omega
  obtain ⟨U,hU⟩ := markTx_ex (x := k + 2) (by omega)
  rw [laws_markActionS_L2]
  dsimp only
  rw [lt_t hil,cond_true,inb_nat hil,cond_true,Int.toNat_natCast,step_wrap hil hl,w1,w2,w3,hU]
  simp only [List.length_set,inb_nat hil,cond_true,Option.bind_some]
  have key:∀ L:List Act3,L.length = l.length → ∃ l',laws_markActionS_L2 N0 j (L,k + 3,((i + 1:Nat):Int)) = some (l',k + 3 * ((n + 1:Nat):Int)) := fun L hL => by
   obtain ⟨l',e⟩ := markAct_loop n (i + 1) L (k + 3) j (by omega) (by omega) (by omega) (by omega) (by omega)
   have:k + 3 + 3 * (n:Int) = k + 3 * ((n + 1:Nat):Int) := by omega
   exact ⟨l',this ▸ e⟩
  exact key _ (by simp only [List.length_set])
theorem markActS_ex {l:List Act3} {k:Int} (hl:l.length ≤ 4294967296) (h0:0 ≤ k) (h1:k ≤ 50000000000):∃ l',laws_markActionS N0 (l,k) = some (l',k + 3 * (l.length:Int)) := by
 obtain ⟨l',e⟩ := markAct_loop l.length 0 l k N0 (by omega) (by have := n0; omega) h0 (by omega) hl
 unfold laws_markActionS
 dsimp only
 rw [show laws_markActionS_L2 N0 N0 (l,k,(0:Int)) = _ from e]
 exact ⟨l',rfl⟩
theorem szAct_loop {l:List Act3} (hl:l.length ≤ 4294967296) (hT:∀ x ∈ l,x.2.2.size ≤ 9223372036854775807):∀ (n i:Nat) (r:Int) (m:Nat),n + i = l.length → n < m → 0 ≤ r → r ≤ 1048576 → ∃ e,laws_szActionS_L5 N0 m (l,r,(i:Int)) = some e
 | 0,i,r,m,hi,hm,h0,h1 => by
  obtain ⟨j,rfl⟩:∃ j,m = j + 1 := ⟨m - 1,by omega⟩
  obtain rfl:i = l.length := by omega
  rw [laws_szActionS_L5]
  dsimp only
  rw [lt_f,cond_false]
  exact ⟨_,rfl⟩
 | n + 1,i,r,m,hi,hm,h0,h1 => by
  obtain ⟨j,rfl⟩:∃ j,m = j + 1 := ⟨m - 1,by omega⟩
  have hil:i < l.length := by omega
  have hg:(l.getD i zA).2.2.size ≤ 9223372036854775807 := hT _ (by rw [getD_of hil]; exact List.getElem_mem hil)
  have w:IntKind.i64.wrap (r - ((l.getD i zA).2.2.size:Int)) = r - ((l.getD i zA).2.2.size:Int) := wrap_ok (by omega) (by omega)
  rw [laws_szActionS_L5]
  dsimp only
  rw [lt_t hil,cond_true,inb_nat hil,cond_true,Int.toNat_natCast,step_wrap hil hl]
  change ∃ e,((laws_szAction N0 ((l.getD i zA).1,(l.getD i zA).2.1,(l.getD i zA).2.2,r)).bind _) = some e
  unfold laws_szAction
  dsimp only
  rw [w]
  by_cases q:r - ((l.getD i zA).2.2.size:Int) < 0
  ·rw [decide_eq_true q]; exact ⟨_,rfl⟩
  ·rw [decide_eq_false q,cond_false,Option.bind_some,decide_eq_false q,cond_false]
   exact szAct_loop hl hT n (i + 1) _ j (by omega) (by omega) (by omega) (by omega)
theorem szActS_ex {l:List Act3} {r:Int} (hl:l.length ≤ 9223372036854775807) (hT:∀ x ∈ l,x.2.2.size ≤ 9223372036854775807) (h0:0 ≤ r) (h1:r ≤ 1048576):∃ q,laws_szActionS N0 (l,r) = some q ∧ (q < 0 ∨ l.length ≤ 1048576) := by
 have w:IntKind.i64.wrap (r - (l.length:Int)) = r - (l.length:Int) := wrap_ok (by omega) (by omega)
 unfold laws_szActionS
 dsimp only
 rw [w]
 by_cases q:r - (l.length:Int) < 0
 ·rw [decide_eq_true q]; exact ⟨_,rfl, .inl (by decide)⟩
 ·rw [decide_eq_false q,cond_false]
  obtain ⟨e,he⟩ := szAct_loop (l := l) (by omega) hT l.length 0 (r - (l.length:Int)) N0 (by omega) (by have := n0; omega) (by omega) (by omega)
  rw [show laws_szActionS_L5 N0 N0 (l,r - (l.length:Int),(0:Int)) = _ from he]
  cases e with
  | inl a => exact ⟨a,rfl, .inr (by omega)⟩
  | inr b => exact ⟨b,rfl, .inr (by omega)⟩
theorem streamV_len {xs:List Node3} {kn:List Int} {k t s k2 t2 s2:Int} {se go:List Int} (h:streamV xs kn k t s k2 t2 s2 se go = true):xs.length ≤ 500 ∧ kn.length ≤ 200 ∧ se.length ≤ 60 ∧ go.length ≤ 60 := by
 obtain ⟨h1,_,_,h3,h4⟩ := streamV_iff.1 h
 exact ⟨poolB_len (knowV_pool h1),knowV_len h1,(termsV_iff.1 h3).2,(termsV_iff.1 h4).2⟩
theorem run_loop {l:List Act3} (hl:l.length ≤ 60):∀ (n i:Nat) (xs:List Node3) (kn:List Int) (k t s:Int) (d:Bool) (k2 t2 s2:Int) (d2:Bool) (se go:List Int) (c:Int) (m1 m2:Nat),n + i = l.length → n < m1 → n < m2 → streamV xs kn k t s k2 t2 s2 se go = true → 0 ≤ c → c + (n:Int) ≤ 1000 →
  ∃ ys kn' k' t' s' d' k2' t2' s2' d2' se' go' c',impl_StreamRun_L6 N0 m1 ([],[],(0:Int),(0:Int),(0:Int),false,(0:Int),(0:Int),(0:Int),false,[],[],xs,kn,k,t,s,d,k2,t2,s2,d2,se,go,c,l,(l.length:Int),(i:Int)) = some ([],[],(0:Int),(0:Int),(0:Int),false,(0:Int),(0:Int),(0:Int),false,[],[],ys,kn',k',t',s',d',k2',t2',s2',d2',se',go',c') ∧ spec_StreamRun_L6 N0 m2 (l,[],[],(0:Int),(0:Int),(0:Int),false,(0:Int),(0:Int),(0:Int),false,[],[],xs,kn,k,t,s,d,k2,t2,s2,d2,se,go,c,(i:Int)) = some ([],[],(0:Int),(0:Int),(0:Int),false,(0:Int),(0:Int),(0:Int),false,[],[],ys,kn',k',t',s',d',k2',t2',s2',d2',se',go',c') ∧ streamV ys kn' k' t' s' k2' t2' s2' se' go' = true
 | 0,i,xs,kn,k,t,s,d,k2,t2,s2,d2,se,go,c,m1,m2,hi,hm,hm2,hv,hc,hc2 => by
  obtain ⟨j,rfl⟩:∃ j,m1 = j + 1 := ⟨m1 - 1,by omega⟩
  obtain ⟨j2,rfl⟩:∃ j,m2 = j + 1 := ⟨m2 - 1,by omega⟩
  obtain rfl:i = l.length := by omega
  rw [impl_StreamRun_L6,spec_StreamRun_L6]
  dsimp only
  rw [lt_f,cond_false,cond_false]
  exact ⟨xs,kn,k,t,s,d,k2,t2,s2,d2,se,go,c,rfl,rfl,hv⟩
 | n + 1,i,xs,kn,k,t,s,d,k2,t2,s2,d2,se,go,c,m1,m2,hi,hm,hm2,hv,hc,hc2 => by
  obtain ⟨j,rfl⟩:∃ j,m1 = j + 1 := ⟨m1 - 1,by omega⟩
  obtain ⟨j2,rfl⟩:∃ j,m2 = j + 1 := ⟨m2 - 1,by omega⟩
  have hil:i < l.length := by omega
  obtain ⟨b1,b2,b3,b4⟩ := streamV_len hv
  have w:IntKind.i64.wrap (c + (1:Int)) = c + 1 := wrap_ok (by omega) (by omega)
  obtain ⟨ys,kn',k',t',s',d',k2',t2',s2',d2',se',go',ok,g1,g2,_,_,_,_,g3⟩ := streamDo_same (k := k) (t := t) (s := s) (d := d) (k2 := k2) (t2 := t2) (s2 := s2) (d2 := d2) (act := (l.getD i zA).1) (v := (l.getD i zA).2.1) (T := (l.getD i zA).2.2) (show xs.length ≤ 4294967296 by omega) (show kn.length ≤ 4294967296 by omega) (show se.length ≤ 4294967296 by omega) (show go.length ≤ 4294967296 by omega)
  obtain ⟨g4,g5⟩ := g3 hv
  have g1':impl_StreamDo N0 (xs,kn,k,t,s,d,k2,t2,s2,d2,se,go,(l.getD i ((0:Int),((0:Int),(⟨#[]⟩:ByteArray)))).1,(l.getD i ((0:Int),((0:Int),(⟨#[]⟩:ByteArray)))).2.1,(l.getD i ((0:Int),((0:Int),(⟨#[]⟩:ByteArray)))).2.2) = _ := g1
  have g2':spec_StreamDo N0 (xs,kn,k,t,s,d,k2,t2,s2,d2,se,go,(l.getD i ((0:Int),((0:Int),(⟨#[]⟩:ByteArray)))).1,(l.getD i ((0:Int),((0:Int),(⟨#[]⟩:ByteArray)))).2.1,(l.getD i ((0:Int),((0:Int),(⟨#[]⟩:ByteArray)))).2.2) = _ := g2
  rw [impl_StreamRun_L6,spec_StreamRun_L6]
  dsimp only
  simp only [lt_t hil,cond_true,inb_nat hil,Int.toNat_natCast,spec_StreamRun_R8,g1',g2',Option.bind_some,step_wrap hil (show l.length ≤ 4294967296 by omega),w]
  cases ok with
  | true =>
   simp only [cond_true]
   exact run_loop hl n (i + 1) ys kn' k' t' s' d' k2' t2' s2' d2' se' go' (c + 1) j j2 (by omega) (by omega) (by omega) g4 (by omega) (by omega)
  | false =>
   have e := g5 rfl
   simp only [Prod.mk.injEq] at e
   obtain ⟨rfl,rfl,rfl,rfl,rfl,rfl,rfl,rfl,rfl,rfl,rfl,rfl⟩ := e
   simp only [cond_false]
   exact run_loop hl n (i + 1) ys kn' k' t' s' d' k2' t2' s2' d2' se' go' c j j2 (by omega) (by omega) (by omega) hv (by omega) (by omega)
section
variable {xs:List Node3} {kn:List Int} {k t s k2 t2 s2:Int} {d d2:Bool} {se go:List Int} {l:List Act3}
theorem streamRun_same (hx:xs.length ≤ 4294967296) (hk:kn.length ≤ 4294967296) (hs:se.length ≤ 4294967296) (hg:go.length ≤ 4294967296) (hl:l.length ≤ 4294967296) :
  ∃ ys kn' k' t' s' d' k2' t2' s2' d2' se' go' c,impl_StreamRun N0 (xs,kn,k,t,s,d,k2,t2,s2,d2,se,go,l) = some (ys,kn',k',t',s',d',k2',t2',s2',d2',se',go',c) ∧ spec_StreamRun N0 (xs,kn,k,t,s,d,k2,t2,s2,d2,se,go,l) = some (ys,kn',k',t',s',d',k2',t2',s2',d2',se',go',c) ∧ ys.length ≤ 4294967296 ∧ kn'.length ≤ 4294967296 ∧ se'.length ≤ 4294967296 ∧ go'.length ≤ 4294967296 := by
 have iS := implStream_eq (k := k) (t := t) (s := s) (d := d) (k2 := k2) (t2 := t2) (s2 := s2) (d2 := d2) hx hk hs hg
 have sS := specStream_eq (k := k) (t := t) (s := s) (d := d) (k2 := k2) (t2 := t2) (s2 := s2) (d2 := d2) hx hk hs hg
 have iC := implCopy_eq (k := k) (t := t) (s := s) (d := d) (k2 := k2) (t2 := t2) (s2 := s2) (d2 := d2) hx hk hs hg
 have sC := specCopy_eq (k := k) (t := t) (s := s) (d := d) (k2 := k2) (t2 := t2) (s2 := s2) (d2 := d2) hx hk hs hg
 unfold impl_StreamRun spec_StreamRun
 dsimp only
 simp only [iC,sC,iS,sS,Option.bind_some]
 by_cases h60:l.length ≤ 60
 ·have e60:decide ((l.length:Int) > (60:Int)) = false := decide_eq_false (by omega)
  simp only [e60,cond_false]
  cases hv:streamV xs kn k t s k2 t2 s2 se go with
  | false =>
   simp only [Bool.not_false,cond_true]
   exact ⟨xs,kn,k,t,s,d,k2,t2,s2,d2,se,go,0,rfl,rfl,hx,hk,hs,hg⟩
  | true =>
   simp only [Bool.not_true,cond_false]
   obtain ⟨ys,kn',k',t',s',d',k2',t2',s2',d2',se',go',c,g1,g2,g3⟩ := run_loop h60 l.length 0 xs kn k t s d k2 t2 s2 d2 se go 0 N0 N0 (by omega) (by have := n0; omega) (by have := n0; omega) hv (by omega) (by omega)
   have g1':impl_StreamRun_L6 N0 N0 ([],[],(0:Int),(0:Int),(0:Int),false,(0:Int),(0:Int),(0:Int),false,[],[],xs,kn,k,t,s,d,k2,t2,s2,d2,se,go,(0:Int),l,(l.length:Int),(0:Int)) = _ := g1
   have g2':spec_StreamRun_L6 N0 N0 (l,[],[],(0:Int),(0:Int),(0:Int),false,(0:Int),(0:Int),(0:Int),false,[],[],xs,kn,k,t,s,d,k2,t2,s2,d2,se,go,(0:Int),(0:Int)) = _ := g2
   obtain ⟨b1,b2,b3,b4⟩ := streamV_len g3
   simp only [g1',g2',Option.bind_some]
   exact ⟨ys,kn',k',t',s',d',k2',t2',s2',d2',se',go',c,rfl,rfl,by omega,by omega,by omega,by omega⟩
 ·have e60:decide ((l.length:Int) > (60:Int)) = true := decide_eq_true (by omega)
  simp only [e60,cond_true]
  refine ⟨xs,kn,k,t,s,d,k2,t2,s2,d2,se,go,0,rfl, ?_,hx,hk,hs,hg⟩
  cases streamV xs kn k t s k2 t2 s2 se go <;> rfl
end
theorem streamRun_law (xs:List Node3) (kn:List Int) (k t s:Int) (d:Bool) (k2 t2 s2:Int) (d2:Bool) (se go:List Int) (l:List Act3) (hx:xs.length ≤ 9223372036854775807) (hk:kn.length ≤ 9223372036854775807) (hs:se.length ≤ 9223372036854775807) (hg:go.length ≤ 9223372036854775807) (hl:l.length ≤ 9223372036854775807) (hT:∀ x ∈ l,x.2.2.size ≤ 9223372036854775807) :
  laws_FnExactStreamRun N0 (xs,kn,k,t,s,d,k2,t2,s2,d2,se,go,l) = some true := by
 unfold laws_FnExactStreamRun
 dsimp only
 rcases szStream_eq (xs := xs) (kn := kn) (k := k) (t := t) (s := s) (d := d) (k2 := k2) (t2 := t2) (s2 := s2) (d2 := d2) (se := se) (go := go) hx hk hs hg with e | ⟨r,e,r0,r1,l1,l2,l3,l4⟩
 ·rw [e]; rfl
 ·rw [e,Option.bind_some]
  have hr:decide (r < (0:Int)) = false := decide_eq_false (by omega)
  rw [hr,cond_false]
  obtain ⟨q,hq,hq2⟩ := szActS_ex (r := r) hl hT r0 r1
  rw [hq,Option.bind_some]
  by_cases q0:q < 0
  ·rw [decide_eq_true q0]; rfl
  ·have hl5:l.length ≤ 1048576 := by omega
   have hl':l.length ≤ 4294967296 := by omega
   have hx':xs.length ≤ 4294967296 := by omega
   have hk':kn.length ≤ 4294967296 := by omega
   have hs':se.length ≤ 4294967296 := by omega
   have hg':go.length ≤ 4294967296 := by omega
   obtain ⟨ys,kn',k',t',s',d',k2',t2',s2',d2',se',go',c,g1,g2,m1,m2,m3,m4⟩ := streamRun_same (k := k) (t := t) (s := s) (d := d) (k2 := k2) (t2 := t2) (s2 := s2) (d2 := d2) (l := l) hx' hk' hs' hg' hl'
   obtain ⟨tS,tO⟩ := toStream_eq (k := k) (t := t) (s := s) (d := d) (k2 := k2) (t2 := t2) (s2 := s2) (d2 := d2) hx' hk' hs' hg'
   obtain ⟨aS,aO⟩ := toActS_eq hl'
   have eX := eqStream_self (k := k) (t := t) (s := s) (d := d) (k2 := k2) (t2 := t2) (s2 := s2) (d2 := d2) hx' hk' hs' hg'
   have eY := eqStream_self (k := k') (t := t') (s := s') (d := d') (k2 := k2') (t2 := t2') (s2 := s2') (d2 := d2') m1 m2 m3 m4
   have eA := eqActS_self hl'
   obtain ⟨xm,km,sm,gm,u1,u2⟩ := markStream_eq (k := k) (t := t) (s := s) (d := d) (k2 := k2) (t2 := t2) (s2 := s2) (d2 := d2) hx' hk' hs' hg'
   obtain ⟨xm',km',sm',gm',u1',u2'⟩ := markStream_eq (k := k') (t := t') (s := s') (d := d') (k2 := k2') (t2 := t2') (s2 := s2') (d2 := d2') m1 m2 m3 m4
   have z1:0 ≤ mkE xs kn se go := by unfold mkE; omega
   have z2:mkE xs kn se go ≤ 50000000000 := by unfold mkE; omega
   obtain ⟨lm,u3⟩ := markActS_ex (l := l) (k := mkE xs kn se go) hl' z1 z2
   have n1:decide (mkE xs kn se go + 3 * (l.length:Int) < 0) = false := decide_eq_false (by omega)
   have n2:decide (mkE ys kn' se' go' < 0) = false := decide_eq_false (by unfold mkE; omega)
   simp only [decide_eq_false q0,cond_false,Option.bind_some,laws_FnExactStreamRun_R14,tS,tO,aS,aO,g1,g2,eX,eY,eA,u1,u2,u1',u2',u3,n1,n2,bne_self_eq_false,Bool.not_true,cond_true]
theorem streamRun_law_td (x:TD (entys (parEns 0 (S7 0).pars))) (hx:FitsTD _ x):laws_FnExactStreamRun N0 x = some true := by
 obtain ⟨xs,kn,k,t,s,d,k2,t2,s2,d2,se,go,l⟩ := x
 have h1:Fits (.sl kN) xs := hx ⟨.sl kN,xs⟩ (.head _)
 have h2:Fits (.sl (.int .i64)) kn := hx ⟨.sl (.int .i64),kn⟩ (.tail _ (.head _))
 have h3:Fits (.sl (.int .i64)) se := hx ⟨.sl (.int .i64),se⟩ (.tail _ (.tail _ (.tail _ (.tail _ (.tail _ (.tail _ (.tail _ (.tail _ (.tail _ (.tail _ (.head _)))))))))))
 have h4:Fits (.sl (.int .i64)) go := hx ⟨.sl (.int .i64),go⟩ (.tail _ (.tail _ (.tail _ (.tail _ (.tail _ (.tail _ (.tail _ (.tail _ (.tail _ (.tail _ (.tail _ (.head _))))))))))))
 have h5:Fits (.sl (.pr (.int .i64) (.pr (.int .i64) .str))) l := hx ⟨.sl (.pr (.int .i64) (.pr (.int .i64) .str)),l⟩ (.tail _ (.tail _ (.tail _ (.tail _ (.tail _ (.tail _ (.tail _ (.tail _ (.tail _ (.tail _ (.tail _ (.tail _ (.head _)))))))))))))
 exact streamRun_law xs kn k t s d k2 t2 s2 d2 se go l (maxLen_eq ▸ h1.1) (maxLen_eq ▸ h2.1) (maxLen_eq ▸ h3.1) (maxLen_eq ▸ h4.1) (maxLen_eq ▸ h5.1) (fun x hx => by
  have h6:ByteArray.size x.2.2 ≤ maxLen := (h5.2 x hx).2.2
  exact maxLen_eq ▸ h6)
end AM
end Go.Proofs.YtleofghbkfpdaaaGreatDoor
