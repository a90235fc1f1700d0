/- The unifier: Both, where there is an answer. -/
import Derived.Test.YtmeekpinkfpnhabGreatP12
import Derived.Test.YtmeekpinkfpnhabGreatP17
import Derived.Test.YtmeekpinkfpnhabGreatP21
set_option linter.all false
namespace Go.Proofs.YtmeekpinkfpnhabGreat
open Go.RowKit
def bagE (n' : Nm) (es : List (Int × DV)) (v : AV) : Eff := ⟨v, [(n', none)], [(n', some (.bag es))]⟩
attribute [go_sem] bagE
theorem ret_bagE {P : Program} {fn : Func} {n' q : Nm} {es : List (Int × DV)} {v val : AV} {h0 : Heap} {k : Nat} {s : St} (h1 : resOkL P fn.ntmps s fn.results.toList) (h2 : resA P s fn.results.toList = v) (hco : Co k (some (n', q)) v val) (hq : k ≤ q.1) (hn' : n'.1 < k) (h0' : h0 n' = none)
  (hp : s.h q = some (.bag es)) (hfr : Fr k h0 s.h) : RetOK P fn (bagE n' es val) h0 k s := by
 have e1 : (bagE n' es val).ap h0 n' = some (.bag es) := by simp [bagE, Eff.ap, upd]
 refine ⟨h1, some (n', q), ?_, fun x hx hxn => ?_, ?_, ?_⟩
 ·rw [h2]; exact hco
 ·have hxn := hxn _ rfl
  simp only at hxn
  simp [bagE, Eff.ap, upd, hxn, hfr x hx]
 ·rintro y hy
  cases hy
  exact ⟨hn', hq, h0', ⟨_, by simp only [bagE]; exact List.mem_cons_self .., rfl⟩, _, e1, hp, rfl⟩
 ·intro x hx ob ho y hy
  simp only [bagE, List.mem_cons, List.not_mem_nil, or_false] at hx
  subst hx
  cases ho; cases hy
set_option maxHeartbeats 1000000 in
set_option maxRecDepth 20000 in
theorem bothF_tri (n : Nat) (x y : Tm) (b : Bs) (h1 : oneF n [] x y = some (false, b)) : Tri Tryz.prog 118 [.d (tmDV x), .d (tmDV y)] (pure' (.tup [.d (.v (.map none)), bA false, iA 0])) := by
 refine aE Tryz.func118 rfl Tryz.ntmps118 fun w0 h0 k hrd hwr => ?_
 have hnd : [((k + 1, 2) : Nm), (k + 1, 0)].Nodup := by simp
 have hT1 := uone_tri (k + 1, 2) (k + 1, 0) hnd n [] x y _ h1
 have hA1 : ∀ h : Heap, h (k + 1, 2) = some (.cells 161 [.map (k + 1, 0)]) → h (k + 1, 0) = some (.map []) → Ag (k + 1 + 1 + 1) [(k + 1, 2), (k + 1, 0)] (oL (unL (k + 1, 2) (k + 1, 0) [])) h := fun h e1 e2 => unL_ag hnd (by simp only; omega) (by simp only; omega) e1 e2
 repeat' (first | refine aQ fun K hK => ?_ | ((first | refine aK fun R hR => ?_ | refine aD mixed fun R hR => ?_); simp only [go_sem]) | ((first | (refine hR _ ?_; clear hR R) | refine aZ rfl ?_); try refine aP ?_) | ((repeat (fail_if_success refine hK _ ?_); clear hK K); refine hK _ ?_; clear hK K) | refine aT ?_ | refine aF ?_ | refine aB ?_ | ((first | refine CallK.chg (enter128) (hT1) ?_ (hA1 _ (by simp only [go_sem, ]) (by simp only [go_sem, ])) (Fr.rfl' _ _) ?_ | refine CallD.chg (enter128) (hT1) ?_ (hA1 _ (by simp only [go_sem, ]) (by simp only [go_sem, ])) (Fr.rfl' _ _) (by first | assumption | exact List.cons_ne_nil _ _) ?_); (focus exact aC); simp only [go_sem]) | refine aN ?_ | fail)
 refine ret_pure (by simp only [Tryz.results118, resOkL, resOk, Tryz.ntmps118, List.toList_toArray]; decide) ?_ frS
 simp only [resA, resV, Tryz.results118, go_sem]
 exact .t3 (.dat rfl) (.dat rfl) (.dat rfl)
def greatB (sz : Tm → Int) (x : Tm) (b : Bs) : Bool := decide (sz x > 120) || b.any fun p => decide (sz p.2 > 120)
theorem great_perm {sz : Tm → Int} {x : Tm} {b b' : Bs} (h : b.Perm b') : greatB sz x b = greatB sz x b' := by
 unfold greatB
 congr 1
 rw [Bool.eq_iff_iff, List.any_eq_true, List.any_eq_true]
 exact ⟨fun ⟨p, h1, h2⟩ => ⟨p, h.mem_iff.1 h1, h2⟩, fun ⟨p, h1, h2⟩ => ⟨p, h.mem_iff.2 h1, h2⟩⟩
theorem great_snoc {sz : Tm → Int} {x : Tm} {b : Bs} {p : Int × Tm} : greatB sz x (b ++ [p]) = (greatB sz x b || decide (sz p.2 > 120)) := by
 unfold greatB; rw [List.any_append]; simp [Bool.or_assoc]
section
variable (n : Nat) (x y : Tm) (b : Bs) (h1 : oneF n [] x y = some (true, b)) (hz : b.length ≤ 4000000) (sz : Tm → Int) (KnR : List (Int × Int) → Prop) (hK0 : KnR []) (hKb : ∀ kn, KnR kn → KnOk kn)
 (hsx : ∀ kn, KnR kn → ∃ kn', KnR kn' ∧ sizeF n b x kn = some (sz x, kn')) (hsb : ∀ p ∈ b, ∀ kn, KnR kn → ∃ kn', KnR kn' ∧ sizeF n b p.2 kn = some (sz p.2, kn'))
include h1 hz hK0 hKb hsx hsb
set_option maxHeartbeats 8000000 in
set_option maxRecDepth 20000 in
theorem bothM_tri (hg : greatB sz x b = true) : Tri Tryz.prog 118 [.d (tmDV x), .d (tmDV y)] (pure' (.tup [.d (.v (.map none)), bA false, iA 2])) := by
 obtain ⟨kn0, hkn0, h2⟩ := hsx [] hK0
 refine aE Tryz.func118 rfl Tryz.ntmps118 fun w0 h0 k hrd hwr => ?_
 have hnd : [((k + 1, 2) : Nm), (k + 1, 0)].Nodup := by simp
 have hnd3 : [((k + 1, 2) : Nm), (k + 1, 0), (k + 1 + 1 + 1, 0)].Nodup := by simp
 have hT1 := uone_tri (k + 1, 2) (k + 1, 0) hnd n [] x y _ h1
 have hT2 := usize_tri (k + 1, 2) (k + 1, 0) (k + 1 + 1 + 1, 0) hnd3 b n x [] _ (hKb _ hK0) h2
 have hA1 : ∀ h : Heap, h (k + 1, 2) = some (.cells 161 [.map (k + 1, 0)]) → h (k + 1, 0) = some (.map []) → Ag (k + 1 + 1 + 1) [(k + 1, 2), (k + 1, 0)] (oL (unL (k + 1, 2) (k + 1, 0) [])) h := fun h e1 e2 => unL_ag hnd (by simp only; omega) (by simp only; omega) e1 e2
 have hA2 : ∀ h : Heap, h (k + 1, 2) = some (.cells 161 [.map (k + 1, 0)]) → h (k + 1, 0) = some (.map (bsE b)) → h (k + 1 + 1 + 1, 0) = some (.map []) → Ag (k + 1 + 1 + 1 + 1) [(k + 1, 2), (k + 1, 0), (k + 1 + 1 + 1, 0)] (oL (szL (k + 1, 2) (k + 1, 0) (k + 1 + 1 + 1, 0) b [])) h := fun h e1 e2 e3 => szL_ag hnd3 (by simp only; omega) (by simp only; omega) (by simp only; omega) e1 e2 e3
 have eo1 : ∀ kn, oL (szL (k + 1, 2) (k + 1, 0) (k + 1 + 1 + 1, 0) b kn) (k + 1, 2) = .cells 161 [.map (k + 1, 0)] := fun kn => oL_mem (l := szL (k + 1, 2) (k + 1, 0) (k + 1 + 1 + 1, 0) b kn) (p := ((k + 1, 2), _)) hnd3 (List.mem_cons_self ..)
 have eo2 : ∀ kn, oL (szL (k + 1, 2) (k + 1, 0) (k + 1 + 1 + 1, 0) b kn) (k + 1, 0) = .map (bsE b) := fun kn => oL_mem (l := szL (k + 1, 2) (k + 1, 0) (k + 1 + 1 + 1, 0) b kn) (p := ((k + 1, 0), _)) hnd3 (List.mem_cons_of_mem _ (List.mem_cons_self ..))
 have eo3 : ∀ kn, oL (szL (k + 1, 2) (k + 1, 0) (k + 1 + 1 + 1, 0) b kn) (k + 1 + 1 + 1, 0) = .map (knE kn) := fun kn => oL_mem (l := szL (k + 1, 2) (k + 1, 0) (k + 1 + 1 + 1, 0) b kn) (p := ((k + 1 + 1 + 1, 0), _)) hnd3 (List.mem_cons_of_mem _ (List.mem_cons_of_mem _ (List.mem_cons_self ..)))
 repeat' (first | refine aQ fun K hK => ?_ | ((first | refine aK fun R hR => ?_ | refine aD mixed fun R hR => ?_); simp only [go_sem, effRange, okRange, eo1, eo2]) | ((first | (refine hR _ ?_; clear hR R) | refine aZ rfl ?_); try refine aP ?_) | ((repeat (fail_if_success refine hK _ ?_); clear hK K); refine hK _ ?_; clear hK K) | refine aT ?_ | refine aF ?_ | refine aB ?_ | ((first | refine CallK.chg (enter128) (hT1) ?_ (hA1 _ (by simp only [go_sem, ]) (by simp only [go_sem, ])) (Fr.rfl' _ _) ?_ | refine CallD.chg (enter128) (hT1) ?_ (hA1 _ (by simp only [go_sem, ]) (by simp only [go_sem, ])) (Fr.rfl' _ _) (by first | assumption | exact List.cons_ne_nil _ _) ?_); (focus exact aC); simp only [go_sem, effRange, okRange, eo1, eo2]) | ((first | refine CallK.chg (enter129) (hT2) ?_ (hA2 _ (by show upd _ _ _ _ = _; rw [upd_ne _ _ (nmk1 _)]; exact (unL_st hnd).1) (by show upd _ _ _ _ = _; rw [upd_ne _ _ (nmk1 _)]; exact (unL_st hnd).2) (by show upd _ _ _ _ = _; rw [upd_self])) (Fr.rfl' _ _) ?_ | refine CallD.chg (enter129) (hT2) ?_ (hA2 _ (by show upd _ _ _ _ = _; rw [upd_ne _ _ (nmk1 _)]; exact (unL_st hnd).1) (by show upd _ _ _ _ = _; rw [upd_ne _ _ (nmk1 _)]; exact (unL_st hnd).2) (by show upd _ _ _ _ = _; rw [upd_self])) (Fr.rfl' _ _) (by first | assumption | exact List.cons_ne_nil _ _) ?_); (focus exact aC); simp only [go_sem, effRange, okRange, eo1, eo2]) | refine aN ?_ | fail)
 refine awp_loopN (fun j σ => ∃ (seen : List Nat) (kn : List (Int × Int)), j = b.length - seen.length ∧ seen.Nodup ∧ (∀ i ∈ seen, i < b.length) ∧ KnR kn ∧ σ.t 7 = .ptr (k + 1, 2) 0 ∧ σ.t 8 = .map (k + 1 + 1 + 1, 0) ∧ σ.t 9 = bA (greatB sz x (seenB b seen)) ∧ σ.t 33 = .ptr (k + 1 + 1 + 1 + 1 + 1, 4) 0 ∧ σ.h (k + 1, 2) = some (.cells 161 [.map (k + 1, 0)]) ∧ σ.h (k + 1, 0) = some (.map (bsE b)) ∧ σ.h (k + 1 + 1 + 1, 0) = some (.map (knE kn)) ∧ σ.h (k + 1 + 1 + 1 + 1 + 1, 4) = some (.iter (k + 1, 0) b.length seen) ∧ Fr k h0 σ.h ∧ k + 1 + 1 + 1 + 1 + 1 < σ.k) ?_ ?_
 ·refine ⟨b.length, [], kn0, rfl, List.nodup_nil, by simp, hkn0, ?_, ?_, ?_, ?_, ?_, ?_, ?_, ?_, ?_, ?_⟩
  ·simp only [go_sem, ]
  ·simp only [go_sem, ]
  ·simp only [go_sem, greatB, seenB, List.map_nil, List.any_nil, Bool.or_false]
  ·simp only [go_sem, ]
  ·simp only [go_sem, eo1]
  ·simp only [go_sem, eo2]
  ·simp only [go_sem, eo3]
  ·simp only [go_sem, eo1, eo2, bsE_len]
  ·exact frS
  ·show k + 1 + 1 + 1 + 1 + 1 < k + 1 + 1 + 1 + 1 + 1 + 1; omega
 ·rintro j σ ⟨seen, kn, hj, sn, sl, hkn, s7, s8, s9, s33, su, sm, sk, sI, hF, hk⟩
  have l1 := ltne (show k + 1 < σ.k by omega)
  have l3 := ltne (show k + 1 + 1 + 1 < σ.k by omega)
  have l5 := ltne hk
  refine aQ fun K hK => ?_
  refine awp_next_k (by kernel_rfl) s33 sI sm (bsE_len b) fun R hR => ⟨fun hall => ?_, fun i hi hns => ?_⟩
  ·have hperm : (seenB b seen).Perm b := seenB_all sn sl fun i hi => hall i (by rw [bsE_len]; exact hi)
   rw [great_perm hperm] at s9
   simp only [go_sem, endE]
   rw [hg] at s9
   repeat' (first | refine aQ fun K hK => ?_ | ((first | refine aK fun R hR => ?_ | refine aD mixed fun R hR => ?_); simp only [go_sem, s9]) | ((first | (refine hR _ ?_; clear hR R) | refine aZ rfl ?_); try refine aP ?_) | ((repeat (fail_if_success refine hK _ ?_); clear hK K); refine hK _ ?_; clear hK K) | refine aT ?_ | refine aF ?_ | refine aB ?_ | refine aN ?_ | fail)
   (first | refine ret_pure ?_ ?_ ?_ | refine ret_ro ?_ ?_ ?_); focus exact (okA Tryz.ntmps118 Tryz.results118)
   rotate_left; focus exact frA
   simp only [resA, resV, Tryz.results118, go_sem]
   all_goals try exact coA
  ·rw [bsE_len] at hi
   have hsl : seen.length < b.length := by
    have h1 : (i :: seen).Nodup := List.nodup_cons.2 ⟨hns, sn⟩
    have h2 := seen_le h1 (n := b.length) fun x hx => by
     rcases List.mem_cons.1 hx with rfl | hx
     ·exact hi
     ·exact sl x hx
    simp at h2; omega
   have hgl : (seen ++ [i]).getLast? = some i := by simp
   have exs : ∀ n : Nat, (∃ j, some i = some j ∧ j < n) = (i < n) := fun n => by simp
   have e1 := bsE_getD b hi
   obtain ⟨kn1, hkn1, h3⟩ := hsb b[i] (List.getElem_mem hi) kn hkn
   have hT3 := usize_tri (k + 1, 2) (k + 1, 0) (k + 1 + 1 + 1, 0) hnd3 b n b[i].2 kn _ (hKb _ hkn) h3
   have hA3 : ∀ h : Heap, h (k + 1, 2) = some (.cells 161 [.map (k + 1, 0)]) → h (k + 1, 0) = some (.map (bsE b)) → h (k + 1 + 1 + 1, 0) = some (.map (knE kn)) → Ag (k + 1 + 1 + 1 + 1) [(k + 1, 2), (k + 1, 0), (k + 1 + 1 + 1, 0)] (oL (szL (k + 1, 2) (k + 1, 0) (k + 1 + 1 + 1, 0) b kn)) h := fun h e1 e2 e3 => szL_ag hnd3 (by simp only; omega) (by simp only; omega) (by simp only; omega) e1 e2 e3
   have hgs : greatB sz x (seenB b (seen ++ [i])) = (greatB sz x (seenB b seen) || decide (sz b[i].2 > 120)) := by rw [seenB_snoc b seen hi, great_snoc]
   have hnod : (seen ++ [i]).Nodup := by
    rw [List.nodup_append]
    exact ⟨sn, by simp, fun a ha c hc e => by simp at hc; subst hc; subst e; exact hns ha⟩
   have hlts : ∀ x ∈ seen ++ [i], x < b.length := fun x hx => by
    rcases List.mem_append.1 hx with hx | hx
    ·exact sl x hx
    ·simp at hx; subst hx; exact hi
   simp only [go_sem, comesE, e1]
   cases hgr : greatB sz x (seenB b seen) with
   | true =>
    rw [hgr] at s9 hgs
    repeat' (first | refine aQ fun K hK => ?_ | ((first | refine aK fun R hR => ?_ | refine aD mixed fun R hR => ?_); simp only [go_sem, s7, s8, s9, s33, su, sm, sk, sI, l1, l3, l5, effEntry, okEntry, hgl, exs, hi, e1, bsE_len, Option.getD_some]) | ((first | (refine hR _ ?_; clear hR R) | refine aZ rfl ?_); try refine aP ?_) | ((repeat (fail_if_success refine hK _ ?_); clear hK K); refine hK _ ?_; clear hK K) | refine aT ?_ | refine aF ?_ | refine aB ?_ | refine aN ?_ | fail)
    refine ⟨b.length - (seen ++ [i]).length, by simp; omega, seen ++ [i], kn, rfl, hnod, hlts, hkn, ?_, ?_, ?_, ?_, ?_, ?_, ?_, ?_, ?_, ?_⟩
    ·simp only [go_sem, s7]
    ·simp only [go_sem, s8]
    ·simp only [go_sem, hgs, Bool.true_or]
    ·simp only [go_sem, s33]
    ·simp only [go_sem, su, l1]
    ·simp only [go_sem, sm, l1]
    ·simp only [go_sem, sk, l3]
    ·simp only [go_sem, l5]
    ·exact frS
    ·show k + 1 + 1 + 1 + 1 + 1 < σ.k + 1 + 1 + 1; omega
   | false =>
    rw [hgr] at s9 hgs
    repeat' (first | refine aQ fun K hK => ?_ | ((first | refine aK fun R hR => ?_ | refine aD mixed fun R hR => ?_); simp only [go_sem, s7, s8, s9, s33, su, sm, sk, sI, l1, l3, l5, effEntry, okEntry, hgl, exs, hi, e1, bsE_len, Option.getD_some]) | ((first | (refine hR _ ?_; clear hR R) | refine aZ rfl ?_); try refine aP ?_) | ((repeat (fail_if_success refine hK _ ?_); clear hK K); refine hK _ ?_; clear hK K) | refine aT ?_ | refine aF ?_ | refine aB ?_ | ((first | refine CallK.chg (enter129) (hT3) ?_ (hA3 _ (by simp only [go_sem, su, l1]) (by simp only [go_sem, sm, l1]) (by simp only [go_sem, sk, l3])) (Fr.rfl' _ _) ?_ | refine CallD.chg (enter129) (hT3) ?_ (hA3 _ (by simp only [go_sem, su, l1]) (by simp only [go_sem, sm, l1]) (by simp only [go_sem, sk, l3])) (Fr.rfl' _ _) (by first | assumption | exact List.cons_ne_nil _ _) ?_); (focus exact aC); simp only [go_sem, s7, s8, s9, s33, su, sm, sk, sI, l1, l3, l5, effEntry, okEntry, hgl, exs, hi, e1, bsE_len, Option.getD_some]) | refine aN ?_ | fail)
    refine ⟨b.length - (seen ++ [i]).length, by simp; omega, seen ++ [i], kn1, rfl, hnod, hlts, hkn1, ?_, ?_, ?_, ?_, ?_, ?_, ?_, ?_, ?_, ?_⟩
    ·simp only [go_sem, s7]
    ·simp only [go_sem, s8]
    ·simp only [go_sem, hgs, Bool.false_or]
    ·simp only [go_sem, s33]
    ·simp only [go_sem, eo1]
    ·simp only [go_sem, eo2]
    ·simp only [go_sem, eo3]
    ·simp only [go_sem, l5]
    ·exact frS
    ·show k + 1 + 1 + 1 + 1 + 1 < σ.k + 1 + 1 + 1; omega
end
end Go.Proofs.YtmeekpinkfpnhabGreat
namespace Go.Proofs.YtmeekpinkfpnhabGreat
theorem lookB_not {v : Int} {b : Bs} (h : v ∉ b.map (·.1)) : lookB v b = none := by
 induction b with
 | nil => rfl
 | cons p b ih =>
  rw [lookB, if_neg (fun e => h (by simp [e]))]
  exact ih fun hm => h (by simp only [List.map_cons, List.mem_cons]; exact .inr hm)
end Go.Proofs.YtmeekpinkfpnhabGreat
namespace Go.Proofs.YtmeekpinkfpnhabGreat
open Go.RowKit
def thruB (m : Nat) (b : Bs) : Bs := b.map fun p => (p.1, thruT m b p.2)
theorem thruB_put {b : Bs} (hnd : (b.map (·.1)).Nodup) (m : Nat) {i : Nat} (hi : i < b.length) {seen : List Nat} (hl : ∀ j ∈ seen, j < b.length) (hns : i ∉ seen) : putM b[i].1 (tmDV (thruT m b b[i].2)) (bsE (seenB (thruB m b) seen)) = bsE (seenB (thruB m b) (seen ++ [i])) := by
 have hb2 : (thruB m b).length = b.length := by simp [thruB]
 have e1 : (thruB m b)[i]'(by omega) = (b[i].1, thruT m b b[i].2) := by simp [thruB]
 rw [putM_bs, seenB_snoc _ _ (by omega), e1]
 refine lookB_not fun hm => ?_
 obtain ⟨p, hp, e2⟩ := List.mem_map.1 hm
 obtain ⟨j, hj, rfl⟩ := List.mem_map.1 hp
 have hjl := hl j hj
 have e3 : ((thruB m b).getD j (0, .mk 0 0 [])).1 = b[j].1 := by
  rw [List.getD_eq_getElem?_getD, List.getElem?_eq_getElem (by omega), Option.getD_some]; simp [thruB]
 rw [e3] at e2
 have hne : j ≠ i := fun e => hns (e ▸ hj)
 rcases Nat.lt_or_ge j i with h | h
 ·have := List.pairwise_iff_getElem.1 hnd j i (by rw [List.length_map]; exact hjl) (by rw [List.length_map]; exact hi) h
  rw [List.getElem_map, List.getElem_map] at this
  exact this e2
 ·have := List.pairwise_iff_getElem.1 hnd i j (by rw [List.length_map]; exact hi) (by rw [List.length_map]; exact hjl) (by omega)
  rw [List.getElem_map, List.getElem_map] at this
  exact this e2.symm
section
variable (n : Nat) (x y : Tm) (b : Bs) (h1 : oneF n [] x y = some (true, b)) (hz : b.length ≤ 4000000) (sz : Tm → Int) (KnR : List (Int × Int) → Prop) (hK0 : KnR []) (hKb : ∀ kn, KnR kn → KnOk kn)
 (hsx : ∀ kn, KnR kn → ∃ kn', KnR kn' ∧ sizeF n b x kn = some (sz x, kn')) (hsb : ∀ p ∈ b, ∀ kn, KnR kn → ∃ kn', KnR kn' ∧ sizeF n b p.2 kn = some (sz p.2, kn'))
 (hnd : (b.map (·.1)).Nodup) (hbs : ∀ p ∈ b, p.2.size ≤ 4000000) (m : Nat) (hth : ∀ p ∈ b, thruOk m b p.2 = true)
include h1 hz hK0 hKb hsx hsb hnd hbs hth
set_option maxHeartbeats 8000000 in
set_option maxRecDepth 20000 in
theorem bothT_tri (hg : greatB sz x b = false) (n' : Nm) : Tri Tryz.prog 118 [.d (tmDV x), .d (tmDV y)] (bagE n' (bsE (thruB m b)) (.tup [.map n', bA true, iA 0])) := by
 obtain ⟨kn0, hkn0, h2⟩ := hsx [] hK0
 refine aE Tryz.func118 rfl Tryz.ntmps118 fun w0 h0 k hrd hwr => ?_
 have hn1 : n'.1 < k := hwr (n', some (.bag (bsE (thruB m b)))) (by simp [bagE])
 have hn2 : h0 n' = none := hrd (n', none) (by simp [bagE])
 clear hrd hwr
 have hnd2 : [((k + 1, 2) : Nm), (k + 1, 0)].Nodup := by simp
 have hnd3 : [((k + 1, 2) : Nm), (k + 1, 0), (k + 1 + 1 + 1, 0)].Nodup := by simp
 have hT1 := uone_tri (k + 1, 2) (k + 1, 0) hnd2 n [] x y _ h1
 have hT2 := usize_tri (k + 1, 2) (k + 1, 0) (k + 1 + 1 + 1, 0) hnd3 b n x [] _ (hKb _ hK0) h2
 have hA1 : ∀ h : Heap, h (k + 1, 2) = some (.cells 161 [.map (k + 1, 0)]) → h (k + 1, 0) = some (.map []) → Ag (k + 1 + 1 + 1) [(k + 1, 2), (k + 1, 0)] (oL (unL (k + 1, 2) (k + 1, 0) [])) h := fun h e1 e2 => unL_ag hnd2 (by simp only; omega) (by simp only; omega) e1 e2
 have hA2 : ∀ h : Heap, h (k + 1, 2) = some (.cells 161 [.map (k + 1, 0)]) → h (k + 1, 0) = some (.map (bsE b)) → h (k + 1 + 1 + 1, 0) = some (.map []) → Ag (k + 1 + 1 + 1 + 1) [(k + 1, 2), (k + 1, 0), (k + 1 + 1 + 1, 0)] (oL (szL (k + 1, 2) (k + 1, 0) (k + 1 + 1 + 1, 0) b [])) h := fun h e1 e2 e3 => szL_ag hnd3 (by simp only; omega) (by simp only; omega) (by simp only; omega) e1 e2 e3
 have eo1 : ∀ kn, oL (szL (k + 1, 2) (k + 1, 0) (k + 1 + 1 + 1, 0) b kn) (k + 1, 2) = .cells 161 [.map (k + 1, 0)] := fun kn => oL_mem (l := szL (k + 1, 2) (k + 1, 0) (k + 1 + 1 + 1, 0) b kn) (p := ((k + 1, 2), _)) hnd3 (List.mem_cons_self ..)
 have eo2 : ∀ kn, oL (szL (k + 1, 2) (k + 1, 0) (k + 1 + 1 + 1, 0) b kn) (k + 1, 0) = .map (bsE b) := fun kn => oL_mem (l := szL (k + 1, 2) (k + 1, 0) (k + 1 + 1 + 1, 0) b kn) (p := ((k + 1, 0), _)) hnd3 (List.mem_cons_of_mem _ (List.mem_cons_self ..))
 have eo3 : ∀ kn, oL (szL (k + 1, 2) (k + 1, 0) (k + 1 + 1 + 1, 0) b kn) (k + 1 + 1 + 1, 0) = .map (knE kn) := fun kn => oL_mem (l := szL (k + 1, 2) (k + 1, 0) (k + 1 + 1 + 1, 0) b kn) (p := ((k + 1 + 1 + 1, 0), _)) hnd3 (List.mem_cons_of_mem _ (List.mem_cons_of_mem _ (List.mem_cons_self ..)))
 repeat' (first | refine aQ fun K hK => ?_ | ((first | refine aK fun R hR => ?_ | refine aD mixed fun R hR => ?_); simp only [go_sem, effRange, okRange, eo1, eo2]) | ((first | (refine hR _ ?_; clear hR R) | refine aZ rfl ?_); try refine aP ?_) | ((repeat (fail_if_success refine hK _ ?_); clear hK K); refine hK _ ?_; clear hK K) | refine aT ?_ | refine aF ?_ | refine aB ?_ | ((first | refine CallK.chg (enter128) (hT1) ?_ (hA1 _ (by simp only [go_sem, ]) (by simp only [go_sem, ])) (Fr.rfl' _ _) ?_ | refine CallD.chg (enter128) (hT1) ?_ (hA1 _ (by simp only [go_sem, ]) (by simp only [go_sem, ])) (Fr.rfl' _ _) (by first | assumption | exact List.cons_ne_nil _ _) ?_); (focus exact aC); simp only [go_sem, effRange, okRange, eo1, eo2]) | ((first | refine CallK.chg (enter129) (hT2) ?_ (hA2 _ (by show upd _ _ _ _ = _; rw [upd_ne _ _ (nmk1 _)]; exact (unL_st hnd2).1) (by show upd _ _ _ _ = _; rw [upd_ne _ _ (nmk1 _)]; exact (unL_st hnd2).2) (by show upd _ _ _ _ = _; rw [upd_self])) (Fr.rfl' _ _) ?_ | refine CallD.chg (enter129) (hT2) ?_ (hA2 _ (by show upd _ _ _ _ = _; rw [upd_ne _ _ (nmk1 _)]; exact (unL_st hnd2).1) (by show upd _ _ _ _ = _; rw [upd_ne _ _ (nmk1 _)]; exact (unL_st hnd2).2) (by show upd _ _ _ _ = _; rw [upd_self])) (Fr.rfl' _ _) (by first | assumption | exact List.cons_ne_nil _ _) ?_); (focus exact aC); simp only [go_sem, effRange, okRange, eo1, eo2]) | refine aN ?_ | fail)
 refine awp_loopN (fun j σ => ∃ (seen : List Nat) (kn : List (Int × Int)), j = b.length - seen.length ∧ seen.Nodup ∧ (∀ i ∈ seen, i < b.length) ∧ KnR kn ∧ σ.t 7 = .ptr (k + 1, 2) 0 ∧ σ.t 8 = .map (k + 1 + 1 + 1, 0) ∧ σ.t 9 = bA (greatB sz x (seenB b seen)) ∧ σ.t 33 = .ptr (k + 1 + 1 + 1 + 1 + 1, 4) 0 ∧ σ.h (k + 1, 2) = some (.cells 161 [.map (k + 1, 0)]) ∧ σ.h (k + 1, 0) = some (.map (bsE b)) ∧ σ.h (k + 1 + 1 + 1, 0) = some (.map (knE kn)) ∧ σ.h (k + 1 + 1 + 1 + 1 + 1, 4) = some (.iter (k + 1, 0) b.length seen) ∧ Fr k h0 σ.h ∧ k + 1 + 1 + 1 + 1 + 1 < σ.k) ?_ ?_
 ·refine ⟨b.length, [], kn0, rfl, List.nodup_nil, by simp, hkn0, ?_, ?_, ?_, ?_, ?_, ?_, ?_, ?_, ?_, ?_⟩
  ·simp only [go_sem, ]
  ·simp only [go_sem, ]
  ·simp only [go_sem, greatB, seenB, List.map_nil, List.any_nil, Bool.or_false]
  ·simp only [go_sem, ]
  ·simp only [go_sem, eo1]
  ·simp only [go_sem, eo2]
  ·simp only [go_sem, eo3]
  ·simp only [go_sem, eo1, eo2, bsE_len]
  ·exact frS
  ·show k + 1 + 1 + 1 + 1 + 1 < k + 1 + 1 + 1 + 1 + 1 + 1; omega
 ·rintro j σ ⟨seen, kn, hj, sn, sl, hkn, s7, s8, s9, s33, su, sm, sk, sI, hF, hk⟩
  have l1 := ltne (show k + 1 < σ.k by omega)
  have l3 := ltne (show k + 1 + 1 + 1 < σ.k by omega)
  have l5 := ltne hk
  refine aQ fun K hK => ?_
  refine awp_next_k (by kernel_rfl) s33 sI sm (bsE_len b) fun R hR => ⟨fun hall => ?_, fun i hi hns => ?_⟩
  ·have hperm : (seenB b seen).Perm b := seenB_all sn sl fun i hi => hall i (by rw [bsE_len]; exact hi)
   rw [great_perm hperm] at s9
   simp only [go_sem, endE]
   rw [hg] at s9
   repeat' (first | refine aQ fun K hK => ?_ | ((first | refine aK fun R hR => ?_ | refine aD mixed fun R hR => ?_); simp only [go_sem, s7, s8, s9, su, sm, l1, l3, effRange, okRange]) | ((first | (refine hR _ ?_; clear hR R) | refine aZ rfl ?_); try refine aP ?_) | ((repeat (fail_if_success refine hK _ ?_); clear hK K); refine hK _ ?_; clear hK K) | refine aT ?_ | refine aF ?_ | refine aB ?_ | refine aN ?_ | fail)
   have hb2 : (thruB m b).length = b.length := by simp [thruB]
   refine awp_loopN (fun j τ => ∃ seen2 : List Nat, j = b.length - seen2.length ∧ seen2.Nodup ∧ (∀ i ∈ seen2, i < b.length) ∧ τ.t 7 = .ptr (k + 1, 2) 0 ∧ τ.t 12 = .map (σ.k + 1 + 1, 0) ∧ τ.t 52 = .ptr (σ.k + 1 + 1 + 1, 4) 0 ∧ τ.h (k + 1, 2) = some (.cells 161 [.map (k + 1, 0)]) ∧ τ.h (k + 1, 0) = some (.map (bsE b)) ∧ τ.h (σ.k + 1 + 1, 0) = some (.map (bsE (seenB (thruB m b) seen2))) ∧ τ.h (σ.k + 1 + 1 + 1, 4) = some (.iter (k + 1, 0) b.length seen2) ∧ Fr k h0 τ.h ∧ σ.k + 1 + 1 + 1 < τ.k) ?_ ?_
   ·refine ⟨b.length, [], rfl, List.nodup_nil, by simp, ?_, ?_, ?_, ?_, ?_, ?_, ?_, ?_, ?_⟩
    ·simp only [go_sem, s7]
    ·simp only [go_sem, ]
    ·simp only [go_sem, ]
    ·simp only [go_sem, su, l1]
    ·simp only [go_sem, sm, l1]
    ·simp only [go_sem, ]; rfl
    ·simp only [go_sem, sm, l1, bsE_len]
    ·exact frA
    ·show σ.k + 1 + 1 + 1 < σ.k + 1 + 1 + 1 + 1; omega
   ·rintro j τ ⟨seen2, tj, tn, tl, t7, t12, t52, tu, tm, to, tI, tF, tk⟩
    have m1 := ltne (show k + 1 < τ.k by omega)
    have m2 := ltne (show σ.k + 1 + 1 < τ.k by omega)
    have m3 := ltne tk
    refine aQ fun K hK => ?_
    refine awp_next_k (by kernel_rfl) t52 tI tm (bsE_len b) fun R hR => ⟨fun hall2 => ?_, fun i hi hns => ?_⟩
    ·have hperm2 : (seenB (thruB m b) seen2).Perm (thruB m b) := seenB_all tn (fun i hi => by rw [hb2]; exact tl i hi) fun i hi => hall2 i (by rw [bsE_len, ← hb2]; exact hi)
     have hpm : (bsE (thruB m b)).Perm (bsE (seenB (thruB m b) seen2)) := hperm2.symm.map _
     simp only [go_sem, endE]
     repeat' (first | (refine awp_ghost (ghost_bag (x := (σ.k + 1 + 1, 0)) (es := bsE (seenB (thruB m b) seen2)) (es' := bsE (thruB m b)) ?_ hpm) ?_; (focus (simp only [go_sem, to]; done)); simp only [go_sem]) | refine aQ fun K hK => ?_ | ((first | refine aK fun R hR => ?_ | refine aD mixed fun R hR => ?_); simp only [go_sem, t12]) | ((first | (refine hR _ ?_; clear hR R) | refine aZ rfl ?_); try refine aP ?_) | ((repeat (fail_if_success refine hK _ ?_); clear hK K); refine hK _ ?_; clear hK K) | refine aT ?_ | refine aF ?_ | refine aB ?_ | refine aN ?_ | fail)
     refine ret_bagE (q := (σ.k + 1 + 1, 0)) (by simp only [Tryz.results118, resOkL, resOk, Tryz.ntmps118, List.toList_toArray]; decide) (by simp only [resA, resV, Tryz.results118, go_sem]; rfl) (Co.t3 (.map rfl) (.dat rfl) (.dat rfl)) (by simp only; omega) hn1 hn2 ?_ ?_
     ·simp only [go_sem, ]
     ·exact frA
    ·rw [bsE_len] at hi
     have hsl : seen2.length < b.length := by
      have h1 : (i :: seen2).Nodup := List.nodup_cons.2 ⟨hns, tn⟩
      have h2 := seen_le h1 (n := b.length) fun x hx => by
       rcases List.mem_cons.1 hx with rfl | hx
       ·exact hi
       ·exact tl x hx
      simp at h2; omega
     have hgl : (seen2 ++ [i]).getLast? = some i := by simp
     have exs : ∀ n : Nat, (∃ j, some i = some j ∧ j < n) = (i < n) := fun n => by simp
     have e1 := bsE_getD b hi
     have hnod : (seen2 ++ [i]).Nodup := by
      rw [List.nodup_append]
      exact ⟨tn, by simp, fun a ha c hc e => by simp at hc; subst hc; subst e; exact hns ha⟩
     have hlts : ∀ x ∈ seen2 ++ [i], x < b.length := fun x hx => by
      rcases List.mem_append.1 hx with hx | hx
      ·exact tl x hx
      ·simp at hx; subst hx; exact hi
     have hT4 := through_tri (k + 1, 2) (k + 1, 0) b hbs m b[i].2 (hbs _ (List.getElem_mem hi)) (hth _ (List.getElem_mem hi))
     have hpm := thruB_put hnd m hi tl hns
     simp only [go_sem, comesE, e1]
     repeat' (first | refine aQ fun K hK => ?_ | ((first | refine aK fun R hR => ?_ | refine aD mixed fun R hR => ?_); simp only [go_sem, t7, t12, t52, tu, tm, to, tI, l1, m1, m2, m3, effEntry, okEntry, hgl, exs, hi, e1, bsE_len, hpm, AV.toD, Option.getD_some]) | ((first | (refine hR _ ?_; clear hR R) | refine aZ rfl ?_); try refine aP ?_) | ((repeat (fail_if_success refine hK _ ?_); clear hK K); refine hK _ ?_; clear hK K) | refine aT ?_ | refine aF ?_ | refine aB ?_ | ((first | refine CallK.look (enter130) (hT4) ?_ (unR_ok (k := τ.k) (by simp only; omega) (by simp only; omega) (by simp only [go_sem, tu, m1, l1]) (by simp only [go_sem, tm, m1, l1])) (Fr.rfl' _ _) ?_ | refine CallD.look (enter130) (hT4) ?_ (unR_ok (k := τ.k) (by simp only; omega) (by simp only; omega) (by simp only [go_sem, tu, m1, l1]) (by simp only [go_sem, tm, m1, l1])) (Fr.rfl' _ _) (by first | assumption | exact List.cons_ne_nil _ _) ?_); (focus exact aC); simp only [go_sem, t7, t12, t52, tu, tm, to, tI, l1, m1, m2, m3, effEntry, okEntry, hgl, exs, hi, e1, bsE_len, hpm, AV.toD, Option.getD_some]) | refine aN ?_ | fail)
     refine ⟨b.length - (seen2 ++ [i]).length, by simp; omega, seen2 ++ [i], rfl, hnod, hlts, ?_, ?_, ?_, ?_, ?_, ?_, ?_, ?_, ?_⟩
     ·simp only [go_sem, t7]
     ·simp only [go_sem, t12]
     ·simp only [go_sem, t52]
     ·simp only [go_sem, tu, m1, l1]
     ·simp only [go_sem, tm, m1, l1]
     ·simp only [go_sem, m2]
     ·simp only [go_sem, m3]
     ·exact frA
     ·show σ.k + 1 + 1 + 1 < τ.k + 1 + 1 + 1; omega
  ·rw [bsE_len] at hi
   have hsl : seen.length < b.length := by
    have h1 : (i :: seen).Nodup := List.nodup_cons.2 ⟨hns, sn⟩
    have h2 := seen_le h1 (n := b.length) fun x hx => by
     rcases List.mem_cons.1 hx with rfl | hx
     ·exact hi
     ·exact sl x hx
    simp at h2; omega
   have hgl : (seen ++ [i]).getLast? = some i := by simp
   have exs : ∀ n : Nat, (∃ j, some i = some j ∧ j < n) = (i < n) := fun n => by simp
   have e1 := bsE_getD b hi
   obtain ⟨kn1, hkn1, h3⟩ := hsb b[i] (List.getElem_mem hi) kn hkn
   have hT3 := usize_tri (k + 1, 2) (k + 1, 0) (k + 1 + 1 + 1, 0) hnd3 b n b[i].2 kn _ (hKb _ hkn) h3
   have hA3 : ∀ h : Heap, h (k + 1, 2) = some (.cells 161 [.map (k + 1, 0)]) → h (k + 1, 0) = some (.map (bsE b)) → h (k + 1 + 1 + 1, 0) = some (.map (knE kn)) → Ag (k + 1 + 1 + 1 + 1) [(k + 1, 2), (k + 1, 0), (k + 1 + 1 + 1, 0)] (oL (szL (k + 1, 2) (k + 1, 0) (k + 1 + 1 + 1, 0) b kn)) h := fun h e1 e2 e3 => szL_ag hnd3 (by simp only; omega) (by simp only; omega) (by simp only; omega) e1 e2 e3
   have hgs : greatB sz x (seenB b (seen ++ [i])) = (greatB sz x (seenB b seen) || decide (sz b[i].2 > 120)) := by rw [seenB_snoc b seen hi, great_snoc]
   have hnod : (seen ++ [i]).Nodup := by
    rw [List.nodup_append]
    exact ⟨sn, by simp, fun a ha c hc e => by simp at hc; subst hc; subst e; exact hns ha⟩
   have hlts : ∀ x ∈ seen ++ [i], x < b.length := fun x hx => by
    rcases List.mem_append.1 hx with hx | hx
    ·exact sl x hx
    ·simp at hx; subst hx; exact hi
   simp only [go_sem, comesE, e1]
   cases hgr : greatB sz x (seenB b seen) with
   | true =>
    rw [hgr] at s9 hgs
    repeat' (first | refine aQ fun K hK => ?_ | ((first | refine aK fun R hR => ?_ | refine aD mixed fun R hR => ?_); simp only [go_sem, s7, s8, s9, s33, su, sm, sk, sI, l1, l3, l5, effEntry, okEntry, hgl, exs, hi, e1, bsE_len, Option.getD_some]) | ((first | (refine hR _ ?_; clear hR R) | refine aZ rfl ?_); try refine aP ?_) | ((repeat (fail_if_success refine hK _ ?_); clear hK K); refine hK _ ?_; clear hK K) | refine aT ?_ | refine aF ?_ | refine aB ?_ | refine aN ?_ | fail)
    refine ⟨b.length - (seen ++ [i]).length, by simp; omega, seen ++ [i], kn, rfl, hnod, hlts, hkn, ?_, ?_, ?_, ?_, ?_, ?_, ?_, ?_, ?_, ?_⟩
    ·simp only [go_sem, s7]
    ·simp only [go_sem, s8]
    ·simp only [go_sem, hgs, Bool.true_or]
    ·simp only [go_sem, s33]
    ·simp only [go_sem, su, l1]
    ·simp only [go_sem, sm, l1]
    ·simp only [go_sem, sk, l3]
    ·simp only [go_sem, l5]
    ·exact frS
    ·show k + 1 + 1 + 1 + 1 + 1 < σ.k + 1 + 1 + 1; omega
   | false =>
    rw [hgr] at s9 hgs
    repeat' (first | refine aQ fun K hK => ?_ | ((first | refine aK fun R hR => ?_ | refine aD mixed fun R hR => ?_); simp only [go_sem, s7, s8, s9, s33, su, sm, sk, sI, l1, l3, l5, effEntry, okEntry, hgl, exs, hi, e1, bsE_len, Option.getD_some]) | ((first | (refine hR _ ?_; clear hR R) | refine aZ rfl ?_); try refine aP ?_) | ((repeat (fail_if_success refine hK _ ?_); clear hK K); refine hK _ ?_; clear hK K) | refine aT ?_ | refine aF ?_ | refine aB ?_ | ((first | refine CallK.chg (enter129) (hT3) ?_ (hA3 _ (by simp only [go_sem, su, l1]) (by simp only [go_sem, sm, l1]) (by simp only [go_sem, sk, l3])) (Fr.rfl' _ _) ?_ | refine CallD.chg (enter129) (hT3) ?_ (hA3 _ (by simp only [go_sem, su, l1]) (by simp only [go_sem, sm, l1]) (by simp only [go_sem, sk, l3])) (Fr.rfl' _ _) (by first | assumption | exact List.cons_ne_nil _ _) ?_); (focus exact aC); simp only [go_sem, s7, s8, s9, s33, su, sm, sk, sI, l1, l3, l5, effEntry, okEntry, hgl, exs, hi, e1, bsE_len, Option.getD_some]) | refine aN ?_ | fail)
    refine ⟨b.length - (seen ++ [i]).length, by simp; omega, seen ++ [i], kn1, rfl, hnod, hlts, hkn1, ?_, ?_, ?_, ?_, ?_, ?_, ?_, ?_, ?_, ?_⟩
    ·simp only [go_sem, s7]
    ·simp only [go_sem, s8]
    ·simp only [go_sem, hgs, Bool.false_or]
    ·simp only [go_sem, s33]
    ·simp only [go_sem, eo1]
    ·simp only [go_sem, eo2]
    ·simp only [go_sem, eo3]
    ·simp only [go_sem, l5]
    ·exact frS
    ·show k + 1 + 1 + 1 + 1 + 1 < σ.k + 1 + 1 + 1; omega
end
end Go.Proofs.YtmeekpinkfpnhabGreat
