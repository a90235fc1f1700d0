/- term. -/
import Derived.Test.YtmeekpinkfpnhabGreatP07
import Derived.Test.YtmeekpinkfpnhabGreatP08
import Derived.Test.YtmeekpinkfpnhabGreatP09
set_option linter.all false
namespace Go.Proofs.YtmeekpinkfpnhabGreat
open Go.RowKit
theorem co_tm {k : Nat} {ren : Ren} {v f : Int} {a : AV} {us : List Tm} (h : a.toD? = some (.sl (us.map tmDV))) : Co k ren (.st [iA v, iA f, a]) (.d (tmDV (.mk v f us))) :=
 .dat (by simp only [AV.toD?, allD, h]; rw [tmDV_eq]; rfl)
set_option maxRecDepth 20000 in
theorem small_tri : Tri Tryz.prog 30 [] (pure' (.d (sgDV [0, 1]))) := by
 refine aE Tryz.func30 rfl Tryz.ntmps30 fun w0 h0 k hrd hwr => ?_
 repeat' (first | refine aQ fun K hK => ?_ | ((first | refine aK fun R hR => ?_ | refine aD mixed fun R hR => ?_); simp only [go_sem]) | ((first | (refine hR _ ?_; clear hR R) | refine aZ rfl ?_); try refine aP ?_) | ((repeat (fail_if_success refine hK _ ?_); clear hK K); refine hK _ ?_; clear hK K) | refine aT ?_ | refine aF ?_ | refine aB ?_ | refine aN ?_ | fail)
 (first | refine ret_pure ?_ ?_ ?_ | refine ret_ro ?_ ?_ ?_); focus exact (okA Tryz.ntmps30 Tryz.results30)
 rotate_left; focus exact frA
 simp only [resA, resV, Tryz.results30, go_sem]
 all_goals try exact coA
 exact .dat rfl
set_option maxRecDepth 20000 in
theorem fn_tri (n : Int) (us : List Tm) : Tri Tryz.prog 29 [iA n, .d (.sl (us.map tmDV))] (pure' (.d (tmDV (.mk 0 n us)))) := by
 refine aE Tryz.func29 rfl Tryz.ntmps29 fun w0 h0 k hrd hwr => ?_
 repeat' (first | refine aQ fun K hK => ?_ | ((first | refine aK fun R hR => ?_ | refine aD mixed fun R hR => ?_); simp only [go_sem]) | ((first | (refine hR _ ?_; clear hR R) | refine aZ rfl ?_); try refine aP ?_) | ((repeat (fail_if_success refine hK _ ?_); clear hK K); refine hK _ ?_; clear hK K) | refine aT ?_ | refine aF ?_ | refine aB ?_ | refine aN ?_ | fail)
 (first | refine ret_pure ?_ ?_ ?_ | refine ret_ro ?_ ?_ ?_); focus exact (okA Tryz.ntmps29 Tryz.results29)
 rotate_left; focus exact frA
 simp only [resA, resV, Tryz.results29, go_sem]
 all_goals try exact coA
 exact co_tm rfl
set_option maxRecDepth 20000 in
theorem va_tri (n : Int) : Tri Tryz.prog 44 [iA n] (pure' (.d (tmDV (.mk n 0 [])))) := by
 refine aE Tryz.func44 rfl Tryz.ntmps44 fun w0 h0 k hrd hwr => ?_
 repeat' (first | refine aQ fun K hK => ?_ | ((first | refine aK fun R hR => ?_ | refine aD mixed fun R hR => ?_); simp only [go_sem]) | ((first | (refine hR _ ?_; clear hR R) | refine aZ rfl ?_); try refine aP ?_) | ((repeat (fail_if_success refine hK _ ?_); clear hK K); refine hK _ ?_; clear hK K) | refine aT ?_ | refine aF ?_ | refine aB ?_ | refine aN ?_ | fail)
 (first | refine ret_pure ?_ ?_ ?_ | refine ret_ro ?_ ?_ ?_); focus exact (okA Tryz.ntmps44 Tryz.results44)
 rotate_left; focus exact frA
 simp only [resA, resV, Tryz.results44, go_sem]
 all_goals try exact coA
 exact co_tm rfl
attribute [local irreducible] CallK CallD
mutual
def walkS {S : Type} (step : Tm → S → Bool × S) : Tm → S → Bool × S
 | .mk v f us, s => if (step (.mk v f us) s).1 = true then walkL step us (step (.mk v f us) s).2 else (false, (step (.mk v f us) s).2)
def walkL {S : Type} (step : Tm → S → Bool × S) : List Tm → S → Bool × S
 | [], s => (true, s)
 | x :: xs, s => if (walkS step x s).1 = true then walkL step xs (walkS step x s).2 else (false, (walkS step x s).2)
end
theorem walkS_eq {S : Type} (step : Tm → S → Bool × S) (t : Tm) (s : S) : walkS step t s = if (step t s).1 = true then walkL step t.us (step t s).2 else (false, (step t s).2) := by cases t; rw [walkS]; rfl
theorem walkL_go {S : Type} {step : Tm → S → Bool × S} {us : List Tm} {i : Nat} (hi : i < us.length) {s : S} (h : (walkS step us[i] s).1 = true) : walkL step (us.drop i) s = walkL step (us.drop (i + 1)) (walkS step us[i] s).2 := by
 rw [List.drop_eq_getElem_cons hi, walkL, if_pos h]
theorem walkL_stop {S : Type} {step : Tm → S → Bool × S} {us : List Tm} {i : Nat} (hi : i < us.length) {s : S} (h : (walkS step us[i] s).1 = false) : walkL step (us.drop i) s = (false, (walkS step us[i] s).2) := by
 rw [List.drop_eq_getElem_cons hi, walkL, if_neg (by rw [h]; simp)]
mutual
theorem pre_len : ∀ t : Tm, (pre t).length = t.size
 | .mk v f us => by rw [pre, List.length_cons, preL_len us, Tm.size]; omega
theorem preL_len : ∀ us : List Tm, (preL us).length = Tm.size.sizes us
 | [] => rfl
 | x :: xs => by rw [preL, List.length_append, pre_len x, preL_len xs, Tm.size.sizes]
end
theorem sizes_append (a b : List Tm) : Tm.size.sizes (a ++ b) = Tm.size.sizes a + Tm.size.sizes b := by
 induction a with
 | nil => simp [Tm.size.sizes]
 | cons x xs ih => simp [Tm.size.sizes, ih, Nat.add_assoc]
theorem sizes_take (l : List Tm) (i : Nat) : Tm.size.sizes (l.take i) ≤ Tm.size.sizes l := by
 have h := sizes_append (l.take i) (l.drop i)
 rw [List.take_append_drop] at h
 omega
theorem preL_mem {us : List Tm} {u x : Tm} (hu : u ∈ us) (hx : x ∈ pre u) : x ∈ preL us := by
 induction us with
 | nil => cases hu
 | cons y ys ih =>
  rw [preL, List.mem_append]
  rcases List.mem_cons.1 hu with rfl | hu
  ·exact .inl hx
  ·exact .inr (ih hu)
theorem notN {k : Nat} {N : List Nm} {O : Nm → Ob} {h : Heap} (ha : Ag k N O h) {k' : Nat} (hk : k ≤ k') : ∀ j, ((k', j) ∈ N) = False := fun j => by
 apply eq_false; intro hm
 have := (ha.get _ hm).1
 simp only at this; omega
theorem notN' {k : Nat} {N : List Nm} {O : Nm → Ob} {h : Heap} (ha : Ag k N O h) {k' : Nat} (hk : k ≤ k') : ∀ j, (∀ x, x ∈ N → ¬ x = (k', j)) = True := fun j => by
 apply eq_true; intro x hx e
 have := (ha.get _ hx).1
 rw [e] at this; simp only at this; omega
theorem farN {N : List Nm} (r w : List Nm) : Far r w N N = ((∀ x ∈ w, ¬ x ∈ N) ∧ ∀ x ∈ r, ¬ x ∈ N) := by
 apply propext
 unfold Far
 exact ⟨fun ⟨h1, h2⟩ => ⟨fun x hx => (h1 x hx).1, fun x hx hx' => h2 x hx' hx⟩, fun ⟨h1, h2⟩ => ⟨fun x hx => ⟨h1 x hx, h1 x hx⟩, fun x hx hx' => h2 x hx' hx⟩⟩
section
variable {S : Type} (O : S → Nm → Ob) (N : List Nm) (g : FuncId) (caps : List AV) (step : Tm → S → Bool × S) (I : Nat → S → Prop) (hN : ∀ s (k : Nat), (∀ n ∈ N, n.1 < k) → Cl k N (O s)) (hg : enterOk Tryz.prog g) (hne : N ≠ [])
def DoOK (x : Tm) : Prop := ∀ (n : Nat) (s : S), I (n + 1) s → I n (step x s).2 ∧ ∀ pl : List Int, Tri Tryz.prog g ([.d (.sl (pl.map iD)), .d (tmDV x)] ++ caps) (stE N (O s) (O (step x s).2) (bA (step x s).1))
def WalkSpec (t : Tm) : Prop := (∀ x ∈ pre t, DoOK O N g caps step I x) → ∀ (n : Nat) (s : S), I (t.size + n) s → ((walkS step t s).1 = true → I n (walkS step t s).2) ∧
 ∀ pl : List Int, pl.length + t.size ≤ 4000000 → Tri Tryz.prog 116 [.d (tmDV t), .d (.sl (pl.map iD)), .fn (.func g) [] caps] (stE N (O s) (O (walkS step t s).2) (bA (walkS step t s).1))
include hN hg hne
set_option maxRecDepth 20000 in
theorem walk_step (t : Tm) (ih : ∀ u ∈ t.us, WalkSpec O N g caps step I u) : WalkSpec O N g caps step I t := by
 intro hdo n s hI
 have hsz := t.size_eq
 have hlen := t.len_lt
 have hd0 := hdo t (by rw [pre_eq]; simp)
 obtain ⟨hI1, hT1⟩ := hd0 (Tm.size.sizes t.us + n) s (by rw [hsz] at hI; rw [show Tm.size.sizes t.us + n + 1 = 1 + Tm.size.sizes t.us + n by omega]; exact hI)
 have hdoU : ∀ u ∈ t.us, ∀ x ∈ pre u, DoOK O N g caps step I x := fun u hu x hx => hdo x (by rw [pre_eq]; exact List.mem_cons_of_mem _ (preL_mem hu hx))
 refine ⟨?_, fun pl hpl => ?_⟩
 ·intro hw
  rw [walkS_eq] at hw ⊢
  by_cases h1 : (step t s).1 = true
  ·rw [if_pos h1] at hw ⊢
   clear hT1 hI h1 hd0 hdo
   generalize (step t s).2 = s1 at *
   have ih' : ∀ u ∈ t.us, ∀ (n : Nat) (s : S), I (u.size + n) s → (walkS step u s).1 = true → I n (walkS step u s).2 := fun u hu n s hs => ((ih u hu) (hdoU u hu) n s hs).1
   clear ih hdoU hsz hlen
   generalize t.us = us at *
   clear t
   induction us generalizing s1 with
   | nil => rw [walkL]; simpa [Tm.size.sizes] using hI1
   | cons x xs ihx =>
    rw [walkL] at hw ⊢
    by_cases h2 : (walkS step x s1).1 = true
    ·rw [if_pos h2] at hw ⊢
     refine ihx _ ?_ hw (fun u hu => ih' u (List.mem_cons_of_mem _ hu))
     refine ih' x (by simp) _ s1 ?_ h2
     rw [Tm.size.sizes, Nat.add_assoc] at hI1; exact hI1
    ·rw [if_neg h2] at hw; cases hw
  ·rw [if_neg h1] at hw; cases hw
 ·rw [walkS_eq]
  refine aES Tryz.func116 rfl Tryz.ntmps116 fun w0 h0 k hag => ?_
  have hlt : ∀ n ∈ N, n.1 < k := fun n hn => (hag.get n hn).1
  have hNk := notN hag (Nat.le_refl k)
  have hNk1 := notN hag (k' := k + 1) (by omega)
  have hT := hT1 pl
  cases h1 : (step t s).1 with
  | false =>
   rw [h1] at hT
   have hcl := hN (step t s).2 k hlt
   simp only [Bool.false_eq_true, if_false]
   repeat' (first | refine aQ fun K hK => ?_ | ((first | refine aK fun R hR => ?_ | refine aD mixed fun R hR => ?_); simp only [go_sem, h1, hNk]) | ((first | (refine hR _ ?_; clear hR R) | refine aZ rfl ?_); try refine aP ?_) | ((repeat (fail_if_success refine hK _ ?_); clear hK K); refine hK _ ?_; clear hK K) | refine aT ?_ | refine aF ?_ | refine aB ?_ | ((first | refine CallK.vchg rfl (hg) (hT) ?_ (by assumption) frA ?_ | refine CallD.vchg rfl (hg) (hT) ?_ (by assumption) frA (by assumption) ?_); (focus exact aC); simp only [go_sem, h1, hNk]) | refine aN ?_ | fail)
   refine ret_st (okA Tryz.ntmps116 Tryz.results116) ?_ (by repeat (first | assumption | exact Ag.stN (by assumption) _ _ | refine Ag.updk ?_ (by omega) _)) (by repeat (first | exact FrN.rfl' _ _ _ | assumption | refine FrN.updk ?_ (by omega) _ | refine FrN.stH ?_ _)) (by assumption)
   simp only [resA, resV, Tryz.results116, go_sem]
   all_goals try (first | exact .dat rfl | exact Co.t2 (.dat rfl) (.dat rfl) | exact Co.t3 (.dat rfl) (.dat rfl) (.dat rfl))
  | true =>
   rw [h1] at hT
   simp only [if_true]
   repeat' (first | refine aQ fun K hK => ?_ | ((first | refine aK fun R hR => ?_ | refine aD mixed fun R hR => ?_); simp only [go_sem, h1, hNk, hNk1]) | ((first | (refine hR _ ?_; clear hR R) | refine aZ rfl ?_); try refine aP ?_) | ((repeat (fail_if_success refine hK _ ?_); clear hK K); refine hK _ ?_; clear hK K) | refine aT ?_ | refine aF ?_ | refine aB ?_ | ((first | refine CallK.vchg rfl (hg) (hT) ?_ (by assumption) frA ?_ | refine CallD.vchg rfl (hg) (hT) ?_ (by assumption) frA (by assumption) ?_); (focus exact aC); simp only [go_sem, h1, hNk, hNk1]) | refine aN ?_ | fail)
   generalize hs1 : (step t s).2 = s1 at *
   refine awp_loop (fun σ => ∃ (i : Nat) (si : S), σ.t 1 = .d (.sl (pl.map iD)) ∧ σ.t 2 = .fn (.func g) [] caps ∧ σ.t 15 = .d (.sl (t.us.map tmDV)) ∧ σ.t 16 = iA t.us.length ∧ σ.t 17 = iA i ∧ Ag k N (O si) σ.h ∧ FrN k N h0 σ.h ∧ k < σ.k ∧ i ≤ t.us.length ∧ I (Tm.size.sizes (t.us.drop i) + n) si ∧ walkL step (t.us.drop i) si = walkL step t.us s1) (fun σ => t.us.length - (intOf' (σ.t 17)).toNat) ?_ ?_
   ·refine ⟨0, s1, ?_⟩
    simp only [go_sem, List.drop_zero]
    and_intros; all_goals try (first | rfl | omega | assumption | exact anA)
    ·exact (by repeat (first | assumption | exact Ag.stN (by assumption) _ _ | refine Ag.updk ?_ (by omega) _))
    ·exact (by repeat (first | exact FrN.rfl' _ _ _ | assumption | refine FrN.updk ?_ (by omega) _ | refine FrN.stH ?_ _))
   ·rintro σ ⟨i, si, s1', s2, s15, s16, s17, hA, hF, hk, hi, hIi, hw⟩
    rcases Nat.lt_or_ge i t.us.length with hi' | hge
    ·have hz : (i : Int) < (t.us.length : Int) := by omega
     have e1 : (t.us.map tmDV).getD i default = tmDV t.us[i] := nth_map tmDV hi' _
     have hss := Tm.size_at hi'
     have hIi2 : I (t.us[i].size + (Tm.size.sizes (t.us.drop (i + 1)) + n)) si := by
      rw [List.drop_eq_getElem_cons hi', Tm.size.sizes, Nat.add_assoc] at hIi; exact hIi
     obtain ⟨g1, g2⟩ := ih _ (List.getElem_mem hi') (hdoU _ (List.getElem_mem hi')) _ si hIi2
     have g3 := g2 (pl ++ [(i : Int)]) (by rw [List.length_append, List.length_singleton]; omega)
     have epl : (pl ++ [(i : Int)]).map iD = pl.map iD ++ [iD i] := by simp
     have hN1 := notN hag (k' := σ.k) (by omega)
     have hN2 := notN hag (k' := σ.k + 1) (by omega)
     have hN3 := notN hag (k' := σ.k + 1 + 1) (by omega)
     have hN4 := notN' hag (k' := σ.k + 1) (by omega)
     have hN5 := notN' hag (k' := σ.k + 1 + 1) (by omega)
     have fN := fun r w => farN (N := N) r w
     refine awp_new fun hnew => ?_
     have hnn := hnew.at
     have hcl := hN (walkS step t.us[i] si).2 k hlt
     cases h2 : (walkS step t.us[i] si).1 with
     | true =>
      rw [h2, epl] at g3
      repeat' (first | refine aQ fun K hK => ?_ | ((first | refine aK fun R hR => ?_ | refine aD mixed fun R hR => ?_); simp only [go_sem, s1', s2, s15, s16, s17, hz, e1, epl, hN1, hN2, hN3, hN4, hN5, fN, hnn, Nat.reduceBEq, ite_self, implies_true, Int.toNat_natCast]) | ((first | (refine hR _ ?_; clear hR R) | refine aZ rfl ?_); try refine aP ?_) | ((repeat (fail_if_success refine hK _ ?_); clear hK K); refine hK _ ?_; clear hK K) | refine aT ?_ | refine aF ?_ | refine aB ?_ | ((first | refine CallK.chg (enter116) (g3) ?_ (by assumption) frA ?_ | refine CallD.chg (enter116) (g3) ?_ (by assumption) frA (by assumption) ?_); (focus exact aC); simp only [go_sem, s1', s2, s15, s16, s17, hz, e1, epl, hN1, hN2, hN3, hN4, hN5, fN, hnn, Nat.reduceBEq, ite_self, implies_true, Int.toNat_natCast]) | ((first | refine CallK.new rfl (enter127) (clone_ints pl (by omega)) ?_ ?_ ?_ | refine CallD.new rfl (enter127) (clone_ints pl (by omega)) ?_ ?_ ?_); (focus exact aC); (focus (simp only [go_sem, s1', s2, s15, s16, s17, hz, e1, epl, hN1, hN2, hN3, hN4, hN5, fN, hnn, Nat.reduceBEq, ite_self, implies_true, Int.toNat_natCast]; done)); simp only [go_sem, s1', s2, s15, s16, s17, hz, e1, epl, hN1, hN2, hN3, hN4, hN5, fN, hnn, Nat.reduceBEq, ite_self, implies_true, Int.toNat_natCast]) | refine aN ?_ | fail)
      refine ⟨⟨i + 1, (walkS step t.us[i] si).2, ?_⟩, ?_⟩
      ·simp only [go_sem, s1', s2, s15, s16, s17]
       and_intros; all_goals try (first | rfl | omega | assumption | exact anA)
       ·exact (by repeat (first | assumption | exact Ag.stN (by assumption) _ _ | refine Ag.updk ?_ (by omega) _))
       ·exact (by repeat (first | exact FrN.rfl' _ _ _ | assumption | refine FrN.updk ?_ (by omega) _ | refine FrN.stH ?_ _))
       ·exact g1 h2
       ·rw [← hw]; exact (walkL_go hi' h2).symm
      ·simp only [go_sem, s17]; omega
     | false =>
      rw [h2, epl] at g3
      rw [walkL_stop hi' h2] at hw
      rw [← hw]
      dsimp only
      repeat' (first | refine aQ fun K hK => ?_ | ((first | refine aK fun R hR => ?_ | refine aD mixed fun R hR => ?_); simp only [go_sem, s1', s2, s15, s16, s17, hz, e1, epl, hN1, hN2, hN3, hN4, hN5, fN, hnn, Nat.reduceBEq, ite_self, implies_true, Int.toNat_natCast]) | ((first | (refine hR _ ?_; clear hR R) | refine aZ rfl ?_); try refine aP ?_) | ((repeat (fail_if_success refine hK _ ?_); clear hK K); refine hK _ ?_; clear hK K) | refine aT ?_ | refine aF ?_ | refine aB ?_ | ((first | refine CallK.chg (enter116) (g3) ?_ (by assumption) frA ?_ | refine CallD.chg (enter116) (g3) ?_ (by assumption) frA (by assumption) ?_); (focus exact aC); simp only [go_sem, s1', s2, s15, s16, s17, hz, e1, epl, hN1, hN2, hN3, hN4, hN5, fN, hnn, Nat.reduceBEq, ite_self, implies_true, Int.toNat_natCast]) | ((first | refine CallK.new rfl (enter127) (clone_ints pl (by omega)) ?_ ?_ ?_ | refine CallD.new rfl (enter127) (clone_ints pl (by omega)) ?_ ?_ ?_); (focus exact aC); (focus (simp only [go_sem, s1', s2, s15, s16, s17, hz, e1, epl, hN1, hN2, hN3, hN4, hN5, fN, hnn, Nat.reduceBEq, ite_self, implies_true, Int.toNat_natCast]; done)); simp only [go_sem, s1', s2, s15, s16, s17, hz, e1, epl, hN1, hN2, hN3, hN4, hN5, fN, hnn, Nat.reduceBEq, ite_self, implies_true, Int.toNat_natCast]) | refine aN ?_ | fail)
      refine ret_st (okA Tryz.ntmps116 Tryz.results116) ?_ (by repeat (first | assumption | exact Ag.stN (by assumption) _ _ | refine Ag.updk ?_ (by omega) _)) (by repeat (first | exact FrN.rfl' _ _ _ | assumption | refine FrN.updk ?_ (by omega) _ | refine FrN.stH ?_ _)) (by assumption)
      simp only [resA, resV, Tryz.results116, go_sem]
      all_goals try (first | exact .dat rfl | exact Co.t2 (.dat rfl) (.dat rfl) | exact Co.t3 (.dat rfl) (.dat rfl) (.dat rfl))
    ·have hz : ¬ ((i : Int) < (t.us.length : Int)) := by omega
     have hw' : walkL step t.us s1 = (true, si) := by rw [← hw, List.drop_eq_nil_of_le hge]; rw [walkL]
     have hcl := hN si k hlt
     repeat' (first | refine aQ fun K hK => ?_ | ((first | refine aK fun R hR => ?_ | refine aD mixed fun R hR => ?_); simp only [go_sem, s16, s17, hz]) | ((first | (refine hR _ ?_; clear hR R) | refine aZ rfl ?_); try refine aP ?_) | ((repeat (fail_if_success refine hK _ ?_); clear hK K); refine hK _ ?_; clear hK K) | refine aT ?_ | refine aF ?_ | refine aB ?_ | refine aN ?_ | fail)
     rw [hw']
     dsimp only
     refine ret_st (okA Tryz.ntmps116 Tryz.results116) ?_ (by repeat (first | assumption | exact Ag.stN (by assumption) _ _ | refine Ag.updk ?_ (by omega) _)) (by repeat (first | exact FrN.rfl' _ _ _ | assumption | refine FrN.updk ?_ (by omega) _ | refine FrN.stH ?_ _)) (by assumption)
     simp only [resA, resV, Tryz.results116, go_sem]
     all_goals try (first | exact .dat rfl | exact Co.t2 (.dat rfl) (.dat rfl) | exact Co.t3 (.dat rfl) (.dat rfl) (.dat rfl))
theorem walk_any : ∀ t : Tm, WalkSpec O N g caps step I t := Tm.ind (walk_step O N g caps step I hN hg hne)
set_option maxRecDepth 20000 in
theorem walk_tri (t : Tm) (hdo : ∀ x ∈ pre t, DoOK O N g caps step I x) (n : Nat) (s : S) (hI : I (t.size + n) s) (hsz : t.size ≤ 4000000) : Tri Tryz.prog 89 [.d (tmDV t), .fn (.func g) [] caps] (stE N (O s) (O (walkS step t s).2) (bA (walkS step t s).1)) := by
 have h1 := (walk_any O N g caps step I hN hg hne t hdo n s hI).2 [] (by simpa using hsz)
 refine aES Tryz.func89 rfl Tryz.ntmps89 fun w0 h0 k hag => ?_
 have hlt : ∀ n ∈ N, n.1 < k := fun n hn => (hag.get n hn).1
 have hNk := notN hag (Nat.le_refl k)
 have hNk1 := notN hag (k' := k + 1) (by omega)
 have hcl := hN (walkS step t s).2 k hlt
 repeat' (first | refine aQ fun K hK => ?_ | ((first | refine aK fun R hR => ?_ | refine aD mixed fun R hR => ?_); simp only [go_sem, hNk, hNk1]) | ((first | (refine hR _ ?_; clear hR R) | refine aZ rfl ?_); try refine aP ?_) | ((repeat (fail_if_success refine hK _ ?_); clear hK K); refine hK _ ?_; clear hK K) | refine aT ?_ | refine aF ?_ | refine aB ?_ | ((first | refine CallK.chg (enter116) (h1) ?_ (by assumption) frA ?_ | refine CallD.chg (enter116) (h1) ?_ (by assumption) frA (by assumption) ?_); (focus exact aC); simp only [go_sem, hNk, hNk1]) | refine aN ?_ | fail)
 refine ret_st (okA Tryz.ntmps89 Tryz.results89) ?_ (by repeat (first | assumption | exact Ag.stN (by assumption) _ _ | refine Ag.updk ?_ (by omega) _)) (by repeat (first | exact FrN.rfl' _ _ _ | assumption | refine FrN.updk ?_ (by omega) _ | refine FrN.stH ?_ _)) (by assumption)
 simp only [resA, resV, Tryz.results89, go_sem]
 all_goals try (first | exact .dat rfl | exact Co.t2 (.dat rfl) (.dat rfl) | exact Co.t3 (.dat rfl) (.dat rfl) (.dat rfl))
end
end Go.Proofs.YtmeekpinkfpnhabGreat
