/- Numbers in texts: digits reckoned, and written again. -/
import Derived.Test.YtmeekpinkfpnhabDoorP08
import Derived.Test.YtmeekpinkfpnhabDoorP11
import Derived.Test.YtmeekpinkfpnhabDoorP12
set_option linter.all false
namespace Go.Proofs.YtmeekpinkfpnhabDoor
open Go.RowKit
theorem smT_lits {g : List Int} {c : List Lt} (hs : sigOk g = 0) (hc : clOk g c = 0) : c.length ≤ 8 ∧ ∀ l ∈ c, (smT l.a ∧ l.a.size ≤ 120) ∧ (smT l.b ∧ l.b.size ≤ 120) := by
 obtain ⟨h1, h2⟩ := clOk_all hc
 have sz : ∀ t, own g t = 0 → smT t ∧ t.size ≤ 120 := fun t h => ⟨smT_own hs h, by rw [← parts_len]; exact own_parts h⟩
 exact ⟨h1, fun l hl => ⟨sz _ (h2 l hl).1, sz _ (h2 l hl).2⟩⟩
def termAns (g : List Int) (t : Tm) : By × Int := if allOk g [t] ≠ 0 then ([], allOk g [t]) else (tmT t, 0)
set_option maxHeartbeats 1000000 in
set_option maxRecDepth 20000 in
theorem textTerm_tri (g : List Int) (t : Tm) : Tri Tryd.prog 6 [.d (sgDV g), .d (tmDV t)] (pure' (.tup [sA (termAns g t).1, iA (termAns g t).2])) := by
 unfold termAns
 refine tri_enter Tryd.func6 rfl Tryd.ntmps6 (by simp only [List.length_cons, List.length_nil]; omega) fun w0 h0 k hrd hwr => ?_
 have ha := all_tri g [t]
 cases hv : allOk g [t] == 0 with
 | true =>
  have hv' : allOk g [t] = 0 := by simpa using hv
  rw [hv'] at ha
  rw [if_neg (by simp [hv'])]
  obtain ⟨hs, ho⟩ := allOk_own hv'
  have ho := ho t (by simp)
  have hsz : t.size ≤ 120 := by rw [← parts_len]; exact own_parts ho
  repeat' (first | refine awp_seq_k fun K hK => ?_ | ((first | refine awp_region_k (by kernel_rfl) fun R hR => ?_ | refine awp_draw mixed (by kernel_rfl) (by kernel_rfl) fun R hR => ?_); simp only [go_sem, bne_self_eq_false]) | ((first | (refine hR _ ?_; clear hR R) | refine awp_skip ?_ | refine awp_exit ?_ | refine awp_ret ?_); try simp only [thenA, inBlockA, reduceIte, reduceCtorEq, Nat.reduceEqDiff, if_false, if_true]) | ((first | refine hK _ ?_ | (clear hK K; first | refine hK _ ?_ | (clear hK K; first | refine hK _ ?_ | (clear hK K; first | refine hK _ ?_ | (clear hK K; refine hK _ ?_))))); clear hK K) | refine awp_true rfl rfl ?_ | refine awp_false rfl rfl ?_ | refine awp_block ?_ | ((first | refine CallK.pure (enter20) (ha) ?_ ?_ | refine CallD.pure (enter20) (ha) ?_ ?_ | refine CallK.pure (enter21) (write_tri t (smT_own hs ho) (by omega)) ?_ ?_ | refine CallD.pure (enter21) (write_tri t (smT_own hs ho) (by omega)) ?_ ?_); (focus first | ((repeat (first | exact trivial | refine ⟨(by first | exact Or.inl rfl | exact Or.inr rfl), ?_⟩)); done) | (simp only [coL, AV.dat, true_or, or_true, AV.d.injEq, go_sem]; done)); simp only [go_sem, bne_self_eq_false]) | refine And.intro (by first | ((repeat' first | omega | exact trivial | rfl | assumption | (intro a e; subst e; rfl) | exact map_sz fun a => (by simp only [go_sem]) | refine And.intro ?_ ?_); done) | fail) ?_ | fail)
  (first | refine ret_pure ?_ ?_ ?_ | refine ret_ro ?_ ?_ ?_); focus exact (by simp only [Tryd.results6, resOkL, resOk, Tryd.ntmps6, List.toList_toArray]; first | decide | (simp only [go_sem]; done) | (simp only [go_sem]; and_intros <;> first | omega | rfl | decide))
  rotate_left; focus exact (by repeat (first | exact Fr.rfl' _ _ | assumption | refine Fr.updk ?_ (by omega) _))
  simp only [resA, resV, Tryd.results6, go_sem]
  all_goals try (first | exact Co.t2 (.dat rfl) (.dat rfl) | exact Co.t3 (.dat rfl) (.dat rfl) (.dat rfl))
 | false =>
  have hv' : (allOk g [t] != 0) = true := by simpa using hv
  rw [if_pos (by simpa using hv')]
  repeat' (first | refine awp_seq_k fun K hK => ?_ | ((first | refine awp_region_k (by kernel_rfl) fun R hR => ?_ | refine awp_draw mixed (by kernel_rfl) (by kernel_rfl) fun R hR => ?_); simp only [go_sem, hv']) | ((first | (refine hR _ ?_; clear hR R) | refine awp_skip ?_ | refine awp_exit ?_ | refine awp_ret ?_); try simp only [thenA, inBlockA, reduceIte, reduceCtorEq, Nat.reduceEqDiff, if_false, if_true]) | ((first | refine hK _ ?_ | (clear hK K; first | refine hK _ ?_ | (clear hK K; first | refine hK _ ?_ | (clear hK K; first | refine hK _ ?_ | (clear hK K; refine hK _ ?_))))); clear hK K) | refine awp_true rfl rfl ?_ | refine awp_false rfl rfl ?_ | refine awp_block ?_ | ((first | refine CallK.pure (enter20) (ha) ?_ ?_ | refine CallD.pure (enter20) (ha) ?_ ?_); (focus first | ((repeat (first | exact trivial | refine ⟨(by first | exact Or.inl rfl | exact Or.inr rfl), ?_⟩)); done) | (simp only [coL, AV.dat, true_or, or_true, AV.d.injEq, go_sem]; done)); simp only [go_sem, hv']) | refine And.intro (by first | ((repeat' first | omega | exact trivial | rfl | assumption | (intro a e; subst e; rfl) | exact map_sz fun a => (by simp only [go_sem]) | refine And.intro ?_ ?_); done) | fail) ?_ | fail)
  (first | refine ret_pure ?_ ?_ ?_ | refine ret_ro ?_ ?_ ?_); focus exact (by simp only [Tryd.results6, resOkL, resOk, Tryd.ntmps6, List.toList_toArray]; first | decide | (simp only [go_sem]; done) | (simp only [go_sem]; and_intros <;> first | omega | rfl | decide))
  rotate_left; focus exact (by repeat (first | exact Fr.rfl' _ _ | assumption | refine Fr.updk ?_ (by omega) _))
  simp only [resA, resV, Tryd.results6, go_sem]
  all_goals try (first | exact Co.t2 (.dat rfl) (.dat rfl) | exact Co.t3 (.dat rfl) (.dat rfl) (.dat rfl))
def clauseAns (g : List Int) (c : List Lt) : By × Int := if sigOk g ≠ 0 then ([], sigOk g) else if clOk g c ≠ 0 then ([], clOk g c) else (clT c, 0)
set_option maxHeartbeats 2000000 in
set_option maxRecDepth 20000 in
theorem textClause_tri (g : List Int) (c : List Lt) (hcl : c.length ≤ 4000000) : Tri Tryd.prog 7 [.d (sgDV g), .d (clDV c)] (pure' (.tup [sA (clauseAns g c).1, iA (clauseAns g c).2])) := by
 unfold clauseAns
 refine tri_enter Tryd.func7 rfl Tryd.ntmps7 (by simp only [List.length_cons, List.length_nil]; omega) fun w0 h0 k hrd hwr => ?_
 have h1 := signature_tri g
 have h2 := right_tri g c hcl
 cases hv : sigOk g == 0 with
 | false =>
  have hv' : (sigOk g != 0) = true := by simpa using hv
  have hv2 : (sigOk g == 0) = false := hv
  rw [if_pos (by simpa using hv')]
  repeat' (first | refine awp_seq_k fun K hK => ?_ | ((first | refine awp_region_k (by kernel_rfl) fun R hR => ?_ | refine awp_draw mixed (by kernel_rfl) (by kernel_rfl) fun R hR => ?_); simp only [go_sem, hv', hv2]) | ((first | (refine hR _ ?_; clear hR R) | refine awp_skip ?_ | refine awp_exit ?_ | refine awp_ret ?_); try simp only [thenA, inBlockA, reduceIte, reduceCtorEq, Nat.reduceEqDiff, if_false, if_true]) | ((first | refine hK _ ?_ | (clear hK K; first | refine hK _ ?_ | (clear hK K; first | refine hK _ ?_ | (clear hK K; first | refine hK _ ?_ | (clear hK K; refine hK _ ?_))))); clear hK K) | refine awp_true rfl rfl ?_ | refine awp_false rfl rfl ?_ | refine awp_block ?_ | ((first | refine CallK.pure (enter22) (h1) ?_ ?_ | refine CallD.pure (enter22) (h1) ?_ ?_); (focus first | ((repeat (first | exact trivial | refine ⟨(by first | exact Or.inl rfl | exact Or.inr rfl), ?_⟩)); done) | (simp only [coL, AV.dat, true_or, or_true, AV.d.injEq, go_sem]; done)); simp only [go_sem, hv', hv2]) | refine And.intro (by first | ((repeat' first | omega | exact trivial | rfl | assumption | (intro a e; subst e; rfl) | exact map_sz fun a => (by simp only [go_sem]) | refine And.intro ?_ ?_); done) | fail) ?_ | fail)
  (first | refine ret_pure ?_ ?_ ?_ | refine ret_ro ?_ ?_ ?_); focus exact (by simp only [Tryd.results7, resOkL, resOk, Tryd.ntmps7, List.toList_toArray]; first | decide | (simp only [go_sem]; done) | (simp only [go_sem]; and_intros <;> first | omega | rfl | decide))
  rotate_left; focus exact (by repeat (first | exact Fr.rfl' _ _ | assumption | refine Fr.updk ?_ (by omega) _))
  simp only [resA, resV, Tryd.results7, go_sem]
  all_goals try (first | exact Co.t2 (.dat rfl) (.dat rfl) | exact Co.t3 (.dat rfl) (.dat rfl) (.dat rfl))
 | true =>
  have hs : sigOk g = 0 := by simpa using hv
  rw [if_neg (by simp [hs])]
  rw [hs] at h1
  cases hw : clOk g c == 0 with
  | false =>
   have hw' : (clOk g c != 0) = true := by simpa using hw
   rw [if_pos (by simpa using hw')]
   repeat' (first | refine awp_seq_k fun K hK => ?_ | ((first | refine awp_region_k (by kernel_rfl) fun R hR => ?_ | refine awp_draw mixed (by kernel_rfl) (by kernel_rfl) fun R hR => ?_); simp only [go_sem, hw', beq_self_eq_true]) | ((first | (refine hR _ ?_; clear hR R) | refine awp_skip ?_ | refine awp_exit ?_ | refine awp_ret ?_); try simp only [thenA, inBlockA, reduceIte, reduceCtorEq, Nat.reduceEqDiff, if_false, if_true]) | ((first | refine hK _ ?_ | (clear hK K; first | refine hK _ ?_ | (clear hK K; first | refine hK _ ?_ | (clear hK K; first | refine hK _ ?_ | (clear hK K; refine hK _ ?_))))); clear hK K) | refine awp_true rfl rfl ?_ | refine awp_false rfl rfl ?_ | refine awp_block ?_ | ((first | refine CallK.pure (enter22) (h1) ?_ ?_ | refine CallD.pure (enter22) (h1) ?_ ?_ | refine CallK.pure (enter23) (h2) ?_ ?_ | refine CallD.pure (enter23) (h2) ?_ ?_); (focus first | ((repeat (first | exact trivial | refine ⟨(by first | exact Or.inl rfl | exact Or.inr rfl), ?_⟩)); done) | (simp only [coL, AV.dat, true_or, or_true, AV.d.injEq, go_sem]; done)); simp only [go_sem, hw', beq_self_eq_true]) | refine And.intro (by first | ((repeat' first | omega | exact trivial | rfl | assumption | (intro a e; subst e; rfl) | exact map_sz fun a => (by simp only [go_sem]) | refine And.intro ?_ ?_); done) | fail) ?_ | fail)
   (first | refine ret_pure ?_ ?_ ?_ | refine ret_ro ?_ ?_ ?_); focus exact (by simp only [Tryd.results7, resOkL, resOk, Tryd.ntmps7, List.toList_toArray]; first | decide | (simp only [go_sem]; done) | (simp only [go_sem]; and_intros <;> first | omega | rfl | decide))
   rotate_left; focus exact (by repeat (first | exact Fr.rfl' _ _ | assumption | refine Fr.updk ?_ (by omega) _))
   simp only [resA, resV, Tryd.results7, go_sem]
   all_goals try (first | exact Co.t2 (.dat rfl) (.dat rfl) | exact Co.t3 (.dat rfl) (.dat rfl) (.dat rfl))
  | true =>
   have hc : clOk g c = 0 := by simpa using hw
   rw [if_neg (by simp [hc])]
   rw [hc] at h2
   obtain ⟨hc8, hl⟩ := smT_lits hs hc
   cases he : ((c.length : Nat) : Int) == 0 with
   | true =>
    have he' : c = [] := by simpa using he
    have e4 : clT c = [36, 102, 97, 108, 115, 101] := by rw [he']; rfl
    rw [e4]
    repeat' (first | refine awp_seq_k fun K hK => ?_ | ((first | refine awp_region_k (by kernel_rfl) fun R hR => ?_ | refine awp_draw mixed (by kernel_rfl) (by kernel_rfl) fun R hR => ?_); simp only [go_sem, he, bne_self_eq_false, beq_self_eq_true, List.length_map]) | ((first | (refine hR _ ?_; clear hR R) | refine awp_skip ?_ | refine awp_exit ?_ | refine awp_ret ?_); try simp only [thenA, inBlockA, reduceIte, reduceCtorEq, Nat.reduceEqDiff, if_false, if_true]) | ((first | refine hK _ ?_ | (clear hK K; first | refine hK _ ?_ | (clear hK K; first | refine hK _ ?_ | (clear hK K; first | refine hK _ ?_ | (clear hK K; refine hK _ ?_))))); clear hK K) | refine awp_true rfl rfl ?_ | refine awp_false rfl rfl ?_ | refine awp_block ?_ | ((first | refine CallK.pure (enter22) (h1) ?_ ?_ | refine CallD.pure (enter22) (h1) ?_ ?_ | refine CallK.pure (enter23) (h2) ?_ ?_ | refine CallD.pure (enter23) (h2) ?_ ?_); (focus first | ((repeat (first | exact trivial | refine ⟨(by first | exact Or.inl rfl | exact Or.inr rfl), ?_⟩)); done) | (simp only [coL, AV.dat, true_or, or_true, AV.d.injEq, go_sem]; done)); simp only [go_sem, he, bne_self_eq_false, beq_self_eq_true, List.length_map]) | refine And.intro (by first | ((repeat' first | omega | exact trivial | rfl | assumption | (intro a e; subst e; rfl) | exact map_sz fun a => (by simp only [go_sem]) | refine And.intro ?_ ?_); done) | fail) ?_ | fail)
    (first | refine ret_pure ?_ ?_ ?_ | refine ret_ro ?_ ?_ ?_); focus exact (by simp only [Tryd.results7, resOkL, resOk, Tryd.ntmps7, List.toList_toArray]; first | decide | (simp only [go_sem]; done) | (simp only [go_sem]; and_intros <;> first | omega | rfl | decide))
    rotate_left; focus exact (by repeat (first | exact Fr.rfl' _ _ | assumption | refine Fr.updk ?_ (by omega) _))
    simp only [resA, resV, Tryd.results7, go_sem]
    all_goals try (first | exact Co.t2 (.dat rfl) (.dat rfl) | exact Co.t3 (.dat rfl) (.dat rfl) (.dat rfl))
   | false =>
    have he' : c ≠ [] := by simpa using he
    have e4 : clT c = Lib.join (c.map ltT) [32, 124, 32] := by unfold clT; rw [if_neg he']
    rw [e4]
    repeat' (first | refine awp_ghost (ghost_nil (i := 7) (e := 9) rfl) ?_ | refine awp_seq_k fun K hK => ?_ | ((first | refine awp_region_k (by kernel_rfl) fun R hR => ?_ | refine awp_draw mixed (by kernel_rfl) (by kernel_rfl) fun R hR => ?_); simp only [go_sem, he, bne_self_eq_false, beq_self_eq_true, List.length_map]) | ((first | (refine hR _ ?_; clear hR R) | refine awp_skip ?_ | refine awp_exit ?_ | refine awp_ret ?_); try simp only [thenA, inBlockA, reduceIte, reduceCtorEq, Nat.reduceEqDiff, if_false, if_true]) | ((first | refine hK _ ?_ | (clear hK K; first | refine hK _ ?_ | (clear hK K; first | refine hK _ ?_ | (clear hK K; first | refine hK _ ?_ | (clear hK K; refine hK _ ?_))))); clear hK K) | refine awp_true rfl rfl ?_ | refine awp_false rfl rfl ?_ | refine awp_block ?_ | ((first | refine CallK.pure (enter22) (h1) ?_ ?_ | refine CallD.pure (enter22) (h1) ?_ ?_ | refine CallK.pure (enter23) (h2) ?_ ?_ | refine CallD.pure (enter23) (h2) ?_ ?_); (focus first | ((repeat (first | exact trivial | refine ⟨(by first | exact Or.inl rfl | exact Or.inr rfl), ?_⟩)); done) | (simp only [coL, AV.dat, true_or, or_true, AV.d.injEq, go_sem]; done)); simp only [go_sem, he, bne_self_eq_false, beq_self_eq_true, List.length_map]) | refine And.intro (by first | ((repeat' first | omega | exact trivial | rfl | assumption | (intro a e; subst e; rfl) | exact map_sz fun a => (by simp only [go_sem]) | refine And.intro ?_ ?_); done) | fail) ?_ | fail)
    refine awp_loop (fun σ => ∃ i : Nat, σ.t 7 = .own (k + 1 + 1 + 1 + 1 + 1 + 1 + 1, 0) (((c.take i).map ltT).map sD) ∧ σ.t 24 = .d (clDV c) ∧ σ.t 25 = iA c.length ∧ σ.t 26 = iA i ∧ σ.h (k + 1 + 1 + 1 + 1 + 1 + 1 + 1, 0) = some (.perm 9 i) ∧ Fr k h0 σ.h ∧ k + 1 + 1 + 1 + 1 + 1 + 1 + 1 < σ.k ∧ i ≤ c.length) (fun σ => c.length - (intOf' (σ.t 26)).toNat) ?_ ?_
    ·refine ⟨0, ?_⟩
     simp only [go_sem, List.take_zero]
     and_intros; all_goals try (first | rfl | omega | assumption | ((repeat (first | exact Fr.rfl' _ _ | assumption | refine Fr.updk ?_ (by omega) _)); done))
    ·rintro σ ⟨i, s7, s24, s25, s26, sh, hF, hk, hi⟩
     have hne := ltne (show k + 1 + 1 + 1 + 1 + 1 + 1 + 1 < σ.k by omega)
     have hml : (((c.take i).map ltT).map sD).length = i := by simp; omega
     rcases Nat.lt_or_ge i c.length with hlt | hge
     ·have hz : (i : Int) < (c.length : Int) := by omega
      have e1 : (c.map ltDV).getD i default = ltDV c[i] := nth_map ltDV hlt _
      obtain ⟨⟨a1, a2⟩, b1, b2⟩ := hl _ (List.getElem_mem hlt)
      have la := tmT_len _ a1
      have lb := tmT_len _ b1
      have et : ltT c[i] = tmT c[i].a ++ (if c[i].y = true then [32, 61, 32] else [32, 33, 61, 32]) ++ tmT c[i].b := rfl
      have htl : (c.take (i + 1)).length = i + 1 := by rw [List.length_take]; omega
      have etk : ((c.take i).map ltT).map sD ++ [sD (ltT c[i])] = ((c.take (i + 1)).map ltT).map sD := by rw [List.take_succ_eq_append_getElem hlt, List.map_append, List.map_append]; rfl
      cases hy : c[i].y with
      | true =>
       rw [et, if_pos hy] at etk
       simp only [List.append_assoc, List.cons_append, List.nil_append] at etk
       repeat' (first | refine awp_seq_k fun K hK => ?_ | ((first | refine awp_region_k (by kernel_rfl) fun R hR => ?_ | refine awp_draw mixed (by kernel_rfl) (by kernel_rfl) fun R hR => ?_); simp only [go_sem, s7, s24, s25, s26, sh, hz, e1, hne, hy, hml, List.length_append, List.length_cons, Int.toNat_natCast, List.length_map]) | ((first | (refine hR _ ?_; clear hR R) | refine awp_skip ?_ | refine awp_exit ?_ | refine awp_ret ?_); try simp only [thenA, inBlockA, reduceIte, reduceCtorEq, Nat.reduceEqDiff, if_false, if_true]) | ((first | refine hK _ ?_ | (clear hK K; first | refine hK _ ?_ | (clear hK K; first | refine hK _ ?_ | (clear hK K; first | refine hK _ ?_ | (clear hK K; refine hK _ ?_))))); clear hK K) | refine awp_true rfl rfl ?_ | refine awp_false rfl rfl ?_ | refine awp_block ?_ | ((first | refine CallK.pure (enter21) (write_tri c[i].a a1 (by omega)) ?_ ?_ | refine CallD.pure (enter21) (write_tri c[i].a a1 (by omega)) ?_ ?_); (focus first | ((repeat (first | exact trivial | refine ⟨(by first | exact Or.inl rfl | exact Or.inr rfl), ?_⟩)); done) | (simp only [coL, AV.dat, true_or, or_true, AV.d.injEq, go_sem]; done)); simp only [go_sem, s7, s24, s25, s26, sh, hz, e1, hne, hy, hml, List.length_append, List.length_cons, Int.toNat_natCast, List.length_map]) | ((first | refine CallK.pure (enter21) (write_tri c[i].b b1 (by omega)) ?_ ?_ | refine CallD.pure (enter21) (write_tri c[i].b b1 (by omega)) ?_ ?_); (focus first | ((repeat (first | exact trivial | refine ⟨(by first | exact Or.inl rfl | exact Or.inr rfl), ?_⟩)); done) | (simp only [coL, AV.dat, true_or, or_true, AV.d.injEq, go_sem]; done)); simp only [go_sem, s7, s24, s25, s26, sh, hz, e1, hne, hy, hml, List.length_append, List.length_cons, Int.toNat_natCast, List.length_map]) | refine And.intro (by first | ((repeat' first | omega | exact trivial | rfl | assumption | (intro a e; subst e; rfl) | exact map_sz fun a => (by simp only [go_sem]) | refine And.intro ?_ ?_); done) | fail) ?_ | fail)
       refine ⟨⟨i + 1, ?_⟩, ?_⟩
       rotate_left
       ·simp only [go_sem, s7, s24, s25, s26, sh, hne, etk, hml, htl, List.length_map]; omega
       simp only [go_sem, s7, s24, s25, s26, sh, hne, etk, hml, htl, List.length_map]
       and_intros; all_goals try (first | rfl | omega | assumption | ((repeat (first | exact Fr.rfl' _ _ | assumption | refine Fr.updk ?_ (by omega) _)); done))
      | false =>
       rw [et, if_neg (by simp [hy])] at etk
       simp only [List.append_assoc, List.cons_append, List.nil_append] at etk
       repeat' (first | refine awp_seq_k fun K hK => ?_ | ((first | refine awp_region_k (by kernel_rfl) fun R hR => ?_ | refine awp_draw mixed (by kernel_rfl) (by kernel_rfl) fun R hR => ?_); simp only [go_sem, s7, s24, s25, s26, sh, hz, e1, hne, hy, hml, List.length_append, List.length_cons, Int.toNat_natCast, List.length_map]) | ((first | (refine hR _ ?_; clear hR R) | refine awp_skip ?_ | refine awp_exit ?_ | refine awp_ret ?_); try simp only [thenA, inBlockA, reduceIte, reduceCtorEq, Nat.reduceEqDiff, if_false, if_true]) | ((first | refine hK _ ?_ | (clear hK K; first | refine hK _ ?_ | (clear hK K; first | refine hK _ ?_ | (clear hK K; first | refine hK _ ?_ | (clear hK K; refine hK _ ?_))))); clear hK K) | refine awp_true rfl rfl ?_ | refine awp_false rfl rfl ?_ | refine awp_block ?_ | ((first | refine CallK.pure (enter21) (write_tri c[i].a a1 (by omega)) ?_ ?_ | refine CallD.pure (enter21) (write_tri c[i].a a1 (by omega)) ?_ ?_); (focus first | ((repeat (first | exact trivial | refine ⟨(by first | exact Or.inl rfl | exact Or.inr rfl), ?_⟩)); done) | (simp only [coL, AV.dat, true_or, or_true, AV.d.injEq, go_sem]; done)); simp only [go_sem, s7, s24, s25, s26, sh, hz, e1, hne, hy, hml, List.length_append, List.length_cons, Int.toNat_natCast, List.length_map]) | ((first | refine CallK.pure (enter21) (write_tri c[i].b b1 (by omega)) ?_ ?_ | refine CallD.pure (enter21) (write_tri c[i].b b1 (by omega)) ?_ ?_); (focus first | ((repeat (first | exact trivial | refine ⟨(by first | exact Or.inl rfl | exact Or.inr rfl), ?_⟩)); done) | (simp only [coL, AV.dat, true_or, or_true, AV.d.injEq, go_sem]; done)); simp only [go_sem, s7, s24, s25, s26, sh, hz, e1, hne, hy, hml, List.length_append, List.length_cons, Int.toNat_natCast, List.length_map]) | refine And.intro (by first | ((repeat' first | omega | exact trivial | rfl | assumption | (intro a e; subst e; rfl) | exact map_sz fun a => (by simp only [go_sem]) | refine And.intro ?_ ?_); done) | fail) ?_ | fail)
       refine ⟨⟨i + 1, ?_⟩, ?_⟩
       rotate_left
       ·simp only [go_sem, s7, s24, s25, s26, sh, hne, etk, hml, htl, List.length_map]; omega
       simp only [go_sem, s7, s24, s25, s26, sh, hne, etk, hml, htl, List.length_map]
       and_intros; all_goals try (first | rfl | omega | assumption | ((repeat (first | exact Fr.rfl' _ _ | assumption | refine Fr.updk ?_ (by omega) _)); done))
     ·have hz : ¬ ((i : Int) < (c.length : Int)) := by omega
      obtain rfl : i = c.length := by omega
      rw [List.take_length] at s7
      have hjl := join_sum [32, 124, 32] (c.map ltT)
      have hjl2 : ((c.map ltT).map fun x => x.length + ([32, 124, 32] : By).length).sum ≤ (c.map fun _ => 7000).sum := by
       rw [List.map_map]
       refine sum_le fun u hu => ?_
       have hu := hl u hu
       have := ltT_len hu.1.1 hu.2.1
       show (ltT u).length + 3 ≤ 7000
       omega
      have hjl3 : (c.map fun _ => 7000).sum ≤ 7000 * 8 := by
       rw [List.map_const', List.sum_replicate_nat]; omega
      repeat' (first | refine awp_seq_k fun K hK => ?_ | ((first | refine awp_region_k (by kernel_rfl) fun R hR => ?_ | refine awp_draw mixed (by kernel_rfl) (by kernel_rfl) fun R hR => ?_); simp only [go_sem, s7, s24, s25, s26, sh, hz, hne]) | ((first | (refine hR _ ?_; clear hR R) | refine awp_skip ?_ | refine awp_exit ?_ | refine awp_ret ?_); try simp only [thenA, inBlockA, reduceIte, reduceCtorEq, Nat.reduceEqDiff, if_false, if_true]) | ((first | refine hK _ ?_ | (clear hK K; first | refine hK _ ?_ | (clear hK K; first | refine hK _ ?_ | (clear hK K; first | refine hK _ ?_ | (clear hK K; refine hK _ ?_))))); clear hK K) | refine awp_true rfl rfl ?_ | refine awp_false rfl rfl ?_ | refine awp_block ?_ | ((first | refine CallK.pure (enter24) (join_tri (c.map ltT) [32, 124, 32] (by simp; omega) (by omega)) ?_ ?_ | refine CallD.pure (enter24) (join_tri (c.map ltT) [32, 124, 32] (by simp; omega) (by omega)) ?_ ?_); (focus first | ((repeat (first | exact trivial | refine ⟨(by first | exact Or.inl rfl | exact Or.inr rfl), ?_⟩)); done) | (simp only [coL, AV.dat, true_or, or_true, AV.d.injEq, go_sem]; done)); simp only [go_sem, s7, s24, s25, s26, sh, hz, hne]) | refine And.intro (by first | ((repeat' first | omega | exact trivial | rfl | assumption | (intro a e; subst e; rfl) | exact map_sz fun a => (by simp only [go_sem]) | refine And.intro ?_ ?_); done) | fail) ?_ | fail)
      (first | refine ret_pure ?_ ?_ ?_ | refine ret_ro ?_ ?_ ?_); focus exact (by simp only [Tryd.results7, resOkL, resOk, Tryd.ntmps7, List.toList_toArray]; first | decide | (simp only [go_sem]; done) | (simp only [go_sem]; and_intros <;> first | omega | rfl | decide))
      rotate_left; focus exact (by repeat (first | exact Fr.rfl' _ _ | assumption | refine Fr.updk ?_ (by omega) _))
      simp only [resA, resV, Tryd.results7, go_sem]
      all_goals try (first | exact Co.t2 (.dat rfl) (.dat rfl) | exact Co.t3 (.dat rfl) (.dat rfl) (.dat rfl))
def s1T : By := [102, 49, 40, 88, 49, 41, 32, 61, 32, 102, 48, 32, 124, 32, 88, 49, 32, 33, 61, 32, 102, 48]
def s2T : By := [102, 49, 40, 88, 51, 41]
def c1T : List Lt := [⟨true, .mk 0 1 [.mk 1 0 []], .mk 0 0 []⟩, ⟨false, .mk 1 0 [], .mk 0 0 []⟩]
def t2T : Tm := .mk 0 1 [.mk 3 0 []]
theorem dd0 : dig 0 = [48] := by
 show Lib.decDigits 0 = _
 rw [Lib.decDigits, dif_pos (by decide)]; rfl
theorem dd1 : dig 1 = [49] := by
 show Lib.decDigits 1 = _
 rw [Lib.decDigits, dif_pos (by decide)]; rfl
theorem dd3 : dig 3 = [51] := by
 show Lib.decDigits 3 = _
 rw [Lib.decDigits, dif_pos (by decide)]; rfl
theorem s1T_eq : clT c1T = s1T := by
 have e1 : tmT (.mk 1 0 []) = [88, 49] := by simp [tmT, dd1]
 have e0 : tmT (.mk 0 0 []) = [102, 48] := by simp [tmT, tmTs, dd0]
 have e2 : tmT (.mk 0 1 [.mk 1 0 []]) = [102, 49, 40, 88, 49, 41] := by simp [tmT, tmTs, dd1, Lib.join_one]
 simp [clT, c1T, ltT, e0, e1, e2, Lib.join_cons, Lib.joinTail, s1T]
theorem s2T_eq : tmT t2T = s2T := by simp [t2T, tmT, tmTs, dd1, dd3, Lib.join_one, s2T]
theorem c1T_ok : clOk [0, 1] c1T = 0 := by rfl
theorem t2T_ok : own [0, 1] t2T = 0 := by rfl
set_option maxRecDepth 20000 in
theorem c1T_rd : rdK s1T 5 5 0 = some (c1T, s1T.length) := by rfl
theorem t2T_rd : rdT s2T 5 0 = some (t2T, s2T.length) := by rfl
set_option maxHeartbeats 4000000 in
set_option maxRecDepth 20000 in
theorem textBegun_tri : Tri Tryd.prog 13 [] (pure' (bA true)) := by
 refine tri_enter Tryd.func13 rfl Tryd.ntmps13 (by simp only [List.length_cons, List.length_nil]; omega) fun w0 h0 k hrd hwr => ?_
 have h1 := textClause_tri [0, 1] c1T (by decide)
 have e1 : clauseAns [0, 1] c1T = (s1T, 0) := by
  unfold clauseAns
  rw [if_neg (by decide), if_neg (by rw [c1T_ok]; decide), s1T_eq]
 rw [e1] at h1
 have h2 := parseClause_ok [0, 1] (by decide) s1T (by decide) 5 5 (by decide) c1T (by decide) c1T_rd c1T_ok
 have h3 := parseTerm_ok [0, 1] (by decide) s2T (by decide) 5 t2T t2T_rd t2T_ok
 have h4 := textTerm_tri [0, 1] t2T
 have e4 : termAns [0, 1] t2T = (s2T, 0) := by
  unfold termAns
  rw [if_neg (by decide), s2T_eq]
 rw [e4] at h4
 have q1 := fn_tri 1 [.mk 1 0 []]
 have q2 := fn_tri 0 []
 have q3 := va_tri 1
 have hs1 : (s1T == [102, 49, 40, 88, 49, 41, 32, 61, 32, 102, 48, 32, 124, 32, 88, 49, 32, 33, 61, 32, 102, 48]) = true := by rfl
 have hs2 : (s2T == [102, 49, 40, 88, 51, 41]) = true := by rfl
 have hc1 : c1T.length = 2 := rfl
 have hi2 : (((2 : Nat) : Int) == 2) = true := rfl
 have hi0 : ((0 : Int) == 0) = true := rfl
 repeat' (first | refine awp_seq_k fun K hK => ?_ | ((first | refine awp_region_k (by kernel_rfl) fun R hR => ?_ | refine awp_draw mixed (by kernel_rfl) (by kernel_rfl) fun R hR => ?_); simp only [go_sem, List.length_map, hs1, hs2, hc1, hi2, hi0, beq_self_eq_true]) | ((first | (refine hR _ ?_; clear hR R) | refine awp_skip ?_ | refine awp_exit ?_ | refine awp_ret ?_); try simp only [thenA, inBlockA, reduceIte, reduceCtorEq, Nat.reduceEqDiff, if_false, if_true]) | ((first | refine hK _ ?_ | (clear hK K; first | refine hK _ ?_ | (clear hK K; first | refine hK _ ?_ | (clear hK K; first | refine hK _ ?_ | (clear hK K; refine hK _ ?_))))); clear hK K) | refine awp_true rfl rfl ?_ | refine awp_false rfl rfl ?_ | refine awp_block ?_ | ((first | refine CallK.pure (enter29) (q1) ?_ ?_ | refine CallD.pure (enter29) (q1) ?_ ?_); (focus first | ((repeat (first | exact trivial | refine ⟨(by first | exact Or.inl rfl | exact Or.inr rfl), ?_⟩)); done) | (simp only [coL, AV.dat, true_or, or_true, AV.d.injEq, go_sem]; done)); simp only [go_sem, List.length_map, hs1, hs2, hc1, hi2, hi0, beq_self_eq_true]) | ((first | refine CallK.pure (enter29) (q2) ?_ ?_ | refine CallD.pure (enter29) (q2) ?_ ?_); (focus first | ((repeat (first | exact trivial | refine ⟨(by first | exact Or.inl rfl | exact Or.inr rfl), ?_⟩)); done) | (simp only [coL, AV.dat, true_or, or_true, AV.d.injEq, go_sem]; done)); simp only [go_sem, List.length_map, hs1, hs2, hc1, hi2, hi0, beq_self_eq_true]) | ((first | refine CallK.pure (enter28) (small_tri) ?_ ?_ | refine CallD.pure (enter28) (small_tri) ?_ ?_ | refine CallK.pure (enter30) (q3) ?_ ?_ | refine CallD.pure (enter30) (q3) ?_ ?_ | refine CallK.pure (enter7) (h1) ?_ ?_ | refine CallD.pure (enter7) (h1) ?_ ?_ | refine CallK.pure (enter15) (h2) ?_ ?_ | refine CallD.pure (enter15) (h2) ?_ ?_ | refine CallK.pure (enter14) (h3) ?_ ?_ | refine CallD.pure (enter14) (h3) ?_ ?_ | refine CallK.pure (enter6) (h4) ?_ ?_ | refine CallD.pure (enter6) (h4) ?_ ?_); (focus first | ((repeat (first | exact trivial | refine ⟨(by first | exact Or.inl rfl | exact Or.inr rfl), ?_⟩)); done) | (simp only [coL, AV.dat, true_or, or_true, AV.d.injEq, go_sem]; done)); simp only [go_sem, List.length_map, hs1, hs2, hc1, hi2, hi0, beq_self_eq_true]) | refine And.intro (by first | ((repeat' first | omega | exact trivial | rfl | assumption | (intro a e; subst e; rfl) | exact map_sz fun a => (by simp only [go_sem]) | refine And.intro ?_ ?_); done) | fail) ?_ | fail)
 (first | refine ret_pure ?_ ?_ ?_ | refine ret_ro ?_ ?_ ?_); focus exact (by simp only [Tryd.results13, resOkL, resOk, Tryd.ntmps13, List.toList_toArray]; first | decide | (simp only [go_sem]; done) | (simp only [go_sem]; and_intros <;> first | omega | rfl | decide))
 rotate_left; focus exact (by repeat (first | exact Fr.rfl' _ _ | assumption | refine Fr.updk ?_ (by omega) _))
 simp only [resA, resV, Tryd.results13, go_sem]
 all_goals try (first | exact Co.t2 (.dat rfl) (.dat rfl) | exact Co.t3 (.dat rfl) (.dat rfl) (.dat rfl))
 exact .dat rfl
end Go.Proofs.YtmeekpinkfpnhabDoor
namespace Go.Proofs.YtmeekpinkfpnhabDoor
open Go
def dvF (acc : Nat) (ds : By) : Nat := ds.foldl (fun a b => a * 10 + (b.toNat - 48)) acc
theorem dvF_nil (acc : Nat) : dvF acc [] = acc := rfl
theorem dvF_cons (acc : Nat) (b : UInt8) (r : By) : dvF acc (b :: r) = dvF (acc * 10 + (b.toNat - 48)) r := by unfold dvF; rw [List.foldl_cons]
theorem decFrom_dv : ∀ (ds : By) (acc : Nat), (∀ b ∈ ds, isDg b = true) → Lib.decFrom acc ds = some (dvF acc ds)
 | [], acc, _ => rfl
 | b :: ds, acc, h => by
  rw [Lib.decFrom, isDg_val (h b (by simp)), dvF_cons]
  exact decFrom_dv ds _ fun c hc => h c (by simp [hc])
theorem dvF_app : ∀ (ds : By) (acc : Nat) (b : UInt8), dvF acc (ds ++ [b]) = dvF acc ds * 10 + (b.toNat - 48)
 | [], acc, b => rfl
 | c :: ds, acc, b => by rw [List.cons_append, dvF_cons, dvF_cons, dvF_app ds _ b]
theorem dvF_lt {ds : By} (h : ∀ b ∈ ds, isDg b = true) : dvF 0 ds < 10 ^ ds.length := by
 have := pow_digits ds 0 _ (decFrom_dv ds 0 h)
 simpa using this
theorem isDg_bounds {b : UInt8} (h : isDg b = true) : 48 ≤ b.toNat ∧ b.toNat ≤ 57 := by
 unfold isDg at h
 simpa only [Bool.and_eq_true, decide_eq_true_eq] using h
theorem u8_back {b : UInt8} (h : isDg b = true) : UInt8.ofNat (48 + (b.toNat - 48)) = b := by
 have := isDg_bounds h
 rw [show 48 + (b.toNat - 48) = b.toNat by omega]
 exact UInt8.ofNat_toNat
theorem canon : ∀ (n : Nat) (ds : By), ds.length = n + 1 → (∀ b ∈ ds, isDg b = true) → (n = 0 ∨ ds.head? ≠ some 48) → Lib.decDigits (dvF 0 ds) = ds ∧ (ds.head? ≠ some 48 → 1 ≤ dvF 0 ds)
 | 0, ds, hn, hd, _ => by
  match ds, hn with
  | [b], _ => 
   have hb := hd b (by simp)
   have hbd := isDg_bounds hb
   have e : dvF 0 [b] = b.toNat - 48 := by simp [dvF_cons, dvF_nil]
   rw [e]
   refine ⟨by rw [Lib.decDigits, dif_pos (by omega), u8_back hb], fun hne => ?_⟩
   rcases Nat.lt_or_ge 48 b.toNat with h | h
   ·omega
   ·exfalso; apply hne
    have : b.toNat = 48 := by omega
    have e2 : b = 48 := by rw [← UInt8.ofNat_toNat (x := b), this]; rfl
    rw [e2]; rfl
 | n + 1, ds, hn, hd, hh => by
  have hh : ds.head? ≠ some 48 := by
   rcases hh with h | h
   ·omega
   ·exact h
  rcases List.eq_nil_or_concat ds with rfl | ⟨r, b, rfl⟩
  ·simp at hn
  ·rw [List.concat_eq_append] at *
   have hr : r.length = n + 1 := by simpa using hn
   have hrh : r.head? = (r ++ [b]).head? := by
    cases r with
    | nil => simp at hr
    | cons c r => rfl
   obtain ⟨h1, h2⟩ := canon n r hr (fun c hc => hd c (by simp [hc])) (.inr (by rw [hrh]; exact hh))
   have h3 := h2 (by rw [hrh]; exact hh)
   have hb := hd b (by simp)
   have hbd := isDg_bounds hb
   rw [dvF_app]
   refine ⟨?_, fun _ => by omega⟩
   rw [Lib.decDigits, dif_neg (by omega), show (dvF 0 r * 10 + (b.toNat - 48)) / 10 = dvF 0 r by omega, show (dvF 0 r * 10 + (b.toNat - 48)) % 10 = b.toNat - 48 by omega, h1, u8_back hb]
theorem dec_ne (n : Nat) : Lib.decDigits n ≠ [] := by
 rw [Lib.decDigits]
 split <;> simp
theorem dec_head (n : Nat) (h : 1 ≤ n) : (Lib.decDigits n).head? ≠ some 48 := by
 induction n using Nat.strongRecOn with
 | _ n ih =>
  rw [Lib.decDigits]
  split
  ·rename_i h10
   intro e
   simp only [List.head?_cons, Option.some.injEq] at e
   have := congrArg UInt8.toNat e
   rw [UInt8.toNat_ofNat'] at this
   have h48 : (48 : UInt8).toNat = 48 := rfl
   omega
  ·rename_i h10
   have := ih (n / 10) (by omega) (by omega)
   cases hd : Lib.decDigits (n / 10) with
   | nil => exact absurd hd (dec_ne _)
   | cons c r => rw [hd] at this; simpa using this
def badN (ds : By) : Bool := decide (ds.length = 0) || decide (9 < ds.length) || (decide (1 < ds.length) && ds.head? == some 48)
theorem rdN_eq (l : By) (i : Nat) : rdN l i = if badN (dgAt l i) = true then none else some (dvF 0 (dgAt l i), i + (dgAt l i).length) := by
 have hd := dgAt_dg l i
 generalize hds : dgAt l i = ds at *
 unfold rdN badN
 rw [hds]
 cases hl : ds with
 | nil => simp [Lib.decNat]
 | cons b r =>
  rw [← hl]
  have hne : ds ≠ [] := by rw [hl]; simp
  have hlen : 0 < ds.length := List.length_pos_iff.2 hne
  have e1 : Lib.decNat ds = some (dvF 0 ds) := by
   unfold Lib.decNat
   rw [if_neg (by simpa using hne)]
   exact decFrom_dv ds 0 hd
  rw [e1]
  simp only
  by_cases h9 : ds.length ≤ 9
  ·have hlt := dvF_lt hd
   have hlt' : dvF 0 ds < 10 ^ 19 := Nat.lt_of_lt_of_le hlt (Nat.pow_le_pow_right (by omega) (by omega))
   rw [ddF_eq 19 _ hlt']
   by_cases hz : 1 < ds.length ∧ ds.head? = some 48
   ·rw [if_neg, if_pos (by simp [hz.1, hz.2])]
    rintro ⟨_, he⟩
    rcases Nat.eq_zero_or_pos (dvF 0 ds) with h0 | h0
    ·rw [h0, show Lib.decDigits 0 = [48] by rw [Lib.decDigits]; rfl] at he
     rw [← he] at hz; simp at hz
    ·have := dec_head _ h0
     rw [he] at this; exact this hz.2
   ·obtain ⟨n, hn⟩ : ∃ n, ds.length = n + 1 := ⟨ds.length - 1, by omega⟩
    have hc := (canon n ds hn hd (by
     rcases Nat.eq_zero_or_pos n with h | h
     ·exact .inl h
     ·exact .inr fun e => hz ⟨by omega, e⟩)).1
    rw [if_pos ⟨h9, hc⟩, if_neg]
    simp only [Bool.or_eq_true, Bool.and_eq_true, decide_eq_true_eq, beq_iff_eq, not_or]
    exact ⟨⟨by omega, by omega⟩, hz⟩
  ·rw [if_neg (by omega), if_pos (by simp; omega)]
end Go.Proofs.YtmeekpinkfpnhabDoor
