/- Texts read: a term, where the reader does not give up. -/
import Derived.Test.YtmeekpinkfpnhabDoorP07
import Derived.Test.YtmeekpinkfpnhabDoorP08
set_option linter.all false
namespace Go.Proofs.YtmeekpinkfpnhabDoor
open Go.RowKit
theorem co_tm {k : Nat} {ren : Ren} {v f : Int} {a : AV} {us : List Tm} (h : a.toD? = some (.sl (us.map tmDV))) : Co k ren (.st [iA v, iA f, a]) (.d (tmDV (.mk v f us))) :=
 .dat (by simp only [AV.toD?, allD, h]; rw [tmDV_eq]; rfl)
set_option maxRecDepth 20000 in
theorem small_tri : Tri Tryd.prog 28 [] (pure' (.d (sgDV [0, 1]))) := by
 refine tri_enter Tryd.func28 rfl Tryd.ntmps28 (by simp only [List.length_cons, List.length_nil]; omega) fun w0 h0 k hrd hwr => ?_
 repeat' (first | refine awp_seq_k fun K hK => ?_ | ((first | refine awp_region_k (by kernel_rfl) fun R hR => ?_ | refine awp_draw mixed (by kernel_rfl) (by kernel_rfl) fun R hR => ?_); simp only [go_sem]) | ((first | (refine hR _ ?_; clear hR R) | refine awp_skip ?_ | refine awp_exit ?_ | refine awp_ret ?_); try simp only [thenA, inBlockA, reduceIte, reduceCtorEq, Nat.reduceEqDiff, if_false, if_true]) | ((first | refine hK _ ?_ | (clear hK K; first | refine hK _ ?_ | (clear hK K; first | refine hK _ ?_ | (clear hK K; first | refine hK _ ?_ | (clear hK K; refine hK _ ?_))))); clear hK K) | refine awp_true rfl rfl ?_ | refine awp_false rfl rfl ?_ | refine awp_block ?_ | refine And.intro (by first | ((repeat' first | omega | exact trivial | rfl | assumption | (intro a e; subst e; rfl) | exact map_sz fun a => (by simp only [go_sem]) | refine And.intro ?_ ?_); done) | fail) ?_ | fail)
 (first | refine ret_pure ?_ ?_ ?_ | refine ret_ro ?_ ?_ ?_); focus exact (by simp only [Tryd.results28, resOkL, resOk, Tryd.ntmps28, List.toList_toArray]; first | decide | (simp only [go_sem]; done) | (simp only [go_sem]; and_intros <;> first | omega | rfl | decide))
 rotate_left; focus exact (by repeat (first | exact Fr.rfl' _ _ | assumption | refine Fr.updk ?_ (by omega) _))
 simp only [resA, resV, Tryd.results28, go_sem]
 all_goals try (first | exact Co.t2 (.dat rfl) (.dat rfl) | exact Co.t3 (.dat rfl) (.dat rfl) (.dat rfl))
 exact .dat rfl
set_option maxRecDepth 20000 in
theorem fn_tri (n : Int) (us : List Tm) : Tri Tryd.prog 29 [iA n, .d (.sl (us.map tmDV))] (pure' (.d (tmDV (.mk 0 n us)))) := by
 refine tri_enter Tryd.func29 rfl Tryd.ntmps29 (by simp only [List.length_cons, List.length_nil]; omega) fun w0 h0 k hrd hwr => ?_
 repeat' (first | refine awp_seq_k fun K hK => ?_ | ((first | refine awp_region_k (by kernel_rfl) fun R hR => ?_ | refine awp_draw mixed (by kernel_rfl) (by kernel_rfl) fun R hR => ?_); simp only [go_sem]) | ((first | (refine hR _ ?_; clear hR R) | refine awp_skip ?_ | refine awp_exit ?_ | refine awp_ret ?_); try simp only [thenA, inBlockA, reduceIte, reduceCtorEq, Nat.reduceEqDiff, if_false, if_true]) | ((first | refine hK _ ?_ | (clear hK K; first | refine hK _ ?_ | (clear hK K; first | refine hK _ ?_ | (clear hK K; first | refine hK _ ?_ | (clear hK K; refine hK _ ?_))))); clear hK K) | refine awp_true rfl rfl ?_ | refine awp_false rfl rfl ?_ | refine awp_block ?_ | refine And.intro (by first | ((repeat' first | omega | exact trivial | rfl | assumption | (intro a e; subst e; rfl) | exact map_sz fun a => (by simp only [go_sem]) | refine And.intro ?_ ?_); done) | fail) ?_ | fail)
 (first | refine ret_pure ?_ ?_ ?_ | refine ret_ro ?_ ?_ ?_); focus exact (by simp only [Tryd.results29, resOkL, resOk, Tryd.ntmps29, List.toList_toArray]; first | decide | (simp only [go_sem]; done) | (simp only [go_sem]; and_intros <;> first | omega | rfl | decide))
 rotate_left; focus exact (by repeat (first | exact Fr.rfl' _ _ | assumption | refine Fr.updk ?_ (by omega) _))
 simp only [resA, resV, Tryd.results29, go_sem]
 all_goals try (first | exact Co.t2 (.dat rfl) (.dat rfl) | exact Co.t3 (.dat rfl) (.dat rfl) (.dat rfl))
 exact co_tm rfl
set_option maxRecDepth 20000 in
theorem va_tri (n : Int) : Tri Tryd.prog 30 [iA n] (pure' (.d (tmDV (.mk n 0 [])))) := by
 refine tri_enter Tryd.func30 rfl Tryd.ntmps30 (by simp only [List.length_cons, List.length_nil]; omega) fun w0 h0 k hrd hwr => ?_
 repeat' (first | refine awp_seq_k fun K hK => ?_ | ((first | refine awp_region_k (by kernel_rfl) fun R hR => ?_ | refine awp_draw mixed (by kernel_rfl) (by kernel_rfl) fun R hR => ?_); simp only [go_sem]) | ((first | (refine hR _ ?_; clear hR R) | refine awp_skip ?_ | refine awp_exit ?_ | refine awp_ret ?_); try simp only [thenA, inBlockA, reduceIte, reduceCtorEq, Nat.reduceEqDiff, if_false, if_true]) | ((first | refine hK _ ?_ | (clear hK K; first | refine hK _ ?_ | (clear hK K; first | refine hK _ ?_ | (clear hK K; first | refine hK _ ?_ | (clear hK K; refine hK _ ?_))))); clear hK K) | refine awp_true rfl rfl ?_ | refine awp_false rfl rfl ?_ | refine awp_block ?_ | refine And.intro (by first | ((repeat' first | omega | exact trivial | rfl | assumption | (intro a e; subst e; rfl) | exact map_sz fun a => (by simp only [go_sem]) | refine And.intro ?_ ?_); done) | fail) ?_ | fail)
 (first | refine ret_pure ?_ ?_ ?_ | refine ret_ro ?_ ?_ ?_); focus exact (by simp only [Tryd.results30, resOkL, resOk, Tryd.ntmps30, List.toList_toArray]; first | decide | (simp only [go_sem]; done) | (simp only [go_sem]; and_intros <;> first | omega | rfl | decide))
 rotate_left; focus exact (by repeat (first | exact Fr.rfl' _ _ | assumption | refine Fr.updk ?_ (by omega) _))
 simp only [resA, resV, Tryd.results30, go_sem]
 all_goals try (first | exact Co.t2 (.dat rfl) (.dat rfl) | exact Co.t3 (.dat rfl) (.dat rfl) (.dat rfl))
 exact co_tm rfl
section
variable {P : Program} {w0 : GW} {n : Nat} {Q : Exit → St → Prop} {s : St}
theorem ghost_boxN {b : Nm} {e e' : TypeId} {cs : List AV} (j : Nat) (hb : s.h b = some (.cells e' cs)) (hj : cs[j]? = some .nil) : Ghost P w0 n s ⟨s.t, upd (upd s.h (s.k, 0) (some (.perm e 0))) b (some (.cells e' (cs.set j (.own (s.k, 0) [])))), s.k + 1⟩ := by
 intro m β a w h1 h2 h3
 have hn : β (s.k, 0) = none := by
  cases hn : β (s.k, 0) with
  | none => rfl
  | some p => have := h2.dom _ _ hn; simp at this
 have hle := updB_le (le_new (p := ⟨0, 0, some 0⟩) hn)
 have H1 := (h2.tick (Nat.le_succ s.k)).perm0 hn (Nat.lt_succ_self _) e 0 0
 obtain ⟨p, hp, hv, c, c1, c2, c3, c4⟩ := h2.obj b _ hb
 have hbk : b.1 < s.k := h2.dom b p hp
 have hbn : b ≠ (s.k, 0) := fun e => by rw [e] at hbk; simp at hbk
 have hp' : updB β (s.k, 0) ⟨0, 0, some 0⟩ b = some p := (updB_ne _ _ hbn).trans hp
 have hB : w0.heap.size ≤ p.1 := h2.new b p _ hp hb trivial
 have eβ : updB (updB β (s.k, 0) ⟨0, 0, some 0⟩) b p = updB β (s.k, 0) ⟨0, 0, some 0⟩ := by
  funext y; unfold updB; split
  ·subst_vars; rw [if_neg hbn]; exact hp.symm
  ·rfl
 have H2 := H1.upd1 (n := b) (p := p) (ob := .cells e' (cs.set j (.own (s.k, 0) []))) (m' := m) (w' := w) (le_old hp') (Nat.lt_succ_of_lt hbk) H1.ext (.rfl' m) H1.mem ?_ (fun _ => hB) ?_
 ·rw [eβ] at H2
  exact ⟨m, _, Nat.le_succ _, ⟨.rfl' m, hle, H2, h3.mono (.rfl' m) hle⟩, fun x hx => updB_none fun e => by subst e; simp at hx⟩
 ·rw [eβ]
  refine ⟨hv, c, c1, by simpa using c2, fun i v x hi hx => ?_, c4⟩
  rw [List.getElem?_set] at hx
  by_cases hij : j = i
  ·subst hij
   obtain ⟨k1, k2⟩ := c3 j v .nil hi hj
   rw [if_pos rfl] at hx
   split at hx
   ·cases hx
    refine ⟨k1, ?_⟩
    cases k2 with
    | nil => exact .own (p := ⟨0, 0, some 0⟩) (v := 0) .nil (updB_self _ _ _) rfl (Nat.le_refl _) fun _ => ⟨none, rfl, .inl ⟨rfl, rfl⟩⟩
   ·cases hx
  ·rw [if_neg hij] at hx
   obtain ⟨k1, k2⟩ := c3 i v x hi hx
   exact ⟨k1, k2.mono (.rfl' m) hle⟩
 ·intro x p' ob' hx hob hpx hr
  refine ⟨fun _ => ?_, rfl, fun _ => rfl⟩
  by_cases hxk : x = (s.k, 0)
  ·subst hxk
   rw [upd_self] at hob; cases hob
   rw [updB_self] at hpx; cases hpx
   exact absurd ⟨rfl, rfl⟩ hr
  ·rw [upd_ne _ _ hxk] at hob
   rw [updB_ne _ _ hxk] at hpx
   exact fun e => hx (h2.inj x b p' p ob' _ hob hb hpx hp hr trivial e)
end
def RdTSpec (l : By) (f : Nat) : Prop := ∀ (b : Nm) (i : Nat) (t : Tm) (j : Nat), i ≤ l.length → rdT l f i = some (t, j) → Tri Tryd.prog 33 [.ptr b 0] (rdE1 b l i j (.d (tmDV t)))
def permLen (h : Heap) (n : Nm) : Nat := match h n with | some (.perm _ q) => q | _ => 0
set_option maxHeartbeats 4000000 in
set_option maxRecDepth 20000 in
theorem term_var (l : By) (hl : l.length ≤ 4000000) (b : Nm) (i n j : Nat) (hi : i ≤ l.length) (hX : hasAt l i [88] = true) (hn : rdN l (i + 1) = some (n, j)) (hn0 : n > 0) : Tri Tryd.prog 33 [.ptr b 0] (rdE1 b l i j (.d (tmDV (.mk n 0 [])))) := by
 have h1 := hasAt_le hX hi
 simp only [List.length_cons, List.length_nil] at h1
 refine tri_enter_st Tryd.func33 rfl Tryd.ntmps33 (by simp only [List.length_cons, List.length_nil]; omega) fun w0 h0 k hag => ?_
 obtain ⟨hb, eb⟩ := hag.get b (by simp)
 rw [rdO_eq] at eb
 have hN : ∀ n ∈ [b], n.1 < k := by simpa using hb
 have qb := nmne hb
 have hT := take_yes b l [88] i hl hi (by decide) hX
 have hM := number_tri b l (i + 1) n j hl (by omega) hn
 have hn1 : decide ((n : Int) > 0) = true := by simp; omega
 repeat' (first | refine awp_seq_k fun K hK => ?_ | ((first | refine awp_region_k (by kernel_rfl) fun R hR => ?_ | refine awp_draw mixed (by kernel_rfl) (by kernel_rfl) fun R hR => ?_); simp only [go_sem, qb, hn1]) | ((first | (refine hR _ ?_; clear hR R) | refine awp_skip ?_ | refine awp_exit ?_ | refine awp_ret ?_); try simp only [thenA, inBlockA, reduceIte, reduceCtorEq, Nat.reduceEqDiff, if_false, if_true]) | ((first | refine hK _ ?_ | (clear hK K; first | refine hK _ ?_ | (clear hK K; first | refine hK _ ?_ | (clear hK K; first | refine hK _ ?_ | (clear hK K; refine hK _ ?_))))); clear hK K) | refine awp_true rfl rfl ?_ | refine awp_false rfl rfl ?_ | refine awp_block ?_ | ((first | refine CallK.chg (enter49) (hT) ?_ (agRd hb (by simp only [go_sem, eb, qb, rdO])) (Fr.rfl' _ _) ?_ | refine CallD.chg (enter49) (hT) ?_ (agRd hb (by simp only [go_sem, eb, qb, rdO])) (Fr.rfl' _ _) (by first | assumption | exact List.cons_ne_nil _ _) ?_); (focus first | ((repeat (first | exact trivial | refine ⟨(by first | exact Or.inl rfl | exact Or.inr rfl), ?_⟩)); done) | (simp only [coL, AV.dat, true_or, or_true, AV.d.injEq, go_sem]; done)); simp only [go_sem, qb, hn1]) | ((first | refine CallK.chg (enter50) (hM) ?_ (agRd hb (by simp only [go_sem, eb, qb, rdO])) (Fr.rfl' _ _) ?_ | refine CallD.chg (enter50) (hM) ?_ (agRd hb (by simp only [go_sem, eb, qb, rdO])) (Fr.rfl' _ _) (by first | assumption | exact List.cons_ne_nil _ _) ?_); (focus first | ((repeat (first | exact trivial | refine ⟨(by first | exact Or.inl rfl | exact Or.inr rfl), ?_⟩)); done) | (simp only [coL, AV.dat, true_or, or_true, AV.d.injEq, go_sem]; done)); simp only [go_sem, qb, hn1]) | ((first | refine CallK.pure (enter48) (need_tri b) ?_ ?_ | refine CallD.pure (enter48) (need_tri b) ?_ ?_); (focus first | ((repeat (first | exact trivial | refine ⟨(by first | exact Or.inl rfl | exact Or.inr rfl), ?_⟩)); done) | (simp only [coL, AV.dat, true_or, or_true, AV.d.injEq, go_sem]; done)); simp only [go_sem, qb, hn1]) | refine And.intro (by first | ((repeat' first | omega | exact trivial | rfl | assumption | (intro a e; subst e; rfl) | exact map_sz fun a => (by simp only [go_sem]) | refine And.intro ?_ ?_); done) | fail) ?_ | fail)
 have hcl := rdO_cl b l j k
 refine ret_st (by simp only [Tryd.results33, resOkL, resOk, Tryd.ntmps33, List.toList_toArray]; first | decide | (simp only [go_sem, qb]; done) | (simp only [go_sem, qb]; and_intros <;> first | omega | rfl | decide)) ?_ (by repeat (first | assumption | exact Ag.stN (by assumption) _ _ | refine Ag.updk ?_ (by omega) _)) (by repeat (first | exact FrN.rfl' _ _ _ | assumption | refine FrN.updk ?_ (by omega) _ | refine FrN.stH ?_ _)) (by assumption)
 simp only [resA, resV, Tryd.results33, go_sem, qb]
 all_goals try (first | exact .dat rfl | exact Co.t2 (.dat rfl) (.dat rfl) | exact Co.t3 (.dat rfl) (.dat rfl) (.dat rfl))
 exact co_tm rfl
set_option maxHeartbeats 4000000 in
set_option maxRecDepth 20000 in
theorem term_fn0 (l : By) (hl : l.length ≤ 4000000) (b : Nm) (i n j : Nat) (hi : i ≤ l.length) (hX : hasAt l i [88] = false) (hf : hasAt l i [102] = true) (hn : rdN l (i + 1) = some (n, j)) (hp : hasAt l j [40] = false) : Tri Tryd.prog 33 [.ptr b 0] (rdE1 b l i j (.d (tmDV (.mk 0 n [])))) := by
 have h1 := hasAt_le hf hi
 simp only [List.length_cons, List.length_nil] at h1
 have h2 := rdN_le hn h1
 refine tri_enter_st Tryd.func33 rfl Tryd.ntmps33 (by simp only [List.length_cons, List.length_nil]; omega) fun w0 h0 k hag => ?_
 obtain ⟨hb, eb⟩ := hag.get b (by simp)
 rw [rdO_eq] at eb
 have hN : ∀ n ∈ [b], n.1 < k := by simpa using hb
 have qb := nmne hb
 have hT := take_no b l [88] i hl hi hX
 have hT2 := take_yes b l [102] i hl hi (by decide) hf
 have hM := number_tri b l (i + 1) n j hl (by omega) hn
 have hT3 := take_no b l [40] j hl h2.2 hp
 repeat' (first | refine awp_seq_k fun K hK => ?_ | ((first | refine awp_region_k (by kernel_rfl) fun R hR => ?_ | refine awp_draw mixed (by kernel_rfl) (by kernel_rfl) fun R hR => ?_); simp only [go_sem, qb]) | ((first | (refine hR _ ?_; clear hR R) | refine awp_skip ?_ | refine awp_exit ?_ | refine awp_ret ?_); try simp only [thenA, inBlockA, reduceIte, reduceCtorEq, Nat.reduceEqDiff, if_false, if_true]) | ((first | refine hK _ ?_ | (clear hK K; first | refine hK _ ?_ | (clear hK K; first | refine hK _ ?_ | (clear hK K; first | refine hK _ ?_ | (clear hK K; refine hK _ ?_))))); clear hK K) | refine awp_true rfl rfl ?_ | refine awp_false rfl rfl ?_ | refine awp_block ?_ | ((first | refine CallK.chg (enter49) (hT) ?_ (agRd hb (by simp only [go_sem, eb, qb, rdO])) (Fr.rfl' _ _) ?_ | refine CallD.chg (enter49) (hT) ?_ (agRd hb (by simp only [go_sem, eb, qb, rdO])) (Fr.rfl' _ _) (by first | assumption | exact List.cons_ne_nil _ _) ?_); (focus first | ((repeat (first | exact trivial | refine ⟨(by first | exact Or.inl rfl | exact Or.inr rfl), ?_⟩)); done) | (simp only [coL, AV.dat, true_or, or_true, AV.d.injEq, go_sem]; done)); simp only [go_sem, qb]) | ((first | refine CallK.chg (enter49) (hT2) ?_ (agRd hb (by simp only [go_sem, eb, qb, rdO])) (Fr.rfl' _ _) ?_ | refine CallD.chg (enter49) (hT2) ?_ (agRd hb (by simp only [go_sem, eb, qb, rdO])) (Fr.rfl' _ _) (by first | assumption | exact List.cons_ne_nil _ _) ?_); (focus first | ((repeat (first | exact trivial | refine ⟨(by first | exact Or.inl rfl | exact Or.inr rfl), ?_⟩)); done) | (simp only [coL, AV.dat, true_or, or_true, AV.d.injEq, go_sem]; done)); simp only [go_sem, qb]) | ((first | refine CallK.chg (enter49) (hT3) ?_ (agRd hb (by simp only [go_sem, eb, qb, rdO])) (Fr.rfl' _ _) ?_ | refine CallD.chg (enter49) (hT3) ?_ (agRd hb (by simp only [go_sem, eb, qb, rdO])) (Fr.rfl' _ _) (by first | assumption | exact List.cons_ne_nil _ _) ?_); (focus first | ((repeat (first | exact trivial | refine ⟨(by first | exact Or.inl rfl | exact Or.inr rfl), ?_⟩)); done) | (simp only [coL, AV.dat, true_or, or_true, AV.d.injEq, go_sem]; done)); simp only [go_sem, qb]) | ((first | refine CallK.chg (enter50) (hM) ?_ (agRd hb (by simp only [go_sem, eb, qb, rdO])) (Fr.rfl' _ _) ?_ | refine CallD.chg (enter50) (hM) ?_ (agRd hb (by simp only [go_sem, eb, qb, rdO])) (Fr.rfl' _ _) (by first | assumption | exact List.cons_ne_nil _ _) ?_); (focus first | ((repeat (first | exact trivial | refine ⟨(by first | exact Or.inl rfl | exact Or.inr rfl), ?_⟩)); done) | (simp only [coL, AV.dat, true_or, or_true, AV.d.injEq, go_sem]; done)); simp only [go_sem, qb]) | ((first | refine CallK.pure (enter48) (need_tri b) ?_ ?_ | refine CallD.pure (enter48) (need_tri b) ?_ ?_); (focus first | ((repeat (first | exact trivial | refine ⟨(by first | exact Or.inl rfl | exact Or.inr rfl), ?_⟩)); done) | (simp only [coL, AV.dat, true_or, or_true, AV.d.injEq, go_sem]; done)); simp only [go_sem, qb]) | refine And.intro (by first | ((repeat' first | omega | exact trivial | rfl | assumption | (intro a e; subst e; rfl) | exact map_sz fun a => (by simp only [go_sem]) | refine And.intro ?_ ?_); done) | fail) ?_ | fail)
 have hcl := rdO_cl b l j k
 refine ret_st (by simp only [Tryd.results33, resOkL, resOk, Tryd.ntmps33, List.toList_toArray]; first | decide | (simp only [go_sem, qb]; done) | (simp only [go_sem, qb]; and_intros <;> first | omega | rfl | decide)) ?_ (by repeat (first | assumption | exact Ag.stN (by assumption) _ _ | refine Ag.updk ?_ (by omega) _)) (by repeat (first | exact FrN.rfl' _ _ _ | assumption | refine FrN.updk ?_ (by omega) _ | refine FrN.stH ?_ _)) (by assumption)
 simp only [resA, resV, Tryd.results33, go_sem, qb]
 all_goals try (first | exact .dat rfl | exact Co.t2 (.dat rfl) (.dat rfl) | exact Co.t3 (.dat rfl) (.dat rfl) (.dat rfl))
 exact co_tm rfl
set_option maxHeartbeats 8000000 in
set_option maxRecDepth 20000 in
theorem term_fn (l : By) (hl : l.length ≤ 4000000) (f : Nat) (ih : RdTSpec l f) (b : Nm) (i n j m : Nat) (us : List Tm) (hi : i ≤ l.length) (hX : hasAt l i [88] = false) (hf : hasAt l i [102] = true) (hn : rdN l (i + 1) = some (n, j)) (hp : hasAt l j [40] = true) (ha : rdA (rdT l f) l 4 (j + 1) [] = some (us, m)) : Tri Tryd.prog 33 [.ptr b 0] (rdE1 b l i m (.d (tmDV (.mk 0 n us)))) := by
 have h1 := hasAt_le hf hi
 simp only [List.length_cons, List.length_nil] at h1
 have h2 := rdN_le hn h1
 have h3 := hasAt_le hp h2.2
 simp only [List.length_cons, List.length_nil] at h3
 refine tri_enter_st Tryd.func33 rfl Tryd.ntmps33 (by simp only [List.length_cons, List.length_nil]; omega) fun w0 h0 k hag => ?_
 obtain ⟨hb, eb⟩ := hag.get b (by simp)
 rw [rdO_eq] at eb
 have hN : ∀ n ∈ [b], n.1 < k := by simpa using hb
 have qb := nmne hb
 have hT := take_no b l [88] i hl hi hX
 have hT2 := take_yes b l [102] i hl hi (by decide) hf
 have hM := number_tri b l (i + 1) n j hl (by omega) hn
 have hT3 := take_yes b l [40] j hl h2.2 (by decide) hp
 repeat' (first | (refine awp_ghost (ghost_boxN (b := (k + 1 + 1 + 1, 3)) (e := 27) (e' := 27) (cs := [iA 0, iA n, .nil]) 2 ?_ rfl) ?_; (focus (simp only [go_sem, qb]; done)); simp only [go_sem]) | refine awp_seq_k fun K hK => ?_ | ((first | refine awp_region_k (by kernel_rfl) fun R hR => ?_ | refine awp_draw mixed (by kernel_rfl) (by kernel_rfl) fun R hR => ?_); simp only [go_sem, qb]) | ((first | (refine hR _ ?_; clear hR R) | refine awp_skip ?_ | refine awp_exit ?_ | refine awp_ret ?_); try simp only [thenA, inBlockA, reduceIte, reduceCtorEq, Nat.reduceEqDiff, if_false, if_true]) | ((first | refine hK _ ?_ | (clear hK K; first | refine hK _ ?_ | (clear hK K; first | refine hK _ ?_ | (clear hK K; first | refine hK _ ?_ | (clear hK K; refine hK _ ?_))))); clear hK K) | refine awp_true rfl rfl ?_ | refine awp_false rfl rfl ?_ | refine awp_block ?_ | ((first | refine CallK.chg (enter49) (hT) ?_ (agRd hb (by simp only [go_sem, eb, qb, rdO])) (Fr.rfl' _ _) ?_ | refine CallD.chg (enter49) (hT) ?_ (agRd hb (by simp only [go_sem, eb, qb, rdO])) (Fr.rfl' _ _) (by first | assumption | exact List.cons_ne_nil _ _) ?_); (focus first | ((repeat (first | exact trivial | refine ⟨(by first | exact Or.inl rfl | exact Or.inr rfl), ?_⟩)); done) | (simp only [coL, AV.dat, true_or, or_true, AV.d.injEq, go_sem]; done)); simp only [go_sem, qb]) | ((first | refine CallK.chg (enter49) (hT2) ?_ (agRd hb (by simp only [go_sem, eb, qb, rdO])) (Fr.rfl' _ _) ?_ | refine CallD.chg (enter49) (hT2) ?_ (agRd hb (by simp only [go_sem, eb, qb, rdO])) (Fr.rfl' _ _) (by first | assumption | exact List.cons_ne_nil _ _) ?_); (focus first | ((repeat (first | exact trivial | refine ⟨(by first | exact Or.inl rfl | exact Or.inr rfl), ?_⟩)); done) | (simp only [coL, AV.dat, true_or, or_true, AV.d.injEq, go_sem]; done)); simp only [go_sem, qb]) | ((first | refine CallK.chg (enter49) (hT3) ?_ (agRd hb (by simp only [go_sem, eb, qb, rdO])) (Fr.rfl' _ _) ?_ | refine CallD.chg (enter49) (hT3) ?_ (agRd hb (by simp only [go_sem, eb, qb, rdO])) (Fr.rfl' _ _) (by first | assumption | exact List.cons_ne_nil _ _) ?_); (focus first | ((repeat (first | exact trivial | refine ⟨(by first | exact Or.inl rfl | exact Or.inr rfl), ?_⟩)); done) | (simp only [coL, AV.dat, true_or, or_true, AV.d.injEq, go_sem]; done)); simp only [go_sem, qb]) | ((first | refine CallK.chg (enter50) (hM) ?_ (agRd hb (by simp only [go_sem, eb, qb, rdO])) (Fr.rfl' _ _) ?_ | refine CallD.chg (enter50) (hM) ?_ (agRd hb (by simp only [go_sem, eb, qb, rdO])) (Fr.rfl' _ _) (by first | assumption | exact List.cons_ne_nil _ _) ?_); (focus first | ((repeat (first | exact trivial | refine ⟨(by first | exact Or.inl rfl | exact Or.inr rfl), ?_⟩)); done) | (simp only [coL, AV.dat, true_or, or_true, AV.d.injEq, go_sem]; done)); simp only [go_sem, qb]) | ((first | refine CallK.pure (enter48) (need_tri b) ?_ ?_ | refine CallD.pure (enter48) (need_tri b) ?_ ?_); (focus first | ((repeat (first | exact trivial | refine ⟨(by first | exact Or.inl rfl | exact Or.inr rfl), ?_⟩)); done) | (simp only [coL, AV.dat, true_or, or_true, AV.d.injEq, go_sem]; done)); simp only [go_sem, qb]) | refine And.intro (by first | ((repeat' first | omega | exact trivial | rfl | assumption | (intro a e; subst e; rfl) | exact map_sz fun a => (by simp only [go_sem]) | refine And.intro ?_ ?_); done) | fail) ?_ | fail)
 refine awp_loop (fun σ => ∃ (q i' : Nat) (acc : List Tm), σ.t 0 = .ptr b 0 ∧ σ.t 2 = .ptr (k, 0) 0 ∧ σ.t 4 = .ptr (k + 1 + 1 + 1, 3) 0 ∧ σ.h (k, 0) = some (.cells 27 [iA 0, iA 0, .nil]) ∧ σ.h (k + 1 + 1 + 1, 3) = some (.cells 27 [iA 0, iA n, .own (k + 1 + 1 + 1 + 1, 0) (acc.map tmDV)]) ∧ σ.h (k + 1 + 1 + 1 + 1, 0) = some (.perm 27 acc.length) ∧ σ.h b = some (.cells 86 [sA l, iA i']) ∧ FrN k [b] h0 σ.h ∧ k + 1 + 1 + 1 + 1 < σ.k ∧ i' ≤ l.length ∧ q + acc.length = 4 ∧ rdA (rdT l f) l q i' acc = some (us, m)) (fun σ => 4 - permLen σ.h (k + 1 + 1 + 1 + 1, 0)) ?_ ?_
 ·refine ⟨4, j + 1, [], ?_⟩
  simp only [go_sem, qb, rdO]
  and_intros; all_goals try (first | rfl | omega | assumption | ((repeat (first | exact Fr.rfl' _ _ | assumption | refine Fr.updk ?_ (by omega) _)); done))
  exact (by repeat (first | exact FrN.rfl' _ _ _ | assumption | refine FrN.updk ?_ (by omega) _ | refine FrN.stH ?_ _))
 ·rintro σ ⟨q, i', acc, s0, s2, s4, sh, shb, sp, sr, hF, hk, hi', hq, hA⟩
  have qb := nmne (show b.1 < σ.k by omega)
  have qb2 := nmne hb
  have hne0 := ltne (show k < σ.k by omega)
  have hne1 := ltne (show k + 1 + 1 + 1 < σ.k by omega)
  have hne2 := ltne hk
  have hbk : b.1 < σ.k := by omega
  cases q with
  | zero => rw [rdA] at hA; cases hA
  | succ q =>
   rw [rdA] at hA
   cases hR : rdT l f i' with
   | none => rw [hR] at hA; cases hA
   | some p =>
    obtain ⟨t, j'⟩ := p
    rw [hR] at hA
    simp only at hA
    have hC := ih b i' t j' hi' hR
    obtain ⟨g1, g2⟩ := rdT_le l f i' t j' hi' hR
    by_cases h3' : acc.length + 1 > 3
    ·rw [if_pos h3'] at hA; cases hA
    ·rw [if_neg h3'] at hA
     have hlen : decide (((acc.length + 1 : Nat) : Int) ≤ 3) = true := by simp; omega
     have eap : acc.map tmDV ++ [tmDV t] = (acc ++ [t]).map tmDV := by simp
     have eal : (acc ++ [t]).length = acc.length + 1 := by simp
     cases hcm : hasAt l j' [44] with
     | true =>
      have g3 := hasAt_le hcm g2
      simp only [List.length_cons, List.length_nil] at g3
      rw [if_pos hcm] at hA
      have hT := take_yes b l [44] j' hl g2 (by decide) hcm
      repeat' (first | refine awp_seq_k fun K hK => ?_ | ((first | refine awp_region_k (by kernel_rfl) fun R hR => ?_ | refine awp_draw mixed (by kernel_rfl) (by kernel_rfl) fun R hR => ?_); simp only [go_sem, s0, s2, s4, sh, shb, sp, sr, qb, qb2, hne0, hne1, hne2, hlen, eap, eal, List.length_map, Int.toNat_natCast]) | ((first | (refine hR _ ?_; clear hR R) | refine awp_skip ?_ | refine awp_exit ?_ | refine awp_ret ?_); try simp only [thenA, inBlockA, reduceIte, reduceCtorEq, Nat.reduceEqDiff, if_false, if_true]) | ((first | refine hK _ ?_ | (clear hK K; first | refine hK _ ?_ | (clear hK K; first | refine hK _ ?_ | (clear hK K; first | refine hK _ ?_ | (clear hK K; refine hK _ ?_))))); clear hK K) | refine awp_true rfl rfl ?_ | refine awp_false rfl rfl ?_ | refine awp_block ?_ | ((first | refine CallK.chg (enter33) (hC) ?_ (agRd hbk (by simp only [go_sem, sr, qb, qb2, rdO])) (Fr.rfl' _ _) ?_ | refine CallD.chg (enter33) (hC) ?_ (agRd hbk (by simp only [go_sem, sr, qb, qb2, rdO])) (Fr.rfl' _ _) (by first | assumption | exact List.cons_ne_nil _ _) ?_); (focus first | ((repeat (first | exact trivial | refine ⟨(by first | exact Or.inl rfl | exact Or.inr rfl), ?_⟩)); done) | (simp only [coL, AV.dat, true_or, or_true, AV.d.injEq, go_sem]; done)); simp only [go_sem, s0, s2, s4, sh, shb, sp, sr, qb, qb2, hne0, hne1, hne2, hlen, eap, eal, List.length_map, Int.toNat_natCast]) | ((first | refine CallK.chg (enter49) (hT) ?_ (agRd hbk (by simp only [go_sem, sr, qb, qb2, rdO])) (Fr.rfl' _ _) ?_ | refine CallD.chg (enter49) (hT) ?_ (agRd hbk (by simp only [go_sem, sr, qb, qb2, rdO])) (Fr.rfl' _ _) (by first | assumption | exact List.cons_ne_nil _ _) ?_); (focus first | ((repeat (first | exact trivial | refine ⟨(by first | exact Or.inl rfl | exact Or.inr rfl), ?_⟩)); done) | (simp only [coL, AV.dat, true_or, or_true, AV.d.injEq, go_sem]; done)); simp only [go_sem, s0, s2, s4, sh, shb, sp, sr, qb, qb2, hne0, hne1, hne2, hlen, eap, eal, List.length_map, Int.toNat_natCast]) | ((first | refine CallK.pure (enter48) (need_tri b) ?_ ?_ | refine CallD.pure (enter48) (need_tri b) ?_ ?_); (focus first | ((repeat (first | exact trivial | refine ⟨(by first | exact Or.inl rfl | exact Or.inr rfl), ?_⟩)); done) | (simp only [coL, AV.dat, true_or, or_true, AV.d.injEq, go_sem]; done)); simp only [go_sem, s0, s2, s4, sh, shb, sp, sr, qb, qb2, hne0, hne1, hne2, hlen, eap, eal, List.length_map, Int.toNat_natCast]) | refine And.intro (by first | ((repeat' first | omega | exact trivial | rfl | assumption | (intro a e; subst e; rfl) | exact map_sz fun a => (by simp only [go_sem]) | refine And.intro ?_ ?_); done) | fail) ?_ | fail)
      refine ⟨⟨q, j' + 1, acc ++ [t], ?_⟩, ?_⟩
      rotate_left
      ·simp only [permLen, go_sem, sp, qb, qb2, hne0, hne1, hne2, eal]; omega
      simp only [go_sem, s0, s2, s4, sh, shb, sp, sr, qb, qb2, hne0, hne1, hne2, eap, eal, List.length_map, rdO]
      and_intros; all_goals try (first | rfl | omega | assumption | ((repeat (first | exact Fr.rfl' _ _ | assumption | refine Fr.updk ?_ (by omega) _)); done))
      exact (by repeat (first | exact FrN.rfl' _ _ _ | assumption | refine FrN.updk ?_ (by omega) _ | refine FrN.stH ?_ _))
     | false =>
      rw [if_neg (by simp [hcm])] at hA
      cases hcp : hasAt l j' [41] with
      | false => rw [if_neg (by simp [hcp])] at hA; cases hA
      | true =>
       rw [if_pos hcp] at hA
       cases hA
       have g3 := hasAt_le hcp g2
       simp only [List.length_cons, List.length_nil] at g3
       have hT := take_no b l [44] j' hl g2 hcm
       have hT2 := take_yes b l [41] j' hl g2 (by decide) hcp
       repeat' (first | refine awp_seq_k fun K hK => ?_ | ((first | refine awp_region_k (by kernel_rfl) fun R hR => ?_ | refine awp_draw mixed (by kernel_rfl) (by kernel_rfl) fun R hR => ?_); simp only [go_sem, s0, s2, s4, sh, shb, sp, sr, qb, qb2, hne0, hne1, hne2, hlen, eap, eal, List.length_map, Int.toNat_natCast]) | ((first | (refine hR _ ?_; clear hR R) | refine awp_skip ?_ | refine awp_exit ?_ | refine awp_ret ?_); try simp only [thenA, inBlockA, reduceIte, reduceCtorEq, Nat.reduceEqDiff, if_false, if_true]) | ((first | refine hK _ ?_ | (clear hK K; first | refine hK _ ?_ | (clear hK K; first | refine hK _ ?_ | (clear hK K; first | refine hK _ ?_ | (clear hK K; refine hK _ ?_))))); clear hK K) | refine awp_true rfl rfl ?_ | refine awp_false rfl rfl ?_ | refine awp_block ?_ | ((first | refine CallK.chg (enter33) (hC) ?_ (agRd hbk (by simp only [go_sem, sr, qb, qb2, rdO])) (Fr.rfl' _ _) ?_ | refine CallD.chg (enter33) (hC) ?_ (agRd hbk (by simp only [go_sem, sr, qb, qb2, rdO])) (Fr.rfl' _ _) (by first | assumption | exact List.cons_ne_nil _ _) ?_); (focus first | ((repeat (first | exact trivial | refine ⟨(by first | exact Or.inl rfl | exact Or.inr rfl), ?_⟩)); done) | (simp only [coL, AV.dat, true_or, or_true, AV.d.injEq, go_sem]; done)); simp only [go_sem, s0, s2, s4, sh, shb, sp, sr, qb, qb2, hne0, hne1, hne2, hlen, eap, eal, List.length_map, Int.toNat_natCast]) | ((first | refine CallK.chg (enter49) (hT) ?_ (agRd hbk (by simp only [go_sem, sr, qb, qb2, rdO])) (Fr.rfl' _ _) ?_ | refine CallD.chg (enter49) (hT) ?_ (agRd hbk (by simp only [go_sem, sr, qb, qb2, rdO])) (Fr.rfl' _ _) (by first | assumption | exact List.cons_ne_nil _ _) ?_); (focus first | ((repeat (first | exact trivial | refine ⟨(by first | exact Or.inl rfl | exact Or.inr rfl), ?_⟩)); done) | (simp only [coL, AV.dat, true_or, or_true, AV.d.injEq, go_sem]; done)); simp only [go_sem, s0, s2, s4, sh, shb, sp, sr, qb, qb2, hne0, hne1, hne2, hlen, eap, eal, List.length_map, Int.toNat_natCast]) | ((first | refine CallK.chg (enter49) (hT2) ?_ (agRd hbk (by simp only [go_sem, sr, qb, qb2, rdO])) (Fr.rfl' _ _) ?_ | refine CallD.chg (enter49) (hT2) ?_ (agRd hbk (by simp only [go_sem, sr, qb, qb2, rdO])) (Fr.rfl' _ _) (by first | assumption | exact List.cons_ne_nil _ _) ?_); (focus first | ((repeat (first | exact trivial | refine ⟨(by first | exact Or.inl rfl | exact Or.inr rfl), ?_⟩)); done) | (simp only [coL, AV.dat, true_or, or_true, AV.d.injEq, go_sem]; done)); simp only [go_sem, s0, s2, s4, sh, shb, sp, sr, qb, qb2, hne0, hne1, hne2, hlen, eap, eal, List.length_map, Int.toNat_natCast]) | ((first | refine CallK.pure (enter48) (need_tri b) ?_ ?_ | refine CallD.pure (enter48) (need_tri b) ?_ ?_); (focus first | ((repeat (first | exact trivial | refine ⟨(by first | exact Or.inl rfl | exact Or.inr rfl), ?_⟩)); done) | (simp only [coL, AV.dat, true_or, or_true, AV.d.injEq, go_sem]; done)); simp only [go_sem, s0, s2, s4, sh, shb, sp, sr, qb, qb2, hne0, hne1, hne2, hlen, eap, eal, List.length_map, Int.toNat_natCast]) | refine And.intro (by first | ((repeat' first | omega | exact trivial | rfl | assumption | (intro a e; subst e; rfl) | exact map_sz fun a => (by simp only [go_sem]) | refine And.intro ?_ ?_); done) | fail) ?_ | fail)
       have hcl := rdO_cl b l (j' + 1) k
       refine ret_st (by simp only [Tryd.results33, resOkL, resOk, Tryd.ntmps33, List.toList_toArray]; first | decide | (simp only [go_sem, s2, qb, qb2, hne0, hne1, hne2]; done) | (simp only [go_sem, s2, qb, qb2, hne0, hne1, hne2]; and_intros <;> first | omega | rfl | decide)) ?_ (by repeat (first | assumption | exact Ag.stN (by assumption) _ _ | refine Ag.updk ?_ (by omega) _)) (by repeat (first | exact FrN.rfl' _ _ _ | assumption | refine FrN.updk ?_ (by omega) _ | refine FrN.stH ?_ _)) (by assumption)
       simp only [resA, resV, Tryd.results33, go_sem, s2, qb, qb2, hne0, hne1, hne2]
       all_goals try (first | exact .dat rfl | exact Co.t2 (.dat rfl) (.dat rfl) | exact Co.t3 (.dat rfl) (.dat rfl) (.dat rfl))
       exact co_tm rfl
theorem term_tri (l : By) (hl : l.length ≤ 4000000) : ∀ f : Nat, RdTSpec l f
 | 0 => fun b i t j hi h => by cases h
 | f + 1 => fun b i t j hi h => by
  rw [rdT] at h
  cases hX : hasAt l i [88] with
  | true =>
   rw [if_pos hX] at h
   split at h
   ·rename_i n m hn
    split at h
    ·cases h; exact term_var l hl b i n j hi hX hn (by assumption)
    ·cases h
   ·cases h
  | false =>
   rw [if_neg (by simp [hX])] at h
   cases hf : hasAt l i [102] with
   | false => rw [if_neg (by simp [hf])] at h; cases h
   | true =>
    rw [if_pos hf] at h
    split at h
    ·rename_i n m hn
     cases hp : hasAt l m [40] with
     | true =>
      rw [if_pos hp] at h
      split at h
      ·rename_i us e ha
       cases h; exact term_fn l hl f (term_tri l hl f) b i n m j us hi hX hf hn hp ha
      ·cases h
     | false =>
      rw [if_neg (by simp [hp])] at h
      cases h; exact term_fn0 l hl b i n j hi hX hf hn hp
    ·cases h
end Go.Proofs.YtmeekpinkfpnhabDoor
