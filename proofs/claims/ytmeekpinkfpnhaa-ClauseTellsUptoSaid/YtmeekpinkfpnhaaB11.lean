/- model.Value. Clauses in models: what is plain. No program in sight. model.Holds: its closures. model.Holds. clause.Neat, clause.Tidy. -/
import Derived.Test.YtmeekpinkfpnhaaB10
set_option linter.unusedSimpArgs false
set_option linter.unusedSectionVars false
set_option linter.unusedVariables false
set_option linter.unnecessarySimpa false
set_option linter.all false
namespace Go.Proofs.Ytmeekpinkfpnhaa
open Go.RowKit
set_option linter.unusedSimpArgs false
set_option linter.unusedSectionVars false

abbrev vbO (b : Nm) (vars : List Int) : List (Nm × Ob) := [(b, .cells 22 [.d (.sl (vars.map iD))])]
theorem roVb {b : Nm} {vars : List Int} {k : Nat} {h : Heap} (hb : b.1 < k) (h1 : h b = some (.cells 22 [.d (.sl (vars.map iD))])) : RoOK k (vbO b vars) h := ⟨fun x hx => by
  simp only [vbO, List.mem_cons, List.not_mem_nil, or_false] at hx; subst hx; exact ⟨hb, h1⟩⟩
set_option maxRecDepth 20000 in
theorem value1_tri (b : Nm) (vars : List Int) (v : Int) : Tri Try.prog 71 [iA v, .ptr b 0] (rdE (vbO b vars) (bA (decide (v > vars.length)))) := by
  refine tri_enter_ro Try.func71 rfl Try.ntmps71 (by simp only [List.length_cons, List.length_nil]; omega) fun w0 h0 k hro => ?_
  have eb := (hro.get _ (List.mem_cons_self ..)).2
  repeat' (first
    | refine awp_seq_k fun K hK => ?_
    | ((first | refine awp_region_k (by kernel_rfl) fun R hR => ?_ | refine awp_draw mixed (by kernel_rfl) (by kernel_rfl) fun R hR => ?_); simp only [go_sem, eb])
    | ((first | (refine hR _ ?_; clear hR R) | refine awp_skip ?_ | refine awp_exit ?_ | refine awp_ret ?_); try simp only [thenA, inBlockA, reduceIte, reduceCtorEq, Nat.reduceEqDiff, if_false, if_true])
    | ((first | refine hK _ ?_ | (clear hK K; first | refine hK _ ?_ | (clear hK K; first | refine hK _ ?_ | (clear hK K; first | refine hK _ ?_ | (clear hK K; refine hK _ ?_))))); clear hK K)
    | refine awp_true rfl rfl ?_
    | refine awp_false rfl rfl ?_
    | refine awp_block ?_
    | refine And.intro (by first | omega | exact trivial | rfl | assumption | (apply map_sz; intro a; simp only [go_sem]; done) | ((and_intros <;> first | omega | exact trivial | rfl | assumption | (apply map_sz; intro a; simp only [go_sem]; done) | fail); done) | fail) ?_
    | fail)
  first | refine ret_pure (by simp only [Try.results71, resOkL, resOk, Try.ntmps71, List.toList_toArray]; first | decide | (simp only [go_sem]; done) | (simp only [go_sem]; and_intros <;> first | omega | rfl | decide)) ?_ (by repeat (first | exact Fr.rfl' _ _ | assumption | refine Fr.updk ?_ (by omega) _)) | refine ret_ro (by simp only [Try.results71, resOkL, resOk, Try.ntmps71, List.toList_toArray]; first | decide | (simp only [go_sem]; done) | (simp only [go_sem]; and_intros <;> first | omega | rfl | decide)) ?_ (by repeat (first | exact Fr.rfl' _ _ | assumption | refine Fr.updk ?_ (by omega) _))
  simp only [resA, resV, Try.results71, go_sem]
  all_goals try (first | exact Co.t2 (.dat rfl) (.dat rfl) | exact Co.t3 (.dat rfl) (.dat rfl) (.dat rfl))
  exact .dat rfl
set_option maxRecDepth 20000 in
theorem value2_tri (b : Nm) (sz : Int) (tb : List (List Int)) (n : Int) : Tri Try.prog 72 [iA n, .ptr b 0] (rdE (mdO b sz tb) (bA (outOf sz n))) := by
  refine tri_enter_ro Try.func72 rfl Try.ntmps72 (by simp only [List.length_cons, List.length_nil]; omega) fun w0 h0 k hro => ?_
  obtain ⟨hb, eb⟩ := hro.get _ (List.mem_cons_self ..)
  unfold outOf
  cases h1 : decide (n < 0) with
  | true =>
    repeat' (first
      | refine awp_seq_k fun K hK => ?_
      | ((first | refine awp_region_k (by kernel_rfl) fun R hR => ?_ | refine awp_draw mixed (by kernel_rfl) (by kernel_rfl) fun R hR => ?_); simp only [go_sem, eb, h1])
      | ((first | (refine hR _ ?_; clear hR R) | refine awp_skip ?_ | refine awp_exit ?_ | refine awp_ret ?_); try simp only [thenA, inBlockA, reduceIte, reduceCtorEq, Nat.reduceEqDiff, if_false, if_true])
      | ((first | refine hK _ ?_ | (clear hK K; first | refine hK _ ?_ | (clear hK K; first | refine hK _ ?_ | (clear hK K; first | refine hK _ ?_ | (clear hK K; refine hK _ ?_))))); clear hK K)
      | refine awp_true rfl rfl ?_
      | refine awp_false rfl rfl ?_
      | refine awp_block ?_
      | refine And.intro (by first | omega | exact trivial | rfl | assumption | (apply map_sz; intro a; simp only [go_sem]; done) | ((and_intros <;> first | omega | exact trivial | rfl | assumption | (apply map_sz; intro a; simp only [go_sem]; done) | fail); done) | fail) ?_
      | fail)
    first | refine ret_pure (by simp only [Try.results72, resOkL, resOk, Try.ntmps72, List.toList_toArray]; first | decide | (simp only [go_sem]; done) | (simp only [go_sem]; and_intros <;> first | omega | rfl | decide)) ?_ (by repeat (first | exact Fr.rfl' _ _ | assumption | refine Fr.updk ?_ (by omega) _)) | refine ret_ro (by simp only [Try.results72, resOkL, resOk, Try.ntmps72, List.toList_toArray]; first | decide | (simp only [go_sem]; done) | (simp only [go_sem]; and_intros <;> first | omega | rfl | decide)) ?_ (by repeat (first | exact Fr.rfl' _ _ | assumption | refine Fr.updk ?_ (by omega) _))
    simp only [resA, resV, Try.results72, go_sem]
    all_goals try (first | exact Co.t2 (.dat rfl) (.dat rfl) | exact Co.t3 (.dat rfl) (.dat rfl) (.dat rfl))
    exact .dat rfl
  | false =>
    repeat' (first
      | refine awp_seq_k fun K hK => ?_
      | ((first | refine awp_region_k (by kernel_rfl) fun R hR => ?_ | refine awp_draw mixed (by kernel_rfl) (by kernel_rfl) fun R hR => ?_); simp only [go_sem, eb, h1])
      | ((first | (refine hR _ ?_; clear hR R) | refine awp_skip ?_ | refine awp_exit ?_ | refine awp_ret ?_); try simp only [thenA, inBlockA, reduceIte, reduceCtorEq, Nat.reduceEqDiff, if_false, if_true])
      | ((first | refine hK _ ?_ | (clear hK K; first | refine hK _ ?_ | (clear hK K; first | refine hK _ ?_ | (clear hK K; first | refine hK _ ?_ | (clear hK K; refine hK _ ?_))))); clear hK K)
      | refine awp_true rfl rfl ?_
      | refine awp_false rfl rfl ?_
      | refine awp_block ?_
      | refine And.intro (by first | omega | exact trivial | rfl | assumption | (apply map_sz; intro a; simp only [go_sem]; done) | ((and_intros <;> first | omega | exact trivial | rfl | assumption | (apply map_sz; intro a; simp only [go_sem]; done) | fail); done) | fail) ?_
      | fail)
    first | refine ret_pure (by simp only [Try.results72, resOkL, resOk, Try.ntmps72, List.toList_toArray]; first | decide | (simp only [go_sem]; done) | (simp only [go_sem]; and_intros <;> first | omega | rfl | decide)) ?_ (by repeat (first | exact Fr.rfl' _ _ | assumption | refine Fr.updk ?_ (by omega) _)) | refine ret_ro (by simp only [Try.results72, resOkL, resOk, Try.ntmps72, List.toList_toArray]; first | decide | (simp only [go_sem]; done) | (simp only [go_sem]; and_intros <;> first | omega | rfl | decide)) ?_ (by repeat (first | exact Fr.rfl' _ _ | assumption | refine Fr.updk ?_ (by omega) _))
    simp only [resA, resV, Try.results72, go_sem]
    all_goals try (first | exact Co.t2 (.dat rfl) (.dat rfl) | exact Co.t3 (.dat rfl) (.dat rfl) (.dat rfl))
    exact .dat rfl
set_option maxRecDepth 20000 in
theorem value3_tri (b : Nm) (vars : List Int) (v : Int) (h1 : 0 < v) (h2 : v ≤ vars.length) (hl : vars.length ≤ 4000000) : Tri Try.prog 74 [iA v, .ptr b 0] (rdE (vbO b vars) (iA (byL vars v))) := by
  refine tri_enter_ro Try.func74 rfl Try.ntmps74 (by simp only [List.length_cons, List.length_nil]; omega) fun w0 h0 k hro => ?_
  have eb := (hro.get _ (List.mem_cons_self ..)).2
  have hx : (v - 1).toNat < vars.length := by omega
  have e1 : (vars.map iD).getD (v - 1).toNat default = iD vars[(v - 1).toNat] := nth_map iD hx _
  have hz1 : v - 1 < (vars.length : Int) := by omega
  have e : byL vars v = vars[(v - 1).toNat] := by rw [byL, getD_at hx]
  repeat' (first
    | refine awp_seq_k fun K hK => ?_
    | ((first | refine awp_region_k (by kernel_rfl) fun R hR => ?_ | refine awp_draw mixed (by kernel_rfl) (by kernel_rfl) fun R hR => ?_); simp only [go_sem, eb, e1, hz1])
    | ((first | (refine hR _ ?_; clear hR R) | refine awp_skip ?_ | refine awp_exit ?_ | refine awp_ret ?_); try simp only [thenA, inBlockA, reduceIte, reduceCtorEq, Nat.reduceEqDiff, if_false, if_true])
    | ((first | refine hK _ ?_ | (clear hK K; first | refine hK _ ?_ | (clear hK K; first | refine hK _ ?_ | (clear hK K; first | refine hK _ ?_ | (clear hK K; refine hK _ ?_))))); clear hK K)
    | refine awp_true rfl rfl ?_
    | refine awp_false rfl rfl ?_
    | refine awp_block ?_
    | refine And.intro (by first | omega | exact trivial | rfl | assumption | (apply map_sz; intro a; simp only [go_sem]; done) | ((and_intros <;> first | omega | exact trivial | rfl | assumption | (apply map_sz; intro a; simp only [go_sem]; done) | fail); done) | fail) ?_
    | fail)
  first | refine ret_pure (by simp only [Try.results74, resOkL, resOk, Try.ntmps74, List.toList_toArray]; first | decide | (simp only [go_sem]; done) | (simp only [go_sem]; and_intros <;> first | omega | rfl | decide)) ?_ (by repeat (first | exact Fr.rfl' _ _ | assumption | refine Fr.updk ?_ (by omega) _)) | refine ret_ro (by simp only [Try.results74, resOkL, resOk, Try.ntmps74, List.toList_toArray]; first | decide | (simp only [go_sem]; done) | (simp only [go_sem]; and_intros <;> first | omega | rfl | decide)) ?_ (by repeat (first | exact Fr.rfl' _ _ | assumption | refine Fr.updk ?_ (by omega) _))
  simp only [resA, resV, Try.results74, go_sem]
  all_goals try (first | exact Co.t2 (.dat rfl) (.dat rfl) | exact Co.t3 (.dat rfl) (.dat rfl) (.dat rfl))
  exact co_i e.symm
/-- model.Value's answer. -/
def valAns (g : List Int) (sz : Int) (tb : List (List Int)) (t : Tm) (vars : List Int) : Int × Int :=
  if mdOk g sz tb ≠ 0 then (0, mdOk g sz tb) else if own g t ≠ 0 then (0, own g t) else if ((firstVars [t]).any fun v => decide (v > vars.length)) = true then (0, 1)
  else if (vars.any (outOf sz)) = true then (0, 5) else (valM sz tb (byL vars) t, 0)
/-- What is right for a value. -/
theorem fine_of {g : List Int} {sz : Int} {t : Tm} {vars : List Int} (ho : own g t = 0) (h1 : ((firstVars [t]).any fun v => decide (v > vars.length)) = false) (h2 : (vars.any (outOf sz)) = false) : Fine g sz (byL vars) (parts t) ∧ ∀ x ∈ parts t, x.v > 0 → x.v ≤ vars.length := by
  have key : ∀ x ∈ parts t, x.v > 0 → x.v ≤ vars.length := by
    intro x hx hv
    have hm : x.v ∈ firstVars [t] := addVs_has (by simpa using hx) hv
    have := List.any_eq_false.1 h1 _ hm
    simp at this
    omega
  refine ⟨fun x hx => ⟨own_each ho hx, fun hv => ?_⟩, key⟩
  have hl := key x hx hv
  have hi : (x.v - 1).toNat < vars.length := by omega
  rw [byL, getD_at hi]
  have := List.any_eq_false.1 h2 _ (List.getElem_mem hi)
  generalize vars[(x.v - 1).toNat] = y at *
  simp [outOf] at this
  omega
theorem stands_one {g : List Int} {t : Tm} (ho : own g t = 0) : addVs [] ([t].flatMap pre) = firstVars [t] := stands_eq (fun u hu => by simp at hu; subst hu; exact own_bare ho) []
set_option maxHeartbeats 2000000 in
set_option maxRecDepth 20000 in
theorem mdValue_tri (g : List Int) (sz : Int) (tb : List (List Int)) (t : Tm) (vars : List Int) (hl : tb.length ≤ 4000000) (hr : ∀ r ∈ tb, r.length ≤ 4000000) (ht : t.size ≤ 4000000) (hvl : vars.length ≤ 4000000) :
    Tri Try.prog 18 [.d (sgDV g), .d (mdDV sz tb), .d (tmDV t), .d (.sl (vars.map iD))] (pure' (.tup [iA (valAns g sz tb t vars).1, iA (valAns g sz tb t vars).2])) := by
  refine tri_enter Try.func18 rfl Try.ntmps18 (by simp only [List.length_cons, List.length_nil]; omega) fun w0 h0 k hrd hwr => ?_
  cases hm : mdOk g sz tb == 0 with
  | false =>
    have hm' : (mdOk g sz tb != 0) = true := by simpa using hm
    have ha : valAns g sz tb t vars = (0, mdOk g sz tb) := by unfold valAns; rw [if_pos (by simpa using hm)]
    repeat' (first
      | refine awp_seq_k fun K hK => ?_
      | ((first | refine awp_region_k (by kernel_rfl) fun R hR => ?_ | refine awp_draw mixed (by kernel_rfl) (by kernel_rfl) fun R hR => ?_); simp only [go_sem, hm, hm'])
      | ((first | (refine hR _ ?_; clear hR R) | refine awp_skip ?_ | refine awp_exit ?_ | refine awp_ret ?_); try simp only [thenA, inBlockA, reduceIte, reduceCtorEq, Nat.reduceEqDiff, if_false, if_true])
      | ((first | refine hK _ ?_ | (clear hK K; first | refine hK _ ?_ | (clear hK K; first | refine hK _ ?_ | (clear hK K; first | refine hK _ ?_ | (clear hK K; refine hK _ ?_))))); clear hK K)
      | refine awp_true rfl rfl ?_
      | refine awp_false rfl rfl ?_
      | refine awp_block ?_
      | ((first | refine CallK.pure (enter28) (mdCheck_tri g sz tb hl hr) ?_ ?_ | refine CallD.pure (enter28) (mdCheck_tri g sz tb hl hr) ?_ ?_); (focus first | ((repeat (first | exact trivial | refine ⟨(by first | exact Or.inl rfl | exact Or.inr rfl), ?_⟩)); done) | (simp only [coL, AV.dat, true_or, or_true, AV.d.injEq, go_sem]; done)); simp only [go_sem, hm, hm'])
      | refine And.intro (by first | omega | exact trivial | rfl | assumption | (apply map_sz; intro a; simp only [go_sem]; done) | ((and_intros <;> first | omega | exact trivial | rfl | assumption | (apply map_sz; intro a; simp only [go_sem]; done) | fail); done) | fail) ?_
      | fail)
    rw [ha]
    first | refine ret_pure (by simp only [Try.results18, resOkL, resOk, Try.ntmps18, List.toList_toArray]; first | decide | (simp only [go_sem]; done) | (simp only [go_sem]; and_intros <;> first | omega | rfl | decide)) ?_ (by repeat (first | exact Fr.rfl' _ _ | assumption | refine Fr.updk ?_ (by omega) _)) | refine ret_ro (by simp only [Try.results18, resOkL, resOk, Try.ntmps18, List.toList_toArray]; first | decide | (simp only [go_sem]; done) | (simp only [go_sem]; and_intros <;> first | omega | rfl | decide)) ?_ (by repeat (first | exact Fr.rfl' _ _ | assumption | refine Fr.updk ?_ (by omega) _))
    simp only [resA, resV, Try.results18, go_sem]
    all_goals try (first | exact Co.t2 (.dat rfl) (.dat rfl) | exact Co.t3 (.dat rfl) (.dat rfl) (.dat rfl))
  | true =>
    have hm2 : mdOk g sz tb = 0 := by simpa using hm
    cases ho : own g t == 0 with
    | false =>
      have ho' : (own g t != 0) = true := by simpa using ho
      have ha : valAns g sz tb t vars = (0, own g t) := by unfold valAns; rw [if_neg (by simp [hm2]), if_pos (by simpa using ho)]
      repeat' (first
        | refine awp_seq_k fun K hK => ?_
        | ((first | refine awp_region_k (by kernel_rfl) fun R hR => ?_ | refine awp_draw mixed (by kernel_rfl) (by kernel_rfl) fun R hR => ?_); simp only [go_sem, hm2, ho', beq_self_eq_true])
        | ((first | (refine hR _ ?_; clear hR R) | refine awp_skip ?_ | refine awp_exit ?_ | refine awp_ret ?_); try simp only [thenA, inBlockA, reduceIte, reduceCtorEq, Nat.reduceEqDiff, if_false, if_true])
        | ((first | refine hK _ ?_ | (clear hK K; first | refine hK _ ?_ | (clear hK K; first | refine hK _ ?_ | (clear hK K; first | refine hK _ ?_ | (clear hK K; refine hK _ ?_))))); clear hK K)
        | refine awp_true rfl rfl ?_
        | refine awp_false rfl rfl ?_
        | refine awp_block ?_
        | ((first | refine CallK.pure (enter28) (mdCheck_tri g sz tb hl hr) ?_ ?_ | refine CallD.pure (enter28) (mdCheck_tri g sz tb hl hr) ?_ ?_); (focus first | ((repeat (first | exact trivial | refine ⟨(by first | exact Or.inl rfl | exact Or.inr rfl), ?_⟩)); done) | (simp only [coL, AV.dat, true_or, or_true, AV.d.injEq, go_sem]; done)); simp only [go_sem, hm2, ho', beq_self_eq_true])
        | ((first | refine CallK.pure (enter68) (own_tri g t) ?_ ?_ | refine CallD.pure (enter68) (own_tri g t) ?_ ?_); (focus first | ((repeat (first | exact trivial | refine ⟨(by first | exact Or.inl rfl | exact Or.inr rfl), ?_⟩)); done) | (simp only [coL, AV.dat, true_or, or_true, AV.d.injEq, go_sem]; done)); simp only [go_sem, hm2, ho', beq_self_eq_true])
        | refine And.intro (by first | omega | exact trivial | rfl | assumption | (apply map_sz; intro a; simp only [go_sem]; done) | ((and_intros <;> first | omega | exact trivial | rfl | assumption | (apply map_sz; intro a; simp only [go_sem]; done) | fail); done) | fail) ?_
        | fail)
      rw [ha]
      first | refine ret_pure (by simp only [Try.results18, resOkL, resOk, Try.ntmps18, List.toList_toArray]; first | decide | (simp only [go_sem]; done) | (simp only [go_sem]; and_intros <;> first | omega | rfl | decide)) ?_ (by repeat (first | exact Fr.rfl' _ _ | assumption | refine Fr.updk ?_ (by omega) _)) | refine ret_ro (by simp only [Try.results18, resOkL, resOk, Try.ntmps18, List.toList_toArray]; first | decide | (simp only [go_sem]; done) | (simp only [go_sem]; and_intros <;> first | omega | rfl | decide)) ?_ (by repeat (first | exact Fr.rfl' _ _ | assumption | refine Fr.updk ?_ (by omega) _))
      simp only [resA, resV, Try.results18, go_sem]
      all_goals try (first | exact Co.t2 (.dat rfl) (.dat rfl) | exact Co.t3 (.dat rfl) (.dat rfl) (.dat rfl))
    | true =>
      have ho2 : own g t = 0 := by simpa using ho
      have hst := stands_tri [t] (by simp [Tm.size.sizes]; omega)
      rw [stands_one ho2] at hst
      have hfl : (firstVars [t]).length ≤ 16777216 := by
        have h1 := addVs_len ([t].flatMap parts) []
        have h2 := parts_len t
        simp at h1
        unfold firstVars
        simp
        omega
      have hc1 := containsF_ints (firstVars [t]) hfl 71 (enter71) [.ptr (k, 3) 0] (vbO (k, 3) vars) (fun v => decide (v > vars.length)) (fun v _ => value1_tri (k, 3) vars v)
      have hc2 := containsF_ints vars (by omega) 72 (enter72) [.ptr (k, 1) 0] (mdO (k, 1) sz tb) (outOf sz) (fun v _ => value2_tri (k, 1) sz tb v)
      have hb1 : ∀ h : Heap, h (k, 3) = some (.cells 22 [.d (.sl (vars.map iD))]) → RoOK (k + 1) (vbO (k, 3) vars) h := fun h e => roVb (Nat.lt_succ_self k) e
      have hb2 : ∀ h : Heap, h (k, 1) = some (.cells 39 [iA sz, .d (.sl (tb.map gI))]) → RoOK (k + 1) (mdO (k, 1) sz tb) h := fun h e => roMd (Nat.lt_succ_self k) e
      cases h1 : (firstVars [t]).any fun v => decide (v > vars.length) with
      | true =>
        have ha : valAns g sz tb t vars = (0, 1) := by unfold valAns; rw [if_neg (by simp [hm2]), if_neg (by simp [ho2]), if_pos h1]
        rw [h1] at hc1
        repeat' (first
          | refine awp_seq_k fun K hK => ?_
          | ((first | refine awp_region_k (by kernel_rfl) fun R hR => ?_ | refine awp_draw mixed (by kernel_rfl) (by kernel_rfl) fun R hR => ?_); simp only [go_sem, hm2, ho2, beq_self_eq_true, bne_self_eq_false])
          | ((first | (refine hR _ ?_; clear hR R) | refine awp_skip ?_ | refine awp_exit ?_ | refine awp_ret ?_); try simp only [thenA, inBlockA, reduceIte, reduceCtorEq, Nat.reduceEqDiff, if_false, if_true])
          | ((first | refine hK _ ?_ | (clear hK K; first | refine hK _ ?_ | (clear hK K; first | refine hK _ ?_ | (clear hK K; first | refine hK _ ?_ | (clear hK K; refine hK _ ?_))))); clear hK K)
          | refine awp_true rfl rfl ?_
          | refine awp_false rfl rfl ?_
          | refine awp_block ?_
          | ((first | refine CallK.pure (enter28) (mdCheck_tri g sz tb hl hr) ?_ ?_ | refine CallD.pure (enter28) (mdCheck_tri g sz tb hl hr) ?_ ?_); (focus first | ((repeat (first | exact trivial | refine ⟨(by first | exact Or.inl rfl | exact Or.inr rfl), ?_⟩)); done) | (simp only [coL, AV.dat, true_or, or_true, AV.d.injEq, go_sem]; done)); simp only [go_sem, hm2, ho2, beq_self_eq_true, bne_self_eq_false])
          | ((first | refine CallK.pure (enter68) (own_tri g t) ?_ ?_ | refine CallD.pure (enter68) (own_tri g t) ?_ ?_); (focus first | ((repeat (first | exact trivial | refine ⟨(by first | exact Or.inl rfl | exact Or.inr rfl), ?_⟩)); done) | (simp only [coL, AV.dat, true_or, or_true, AV.d.injEq, go_sem]; done)); simp only [go_sem, hm2, ho2, beq_self_eq_true, bne_self_eq_false])
          | ((first | refine CallK.pure (enter70) (hst) ?_ ?_ | refine CallD.pure (enter70) (hst) ?_ ?_); (focus first | ((repeat (first | exact trivial | refine ⟨(by first | exact Or.inl rfl | exact Or.inr rfl), ?_⟩)); done) | (simp only [coL, AV.dat, true_or, or_true, AV.d.injEq, go_sem]; done)); simp only [go_sem, hm2, ho2, beq_self_eq_true, bne_self_eq_false])
          | ((first | refine CallK.look (enter69) (hc1) ?_ (hb1 _ (by simp only [go_sem])) (Fr.rfl' _ _) ?_ | refine CallD.look (enter69) (hc1) ?_ (hb1 _ (by simp only [go_sem])) (Fr.rfl' _ _) (by first | assumption | exact List.cons_ne_nil _ _) ?_); (focus first | ((repeat (first | exact trivial | refine ⟨(by first | exact Or.inl rfl | exact Or.inr rfl), ?_⟩)); done) | (simp only [coL, AV.dat, true_or, or_true, AV.d.injEq, go_sem]; done)); simp only [go_sem, hm2, ho2, beq_self_eq_true, bne_self_eq_false])
          | refine And.intro (by first | omega | exact trivial | rfl | assumption | (apply map_sz; intro a; simp only [go_sem]; done) | ((and_intros <;> first | omega | exact trivial | rfl | assumption | (apply map_sz; intro a; simp only [go_sem]; done) | fail); done) | fail) ?_
          | fail)
        rw [ha]
        first | refine ret_pure (by simp only [Try.results18, resOkL, resOk, Try.ntmps18, List.toList_toArray]; first | decide | (simp only [go_sem]; done) | (simp only [go_sem]; and_intros <;> first | omega | rfl | decide)) ?_ (by repeat (first | exact Fr.rfl' _ _ | assumption | refine Fr.updk ?_ (by omega) _)) | refine ret_ro (by simp only [Try.results18, resOkL, resOk, Try.ntmps18, List.toList_toArray]; first | decide | (simp only [go_sem]; done) | (simp only [go_sem]; and_intros <;> first | omega | rfl | decide)) ?_ (by repeat (first | exact Fr.rfl' _ _ | assumption | refine Fr.updk ?_ (by omega) _))
        simp only [resA, resV, Try.results18, go_sem]
        all_goals try (first | exact Co.t2 (.dat rfl) (.dat rfl) | exact Co.t3 (.dat rfl) (.dat rfl) (.dat rfl))
      | false =>
        rw [h1] at hc1
        cases h2 : vars.any (outOf sz) with
        | true =>
          have ha : valAns g sz tb t vars = (0, 5) := by unfold valAns; rw [if_neg (by simp [hm2]), if_neg (by simp [ho2]), if_neg (by rw [h1]; simp), if_pos h2]
          rw [h2] at hc2
          repeat' (first
            | refine awp_seq_k fun K hK => ?_
            | ((first | refine awp_region_k (by kernel_rfl) fun R hR => ?_ | refine awp_draw mixed (by kernel_rfl) (by kernel_rfl) fun R hR => ?_); simp only [go_sem, hm2, ho2, beq_self_eq_true, bne_self_eq_false])
            | ((first | (refine hR _ ?_; clear hR R) | refine awp_skip ?_ | refine awp_exit ?_ | refine awp_ret ?_); try simp only [thenA, inBlockA, reduceIte, reduceCtorEq, Nat.reduceEqDiff, if_false, if_true])
            | ((first | refine hK _ ?_ | (clear hK K; first | refine hK _ ?_ | (clear hK K; first | refine hK _ ?_ | (clear hK K; first | refine hK _ ?_ | (clear hK K; refine hK _ ?_))))); clear hK K)
            | refine awp_true rfl rfl ?_
            | refine awp_false rfl rfl ?_
            | refine awp_block ?_
            | ((first | refine CallK.pure (enter28) (mdCheck_tri g sz tb hl hr) ?_ ?_ | refine CallD.pure (enter28) (mdCheck_tri g sz tb hl hr) ?_ ?_); (focus first | ((repeat (first | exact trivial | refine ⟨(by first | exact Or.inl rfl | exact Or.inr rfl), ?_⟩)); done) | (simp only [coL, AV.dat, true_or, or_true, AV.d.injEq, go_sem]; done)); simp only [go_sem, hm2, ho2, beq_self_eq_true, bne_self_eq_false])
            | ((first | refine CallK.pure (enter68) (own_tri g t) ?_ ?_ | refine CallD.pure (enter68) (own_tri g t) ?_ ?_); (focus first | ((repeat (first | exact trivial | refine ⟨(by first | exact Or.inl rfl | exact Or.inr rfl), ?_⟩)); done) | (simp only [coL, AV.dat, true_or, or_true, AV.d.injEq, go_sem]; done)); simp only [go_sem, hm2, ho2, beq_self_eq_true, bne_self_eq_false])
            | ((first | refine CallK.pure (enter70) (hst) ?_ ?_ | refine CallD.pure (enter70) (hst) ?_ ?_); (focus first | ((repeat (first | exact trivial | refine ⟨(by first | exact Or.inl rfl | exact Or.inr rfl), ?_⟩)); done) | (simp only [coL, AV.dat, true_or, or_true, AV.d.injEq, go_sem]; done)); simp only [go_sem, hm2, ho2, beq_self_eq_true, bne_self_eq_false])
            | ((first | refine CallK.look (enter69) (hc1) ?_ (hb1 _ (by simp only [go_sem])) (Fr.rfl' _ _) ?_ | refine CallD.look (enter69) (hc1) ?_ (hb1 _ (by simp only [go_sem])) (Fr.rfl' _ _) (by first | assumption | exact List.cons_ne_nil _ _) ?_); (focus first | ((repeat (first | exact trivial | refine ⟨(by first | exact Or.inl rfl | exact Or.inr rfl), ?_⟩)); done) | (simp only [coL, AV.dat, true_or, or_true, AV.d.injEq, go_sem]; done)); simp only [go_sem, hm2, ho2, beq_self_eq_true, bne_self_eq_false])
            | ((first | refine CallK.look (enter69) (hc2) ?_ (hb2 _ (by simp only [go_sem])) (Fr.rfl' _ _) ?_ | refine CallD.look (enter69) (hc2) ?_ (hb2 _ (by simp only [go_sem])) (Fr.rfl' _ _) (by first | assumption | exact List.cons_ne_nil _ _) ?_); (focus first | ((repeat (first | exact trivial | refine ⟨(by first | exact Or.inl rfl | exact Or.inr rfl), ?_⟩)); done) | (simp only [coL, AV.dat, true_or, or_true, AV.d.injEq, go_sem]; done)); simp only [go_sem, hm2, ho2, beq_self_eq_true, bne_self_eq_false])
            | refine And.intro (by first | omega | exact trivial | rfl | assumption | (apply map_sz; intro a; simp only [go_sem]; done) | ((and_intros <;> first | omega | exact trivial | rfl | assumption | (apply map_sz; intro a; simp only [go_sem]; done) | fail); done) | fail) ?_
            | fail)
          rw [ha]
          first | refine ret_pure (by simp only [Try.results18, resOkL, resOk, Try.ntmps18, List.toList_toArray]; first | decide | (simp only [go_sem]; done) | (simp only [go_sem]; and_intros <;> first | omega | rfl | decide)) ?_ (by repeat (first | exact Fr.rfl' _ _ | assumption | refine Fr.updk ?_ (by omega) _)) | refine ret_ro (by simp only [Try.results18, resOkL, resOk, Try.ntmps18, List.toList_toArray]; first | decide | (simp only [go_sem]; done) | (simp only [go_sem]; and_intros <;> first | omega | rfl | decide)) ?_ (by repeat (first | exact Fr.rfl' _ _ | assumption | refine Fr.updk ?_ (by omega) _))
          simp only [resA, resV, Try.results18, go_sem]
          all_goals try (first | exact Co.t2 (.dat rfl) (.dat rfl) | exact Co.t3 (.dat rfl) (.dat rfl) (.dat rfl))
        | false =>
          have ha : valAns g sz tb t vars = (valM sz tb (byL vars) t, 0) := by unfold valAns; rw [if_neg (by simp [hm2]), if_neg (by simp [ho2]), if_neg (by rw [h1]; simp), if_neg (by rw [h2]; simp)]
          rw [h2] at hc2
          obtain ⟨hf, hk⟩ := fine_of ho2 h1 h2
          have hval := value_tri hm2 74 (enter74) [.ptr (k, 3) 0] (vbO (k, 3) vars) (List.cons_ne_nil _ _) t hf (fun x hx hv => value3_tri (k, 3) vars x.v hv (hk x hx hv) hvl)
          repeat' (first
            | refine awp_seq_k fun K hK => ?_
            | ((first | refine awp_region_k (by kernel_rfl) fun R hR => ?_ | refine awp_draw mixed (by kernel_rfl) (by kernel_rfl) fun R hR => ?_); simp only [go_sem, hm2, ho2, beq_self_eq_true, bne_self_eq_false])
            | ((first | (refine hR _ ?_; clear hR R) | refine awp_skip ?_ | refine awp_exit ?_ | refine awp_ret ?_); try simp only [thenA, inBlockA, reduceIte, reduceCtorEq, Nat.reduceEqDiff, if_false, if_true])
            | ((first | refine hK _ ?_ | (clear hK K; first | refine hK _ ?_ | (clear hK K; first | refine hK _ ?_ | (clear hK K; first | refine hK _ ?_ | (clear hK K; refine hK _ ?_))))); clear hK K)
            | refine awp_true rfl rfl ?_
            | refine awp_false rfl rfl ?_
            | refine awp_block ?_
            | ((first | refine CallK.pure (enter28) (mdCheck_tri g sz tb hl hr) ?_ ?_ | refine CallD.pure (enter28) (mdCheck_tri g sz tb hl hr) ?_ ?_); (focus first | ((repeat (first | exact trivial | refine ⟨(by first | exact Or.inl rfl | exact Or.inr rfl), ?_⟩)); done) | (simp only [coL, AV.dat, true_or, or_true, AV.d.injEq, go_sem]; done)); simp only [go_sem, hm2, ho2, beq_self_eq_true, bne_self_eq_false])
            | ((first | refine CallK.pure (enter68) (own_tri g t) ?_ ?_ | refine CallD.pure (enter68) (own_tri g t) ?_ ?_); (focus first | ((repeat (first | exact trivial | refine ⟨(by first | exact Or.inl rfl | exact Or.inr rfl), ?_⟩)); done) | (simp only [coL, AV.dat, true_or, or_true, AV.d.injEq, go_sem]; done)); simp only [go_sem, hm2, ho2, beq_self_eq_true, bne_self_eq_false])
            | ((first | refine CallK.pure (enter70) (hst) ?_ ?_ | refine CallD.pure (enter70) (hst) ?_ ?_); (focus first | ((repeat (first | exact trivial | refine ⟨(by first | exact Or.inl rfl | exact Or.inr rfl), ?_⟩)); done) | (simp only [coL, AV.dat, true_or, or_true, AV.d.injEq, go_sem]; done)); simp only [go_sem, hm2, ho2, beq_self_eq_true, bne_self_eq_false])
            | ((first | refine CallK.look (enter69) (hc1) ?_ (hb1 _ (by simp only [go_sem])) (Fr.rfl' _ _) ?_ | refine CallD.look (enter69) (hc1) ?_ (hb1 _ (by simp only [go_sem])) (Fr.rfl' _ _) (by first | assumption | exact List.cons_ne_nil _ _) ?_); (focus first | ((repeat (first | exact trivial | refine ⟨(by first | exact Or.inl rfl | exact Or.inr rfl), ?_⟩)); done) | (simp only [coL, AV.dat, true_or, or_true, AV.d.injEq, go_sem]; done)); simp only [go_sem, hm2, ho2, beq_self_eq_true, bne_self_eq_false])
            | ((first | refine CallK.look (enter69) (hc2) ?_ (hb2 _ (by simp only [go_sem])) (Fr.rfl' _ _) ?_ | refine CallD.look (enter69) (hc2) ?_ (hb2 _ (by simp only [go_sem])) (Fr.rfl' _ _) (by first | assumption | exact List.cons_ne_nil _ _) ?_); (focus first | ((repeat (first | exact trivial | refine ⟨(by first | exact Or.inl rfl | exact Or.inr rfl), ?_⟩)); done) | (simp only [coL, AV.dat, true_or, or_true, AV.d.injEq, go_sem]; done)); simp only [go_sem, hm2, ho2, beq_self_eq_true, bne_self_eq_false])
            | ((first | refine CallK.look (enter73) (hval) ?_ (hb1 _ (by simp only [go_sem])) (Fr.rfl' _ _) ?_ | refine CallD.look (enter73) (hval) ?_ (hb1 _ (by simp only [go_sem])) (Fr.rfl' _ _) (by first | assumption | exact List.cons_ne_nil _ _) ?_); (focus first | ((repeat (first | exact trivial | refine ⟨(by first | exact Or.inl rfl | exact Or.inr rfl), ?_⟩)); done) | (simp only [coL, AV.dat, true_or, or_true, AV.d.injEq, go_sem]; done)); simp only [go_sem, hm2, ho2, beq_self_eq_true, bne_self_eq_false])
            | refine And.intro (by first | omega | exact trivial | rfl | assumption | (apply map_sz; intro a; simp only [go_sem]; done) | ((and_intros <;> first | omega | exact trivial | rfl | assumption | (apply map_sz; intro a; simp only [go_sem]; done) | fail); done) | fail) ?_
            | fail)
          rw [ha]
          first | refine ret_pure (by simp only [Try.results18, resOkL, resOk, Try.ntmps18, List.toList_toArray]; first | decide | (simp only [go_sem]; done) | (simp only [go_sem]; and_intros <;> first | omega | rfl | decide)) ?_ (by repeat (first | exact Fr.rfl' _ _ | assumption | refine Fr.updk ?_ (by omega) _)) | refine ret_ro (by simp only [Try.results18, resOkL, resOk, Try.ntmps18, List.toList_toArray]; first | decide | (simp only [go_sem]; done) | (simp only [go_sem]; and_intros <;> first | omega | rfl | decide)) ?_ (by repeat (first | exact Fr.rfl' _ _ | assumption | refine Fr.updk ?_ (by omega) _))
          simp only [resA, resV, Try.results18, go_sem]
          all_goals try (first | exact Co.t2 (.dat rfl) (.dat rfl) | exact Co.t3 (.dat rfl) (.dat rfl) (.dat rfl))
end Go.Proofs.Ytmeekpinkfpnhaa

namespace Go.Proofs.Ytmeekpinkfpnhaa

/-- What a variable is, by a number's digits. -/
def dig (sz : Int) : List Int → Int → Int → Int
  | [], _, _ => 0
  | x :: l, n, v => if v = x then n.tmod sz else dig sz l (n.tdiv sz) v
def litIn (sz : Int) (tb : List (List Int)) (vs : Int → Int) (l : Lt) : Bool := (valM sz tb vs l.a == valM sz tb vs l.b) == l.y
/-- Does a clause hold for all variables, from a number on? -/
def holdsF (sz : Int) (tb : List (List Int)) (c : List Lt) (names : List Int) (N n : Nat) : Bool := ((List.range N).drop n).all fun i => c.any (litIn sz tb (dig sz names i))
def holdsC (sz : Int) (tb : List (List Int)) (c : List Lt) : Bool := holdsF sz tb c (firstVars (termsOf c)) (sz ^ (firstVars (termsOf c)).length).toNat 0
theorem holdsF_at {sz : Int} {tb : List (List Int)} {c : List Lt} {names : List Int} {N n : Nat} (hn : n < N) : holdsF sz tb c names N n = (c.any (litIn sz tb (dig sz names n)) && holdsF sz tb c names N (n + 1)) := by
  have h : n < (List.range N).length := by simpa using hn
  unfold holdsF
  rw [List.drop_eq_getElem_cons h, List.all_cons, List.getElem_range]
theorem holdsF_end {sz : Int} {tb : List (List Int)} {c : List Lt} {names : List Int} {N n : Nat} (hn : N ≤ n) : holdsF sz tb c names N n = true := by
  unfold holdsF
  rw [List.drop_eq_nil_of_le (by simpa using hn)]; rfl
theorem tmod_in {n sz : Int} (h0 : 0 ≤ n) (h1 : 1 ≤ sz) : 0 ≤ n.tmod sz ∧ n.tmod sz < sz := ⟨Int.tmod_nonneg _ h0, Int.tmod_lt_of_pos _ (by omega)⟩
theorem tdiv_in {n sz : Int} (h0 : 0 ≤ n) (h1 : 1 ≤ sz) : 0 ≤ n.tdiv sz ∧ n.tdiv sz ≤ n := ⟨Int.tdiv_nonneg h0 (by omega), by
  rw [Int.tdiv_eq_ediv_of_nonneg h0]
  exact Int.ediv_le_self _ h0⟩
theorem dig_in {sz : Int} (h1 : 1 ≤ sz) : ∀ (l : List Int) (n v : Int), 0 ≤ n → v ∈ l → 0 ≤ dig sz l n v ∧ dig sz l n v < sz
  | x :: l, n, v, h0, hv => by
    rw [dig]
    by_cases h : v = x
    · rw [if_pos h]; exact tmod_in h0 h1
    · rw [if_neg h]
      exact dig_in h1 l _ v (tdiv_in h0 h1).1 (by rcases List.mem_cons.1 hv with h2 | h2; exact absurd h2 h; exact h2)
/-- A clause that is right, of variables that are things. -/
theorem fine_lit {g : List Int} {sz : Int} {c : List Lt} {n : Int} (h1 : 1 ≤ sz) (hn : 0 ≤ n) (hc : ∀ l ∈ c, own g l.a = 0 ∧ own g l.b = 0) {l : Lt} (hl : l ∈ c) :
    (Fine g sz (dig sz (firstVars (termsOf c)) n) (parts l.a) ∧ ∀ x ∈ parts l.a, x.v > 0 → x.v ∈ firstVars (termsOf c)) ∧ (Fine g sz (dig sz (firstVars (termsOf c)) n) (parts l.b) ∧ ∀ x ∈ parts l.b, x.v > 0 → x.v ∈ firstVars (termsOf c)) := by
  have key : ∀ t, t ∈ termsOf c → own g t = 0 → Fine g sz (dig sz (firstVars (termsOf c)) n) (parts t) ∧ ∀ x ∈ parts t, x.v > 0 → x.v ∈ firstVars (termsOf c) := by
    intro t ht ho
    have hk : ∀ x ∈ parts t, x.v > 0 → x.v ∈ firstVars (termsOf c) := fun x hx hv => addVs_has (List.mem_flatMap.2 ⟨t, ht, hx⟩) hv
    exact ⟨fun x hx => ⟨own_each ho hx, fun hv => dig_in h1 _ _ _ hn (hk x hx hv)⟩, hk⟩
  exact ⟨key _ (List.mem_flatMap.2 ⟨l, hl, by simp⟩) (hc l hl).1, key _ (List.mem_flatMap.2 ⟨l, hl, by simp⟩) (hc l hl).2⟩
theorem own_vmax {g : List Int} {t : Tm} (ho : own g t = 0) {x : Tm} (hx : x ∈ parts t) (hv : x.v > 0) : x.v ≤ 1000 := by
  have h1 := own_each ho hx
  unfold formOne at h1
  rw [if_pos (by omega)] at h1
  split at h1
  · cases h1
  · omega
theorem termsOf_own {g : List Int} {c : List Lt} (hc : ∀ l ∈ c, own g l.a = 0 ∧ own g l.b = 0) : ∀ t ∈ termsOf c, own g t = 0 := by
  intro t ht
  obtain ⟨l, hl, h⟩ := List.mem_flatMap.1 ht
  simp at h
  rcases h with rfl | rfl
  · exact (hc l hl).1
  · exact (hc l hl).2
theorem names_in {g : List Int} {c : List Lt} (hc : ∀ l ∈ c, own g l.a = 0 ∧ own g l.b = 0) : ∀ v ∈ firstVars (termsOf c), 1 ≤ v ∧ v ≤ 1000 := by
  intro v hv
  rcases addVs_mem hv with h | ⟨x, hx, rfl, h2⟩
  · simp at h
  · obtain ⟨t, ht, hx⟩ := List.mem_flatMap.1 hx
    exact ⟨by omega, own_vmax (termsOf_own hc t ht) hx h2⟩
end Go.Proofs.Ytmeekpinkfpnhaa

namespace Go.Proofs.Ytmeekpinkfpnhaa
open Go.RowKit
set_option linter.unusedSimpArgs false
set_option linter.unusedSectionVars false

/-- A box with a map, and the map. -/
abbrev byO (b mm : Nm) (es : List (Int × DV)) : List (Nm × Ob) := [(b, .cells 104 [.map mm]), (mm, .map es)]
set_option maxRecDepth 20000 in
theorem holds1_tri (b mm : Nm) (es : List (Int × DV)) (v d : Int) (hd : getM v es = some (iD d)) : Tri Try.prog 77 [iA v, .ptr b 0] (rdE (byO b mm es) (iA d)) := by
  refine tri_enter_ro Try.func77 rfl Try.ntmps77 (by simp only [List.length_cons, List.length_nil]; omega) fun w0 h0 k hro => ?_
  have eb := (hro.get _ (List.mem_cons_self ..)).2
  have em := (hro.get _ (List.mem_cons_of_mem _ (List.mem_cons_self ..))).2
  repeat' (first
    | refine awp_seq_k fun K hK => ?_
    | ((first | refine awp_region_k (by kernel_rfl) fun R hR => ?_ | refine awp_draw mixed (by kernel_rfl) (by kernel_rfl) fun R hR => ?_); simp only [go_sem, eb, em, hd])
    | ((first | (refine hR _ ?_; clear hR R) | refine awp_skip ?_ | refine awp_exit ?_ | refine awp_ret ?_); try simp only [thenA, inBlockA, reduceIte, reduceCtorEq, Nat.reduceEqDiff, if_false, if_true])
    | ((first | refine hK _ ?_ | (clear hK K; first | refine hK _ ?_ | (clear hK K; first | refine hK _ ?_ | (clear hK K; first | refine hK _ ?_ | (clear hK K; refine hK _ ?_))))); clear hK K)
    | refine awp_true rfl rfl ?_
    | refine awp_false rfl rfl ?_
    | refine awp_block ?_
    | refine And.intro (by first | omega | exact trivial | rfl | assumption | (apply map_sz; intro a; simp only [go_sem]; done) | ((and_intros <;> first | omega | exact trivial | rfl | assumption | (apply map_sz; intro a; simp only [go_sem]; done) | fail); done) | fail) ?_
    | fail)
  first | refine ret_pure (by simp only [Try.results77, resOkL, resOk, Try.ntmps77, List.toList_toArray]; first | decide | (simp only [go_sem]; done) | (simp only [go_sem]; and_intros <;> first | omega | rfl | decide)) ?_ (by repeat (first | exact Fr.rfl' _ _ | assumption | refine Fr.updk ?_ (by omega) _)) | refine ret_ro (by simp only [Try.results77, resOkL, resOk, Try.ntmps77, List.toList_toArray]; first | decide | (simp only [go_sem]; done) | (simp only [go_sem]; and_intros <;> first | omega | rfl | decide)) ?_ (by repeat (first | exact Fr.rfl' _ _ | assumption | refine Fr.updk ?_ (by omega) _))
  simp only [resA, resV, Try.results77, go_sem]
  all_goals try (first | exact Co.t2 (.dat rfl) (.dat rfl) | exact Co.t3 (.dat rfl) (.dat rfl) (.dat rfl))
  exact .dat rfl
/-- What a literal's test looks at. -/
abbrev litO (m f b mm : Nm) (sz : Int) (tb : List (List Int)) (es : List (Int × DV)) : List (Nm × Ob) :=
  [(m, .cells 39 [iA sz, .d (.sl (tb.map gI))]), (f, .cells 102 [.fn (.func 77) [] [.ptr b 0]]), (b, .cells 104 [.map mm]), (mm, .map es)]
set_option maxRecDepth 20000 in
theorem holds2_tri {g : List Int} {sz : Int} {tb : List (List Int)} (hm : mdOk g sz tb = 0) (m f b mm : Nm) (es : List (Int × DV)) (vs : Int → Int) (l : Lt) (ha : Fine g sz vs (parts l.a)) (hb : Fine g sz vs (parts l.b)) (hea : ∀ x ∈ parts l.a, x.v > 0 → getM x.v es = some (iD (vs x.v))) (heb : ∀ x ∈ parts l.b, x.v > 0 → getM x.v es = some (iD (vs x.v))) :
    Tri Try.prog 79 [.d (ltDV l), .ptr m 0, .ptr f 0] (rdE (litO m f b mm sz tb es) (bA (litIn sz tb vs l))) := by
  refine tri_enter_ro Try.func79 rfl Try.ntmps79 (by simp only [List.length_cons, List.length_nil]; omega) fun w0 h0 k hro => ?_
  obtain ⟨n1, e1⟩ := hro.get _ (List.mem_cons_self ..)
  obtain ⟨n2, e2⟩ := hro.get _ (List.mem_cons_of_mem _ (List.mem_cons_self ..))
  obtain ⟨n3, e3⟩ := hro.get _ (List.mem_cons_of_mem _ (List.mem_cons_of_mem _ (List.mem_cons_self ..)))
  obtain ⟨n4, e4⟩ := hro.get _ (List.mem_cons_of_mem _ (List.mem_cons_of_mem _ (List.mem_cons_of_mem _ (List.mem_cons_self ..))))
  have hro2 : RoOK k (byO b mm es) h0 := ⟨fun x hx => by
    simp only [byO, List.mem_cons, List.not_mem_nil, or_false] at hx
    rcases hx with rfl | rfl
    · exact ⟨n3, e3⟩
    · exact ⟨n4, e4⟩⟩
  have q1 := nmne n1
  have q2 := nmne n2
  have va := value_tri hm 77 (enter77) [.ptr b 0] (byO b mm es) (List.cons_ne_nil _ _) l.a ha (fun x hx hv => holds1_tri b mm es x.v _ (hea x hx hv))
  have vb := value_tri hm 77 (enter77) [.ptr b 0] (byO b mm es) (List.cons_ne_nil _ _) l.b hb (fun x hx hv => holds1_tri b mm es x.v _ (heb x hx hv))
  unfold litIn
  clear hro
  repeat' (first
    | refine awp_seq_k fun K hK => ?_
    | ((first | refine awp_region_k (by kernel_rfl) fun R hR => ?_ | refine awp_draw mixed (by kernel_rfl) (by kernel_rfl) fun R hR => ?_); simp only [go_sem, e1, e2, q1, q2])
    | ((first | (refine hR _ ?_; clear hR R) | refine awp_skip ?_ | refine awp_exit ?_ | refine awp_ret ?_); try simp only [thenA, inBlockA, reduceIte, reduceCtorEq, Nat.reduceEqDiff, if_false, if_true])
    | ((first | refine hK _ ?_ | (clear hK K; first | refine hK _ ?_ | (clear hK K; first | refine hK _ ?_ | (clear hK K; first | refine hK _ ?_ | (clear hK K; refine hK _ ?_))))); clear hK K)
    | refine awp_true rfl rfl ?_
    | refine awp_false rfl rfl ?_
    | refine awp_block ?_
    | ((first | refine CallK.look (enter73) (va) ?_ (by assumption) (by repeat (first | exact Fr.rfl' _ _ | assumption | refine Fr.updk ?_ (by omega) _)) ?_ | refine CallD.look (enter73) (va) ?_ (by assumption) (by repeat (first | exact Fr.rfl' _ _ | assumption | refine Fr.updk ?_ (by omega) _)) (by first | assumption | exact List.cons_ne_nil _ _) ?_); (focus first | ((repeat (first | exact trivial | refine ⟨(by first | exact Or.inl rfl | exact Or.inr rfl), ?_⟩)); done) | (simp only [coL, AV.dat, true_or, or_true, AV.d.injEq, go_sem]; done)); simp only [go_sem, e1, e2, q1, q2])
    | ((first | refine CallK.look (enter73) (vb) ?_ (by assumption) (by repeat (first | exact Fr.rfl' _ _ | assumption | refine Fr.updk ?_ (by omega) _)) ?_ | refine CallD.look (enter73) (vb) ?_ (by assumption) (by repeat (first | exact Fr.rfl' _ _ | assumption | refine Fr.updk ?_ (by omega) _)) (by first | assumption | exact List.cons_ne_nil _ _) ?_); (focus first | ((repeat (first | exact trivial | refine ⟨(by first | exact Or.inl rfl | exact Or.inr rfl), ?_⟩)); done) | (simp only [coL, AV.dat, true_or, or_true, AV.d.injEq, go_sem]; done)); simp only [go_sem, e1, e2, q1, q2])
    | refine And.intro (by first | omega | exact trivial | rfl | assumption | (apply map_sz; intro a; simp only [go_sem]; done) | ((and_intros <;> first | omega | exact trivial | rfl | assumption | (apply map_sz; intro a; simp only [go_sem]; done) | fail); done) | fail) ?_
    | fail)
  first | refine ret_pure (by simp only [Try.results79, resOkL, resOk, Try.ntmps79, List.toList_toArray]; first | decide | (simp only [go_sem]; done) | (simp only [go_sem]; and_intros <;> first | omega | rfl | decide)) ?_ (by repeat (first | exact Fr.rfl' _ _ | assumption | refine Fr.updk ?_ (by omega) _)) | refine ret_ro (by simp only [Try.results79, resOkL, resOk, Try.ntmps79, List.toList_toArray]; first | decide | (simp only [go_sem]; done) | (simp only [go_sem]; and_intros <;> first | omega | rfl | decide)) ?_ (by repeat (first | exact Fr.rfl' _ _ | assumption | refine Fr.updk ?_ (by omega) _))
  simp only [resA, resV, Try.results79, go_sem]
  all_goals try (first | exact Co.t2 (.dat rfl) (.dat rfl) | exact Co.t3 (.dat rfl) (.dat rfl) (.dat rfl))
  exact .dat rfl
end Go.Proofs.Ytmeekpinkfpnhaa

namespace Go.Proofs.Ytmeekpinkfpnhaa
open Go.RowKit
set_option linter.unusedSimpArgs false
set_option linter.unusedSectionVars false

theorem roLit {m f b mm : Nm} {sz : Int} {tb : List (List Int)} {es : List (Int × DV)} {k : Nat} {h : Heap} (h1 : m.1 < k) (h2 : f.1 < k) (h3 : b.1 < k) (h4 : mm.1 < k) (e1 : h m = some (.cells 39 [iA sz, .d (.sl (tb.map gI))]))
    (e2 : h f = some (.cells 102 [.fn (.func 77) [] [.ptr b 0]])) (e3 : h b = some (.cells 104 [.map mm])) (e4 : h mm = some (.map es)) : RoOK k (litO m f b mm sz tb es) h := ⟨fun x hx => by
  simp only [litO, List.mem_cons, List.not_mem_nil, or_false] at hx
  rcases hx with rfl | rfl | rfl | rfl
  · exact ⟨h1, e1⟩
  · exact ⟨h2, e2⟩
  · exact ⟨h3, e3⟩
  · exact ⟨h4, e4⟩⟩
theorem flat_len (l : List Tm) : (l.flatMap parts).length = Tm.size.sizes l := by
  induction l with
  | nil => rfl
  | cons x xs ih => rw [List.flatMap_cons, List.length_append, ih, Tm.size.sizes, parts_len]
theorem firstVars_len (l : List Tm) : (firstVars l).length ≤ Tm.size.sizes l := by
  have h1 := addVs_len (l.flatMap parts) []
  rw [flat_len] at h1
  simpa [firstVars] using h1
theorem nd_at {names : List Int} (hnd : names.Nodup) {i : Nat} (hi : i < names.length) : (∀ v ∈ names.take i, v ≠ names[i]) ∧ ∀ v ∈ names.drop (i + 1), v ≠ names[i] := by
  have h : names = names.take i ++ names[i] :: names.drop (i + 1) := by rw [← List.drop_eq_getElem_cons hi, List.take_append_drop]
  rw [h] at hnd
  obtain ⟨_, h2, h3⟩ := List.nodup_append.1 hnd
  exact ⟨fun v hv e => h3 v hv names[i] (List.mem_cons_self ..) e, fun v hv e => by
    have := (List.nodup_cons.1 h2).1
    rw [← e] at this
    exact this hv⟩
theorem step_I {names : List Int} (hnd : names.Nodup) {i : Nat} (hi : i < names.length) {sz ni n : Int} {es : List (Int × DV)} (uI : ∀ v ∈ names.take i, getM v es = some (iD (dig sz names n v))) (uD : ∀ v ∈ names.drop i, dig sz (names.drop i) ni v = dig sz names n v) :
    ∀ v ∈ names.take (i + 1), getM v (putM names[i] (iD (ni.tmod sz)) es) = some (iD (dig sz names n v)) := by
  intro v hv
  rw [List.take_succ_eq_append_getElem hi, List.mem_append] at hv
  rw [getM_put]
  rcases hv with hv | hv
  · rw [if_neg ((nd_at hnd hi).1 v hv)]; exact uI v hv
  · simp at hv
    subst hv
    rw [if_pos rfl]
    have := uD names[i] (by rw [List.drop_eq_getElem_cons hi]; exact List.mem_cons_self ..)
    rw [List.drop_eq_getElem_cons hi, dig, if_pos rfl] at this
    rw [← this]
theorem step_D {names : List Int} (hnd : names.Nodup) {i : Nat} (hi : i < names.length) {sz ni n : Int} (uD : ∀ v ∈ names.drop i, dig sz (names.drop i) ni v = dig sz names n v) :
    ∀ v ∈ names.drop (i + 1), dig sz (names.drop (i + 1)) (ni.tdiv sz) v = dig sz names n v := by
  intro v hv
  have := uD v (by rw [List.drop_eq_getElem_cons hi]; exact List.mem_cons_of_mem _ hv)
  rw [List.drop_eq_getElem_cons hi, dig, if_neg ((nd_at hnd hi).2 v hv)] at this
  exact this
/-- model.Holds' answer. -/
def hldAns (g : List Int) (sz : Int) (tb : List (List Int)) (c : List Lt) : Bool × Int :=
  if mdOk g sz tb ≠ 0 then (false, mdOk g sz tb) else if clsOk g [c] ≠ 0 then (false, clsOk g [c]) else if (firstVars (termsOf c)).length > 8 then (false, 2) else (holdsC sz tb c, 0)
theorem clsOk_one {g : List Int} {c : List Lt} (h : clsOk g [c] = 0) : c.length ≤ 8 ∧ ∀ l ∈ c, own g l.a = 0 ∧ own g l.b = 0 := clOk_all ((clsOk_all h).2.2 c (by simp))
theorem stands_cl {g : List Int} {c : List Lt} (hc : ∀ l ∈ c, own g l.a = 0 ∧ own g l.b = 0) : addVs [] ((termsOf c).flatMap pre) = firstVars (termsOf c) := stands_eq (fun t ht => own_bare (termsOf_own hc t ht)) []
theorem termsOf_size {g : List Int} {c : List Lt} (hc : ∀ l ∈ c, own g l.a = 0 ∧ own g l.b = 0) : Tm.size.sizes (termsOf c) ≤ 240 * c.length := by
  induction c with
  | nil => simp [termsOf, Tm.size.sizes]
  | cons l c ih =>
    have h1 := hc l (by simp)
    have h2 := own_parts h1.1
    have h3 := own_parts h1.2
    have h4 := ih fun x hx => hc x (by simp [hx])
    rw [parts_len] at h2 h3
    have : termsOf (l :: c) = l.a :: l.b :: termsOf c := rfl
    rw [this, Tm.size.sizes, Tm.size.sizes, List.length_cons]
    omega
set_option maxHeartbeats 4000000 in
set_option maxRecDepth 20000 in
theorem mdHolds_tri (g : List Int) (sz : Int) (tb : List (List Int)) (c : List Lt) (hl : tb.length ≤ 4000000) (hr : ∀ r ∈ tb, r.length ≤ 4000000) (hcl : c.length ≤ 4000000) :
    Tri Try.prog 19 [.d (sgDV g), .d (mdDV sz tb), .d (clDV c)] (pure' (.tup [bA (hldAns g sz tb c).1, iA (hldAns g sz tb c).2])) := by
  have hcc := clCheck_tri g [c] (by simp) (by simpa using hcl)
  refine tri_enter Try.func19 rfl Try.ntmps19 (by simp only [List.length_cons, List.length_nil]; omega) fun w0 h0 k hrd hwr => ?_
  cases hm : mdOk g sz tb == 0 with
  | false =>
    have hm' : (mdOk g sz tb != 0) = true := by simpa using hm
    have ha : hldAns g sz tb c = (false, mdOk g sz tb) := by unfold hldAns; rw [if_pos (by simpa using hm)]
    repeat' (first
      | refine awp_seq_k fun K hK => ?_
      | ((first | refine awp_region_k (by kernel_rfl) fun R hR => ?_ | refine awp_draw mixed (by kernel_rfl) (by kernel_rfl) fun R hR => ?_); simp only [go_sem, hm, hm'])
      | ((first | (refine hR _ ?_; clear hR R) | refine awp_skip ?_ | refine awp_exit ?_ | refine awp_ret ?_); try simp only [thenA, inBlockA, reduceIte, reduceCtorEq, Nat.reduceEqDiff, if_false, if_true])
      | ((first | refine hK _ ?_ | (clear hK K; first | refine hK _ ?_ | (clear hK K; first | refine hK _ ?_ | (clear hK K; first | refine hK _ ?_ | (clear hK K; refine hK _ ?_))))); clear hK K)
      | refine awp_true rfl rfl ?_
      | refine awp_false rfl rfl ?_
      | refine awp_block ?_
      | ((first | refine CallK.pure (enter28) (mdCheck_tri g sz tb hl hr) ?_ ?_ | refine CallD.pure (enter28) (mdCheck_tri g sz tb hl hr) ?_ ?_); (focus first | ((repeat (first | exact trivial | refine ⟨(by first | exact Or.inl rfl | exact Or.inr rfl), ?_⟩)); done) | (simp only [coL, AV.dat, true_or, or_true, AV.d.injEq, go_sem]; done)); simp only [go_sem, hm, hm'])
      | refine And.intro (by first | omega | exact trivial | rfl | assumption | (apply map_sz; intro a; simp only [go_sem]; done) | ((and_intros <;> first | omega | exact trivial | rfl | assumption | (apply map_sz; intro a; simp only [go_sem]; done) | fail); done) | fail) ?_
      | fail)
    rw [ha]
    first | refine ret_pure (by simp only [Try.results19, resOkL, resOk, Try.ntmps19, List.toList_toArray]; first | decide | (simp only [go_sem]; done) | (simp only [go_sem]; and_intros <;> first | omega | rfl | decide)) ?_ (by repeat (first | exact Fr.rfl' _ _ | assumption | refine Fr.updk ?_ (by omega) _)) | refine ret_ro (by simp only [Try.results19, resOkL, resOk, Try.ntmps19, List.toList_toArray]; first | decide | (simp only [go_sem]; done) | (simp only [go_sem]; and_intros <;> first | omega | rfl | decide)) ?_ (by repeat (first | exact Fr.rfl' _ _ | assumption | refine Fr.updk ?_ (by omega) _))
    simp only [resA, resV, Try.results19, go_sem]
    all_goals try (first | exact Co.t2 (.dat rfl) (.dat rfl) | exact Co.t3 (.dat rfl) (.dat rfl) (.dat rfl))
  | true =>
    have hm2 : mdOk g sz tb = 0 := by simpa using hm
    cases ho : clsOk g [c] == 0 with
    | false =>
      have ho' : (clsOk g [c] != 0) = true := by simpa using ho
      have ha : hldAns g sz tb c = (false, clsOk g [c]) := by unfold hldAns; rw [if_neg (by simp [hm2]), if_pos (by simpa using ho)]
      repeat' (first
        | refine awp_seq_k fun K hK => ?_
        | ((first | refine awp_region_k (by kernel_rfl) fun R hR => ?_ | refine awp_draw mixed (by kernel_rfl) (by kernel_rfl) fun R hR => ?_); simp only [go_sem, hm2, ho', beq_self_eq_true])
        | ((first | (refine hR _ ?_; clear hR R) | refine awp_skip ?_ | refine awp_exit ?_ | refine awp_ret ?_); try simp only [thenA, inBlockA, reduceIte, reduceCtorEq, Nat.reduceEqDiff, if_false, if_true])
        | ((first | refine hK _ ?_ | (clear hK K; first | refine hK _ ?_ | (clear hK K; first | refine hK _ ?_ | (clear hK K; first | refine hK _ ?_ | (clear hK K; refine hK _ ?_))))); clear hK K)
        | refine awp_true rfl rfl ?_
        | refine awp_false rfl rfl ?_
        | refine awp_block ?_
        | ((first | refine CallK.pure (enter28) (mdCheck_tri g sz tb hl hr) ?_ ?_ | refine CallD.pure (enter28) (mdCheck_tri g sz tb hl hr) ?_ ?_); (focus first | ((repeat (first | exact trivial | refine ⟨(by first | exact Or.inl rfl | exact Or.inr rfl), ?_⟩)); done) | (simp only [coL, AV.dat, true_or, or_true, AV.d.injEq, go_sem]; done)); simp only [go_sem, hm2, ho', beq_self_eq_true])
        | ((first | refine CallK.pure (enter36) (hcc) ?_ ?_ | refine CallD.pure (enter36) (hcc) ?_ ?_); (focus first | ((repeat (first | exact trivial | refine ⟨(by first | exact Or.inl rfl | exact Or.inr rfl), ?_⟩)); done) | (simp only [coL, AV.dat, true_or, or_true, AV.d.injEq, go_sem]; done)); simp only [go_sem, hm2, ho', beq_self_eq_true])
        | refine And.intro (by first | omega | exact trivial | rfl | assumption | (apply map_sz; intro a; simp only [go_sem]; done) | ((and_intros <;> first | omega | exact trivial | rfl | assumption | (apply map_sz; intro a; simp only [go_sem]; done) | fail); done) | fail) ?_
        | fail)
      rw [ha]
      first | refine ret_pure (by simp only [Try.results19, resOkL, resOk, Try.ntmps19, List.toList_toArray]; first | decide | (simp only [go_sem]; done) | (simp only [go_sem]; and_intros <;> first | omega | rfl | decide)) ?_ (by repeat (first | exact Fr.rfl' _ _ | assumption | refine Fr.updk ?_ (by omega) _)) | refine ret_ro (by simp only [Try.results19, resOkL, resOk, Try.ntmps19, List.toList_toArray]; first | decide | (simp only [go_sem]; done) | (simp only [go_sem]; and_intros <;> first | omega | rfl | decide)) ?_ (by repeat (first | exact Fr.rfl' _ _ | assumption | refine Fr.updk ?_ (by omega) _))
      simp only [resA, resV, Try.results19, go_sem]
      all_goals try (first | exact Co.t2 (.dat rfl) (.dat rfl) | exact Co.t3 (.dat rfl) (.dat rfl) (.dat rfl))
    | true =>
      have ho2 : clsOk g [c] = 0 := by simpa using ho
      obtain ⟨hc8, hc⟩ := clsOk_one ho2
      have hts := termsOf_size hc
      have hst := stands_tri (termsOf c) (by omega)
      rw [stands_cl hc] at hst
      have hin := names_in hc
      have hnd : (firstVars (termsOf c)).Nodup := addVs_nodup List.nodup_nil
      have hC : ∀ N : Nat, N = (sz ^ (firstVars (termsOf c)).length).toNat → holdsC sz tb c = holdsF sz tb c (firstVars (termsOf c)) N 0 := fun N h => by rw [h]; rfl
      have hfine := fun (n : Int) (hn : 0 ≤ n) (l : Lt) (hl : l ∈ c) => fine_lit (mdOk_all hm2).2.1 hn hc hl
      unfold hldAns
      rw [if_neg (by simp [hm2]), if_neg (by simp [ho2])]
      have hn16 : (firstVars (termsOf c)).length ≤ 2000 := by have := firstVars_len (termsOf c); omega
      generalize hnames : firstVars (termsOf c) = names at *
      cases h8 : decide ((names.length : Int) > 8) with
      | true =>
        rw [if_pos (by simp at h8; omega)]
        repeat' (first
          | refine awp_seq_k fun K hK => ?_
          | ((first | refine awp_region_k (by kernel_rfl) fun R hR => ?_ | refine awp_draw mixed (by kernel_rfl) (by kernel_rfl) fun R hR => ?_); simp only [go_sem, hm2, ho2, beq_self_eq_true, bne_self_eq_false, h8])
          | ((first | (refine hR _ ?_; clear hR R) | refine awp_skip ?_ | refine awp_exit ?_ | refine awp_ret ?_); try simp only [thenA, inBlockA, reduceIte, reduceCtorEq, Nat.reduceEqDiff, if_false, if_true])
          | ((first | refine hK _ ?_ | (clear hK K; first | refine hK _ ?_ | (clear hK K; first | refine hK _ ?_ | (clear hK K; first | refine hK _ ?_ | (clear hK K; refine hK _ ?_))))); clear hK K)
          | refine awp_true rfl rfl ?_
          | refine awp_false rfl rfl ?_
          | refine awp_block ?_
          | ((first | refine CallK.pure (enter28) (mdCheck_tri g sz tb hl hr) ?_ ?_ | refine CallD.pure (enter28) (mdCheck_tri g sz tb hl hr) ?_ ?_); (focus first | ((repeat (first | exact trivial | refine ⟨(by first | exact Or.inl rfl | exact Or.inr rfl), ?_⟩)); done) | (simp only [coL, AV.dat, true_or, or_true, AV.d.injEq, go_sem]; done)); simp only [go_sem, hm2, ho2, beq_self_eq_true, bne_self_eq_false, h8])
          | ((first | refine CallK.pure (enter36) (hcc) ?_ ?_ | refine CallD.pure (enter36) (hcc) ?_ ?_); (focus first | ((repeat (first | exact trivial | refine ⟨(by first | exact Or.inl rfl | exact Or.inr rfl), ?_⟩)); done) | (simp only [coL, AV.dat, true_or, or_true, AV.d.injEq, go_sem]; done)); simp only [go_sem, hm2, ho2, beq_self_eq_true, bne_self_eq_false, h8])
          | ((first | refine CallK.pure (enter75) (terms_tri c hcl) ?_ ?_ | refine CallD.pure (enter75) (terms_tri c hcl) ?_ ?_); (focus first | ((repeat (first | exact trivial | refine ⟨(by first | exact Or.inl rfl | exact Or.inr rfl), ?_⟩)); done) | (simp only [coL, AV.dat, true_or, or_true, AV.d.injEq, go_sem]; done)); simp only [go_sem, hm2, ho2, beq_self_eq_true, bne_self_eq_false, h8])
          | ((first | refine CallK.pure (enter70) (hst) ?_ ?_ | refine CallD.pure (enter70) (hst) ?_ ?_); (focus first | ((repeat (first | exact trivial | refine ⟨(by first | exact Or.inl rfl | exact Or.inr rfl), ?_⟩)); done) | (simp only [coL, AV.dat, true_or, or_true, AV.d.injEq, go_sem]; done)); simp only [go_sem, hm2, ho2, beq_self_eq_true, bne_self_eq_false, h8])
          | refine And.intro (by first | omega | exact trivial | rfl | assumption | (apply map_sz; intro a; simp only [go_sem]; done) | ((and_intros <;> first | omega | exact trivial | rfl | assumption | (apply map_sz; intro a; simp only [go_sem]; done) | fail); done) | fail) ?_
          | fail)
        first | refine ret_pure (by simp only [Try.results19, resOkL, resOk, Try.ntmps19, List.toList_toArray]; first | decide | (simp only [go_sem]; done) | (simp only [go_sem]; and_intros <;> first | omega | rfl | decide)) ?_ (by repeat (first | exact Fr.rfl' _ _ | assumption | refine Fr.updk ?_ (by omega) _)) | refine ret_ro (by simp only [Try.results19, resOkL, resOk, Try.ntmps19, List.toList_toArray]; first | decide | (simp only [go_sem]; done) | (simp only [go_sem]; and_intros <;> first | omega | rfl | decide)) ?_ (by repeat (first | exact Fr.rfl' _ _ | assumption | refine Fr.updk ?_ (by omega) _))
        simp only [resA, resV, Try.results19, go_sem]
        all_goals try (first | exact Co.t2 (.dat rfl) (.dat rfl) | exact Co.t3 (.dat rfl) (.dat rfl) (.dat rfl))
      | false =>
        have h8' : ¬ names.length > 8 := by simp at h8; omega
        rw [if_neg h8']
        obtain ⟨m1, m2, m3, _⟩ := mdOk_all hm2
        have pw := power_tri (n := sz) (by omega) (by omega) (j := names.length) (by omega)
        obtain ⟨p1, p2⟩ := pw_le (n := sz) (by omega) (by omega) (i := names.length) (by omega)
        obtain ⟨N, hN⟩ : ∃ N : Nat, sz ^ names.length = (N : Int) := ⟨(sz ^ names.length).toNat, by omega⟩
        rw [hN] at pw p1 p2
        have hC := hC N (by rw [hN]; rfl)
        repeat' (first
          | refine awp_seq_k fun K hK => ?_
          | ((first | refine awp_region_k (by kernel_rfl) fun R hR => ?_ | refine awp_draw mixed (by kernel_rfl) (by kernel_rfl) fun R hR => ?_); simp only [go_sem, hm2, ho2, beq_self_eq_true, bne_self_eq_false, h8])
          | ((first | (refine hR _ ?_; clear hR R) | refine awp_skip ?_ | refine awp_exit ?_ | refine awp_ret ?_); try simp only [thenA, inBlockA, reduceIte, reduceCtorEq, Nat.reduceEqDiff, if_false, if_true])
          | ((first | refine hK _ ?_ | (clear hK K; first | refine hK _ ?_ | (clear hK K; first | refine hK _ ?_ | (clear hK K; first | refine hK _ ?_ | (clear hK K; refine hK _ ?_))))); clear hK K)
          | refine awp_true rfl rfl ?_
          | refine awp_false rfl rfl ?_
          | refine awp_block ?_
          | ((first | refine CallK.pure (enter28) (mdCheck_tri g sz tb hl hr) ?_ ?_ | refine CallD.pure (enter28) (mdCheck_tri g sz tb hl hr) ?_ ?_); (focus first | ((repeat (first | exact trivial | refine ⟨(by first | exact Or.inl rfl | exact Or.inr rfl), ?_⟩)); done) | (simp only [coL, AV.dat, true_or, or_true, AV.d.injEq, go_sem]; done)); simp only [go_sem, hm2, ho2, beq_self_eq_true, bne_self_eq_false, h8])
          | ((first | refine CallK.pure (enter36) (hcc) ?_ ?_ | refine CallD.pure (enter36) (hcc) ?_ ?_); (focus first | ((repeat (first | exact trivial | refine ⟨(by first | exact Or.inl rfl | exact Or.inr rfl), ?_⟩)); done) | (simp only [coL, AV.dat, true_or, or_true, AV.d.injEq, go_sem]; done)); simp only [go_sem, hm2, ho2, beq_self_eq_true, bne_self_eq_false, h8])
          | ((first | refine CallK.pure (enter75) (terms_tri c hcl) ?_ ?_ | refine CallD.pure (enter75) (terms_tri c hcl) ?_ ?_); (focus first | ((repeat (first | exact trivial | refine ⟨(by first | exact Or.inl rfl | exact Or.inr rfl), ?_⟩)); done) | (simp only [coL, AV.dat, true_or, or_true, AV.d.injEq, go_sem]; done)); simp only [go_sem, hm2, ho2, beq_self_eq_true, bne_self_eq_false, h8])
          | ((first | refine CallK.pure (enter70) (hst) ?_ ?_ | refine CallD.pure (enter70) (hst) ?_ ?_); (focus first | ((repeat (first | exact trivial | refine ⟨(by first | exact Or.inl rfl | exact Or.inr rfl), ?_⟩)); done) | (simp only [coL, AV.dat, true_or, or_true, AV.d.injEq, go_sem]; done)); simp only [go_sem, hm2, ho2, beq_self_eq_true, bne_self_eq_false, h8])
          | ((first | refine CallK.pure (enter76) (pw) ?_ ?_ | refine CallD.pure (enter76) (pw) ?_ ?_); (focus first | ((repeat (first | exact trivial | refine ⟨(by first | exact Or.inl rfl | exact Or.inr rfl), ?_⟩)); done) | (simp only [coL, AV.dat, true_or, or_true, AV.d.injEq, go_sem]; done)); simp only [go_sem, hm2, ho2, beq_self_eq_true, bne_self_eq_false, h8])
          | refine And.intro (by first | omega | exact trivial | rfl | assumption | (apply map_sz; intro a; simp only [go_sem]; done) | ((and_intros <;> first | omega | exact trivial | rfl | assumption | (apply map_sz; intro a; simp only [go_sem]; done) | fail); done) | fail) ?_
          | fail)
        refine awp_loop (fun σ => ∃ n : Nat, σ.t 2 = .d (clDV c) ∧ σ.t 4 = .ptr (k, 1) 0 ∧ σ.t 9 = .d (.sl (names.map iD)) ∧ σ.t 37 = iA N ∧ σ.t 38 = iA n ∧ σ.h (k, 1) = some (.cells 39 [iA sz, .d (.sl (tb.map gI))]) ∧ Fr k h0 σ.h ∧ k < σ.k ∧ n ≤ N ∧ holdsF sz tb c names N n = holdsC sz tb c) (fun σ => N - (intOf' (σ.t 38)).toNat) ?_ ?_
        · refine ⟨0, ?_⟩
          simp only [go_sem]
          and_intros; all_goals try (first | rfl | omega | assumption | ((repeat (first | exact Fr.rfl' _ _ | assumption | refine Fr.updk ?_ (by omega) _)); done))
          exact hC.symm
        · rintro σ ⟨n, s2, s4, s9, s37, s38, sh, hF, hk, hn, hv⟩
          have hne := ltne hk
          rcases Nat.lt_or_ge n N with hlt | hge
          · have hz : (n : Int) < (N : Int) := by omega
            rw [holdsF_at hlt] at hv
            repeat' (first
              | refine awp_seq_k fun K hK => ?_
              | ((first | refine awp_region_k (by kernel_rfl) fun R hR => ?_ | refine awp_draw mixed (by kernel_rfl) (by kernel_rfl) fun R hR => ?_); simp only [go_sem, s2, s4, s9, s37, s38, sh, hz, hne])
              | ((first | (refine hR _ ?_; clear hR R) | refine awp_skip ?_ | refine awp_exit ?_ | refine awp_ret ?_); try simp only [thenA, inBlockA, reduceIte, reduceCtorEq, Nat.reduceEqDiff, if_false, if_true])
              | ((first | refine hK _ ?_ | (clear hK K; first | refine hK _ ?_ | (clear hK K; first | refine hK _ ?_ | (clear hK K; first | refine hK _ ?_ | (clear hK K; refine hK _ ?_))))); clear hK K)
              | refine awp_true rfl rfl ?_
              | refine awp_false rfl rfl ?_
              | refine awp_block ?_
              | refine And.intro (by first | omega | exact trivial | rfl | assumption | (apply map_sz; intro a; simp only [go_sem]; done) | ((and_intros <;> first | omega | exact trivial | rfl | assumption | (apply map_sz; intro a; simp only [go_sem]; done) | fail); done) | fail) ?_
              | fail)
            refine awp_loop (fun τ => ∃ (i : Nat) (ni : Int) (es : List (Int × DV)), τ.t 2 = .d (clDV c) ∧ τ.t 4 = .ptr (k, 1) 0 ∧ τ.t 9 = .d (.sl (names.map iD)) ∧ τ.t 37 = iA N ∧ τ.t 38 = iA n ∧ τ.t 11 = .ptr (σ.k + 1 + 1, 1) 0 ∧ τ.t 42 = .d (.sl (names.map iD)) ∧ τ.t 43 = iA names.length ∧ τ.t 44 = iA i ∧ τ.t 10 = iA ni ∧
              τ.h (k, 1) = some (.cells 39 [iA sz, .d (.sl (tb.map gI))]) ∧ τ.h (σ.k + 1 + 1, 1) = some (.cells 104 [.map (σ.k + 1 + 1, 0)]) ∧ τ.h (σ.k + 1 + 1, 0) = some (.map es) ∧ Fr k h0 τ.h ∧ σ.k + 1 + 1 < τ.k ∧ i ≤ names.length ∧ 0 ≤ ni ∧ ni ≤ n ∧
              (∀ v ∈ names.take i, getM v es = some (iD (dig sz names n v))) ∧ (∀ v ∈ names.drop i, dig sz (names.drop i) ni v = dig sz names n v)) (fun τ => names.length - (intOf' (τ.t 44)).toNat) ?_ ?_
            · refine ⟨0, n, [], ?_⟩
              simp only [go_sem, s2, s4, s9, s37, s38, sh, hne, List.drop_zero, List.take_zero]
              and_intros; all_goals try (first | rfl | omega | assumption | ((repeat (first | exact Fr.rfl' _ _ | assumption | refine Fr.updk ?_ (by omega) _)); done))
            · rintro τ ⟨i, ni, es, u2, u4, u9, u37, u38, u11, u42, u43, u44, u10, uh, ub, um, uF, uk, ui, u0, un, uI, uD⟩
              have hne' := ltne (show k < τ.k by omega)
              have hne2 := ltne uk
              have hne3 := ltne (show k < σ.k + 1 + 1 by omega)
              rcases Nat.lt_or_ge i names.length with hlt' | hge'
              · have hz' : (i : Int) < (names.length : Int) := by omega
                have e1 : (names.map iD).getD i default = iD names[i] := nth_map iD hlt' _
                have hszne : ¬ (sz = 0) := by omega
                obtain ⟨d1, d2⟩ := tdiv_in u0 m2
                repeat' (first
                  | refine awp_seq_k fun K hK => ?_
                  | ((first | refine awp_region_k (by kernel_rfl) fun R hR => ?_ | refine awp_draw mixed (by kernel_rfl) (by kernel_rfl) fun R hR => ?_); simp only [go_sem, u2, u4, u9, u11, u42, u43, u44, u10, uh, ub, um, hz', e1, hne', hne2, hne3, hszne, Int.toNat_natCast])
                  | ((first | (refine hR _ ?_; clear hR R) | refine awp_skip ?_ | refine awp_exit ?_ | refine awp_ret ?_); try simp only [thenA, inBlockA, reduceIte, reduceCtorEq, Nat.reduceEqDiff, if_false, if_true])
                  | ((first | refine hK _ ?_ | (clear hK K; first | refine hK _ ?_ | (clear hK K; first | refine hK _ ?_ | (clear hK K; first | refine hK _ ?_ | (clear hK K; refine hK _ ?_))))); clear hK K)
                  | refine awp_true rfl rfl ?_
                  | refine awp_false rfl rfl ?_
                  | refine awp_block ?_
                  | refine And.intro (by first | omega | exact trivial | rfl | assumption | (apply map_sz; intro a; simp only [go_sem]; done) | ((and_intros <;> first | omega | exact trivial | rfl | assumption | (apply map_sz; intro a; simp only [go_sem]; done) | fail); done) | fail) ?_
                  | fail)
                refine ⟨⟨i + 1, ni.tdiv sz, putM names[i] (iD (ni.tmod sz)) es, ?_⟩, ?_⟩
                rotate_left
                · simp only [go_sem, u2, u4, u9, u37, u38, u11, u42, u43, u44, u10, uh, ub, um, hne', hne2, hne3]; omega
                simp only [go_sem, u2, u4, u9, u37, u38, u11, u42, u43, u44, u10, uh, ub, um, hne', hne2, hne3]
                and_intros; all_goals try (first | rfl | omega | assumption | ((repeat (first | exact Fr.rfl' _ _ | assumption | refine Fr.updk ?_ (by omega) _)); done))
                · exact step_I hnd hlt' uI uD
                · exact step_D hnd hlt' uD
              · have hz' : ¬ ((i : Int) < (names.length : Int)) := by omega
                obtain rfl : i = names.length := by omega
                rw [List.take_length] at uI
                have hcf := containsF_lits c (by omega) 79 (enter79) [.ptr (k, 1) 0, .ptr (τ.k + 1, 1) 0] (litO (k, 1) (τ.k + 1, 1) (σ.k + 1 + 1, 1) (σ.k + 1 + 1, 0) sz tb es) (litIn sz tb (dig sz names n)) (fun l hl => by
                  obtain ⟨⟨f1, f2⟩, f3, f4⟩ := hfine n (by omega) l hl
                  exact holds2_tri hm2 (k, 1) (τ.k + 1, 1) (σ.k + 1 + 1, 1) (σ.k + 1 + 1, 0) es (dig sz names n) l f1 f3 (fun x hx hv => uI _ (f2 x hx hv)) (fun x hx hv => uI _ (f4 x hx hv)))
                cases ha : c.any (litIn sz tb (dig sz names n)) with
                | true =>
                  rw [ha] at hcf hv
                  rw [Bool.true_and] at hv
                  repeat' (first
                    | refine awp_seq_k fun K hK => ?_
                    | ((first | refine awp_region_k (by kernel_rfl) fun R hR => ?_ | refine awp_draw mixed (by kernel_rfl) (by kernel_rfl) fun R hR => ?_); simp only [go_sem, u2, u4, u9, u37, u38, u11, u42, u43, u44, u10, uh, ub, um, hz', hne', hne2, hne3])
                    | ((first | (refine hR _ ?_; clear hR R) | refine awp_skip ?_ | refine awp_exit ?_ | refine awp_ret ?_); try simp only [thenA, inBlockA, reduceIte, reduceCtorEq, Nat.reduceEqDiff, if_false, if_true])
                    | ((first | refine hK _ ?_ | (clear hK K; first | refine hK _ ?_ | (clear hK K; first | refine hK _ ?_ | (clear hK K; first | refine hK _ ?_ | (clear hK K; refine hK _ ?_))))); clear hK K)
                    | refine awp_true rfl rfl ?_
                    | refine awp_false rfl rfl ?_
                    | refine awp_block ?_
                    | ((first | refine CallK.look (enter78) (hcf) ?_ (roLit (k := τ.k + 1 + 1) (by simp only; omega) (by simp only; omega) (by simp only; omega) (by simp only; omega) (by simp only [go_sem, uh, hne', hne2, hne3]) (by simp only [go_sem, uh, hne', hne2, hne3]) (by simp only [go_sem, ub, hne', hne2, hne3]) (by simp only [go_sem, um, hne', hne2, hne3])) (Fr.rfl' _ _) ?_ | refine CallD.look (enter78) (hcf) ?_ (roLit (k := τ.k + 1 + 1) (by simp only; omega) (by simp only; omega) (by simp only; omega) (by simp only; omega) (by simp only [go_sem, uh, hne', hne2, hne3]) (by simp only [go_sem, uh, hne', hne2, hne3]) (by simp only [go_sem, ub, hne', hne2, hne3]) (by simp only [go_sem, um, hne', hne2, hne3])) (Fr.rfl' _ _) (by first | assumption | exact List.cons_ne_nil _ _) ?_); (focus first | ((repeat (first | exact trivial | refine ⟨(by first | exact Or.inl rfl | exact Or.inr rfl), ?_⟩)); done) | (simp only [coL, AV.dat, true_or, or_true, AV.d.injEq, go_sem]; done)); simp only [go_sem, u2, u4, u9, u37, u38, u11, u42, u43, u44, u10, uh, ub, um, hz', hne', hne2, hne3])
                    | refine And.intro (by first | omega | exact trivial | rfl | assumption | (apply map_sz; intro a; simp only [go_sem]; done) | ((and_intros <;> first | omega | exact trivial | rfl | assumption | (apply map_sz; intro a; simp only [go_sem]; done) | fail); done) | fail) ?_
                    | fail)
                  refine ⟨⟨n + 1, ?_⟩, ?_⟩
                  rotate_left
                  · simp only [go_sem, u2, u4, u9, u37, u38, uh, hne', s38]; omega
                  simp only [go_sem, u2, u4, u9, u37, u38, uh, hne', s38]
                  and_intros; all_goals try (first | rfl | omega | assumption | ((repeat (first | exact Fr.rfl' _ _ | assumption | refine Fr.updk ?_ (by omega) _)); done))
                | false =>
                  rw [ha] at hcf hv
                  rw [Bool.false_and] at hv
                  repeat' (first
                    | refine awp_seq_k fun K hK => ?_
                    | ((first | refine awp_region_k (by kernel_rfl) fun R hR => ?_ | refine awp_draw mixed (by kernel_rfl) (by kernel_rfl) fun R hR => ?_); simp only [go_sem, u2, u4, u9, u37, u38, u11, u42, u43, u44, u10, uh, ub, um, hz', hne', hne2, hne3])
                    | ((first | (refine hR _ ?_; clear hR R) | refine awp_skip ?_ | refine awp_exit ?_ | refine awp_ret ?_); try simp only [thenA, inBlockA, reduceIte, reduceCtorEq, Nat.reduceEqDiff, if_false, if_true])
                    | ((first | refine hK _ ?_ | (clear hK K; first | refine hK _ ?_ | (clear hK K; first | refine hK _ ?_ | (clear hK K; first | refine hK _ ?_ | (clear hK K; refine hK _ ?_))))); clear hK K)
                    | refine awp_true rfl rfl ?_
                    | refine awp_false rfl rfl ?_
                    | refine awp_block ?_
                    | ((first | refine CallK.look (enter78) (hcf) ?_ (roLit (k := τ.k + 1 + 1) (by simp only; omega) (by simp only; omega) (by simp only; omega) (by simp only; omega) (by simp only [go_sem, uh, hne', hne2, hne3]) (by simp only [go_sem, uh, hne', hne2, hne3]) (by simp only [go_sem, ub, hne', hne2, hne3]) (by simp only [go_sem, um, hne', hne2, hne3])) (Fr.rfl' _ _) ?_ | refine CallD.look (enter78) (hcf) ?_ (roLit (k := τ.k + 1 + 1) (by simp only; omega) (by simp only; omega) (by simp only; omega) (by simp only; omega) (by simp only [go_sem, uh, hne', hne2, hne3]) (by simp only [go_sem, uh, hne', hne2, hne3]) (by simp only [go_sem, ub, hne', hne2, hne3]) (by simp only [go_sem, um, hne', hne2, hne3])) (Fr.rfl' _ _) (by first | assumption | exact List.cons_ne_nil _ _) ?_); (focus first | ((repeat (first | exact trivial | refine ⟨(by first | exact Or.inl rfl | exact Or.inr rfl), ?_⟩)); done) | (simp only [coL, AV.dat, true_or, or_true, AV.d.injEq, go_sem]; done)); simp only [go_sem, u2, u4, u9, u37, u38, u11, u42, u43, u44, u10, uh, ub, um, hz', hne', hne2, hne3])
                    | refine And.intro (by first | omega | exact trivial | rfl | assumption | (apply map_sz; intro a; simp only [go_sem]; done) | ((and_intros <;> first | omega | exact trivial | rfl | assumption | (apply map_sz; intro a; simp only [go_sem]; done) | fail); done) | fail) ?_
                    | fail)
                  rw [← hv]
                  first | refine ret_pure (by simp only [Try.results19, resOkL, resOk, Try.ntmps19, List.toList_toArray]; first | decide | (simp only [go_sem]; done) | (simp only [go_sem]; and_intros <;> first | omega | rfl | decide)) ?_ (by repeat (first | exact Fr.rfl' _ _ | assumption | refine Fr.updk ?_ (by omega) _)) | refine ret_ro (by simp only [Try.results19, resOkL, resOk, Try.ntmps19, List.toList_toArray]; first | decide | (simp only [go_sem]; done) | (simp only [go_sem]; and_intros <;> first | omega | rfl | decide)) ?_ (by repeat (first | exact Fr.rfl' _ _ | assumption | refine Fr.updk ?_ (by omega) _))
                  simp only [resA, resV, Try.results19, go_sem]
                  all_goals try (first | exact Co.t2 (.dat rfl) (.dat rfl) | exact Co.t3 (.dat rfl) (.dat rfl) (.dat rfl))
          · have hz : ¬ ((n : Int) < (N : Int)) := by omega
            rw [holdsF_end hge] at hv
            repeat' (first
              | refine awp_seq_k fun K hK => ?_
              | ((first | refine awp_region_k (by kernel_rfl) fun R hR => ?_ | refine awp_draw mixed (by kernel_rfl) (by kernel_rfl) fun R hR => ?_); simp only [go_sem, s37, s38, hz, hne])
              | ((first | (refine hR _ ?_; clear hR R) | refine awp_skip ?_ | refine awp_exit ?_ | refine awp_ret ?_); try simp only [thenA, inBlockA, reduceIte, reduceCtorEq, Nat.reduceEqDiff, if_false, if_true])
              | ((first | refine hK _ ?_ | (clear hK K; first | refine hK _ ?_ | (clear hK K; first | refine hK _ ?_ | (clear hK K; first | refine hK _ ?_ | (clear hK K; refine hK _ ?_))))); clear hK K)
              | refine awp_true rfl rfl ?_
              | refine awp_false rfl rfl ?_
              | refine awp_block ?_
              | refine And.intro (by first | omega | exact trivial | rfl | assumption | (apply map_sz; intro a; simp only [go_sem]; done) | ((and_intros <;> first | omega | exact trivial | rfl | assumption | (apply map_sz; intro a; simp only [go_sem]; done) | fail); done) | fail) ?_
              | fail)
            rw [← hv]
            first | refine ret_pure (by simp only [Try.results19, resOkL, resOk, Try.ntmps19, List.toList_toArray]; first | decide | (simp only [go_sem]; done) | (simp only [go_sem]; and_intros <;> first | omega | rfl | decide)) ?_ (by repeat (first | exact Fr.rfl' _ _ | assumption | refine Fr.updk ?_ (by omega) _)) | refine ret_ro (by simp only [Try.results19, resOkL, resOk, Try.ntmps19, List.toList_toArray]; first | decide | (simp only [go_sem]; done) | (simp only [go_sem]; and_intros <;> first | omega | rfl | decide)) ?_ (by repeat (first | exact Fr.rfl' _ _ | assumption | refine Fr.updk ?_ (by omega) _))
            simp only [resA, resV, Try.results19, go_sem]
            all_goals try (first | exact Co.t2 (.dat rfl) (.dat rfl) | exact Co.t3 (.dat rfl) (.dat rfl) (.dat rfl))
end Go.Proofs.Ytmeekpinkfpnhaa

namespace Go.Proofs.Ytmeekpinkfpnhaa
open Go.RowKit
set_option linter.unusedSimpArgs false
set_option linter.unusedSectionVars false

/-- Few literals, of small terms. -/
structure Small (c : List Lt) : Prop where
  len : c.length ≤ 1000
  a : ∀ l ∈ c, l.a.size ≤ 1000
  b : ∀ l ∈ c, l.b.size ≤ 1000
theorem Small.tail {l : Lt} {c : List Lt} (h : Small (l :: c)) : Small c := ⟨by have := h.len; simp at this; omega, fun x hx => h.a x (by simp [hx]), fun x hx => h.b x (by simp [hx])⟩
theorem small_sizes : ∀ c : List Lt, (∀ l ∈ c, l.a.size ≤ 1000 ∧ l.b.size ≤ 1000) → Tm.size.sizes (termsOf c) ≤ 2000 * c.length
  | [], _ => by simp [termsOf, Tm.size.sizes]
  | l :: c, h => by
    have h1 := h l (by simp)
    have h4 := small_sizes c fun x hx => h x (by simp [hx])
    have : termsOf (l :: c) = l.a :: l.b :: termsOf c := rfl
    rw [this, Tm.size.sizes, Tm.size.sizes, List.length_cons]
    omega
theorem Small.sub {c d : List Lt} (h : Small c) (hl : d.length ≤ c.length) (hm : ∀ l ∈ d, l ∈ c) : Small d := ⟨by have := h.len; omega, fun l hl => h.a l (hm l hl), fun l hl => h.b l (hm l hl)⟩
theorem Small.keep {c : List Lt} (h : Small c) : Small (keepG [] c) := by
  rw [keep_nil]; exact h.sub (keepR_len c []) fun l hl => keepR_mem hl
theorem Small.sizes {c : List Lt} (h : Small c) : Tm.size.sizes (termsOf c) ≤ 4000000 := by
  have := small_sizes c fun l hl => ⟨h.a l hl, h.b l hl⟩
  have := h.len
  omega
theorem Small.vars {c : List Lt} (h : Small c) : (addVs [] ((termsOf c).flatMap pre)).length ≤ 4000000 := by
  have h1 := addVs_len ((termsOf c).flatMap pre) []
  rw [← preL_flat, preL_len] at h1
  have := h.sizes
  rw [← preL_flat]
  simp at h1; omega
theorem keepG_at {o c : List Lt} {i : Nat} (hi : i < c.length) : keepG o (c.drop i) = if dropB o c[i] = true then keepG o (c.drop (i + 1)) else keepG (o ++ [c[i]]) (c.drop (i + 1)) := by
  rw [List.drop_eq_getElem_cons hi, keepG]
theorem lookB_none {v : Int} : ∀ {b : Bs}, (∀ p ∈ b, p.1 ≠ v) → lookB v b = none
  | [], _ => rfl
  | p :: b, h => by
    rw [lookB, if_neg (fun e => h p (by simp) e.symm)]
    exact lookB_none fun q hq => h q (by simp [hq])
theorem num_take {V : List Int} {i : Nat} (hi : i < V.length) : numBs (V.take (i + 1)) 0 = numBs (V.take i) 0 ++ [(V[i], .mk ((i : Int) + 1) 0 [])] := by
  rw [List.take_succ_eq_append_getElem hi, numBs_append, List.length_take, Nat.min_eq_left (by omega)]
  simp [numBs]
theorem num_none {V : List Int} (hn : V.Nodup) {i : Nat} (hi : i < V.length) : lookB V[i] (numBs (V.take i) 0) = none := by
  refine lookB_none fun p hp e => ?_
  have := (numBs_mem hp).1
  rw [e] at this
  obtain ⟨j, hj, h2⟩ := List.getElem_of_mem this
  rw [List.length_take] at hj
  rw [List.getElem_take] at h2
  have := (List.getElem_inj hn).1 h2
  omega
theorem tm_leaf (v f : Int) : DV.st [iD v, iD f, .sl []] = tmDV (.mk v f []) := by rw [tmDV_eq]; rfl
set_option maxHeartbeats 4000000 in
set_option maxRecDepth 20000 in
theorem neat_tri (c : List Lt) (hc : Small c) : Tri Try.prog 88 [.d (clDV c)] (pure' (.d (clDV (neatG c)))) := by
  have hcl := hc.len
  refine tri_enter Try.func88 rfl Try.ntmps88 (by simp only [List.length_cons, List.length_nil]; omega) fun w0 h0 k hrd hwr => ?_
  repeat' (first
    | refine awp_ghost (ghost_nil (i := 3) (e := 107) rfl) ?_
    | refine awp_seq_k fun K hK => ?_
    | ((first | refine awp_region_k (by kernel_rfl) fun R hR => ?_ | refine awp_draw mixed (by kernel_rfl) (by kernel_rfl) fun R hR => ?_); simp only [go_sem])
    | ((first | (refine hR _ ?_; clear hR R) | refine awp_skip ?_ | refine awp_exit ?_ | refine awp_ret ?_); try simp only [thenA, inBlockA, reduceIte, reduceCtorEq, Nat.reduceEqDiff, if_false, if_true])
    | ((first | refine hK _ ?_ | (clear hK K; first | refine hK _ ?_ | (clear hK K; first | refine hK _ ?_ | (clear hK K; first | refine hK _ ?_ | (clear hK K; refine hK _ ?_))))); clear hK K)
    | refine awp_true rfl rfl ?_
    | refine awp_false rfl rfl ?_
    | refine awp_block ?_
    | refine And.intro (by first | omega | exact trivial | rfl | assumption | (apply map_sz; intro a; simp only [go_sem]; done) | ((and_intros <;> first | omega | exact trivial | rfl | assumption | (apply map_sz; intro a; simp only [go_sem]; done) | fail); done) | fail) ?_
    | fail)
  refine awp_loop (fun σ => ∃ (i : Nat) (o : List Lt), σ.t 3 = .own (k + 1 + 1, 0) (o.map ltDV) ∧ σ.t 9 = .d (clDV c) ∧ σ.t 10 = iA c.length ∧ σ.t 11 = iA i ∧
    σ.h (k + 1 + 1, 0) = some (.perm 107 o.length) ∧ Fr k h0 σ.h ∧ k + 1 + 1 < σ.k ∧ i ≤ c.length ∧ o.length ≤ i ∧ keepG o (c.drop i) = keepG [] c) (fun σ => c.length - (intOf' (σ.t 11)).toNat) ?_ ?_
  · refine ⟨0, [], ?_⟩
    simp only [go_sem, List.drop_zero, List.map_nil]
    and_intros; all_goals try (first | rfl | omega | assumption | ((repeat (first | exact Fr.rfl' _ _ | assumption | refine Fr.updk ?_ (by omega) _)); done))
  · rintro σ ⟨i, o, s3, s9, s10, s11, sh, hF, hk, hi, ho, hv⟩
    have hne2 := ltne hk
    rcases Nat.lt_or_ge i c.length with hlt | hge
    · have hz : (i : Int) < (c.length : Int) := by omega
      have e1 : (c.map ltDV).getD i default = ltDV c[i] := nth_map ltDV hlt _
      have etk : o.map ltDV ++ [ltDV c[i]] = (o ++ [c[i]]).map ltDV := by simp
      rw [keepG_at hlt] at hv
      have hcf := containsF_lits o (by omega) 117 (enter117) [.ptr (σ.k + 1, 2) 0] (ltO (σ.k + 1, 2) c[i]) (fun x => x.y == c[i].y && sidesB x c[i]) (fun x _ => neat1_tri (σ.k + 1, 2) c[i] x)
      cases hy : c[i].y with
      | false =>
        cases hs : same c[i].a c[i].b with
        | true =>
          have hd : dropB o c[i] = true := by unfold dropB; rw [hy, hs]; rfl
          rw [if_pos hd] at hv
          repeat' (first
            | refine awp_seq_k fun K hK => ?_
            | ((first | refine awp_region_k (by kernel_rfl) fun R hR => ?_ | refine awp_draw mixed (by kernel_rfl) (by kernel_rfl) fun R hR => ?_); simp only [go_sem, s3, s9, s10, s11, sh, hz, e1, hne2, hy, hs, List.length_map, Int.toNat_natCast])
            | ((first | (refine hR _ ?_; clear hR R) | refine awp_skip ?_ | refine awp_exit ?_ | refine awp_ret ?_); try simp only [thenA, inBlockA, reduceIte, reduceCtorEq, Nat.reduceEqDiff, if_false, if_true])
            | ((first | refine hK _ ?_ | (clear hK K; first | refine hK _ ?_ | (clear hK K; first | refine hK _ ?_ | (clear hK K; first | refine hK _ ?_ | (clear hK K; refine hK _ ?_))))); clear hK K)
            | refine awp_true rfl rfl ?_
            | refine awp_false rfl rfl ?_
            | refine awp_block ?_
            | ((first | refine CallK.pure (enter116) (same_tri c[i].a c[i].b) ?_ ?_ | refine CallD.pure (enter116) (same_tri c[i].a c[i].b) ?_ ?_); (focus first | ((repeat (first | exact trivial | refine ⟨(by first | exact Or.inl rfl | exact Or.inr rfl), ?_⟩)); done) | (simp only [coL, AV.dat, true_or, or_true, AV.d.injEq, go_sem]; done)); simp only [go_sem, s3, s9, s10, s11, sh, hz, e1, hne2, hy, hs, List.length_map, Int.toNat_natCast])
            | refine And.intro (by first | omega | exact trivial | rfl | assumption | (apply map_sz; intro a; simp only [go_sem]; done) | ((and_intros <;> first | omega | exact trivial | rfl | assumption | (apply map_sz; intro a; simp only [go_sem]; done) | fail); done) | fail) ?_
            | fail)
          refine ⟨⟨i + 1, o, ?_⟩, ?_⟩
          rotate_left
          · simp only [go_sem, s3, s9, s10, s11, sh, hne2, List.length_map]; omega
          simp only [go_sem, s3, s9, s10, s11, sh, hne2, List.length_map]
          and_intros; all_goals try (first | rfl | omega | assumption | ((repeat (first | exact Fr.rfl' _ _ | assumption | refine Fr.updk ?_ (by omega) _)); done))
        | false =>
          have hd : dropB o c[i] = o.any fun x => x.y == c[i].y && sidesB x c[i] := by unfold dropB; rw [hs, Bool.and_false, Bool.false_or]
          rw [hd] at hv
          cases hq : o.any fun x => x.y == c[i].y && sidesB x c[i] with
          | true =>
            rw [hq] at hcf hv
            rw [if_pos rfl] at hv
            repeat' (first
              | refine awp_seq_k fun K hK => ?_
              | ((first | refine awp_region_k (by kernel_rfl) fun R hR => ?_ | refine awp_draw mixed (by kernel_rfl) (by kernel_rfl) fun R hR => ?_); simp only [go_sem, s3, s9, s10, s11, sh, hz, e1, hne2, hy, hs, List.length_map, Int.toNat_natCast])
              | ((first | (refine hR _ ?_; clear hR R) | refine awp_skip ?_ | refine awp_exit ?_ | refine awp_ret ?_); try simp only [thenA, inBlockA, reduceIte, reduceCtorEq, Nat.reduceEqDiff, if_false, if_true])
              | ((first | refine hK _ ?_ | (clear hK K; first | refine hK _ ?_ | (clear hK K; first | refine hK _ ?_ | (clear hK K; first | refine hK _ ?_ | (clear hK K; refine hK _ ?_))))); clear hK K)
              | refine awp_true rfl rfl ?_
              | refine awp_false rfl rfl ?_
              | refine awp_block ?_
              | ((first | refine CallK.pure (enter116) (same_tri c[i].a c[i].b) ?_ ?_ | refine CallD.pure (enter116) (same_tri c[i].a c[i].b) ?_ ?_); (focus first | ((repeat (first | exact trivial | refine ⟨(by first | exact Or.inl rfl | exact Or.inr rfl), ?_⟩)); done) | (simp only [coL, AV.dat, true_or, or_true, AV.d.injEq, go_sem]; done)); simp only [go_sem, s3, s9, s10, s11, sh, hz, e1, hne2, hy, hs, List.length_map, Int.toNat_natCast])
              | ((first | refine CallK.look (enter78) (hcf) ?_ (roLt (k := σ.k + 1 + 1) (Nat.lt_succ_self _) (by simp only [go_sem, ltC, hy])) (Fr.rfl' _ _) ?_ | refine CallD.look (enter78) (hcf) ?_ (roLt (k := σ.k + 1 + 1) (Nat.lt_succ_self _) (by simp only [go_sem, ltC, hy])) (Fr.rfl' _ _) (by first | assumption | exact List.cons_ne_nil _ _) ?_); (focus first | ((repeat (first | exact trivial | refine ⟨(by first | exact Or.inl rfl | exact Or.inr rfl), ?_⟩)); done) | (simp only [coL, AV.dat, true_or, or_true, AV.d.injEq, go_sem]; done)); simp only [go_sem, s3, s9, s10, s11, sh, hz, e1, hne2, hy, hs, List.length_map, Int.toNat_natCast])
              | refine And.intro (by first | omega | exact trivial | rfl | assumption | (apply map_sz; intro a; simp only [go_sem]; done) | ((and_intros <;> first | omega | exact trivial | rfl | assumption | (apply map_sz; intro a; simp only [go_sem]; done) | fail); done) | fail) ?_
              | fail)
            refine ⟨⟨i + 1, o, ?_⟩, ?_⟩
            rotate_left
            · simp only [go_sem, s3, s9, s10, s11, sh, hne2, List.length_map]; omega
            simp only [go_sem, s3, s9, s10, s11, sh, hne2, List.length_map]
            and_intros; all_goals try (first | rfl | omega | assumption | ((repeat (first | exact Fr.rfl' _ _ | assumption | refine Fr.updk ?_ (by omega) _)); done))
          | false =>
            rw [hq] at hcf hv
            rw [if_neg (by simp)] at hv
            repeat' (first
              | refine awp_seq_k fun K hK => ?_
              | ((first | refine awp_region_k (by kernel_rfl) fun R hR => ?_ | refine awp_draw mixed (by kernel_rfl) (by kernel_rfl) fun R hR => ?_); simp only [go_sem, s3, s9, s10, s11, sh, hz, e1, hne2, hy, hs, List.length_map, Int.toNat_natCast])
              | ((first | (refine hR _ ?_; clear hR R) | refine awp_skip ?_ | refine awp_exit ?_ | refine awp_ret ?_); try simp only [thenA, inBlockA, reduceIte, reduceCtorEq, Nat.reduceEqDiff, if_false, if_true])
              | ((first | refine hK _ ?_ | (clear hK K; first | refine hK _ ?_ | (clear hK K; first | refine hK _ ?_ | (clear hK K; first | refine hK _ ?_ | (clear hK K; refine hK _ ?_))))); clear hK K)
              | refine awp_true rfl rfl ?_
              | refine awp_false rfl rfl ?_
              | refine awp_block ?_
              | ((first | refine CallK.pure (enter116) (same_tri c[i].a c[i].b) ?_ ?_ | refine CallD.pure (enter116) (same_tri c[i].a c[i].b) ?_ ?_); (focus first | ((repeat (first | exact trivial | refine ⟨(by first | exact Or.inl rfl | exact Or.inr rfl), ?_⟩)); done) | (simp only [coL, AV.dat, true_or, or_true, AV.d.injEq, go_sem]; done)); simp only [go_sem, s3, s9, s10, s11, sh, hz, e1, hne2, hy, hs, List.length_map, Int.toNat_natCast])
              | ((first | refine CallK.look (enter78) (hcf) ?_ (roLt (k := σ.k + 1 + 1) (Nat.lt_succ_self _) (by simp only [go_sem, ltC, hy])) (Fr.rfl' _ _) ?_ | refine CallD.look (enter78) (hcf) ?_ (roLt (k := σ.k + 1 + 1) (Nat.lt_succ_self _) (by simp only [go_sem, ltC, hy])) (Fr.rfl' _ _) (by first | assumption | exact List.cons_ne_nil _ _) ?_); (focus first | ((repeat (first | exact trivial | refine ⟨(by first | exact Or.inl rfl | exact Or.inr rfl), ?_⟩)); done) | (simp only [coL, AV.dat, true_or, or_true, AV.d.injEq, go_sem]; done)); simp only [go_sem, s3, s9, s10, s11, sh, hz, e1, hne2, hy, hs, List.length_map, Int.toNat_natCast])
              | refine And.intro (by first | omega | exact trivial | rfl | assumption | (apply map_sz; intro a; simp only [go_sem]; done) | ((and_intros <;> first | omega | exact trivial | rfl | assumption | (apply map_sz; intro a; simp only [go_sem]; done) | fail); done) | fail) ?_
              | fail)
            have ely : DV.st [bD false, iD c[i].a.v, iD c[i].a.f, .sl (c[i].a.us.map tmDV), iD c[i].b.v, iD c[i].b.f, .sl (c[i].b.us.map tmDV)] = ltDV c[i] := by rw [ltDV, hy]
            refine ⟨⟨i + 1, o ++ [c[i]], ?_⟩, ?_⟩
            rotate_left
            · simp only [go_sem, s3, s9, s10, s11, sh, hne2, ely, etk, List.length_map]; omega
            simp only [go_sem, s3, s9, s10, s11, sh, hne2, ely, etk, List.length_map]
            and_intros; all_goals try (first | rfl | omega | assumption | ((repeat (first | exact Fr.rfl' _ _ | assumption | refine Fr.updk ?_ (by omega) _)); done))
            all_goals (simp only [List.length_append, List.length_singleton]; omega)
      | true =>
        have hd : dropB o c[i] = o.any fun x => x.y == c[i].y && sidesB x c[i] := by unfold dropB; rw [hy]; rfl
        rw [hd] at hv
        cases hq : o.any fun x => x.y == c[i].y && sidesB x c[i] with
        | true =>
          rw [hq] at hcf hv
          rw [if_pos rfl] at hv
          repeat' (first
            | refine awp_seq_k fun K hK => ?_
            | ((first | refine awp_region_k (by kernel_rfl) fun R hR => ?_ | refine awp_draw mixed (by kernel_rfl) (by kernel_rfl) fun R hR => ?_); simp only [go_sem, s3, s9, s10, s11, sh, hz, e1, hne2, hy, List.length_map, Int.toNat_natCast])
            | ((first | (refine hR _ ?_; clear hR R) | refine awp_skip ?_ | refine awp_exit ?_ | refine awp_ret ?_); try simp only [thenA, inBlockA, reduceIte, reduceCtorEq, Nat.reduceEqDiff, if_false, if_true])
            | ((first | refine hK _ ?_ | (clear hK K; first | refine hK _ ?_ | (clear hK K; first | refine hK _ ?_ | (clear hK K; first | refine hK _ ?_ | (clear hK K; refine hK _ ?_))))); clear hK K)
            | refine awp_true rfl rfl ?_
            | refine awp_false rfl rfl ?_
            | refine awp_block ?_
            | ((first | refine CallK.look (enter78) (hcf) ?_ (roLt (k := σ.k + 1 + 1) (Nat.lt_succ_self _) (by simp only [go_sem, ltC, hy])) (Fr.rfl' _ _) ?_ | refine CallD.look (enter78) (hcf) ?_ (roLt (k := σ.k + 1 + 1) (Nat.lt_succ_self _) (by simp only [go_sem, ltC, hy])) (Fr.rfl' _ _) (by first | assumption | exact List.cons_ne_nil _ _) ?_); (focus first | ((repeat (first | exact trivial | refine ⟨(by first | exact Or.inl rfl | exact Or.inr rfl), ?_⟩)); done) | (simp only [coL, AV.dat, true_or, or_true, AV.d.injEq, go_sem]; done)); simp only [go_sem, s3, s9, s10, s11, sh, hz, e1, hne2, hy, List.length_map, Int.toNat_natCast])
            | refine And.intro (by first | omega | exact trivial | rfl | assumption | (apply map_sz; intro a; simp only [go_sem]; done) | ((and_intros <;> first | omega | exact trivial | rfl | assumption | (apply map_sz; intro a; simp only [go_sem]; done) | fail); done) | fail) ?_
            | fail)
          refine ⟨⟨i + 1, o, ?_⟩, ?_⟩
          rotate_left
          · simp only [go_sem, s3, s9, s10, s11, sh, hne2, List.length_map]; omega
          simp only [go_sem, s3, s9, s10, s11, sh, hne2, List.length_map]
          and_intros; all_goals try (first | rfl | omega | assumption | ((repeat (first | exact Fr.rfl' _ _ | assumption | refine Fr.updk ?_ (by omega) _)); done))
        | false =>
          rw [hq] at hcf hv
          rw [if_neg (by simp)] at hv
          repeat' (first
            | refine awp_seq_k fun K hK => ?_
            | ((first | refine awp_region_k (by kernel_rfl) fun R hR => ?_ | refine awp_draw mixed (by kernel_rfl) (by kernel_rfl) fun R hR => ?_); simp only [go_sem, s3, s9, s10, s11, sh, hz, e1, hne2, hy, List.length_map, Int.toNat_natCast])
            | ((first | (refine hR _ ?_; clear hR R) | refine awp_skip ?_ | refine awp_exit ?_ | refine awp_ret ?_); try simp only [thenA, inBlockA, reduceIte, reduceCtorEq, Nat.reduceEqDiff, if_false, if_true])
            | ((first | refine hK _ ?_ | (clear hK K; first | refine hK _ ?_ | (clear hK K; first | refine hK _ ?_ | (clear hK K; first | refine hK _ ?_ | (clear hK K; refine hK _ ?_))))); clear hK K)
            | refine awp_true rfl rfl ?_
            | refine awp_false rfl rfl ?_
            | refine awp_block ?_
            | ((first | refine CallK.look (enter78) (hcf) ?_ (roLt (k := σ.k + 1 + 1) (Nat.lt_succ_self _) (by simp only [go_sem, ltC, hy])) (Fr.rfl' _ _) ?_ | refine CallD.look (enter78) (hcf) ?_ (roLt (k := σ.k + 1 + 1) (Nat.lt_succ_self _) (by simp only [go_sem, ltC, hy])) (Fr.rfl' _ _) (by first | assumption | exact List.cons_ne_nil _ _) ?_); (focus first | ((repeat (first | exact trivial | refine ⟨(by first | exact Or.inl rfl | exact Or.inr rfl), ?_⟩)); done) | (simp only [coL, AV.dat, true_or, or_true, AV.d.injEq, go_sem]; done)); simp only [go_sem, s3, s9, s10, s11, sh, hz, e1, hne2, hy, List.length_map, Int.toNat_natCast])
            | refine And.intro (by first | omega | exact trivial | rfl | assumption | (apply map_sz; intro a; simp only [go_sem]; done) | ((and_intros <;> first | omega | exact trivial | rfl | assumption | (apply map_sz; intro a; simp only [go_sem]; done) | fail); done) | fail) ?_
            | fail)
          have ely : DV.st [bD true, iD c[i].a.v, iD c[i].a.f, .sl (c[i].a.us.map tmDV), iD c[i].b.v, iD c[i].b.f, .sl (c[i].b.us.map tmDV)] = ltDV c[i] := by rw [ltDV, hy]
          refine ⟨⟨i + 1, o ++ [c[i]], ?_⟩, ?_⟩
          rotate_left
          · simp only [go_sem, s3, s9, s10, s11, sh, hne2, ely, etk, List.length_map]; omega
          simp only [go_sem, s3, s9, s10, s11, sh, hne2, ely, etk, List.length_map]
          and_intros; all_goals try (first | rfl | omega | assumption | ((repeat (first | exact Fr.rfl' _ _ | assumption | refine Fr.updk ?_ (by omega) _)); done))
          all_goals (simp only [List.length_append, List.length_singleton]; omega)
    · have hz : ¬ ((i : Int) < (c.length : Int)) := by omega
      rw [List.drop_eq_nil_of_le hge, keepG] at hv
      have hsm := hc.keep
      rw [← hv] at hsm
      have hol := hsm.len
      obtain ⟨V, hV⟩ : ∃ V, V = addVs [] ((termsOf o).flatMap pre) := ⟨_, rfl⟩
      have hst := stands_tri (termsOf o) hsm.sizes
      have hVl : V.length ≤ 4000000 := by rw [hV]; exact hsm.vars
      have hVn : V.Nodup := by rw [hV]; exact addVs_nodup (by simp)
      have hfin : neatG c = o.map (mapLt (mapM (madeS (numBs V 0)))) := by unfold neatG; rw [hV, hv]
      rw [← hV] at hst
      repeat' (first
        | refine awp_seq_k fun K hK => ?_
        | ((first | refine awp_region_k (by kernel_rfl) fun R hR => ?_ | refine awp_draw mixed (by kernel_rfl) (by kernel_rfl) fun R hR => ?_); simp only [go_sem, s3, s9, s10, s11, sh, hz, hne2])
        | ((first | (refine hR _ ?_; clear hR R) | refine awp_skip ?_ | refine awp_exit ?_ | refine awp_ret ?_); try simp only [thenA, inBlockA, reduceIte, reduceCtorEq, Nat.reduceEqDiff, if_false, if_true])
        | ((first | refine hK _ ?_ | (clear hK K; first | refine hK _ ?_ | (clear hK K; first | refine hK _ ?_ | (clear hK K; first | refine hK _ ?_ | (clear hK K; refine hK _ ?_))))); clear hK K)
        | refine awp_true rfl rfl ?_
        | refine awp_false rfl rfl ?_
        | refine awp_block ?_
        | ((first | refine CallK.pure (enter75) (terms_tri o (by omega)) ?_ ?_ | refine CallD.pure (enter75) (terms_tri o (by omega)) ?_ ?_); (focus first | ((repeat (first | exact trivial | refine ⟨(by first | exact Or.inl rfl | exact Or.inr rfl), ?_⟩)); done) | (simp only [coL, AV.dat, true_or, or_true, AV.d.injEq, go_sem]; done)); simp only [go_sem, s3, s9, s10, s11, sh, hz, hne2])
        | ((first | refine CallK.pure (enter70) (hst) ?_ ?_ | refine CallD.pure (enter70) (hst) ?_ ?_); (focus first | ((repeat (first | exact trivial | refine ⟨(by first | exact Or.inl rfl | exact Or.inr rfl), ?_⟩)); done) | (simp only [coL, AV.dat, true_or, or_true, AV.d.injEq, go_sem]; done)); simp only [go_sem, s3, s9, s10, s11, sh, hz, hne2])
        | refine And.intro (by first | omega | exact trivial | rfl | assumption | (apply map_sz; intro a; simp only [go_sem]; done) | ((and_intros <;> first | omega | exact trivial | rfl | assumption | (apply map_sz; intro a; simp only [go_sem]; done) | fail); done) | fail) ?_
        | fail)
      refine awp_loop (fun τ => ∃ j : Nat, τ.t 3 = .own (k + 1 + 1, 0) (o.map ltDV) ∧ τ.t 6 = .ptr (σ.k + 1, 1) 0 ∧ τ.t 38 = .d (.sl (V.map iD)) ∧ τ.t 39 = iA V.length ∧ τ.t 40 = iA j ∧
        τ.h (σ.k + 1, 1) = some (.cells 142 [.map (σ.k + 1, 0)]) ∧ τ.h (σ.k + 1, 0) = some (.map (bsE (numBs (V.take j) 0))) ∧ τ.h (k + 1 + 1, 0) = some (.perm 107 o.length) ∧ Fr k h0 τ.h ∧ σ.k + 1 < τ.k ∧ j ≤ V.length) (fun τ => V.length - (intOf' (τ.t 40)).toNat) ?_ ?_
      · refine ⟨0, ?_⟩
        simp only [go_sem, s3, sh, hne2, List.take_zero, numBs]
        and_intros; all_goals try (first | rfl | omega | assumption | ((repeat (first | exact Fr.rfl' _ _ | assumption | refine Fr.updk ?_ (by omega) _)); done))
      · rintro τ ⟨j, u3, u6, u38, u39, u40, uh, um, up, uF, uk, uj⟩
        have r1 := ltne uk
        have r2 := ltne (show k + 1 + 1 < τ.k by omega)
        have r3 := ltne (show k + 1 < σ.k by omega)
        rcases Nat.lt_or_ge j V.length with jlt | jge
        · have jz : (j : Int) < (V.length : Int) := by omega
          have e2 : (V.map iD).getD j default = iD V[j] := nth_map iD jlt _
          have hpm := putM_bs (num_none hVn jlt) (.mk ((j : Int) + 1) 0 [])
          rw [← num_take jlt] at hpm
          repeat' (first
            | refine awp_seq_k fun K hK => ?_
            | ((first | refine awp_region_k (by kernel_rfl) fun R hR => ?_ | refine awp_draw mixed (by kernel_rfl) (by kernel_rfl) fun R hR => ?_); simp only [go_sem, u3, u6, u38, u39, u40, uh, um, up, jz, e2, r1, r2, hpm, tm_leaf, Int.toNat_natCast])
            | ((first | (refine hR _ ?_; clear hR R) | refine awp_skip ?_ | refine awp_exit ?_ | refine awp_ret ?_); try simp only [thenA, inBlockA, reduceIte, reduceCtorEq, Nat.reduceEqDiff, if_false, if_true])
            | ((first | refine hK _ ?_ | (clear hK K; first | refine hK _ ?_ | (clear hK K; first | refine hK _ ?_ | (clear hK K; first | refine hK _ ?_ | (clear hK K; refine hK _ ?_))))); clear hK K)
            | refine awp_true rfl rfl ?_
            | refine awp_false rfl rfl ?_
            | refine awp_block ?_
            | refine And.intro (by first | omega | exact trivial | rfl | assumption | (apply map_sz; intro a; simp only [go_sem]; done) | ((and_intros <;> first | omega | exact trivial | rfl | assumption | (apply map_sz; intro a; simp only [go_sem]; done) | fail); done) | fail) ?_
            | fail)
          refine ⟨⟨j + 1, ?_⟩, ?_⟩
          rotate_left
          · simp only [go_sem, u3, u6, u38, u39, u40, uh, um, up, r1, r2, r3]; omega
          simp only [go_sem, u3, u6, u38, u39, u40, uh, um, up, r1, r2, r3]
          and_intros; all_goals try (first | rfl | omega | assumption | ((repeat (first | exact Fr.rfl' _ _ | assumption | refine Fr.updk ?_ (by omega) _)); done))
        · have jz : ¬ ((j : Int) < (V.length : Int)) := by omega
          obtain rfl : j = V.length := by omega
          rw [List.take_length] at um
          have hbs : ∀ p ∈ numBs V 0, p.2.size ≤ 4000000 := fun p hp => by
            have := (numBs_mem hp).2.1
            have e := p.2.size_eq
            rw [this] at e
            simp [Tm.size.sizes] at e
            omega
          have hea := each_tri 120 [.ptr (σ.k + 1, 1) 0] (bsO (σ.k + 1, 1) (σ.k + 1, 0) (numBs V 0)) (mapM (madeS (numBs V 0))) (enter120) (by simp) o (by omega) (fun l hl => ⟨neat2_tri _ _ _ hbs l.a (by have := hsm.a l hl; omega), neat2_tri _ _ _ hbs l.b (by have := hsm.b l hl; omega)⟩)
          repeat' (first
            | refine awp_seq_k fun K hK => ?_
            | ((first | refine awp_region_k (by kernel_rfl) fun R hR => ?_ | refine awp_draw mixed (by kernel_rfl) (by kernel_rfl) fun R hR => ?_); simp only [go_sem, u3, u6, u38, u39, u40, uh, um, up, jz, r1, r2])
            | ((first | (refine hR _ ?_; clear hR R) | refine awp_skip ?_ | refine awp_exit ?_ | refine awp_ret ?_); try simp only [thenA, inBlockA, reduceIte, reduceCtorEq, Nat.reduceEqDiff, if_false, if_true])
            | ((first | refine hK _ ?_ | (clear hK K; first | refine hK _ ?_ | (clear hK K; first | refine hK _ ?_ | (clear hK K; first | refine hK _ ?_ | (clear hK K; refine hK _ ?_))))); clear hK K)
            | refine awp_true rfl rfl ?_
            | refine awp_false rfl rfl ?_
            | refine awp_block ?_
            | ((first | refine CallK.look (enter119) (hea) ?_ (roBs (k := τ.k) (by show σ.k + 1 < τ.k; omega) (by show σ.k + 1 < τ.k; omega) (by simp only [go_sem, uh]) (by simp only [go_sem, um])) (Fr.rfl' _ _) ?_ | refine CallD.look (enter119) (hea) ?_ (roBs (k := τ.k) (by show σ.k + 1 < τ.k; omega) (by show σ.k + 1 < τ.k; omega) (by simp only [go_sem, uh]) (by simp only [go_sem, um])) (Fr.rfl' _ _) (by first | assumption | exact List.cons_ne_nil _ _) ?_); (focus first | ((repeat (first | exact trivial | refine ⟨(by first | exact Or.inl rfl | exact Or.inr rfl), ?_⟩)); done) | (simp only [coL, AV.dat, true_or, or_true, AV.d.injEq, go_sem]; done)); simp only [go_sem, u3, u6, u38, u39, u40, uh, um, up, jz, r1, r2])
            | refine And.intro (by first | omega | exact trivial | rfl | assumption | (apply map_sz; intro a; simp only [go_sem]; done) | ((and_intros <;> first | omega | exact trivial | rfl | assumption | (apply map_sz; intro a; simp only [go_sem]; done) | fail); done) | fail) ?_
            | fail)
          rw [hfin]
          first | refine ret_pure (by simp only [Try.results88, resOkL, resOk, Try.ntmps88, List.toList_toArray]; first | decide | (simp only [go_sem]; done) | (simp only [go_sem]; and_intros <;> first | omega | rfl | decide)) ?_ (by repeat (first | exact Fr.rfl' _ _ | assumption | refine Fr.updk ?_ (by omega) _)) | refine ret_ro (by simp only [Try.results88, resOkL, resOk, Try.ntmps88, List.toList_toArray]; first | decide | (simp only [go_sem]; done) | (simp only [go_sem]; and_intros <;> first | omega | rfl | decide)) ?_ (by repeat (first | exact Fr.rfl' _ _ | assumption | refine Fr.updk ?_ (by omega) _))
          simp only [resA, resV, Try.results88, go_sem]
          all_goals try (first | exact Co.t2 (.dat rfl) (.dat rfl) | exact Co.t3 (.dat rfl) (.dat rfl) (.dat rfl))
          all_goals exact .dat rfl
/-- clause.Tidy's answer. -/
def tidyAns (g : List Int) (c : List Lt) : List Lt × Int := if clsOk g [c] ≠ 0 then ([], clsOk g [c]) else (neatG c, 0)
theorem small_own {g : List Int} {c : List Lt} (h : clsOk g [c] = 0) : Small c := by
  obtain ⟨h1, h2⟩ := clsOk_one h
  refine ⟨by omega, fun l hl => ?_, fun l hl => ?_⟩
  · have := own_parts (h2 l hl).1; rw [parts_len] at this; omega
  · have := own_parts (h2 l hl).2; rw [parts_len] at this; omega
set_option maxRecDepth 20000 in
theorem tidy_tri (g : List Int) (c : List Lt) (hc : c.length ≤ 4000000) : Tri Try.prog 29 [.d (sgDV g), .d (clDV c)] (pure' (.tup [.d (clDV (tidyAns g c).1), iA (tidyAns g c).2])) := by
  refine tri_enter Try.func29 rfl Try.ntmps29 (by simp only [List.length_cons, List.length_nil]; omega) fun w0 h0 k hrd hwr => ?_
  cases ho : clsOk g [c] == 0 with
  | false =>
    have ho' : (clsOk g [c] != 0) = true := by simpa using ho
    have ha : tidyAns g c = ([], clsOk g [c]) := by unfold tidyAns; rw [if_pos (by simpa using ho)]
    repeat' (first
      | refine awp_seq_k fun K hK => ?_
      | ((first | refine awp_region_k (by kernel_rfl) fun R hR => ?_ | refine awp_draw mixed (by kernel_rfl) (by kernel_rfl) fun R hR => ?_); simp only [go_sem, ho'])
      | ((first | (refine hR _ ?_; clear hR R) | refine awp_skip ?_ | refine awp_exit ?_ | refine awp_ret ?_); try simp only [thenA, inBlockA, reduceIte, reduceCtorEq, Nat.reduceEqDiff, if_false, if_true])
      | ((first | refine hK _ ?_ | (clear hK K; first | refine hK _ ?_ | (clear hK K; first | refine hK _ ?_ | (clear hK K; first | refine hK _ ?_ | (clear hK K; refine hK _ ?_))))); clear hK K)
      | refine awp_true rfl rfl ?_
      | refine awp_false rfl rfl ?_
      | refine awp_block ?_
      | ((first | refine CallK.pure (enter87) (one_tri g c hc) ?_ ?_ | refine CallD.pure (enter87) (one_tri g c hc) ?_ ?_); (focus first | ((repeat (first | exact trivial | refine ⟨(by first | exact Or.inl rfl | exact Or.inr rfl), ?_⟩)); done) | (simp only [coL, AV.dat, true_or, or_true, AV.d.injEq, go_sem]; done)); simp only [go_sem, ho'])
      | refine And.intro (by first | omega | exact trivial | rfl | assumption | (apply map_sz; intro a; simp only [go_sem]; done) | ((and_intros <;> first | omega | exact trivial | rfl | assumption | (apply map_sz; intro a; simp only [go_sem]; done) | fail); done) | fail) ?_
      | fail)
    rw [ha]
    first | refine ret_pure (by simp only [Try.results29, resOkL, resOk, Try.ntmps29, List.toList_toArray]; first | decide | (simp only [go_sem]; done) | (simp only [go_sem]; and_intros <;> first | omega | rfl | decide)) ?_ (by repeat (first | exact Fr.rfl' _ _ | assumption | refine Fr.updk ?_ (by omega) _)) | refine ret_ro (by simp only [Try.results29, resOkL, resOk, Try.ntmps29, List.toList_toArray]; first | decide | (simp only [go_sem]; done) | (simp only [go_sem]; and_intros <;> first | omega | rfl | decide)) ?_ (by repeat (first | exact Fr.rfl' _ _ | assumption | refine Fr.updk ?_ (by omega) _))
    simp only [resA, resV, Try.results29, go_sem]
    all_goals try (first | exact Co.t2 (.dat rfl) (.dat rfl) | exact Co.t3 (.dat rfl) (.dat rfl) (.dat rfl))
  | true =>
    have ho2 : clsOk g [c] = 0 := by simpa using ho
    have ha : tidyAns g c = (neatG c, 0) := by unfold tidyAns; rw [if_neg (by simp [ho2])]
    repeat' (first
      | refine awp_seq_k fun K hK => ?_
      | ((first | refine awp_region_k (by kernel_rfl) fun R hR => ?_ | refine awp_draw mixed (by kernel_rfl) (by kernel_rfl) fun R hR => ?_); simp only [go_sem, ho2, bne_self_eq_false])
      | ((first | (refine hR _ ?_; clear hR R) | refine awp_skip ?_ | refine awp_exit ?_ | refine awp_ret ?_); try simp only [thenA, inBlockA, reduceIte, reduceCtorEq, Nat.reduceEqDiff, if_false, if_true])
      | ((first | refine hK _ ?_ | (clear hK K; first | refine hK _ ?_ | (clear hK K; first | refine hK _ ?_ | (clear hK K; first | refine hK _ ?_ | (clear hK K; refine hK _ ?_))))); clear hK K)
      | refine awp_true rfl rfl ?_
      | refine awp_false rfl rfl ?_
      | refine awp_block ?_
      | ((first | refine CallK.pure (enter87) (one_tri g c hc) ?_ ?_ | refine CallD.pure (enter87) (one_tri g c hc) ?_ ?_); (focus first | ((repeat (first | exact trivial | refine ⟨(by first | exact Or.inl rfl | exact Or.inr rfl), ?_⟩)); done) | (simp only [coL, AV.dat, true_or, or_true, AV.d.injEq, go_sem]; done)); simp only [go_sem, ho2, bne_self_eq_false])
      | ((first | refine CallK.pure (enter88) (neat_tri c (small_own ho2)) ?_ ?_ | refine CallD.pure (enter88) (neat_tri c (small_own ho2)) ?_ ?_); (focus first | ((repeat (first | exact trivial | refine ⟨(by first | exact Or.inl rfl | exact Or.inr rfl), ?_⟩)); done) | (simp only [coL, AV.dat, true_or, or_true, AV.d.injEq, go_sem]; done)); simp only [go_sem, ho2, bne_self_eq_false])
      | refine And.intro (by first | omega | exact trivial | rfl | assumption | (apply map_sz; intro a; simp only [go_sem]; done) | ((and_intros <;> first | omega | exact trivial | rfl | assumption | (apply map_sz; intro a; simp only [go_sem]; done) | fail); done) | fail) ?_
      | fail)
    rw [ha]
    first | refine ret_pure (by simp only [Try.results29, resOkL, resOk, Try.ntmps29, List.toList_toArray]; first | decide | (simp only [go_sem]; done) | (simp only [go_sem]; and_intros <;> first | omega | rfl | decide)) ?_ (by repeat (first | exact Fr.rfl' _ _ | assumption | refine Fr.updk ?_ (by omega) _)) | refine ret_ro (by simp only [Try.results29, resOkL, resOk, Try.ntmps29, List.toList_toArray]; first | decide | (simp only [go_sem]; done) | (simp only [go_sem]; and_intros <;> first | omega | rfl | decide)) ?_ (by repeat (first | exact Fr.rfl' _ _ | assumption | refine Fr.updk ?_ (by omega) _))
    simp only [resA, resV, Try.results29, go_sem]
    all_goals try (first | exact Co.t2 (.dat rfl) (.dat rfl) | exact Co.t3 (.dat rfl) (.dat rfl) (.dat rfl))
end Go.Proofs.Ytmeekpinkfpnhaa
