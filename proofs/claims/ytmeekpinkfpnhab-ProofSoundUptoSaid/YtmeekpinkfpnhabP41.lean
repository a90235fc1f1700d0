/- The law ProofSound: its walk. FRSTH -/
import Derived.Test.YtmeekpinkfpnhabP16
import Derived.Test.YtmeekpinkfpnhabP37
import Derived.Test.YtmeekpinkfpnhabP40
set_option linter.unusedSimpArgs false
set_option linter.unusedSectionVars false
set_option linter.unusedVariables false
set_option linter.unnecessarySimpa false
set_option linter.all false
namespace Go.Proofs.Ytmeekpinkfpnhab
open Go.RowKit
theorem hld_true {g : List Int} {sz : Int} {tb : List (List Int)} {c : List Lt} (h : hldAns g sz tb c = (true, 0)) : mdOk g sz tb = 0 ∧ HoldsA sz tb c := by
  obtain ⟨h1, _, _, h2⟩ := hldAns_ok (g := g) (sz := sz) (tb := tb) (c := c) (by rw [h])
  rw [h] at h2
  obtain ⟨_, m1, m3, _⟩ := mdOk_all h1
  exact ⟨h1, (holds_iff m1 m3).1 (by have := (Prod.mk.inj h2).1; exact this.symm)⟩
theorem hld_of {g : List Int} {sz : Int} {tb : List (List Int)} {c : List Lt} (h : (hldAns g sz tb c).2 = 0) (hh : HoldsA sz tb c) : (hldAns g sz tb c).1 = true := by
  obtain ⟨h1, _, _, h2⟩ := hldAns_ok h
  obtain ⟨_, m1, m3, _⟩ := mdOk_all h1
  rw [h2]; exact (holds_iff m1 m3).2 hh
theorem holds_nil {g : List Int} {sz : Int} {tb : List (List Int)} (hm : mdOk g sz tb = 0) (h : HoldsA sz tb []) : False := by
  obtain ⟨_, m1, _, _⟩ := mdOk_all hm
  obtain ⟨l, hl, _⟩ := h (fun _ => 0) fun _ => by simp only; omega
  cases hl
theorem sound_last {g : List Int} {f : List (List Lt) → Inf → List Lt × Int} (hf : RawSpec g f) {l : List (List Lt)} {p : List Inf} {sz : Int} {tb : List (List Int)} (hpl : ∀ i ∈ p, i.place.length ≤ 4000000) (h0 : (pfAns g f l p).2 = 0) (hh : ∀ c ∈ l, hldAns g sz tb c = (true, 0)) :
    (∀ c ∈ (pfAns g f l p).1, (hldAns g sz tb c).2 = 0 → (hldAns g sz tb c).1 = true) ∧ (decide ((p.length : Int) > 0) && decide (((pfAns g f l p).1.getLastD []).length = 0)) = false := by
  obtain ⟨_, k2, k3, _, k5, k6⟩ := (pfAns_ok g f hf l p hpl).2 h0
  generalize (pfAns g f l p).1 = A at *
  cases l with
  | nil =>
    have hp : p = [] := Classical.byContradiction fun h => k5 h rfl
    subst hp
    obtain rfl : A = [] := List.eq_nil_of_length_eq_zero k3
    exact ⟨fun c hc => (by cases hc), rfl⟩
  | cons c0 l =>
    have hm := (hld_true (hh c0 (by simp))).1
    have hA := k6 sz tb hm fun c hc => (hld_true (hh c hc)).2
    refine ⟨fun c hc h => hld_of h (hA c hc), ?_⟩
    cases hp : decide ((p.length : Int) > 0) with
    | false => rfl
    | true =>
      rw [Bool.true_and, decide_eq_false_iff_not]
      intro hz
      have hpos : 0 < A.length := by simp at hp; omega
      have hmem : A.getLastD [] ∈ A := by
        rw [List.getLastD_eq_getLast?, List.getLast?_eq_getElem?, List.getElem?_eq_getElem (show A.length - 1 < A.length by omega)]
        exact List.getElem_mem _
      have := hA _ hmem
      rw [List.eq_nil_of_length_eq_zero hz] at this
      exact holds_nil hm this
set_option maxHeartbeats 8000000 in
set_option maxRecDepth 20000 in
theorem proofSound_tri (g : List Int) (l : List (List Lt)) (p : List Inf) (sz : Int) (tb : List (List Int)) (hl : l.length ≤ 4000000) (hc : ∀ c ∈ l, c.length ≤ 4000000) (hp : p.length ≤ 4000000) (hpl : ∀ i ∈ p, i.place.length ≤ 4000000) (htl : tb.length ≤ 4000000) (htr : ∀ r ∈ tb, r.length ≤ 4000000) :
    Tri Try.prog 6 [.d (sgDV g), .d (.sl (l.map clDV)), .d (.sl (p.map ifDV)), .d (mdDV sz tb)] (pure' (bA true)) := by
  obtain ⟨f, hf⟩ := raw_fun g
  have v1 := clauses_tri g f hf l p hl hc hp hpl
  have v2 := check_tri g f hf l p hl hc hp hpl
  have hS := sound_last hf (l := l) (sz := sz) (tb := tb) hpl
  have hO := (pfAns_ok g f hf l p hpl).2
  unfold chkAns at v2
  generalize pfAns g f l p = B at *
  cases b1 : (B.2 != 0) with
  | true =>
    rw [b1, if_pos rfl] at v2
    refine tri_enter Try.func6 rfl Try.ntmps6 (by simp only [List.length_cons, List.length_nil]; omega) fun w0 h0 k hrd hwr => ?_
    repeat' (first | refine awp_seq_k fun K hK => ?_ | ((first | refine aK fun R hR => ?_ | refine aD mixed fun R hR => ?_); simp only [go_sem, b1, beq_self_eq_true]) | ((first | (refine hR _ ?_; clear hR R) | refine awp_skip ?_ | refine awp_exit ?_ | refine awp_ret ?_); try refine aP ?_) | ((repeat (fail_if_success refine hK _ ?_); clear hK K); refine hK _ ?_; clear hK K) | refine aT ?_ | refine aF ?_ | refine awp_block ?_ | ((first | refine CallK.pure (enter23) (proofBegun_tri) ?_ ?_ | refine CallD.pure (enter23) (proofBegun_tri) ?_ ?_ | refine CallK.pure (enter24) (modelBegun_tri) ?_ ?_ | refine CallD.pure (enter24) (modelBegun_tri) ?_ ?_ | refine CallK.pure (enter25) (v1) ?_ ?_ | refine CallD.pure (enter25) (v1) ?_ ?_ | refine CallK.pure (enter26) (v2) ?_ ?_ | refine CallD.pure (enter26) (v2) ?_ ?_); (focus exact aC); simp only [go_sem, b1, beq_self_eq_true]) | refine aN ?_ | fail)
    (first | refine ret_pure ?_ ?_ ?_ | refine ret_ro ?_ ?_ ?_); focus exact (okA Try.ntmps6 Try.results6)
    rotate_left; focus exact frT
    simp only [resA, resV, Try.results6, go_sem]
    all_goals try exact coA
    all_goals exact .dat rfl
  | false =>
    rw [b1, if_neg (by decide)] at v2
    have b2 : B.2 = 0 := by simpa using b1
    replace hS := hS b2
    obtain ⟨_, k2, k3, k4, _⟩ := hO b2
    rw [b2] at v1
    have hHA := fun i (hi : i < B.1.length) => mdHolds_tri g sz tb B.1[i] htl htr (by have := (clOk_all (k2 _ (List.getElem_mem hi))).1; omega)
    have hHl := fun i (hi : i < l.length) => mdHolds_tri g sz tb l[i] htl htr (hc _ (List.getElem_mem hi))
    have hAl : B.1.length ≤ 60 := by omega
    clear hO b1 k2 k3 b2
    generalize (decide ((p.length : Int) > 0) && decide ((B.1.getLastD []).length = 0)) = D at *
    generalize B.1 = A at *
    refine tri_enter Try.func6 rfl Try.ntmps6 (by simp only [List.length_cons, List.length_nil]; omega) fun w0 h0 k hrd hwr => ?_
    repeat' (first | refine awp_seq_k fun K hK => ?_ | ((first | refine aK fun R hR => ?_ | refine aD mixed fun R hR => ?_); simp only [go_sem, bne_self_eq_false]) | ((first | (refine hR _ ?_; clear hR R) | refine awp_skip ?_ | refine awp_exit ?_ | refine awp_ret ?_); try refine aP ?_) | ((repeat (fail_if_success refine hK _ ?_); clear hK K); refine hK _ ?_; clear hK K) | refine aT ?_ | refine aF ?_ | refine awp_block ?_ | ((first | refine CallK.pure (enter23) (proofBegun_tri) ?_ ?_ | refine CallD.pure (enter23) (proofBegun_tri) ?_ ?_ | refine CallK.pure (enter24) (modelBegun_tri) ?_ ?_ | refine CallD.pure (enter24) (modelBegun_tri) ?_ ?_ | refine CallK.pure (enter25) (v1) ?_ ?_ | refine CallD.pure (enter25) (v1) ?_ ?_ | refine CallK.pure (enter26) (v2) ?_ ?_ | refine CallD.pure (enter26) (v2) ?_ ?_); (focus exact aC); simp only [go_sem, bne_self_eq_false]) | refine aN ?_ | fail)
    refine awp_loop (fun τ => ∃ j : Nat, τ.t 1 = .d (.sl (l.map clDV)) ∧ τ.t 4 = .ptr (k, 0) 0 ∧ τ.t 7 = .ptr (k, 1) 0 ∧ τ.t 9 = .d (.sl (A.map clDV)) ∧ τ.t 11 = bA D ∧ τ.t 13 = iA j ∧ τ.h (k, 0) = some (.cells 24 [.d (.sl (g.map iD))]) ∧ τ.h (k, 1) = some (.cells 54 [iA sz, .d (.sl (tb.map gI))]) ∧ Fr k h0 τ.h ∧ k < τ.k ∧ j ≤ l.length ∧
      (∀ i (hi : i < l.length), i < j → hldAns g sz tb l[i] = (true, 0))) (fun τ => l.length - (intOf' (τ.t 13)).toNat) ?_ ?_
    · refine ⟨0, ?_⟩
      simp only [go_sem, ]
      and_intros; all_goals try (first | rfl | omega | assumption | exact anA)
    · rintro τ ⟨j, u1, u4, u7, u9, u11, u13, hb0, hb1, uF, uk, uj, uv⟩
      have q0 := ltne uk
      rcases Nat.lt_or_ge j l.length with jlt | jge
      · have jz : (j : Int) < (l.length : Int) := by omega
        have e1 : (l.map clDV).getD j default = clDV l[j] := nth_map clDV jlt _
        have hH := hHl j jlt
        cases c1 : ((hldAns g sz tb l[j]).2 != 0) with
        | true =>
          generalize hldAns g sz tb l[j] = X at *
          repeat' (first | refine awp_seq_k fun K hK => ?_ | ((first | refine aK fun R hR => ?_ | refine aD mixed fun R hR => ?_); simp only [go_sem, u1, u4, u7, u9, u11, u13, hb0, hb1, jz, e1, q0, c1, List.length_map, Int.toNat_natCast]) | ((first | (refine hR _ ?_; clear hR R) | refine awp_skip ?_ | refine awp_exit ?_ | refine awp_ret ?_); try refine aP ?_) | ((repeat (fail_if_success refine hK _ ?_); clear hK K); refine hK _ ?_; clear hK K) | refine aT ?_ | refine aF ?_ | refine awp_block ?_ | ((first | refine CallK.pure (enter27) (hH) ?_ ?_ | refine CallD.pure (enter27) (hH) ?_ ?_); (focus exact aC); simp only [go_sem, u1, u4, u7, u9, u11, u13, hb0, hb1, jz, e1, q0, c1, List.length_map, Int.toNat_natCast]) | refine aN ?_ | fail)
          (first | refine ret_pure ?_ ?_ ?_ | refine ret_ro ?_ ?_ ?_); focus exact (okA Try.ntmps6 Try.results6)
          rotate_left; focus exact frT
          simp only [resA, resV, Try.results6, go_sem]
          all_goals try exact coA
          all_goals exact .dat rfl
        | false =>
          cases c2 : (hldAns g sz tb l[j]).1 with
          | false =>
            generalize hldAns g sz tb l[j] = X at *
            repeat' (first | refine awp_seq_k fun K hK => ?_ | ((first | refine aK fun R hR => ?_ | refine aD mixed fun R hR => ?_); simp only [go_sem, u1, u4, u7, u9, u11, u13, hb0, hb1, jz, e1, q0, c1, c2, List.length_map, Int.toNat_natCast]) | ((first | (refine hR _ ?_; clear hR R) | refine awp_skip ?_ | refine awp_exit ?_ | refine awp_ret ?_); try refine aP ?_) | ((repeat (fail_if_success refine hK _ ?_); clear hK K); refine hK _ ?_; clear hK K) | refine aT ?_ | refine aF ?_ | refine awp_block ?_ | ((first | refine CallK.pure (enter27) (hH) ?_ ?_ | refine CallD.pure (enter27) (hH) ?_ ?_); (focus exact aC); simp only [go_sem, u1, u4, u7, u9, u11, u13, hb0, hb1, jz, e1, q0, c1, c2, List.length_map, Int.toNat_natCast]) | refine aN ?_ | fail)
            (first | refine ret_pure ?_ ?_ ?_ | refine ret_ro ?_ ?_ ?_); focus exact (okA Try.ntmps6 Try.results6)
            rotate_left; focus exact frT
            simp only [resA, resV, Try.results6, go_sem]
            all_goals try exact coA
            all_goals exact .dat rfl
          | true =>
            have hnew : ∀ i (hi : i < l.length), i < j + 1 → hldAns g sz tb l[i] = (true, 0) := fun i hi h => by
              rcases Nat.lt_or_ge i j with h2 | h2
              · exact uv i hi h2
              · obtain rfl : i = j := by omega
                exact Prod.ext c2 (by simpa using c1)
            clear uv
            generalize hldAns g sz tb l[j] = X at hH c1 c2
            repeat' (first | refine awp_seq_k fun K hK => ?_ | ((first | refine aK fun R hR => ?_ | refine aD mixed fun R hR => ?_); simp only [go_sem, u1, u4, u7, u9, u11, u13, hb0, hb1, jz, e1, q0, c1, c2, List.length_map, Int.toNat_natCast]) | ((first | (refine hR _ ?_; clear hR R) | refine awp_skip ?_ | refine awp_exit ?_ | refine awp_ret ?_); try refine aP ?_) | ((repeat (fail_if_success refine hK _ ?_); clear hK K); refine hK _ ?_; clear hK K) | refine aT ?_ | refine aF ?_ | refine awp_block ?_ | ((first | refine CallK.pure (enter27) (hH) ?_ ?_ | refine CallD.pure (enter27) (hH) ?_ ?_); (focus exact aC); simp only [go_sem, u1, u4, u7, u9, u11, u13, hb0, hb1, jz, e1, q0, c1, c2, List.length_map, Int.toNat_natCast]) | refine aN ?_ | fail)
            refine ⟨⟨j + 1, ?_⟩, ?_⟩
            rotate_left
            · simp only [go_sem, u1, u4, u7, u9, u11, u13, hb0, hb1, q0]; omega
            simp only [go_sem, u1, u4, u7, u9, u11, u13, hb0, hb1, q0]
            and_intros; all_goals try (first | rfl | omega | assumption | exact anA)
      · have jz : ¬ ((j : Int) < (l.length : Int)) := by omega
        obtain ⟨hS1, hD⟩ := hS fun c hc => by
          obtain ⟨i, hi, rfl⟩ := List.getElem_of_mem hc
          exact uv i hi (by omega)
        subst hD
        repeat' (first | refine awp_seq_k fun K hK => ?_ | ((first | refine aK fun R hR => ?_ | refine aD mixed fun R hR => ?_); simp only [go_sem, u1, u4, u7, u9, u11, u13, hb0, hb1, jz, q0, List.length_map, Int.toNat_natCast]) | ((first | (refine hR _ ?_; clear hR R) | refine awp_skip ?_ | refine awp_exit ?_ | refine awp_ret ?_); try refine aP ?_) | ((repeat (fail_if_success refine hK _ ?_); clear hK K); refine hK _ ?_; clear hK K) | refine aT ?_ | refine aF ?_ | refine awp_block ?_ | refine aN ?_ | fail)
        refine awp_loop (fun σ => ∃ i : Nat, σ.t 4 = .ptr (k, 0) 0 ∧ σ.t 7 = .ptr (k, 1) 0 ∧ σ.t 9 = .d (.sl (A.map clDV)) ∧ σ.t 11 = bA false ∧ σ.t 16 = iA i ∧ σ.h (k, 0) = some (.cells 24 [.d (.sl (g.map iD))]) ∧ σ.h (k, 1) = some (.cells 54 [iA sz, .d (.sl (tb.map gI))]) ∧ Fr k h0 σ.h ∧ k < σ.k ∧ i ≤ A.length) (fun σ => A.length - (intOf' (σ.t 16)).toNat) ?_ ?_
        · refine ⟨0, ?_⟩
          simp only [go_sem, u4, u7, u9, u11, hb0, hb1, q0]
          and_intros; all_goals try (first | rfl | omega | assumption | exact anA)
        · rintro σ ⟨i, s4, s7, s9, s11, s16, sb0, sb1, sF, sk, si⟩
          have q2 := ltne sk
          rcases Nat.lt_or_ge i A.length with ilt | ige
          · have iz : (i : Int) < (A.length : Int) := by omega
            have e2 : (A.map clDV).getD i default = clDV A[i] := nth_map clDV ilt _
            have hH := hHA i ilt
            have hT := hS1 _ (List.getElem_mem ilt)
            generalize hldAns g sz tb A[i] = X at *
            cases c1 : (X.2 == 0) with
            | false =>
              repeat' (first | refine awp_seq_k fun K hK => ?_ | ((first | refine aK fun R hR => ?_ | refine aD mixed fun R hR => ?_); simp only [go_sem, s4, s7, s9, s11, s16, sb0, sb1, iz, e2, q2, c1, List.length_map, Int.toNat_natCast]) | ((first | (refine hR _ ?_; clear hR R) | refine awp_skip ?_ | refine awp_exit ?_ | refine awp_ret ?_); try refine aP ?_) | ((repeat (fail_if_success refine hK _ ?_); clear hK K); refine hK _ ?_; clear hK K) | refine aT ?_ | refine aF ?_ | refine awp_block ?_ | ((first | refine CallK.pure (enter27) (hH) ?_ ?_ | refine CallD.pure (enter27) (hH) ?_ ?_); (focus exact aC); simp only [go_sem, s4, s7, s9, s11, s16, sb0, sb1, iz, e2, q2, c1, List.length_map, Int.toNat_natCast]) | refine aN ?_ | fail)
              refine ⟨⟨i + 1, ?_⟩, ?_⟩
              rotate_left
              · simp only [go_sem, s4, s7, s9, s11, s16, sb0, sb1, q2]; omega
              simp only [go_sem, s4, s7, s9, s11, s16, sb0, sb1, q2]
              and_intros; all_goals try (first | rfl | omega | assumption | exact anA)
            | true =>
              have c2 : X.1 = true := hT (by simpa using c1)
              repeat' (first | refine awp_seq_k fun K hK => ?_ | ((first | refine aK fun R hR => ?_ | refine aD mixed fun R hR => ?_); simp only [go_sem, s4, s7, s9, s11, s16, sb0, sb1, iz, e2, q2, c1, c2, List.length_map, Int.toNat_natCast]) | ((first | (refine hR _ ?_; clear hR R) | refine awp_skip ?_ | refine awp_exit ?_ | refine awp_ret ?_); try refine aP ?_) | ((repeat (fail_if_success refine hK _ ?_); clear hK K); refine hK _ ?_; clear hK K) | refine aT ?_ | refine aF ?_ | refine awp_block ?_ | ((first | refine CallK.pure (enter27) (hH) ?_ ?_ | refine CallD.pure (enter27) (hH) ?_ ?_); (focus exact aC); simp only [go_sem, s4, s7, s9, s11, s16, sb0, sb1, iz, e2, q2, c1, c2, List.length_map, Int.toNat_natCast]) | refine aN ?_ | fail)
              refine ⟨⟨i + 1, ?_⟩, ?_⟩
              rotate_left
              · simp only [go_sem, s4, s7, s9, s11, s16, sb0, sb1, q2]; omega
              simp only [go_sem, s4, s7, s9, s11, s16, sb0, sb1, q2]
              and_intros; all_goals try (first | rfl | omega | assumption | exact anA)
          · have iz : ¬ ((i : Int) < (A.length : Int)) := by omega
            repeat' (first | refine awp_seq_k fun K hK => ?_ | ((first | refine aK fun R hR => ?_ | refine aD mixed fun R hR => ?_); simp only [go_sem, s4, s7, s9, s11, s16, sb0, sb1, iz, q2, List.length_map]) | ((first | (refine hR _ ?_; clear hR R) | refine awp_skip ?_ | refine awp_exit ?_ | refine awp_ret ?_); try refine aP ?_) | ((repeat (fail_if_success refine hK _ ?_); clear hK K); refine hK _ ?_; clear hK K) | refine aT ?_ | refine aF ?_ | refine awp_block ?_ | refine aN ?_ | fail)
            (first | refine ret_pure ?_ ?_ ?_ | refine ret_ro ?_ ?_ ?_); focus exact (by simp only [Try.results6, resOkL, resOk, Try.ntmps6, List.toList_toArray]; first | decide | (simp only [go_sem, s11]; done) | (simp only [go_sem, s11]; and_intros <;> first | omega | rfl | decide))
            rotate_left; focus exact frT
            simp only [resA, resV, Try.results6, go_sem, s11]
            all_goals try exact coA
            all_goals exact .dat rfl
theorem proofSound_law (g : List Int) (l : List (List Lt)) (p : List Inf) (m : Int × List (List Int)) (_ : True) (_ : True) (_ : True) (_ : True) (hb : (g.length + 1) + clsSize l + ((p.map Inf.size).sum + 1) + ((m.2.map fun r => r.length + 1).sum + 2) ≤ 1048576) :
    Tri Try.prog 6 [.d (sgDV g), .d (.sl (l.map clDV)), .d (.sl (p.map ifDV)), .d (mdDV m.1 m.2)] (pure' (bA true)) := by
  obtain ⟨h1, h2⟩ := cls_sizes (l := l) (b := 1048576) (by omega)
  obtain ⟨h3, h4⟩ := sum_mem Inf.size p fun _ => by unfold Inf.size; omega
  obtain ⟨h5, h6⟩ := sum_mem (fun r : List Int => r.length + 1) m.2 fun _ => by omega
  exact proofSound_tri g l p m.1 m.2 (by omega) (fun c hc => by have := h2 c hc; omega) (by omega) (fun i hi => by have h7 : i.place.length + 8 ≤ (p.map Inf.size).sum := h4 i hi; omega) (by omega) fun r hr => by have := h6 r hr; omega
end Go.Proofs.Ytmeekpinkfpnhab
