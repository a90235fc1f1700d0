/- superposeref.HoldsOf. The law ModelTells: what must be in any case. The law ModelTells: its walk, from its end on. -/
import Derived.Test.YtmeekpinkfpnhaaB11
set_option linter.unusedSimpArgs false
set_option linter.unusedSectionVars false
set_option linter.unusedVariables false
set_option linter.unnecessarySimpa false
set_option linter.all false
namespace Go.Proofs.Ytmeekpinkfpnhaa
open Go.RowKit
set_option linter.unusedSimpArgs false
set_option linter.unusedSectionVars false

theorem roAr {n : Nm} {vars : List Int} {k : Nat} {h : Heap} (hn : n.1 < k) (e : h n = some (.cells 3 (vars.map iA))) : RoOK k (arO n vars) h := ⟨fun x hx => by
  simp only [arO, List.mem_cons, List.not_mem_nil, or_false] at hx; subst hx; exact ⟨hn, e⟩⟩
theorem byL_set {vars : List Int} {x d v : Int} (hx : 1 ≤ x) (hx2 : x ≤ vars.length) (hv : 1 ≤ v) : byL (vars.set (x - 1).toNat d) v = if v = x then d else byL vars v := by
  unfold byL
  rw [List.getD_eq_getElem?_getD, List.getD_eq_getElem?_getD, List.getElem?_set]
  by_cases h : v = x
  · subst h
    rw [if_pos rfl, if_pos rfl, if_pos (by omega)]; rfl
  · rw [if_neg h, if_neg (by omega)]
theorem step_A {names : List Int} (hnd : names.Nodup) {i : Nat} (hi : i < names.length) {sz ni n : Int} {vars : List Int} (hl : vars.length = 1000) (hin : ∀ v ∈ names, 1 ≤ v ∧ v ≤ 1000) (uI : ∀ v ∈ names.take i, byL vars v = dig sz names n v) (uD : ∀ v ∈ names.drop i, dig sz (names.drop i) ni v = dig sz names n v) :
    ∀ v ∈ names.take (i + 1), byL (vars.set (names[i] - 1).toNat (ni.tmod sz)) v = dig sz names n v := by
  intro v hv
  have h1 := hin names[i] (List.getElem_mem hi)
  have h2 := hin v (List.mem_of_mem_take hv)
  rw [byL_set h1.1 (by omega) h2.1]
  rw [List.take_succ_eq_append_getElem hi, List.mem_append] at hv
  rcases hv with hv | hv
  · rw [if_neg ((nd_at hnd hi).1 v hv)]; exact uI v hv
  · simp at hv
    subst hv
    rw [if_pos rfl]
    have := uD names[i] (by rw [List.drop_eq_getElem_cons hi]; exact List.mem_cons_self ..)
    rw [List.drop_eq_getElem_cons hi, dig, if_pos rfl] at this
    exact this
set_option maxHeartbeats 4000000 in
set_option maxRecDepth 20000 in
theorem holdsOf_tri {g : List Int} {sz : Int} {tb : List (List Int)} {c : List Lt} (hm2 : mdOk g sz tb = 0) (hc8 : c.length ≤ 8) (hc : ∀ l ∈ c, own g l.a = 0 ∧ own g l.b = 0) (h8 : (firstVars (termsOf c)).length ≤ 8) :
    Tri Try.prog 26 [.d (mdDV sz tb), .d (clDV c)] (pure' (bA (holdsC sz tb c))) := by
  have hts := termsOf_size hc
  have hfv := firstVars_tri (termsOf c) (by omega)
  have hin := names_in hc
  have hnd : (firstVars (termsOf c)).Nodup := addVs_nodup List.nodup_nil
  have hC : ∀ N : Nat, N = (sz ^ (firstVars (termsOf c)).length).toNat → holdsC sz tb c = holdsF sz tb c (firstVars (termsOf c)) N 0 := fun N h => by rw [h]; rfl
  have hfine := fun (n : Int) (hn : 0 ≤ n) (l : Lt) (hl : l ∈ c) => fine_lit (mdOk_all hm2).2.1 hn hc hl
  generalize hnames : firstVars (termsOf c) = names at *
  obtain ⟨m1, m2, m3, _⟩ := mdOk_all hm2
  have pw := powerOf_tri (n := sz) (by omega) (by omega) (j := names.length) (by omega)
  obtain ⟨p1, p2⟩ := pw_le (n := sz) (by omega) (by omega) (i := names.length) (by omega)
  obtain ⟨N, hN⟩ : ∃ N : Nat, sz ^ names.length = (N : Int) := ⟨(sz ^ names.length).toNat, by omega⟩
  rw [hN] at pw p1 p2
  have hC := hC N (by rw [hN]; rfl)
  refine tri_enter Try.func26 rfl Try.ntmps26 (by simp only [List.length_cons, List.length_nil]; omega) fun w0 h0 k hrd hwr => ?_
  repeat' (first
    | refine awp_seq_k fun K hK => ?_
    | (refine awp_region_k (by kernel_rfl) fun R hR => ?_; simp only [go_sem, List.flatten_replicate_singleton])
    | (refine awp_draw mixed (by kernel_rfl) (by kernel_rfl) fun R hR => ?_; simp only [go_sem, List.flatten_replicate_singleton])
    | (refine hR _ ?_; clear hR R; try simp only [thenA, inBlockA, reduceIte, reduceCtorEq, Nat.reduceEqDiff, if_false, if_true])
    | (refine hK _ ?_; clear hK K)
    | (clear hK K; refine hK _ ?_; clear hK K)
    | (clear hK K; clear hK K; refine hK _ ?_; clear hK K)
    | (clear hK K; clear hK K; clear hK K; refine hK _ ?_; clear hK K)
    | (clear hK K; clear hK K; clear hK K; clear hK K; refine hK _ ?_; clear hK K)
    | refine awp_true rfl rfl ?_
    | refine awp_false rfl rfl ?_
    | (refine awp_cond rfl rfl (fun hc => ?_) (fun hc => ?_) <;> (try simp only [go_sem, List.flatten_replicate_singleton] at hc) <;> (try (exfalso; omega)))
    | refine awp_block ?_
    | (refine awp_skip ?_; try simp only [thenA, inBlockA, reduceIte, reduceCtorEq, Nat.reduceEqDiff, if_false, if_true])
    | (refine awp_exit ?_; try simp only [thenA, inBlockA, reduceIte, reduceCtorEq, Nat.reduceEqDiff, if_false, if_true])
    | (refine awp_ret ?_; try simp only [thenA, inBlockA, reduceIte, reduceCtorEq, Nat.reduceEqDiff, if_false, if_true])
    | (refine runL_split ?_ (fun hc => ?_) (fun hc => ?_); (simp only [go_sem, List.flatten_replicate_singleton]; exact rfl); all_goals (try simp only [go_sem, hc, List.flatten_replicate_singleton]); all_goals (try simp only [go_sem, List.flatten_replicate_singleton] at hc); all_goals (try (exfalso; omega)))
    | (refine runD_split ?_ (fun hc => ?_) (fun hc => ?_); (simp only [go_sem, List.flatten_replicate_singleton]; exact rfl); all_goals (try simp only [go_sem, hc, List.flatten_replicate_singleton]); all_goals (try simp only [go_sem, List.flatten_replicate_singleton] at hc); all_goals (try (exfalso; omega)))
    | (first | (refine CallK.pure (enter25) (termsOf_tri c (by omega)) ?_ ?_; (focus first | ((repeat (first | exact trivial | refine ⟨(by first | exact Or.inl rfl | exact Or.inr rfl), ?_⟩)); done) | (simp only [coL, AV.dat, true_or, or_true, AV.d.injEq, go_sem]; done)); simp only [go_sem, List.flatten_replicate_singleton]) | (refine CallD.pure (enter25) (termsOf_tri c (by omega)) ?_ ?_; (focus first | ((repeat (first | exact trivial | refine ⟨(by first | exact Or.inl rfl | exact Or.inr rfl), ?_⟩)); done) | (simp only [coL, AV.dat, true_or, or_true, AV.d.injEq, go_sem]; done)); simp only [go_sem, List.flatten_replicate_singleton]))
    | (first | (refine CallK.pure (enter22) (hfv) ?_ ?_; (focus first | ((repeat (first | exact trivial | refine ⟨(by first | exact Or.inl rfl | exact Or.inr rfl), ?_⟩)); done) | (simp only [coL, AV.dat, true_or, or_true, AV.d.injEq, go_sem]; done)); simp only [go_sem, List.flatten_replicate_singleton]) | (refine CallD.pure (enter22) (hfv) ?_ ?_; (focus first | ((repeat (first | exact trivial | refine ⟨(by first | exact Or.inl rfl | exact Or.inr rfl), ?_⟩)); done) | (simp only [coL, AV.dat, true_or, or_true, AV.d.injEq, go_sem]; done)); simp only [go_sem, List.flatten_replicate_singleton]))
    | refine And.intro (by first | omega | exact trivial | rfl | assumption | (apply map_sz; intro a; simp only [go_sem]; done) | ((and_intros <;> first | omega | exact trivial | rfl | assumption | (apply map_sz; intro a; simp only [go_sem]; done) | fail); done) | fail) ?_
    | fail)
  refine awp_loop (fun σ => ∃ (n : Nat) (vars : List Int), σ.t 1 = .d (clDV c) ∧ σ.t 2 = .ptr (k, 0) 0 ∧ σ.t 5 = .d (.sl (names.map iD)) ∧ σ.t 6 = .arr (k + 1 + 1, 0) 0 1000 ∧ σ.t 7 = iA n ∧ vars.length = 1000 ∧ σ.h (k, 0) = some (.cells 39 [iA sz, .d (.sl (tb.map gI))]) ∧ σ.h (k + 1 + 1, 0) = some (.cells 3 (vars.map iA)) ∧ Fr k h0 σ.h ∧ k + 1 + 1 < σ.k ∧ n ≤ N ∧ holdsF sz tb c names N n = holdsC sz tb c) (fun σ => N - (intOf' (σ.t 7)).toNat) ?_ ?_
  · refine ⟨0, List.replicate 1000 0, ?_⟩
    simp only [go_sem, List.map_replicate, List.length_replicate]
    and_intros; all_goals try (first | rfl | omega | assumption | ((repeat (first | exact Fr.rfl' _ _ | assumption | refine Fr.updk ?_ (by omega) _)); done))
    all_goals first | exact hC.symm | trace_state
  · rintro σ ⟨n, vars, s1, s2, s5, s6, s7, hvl, sh, sa, hF, hk, hn, hv⟩
    have hne := ltne (show k < σ.k by omega)
    have hne2 := ltne hk
    have s7' := s7
    rcases Nat.lt_or_ge n N with hlt | hge
    · have hz : (n : Int) < (N : Int) := by omega
      rw [holdsF_at hlt] at hv
      repeat' (first
        | refine awp_seq_k fun K hK => ?_
        | (refine awp_region_k (by kernel_rfl) fun R hR => ?_; simp only [go_sem, s1, s2, s5, s6, s7, sh, hz, hne])
        | (refine awp_draw mixed (by kernel_rfl) (by kernel_rfl) fun R hR => ?_; simp only [go_sem, s1, s2, s5, s6, s7, sh, hz, hne])
        | (refine hR _ ?_; clear hR R; try simp only [thenA, inBlockA, reduceIte, reduceCtorEq, Nat.reduceEqDiff, if_false, if_true])
        | (refine hK _ ?_; clear hK K)
        | (clear hK K; refine hK _ ?_; clear hK K)
        | (clear hK K; clear hK K; refine hK _ ?_; clear hK K)
        | (clear hK K; clear hK K; clear hK K; refine hK _ ?_; clear hK K)
        | (clear hK K; clear hK K; clear hK K; clear hK K; refine hK _ ?_; clear hK K)
        | refine awp_true rfl rfl ?_
        | refine awp_false rfl rfl ?_
        | (refine awp_cond rfl rfl (fun hc => ?_) (fun hc => ?_) <;> (try simp only [go_sem, s1, s2, s5, s6, s7, sh, hz, hne] at hc) <;> (try (exfalso; omega)))
        | refine awp_block ?_
        | (refine awp_skip ?_; try simp only [thenA, inBlockA, reduceIte, reduceCtorEq, Nat.reduceEqDiff, if_false, if_true])
        | (refine awp_exit ?_; try simp only [thenA, inBlockA, reduceIte, reduceCtorEq, Nat.reduceEqDiff, if_false, if_true])
        | (refine awp_ret ?_; try simp only [thenA, inBlockA, reduceIte, reduceCtorEq, Nat.reduceEqDiff, if_false, if_true])
        | (refine runL_split ?_ (fun hc => ?_) (fun hc => ?_); (simp only [go_sem, s1, s2, s5, s6, s7, sh, hz, hne]; exact rfl); all_goals (try simp only [go_sem, hc, s1, s2, s5, s6, s7, sh, hz, hne]); all_goals (try simp only [go_sem, s1, s2, s5, s6, s7, sh, hz, hne] at hc); all_goals (try (exfalso; omega)))
        | (refine runD_split ?_ (fun hc => ?_) (fun hc => ?_); (simp only [go_sem, s1, s2, s5, s6, s7, sh, hz, hne]; exact rfl); all_goals (try simp only [go_sem, hc, s1, s2, s5, s6, s7, sh, hz, hne]); all_goals (try simp only [go_sem, s1, s2, s5, s6, s7, sh, hz, hne] at hc); all_goals (try (exfalso; omega)))
        | (first | (refine CallK.pure (enter81) (pw) ?_ ?_; (focus first | ((repeat (first | exact trivial | refine ⟨(by first | exact Or.inl rfl | exact Or.inr rfl), ?_⟩)); done) | (simp only [coL, AV.dat, true_or, or_true, AV.d.injEq, go_sem]; done)); simp only [go_sem, s1, s2, s5, s6, s7, sh, hz, hne]) | (refine CallD.pure (enter81) (pw) ?_ ?_; (focus first | ((repeat (first | exact trivial | refine ⟨(by first | exact Or.inl rfl | exact Or.inr rfl), ?_⟩)); done) | (simp only [coL, AV.dat, true_or, or_true, AV.d.injEq, go_sem]; done)); simp only [go_sem, s1, s2, s5, s6, s7, sh, hz, hne]))
        | refine And.intro (by first | omega | exact trivial | rfl | assumption | (apply map_sz; intro a; simp only [go_sem]; done) | ((and_intros <;> first | omega | exact trivial | rfl | assumption | (apply map_sz; intro a; simp only [go_sem]; done) | fail); done) | fail) ?_
        | fail)
      refine awp_loop (fun τ => ∃ (i : Nat) (ni : Int) (vars : List Int), τ.t 1 = .d (clDV c) ∧ τ.t 2 = .ptr (k, 0) 0 ∧ τ.t 5 = .d (.sl (names.map iD)) ∧ τ.t 6 = .arr (k + 1 + 1, 0) 0 1000 ∧ τ.t 7 = iA n ∧ τ.t 8 = iA ni ∧ τ.t 9 = iA i ∧ vars.length = 1000 ∧ τ.h (k, 0) = some (.cells 39 [iA sz, .d (.sl (tb.map gI))]) ∧ τ.h (k + 1 + 1, 0) = some (.cells 3 (vars.map iA)) ∧ Fr k h0 τ.h ∧ k + 1 + 1 < τ.k ∧ i ≤ names.length ∧ 0 ≤ ni ∧ ni ≤ n ∧
        (∀ v ∈ names.take i, byL vars v = dig sz names n v) ∧ (∀ v ∈ names.drop i, dig sz (names.drop i) ni v = dig sz names n v)) (fun τ => names.length - (intOf' (τ.t 9)).toNat) ?_ ?_
      · refine ⟨0, n, vars, ?_⟩
        simp only [go_sem, s1, s2, s5, s6, s7, sh, sa, hne, hne2, List.drop_zero, List.take_zero]
        and_intros; all_goals try (first | rfl | omega | assumption | ((repeat (first | exact Fr.rfl' _ _ | assumption | refine Fr.updk ?_ (by omega) _)); done))
      · rintro τ ⟨i, ni, vars, u1, u2, u5, u6, u7, u8, u9, uvl, uh, ua, uF, uk, ui, u0, un, uI, uD⟩
        have hne' := ltne (show k < τ.k by omega)
        have hne2' := ltne uk
        rcases Nat.lt_or_ge i names.length with hlt' | hge'
        · have hz' : (i : Int) < (names.length : Int) := by omega
          have e1 : (names.map iD).getD i default = iD names[i] := nth_map iD hlt' _
          have hszne : ¬ (sz = 0) := by omega
          obtain ⟨d1, d2⟩ := tdiv_in u0 m2
          obtain ⟨b1, b2⟩ := hin _ (List.getElem_mem hlt')
          have hset : ∀ d : Int, (vars.map iA).set (names[i] - 1).toNat (iA d) = (vars.set (names[i] - 1).toNat d).map iA := fun d => by rw [List.map_set]
          have hz2 : names[i] - 1 < 1000 := by omega
          repeat' (first
            | refine awp_seq_k fun K hK => ?_
            | (refine awp_region_k (by kernel_rfl) fun R hR => ?_; simp only [go_sem, u1, u2, u5, u6, u7, u8, u9, uh, ua, hz', hz2, e1, hne', hne2', hszne, uvl, Int.toNat_natCast, List.length_map, Nat.mul_one])
            | (refine awp_draw mixed (by kernel_rfl) (by kernel_rfl) fun R hR => ?_; simp only [go_sem, u1, u2, u5, u6, u7, u8, u9, uh, ua, hz', hz2, e1, hne', hne2', hszne, uvl, Int.toNat_natCast, List.length_map, Nat.mul_one])
            | (refine hR _ ?_; clear hR R; try simp only [thenA, inBlockA, reduceIte, reduceCtorEq, Nat.reduceEqDiff, if_false, if_true])
            | (refine hK _ ?_; clear hK K)
            | (clear hK K; refine hK _ ?_; clear hK K)
            | (clear hK K; clear hK K; refine hK _ ?_; clear hK K)
            | (clear hK K; clear hK K; clear hK K; refine hK _ ?_; clear hK K)
            | (clear hK K; clear hK K; clear hK K; clear hK K; refine hK _ ?_; clear hK K)
            | refine awp_true rfl rfl ?_
            | refine awp_false rfl rfl ?_
            | (refine awp_cond rfl rfl (fun hc => ?_) (fun hc => ?_) <;> (try simp only [go_sem, u1, u2, u5, u6, u7, u8, u9, uh, ua, hz', hz2, e1, hne', hne2', hszne, uvl, Int.toNat_natCast, List.length_map, Nat.mul_one] at hc) <;> (try (exfalso; omega)))
            | refine awp_block ?_
            | (refine awp_skip ?_; try simp only [thenA, inBlockA, reduceIte, reduceCtorEq, Nat.reduceEqDiff, if_false, if_true])
            | (refine awp_exit ?_; try simp only [thenA, inBlockA, reduceIte, reduceCtorEq, Nat.reduceEqDiff, if_false, if_true])
            | (refine awp_ret ?_; try simp only [thenA, inBlockA, reduceIte, reduceCtorEq, Nat.reduceEqDiff, if_false, if_true])
            | (refine runL_split ?_ (fun hc => ?_) (fun hc => ?_); (simp only [go_sem, u1, u2, u5, u6, u7, u8, u9, uh, ua, hz', hz2, e1, hne', hne2', hszne, uvl, Int.toNat_natCast, List.length_map, Nat.mul_one]; exact rfl); all_goals (try simp only [go_sem, hc, u1, u2, u5, u6, u7, u8, u9, uh, ua, hz', hz2, e1, hne', hne2', hszne, uvl, Int.toNat_natCast, List.length_map, Nat.mul_one]); all_goals (try simp only [go_sem, u1, u2, u5, u6, u7, u8, u9, uh, ua, hz', hz2, e1, hne', hne2', hszne, uvl, Int.toNat_natCast, List.length_map, Nat.mul_one] at hc); all_goals (try (exfalso; omega)))
            | (refine runD_split ?_ (fun hc => ?_) (fun hc => ?_); (simp only [go_sem, u1, u2, u5, u6, u7, u8, u9, uh, ua, hz', hz2, e1, hne', hne2', hszne, uvl, Int.toNat_natCast, List.length_map, Nat.mul_one]; exact rfl); all_goals (try simp only [go_sem, hc, u1, u2, u5, u6, u7, u8, u9, uh, ua, hz', hz2, e1, hne', hne2', hszne, uvl, Int.toNat_natCast, List.length_map, Nat.mul_one]); all_goals (try simp only [go_sem, u1, u2, u5, u6, u7, u8, u9, uh, ua, hz', hz2, e1, hne', hne2', hszne, uvl, Int.toNat_natCast, List.length_map, Nat.mul_one] at hc); all_goals (try (exfalso; omega)))
            | refine And.intro (by first | omega | exact trivial | rfl | assumption | (apply map_sz; intro a; simp only [go_sem]; done) | ((and_intros <;> first | omega | exact trivial | rfl | assumption | (apply map_sz; intro a; simp only [go_sem]; done) | fail); done) | fail) ?_
            | fail)
          refine ⟨⟨i + 1, ni.tdiv sz, vars.set (names[i] - 1).toNat (ni.tmod sz), ?_⟩, ?_⟩
          rotate_left
          · simp only [go_sem, u1, u2, u5, u6, u7, u8, u9, uh, ua, hne', hne2', hset, List.length_set, uvl]; omega
          simp only [go_sem, u1, u2, u5, u6, u7, u8, u9, uh, ua, hne', hne2', hset, List.length_set, uvl]
          and_intros; all_goals try (first | rfl | omega | assumption | ((repeat (first | exact Fr.rfl' _ _ | assumption | refine Fr.updk ?_ (by omega) _)); done))
          · exact step_A hnd hlt' uvl hin uI uD
          · exact step_D hnd hlt' uD
        · have hz' : ¬ ((i : Int) < (names.length : Int)) := by omega
          obtain rfl : i = names.length := by omega
          rw [List.take_length] at uI
          clear uD un u0 ui s1 s2 s5 s6 s7 sh sa hvl
          repeat' (first
            | refine awp_seq_k fun K hK => ?_
            | (refine awp_region_k (by kernel_rfl) fun R hR => ?_; simp only [go_sem, u1, u2, u5, u6, u7, u8, u9, uh, ua, hz', hne', hne2'])
            | (refine awp_draw mixed (by kernel_rfl) (by kernel_rfl) fun R hR => ?_; simp only [go_sem, u1, u2, u5, u6, u7, u8, u9, uh, ua, hz', hne', hne2'])
            | (refine hR _ ?_; clear hR R; try simp only [thenA, inBlockA, reduceIte, reduceCtorEq, Nat.reduceEqDiff, if_false, if_true])
            | (refine hK _ ?_; clear hK K)
            | (clear hK K; refine hK _ ?_; clear hK K)
            | (clear hK K; clear hK K; refine hK _ ?_; clear hK K)
            | (clear hK K; clear hK K; clear hK K; refine hK _ ?_; clear hK K)
            | (clear hK K; clear hK K; clear hK K; clear hK K; refine hK _ ?_; clear hK K)
            | refine awp_true rfl rfl ?_
            | refine awp_false rfl rfl ?_
            | (refine awp_cond rfl rfl (fun hc => ?_) (fun hc => ?_) <;> (try simp only [go_sem, u1, u2, u5, u6, u7, u8, u9, uh, ua, hz', hne', hne2'] at hc) <;> (try (exfalso; omega)))
            | refine awp_block ?_
            | (refine awp_skip ?_; try simp only [thenA, inBlockA, reduceIte, reduceCtorEq, Nat.reduceEqDiff, if_false, if_true])
            | (refine awp_exit ?_; try simp only [thenA, inBlockA, reduceIte, reduceCtorEq, Nat.reduceEqDiff, if_false, if_true])
            | (refine awp_ret ?_; try simp only [thenA, inBlockA, reduceIte, reduceCtorEq, Nat.reduceEqDiff, if_false, if_true])
            | (refine runL_split ?_ (fun hc => ?_) (fun hc => ?_); (simp only [go_sem, u1, u2, u5, u6, u7, u8, u9, uh, ua, hz', hne', hne2']; exact rfl); all_goals (try simp only [go_sem, hc, u1, u2, u5, u6, u7, u8, u9, uh, ua, hz', hne', hne2']); all_goals (try simp only [go_sem, u1, u2, u5, u6, u7, u8, u9, uh, ua, hz', hne', hne2'] at hc); all_goals (try (exfalso; omega)))
            | (refine runD_split ?_ (fun hc => ?_) (fun hc => ?_); (simp only [go_sem, u1, u2, u5, u6, u7, u8, u9, uh, ua, hz', hne', hne2']; exact rfl); all_goals (try simp only [go_sem, hc, u1, u2, u5, u6, u7, u8, u9, uh, ua, hz', hne', hne2']); all_goals (try simp only [go_sem, u1, u2, u5, u6, u7, u8, u9, uh, ua, hz', hne', hne2'] at hc); all_goals (try (exfalso; omega)))
            | refine And.intro (by first | omega | exact trivial | rfl | assumption | (apply map_sz; intro a; simp only [go_sem]; done) | ((and_intros <;> first | omega | exact trivial | rfl | assumption | (apply map_sz; intro a; simp only [go_sem]; done) | fail); done) | fail) ?_
            | fail)
          refine awp_loop (fun υ => ∃ (j : Nat) (so : Bool), υ.t 1 = .d (clDV c) ∧ υ.t 2 = .ptr (k, 0) 0 ∧ υ.t 5 = .d (.sl (names.map iD)) ∧ υ.t 6 = .arr (k + 1 + 1, 0) 0 1000 ∧ υ.t 7 = iA n ∧ υ.t 10 = bA so ∧ υ.t 11 = iA j ∧ υ.h (k, 0) = some (.cells 39 [iA sz, .d (.sl (tb.map gI))]) ∧ υ.h (k + 1 + 1, 0) = some (.cells 3 (vars.map iA)) ∧ Fr k h0 υ.h ∧ k + 1 + 1 < υ.k ∧ j ≤ c.length ∧
            (so || (c.drop j).any (litIn sz tb (dig sz names n))) = c.any (litIn sz tb (dig sz names n))) (fun υ => c.length - (intOf' (υ.t 11)).toNat) ?_ ?_
          · refine ⟨0, false, ?_⟩
            simp only [go_sem, u1, u2, u5, u6, u7, uh, ua, hne', hne2', List.drop_zero]
            and_intros; all_goals try (first | rfl | omega | assumption | ((repeat (first | exact Fr.rfl' _ _ | assumption | refine Fr.updk ?_ (by omega) _)); done))
          · rintro υ ⟨j, so, w1, w2, w5, w6, w7, w10, w11, wh, wa, wF, wk, wj, wv⟩
            have hne3 := ltne (show k < υ.k by omega)
            have hne4 := ltne wk
            rcases Nat.lt_or_ge j c.length with hlt' | hge''
            · have hz'' : (j : Int) < (c.length : Int) := by omega
              have e1 : (c.map ltDV).getD j default = ltDV c[j] := nth_map ltDV hlt' _
              rw [List.drop_eq_getElem_cons hlt', List.any_cons] at wv
              cases so with
              | true =>
                repeat' (first
                  | refine awp_seq_k fun K hK => ?_
                  | (refine awp_region_k (by kernel_rfl) fun R hR => ?_; simp only [go_sem, w1, w2, w6, w10, w11, wh, wa, hz'', e1, hne3, hne4])
                  | (refine awp_draw mixed (by kernel_rfl) (by kernel_rfl) fun R hR => ?_; simp only [go_sem, w1, w2, w6, w10, w11, wh, wa, hz'', e1, hne3, hne4])
                  | (refine hR _ ?_; clear hR R; try simp only [thenA, inBlockA, reduceIte, reduceCtorEq, Nat.reduceEqDiff, if_false, if_true])
                  | (refine hK _ ?_; clear hK K)
                  | (clear hK K; refine hK _ ?_; clear hK K)
                  | (clear hK K; clear hK K; refine hK _ ?_; clear hK K)
                  | (clear hK K; clear hK K; clear hK K; refine hK _ ?_; clear hK K)
                  | (clear hK K; clear hK K; clear hK K; clear hK K; refine hK _ ?_; clear hK K)
                  | refine awp_true rfl rfl ?_
                  | refine awp_false rfl rfl ?_
                  | (refine awp_cond rfl rfl (fun hc => ?_) (fun hc => ?_) <;> (try simp only [go_sem, w1, w2, w6, w10, w11, wh, wa, hz'', e1, hne3, hne4] at hc) <;> (try (exfalso; omega)))
                  | refine awp_block ?_
                  | (refine awp_skip ?_; try simp only [thenA, inBlockA, reduceIte, reduceCtorEq, Nat.reduceEqDiff, if_false, if_true])
                  | (refine awp_exit ?_; try simp only [thenA, inBlockA, reduceIte, reduceCtorEq, Nat.reduceEqDiff, if_false, if_true])
                  | (refine awp_ret ?_; try simp only [thenA, inBlockA, reduceIte, reduceCtorEq, Nat.reduceEqDiff, if_false, if_true])
                  | (refine runL_split ?_ (fun hc => ?_) (fun hc => ?_); (simp only [go_sem, w1, w2, w6, w10, w11, wh, wa, hz'', e1, hne3, hne4]; exact rfl); all_goals (try simp only [go_sem, hc, w1, w2, w6, w10, w11, wh, wa, hz'', e1, hne3, hne4]); all_goals (try simp only [go_sem, w1, w2, w6, w10, w11, wh, wa, hz'', e1, hne3, hne4] at hc); all_goals (try (exfalso; omega)))
                  | (refine runD_split ?_ (fun hc => ?_) (fun hc => ?_); (simp only [go_sem, w1, w2, w6, w10, w11, wh, wa, hz'', e1, hne3, hne4]; exact rfl); all_goals (try simp only [go_sem, hc, w1, w2, w6, w10, w11, wh, wa, hz'', e1, hne3, hne4]); all_goals (try simp only [go_sem, w1, w2, w6, w10, w11, wh, wa, hz'', e1, hne3, hne4] at hc); all_goals (try (exfalso; omega)))
                  | refine And.intro (by first | omega | exact trivial | rfl | assumption | (apply map_sz; intro a; simp only [go_sem]; done) | ((and_intros <;> first | omega | exact trivial | rfl | assumption | (apply map_sz; intro a; simp only [go_sem]; done) | fail); done) | fail) ?_
                  | fail)
                refine ⟨⟨j + 1, true, ?_⟩, ?_⟩
                rotate_left
                · simp only [go_sem, w1, w2, w5, w6, w7, w10, w11, wh, wa, hne3, hne4]; omega
                simp only [go_sem, w1, w2, w5, w6, w7, w10, w11, wh, wa, hne3, hne4]
                and_intros; all_goals try (first | rfl | omega | assumption | ((repeat (first | exact Fr.rfl' _ _ | assumption | refine Fr.updk ?_ (by omega) _)); done))
              | false =>
                obtain ⟨⟨f1, f2⟩, f3, f4⟩ := hfine n (by omega) c[j] (List.getElem_mem hlt')
                have hro : RoOK υ.k (arO (k + 1 + 1, 0) vars) υ.h := roAr wk wa
                have va := valueOf_arrs hm2 (vars := vars) (k + 1 + 1, 0) (by omega) c[j].a (fun x hx => ⟨(f1 x hx).1, fun hv => by rw [uI _ (f2 x hx hv)]; exact (f1 x hx).2 hv⟩) (fun x hx hv => by have := hin _ (f2 x hx hv); omega)
                have vb := valueOf_arrs hm2 (vars := vars) (k + 1 + 1, 0) (by omega) c[j].b (fun x hx => ⟨(f3 x hx).1, fun hv => by rw [uI _ (f4 x hx hv)]; exact (f3 x hx).2 hv⟩) (fun x hx hv => by have := hin _ (f4 x hx hv); omega)
                rw [valM_congr c[j].a (fun x hx hv => uI _ (f2 x hx hv)), uvl] at va
                rw [valM_congr c[j].b (fun x hx hv => uI _ (f4 x hx hv)), uvl] at vb
                rw [Bool.false_or] at wv
                repeat' (first
                  | refine awp_seq_k fun K hK => ?_
                  | (refine awp_region_k (by kernel_rfl) fun R hR => ?_; simp only [go_sem, w1, w2, w6, w10, w11, wh, wa, hz'', e1, hne3, hne4, Nat.reduceBEq, ite_self, implies_true, Int.toNat_natCast])
                  | (refine awp_draw mixed (by kernel_rfl) (by kernel_rfl) fun R hR => ?_; simp only [go_sem, w1, w2, w6, w10, w11, wh, wa, hz'', e1, hne3, hne4, Nat.reduceBEq, ite_self, implies_true, Int.toNat_natCast])
                  | (refine hR _ ?_; clear hR R; try simp only [thenA, inBlockA, reduceIte, reduceCtorEq, Nat.reduceEqDiff, if_false, if_true])
                  | (refine hK _ ?_; clear hK K)
                  | (clear hK K; refine hK _ ?_; clear hK K)
                  | (clear hK K; clear hK K; refine hK _ ?_; clear hK K)
                  | (clear hK K; clear hK K; clear hK K; refine hK _ ?_; clear hK K)
                  | (clear hK K; clear hK K; clear hK K; clear hK K; refine hK _ ?_; clear hK K)
                  | refine awp_true rfl rfl ?_
                  | refine awp_false rfl rfl ?_
                  | (refine awp_cond rfl rfl (fun hc => ?_) (fun hc => ?_) <;> (try simp only [go_sem, w1, w2, w6, w10, w11, wh, wa, hz'', e1, hne3, hne4, Nat.reduceBEq, ite_self, implies_true, Int.toNat_natCast] at hc) <;> (try (exfalso; omega)))
                  | refine awp_block ?_
                  | (refine awp_skip ?_; try simp only [thenA, inBlockA, reduceIte, reduceCtorEq, Nat.reduceEqDiff, if_false, if_true])
                  | (refine awp_exit ?_; try simp only [thenA, inBlockA, reduceIte, reduceCtorEq, Nat.reduceEqDiff, if_false, if_true])
                  | (refine awp_ret ?_; try simp only [thenA, inBlockA, reduceIte, reduceCtorEq, Nat.reduceEqDiff, if_false, if_true])
                  | (refine runL_split ?_ (fun hc => ?_) (fun hc => ?_); (simp only [go_sem, w1, w2, w6, w10, w11, wh, wa, hz'', e1, hne3, hne4, Nat.reduceBEq, ite_self, implies_true, Int.toNat_natCast]; exact rfl); all_goals (try simp only [go_sem, hc, w1, w2, w6, w10, w11, wh, wa, hz'', e1, hne3, hne4, Nat.reduceBEq, ite_self, implies_true, Int.toNat_natCast]); all_goals (try simp only [go_sem, w1, w2, w6, w10, w11, wh, wa, hz'', e1, hne3, hne4, Nat.reduceBEq, ite_self, implies_true, Int.toNat_natCast] at hc); all_goals (try (exfalso; omega)))
                  | (refine runD_split ?_ (fun hc => ?_) (fun hc => ?_); (simp only [go_sem, w1, w2, w6, w10, w11, wh, wa, hz'', e1, hne3, hne4, Nat.reduceBEq, ite_self, implies_true, Int.toNat_natCast]; exact rfl); all_goals (try simp only [go_sem, hc, w1, w2, w6, w10, w11, wh, wa, hz'', e1, hne3, hne4, Nat.reduceBEq, ite_self, implies_true, Int.toNat_natCast]); all_goals (try simp only [go_sem, w1, w2, w6, w10, w11, wh, wa, hz'', e1, hne3, hne4, Nat.reduceBEq, ite_self, implies_true, Int.toNat_natCast] at hc); all_goals (try (exfalso; omega)))
                  | (first | (first | (refine CallK.look (enter23) (va) ?_ (by assumption) (by repeat (first | exact Fr.rfl' _ _ | assumption | refine Fr.updk ?_ (by omega) _)) ?_; (focus first | ((repeat (first | exact trivial | refine ⟨(by first | exact Or.inl rfl | exact Or.inr rfl), ?_⟩)); done) | (simp only [coL, AV.dat, true_or, or_true, AV.d.injEq, go_sem]; done)); simp only [go_sem, w1, w2, w6, w10, w11, wh, wa, hz'', e1, hne3, hne4, Nat.reduceBEq, ite_self, implies_true, Int.toNat_natCast])) | (first | (refine CallD.look (enter23) (va) ?_ (by assumption) (by repeat (first | exact Fr.rfl' _ _ | assumption | refine Fr.updk ?_ (by omega) _)) (by first | assumption | exact List.cons_ne_nil _ _) ?_; (focus first | ((repeat (first | exact trivial | refine ⟨(by first | exact Or.inl rfl | exact Or.inr rfl), ?_⟩)); done) | (simp only [coL, AV.dat, true_or, or_true, AV.d.injEq, go_sem]; done)); simp only [go_sem, w1, w2, w6, w10, w11, wh, wa, hz'', e1, hne3, hne4, Nat.reduceBEq, ite_self, implies_true, Int.toNat_natCast])))
                  | (first | (first | (refine CallK.look (enter23) (vb) ?_ (by assumption) (by repeat (first | exact Fr.rfl' _ _ | assumption | refine Fr.updk ?_ (by omega) _)) ?_; (focus first | ((repeat (first | exact trivial | refine ⟨(by first | exact Or.inl rfl | exact Or.inr rfl), ?_⟩)); done) | (simp only [coL, AV.dat, true_or, or_true, AV.d.injEq, go_sem]; done)); simp only [go_sem, w1, w2, w6, w10, w11, wh, wa, hz'', e1, hne3, hne4, Nat.reduceBEq, ite_self, implies_true, Int.toNat_natCast])) | (first | (refine CallD.look (enter23) (vb) ?_ (by assumption) (by repeat (first | exact Fr.rfl' _ _ | assumption | refine Fr.updk ?_ (by omega) _)) (by first | assumption | exact List.cons_ne_nil _ _) ?_; (focus first | ((repeat (first | exact trivial | refine ⟨(by first | exact Or.inl rfl | exact Or.inr rfl), ?_⟩)); done) | (simp only [coL, AV.dat, true_or, or_true, AV.d.injEq, go_sem]; done)); simp only [go_sem, w1, w2, w6, w10, w11, wh, wa, hz'', e1, hne3, hne4, Nat.reduceBEq, ite_self, implies_true, Int.toNat_natCast])))
                  | refine And.intro (by first | omega | exact trivial | rfl | assumption | (apply map_sz; intro a; simp only [go_sem]; done) | ((and_intros <;> first | omega | exact trivial | rfl | assumption | (apply map_sz; intro a; simp only [go_sem]; done) | fail); done) | fail) ?_
                  | fail)
                refine ⟨⟨j + 1, litIn sz tb (dig sz names n) c[j], ?_⟩, ?_⟩
                rotate_left
                · simp only [go_sem, w1, w2, w5, w6, w7, w10, w11, wh, wa, hne3, hne4]; omega
                simp only [go_sem, w1, w2, w5, w6, w7, w10, w11, wh, wa, hne3, hne4]
                and_intros; all_goals try (first | rfl | omega | assumption | ((repeat (first | exact Fr.rfl' _ _ | assumption | refine Fr.updk ?_ (by omega) _)); done))
            · have hz'' : ¬ ((j : Int) < (c.length : Int)) := by omega
              rw [List.drop_eq_nil_of_le hge'', List.any_nil, Bool.or_false] at wv
              rw [← wv] at hv
              cases so with
              | true =>
                rw [Bool.true_and] at hv
                repeat' (first
                  | refine awp_seq_k fun K hK => ?_
                  | (refine awp_region_k (by kernel_rfl) fun R hR => ?_; simp only [go_sem, w1, w10, w11, w7, hz'', hne3, hne4])
                  | (refine awp_draw mixed (by kernel_rfl) (by kernel_rfl) fun R hR => ?_; simp only [go_sem, w1, w10, w11, w7, hz'', hne3, hne4])
                  | (refine hR _ ?_; clear hR R; try simp only [thenA, inBlockA, reduceIte, reduceCtorEq, Nat.reduceEqDiff, if_false, if_true])
                  | (refine hK _ ?_; clear hK K)
                  | (clear hK K; refine hK _ ?_; clear hK K)
                  | (clear hK K; clear hK K; refine hK _ ?_; clear hK K)
                  | (clear hK K; clear hK K; clear hK K; refine hK _ ?_; clear hK K)
                  | (clear hK K; clear hK K; clear hK K; clear hK K; refine hK _ ?_; clear hK K)
                  | refine awp_true rfl rfl ?_
                  | refine awp_false rfl rfl ?_
                  | (refine awp_cond rfl rfl (fun hc => ?_) (fun hc => ?_) <;> (try simp only [go_sem, w1, w10, w11, w7, hz'', hne3, hne4] at hc) <;> (try (exfalso; omega)))
                  | refine awp_block ?_
                  | (refine awp_skip ?_; try simp only [thenA, inBlockA, reduceIte, reduceCtorEq, Nat.reduceEqDiff, if_false, if_true])
                  | (refine awp_exit ?_; try simp only [thenA, inBlockA, reduceIte, reduceCtorEq, Nat.reduceEqDiff, if_false, if_true])
                  | (refine awp_ret ?_; try simp only [thenA, inBlockA, reduceIte, reduceCtorEq, Nat.reduceEqDiff, if_false, if_true])
                  | (refine runL_split ?_ (fun hc => ?_) (fun hc => ?_); (simp only [go_sem, w1, w10, w11, w7, hz'', hne3, hne4]; exact rfl); all_goals (try simp only [go_sem, hc, w1, w10, w11, w7, hz'', hne3, hne4]); all_goals (try simp only [go_sem, w1, w10, w11, w7, hz'', hne3, hne4] at hc); all_goals (try (exfalso; omega)))
                  | (refine runD_split ?_ (fun hc => ?_) (fun hc => ?_); (simp only [go_sem, w1, w10, w11, w7, hz'', hne3, hne4]; exact rfl); all_goals (try simp only [go_sem, hc, w1, w10, w11, w7, hz'', hne3, hne4]); all_goals (try simp only [go_sem, w1, w10, w11, w7, hz'', hne3, hne4] at hc); all_goals (try (exfalso; omega)))
                  | refine And.intro (by first | omega | exact trivial | rfl | assumption | (apply map_sz; intro a; simp only [go_sem]; done) | ((and_intros <;> first | omega | exact trivial | rfl | assumption | (apply map_sz; intro a; simp only [go_sem]; done) | fail); done) | fail) ?_
                  | fail)
                refine ⟨⟨n + 1, vars, ?_⟩, ?_⟩
                rotate_left
                · simp only [go_sem, w1, w2, w5, w6, w7, wh, wa, uvl, hne3, hne4, s7']; omega
                simp only [go_sem, w1, w2, w5, w6, w7, wh, wa, uvl, hne3, hne4, s7']
                and_intros; all_goals try (first | rfl | omega | assumption | ((repeat (first | exact Fr.rfl' _ _ | assumption | refine Fr.updk ?_ (by omega) _)); done))
              | false =>
                rw [Bool.false_and] at hv
                repeat' (first
                  | refine awp_seq_k fun K hK => ?_
                  | (refine awp_region_k (by kernel_rfl) fun R hR => ?_; simp only [go_sem, w1, w10, w11, hz'', hne3, hne4])
                  | (refine awp_draw mixed (by kernel_rfl) (by kernel_rfl) fun R hR => ?_; simp only [go_sem, w1, w10, w11, hz'', hne3, hne4])
                  | (refine hR _ ?_; clear hR R; try simp only [thenA, inBlockA, reduceIte, reduceCtorEq, Nat.reduceEqDiff, if_false, if_true])
                  | (refine hK _ ?_; clear hK K)
                  | (clear hK K; refine hK _ ?_; clear hK K)
                  | (clear hK K; clear hK K; refine hK _ ?_; clear hK K)
                  | (clear hK K; clear hK K; clear hK K; refine hK _ ?_; clear hK K)
                  | (clear hK K; clear hK K; clear hK K; clear hK K; refine hK _ ?_; clear hK K)
                  | refine awp_true rfl rfl ?_
                  | refine awp_false rfl rfl ?_
                  | (refine awp_cond rfl rfl (fun hc => ?_) (fun hc => ?_) <;> (try simp only [go_sem, w1, w10, w11, hz'', hne3, hne4] at hc) <;> (try (exfalso; omega)))
                  | refine awp_block ?_
                  | (refine awp_skip ?_; try simp only [thenA, inBlockA, reduceIte, reduceCtorEq, Nat.reduceEqDiff, if_false, if_true])
                  | (refine awp_exit ?_; try simp only [thenA, inBlockA, reduceIte, reduceCtorEq, Nat.reduceEqDiff, if_false, if_true])
                  | (refine awp_ret ?_; try simp only [thenA, inBlockA, reduceIte, reduceCtorEq, Nat.reduceEqDiff, if_false, if_true])
                  | (refine runL_split ?_ (fun hc => ?_) (fun hc => ?_); (simp only [go_sem, w1, w10, w11, hz'', hne3, hne4]; exact rfl); all_goals (try simp only [go_sem, hc, w1, w10, w11, hz'', hne3, hne4]); all_goals (try simp only [go_sem, w1, w10, w11, hz'', hne3, hne4] at hc); all_goals (try (exfalso; omega)))
                  | (refine runD_split ?_ (fun hc => ?_) (fun hc => ?_); (simp only [go_sem, w1, w10, w11, hz'', hne3, hne4]; exact rfl); all_goals (try simp only [go_sem, hc, w1, w10, w11, hz'', hne3, hne4]); all_goals (try simp only [go_sem, w1, w10, w11, hz'', hne3, hne4] at hc); all_goals (try (exfalso; omega)))
                  | refine And.intro (by first | omega | exact trivial | rfl | assumption | (apply map_sz; intro a; simp only [go_sem]; done) | ((and_intros <;> first | omega | exact trivial | rfl | assumption | (apply map_sz; intro a; simp only [go_sem]; done) | fail); done) | fail) ?_
                  | fail)
                rw [← hv]
                first | refine ret_pure (by simp only [Try.results26, resOkL, resOk, Try.ntmps26, List.toList_toArray]; first | decide | (simp only [go_sem]; done) | (simp only [go_sem]; and_intros <;> first | omega | rfl | decide)) ?_ (by repeat (first | exact Fr.rfl' _ _ | assumption | refine Fr.updk ?_ (by omega) _)) | refine ret_ro (by simp only [Try.results26, resOkL, resOk, Try.ntmps26, List.toList_toArray]; first | decide | (simp only [go_sem]; done) | (simp only [go_sem]; and_intros <;> first | omega | rfl | decide)) ?_ (by repeat (first | exact Fr.rfl' _ _ | assumption | refine Fr.updk ?_ (by omega) _))
                simp only [resA, resV, Try.results26, go_sem]
                all_goals try (first | exact Co.t2 (.dat rfl) (.dat rfl) | exact Co.t3 (.dat rfl) (.dat rfl) (.dat rfl))
                exact .dat rfl
    · have hz : ¬ ((n : Int) < (N : Int)) := by omega
      rw [holdsF_end hge] at hv
      repeat' (first
        | refine awp_seq_k fun K hK => ?_
        | (refine awp_region_k (by kernel_rfl) fun R hR => ?_; simp only [go_sem, s2, s5, s7, sh, hz, hne])
        | (refine awp_draw mixed (by kernel_rfl) (by kernel_rfl) fun R hR => ?_; simp only [go_sem, s2, s5, s7, sh, hz, hne])
        | (refine hR _ ?_; clear hR R; try simp only [thenA, inBlockA, reduceIte, reduceCtorEq, Nat.reduceEqDiff, if_false, if_true])
        | (refine hK _ ?_; clear hK K)
        | (clear hK K; refine hK _ ?_; clear hK K)
        | (clear hK K; clear hK K; refine hK _ ?_; clear hK K)
        | (clear hK K; clear hK K; clear hK K; refine hK _ ?_; clear hK K)
        | (clear hK K; clear hK K; clear hK K; clear hK K; refine hK _ ?_; clear hK K)
        | refine awp_true rfl rfl ?_
        | refine awp_false rfl rfl ?_
        | (refine awp_cond rfl rfl (fun hc => ?_) (fun hc => ?_) <;> (try simp only [go_sem, s2, s5, s7, sh, hz, hne] at hc) <;> (try (exfalso; omega)))
        | refine awp_block ?_
        | (refine awp_skip ?_; try simp only [thenA, inBlockA, reduceIte, reduceCtorEq, Nat.reduceEqDiff, if_false, if_true])
        | (refine awp_exit ?_; try simp only [thenA, inBlockA, reduceIte, reduceCtorEq, Nat.reduceEqDiff, if_false, if_true])
        | (refine awp_ret ?_; try simp only [thenA, inBlockA, reduceIte, reduceCtorEq, Nat.reduceEqDiff, if_false, if_true])
        | (refine runL_split ?_ (fun hc => ?_) (fun hc => ?_); (simp only [go_sem, s2, s5, s7, sh, hz, hne]; exact rfl); all_goals (try simp only [go_sem, hc, s2, s5, s7, sh, hz, hne]); all_goals (try simp only [go_sem, s2, s5, s7, sh, hz, hne] at hc); all_goals (try (exfalso; omega)))
        | (refine runD_split ?_ (fun hc => ?_) (fun hc => ?_); (simp only [go_sem, s2, s5, s7, sh, hz, hne]; exact rfl); all_goals (try simp only [go_sem, hc, s2, s5, s7, sh, hz, hne]); all_goals (try simp only [go_sem, s2, s5, s7, sh, hz, hne] at hc); all_goals (try (exfalso; omega)))
        | (first | (refine CallK.pure (enter81) (pw) ?_ ?_; (focus first | ((repeat (first | exact trivial | refine ⟨(by first | exact Or.inl rfl | exact Or.inr rfl), ?_⟩)); done) | (simp only [coL, AV.dat, true_or, or_true, AV.d.injEq, go_sem]; done)); simp only [go_sem, s2, s5, s7, sh, hz, hne]) | (refine CallD.pure (enter81) (pw) ?_ ?_; (focus first | ((repeat (first | exact trivial | refine ⟨(by first | exact Or.inl rfl | exact Or.inr rfl), ?_⟩)); done) | (simp only [coL, AV.dat, true_or, or_true, AV.d.injEq, go_sem]; done)); simp only [go_sem, s2, s5, s7, sh, hz, hne]))
        | refine And.intro (by first | omega | exact trivial | rfl | assumption | (apply map_sz; intro a; simp only [go_sem]; done) | ((and_intros <;> first | omega | exact trivial | rfl | assumption | (apply map_sz; intro a; simp only [go_sem]; done) | fail); done) | fail) ?_
        | fail)
      rw [← hv]
      first | refine ret_pure (by simp only [Try.results26, resOkL, resOk, Try.ntmps26, List.toList_toArray]; first | decide | (simp only [go_sem]; done) | (simp only [go_sem]; and_intros <;> first | omega | rfl | decide)) ?_ (by repeat (first | exact Fr.rfl' _ _ | assumption | refine Fr.updk ?_ (by omega) _)) | refine ret_ro (by simp only [Try.results26, resOkL, resOk, Try.ntmps26, List.toList_toArray]; first | decide | (simp only [go_sem]; done) | (simp only [go_sem]; and_intros <;> first | omega | rfl | decide)) ?_ (by repeat (first | exact Fr.rfl' _ _ | assumption | refine Fr.updk ?_ (by omega) _))
      simp only [resA, resV, Try.results26, go_sem]
      all_goals try (first | exact Co.t2 (.dat rfl) (.dat rfl) | exact Co.t3 (.dat rfl) (.dat rfl) (.dat rfl))
      exact .dat rfl
end Go.Proofs.Ytmeekpinkfpnhaa

namespace Go.Proofs.Ytmeekpinkfpnhaa
open Go.RowKit
set_option linter.unusedSimpArgs false
set_option linter.unusedSectionVars false

theorem mb1 : mdOk [0, 1] 2 [[0], [1, 0]] = 0 := by decide
theorem mb2 : valAns [0, 1] 2 [[0], [1, 0]] (.mk 0 1 [.mk 1 0 []]) [1] = (0, 0) := by decide
theorem mb3 : hldAns [0, 1] 2 [[0], [1, 0]] [⟨false, .mk 0 1 [.mk 1 0 []], .mk 1 0 []⟩] = (true, 0) := by decide +kernel
set_option maxRecDepth 20000 in
theorem modelBegun_tri : Tri Try.prog 27 [] (pure' (bA true)) := by
  have v1 := mdValue_tri [0, 1] 2 [[0], [1, 0]] (.mk 0 1 [.mk 1 0 []]) [1] (by decide) (by decide) (by decide) (by decide)
  have v2 := mdHolds_tri [0, 1] 2 [[0], [1, 0]] [⟨false, .mk 0 1 [.mk 1 0 []], .mk 1 0 []⟩] (by decide) (by decide) (by decide)
  have v3 := mdCheck_tri [0, 1] 2 [[0], [1, 0]] (by decide) (by decide)
  rw [mb2] at v1
  rw [mb3] at v2
  rw [mb1] at v3
  refine tri_enter Try.func27 rfl Try.ntmps27 (by simp only [List.length_cons, List.length_nil]; omega) fun w0 h0 k hrd hwr => ?_
  repeat' (first
    | refine awp_seq_k fun K hK => ?_
    | (refine awp_region_k (by kernel_rfl) fun R hR => ?_; simp only [go_sem, beq_self_eq_true])
    | (refine awp_draw mixed (by kernel_rfl) (by kernel_rfl) fun R hR => ?_; simp only [go_sem, beq_self_eq_true])
    | (refine hR _ ?_; clear hR R; try simp only [thenA, inBlockA, reduceIte, reduceCtorEq, Nat.reduceEqDiff, if_false, if_true])
    | (refine hK _ ?_; clear hK K)
    | (clear hK K; refine hK _ ?_; clear hK K)
    | (clear hK K; clear hK K; refine hK _ ?_; clear hK K)
    | (clear hK K; clear hK K; clear hK K; refine hK _ ?_; clear hK K)
    | (clear hK K; clear hK K; clear hK K; clear hK K; refine hK _ ?_; clear hK K)
    | refine awp_true rfl rfl ?_
    | refine awp_false rfl rfl ?_
    | (refine awp_cond rfl rfl (fun hc => ?_) (fun hc => ?_) <;> (try simp only [go_sem, beq_self_eq_true] at hc) <;> (try (exfalso; omega)))
    | refine awp_block ?_
    | (refine awp_skip ?_; try simp only [thenA, inBlockA, reduceIte, reduceCtorEq, Nat.reduceEqDiff, if_false, if_true])
    | (refine awp_exit ?_; try simp only [thenA, inBlockA, reduceIte, reduceCtorEq, Nat.reduceEqDiff, if_false, if_true])
    | (refine awp_ret ?_; try simp only [thenA, inBlockA, reduceIte, reduceCtorEq, Nat.reduceEqDiff, if_false, if_true])
    | (refine runL_split ?_ (fun hc => ?_) (fun hc => ?_); (simp only [go_sem, beq_self_eq_true]; exact rfl); all_goals (try simp only [go_sem, hc, beq_self_eq_true]); all_goals (try simp only [go_sem, beq_self_eq_true] at hc); all_goals (try (exfalso; omega)))
    | (refine runD_split ?_ (fun hc => ?_) (fun hc => ?_); (simp only [go_sem, beq_self_eq_true]; exact rfl); all_goals (try simp only [go_sem, hc, beq_self_eq_true]); all_goals (try simp only [go_sem, beq_self_eq_true] at hc); all_goals (try (exfalso; omega)))
    | (first | (refine CallK.pure (enter65) (small_tri) ?_ ?_; (focus first | ((repeat (first | exact trivial | refine ⟨(by first | exact Or.inl rfl | exact Or.inr rfl), ?_⟩)); done) | (simp only [coL, AV.dat, true_or, or_true, AV.d.injEq, go_sem]; done)); simp only [go_sem, beq_self_eq_true]) | (refine CallD.pure (enter65) (small_tri) ?_ ?_; (focus first | ((repeat (first | exact trivial | refine ⟨(by first | exact Or.inl rfl | exact Or.inr rfl), ?_⟩)); done) | (simp only [coL, AV.dat, true_or, or_true, AV.d.injEq, go_sem]; done)); simp only [go_sem, beq_self_eq_true]))
    | (first | (refine CallK.pure (enter67) (va_tri 1) ?_ ?_; (focus first | ((repeat (first | exact trivial | refine ⟨(by first | exact Or.inl rfl | exact Or.inr rfl), ?_⟩)); done) | (simp only [coL, AV.dat, true_or, or_true, AV.d.injEq, go_sem]; done)); simp only [go_sem, beq_self_eq_true]) | (refine CallD.pure (enter67) (va_tri 1) ?_ ?_; (focus first | ((repeat (first | exact trivial | refine ⟨(by first | exact Or.inl rfl | exact Or.inr rfl), ?_⟩)); done) | (simp only [coL, AV.dat, true_or, or_true, AV.d.injEq, go_sem]; done)); simp only [go_sem, beq_self_eq_true]))
    | (first | (refine CallK.pure (enter66) (fn_tri 1 [.mk 1 0 []]) ?_ ?_; (focus first | ((repeat (first | exact trivial | refine ⟨(by first | exact Or.inl rfl | exact Or.inr rfl), ?_⟩)); done) | (simp only [coL, AV.dat, true_or, or_true, AV.d.injEq, go_sem]; done)); simp only [go_sem, beq_self_eq_true]) | (refine CallD.pure (enter66) (fn_tri 1 [.mk 1 0 []]) ?_ ?_; (focus first | ((repeat (first | exact trivial | refine ⟨(by first | exact Or.inl rfl | exact Or.inr rfl), ?_⟩)); done) | (simp only [coL, AV.dat, true_or, or_true, AV.d.injEq, go_sem]; done)); simp only [go_sem, beq_self_eq_true]))
    | (first | (refine CallK.pure (enter18) (v1) ?_ ?_; (focus first | ((repeat (first | exact trivial | refine ⟨(by first | exact Or.inl rfl | exact Or.inr rfl), ?_⟩)); done) | (simp only [coL, AV.dat, true_or, or_true, AV.d.injEq, go_sem]; done)); simp only [go_sem, beq_self_eq_true]) | (refine CallD.pure (enter18) (v1) ?_ ?_; (focus first | ((repeat (first | exact trivial | refine ⟨(by first | exact Or.inl rfl | exact Or.inr rfl), ?_⟩)); done) | (simp only [coL, AV.dat, true_or, or_true, AV.d.injEq, go_sem]; done)); simp only [go_sem, beq_self_eq_true]))
    | (first | (refine CallK.pure (enter19) (v2) ?_ ?_; (focus first | ((repeat (first | exact trivial | refine ⟨(by first | exact Or.inl rfl | exact Or.inr rfl), ?_⟩)); done) | (simp only [coL, AV.dat, true_or, or_true, AV.d.injEq, go_sem]; done)); simp only [go_sem, beq_self_eq_true]) | (refine CallD.pure (enter19) (v2) ?_ ?_; (focus first | ((repeat (first | exact trivial | refine ⟨(by first | exact Or.inl rfl | exact Or.inr rfl), ?_⟩)); done) | (simp only [coL, AV.dat, true_or, or_true, AV.d.injEq, go_sem]; done)); simp only [go_sem, beq_self_eq_true]))
    | (first | (refine CallK.pure (enter28) (v3) ?_ ?_; (focus first | ((repeat (first | exact trivial | refine ⟨(by first | exact Or.inl rfl | exact Or.inr rfl), ?_⟩)); done) | (simp only [coL, AV.dat, true_or, or_true, AV.d.injEq, go_sem]; done)); simp only [go_sem, beq_self_eq_true]) | (refine CallD.pure (enter28) (v3) ?_ ?_; (focus first | ((repeat (first | exact trivial | refine ⟨(by first | exact Or.inl rfl | exact Or.inr rfl), ?_⟩)); done) | (simp only [coL, AV.dat, true_or, or_true, AV.d.injEq, go_sem]; done)); simp only [go_sem, beq_self_eq_true]))
    | refine And.intro (by first | omega | exact trivial | rfl | assumption | (apply map_sz; intro a; simp only [go_sem]; done) | ((and_intros <;> first | omega | exact trivial | rfl | assumption | (apply map_sz; intro a; simp only [go_sem]; done) | fail); done) | fail) ?_
    | fail)
  first | refine ret_pure (by simp only [Try.results27, resOkL, resOk, Try.ntmps27, List.toList_toArray]; first | decide | (simp only [go_sem]; done) | (simp only [go_sem]; and_intros <;> first | omega | rfl | decide)) ?_ (by repeat (first | exact Fr.rfl' _ _ | assumption | refine Fr.updk ?_ (by omega) _)) | refine ret_ro (by simp only [Try.results27, resOkL, resOk, Try.ntmps27, List.toList_toArray]; first | decide | (simp only [go_sem]; done) | (simp only [go_sem]; and_intros <;> first | omega | rfl | decide)) ?_ (by repeat (first | exact Fr.rfl' _ _ | assumption | refine Fr.updk ?_ (by omega) _))
  simp only [resA, resV, Try.results27, go_sem]
  all_goals try (first | exact Co.t2 (.dat rfl) (.dat rfl) | exact Co.t3 (.dat rfl) (.dat rfl) (.dat rfl))
  exact .dat rfl
end Go.Proofs.Ytmeekpinkfpnhaa

namespace Go.Proofs.Ytmeekpinkfpnhaa
open Go.RowKit
set_option linter.unusedSimpArgs false
set_option linter.unusedSectionVars false

/-- What stands from the calls on. -/
structure MB (g : List Int) (sz : Int) (tb : List (List Int)) (t : Tm) (vars : List Int) (cl : List Lt) (k : Nat) (h0 : Heap) (σ : St) : Prop where
  s3 : σ.t 3 = .d (.sl (vars.map iD))
  s4 : σ.t 4 = .d (clDV cl)
  s5 : σ.t 5 = .ptr (k, 0) 0
  s6 : σ.t 6 = .ptr (k, 1) 0
  s7 : σ.t 7 = .ptr (k, 2) 0
  s11 : σ.t 11 = iA (valAns g sz tb t vars).1
  s12 : σ.t 12 = iA (valAns g sz tb t vars).2
  s13 : σ.t 13 = bA (hldAns g sz tb cl).1
  s14 : σ.t 14 = iA (hldAns g sz tb cl).2
  s15 : σ.t 15 = iA (mdOk g sz tb)
  a0 : σ.h (k, 0) = some (.cells 24 [.d (.sl (g.map iD))])
  a1 : σ.h (k, 1) = some (.cells 39 [iA sz, .d (.sl (tb.map gI))])
  a2 : σ.h (k, 2) = some (.cells 27 [iA t.v, iA t.f, .d (.sl (t.us.map tmDV))])
  fr : Fr k h0 σ.h
  kk : k < σ.k
section
variable {w0 : World} {g : List Int} {sz : Int} {tb : List (List Int)} {t : Tm} {vars : List Int} {cl : List Lt} {k : Nat} {h0 : Heap} {fn : Func} (hfn : fn = Try.f4)
variable (hl : tb.length ≤ 4000000) (hr : ∀ r ∈ tb, r.length ≤ 4000000) (hcl : cl.length ≤ 4000000) (ht : t.size ≤ 4000000) (hvl : vars.length ≤ 4000000)
include hfn hl hr hcl ht hvl

set_option maxHeartbeats 1000000 in
set_option maxRecDepth 20000 in
theorem mt_28 (σ : St) (b : MB g sz tb t vars cl k h0 σ) (s16 : σ.t 16 = iA (valAns g sz tb t vars).2) (s17 : σ.t 17 = iA (hldAns g sz tb cl).2) (s18 : σ.t 18 = iA (valAns g sz tb t vars).1) (s19 : σ.t 19 = bA (hldAns g sz tb cl).1)
    {N : Nat} {c : Code} (hN : (Try.f4).ntmps = N) (hc : bodyAt (Try.f4) [true,true,true,true,true,true,true,true,true,true,true,true,true] = some c) : awp Try.prog w0 N c (retQ Try.prog fn (pure' (bA true)) h0 k) σ := by
  subst hfn
  obtain rfl := (Try.ntmps4).symm.trans hN; obtain rfl := Option.some.inj (show some _ = some c from hc); clear hN hc
  have v3 := mdCheck_tri g sz tb hl hr
  have hF := b.fr
  have hkk := b.kk
  repeat' (first
    | refine awp_seq_k fun K hK => ?_
    | (refine awp_region_k (by kernel_rfl) fun R hR => ?_; simp only [go_sem, b.s5, b.s6, b.s11, b.s12, b.s13, b.s14, b.s15, b.a0, b.a1, s16, s17, s18, s19, beq_self_eq_true])
    | (refine awp_draw mixed (by kernel_rfl) (by kernel_rfl) fun R hR => ?_; simp only [go_sem, b.s5, b.s6, b.s11, b.s12, b.s13, b.s14, b.s15, b.a0, b.a1, s16, s17, s18, s19, beq_self_eq_true])
    | (refine hR _ ?_; clear hR R; try simp only [thenA, inBlockA, reduceIte, reduceCtorEq, Nat.reduceEqDiff, if_false, if_true])
    | (refine hK _ ?_; clear hK K)
    | (clear hK K; refine hK _ ?_; clear hK K)
    | (clear hK K; clear hK K; refine hK _ ?_; clear hK K)
    | (clear hK K; clear hK K; clear hK K; refine hK _ ?_; clear hK K)
    | (clear hK K; clear hK K; clear hK K; clear hK K; refine hK _ ?_; clear hK K)
    | refine awp_true rfl rfl ?_
    | refine awp_false rfl rfl ?_
    | (refine awp_cond rfl rfl (fun hc => ?_) (fun hc => ?_) <;> (try simp only [go_sem, b.s5, b.s6, b.s11, b.s12, b.s13, b.s14, b.s15, b.a0, b.a1, s16, s17, s18, s19, beq_self_eq_true] at hc) <;> (try (exfalso; omega)))
    | refine awp_block ?_
    | (refine awp_skip ?_; try simp only [thenA, inBlockA, reduceIte, reduceCtorEq, Nat.reduceEqDiff, if_false, if_true])
    | (refine awp_exit ?_; try simp only [thenA, inBlockA, reduceIte, reduceCtorEq, Nat.reduceEqDiff, if_false, if_true])
    | (refine awp_ret ?_; try simp only [thenA, inBlockA, reduceIte, reduceCtorEq, Nat.reduceEqDiff, if_false, if_true])
    | (refine runL_split ?_ (fun hc => ?_) (fun hc => ?_); (simp only [go_sem, b.s5, b.s6, b.s11, b.s12, b.s13, b.s14, b.s15, b.a0, b.a1, s16, s17, s18, s19, beq_self_eq_true]; exact rfl); all_goals (try simp only [go_sem, hc, b.s5, b.s6, b.s11, b.s12, b.s13, b.s14, b.s15, b.a0, b.a1, s16, s17, s18, s19, beq_self_eq_true]); all_goals (try simp only [go_sem, b.s5, b.s6, b.s11, b.s12, b.s13, b.s14, b.s15, b.a0, b.a1, s16, s17, s18, s19, beq_self_eq_true] at hc); all_goals (try (exfalso; omega)))
    | (refine runD_split ?_ (fun hc => ?_) (fun hc => ?_); (simp only [go_sem, b.s5, b.s6, b.s11, b.s12, b.s13, b.s14, b.s15, b.a0, b.a1, s16, s17, s18, s19, beq_self_eq_true]; exact rfl); all_goals (try simp only [go_sem, hc, b.s5, b.s6, b.s11, b.s12, b.s13, b.s14, b.s15, b.a0, b.a1, s16, s17, s18, s19, beq_self_eq_true]); all_goals (try simp only [go_sem, b.s5, b.s6, b.s11, b.s12, b.s13, b.s14, b.s15, b.a0, b.a1, s16, s17, s18, s19, beq_self_eq_true] at hc); all_goals (try (exfalso; omega)))
    | (first | (refine CallK.pure (enter27) (modelBegun_tri) ?_ ?_; (focus first | ((repeat (first | exact trivial | refine ⟨(by first | exact Or.inl rfl | exact Or.inr rfl), ?_⟩)); done) | (simp only [coL, AV.dat, true_or, or_true, AV.d.injEq, go_sem]; done)); simp only [go_sem, b.s5, b.s6, b.s11, b.s12, b.s13, b.s14, b.s15, b.a0, b.a1, s16, s17, s18, s19, beq_self_eq_true]) | (refine CallD.pure (enter27) (modelBegun_tri) ?_ ?_; (focus first | ((repeat (first | exact trivial | refine ⟨(by first | exact Or.inl rfl | exact Or.inr rfl), ?_⟩)); done) | (simp only [coL, AV.dat, true_or, or_true, AV.d.injEq, go_sem]; done)); simp only [go_sem, b.s5, b.s6, b.s11, b.s12, b.s13, b.s14, b.s15, b.a0, b.a1, s16, s17, s18, s19, beq_self_eq_true]))
    | (first | (refine CallK.pure (enter28) (v3) ?_ ?_; (focus first | ((repeat (first | exact trivial | refine ⟨(by first | exact Or.inl rfl | exact Or.inr rfl), ?_⟩)); done) | (simp only [coL, AV.dat, true_or, or_true, AV.d.injEq, go_sem]; done)); simp only [go_sem, b.s5, b.s6, b.s11, b.s12, b.s13, b.s14, b.s15, b.a0, b.a1, s16, s17, s18, s19, beq_self_eq_true]) | (refine CallD.pure (enter28) (v3) ?_ ?_; (focus first | ((repeat (first | exact trivial | refine ⟨(by first | exact Or.inl rfl | exact Or.inr rfl), ?_⟩)); done) | (simp only [coL, AV.dat, true_or, or_true, AV.d.injEq, go_sem]; done)); simp only [go_sem, b.s5, b.s6, b.s11, b.s12, b.s13, b.s14, b.s15, b.a0, b.a1, s16, s17, s18, s19, beq_self_eq_true]))
    | refine And.intro (by first | omega | exact trivial | rfl | assumption | (apply map_sz; intro a; simp only [go_sem]; done) | ((and_intros <;> first | omega | exact trivial | rfl | assumption | (apply map_sz; intro a; simp only [go_sem]; done) | fail); done) | fail) ?_
    | fail)
  first | refine ret_pure (by simp only [Try.results4, resOkL, resOk, Try.ntmps4, List.toList_toArray]; first | decide | (simp only [go_sem]; done) | (simp only [go_sem]; and_intros <;> first | omega | rfl | decide)) ?_ (by repeat (first | exact Fr.rfl' _ _ | assumption | refine Fr.updk ?_ (by omega) _)) | refine ret_ro (by simp only [Try.results4, resOkL, resOk, Try.ntmps4, List.toList_toArray]; first | decide | (simp only [go_sem]; done) | (simp only [go_sem]; and_intros <;> first | omega | rfl | decide)) ?_ (by repeat (first | exact Fr.rfl' _ _ | assumption | refine Fr.updk ?_ (by omega) _))
  simp only [resA, resV, Try.results4, go_sem]
  all_goals try (first | exact Co.t2 (.dat rfl) (.dat rfl) | exact Co.t3 (.dat rfl) (.dat rfl) (.dat rfl))
  exact .dat rfl
set_option maxHeartbeats 1000000 in
set_option maxRecDepth 20000 in
theorem mt_22 (σ : St) (b : MB g sz tb t vars cl k h0 σ) (s16 : σ.t 16 = iA (valAns g sz tb t vars).2) (s17 : σ.t 17 = iA (mdOk g sz tb)) (s18 : σ.t 18 = iA (valAns g sz tb t vars).1) (s19 : σ.t 19 = bA false)
    {N : Nat} {c : Code} (hN : (Try.f4).ntmps = N) (hc : bodyAt (Try.f4) [true,true,true,true,true,true,true,true,true,true] = some c) : awp Try.prog w0 N c (retQ Try.prog fn (pure' (bA true)) h0 k) σ := by
  have fin := fun σ b => mt_28 (w0 := w0) hfn hl hr hcl ht hvl (k := k) (h0 := h0) (g := g) (sz := sz) (tb := tb) (t := t) (vars := vars) (cl := cl) σ b
  have hcc := checkClauses_tri g [cl] (by simp) (by simpa using hcl)
  obtain rfl := (Try.ntmps4).symm.trans hN; obtain rfl := Option.some.inj (show some _ = some c from hc); clear hN hc
  have hF := b.fr
  have hkk := b.kk
  have hne := ltne hkk
  cases hm : mdOk g sz tb == 0 with
  | false =>
    have hh : hldAns g sz tb cl = (false, mdOk g sz tb) := by unfold hldAns; rw [if_pos (by simpa using hm)]
    rw [hh] at fin
    repeat' (first
      | refine fin _ ?_ ?_ ?_ ?_ ?_ rfl rfl
      | refine awp_seq_k fun K hK => ?_
      | (refine awp_region_k (by kernel_rfl) fun R hR => ?_; simp only [go_sem, s17, hm])
      | (refine awp_draw mixed (by kernel_rfl) (by kernel_rfl) fun R hR => ?_; simp only [go_sem, s17, hm])
      | (refine hR _ ?_; clear hR R; try simp only [thenA, inBlockA, reduceIte, reduceCtorEq, Nat.reduceEqDiff, if_false, if_true])
      | (refine hK _ ?_; clear hK K)
      | (clear hK K; refine hK _ ?_; clear hK K)
      | (clear hK K; clear hK K; refine hK _ ?_; clear hK K)
      | (clear hK K; clear hK K; clear hK K; refine hK _ ?_; clear hK K)
      | (clear hK K; clear hK K; clear hK K; clear hK K; refine hK _ ?_; clear hK K)
      | refine awp_true rfl rfl ?_
      | refine awp_false rfl rfl ?_
      | (refine awp_cond rfl rfl (fun hc => ?_) (fun hc => ?_) <;> (try simp only [go_sem, s17, hm] at hc) <;> (try (exfalso; omega)))
      | refine awp_block ?_
      | (refine awp_skip ?_; try simp only [thenA, inBlockA, reduceIte, reduceCtorEq, Nat.reduceEqDiff, if_false, if_true])
      | (refine awp_exit ?_; try simp only [thenA, inBlockA, reduceIte, reduceCtorEq, Nat.reduceEqDiff, if_false, if_true])
      | (refine awp_ret ?_; try simp only [thenA, inBlockA, reduceIte, reduceCtorEq, Nat.reduceEqDiff, if_false, if_true])
      | (refine runL_split ?_ (fun hc => ?_) (fun hc => ?_); (simp only [go_sem, s17, hm]; exact rfl); all_goals (try simp only [go_sem, hc, s17, hm]); all_goals (try simp only [go_sem, s17, hm] at hc); all_goals (try (exfalso; omega)))
      | (refine runD_split ?_ (fun hc => ?_) (fun hc => ?_); (simp only [go_sem, s17, hm]; exact rfl); all_goals (try simp only [go_sem, hc, s17, hm]); all_goals (try simp only [go_sem, s17, hm] at hc); all_goals (try (exfalso; omega)))
      | refine And.intro (by first | omega | exact trivial | rfl | assumption | (apply map_sz; intro a; simp only [go_sem]; done) | ((and_intros <;> first | omega | exact trivial | rfl | assumption | (apply map_sz; intro a; simp only [go_sem]; done) | fail); done) | fail) ?_
      | fail)
    · exact (by constructor <;> first | (simp only [go_sem, b.s3, b.s4, b.s5, b.s6, b.s7, b.s11, b.s12, b.s13, b.s14, b.s15, b.a0, b.a1, b.a2, hne]; done) | (simp only [go_sem]; omega) | (dsimp only; omega) | exact (by repeat (first | exact Fr.rfl' _ _ | assumption | refine Fr.updk ?_ (by omega) _)))
    all_goals simp only [go_sem, s16, s17, s18, s19]
  | true =>
    have hm2 : mdOk g sz tb = 0 := by simpa using hm
    cases ho : clsOk g [cl] == 0 with
    | false =>
      have hh : hldAns g sz tb cl = (false, clsOk g [cl]) := by unfold hldAns; rw [if_neg (by simp [hm2]), if_pos (by simpa using ho)]
      rw [hh] at fin
      repeat' (first
        | refine fin _ ?_ ?_ ?_ ?_ ?_ rfl rfl
        | refine awp_seq_k fun K hK => ?_
        | (refine awp_region_k (by kernel_rfl) fun R hR => ?_; simp only [go_sem, s17, hm2, b.s4, b.s5, b.a0, hne, ho, beq_self_eq_true])
        | (refine awp_draw mixed (by kernel_rfl) (by kernel_rfl) fun R hR => ?_; simp only [go_sem, s17, hm2, b.s4, b.s5, b.a0, hne, ho, beq_self_eq_true])
        | (refine hR _ ?_; clear hR R; try simp only [thenA, inBlockA, reduceIte, reduceCtorEq, Nat.reduceEqDiff, if_false, if_true])
        | (refine hK _ ?_; clear hK K)
        | (clear hK K; refine hK _ ?_; clear hK K)
        | (clear hK K; clear hK K; refine hK _ ?_; clear hK K)
        | (clear hK K; clear hK K; clear hK K; refine hK _ ?_; clear hK K)
        | (clear hK K; clear hK K; clear hK K; clear hK K; refine hK _ ?_; clear hK K)
        | refine awp_true rfl rfl ?_
        | refine awp_false rfl rfl ?_
        | (refine awp_cond rfl rfl (fun hc => ?_) (fun hc => ?_) <;> (try simp only [go_sem, s17, hm2, b.s4, b.s5, b.a0, hne, ho, beq_self_eq_true] at hc) <;> (try (exfalso; omega)))
        | refine awp_block ?_
        | (refine awp_skip ?_; try simp only [thenA, inBlockA, reduceIte, reduceCtorEq, Nat.reduceEqDiff, if_false, if_true])
        | (refine awp_exit ?_; try simp only [thenA, inBlockA, reduceIte, reduceCtorEq, Nat.reduceEqDiff, if_false, if_true])
        | (refine awp_ret ?_; try simp only [thenA, inBlockA, reduceIte, reduceCtorEq, Nat.reduceEqDiff, if_false, if_true])
        | (refine runL_split ?_ (fun hc => ?_) (fun hc => ?_); (simp only [go_sem, s17, hm2, b.s4, b.s5, b.a0, hne, ho, beq_self_eq_true]; exact rfl); all_goals (try simp only [go_sem, hc, s17, hm2, b.s4, b.s5, b.a0, hne, ho, beq_self_eq_true]); all_goals (try simp only [go_sem, s17, hm2, b.s4, b.s5, b.a0, hne, ho, beq_self_eq_true] at hc); all_goals (try (exfalso; omega)))
        | (refine runD_split ?_ (fun hc => ?_) (fun hc => ?_); (simp only [go_sem, s17, hm2, b.s4, b.s5, b.a0, hne, ho, beq_self_eq_true]; exact rfl); all_goals (try simp only [go_sem, hc, s17, hm2, b.s4, b.s5, b.a0, hne, ho, beq_self_eq_true]); all_goals (try simp only [go_sem, s17, hm2, b.s4, b.s5, b.a0, hne, ho, beq_self_eq_true] at hc); all_goals (try (exfalso; omega)))
        | (first | (refine CallK.pure (enter24) (hcc) ?_ ?_; (focus first | ((repeat (first | exact trivial | refine ⟨(by first | exact Or.inl rfl | exact Or.inr rfl), ?_⟩)); done) | (simp only [coL, AV.dat, true_or, or_true, AV.d.injEq, go_sem]; done)); simp only [go_sem, s17, hm2, b.s4, b.s5, b.a0, hne, ho, beq_self_eq_true]) | (refine CallD.pure (enter24) (hcc) ?_ ?_; (focus first | ((repeat (first | exact trivial | refine ⟨(by first | exact Or.inl rfl | exact Or.inr rfl), ?_⟩)); done) | (simp only [coL, AV.dat, true_or, or_true, AV.d.injEq, go_sem]; done)); simp only [go_sem, s17, hm2, b.s4, b.s5, b.a0, hne, ho, beq_self_eq_true]))
        | refine And.intro (by first | omega | exact trivial | rfl | assumption | (apply map_sz; intro a; simp only [go_sem]; done) | ((and_intros <;> first | omega | exact trivial | rfl | assumption | (apply map_sz; intro a; simp only [go_sem]; done) | fail); done) | fail) ?_
        | fail)
      · exact (by constructor <;> first | (simp only [go_sem, b.s3, b.s4, b.s5, b.s6, b.s7, b.s11, b.s12, b.s13, b.s14, b.s15, b.a0, b.a1, b.a2, hne]; done) | (simp only [go_sem]; omega) | (dsimp only; omega) | exact (by repeat (first | exact Fr.rfl' _ _ | assumption | refine Fr.updk ?_ (by omega) _)))
      all_goals simp only [go_sem, s16, s17, s18, s19]
    | true =>
      have ho2 : clsOk g [cl] = 0 := by simpa using ho
      obtain ⟨hc8, hc⟩ := clsOk_one ho2
      have hts := termsOf_size hc
      have hfv := firstVars_tri (termsOf cl) (by omega)
      have hto := termsOf_tri cl hcl
      have hlen := firstVars_len (termsOf cl)
      cases h8 : decide (((firstVars (termsOf cl)).length : Int) > 8) with
      | true =>
        have hh : hldAns g sz tb cl = (false, 2) := by unfold hldAns; rw [if_neg (by simp [hm2]), if_neg (by simp [ho2]), if_pos (by simp at h8; omega)]
        rw [hh] at fin
        repeat' (first
          | refine fin _ ?_ ?_ ?_ ?_ ?_ rfl rfl
          | refine awp_seq_k fun K hK => ?_
          | (refine awp_region_k (by kernel_rfl) fun R hR => ?_; simp only [go_sem, s17, hm2, b.s4, b.s5, b.a0, hne, ho2, h8, beq_self_eq_true])
          | (refine awp_draw mixed (by kernel_rfl) (by kernel_rfl) fun R hR => ?_; simp only [go_sem, s17, hm2, b.s4, b.s5, b.a0, hne, ho2, h8, beq_self_eq_true])
          | (refine hR _ ?_; clear hR R; try simp only [thenA, inBlockA, reduceIte, reduceCtorEq, Nat.reduceEqDiff, if_false, if_true])
          | (refine hK _ ?_; clear hK K)
          | (clear hK K; refine hK _ ?_; clear hK K)
          | (clear hK K; clear hK K; refine hK _ ?_; clear hK K)
          | (clear hK K; clear hK K; clear hK K; refine hK _ ?_; clear hK K)
          | (clear hK K; clear hK K; clear hK K; clear hK K; refine hK _ ?_; clear hK K)
          | refine awp_true rfl rfl ?_
          | refine awp_false rfl rfl ?_
          | (refine awp_cond rfl rfl (fun hc => ?_) (fun hc => ?_) <;> (try simp only [go_sem, s17, hm2, b.s4, b.s5, b.a0, hne, ho2, h8, beq_self_eq_true] at hc) <;> (try (exfalso; omega)))
          | refine awp_block ?_
          | (refine awp_skip ?_; try simp only [thenA, inBlockA, reduceIte, reduceCtorEq, Nat.reduceEqDiff, if_false, if_true])
          | (refine awp_exit ?_; try simp only [thenA, inBlockA, reduceIte, reduceCtorEq, Nat.reduceEqDiff, if_false, if_true])
          | (refine awp_ret ?_; try simp only [thenA, inBlockA, reduceIte, reduceCtorEq, Nat.reduceEqDiff, if_false, if_true])
          | (refine runL_split ?_ (fun hc => ?_) (fun hc => ?_); (simp only [go_sem, s17, hm2, b.s4, b.s5, b.a0, hne, ho2, h8, beq_self_eq_true]; exact rfl); all_goals (try simp only [go_sem, hc, s17, hm2, b.s4, b.s5, b.a0, hne, ho2, h8, beq_self_eq_true]); all_goals (try simp only [go_sem, s17, hm2, b.s4, b.s5, b.a0, hne, ho2, h8, beq_self_eq_true] at hc); all_goals (try (exfalso; omega)))
          | (refine runD_split ?_ (fun hc => ?_) (fun hc => ?_); (simp only [go_sem, s17, hm2, b.s4, b.s5, b.a0, hne, ho2, h8, beq_self_eq_true]; exact rfl); all_goals (try simp only [go_sem, hc, s17, hm2, b.s4, b.s5, b.a0, hne, ho2, h8, beq_self_eq_true]); all_goals (try simp only [go_sem, s17, hm2, b.s4, b.s5, b.a0, hne, ho2, h8, beq_self_eq_true] at hc); all_goals (try (exfalso; omega)))
          | (first | (refine CallK.pure (enter24) (hcc) ?_ ?_; (focus first | ((repeat (first | exact trivial | refine ⟨(by first | exact Or.inl rfl | exact Or.inr rfl), ?_⟩)); done) | (simp only [coL, AV.dat, true_or, or_true, AV.d.injEq, go_sem]; done)); simp only [go_sem, s17, hm2, b.s4, b.s5, b.a0, hne, ho2, h8, beq_self_eq_true]) | (refine CallD.pure (enter24) (hcc) ?_ ?_; (focus first | ((repeat (first | exact trivial | refine ⟨(by first | exact Or.inl rfl | exact Or.inr rfl), ?_⟩)); done) | (simp only [coL, AV.dat, true_or, or_true, AV.d.injEq, go_sem]; done)); simp only [go_sem, s17, hm2, b.s4, b.s5, b.a0, hne, ho2, h8, beq_self_eq_true]))
          | (first | (refine CallK.pure (enter25) (hto) ?_ ?_; (focus first | ((repeat (first | exact trivial | refine ⟨(by first | exact Or.inl rfl | exact Or.inr rfl), ?_⟩)); done) | (simp only [coL, AV.dat, true_or, or_true, AV.d.injEq, go_sem]; done)); simp only [go_sem, s17, hm2, b.s4, b.s5, b.a0, hne, ho2, h8, beq_self_eq_true]) | (refine CallD.pure (enter25) (hto) ?_ ?_; (focus first | ((repeat (first | exact trivial | refine ⟨(by first | exact Or.inl rfl | exact Or.inr rfl), ?_⟩)); done) | (simp only [coL, AV.dat, true_or, or_true, AV.d.injEq, go_sem]; done)); simp only [go_sem, s17, hm2, b.s4, b.s5, b.a0, hne, ho2, h8, beq_self_eq_true]))
          | (first | (refine CallK.pure (enter22) (hfv) ?_ ?_; (focus first | ((repeat (first | exact trivial | refine ⟨(by first | exact Or.inl rfl | exact Or.inr rfl), ?_⟩)); done) | (simp only [coL, AV.dat, true_or, or_true, AV.d.injEq, go_sem]; done)); simp only [go_sem, s17, hm2, b.s4, b.s5, b.a0, hne, ho2, h8, beq_self_eq_true]) | (refine CallD.pure (enter22) (hfv) ?_ ?_; (focus first | ((repeat (first | exact trivial | refine ⟨(by first | exact Or.inl rfl | exact Or.inr rfl), ?_⟩)); done) | (simp only [coL, AV.dat, true_or, or_true, AV.d.injEq, go_sem]; done)); simp only [go_sem, s17, hm2, b.s4, b.s5, b.a0, hne, ho2, h8, beq_self_eq_true]))
          | refine And.intro (by first | omega | exact trivial | rfl | assumption | (apply map_sz; intro a; simp only [go_sem]; done) | ((and_intros <;> first | omega | exact trivial | rfl | assumption | (apply map_sz; intro a; simp only [go_sem]; done) | fail); done) | fail) ?_
          | fail)
        · exact (by constructor <;> first | (simp only [go_sem, b.s3, b.s4, b.s5, b.s6, b.s7, b.s11, b.s12, b.s13, b.s14, b.s15, b.a0, b.a1, b.a2, hne]; done) | (simp only [go_sem]; omega) | (dsimp only; omega) | exact (by repeat (first | exact Fr.rfl' _ _ | assumption | refine Fr.updk ?_ (by omega) _)))
        all_goals simp only [go_sem, s16, s17, s18, s19]
      | false =>
        have h8' : ¬ (firstVars (termsOf cl)).length > 8 := by simp at h8; omega
        have hh : hldAns g sz tb cl = (holdsC sz tb cl, 0) := by unfold hldAns; rw [if_neg (by simp [hm2]), if_neg (by simp [ho2]), if_neg h8']
        rw [hh] at fin
        have hho := holdsOf_tri hm2 hc8 hc (by omega)
        repeat' (first
          | refine fin _ ?_ ?_ ?_ ?_ ?_ rfl rfl
          | refine awp_seq_k fun K hK => ?_
          | (refine awp_region_k (by kernel_rfl) fun R hR => ?_; simp only [go_sem, s17, hm2, b.s4, b.s5, b.s6, b.a0, b.a1, hne, ho2, h8, beq_self_eq_true])
          | (refine awp_draw mixed (by kernel_rfl) (by kernel_rfl) fun R hR => ?_; simp only [go_sem, s17, hm2, b.s4, b.s5, b.s6, b.a0, b.a1, hne, ho2, h8, beq_self_eq_true])
          | (refine hR _ ?_; clear hR R; try simp only [thenA, inBlockA, reduceIte, reduceCtorEq, Nat.reduceEqDiff, if_false, if_true])
          | (refine hK _ ?_; clear hK K)
          | (clear hK K; refine hK _ ?_; clear hK K)
          | (clear hK K; clear hK K; refine hK _ ?_; clear hK K)
          | (clear hK K; clear hK K; clear hK K; refine hK _ ?_; clear hK K)
          | (clear hK K; clear hK K; clear hK K; clear hK K; refine hK _ ?_; clear hK K)
          | refine awp_true rfl rfl ?_
          | refine awp_false rfl rfl ?_
          | (refine awp_cond rfl rfl (fun hc => ?_) (fun hc => ?_) <;> (try simp only [go_sem, s17, hm2, b.s4, b.s5, b.s6, b.a0, b.a1, hne, ho2, h8, beq_self_eq_true] at hc) <;> (try (exfalso; omega)))
          | refine awp_block ?_
          | (refine awp_skip ?_; try simp only [thenA, inBlockA, reduceIte, reduceCtorEq, Nat.reduceEqDiff, if_false, if_true])
          | (refine awp_exit ?_; try simp only [thenA, inBlockA, reduceIte, reduceCtorEq, Nat.reduceEqDiff, if_false, if_true])
          | (refine awp_ret ?_; try simp only [thenA, inBlockA, reduceIte, reduceCtorEq, Nat.reduceEqDiff, if_false, if_true])
          | (refine runL_split ?_ (fun hc => ?_) (fun hc => ?_); (simp only [go_sem, s17, hm2, b.s4, b.s5, b.s6, b.a0, b.a1, hne, ho2, h8, beq_self_eq_true]; exact rfl); all_goals (try simp only [go_sem, hc, s17, hm2, b.s4, b.s5, b.s6, b.a0, b.a1, hne, ho2, h8, beq_self_eq_true]); all_goals (try simp only [go_sem, s17, hm2, b.s4, b.s5, b.s6, b.a0, b.a1, hne, ho2, h8, beq_self_eq_true] at hc); all_goals (try (exfalso; omega)))
          | (refine runD_split ?_ (fun hc => ?_) (fun hc => ?_); (simp only [go_sem, s17, hm2, b.s4, b.s5, b.s6, b.a0, b.a1, hne, ho2, h8, beq_self_eq_true]; exact rfl); all_goals (try simp only [go_sem, hc, s17, hm2, b.s4, b.s5, b.s6, b.a0, b.a1, hne, ho2, h8, beq_self_eq_true]); all_goals (try simp only [go_sem, s17, hm2, b.s4, b.s5, b.s6, b.a0, b.a1, hne, ho2, h8, beq_self_eq_true] at hc); all_goals (try (exfalso; omega)))
          | (first | (refine CallK.pure (enter24) (hcc) ?_ ?_; (focus first | ((repeat (first | exact trivial | refine ⟨(by first | exact Or.inl rfl | exact Or.inr rfl), ?_⟩)); done) | (simp only [coL, AV.dat, true_or, or_true, AV.d.injEq, go_sem]; done)); simp only [go_sem, s17, hm2, b.s4, b.s5, b.s6, b.a0, b.a1, hne, ho2, h8, beq_self_eq_true]) | (refine CallD.pure (enter24) (hcc) ?_ ?_; (focus first | ((repeat (first | exact trivial | refine ⟨(by first | exact Or.inl rfl | exact Or.inr rfl), ?_⟩)); done) | (simp only [coL, AV.dat, true_or, or_true, AV.d.injEq, go_sem]; done)); simp only [go_sem, s17, hm2, b.s4, b.s5, b.s6, b.a0, b.a1, hne, ho2, h8, beq_self_eq_true]))
          | (first | (refine CallK.pure (enter25) (hto) ?_ ?_; (focus first | ((repeat (first | exact trivial | refine ⟨(by first | exact Or.inl rfl | exact Or.inr rfl), ?_⟩)); done) | (simp only [coL, AV.dat, true_or, or_true, AV.d.injEq, go_sem]; done)); simp only [go_sem, s17, hm2, b.s4, b.s5, b.s6, b.a0, b.a1, hne, ho2, h8, beq_self_eq_true]) | (refine CallD.pure (enter25) (hto) ?_ ?_; (focus first | ((repeat (first | exact trivial | refine ⟨(by first | exact Or.inl rfl | exact Or.inr rfl), ?_⟩)); done) | (simp only [coL, AV.dat, true_or, or_true, AV.d.injEq, go_sem]; done)); simp only [go_sem, s17, hm2, b.s4, b.s5, b.s6, b.a0, b.a1, hne, ho2, h8, beq_self_eq_true]))
          | (first | (refine CallK.pure (enter22) (hfv) ?_ ?_; (focus first | ((repeat (first | exact trivial | refine ⟨(by first | exact Or.inl rfl | exact Or.inr rfl), ?_⟩)); done) | (simp only [coL, AV.dat, true_or, or_true, AV.d.injEq, go_sem]; done)); simp only [go_sem, s17, hm2, b.s4, b.s5, b.s6, b.a0, b.a1, hne, ho2, h8, beq_self_eq_true]) | (refine CallD.pure (enter22) (hfv) ?_ ?_; (focus first | ((repeat (first | exact trivial | refine ⟨(by first | exact Or.inl rfl | exact Or.inr rfl), ?_⟩)); done) | (simp only [coL, AV.dat, true_or, or_true, AV.d.injEq, go_sem]; done)); simp only [go_sem, s17, hm2, b.s4, b.s5, b.s6, b.a0, b.a1, hne, ho2, h8, beq_self_eq_true]))
          | (first | (refine CallK.pure (enter26) (hho) ?_ ?_; (focus first | ((repeat (first | exact trivial | refine ⟨(by first | exact Or.inl rfl | exact Or.inr rfl), ?_⟩)); done) | (simp only [coL, AV.dat, true_or, or_true, AV.d.injEq, go_sem]; done)); simp only [go_sem, s17, hm2, b.s4, b.s5, b.s6, b.a0, b.a1, hne, ho2, h8, beq_self_eq_true]) | (refine CallD.pure (enter26) (hho) ?_ ?_; (focus first | ((repeat (first | exact trivial | refine ⟨(by first | exact Or.inl rfl | exact Or.inr rfl), ?_⟩)); done) | (simp only [coL, AV.dat, true_or, or_true, AV.d.injEq, go_sem]; done)); simp only [go_sem, s17, hm2, b.s4, b.s5, b.s6, b.a0, b.a1, hne, ho2, h8, beq_self_eq_true]))
          | refine And.intro (by first | omega | exact trivial | rfl | assumption | (apply map_sz; intro a; simp only [go_sem]; done) | ((and_intros <;> first | omega | exact trivial | rfl | assumption | (apply map_sz; intro a; simp only [go_sem]; done) | fail); done) | fail) ?_
          | fail)
        · exact (by constructor <;> first | (simp only [go_sem, b.s3, b.s4, b.s5, b.s6, b.s7, b.s11, b.s12, b.s13, b.s14, b.s15, b.a0, b.a1, b.a2, hne]; done) | (simp only [go_sem]; omega) | (dsimp only; omega) | exact (by repeat (first | exact Fr.rfl' _ _ | assumption | refine Fr.updk ?_ (by omega) _)))
        all_goals simp only [go_sem, s16, s17, s18, s19]
/-- What the value's errno is, behind the variables. -/
def e3 (g : List Int) (sz : Int) (tb : List (List Int)) (t : Tm) (vars : List Int) (e : Int) : Prop := valAns g sz tb t vars = if e = 0 then (valM sz tb (byL vars) t, 0) else (0, e)
set_option maxHeartbeats 1000000 in
set_option maxRecDepth 20000 in
theorem mt_20 (σ : St) (b : MB g sz tb t vars cl k h0 σ) (e : Int) (he : e3 g sz tb t vars e) (hok : e = 0 → mdOk g sz tb = 0 ∧ Fine g sz (byL vars) (parts t) ∧ ∀ x ∈ parts t, x.v > 0 → x.v ≤ vars.length) (s16 : σ.t 16 = iA e) (s17 : σ.t 17 = iA (mdOk g sz tb)) (s18 : σ.t 18 = iA 0) (s19 : σ.t 19 = bA false)
    {N : Nat} {c : Code} (hN : (Try.f4).ntmps = N) (hc : bodyAt (Try.f4) [true,true,true,true,true,true,true,true,true] = some c) : awp Try.prog w0 N c (retQ Try.prog fn (pure' (bA true)) h0 k) σ := by
  have fin := fun σ b => mt_22 (w0 := w0) hfn hl hr hcl ht hvl (k := k) (h0 := h0) (g := g) (sz := sz) (tb := tb) (t := t) (vars := vars) (cl := cl) σ b
  obtain rfl := (Try.ntmps4).symm.trans hN; obtain rfl := Option.some.inj (show some _ = some c from hc); clear hN hc
  have hF := b.fr
  have hkk := b.kk
  have hne := ltne hkk
  unfold e3 at he
  cases hm : e == 0 with
  | true =>
    have hm2 : e = 0 := by simpa using hm
    subst hm2
    rw [if_pos rfl] at he
    rw [he] at fin
    obtain ⟨h1, h2, h3⟩ := hok rfl
    have hv := valueOf_lists h1 (0, 0) hvl t h2 h3
    repeat' (first
      | refine fin _ ?_ ?_ ?_ ?_ ?_ rfl rfl
      | refine awp_seq_k fun K hK => ?_
      | (refine awp_region_k (by kernel_rfl) fun R hR => ?_; simp only [go_sem, s16, b.s3, b.s6, b.s7, b.a1, b.a2, hne, beq_self_eq_true])
      | (refine awp_draw mixed (by kernel_rfl) (by kernel_rfl) fun R hR => ?_; simp only [go_sem, s16, b.s3, b.s6, b.s7, b.a1, b.a2, hne, beq_self_eq_true])
      | (refine hR _ ?_; clear hR R; try simp only [thenA, inBlockA, reduceIte, reduceCtorEq, Nat.reduceEqDiff, if_false, if_true])
      | (refine hK _ ?_; clear hK K)
      | (clear hK K; refine hK _ ?_; clear hK K)
      | (clear hK K; clear hK K; refine hK _ ?_; clear hK K)
      | (clear hK K; clear hK K; clear hK K; refine hK _ ?_; clear hK K)
      | (clear hK K; clear hK K; clear hK K; clear hK K; refine hK _ ?_; clear hK K)
      | refine awp_true rfl rfl ?_
      | refine awp_false rfl rfl ?_
      | (refine awp_cond rfl rfl (fun hc => ?_) (fun hc => ?_) <;> (try simp only [go_sem, s16, b.s3, b.s6, b.s7, b.a1, b.a2, hne, beq_self_eq_true] at hc) <;> (try (exfalso; omega)))
      | refine awp_block ?_
      | (refine awp_skip ?_; try simp only [thenA, inBlockA, reduceIte, reduceCtorEq, Nat.reduceEqDiff, if_false, if_true])
      | (refine awp_exit ?_; try simp only [thenA, inBlockA, reduceIte, reduceCtorEq, Nat.reduceEqDiff, if_false, if_true])
      | (refine awp_ret ?_; try simp only [thenA, inBlockA, reduceIte, reduceCtorEq, Nat.reduceEqDiff, if_false, if_true])
      | (refine runL_split ?_ (fun hc => ?_) (fun hc => ?_); (simp only [go_sem, s16, b.s3, b.s6, b.s7, b.a1, b.a2, hne, beq_self_eq_true]; exact rfl); all_goals (try simp only [go_sem, hc, s16, b.s3, b.s6, b.s7, b.a1, b.a2, hne, beq_self_eq_true]); all_goals (try simp only [go_sem, s16, b.s3, b.s6, b.s7, b.a1, b.a2, hne, beq_self_eq_true] at hc); all_goals (try (exfalso; omega)))
      | (refine runD_split ?_ (fun hc => ?_) (fun hc => ?_); (simp only [go_sem, s16, b.s3, b.s6, b.s7, b.a1, b.a2, hne, beq_self_eq_true]; exact rfl); all_goals (try simp only [go_sem, hc, s16, b.s3, b.s6, b.s7, b.a1, b.a2, hne, beq_self_eq_true]); all_goals (try simp only [go_sem, s16, b.s3, b.s6, b.s7, b.a1, b.a2, hne, beq_self_eq_true] at hc); all_goals (try (exfalso; omega)))
      | (first | (refine CallK.pure (enter23) (hv) ?_ ?_; (focus first | ((repeat (first | exact trivial | refine ⟨(by first | exact Or.inl rfl | exact Or.inr rfl), ?_⟩)); done) | (simp only [coL, AV.dat, true_or, or_true, AV.d.injEq, go_sem]; done)); simp only [go_sem, s16, b.s3, b.s6, b.s7, b.a1, b.a2, hne, beq_self_eq_true]) | (refine CallD.pure (enter23) (hv) ?_ ?_; (focus first | ((repeat (first | exact trivial | refine ⟨(by first | exact Or.inl rfl | exact Or.inr rfl), ?_⟩)); done) | (simp only [coL, AV.dat, true_or, or_true, AV.d.injEq, go_sem]; done)); simp only [go_sem, s16, b.s3, b.s6, b.s7, b.a1, b.a2, hne, beq_self_eq_true]))
      | refine And.intro (by first | omega | exact trivial | rfl | assumption | (apply map_sz; intro a; simp only [go_sem]; done) | ((and_intros <;> first | omega | exact trivial | rfl | assumption | (apply map_sz; intro a; simp only [go_sem]; done) | fail); done) | fail) ?_
      | fail)
    · exact (by constructor <;> first | (simp only [go_sem, b.s3, b.s4, b.s5, b.s6, b.s7, b.s11, b.s12, b.s13, b.s14, b.s15, b.a0, b.a1, b.a2, hne]; done) | (simp only [go_sem]; omega) | (dsimp only; omega) | exact (by repeat (first | exact Fr.rfl' _ _ | assumption | refine Fr.updk ?_ (by omega) _)))
    all_goals simp only [go_sem, s16, s17, s18, s19]
  | false =>
    rw [if_neg (by simpa using hm)] at he
    rw [he] at fin
    repeat' (first
      | refine fin _ ?_ ?_ ?_ ?_ ?_ rfl rfl
      | refine awp_seq_k fun K hK => ?_
      | (refine awp_region_k (by kernel_rfl) fun R hR => ?_; simp only [go_sem, s16, hm, hne])
      | (refine awp_draw mixed (by kernel_rfl) (by kernel_rfl) fun R hR => ?_; simp only [go_sem, s16, hm, hne])
      | (refine hR _ ?_; clear hR R; try simp only [thenA, inBlockA, reduceIte, reduceCtorEq, Nat.reduceEqDiff, if_false, if_true])
      | (refine hK _ ?_; clear hK K)
      | (clear hK K; refine hK _ ?_; clear hK K)
      | (clear hK K; clear hK K; refine hK _ ?_; clear hK K)
      | (clear hK K; clear hK K; clear hK K; refine hK _ ?_; clear hK K)
      | (clear hK K; clear hK K; clear hK K; clear hK K; refine hK _ ?_; clear hK K)
      | refine awp_true rfl rfl ?_
      | refine awp_false rfl rfl ?_
      | (refine awp_cond rfl rfl (fun hc => ?_) (fun hc => ?_) <;> (try simp only [go_sem, s16, hm, hne] at hc) <;> (try (exfalso; omega)))
      | refine awp_block ?_
      | (refine awp_skip ?_; try simp only [thenA, inBlockA, reduceIte, reduceCtorEq, Nat.reduceEqDiff, if_false, if_true])
      | (refine awp_exit ?_; try simp only [thenA, inBlockA, reduceIte, reduceCtorEq, Nat.reduceEqDiff, if_false, if_true])
      | (refine awp_ret ?_; try simp only [thenA, inBlockA, reduceIte, reduceCtorEq, Nat.reduceEqDiff, if_false, if_true])
      | (refine runL_split ?_ (fun hc => ?_) (fun hc => ?_); (simp only [go_sem, s16, hm, hne]; exact rfl); all_goals (try simp only [go_sem, hc, s16, hm, hne]); all_goals (try simp only [go_sem, s16, hm, hne] at hc); all_goals (try (exfalso; omega)))
      | (refine runD_split ?_ (fun hc => ?_) (fun hc => ?_); (simp only [go_sem, s16, hm, hne]; exact rfl); all_goals (try simp only [go_sem, hc, s16, hm, hne]); all_goals (try simp only [go_sem, s16, hm, hne] at hc); all_goals (try (exfalso; omega)))
      | refine And.intro (by first | omega | exact trivial | rfl | assumption | (apply map_sz; intro a; simp only [go_sem]; done) | ((and_intros <;> first | omega | exact trivial | rfl | assumption | (apply map_sz; intro a; simp only [go_sem]; done) | fail); done) | fail) ?_
      | fail)
    · exact (by constructor <;> first | (simp only [go_sem, b.s3, b.s4, b.s5, b.s6, b.s7, b.s11, b.s12, b.s13, b.s14, b.s15, b.a0, b.a1, b.a2, hne]; done) | (simp only [go_sem]; omega) | (dsimp only; omega) | exact (by repeat (first | exact Fr.rfl' _ _ | assumption | refine Fr.updk ?_ (by omega) _)))
    all_goals simp only [go_sem, s16, s17, s18, s19]
end
end Go.Proofs.Ytmeekpinkfpnhaa
