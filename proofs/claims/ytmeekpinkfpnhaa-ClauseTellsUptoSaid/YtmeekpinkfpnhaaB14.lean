/- superposeref.HoldsOf. The law ModelTells: what must be in any case. Substitutions, and clauses that subsume others: what is plain. No program in sight. Variables numbered anew; what is tidied twice is tidied once: what is plain. No program in sight. The law ClauseTells: its walk. -/
import Derived.Test.YtmeekpinkfpnhaaB13
set_option linter.unusedSimpArgs false
set_option linter.unusedSectionVars false
set_option linter.unusedVariables false
set_option linter.unnecessarySimpa false
set_option linter.all false
namespace Go.Proofs.Ytmeekpinkfpnhaa
open Go.RowKit
set_option linter.unusedSimpArgs false
set_option linter.unusedSectionVars false

theorem roAr {n : Nm} {vars : List Int} {k : Nat} {h : Heap} (hn : n.1 < k) (e : h n = some (.cells 3 (vars.map iA))) : RoOK k (arO n vars) h := ⟨fun x hx => by
  simp only [arO, List.mem_cons, List.not_mem_nil, or_false] at hx; subst hx; exact ⟨hn, e⟩⟩
theorem byL_set {vars : List Int} {x d v : Int} (hx : 1 ≤ x) (hx2 : x ≤ vars.length) (hv : 1 ≤ v) : byL (vars.set (x - 1).toNat d) v = if v = x then d else byL vars v := by
  unfold byL
  rw [List.getD_eq_getElem?_getD, List.getD_eq_getElem?_getD, List.getElem?_set]
  by_cases h : v = x
  · subst h
    rw [if_pos rfl, if_pos rfl, if_pos (by omega)]; rfl
  · rw [if_neg h, if_neg (by omega)]
theorem step_A {names : List Int} (hnd : names.Nodup) {i : Nat} (hi : i < names.length) {sz ni n : Int} {vars : List Int} (hl : vars.length = 1000) (hin : ∀ v ∈ names, 1 ≤ v ∧ v ≤ 1000) (uI : ∀ v ∈ names.take i, byL vars v = dig sz names n v) (uD : ∀ v ∈ names.drop i, dig sz (names.drop i) ni v = dig sz names n v) :
    ∀ v ∈ names.take (i + 1), byL (vars.set (names[i] - 1).toNat (ni.tmod sz)) v = dig sz names n v := by
  intro v hv
  have h1 := hin names[i] (List.getElem_mem hi)
  have h2 := hin v (List.mem_of_mem_take hv)
  rw [byL_set h1.1 (by omega) h2.1]
  rw [List.take_succ_eq_append_getElem hi, List.mem_append] at hv
  rcases hv with hv | hv
  · rw [if_neg ((nd_at hnd hi).1 v hv)]; exact uI v hv
  · simp at hv
    subst hv
    rw [if_pos rfl]
    have := uD names[i] (by rw [List.drop_eq_getElem_cons hi]; exact List.mem_cons_self ..)
    rw [List.drop_eq_getElem_cons hi, dig, if_pos rfl] at this
    exact this
set_option maxHeartbeats 4000000 in
set_option maxRecDepth 20000 in
theorem holdsOf_tri {g : List Int} {sz : Int} {tb : List (List Int)} {c : List Lt} (hm2 : mdOk g sz tb = 0) (hc8 : c.length ≤ 8) (hc : ∀ l ∈ c, own g l.a = 0 ∧ own g l.b = 0) (h8 : (firstVars (termsOf c)).length ≤ 8) :
    Tri Try.prog 26 [.d (mdDV sz tb), .d (clDV c)] (pure' (bA (holdsC sz tb c))) := by
  have hts := termsOf_size hc
  have hfv := firstVars_tri (termsOf c) (by omega)
  have hin := names_in hc
  have hnd : (firstVars (termsOf c)).Nodup := addVs_nodup List.nodup_nil
  have hC : ∀ N : Nat, N = (sz ^ (firstVars (termsOf c)).length).toNat → holdsC sz tb c = holdsF sz tb c (firstVars (termsOf c)) N 0 := fun N h => by rw [h]; rfl
  have hfine := fun (n : Int) (hn : 0 ≤ n) (l : Lt) (hl : l ∈ c) => fine_lit (mdOk_all hm2).2.1 hn hc hl
  generalize hnames : firstVars (termsOf c) = names at *
  obtain ⟨m1, m2, m3, _⟩ := mdOk_all hm2
  have pw := powerOf_tri (n := sz) (by omega) (by omega) (j := names.length) (by omega)
  obtain ⟨p1, p2⟩ := pw_le (n := sz) (by omega) (by omega) (i := names.length) (by omega)
  obtain ⟨N, hN⟩ : ∃ N : Nat, sz ^ names.length = (N : Int) := ⟨(sz ^ names.length).toNat, by omega⟩
  rw [hN] at pw p1 p2
  have hC := hC N (by rw [hN]; rfl)
  refine tri_enter Try.func26 rfl Try.ntmps26 (by simp only [List.length_cons, List.length_nil]; omega) fun w0 h0 k hrd hwr => ?_
  repeat' (first
    | refine awp_seq_k fun K hK => ?_
    | ((first | refine awp_region_k (by kernel_rfl) fun R hR => ?_ | refine awp_draw mixed (by kernel_rfl) (by kernel_rfl) fun R hR => ?_); simp only [go_sem, List.flatten_replicate_singleton])
    | ((first | (refine hR _ ?_; clear hR R) | refine awp_skip ?_ | refine awp_exit ?_ | refine awp_ret ?_); try simp only [thenA, inBlockA, reduceIte, reduceCtorEq, Nat.reduceEqDiff, if_false, if_true])
    | ((first | refine hK _ ?_ | (clear hK K; first | refine hK _ ?_ | (clear hK K; first | refine hK _ ?_ | (clear hK K; first | refine hK _ ?_ | (clear hK K; refine hK _ ?_))))); clear hK K)
    | refine awp_true rfl rfl ?_
    | refine awp_false rfl rfl ?_
    | refine awp_block ?_
    | ((first | refine CallK.pure (enter25) (termsOf_tri c (by omega)) ?_ ?_ | refine CallD.pure (enter25) (termsOf_tri c (by omega)) ?_ ?_); (focus first | ((repeat (first | exact trivial | refine ⟨(by first | exact Or.inl rfl | exact Or.inr rfl), ?_⟩)); done) | (simp only [coL, AV.dat, true_or, or_true, AV.d.injEq, go_sem]; done)); simp only [go_sem, List.flatten_replicate_singleton])
    | ((first | refine CallK.pure (enter22) (hfv) ?_ ?_ | refine CallD.pure (enter22) (hfv) ?_ ?_); (focus first | ((repeat (first | exact trivial | refine ⟨(by first | exact Or.inl rfl | exact Or.inr rfl), ?_⟩)); done) | (simp only [coL, AV.dat, true_or, or_true, AV.d.injEq, go_sem]; done)); simp only [go_sem, List.flatten_replicate_singleton])
    | refine And.intro (by first | omega | exact trivial | rfl | assumption | (apply map_sz; intro a; simp only [go_sem]; done) | ((and_intros <;> first | omega | exact trivial | rfl | assumption | (apply map_sz; intro a; simp only [go_sem]; done) | fail); done) | fail) ?_
    | fail)
  refine awp_loop (fun σ => ∃ (n : Nat) (vars : List Int), σ.t 1 = .d (clDV c) ∧ σ.t 2 = .ptr (k, 0) 0 ∧ σ.t 5 = .d (.sl (names.map iD)) ∧ σ.t 6 = .arr (k + 1 + 1, 0) 0 1000 ∧ σ.t 7 = iA n ∧ vars.length = 1000 ∧ σ.h (k, 0) = some (.cells 39 [iA sz, .d (.sl (tb.map gI))]) ∧ σ.h (k + 1 + 1, 0) = some (.cells 3 (vars.map iA)) ∧ Fr k h0 σ.h ∧ k + 1 + 1 < σ.k ∧ n ≤ N ∧ holdsF sz tb c names N n = holdsC sz tb c) (fun σ => N - (intOf' (σ.t 7)).toNat) ?_ ?_
  · refine ⟨0, List.replicate 1000 0, ?_⟩
    simp only [go_sem, List.map_replicate, List.length_replicate]
    and_intros; all_goals try (first | rfl | omega | assumption | ((repeat (first | exact Fr.rfl' _ _ | assumption | refine Fr.updk ?_ (by omega) _)); done))
    all_goals first | exact hC.symm | trace_state
  · rintro σ ⟨n, vars, s1, s2, s5, s6, s7, hvl, sh, sa, hF, hk, hn, hv⟩
    have hne := ltne (show k < σ.k by omega)
    have hne2 := ltne hk
    have s7' := s7
    rcases Nat.lt_or_ge n N with hlt | hge
    · have hz : (n : Int) < (N : Int) := by omega
      rw [holdsF_at hlt] at hv
      repeat' (first
        | refine awp_seq_k fun K hK => ?_
        | ((first | refine awp_region_k (by kernel_rfl) fun R hR => ?_ | refine awp_draw mixed (by kernel_rfl) (by kernel_rfl) fun R hR => ?_); simp only [go_sem, s1, s2, s5, s6, s7, sh, hz, hne])
        | ((first | (refine hR _ ?_; clear hR R) | refine awp_skip ?_ | refine awp_exit ?_ | refine awp_ret ?_); try simp only [thenA, inBlockA, reduceIte, reduceCtorEq, Nat.reduceEqDiff, if_false, if_true])
        | ((first | refine hK _ ?_ | (clear hK K; first | refine hK _ ?_ | (clear hK K; first | refine hK _ ?_ | (clear hK K; first | refine hK _ ?_ | (clear hK K; refine hK _ ?_))))); clear hK K)
        | refine awp_true rfl rfl ?_
        | refine awp_false rfl rfl ?_
        | refine awp_block ?_
        | ((first | refine CallK.pure (enter81) (pw) ?_ ?_ | refine CallD.pure (enter81) (pw) ?_ ?_); (focus first | ((repeat (first | exact trivial | refine ⟨(by first | exact Or.inl rfl | exact Or.inr rfl), ?_⟩)); done) | (simp only [coL, AV.dat, true_or, or_true, AV.d.injEq, go_sem]; done)); simp only [go_sem, s1, s2, s5, s6, s7, sh, hz, hne])
        | refine And.intro (by first | omega | exact trivial | rfl | assumption | (apply map_sz; intro a; simp only [go_sem]; done) | ((and_intros <;> first | omega | exact trivial | rfl | assumption | (apply map_sz; intro a; simp only [go_sem]; done) | fail); done) | fail) ?_
        | fail)
      refine awp_loop (fun τ => ∃ (i : Nat) (ni : Int) (vars : List Int), τ.t 1 = .d (clDV c) ∧ τ.t 2 = .ptr (k, 0) 0 ∧ τ.t 5 = .d (.sl (names.map iD)) ∧ τ.t 6 = .arr (k + 1 + 1, 0) 0 1000 ∧ τ.t 7 = iA n ∧ τ.t 8 = iA ni ∧ τ.t 9 = iA i ∧ vars.length = 1000 ∧ τ.h (k, 0) = some (.cells 39 [iA sz, .d (.sl (tb.map gI))]) ∧ τ.h (k + 1 + 1, 0) = some (.cells 3 (vars.map iA)) ∧ Fr k h0 τ.h ∧ k + 1 + 1 < τ.k ∧ i ≤ names.length ∧ 0 ≤ ni ∧ ni ≤ n ∧
        (∀ v ∈ names.take i, byL vars v = dig sz names n v) ∧ (∀ v ∈ names.drop i, dig sz (names.drop i) ni v = dig sz names n v)) (fun τ => names.length - (intOf' (τ.t 9)).toNat) ?_ ?_
      · refine ⟨0, n, vars, ?_⟩
        simp only [go_sem, s1, s2, s5, s6, s7, sh, sa, hne, hne2, List.drop_zero, List.take_zero]
        and_intros; all_goals try (first | rfl | omega | assumption | ((repeat (first | exact Fr.rfl' _ _ | assumption | refine Fr.updk ?_ (by omega) _)); done))
      · rintro τ ⟨i, ni, vars, u1, u2, u5, u6, u7, u8, u9, uvl, uh, ua, uF, uk, ui, u0, un, uI, uD⟩
        have hne' := ltne (show k < τ.k by omega)
        have hne2' := ltne uk
        rcases Nat.lt_or_ge i names.length with hlt' | hge'
        · have hz' : (i : Int) < (names.length : Int) := by omega
          have e1 : (names.map iD).getD i default = iD names[i] := nth_map iD hlt' _
          have hszne : ¬ (sz = 0) := by omega
          obtain ⟨d1, d2⟩ := tdiv_in u0 m2
          obtain ⟨b1, b2⟩ := hin _ (List.getElem_mem hlt')
          have hset : ∀ d : Int, (vars.map iA).set (names[i] - 1).toNat (iA d) = (vars.set (names[i] - 1).toNat d).map iA := fun d => by rw [List.map_set]
          have hz2 : names[i] - 1 < 1000 := by omega
          repeat' (first
            | refine awp_seq_k fun K hK => ?_
            | ((first | refine awp_region_k (by kernel_rfl) fun R hR => ?_ | refine awp_draw mixed (by kernel_rfl) (by kernel_rfl) fun R hR => ?_); simp only [go_sem, u1, u2, u5, u6, u7, u8, u9, uh, ua, hz', hz2, e1, hne', hne2', hszne, uvl, Int.toNat_natCast, List.length_map, Nat.mul_one])
            | ((first | (refine hR _ ?_; clear hR R) | refine awp_skip ?_ | refine awp_exit ?_ | refine awp_ret ?_); try simp only [thenA, inBlockA, reduceIte, reduceCtorEq, Nat.reduceEqDiff, if_false, if_true])
            | ((first | refine hK _ ?_ | (clear hK K; first | refine hK _ ?_ | (clear hK K; first | refine hK _ ?_ | (clear hK K; first | refine hK _ ?_ | (clear hK K; refine hK _ ?_))))); clear hK K)
            | refine awp_true rfl rfl ?_
            | refine awp_false rfl rfl ?_
            | refine awp_block ?_
            | refine And.intro (by first | omega | exact trivial | rfl | assumption | (apply map_sz; intro a; simp only [go_sem]; done) | ((and_intros <;> first | omega | exact trivial | rfl | assumption | (apply map_sz; intro a; simp only [go_sem]; done) | fail); done) | fail) ?_
            | fail)
          refine ⟨⟨i + 1, ni.tdiv sz, vars.set (names[i] - 1).toNat (ni.tmod sz), ?_⟩, ?_⟩
          rotate_left
          · simp only [go_sem, u1, u2, u5, u6, u7, u8, u9, uh, ua, hne', hne2', hset, List.length_set, uvl]; omega
          simp only [go_sem, u1, u2, u5, u6, u7, u8, u9, uh, ua, hne', hne2', hset, List.length_set, uvl]
          and_intros; all_goals try (first | rfl | omega | assumption | ((repeat (first | exact Fr.rfl' _ _ | assumption | refine Fr.updk ?_ (by omega) _)); done))
          · exact step_A hnd hlt' uvl hin uI uD
          · exact step_D hnd hlt' uD
        · have hz' : ¬ ((i : Int) < (names.length : Int)) := by omega
          obtain rfl : i = names.length := by omega
          rw [List.take_length] at uI
          clear uD un u0 ui s1 s2 s5 s6 s7 sh sa hvl
          repeat' (first
            | refine awp_seq_k fun K hK => ?_
            | ((first | refine awp_region_k (by kernel_rfl) fun R hR => ?_ | refine awp_draw mixed (by kernel_rfl) (by kernel_rfl) fun R hR => ?_); simp only [go_sem, u1, u2, u5, u6, u7, u8, u9, uh, ua, hz', hne', hne2'])
            | ((first | (refine hR _ ?_; clear hR R) | refine awp_skip ?_ | refine awp_exit ?_ | refine awp_ret ?_); try simp only [thenA, inBlockA, reduceIte, reduceCtorEq, Nat.reduceEqDiff, if_false, if_true])
            | ((first | refine hK _ ?_ | (clear hK K; first | refine hK _ ?_ | (clear hK K; first | refine hK _ ?_ | (clear hK K; first | refine hK _ ?_ | (clear hK K; refine hK _ ?_))))); clear hK K)
            | refine awp_true rfl rfl ?_
            | refine awp_false rfl rfl ?_
            | refine awp_block ?_
            | refine And.intro (by first | omega | exact trivial | rfl | assumption | (apply map_sz; intro a; simp only [go_sem]; done) | ((and_intros <;> first | omega | exact trivial | rfl | assumption | (apply map_sz; intro a; simp only [go_sem]; done) | fail); done) | fail) ?_
            | fail)
          refine awp_loop (fun υ => ∃ (j : Nat) (so : Bool), υ.t 1 = .d (clDV c) ∧ υ.t 2 = .ptr (k, 0) 0 ∧ υ.t 5 = .d (.sl (names.map iD)) ∧ υ.t 6 = .arr (k + 1 + 1, 0) 0 1000 ∧ υ.t 7 = iA n ∧ υ.t 10 = bA so ∧ υ.t 11 = iA j ∧ υ.h (k, 0) = some (.cells 39 [iA sz, .d (.sl (tb.map gI))]) ∧ υ.h (k + 1 + 1, 0) = some (.cells 3 (vars.map iA)) ∧ Fr k h0 υ.h ∧ k + 1 + 1 < υ.k ∧ j ≤ c.length ∧
            (so || (c.drop j).any (litIn sz tb (dig sz names n))) = c.any (litIn sz tb (dig sz names n))) (fun υ => c.length - (intOf' (υ.t 11)).toNat) ?_ ?_
          · refine ⟨0, false, ?_⟩
            simp only [go_sem, u1, u2, u5, u6, u7, uh, ua, hne', hne2', List.drop_zero]
            and_intros; all_goals try (first | rfl | omega | assumption | ((repeat (first | exact Fr.rfl' _ _ | assumption | refine Fr.updk ?_ (by omega) _)); done))
          · rintro υ ⟨j, so, w1, w2, w5, w6, w7, w10, w11, wh, wa, wF, wk, wj, wv⟩
            have hne3 := ltne (show k < υ.k by omega)
            have hne4 := ltne wk
            rcases Nat.lt_or_ge j c.length with hlt' | hge''
            · have hz'' : (j : Int) < (c.length : Int) := by omega
              have e1 : (c.map ltDV).getD j default = ltDV c[j] := nth_map ltDV hlt' _
              rw [List.drop_eq_getElem_cons hlt', List.any_cons] at wv
              cases so with
              | true =>
                repeat' (first
                  | refine awp_seq_k fun K hK => ?_
                  | ((first | refine awp_region_k (by kernel_rfl) fun R hR => ?_ | refine awp_draw mixed (by kernel_rfl) (by kernel_rfl) fun R hR => ?_); simp only [go_sem, w1, w2, w6, w10, w11, wh, wa, hz'', e1, hne3, hne4])
                  | ((first | (refine hR _ ?_; clear hR R) | refine awp_skip ?_ | refine awp_exit ?_ | refine awp_ret ?_); try simp only [thenA, inBlockA, reduceIte, reduceCtorEq, Nat.reduceEqDiff, if_false, if_true])
                  | ((first | refine hK _ ?_ | (clear hK K; first | refine hK _ ?_ | (clear hK K; first | refine hK _ ?_ | (clear hK K; first | refine hK _ ?_ | (clear hK K; refine hK _ ?_))))); clear hK K)
                  | refine awp_true rfl rfl ?_
                  | refine awp_false rfl rfl ?_
                  | refine awp_block ?_
                  | refine And.intro (by first | omega | exact trivial | rfl | assumption | (apply map_sz; intro a; simp only [go_sem]; done) | ((and_intros <;> first | omega | exact trivial | rfl | assumption | (apply map_sz; intro a; simp only [go_sem]; done) | fail); done) | fail) ?_
                  | fail)
                refine ⟨⟨j + 1, true, ?_⟩, ?_⟩
                rotate_left
                · simp only [go_sem, w1, w2, w5, w6, w7, w10, w11, wh, wa, hne3, hne4]; omega
                simp only [go_sem, w1, w2, w5, w6, w7, w10, w11, wh, wa, hne3, hne4]
                and_intros; all_goals try (first | rfl | omega | assumption | ((repeat (first | exact Fr.rfl' _ _ | assumption | refine Fr.updk ?_ (by omega) _)); done))
              | false =>
                obtain ⟨⟨f1, f2⟩, f3, f4⟩ := hfine n (by omega) c[j] (List.getElem_mem hlt')
                have hro : RoOK υ.k (arO (k + 1 + 1, 0) vars) υ.h := roAr wk wa
                have va := valueOf_arrs hm2 (vars := vars) (k + 1 + 1, 0) (by omega) c[j].a (fun x hx => ⟨(f1 x hx).1, fun hv => by rw [uI _ (f2 x hx hv)]; exact (f1 x hx).2 hv⟩) (fun x hx hv => by have := hin _ (f2 x hx hv); omega)
                have vb := valueOf_arrs hm2 (vars := vars) (k + 1 + 1, 0) (by omega) c[j].b (fun x hx => ⟨(f3 x hx).1, fun hv => by rw [uI _ (f4 x hx hv)]; exact (f3 x hx).2 hv⟩) (fun x hx hv => by have := hin _ (f4 x hx hv); omega)
                rw [valM_congr c[j].a (fun x hx hv => uI _ (f2 x hx hv)), uvl] at va
                rw [valM_congr c[j].b (fun x hx hv => uI _ (f4 x hx hv)), uvl] at vb
                rw [Bool.false_or] at wv
                repeat' (first
                  | refine awp_seq_k fun K hK => ?_
                  | ((first | refine awp_region_k (by kernel_rfl) fun R hR => ?_ | refine awp_draw mixed (by kernel_rfl) (by kernel_rfl) fun R hR => ?_); simp only [go_sem, w1, w2, w6, w10, w11, wh, wa, hz'', e1, hne3, hne4, Nat.reduceBEq, ite_self, implies_true, Int.toNat_natCast])
                  | ((first | (refine hR _ ?_; clear hR R) | refine awp_skip ?_ | refine awp_exit ?_ | refine awp_ret ?_); try simp only [thenA, inBlockA, reduceIte, reduceCtorEq, Nat.reduceEqDiff, if_false, if_true])
                  | ((first | refine hK _ ?_ | (clear hK K; first | refine hK _ ?_ | (clear hK K; first | refine hK _ ?_ | (clear hK K; first | refine hK _ ?_ | (clear hK K; refine hK _ ?_))))); clear hK K)
                  | refine awp_true rfl rfl ?_
                  | refine awp_false rfl rfl ?_
                  | refine awp_block ?_
                  | ((first | refine CallK.look (enter23) (va) ?_ (by assumption) (by repeat (first | exact Fr.rfl' _ _ | assumption | refine Fr.updk ?_ (by omega) _)) ?_ | refine CallD.look (enter23) (va) ?_ (by assumption) (by repeat (first | exact Fr.rfl' _ _ | assumption | refine Fr.updk ?_ (by omega) _)) (by first | assumption | exact List.cons_ne_nil _ _) ?_); (focus first | ((repeat (first | exact trivial | refine ⟨(by first | exact Or.inl rfl | exact Or.inr rfl), ?_⟩)); done) | (simp only [coL, AV.dat, true_or, or_true, AV.d.injEq, go_sem]; done)); simp only [go_sem, w1, w2, w6, w10, w11, wh, wa, hz'', e1, hne3, hne4, Nat.reduceBEq, ite_self, implies_true, Int.toNat_natCast])
                  | ((first | refine CallK.look (enter23) (vb) ?_ (by assumption) (by repeat (first | exact Fr.rfl' _ _ | assumption | refine Fr.updk ?_ (by omega) _)) ?_ | refine CallD.look (enter23) (vb) ?_ (by assumption) (by repeat (first | exact Fr.rfl' _ _ | assumption | refine Fr.updk ?_ (by omega) _)) (by first | assumption | exact List.cons_ne_nil _ _) ?_); (focus first | ((repeat (first | exact trivial | refine ⟨(by first | exact Or.inl rfl | exact Or.inr rfl), ?_⟩)); done) | (simp only [coL, AV.dat, true_or, or_true, AV.d.injEq, go_sem]; done)); simp only [go_sem, w1, w2, w6, w10, w11, wh, wa, hz'', e1, hne3, hne4, Nat.reduceBEq, ite_self, implies_true, Int.toNat_natCast])
                  | refine And.intro (by first | omega | exact trivial | rfl | assumption | (apply map_sz; intro a; simp only [go_sem]; done) | ((and_intros <;> first | omega | exact trivial | rfl | assumption | (apply map_sz; intro a; simp only [go_sem]; done) | fail); done) | fail) ?_
                  | fail)
                refine ⟨⟨j + 1, litIn sz tb (dig sz names n) c[j], ?_⟩, ?_⟩
                rotate_left
                · simp only [go_sem, w1, w2, w5, w6, w7, w10, w11, wh, wa, hne3, hne4]; omega
                simp only [go_sem, w1, w2, w5, w6, w7, w10, w11, wh, wa, hne3, hne4]
                and_intros; all_goals try (first | rfl | omega | assumption | ((repeat (first | exact Fr.rfl' _ _ | assumption | refine Fr.updk ?_ (by omega) _)); done))
            · have hz'' : ¬ ((j : Int) < (c.length : Int)) := by omega
              rw [List.drop_eq_nil_of_le hge'', List.any_nil, Bool.or_false] at wv
              rw [← wv] at hv
              cases so with
              | true =>
                rw [Bool.true_and] at hv
                repeat' (first
                  | refine awp_seq_k fun K hK => ?_
                  | ((first | refine awp_region_k (by kernel_rfl) fun R hR => ?_ | refine awp_draw mixed (by kernel_rfl) (by kernel_rfl) fun R hR => ?_); simp only [go_sem, w1, w10, w11, w7, hz'', hne3, hne4])
                  | ((first | (refine hR _ ?_; clear hR R) | refine awp_skip ?_ | refine awp_exit ?_ | refine awp_ret ?_); try simp only [thenA, inBlockA, reduceIte, reduceCtorEq, Nat.reduceEqDiff, if_false, if_true])
                  | ((first | refine hK _ ?_ | (clear hK K; first | refine hK _ ?_ | (clear hK K; first | refine hK _ ?_ | (clear hK K; first | refine hK _ ?_ | (clear hK K; refine hK _ ?_))))); clear hK K)
                  | refine awp_true rfl rfl ?_
                  | refine awp_false rfl rfl ?_
                  | refine awp_block ?_
                  | refine And.intro (by first | omega | exact trivial | rfl | assumption | (apply map_sz; intro a; simp only [go_sem]; done) | ((and_intros <;> first | omega | exact trivial | rfl | assumption | (apply map_sz; intro a; simp only [go_sem]; done) | fail); done) | fail) ?_
                  | fail)
                refine ⟨⟨n + 1, vars, ?_⟩, ?_⟩
                rotate_left
                · simp only [go_sem, w1, w2, w5, w6, w7, wh, wa, uvl, hne3, hne4, s7']; omega
                simp only [go_sem, w1, w2, w5, w6, w7, wh, wa, uvl, hne3, hne4, s7']
                and_intros; all_goals try (first | rfl | omega | assumption | ((repeat (first | exact Fr.rfl' _ _ | assumption | refine Fr.updk ?_ (by omega) _)); done))
              | false =>
                rw [Bool.false_and] at hv
                repeat' (first
                  | refine awp_seq_k fun K hK => ?_
                  | ((first | refine awp_region_k (by kernel_rfl) fun R hR => ?_ | refine awp_draw mixed (by kernel_rfl) (by kernel_rfl) fun R hR => ?_); simp only [go_sem, w1, w10, w11, hz'', hne3, hne4])
                  | ((first | (refine hR _ ?_; clear hR R) | refine awp_skip ?_ | refine awp_exit ?_ | refine awp_ret ?_); try simp only [thenA, inBlockA, reduceIte, reduceCtorEq, Nat.reduceEqDiff, if_false, if_true])
                  | ((first | refine hK _ ?_ | (clear hK K; first | refine hK _ ?_ | (clear hK K; first | refine hK _ ?_ | (clear hK K; first | refine hK _ ?_ | (clear hK K; refine hK _ ?_))))); clear hK K)
                  | refine awp_true rfl rfl ?_
                  | refine awp_false rfl rfl ?_
                  | refine awp_block ?_
                  | refine And.intro (by first | omega | exact trivial | rfl | assumption | (apply map_sz; intro a; simp only [go_sem]; done) | ((and_intros <;> first | omega | exact trivial | rfl | assumption | (apply map_sz; intro a; simp only [go_sem]; done) | fail); done) | fail) ?_
                  | fail)
                rw [← hv]
                first | refine ret_pure (by simp only [Try.results26, resOkL, resOk, Try.ntmps26, List.toList_toArray]; first | decide | (simp only [go_sem]; done) | (simp only [go_sem]; and_intros <;> first | omega | rfl | decide)) ?_ (by repeat (first | exact Fr.rfl' _ _ | assumption | refine Fr.updk ?_ (by omega) _)) | refine ret_ro (by simp only [Try.results26, resOkL, resOk, Try.ntmps26, List.toList_toArray]; first | decide | (simp only [go_sem]; done) | (simp only [go_sem]; and_intros <;> first | omega | rfl | decide)) ?_ (by repeat (first | exact Fr.rfl' _ _ | assumption | refine Fr.updk ?_ (by omega) _))
                simp only [resA, resV, Try.results26, go_sem]
                all_goals try (first | exact Co.t2 (.dat rfl) (.dat rfl) | exact Co.t3 (.dat rfl) (.dat rfl) (.dat rfl))
                exact .dat rfl
    · have hz : ¬ ((n : Int) < (N : Int)) := by omega
      rw [holdsF_end hge] at hv
      repeat' (first
        | refine awp_seq_k fun K hK => ?_
        | ((first | refine awp_region_k (by kernel_rfl) fun R hR => ?_ | refine awp_draw mixed (by kernel_rfl) (by kernel_rfl) fun R hR => ?_); simp only [go_sem, s2, s5, s7, sh, hz, hne])
        | ((first | (refine hR _ ?_; clear hR R) | refine awp_skip ?_ | refine awp_exit ?_ | refine awp_ret ?_); try simp only [thenA, inBlockA, reduceIte, reduceCtorEq, Nat.reduceEqDiff, if_false, if_true])
        | ((first | refine hK _ ?_ | (clear hK K; first | refine hK _ ?_ | (clear hK K; first | refine hK _ ?_ | (clear hK K; first | refine hK _ ?_ | (clear hK K; refine hK _ ?_))))); clear hK K)
        | refine awp_true rfl rfl ?_
        | refine awp_false rfl rfl ?_
        | refine awp_block ?_
        | ((first | refine CallK.pure (enter81) (pw) ?_ ?_ | refine CallD.pure (enter81) (pw) ?_ ?_); (focus first | ((repeat (first | exact trivial | refine ⟨(by first | exact Or.inl rfl | exact Or.inr rfl), ?_⟩)); done) | (simp only [coL, AV.dat, true_or, or_true, AV.d.injEq, go_sem]; done)); simp only [go_sem, s2, s5, s7, sh, hz, hne])
        | refine And.intro (by first | omega | exact trivial | rfl | assumption | (apply map_sz; intro a; simp only [go_sem]; done) | ((and_intros <;> first | omega | exact trivial | rfl | assumption | (apply map_sz; intro a; simp only [go_sem]; done) | fail); done) | fail) ?_
        | fail)
      rw [← hv]
      first | refine ret_pure (by simp only [Try.results26, resOkL, resOk, Try.ntmps26, List.toList_toArray]; first | decide | (simp only [go_sem]; done) | (simp only [go_sem]; and_intros <;> first | omega | rfl | decide)) ?_ (by repeat (first | exact Fr.rfl' _ _ | assumption | refine Fr.updk ?_ (by omega) _)) | refine ret_ro (by simp only [Try.results26, resOkL, resOk, Try.ntmps26, List.toList_toArray]; first | decide | (simp only [go_sem]; done) | (simp only [go_sem]; and_intros <;> first | omega | rfl | decide)) ?_ (by repeat (first | exact Fr.rfl' _ _ | assumption | refine Fr.updk ?_ (by omega) _))
      simp only [resA, resV, Try.results26, go_sem]
      all_goals try (first | exact Co.t2 (.dat rfl) (.dat rfl) | exact Co.t3 (.dat rfl) (.dat rfl) (.dat rfl))
      exact .dat rfl
end Go.Proofs.Ytmeekpinkfpnhaa

namespace Go.Proofs.Ytmeekpinkfpnhaa
open Go.RowKit
set_option linter.unusedSimpArgs false
set_option linter.unusedSectionVars false

theorem mb1 : mdOk [0, 1] 2 [[0], [1, 0]] = 0 := by decide
theorem mb2 : valAns [0, 1] 2 [[0], [1, 0]] (.mk 0 1 [.mk 1 0 []]) [1] = (0, 0) := by decide
theorem mb3 : hldAns [0, 1] 2 [[0], [1, 0]] [⟨false, .mk 0 1 [.mk 1 0 []], .mk 1 0 []⟩] = (true, 0) := by decide +kernel
set_option maxRecDepth 20000 in
theorem modelBegun_tri : Tri Try.prog 27 [] (pure' (bA true)) := by
  have v1 := mdValue_tri [0, 1] 2 [[0], [1, 0]] (.mk 0 1 [.mk 1 0 []]) [1] (by decide) (by decide) (by decide) (by decide)
  have v2 := mdHolds_tri [0, 1] 2 [[0], [1, 0]] [⟨false, .mk 0 1 [.mk 1 0 []], .mk 1 0 []⟩] (by decide) (by decide) (by decide)
  have v3 := mdCheck_tri [0, 1] 2 [[0], [1, 0]] (by decide) (by decide)
  rw [mb2] at v1
  rw [mb3] at v2
  rw [mb1] at v3
  refine tri_enter Try.func27 rfl Try.ntmps27 (by simp only [List.length_cons, List.length_nil]; omega) fun w0 h0 k hrd hwr => ?_
  repeat' (first
    | refine awp_seq_k fun K hK => ?_
    | ((first | refine awp_region_k (by kernel_rfl) fun R hR => ?_ | refine awp_draw mixed (by kernel_rfl) (by kernel_rfl) fun R hR => ?_); simp only [go_sem, beq_self_eq_true])
    | ((first | (refine hR _ ?_; clear hR R) | refine awp_skip ?_ | refine awp_exit ?_ | refine awp_ret ?_); try simp only [thenA, inBlockA, reduceIte, reduceCtorEq, Nat.reduceEqDiff, if_false, if_true])
    | ((first | refine hK _ ?_ | (clear hK K; first | refine hK _ ?_ | (clear hK K; first | refine hK _ ?_ | (clear hK K; first | refine hK _ ?_ | (clear hK K; refine hK _ ?_))))); clear hK K)
    | refine awp_true rfl rfl ?_
    | refine awp_false rfl rfl ?_
    | refine awp_block ?_
    | ((first | refine CallK.pure (enter65) (small_tri) ?_ ?_ | refine CallD.pure (enter65) (small_tri) ?_ ?_); (focus first | ((repeat (first | exact trivial | refine ⟨(by first | exact Or.inl rfl | exact Or.inr rfl), ?_⟩)); done) | (simp only [coL, AV.dat, true_or, or_true, AV.d.injEq, go_sem]; done)); simp only [go_sem, beq_self_eq_true])
    | ((first | refine CallK.pure (enter67) (va_tri 1) ?_ ?_ | refine CallD.pure (enter67) (va_tri 1) ?_ ?_); (focus first | ((repeat (first | exact trivial | refine ⟨(by first | exact Or.inl rfl | exact Or.inr rfl), ?_⟩)); done) | (simp only [coL, AV.dat, true_or, or_true, AV.d.injEq, go_sem]; done)); simp only [go_sem, beq_self_eq_true])
    | ((first | refine CallK.pure (enter66) (fn_tri 1 [.mk 1 0 []]) ?_ ?_ | refine CallD.pure (enter66) (fn_tri 1 [.mk 1 0 []]) ?_ ?_); (focus first | ((repeat (first | exact trivial | refine ⟨(by first | exact Or.inl rfl | exact Or.inr rfl), ?_⟩)); done) | (simp only [coL, AV.dat, true_or, or_true, AV.d.injEq, go_sem]; done)); simp only [go_sem, beq_self_eq_true])
    | ((first | refine CallK.pure (enter18) (v1) ?_ ?_ | refine CallD.pure (enter18) (v1) ?_ ?_); (focus first | ((repeat (first | exact trivial | refine ⟨(by first | exact Or.inl rfl | exact Or.inr rfl), ?_⟩)); done) | (simp only [coL, AV.dat, true_or, or_true, AV.d.injEq, go_sem]; done)); simp only [go_sem, beq_self_eq_true])
    | ((first | refine CallK.pure (enter19) (v2) ?_ ?_ | refine CallD.pure (enter19) (v2) ?_ ?_); (focus first | ((repeat (first | exact trivial | refine ⟨(by first | exact Or.inl rfl | exact Or.inr rfl), ?_⟩)); done) | (simp only [coL, AV.dat, true_or, or_true, AV.d.injEq, go_sem]; done)); simp only [go_sem, beq_self_eq_true])
    | ((first | refine CallK.pure (enter28) (v3) ?_ ?_ | refine CallD.pure (enter28) (v3) ?_ ?_); (focus first | ((repeat (first | exact trivial | refine ⟨(by first | exact Or.inl rfl | exact Or.inr rfl), ?_⟩)); done) | (simp only [coL, AV.dat, true_or, or_true, AV.d.injEq, go_sem]; done)); simp only [go_sem, beq_self_eq_true])
    | refine And.intro (by first | omega | exact trivial | rfl | assumption | (apply map_sz; intro a; simp only [go_sem]; done) | ((and_intros <;> first | omega | exact trivial | rfl | assumption | (apply map_sz; intro a; simp only [go_sem]; done) | fail); done) | fail) ?_
    | fail)
  first | refine ret_pure (by simp only [Try.results27, resOkL, resOk, Try.ntmps27, List.toList_toArray]; first | decide | (simp only [go_sem]; done) | (simp only [go_sem]; and_intros <;> first | omega | rfl | decide)) ?_ (by repeat (first | exact Fr.rfl' _ _ | assumption | refine Fr.updk ?_ (by omega) _)) | refine ret_ro (by simp only [Try.results27, resOkL, resOk, Try.ntmps27, List.toList_toArray]; first | decide | (simp only [go_sem]; done) | (simp only [go_sem]; and_intros <;> first | omega | rfl | decide)) ?_ (by repeat (first | exact Fr.rfl' _ _ | assumption | refine Fr.updk ?_ (by omega) _))
  simp only [resA, resV, Try.results27, go_sem]
  all_goals try (first | exact Co.t2 (.dat rfl) (.dat rfl) | exact Co.t3 (.dat rfl) (.dat rfl) (.dat rfl))
  exact .dat rfl
end Go.Proofs.Ytmeekpinkfpnhaa

namespace Go.Proofs.Ytmeekpinkfpnhaa

mutual
/-- A term with terms put in for its variables. -/
def sub (σ : Int → Tm) : Tm → Tm
  | .mk v f us => if v > 0 then σ v else .mk v f (subL σ us)
def subL (σ : Int → Tm) : List Tm → List Tm
  | [] => []
  | x :: xs => sub σ x :: subL σ xs
end
theorem sub_eq (σ : Int → Tm) (t : Tm) : sub σ t = if t.v > 0 then σ t.v else .mk t.v t.f (subL σ t.us) := by cases t; rw [sub]; rfl
theorem subL_map (σ : Int → Tm) (us : List Tm) : subL σ us = us.map (sub σ) := by
  induction us with
  | nil => rfl
  | cons x xs ih => rw [subL, ih, List.map_cons]
mutual
theorem sub_sub (σ τ : Int → Tm) : ∀ t : Tm, sub τ (sub σ t) = sub (fun v => sub τ (σ v)) t
  | .mk v f us => by
    rw [sub, sub]
    by_cases hv : v > 0
    · rw [if_pos hv, if_pos hv]
    · rw [if_neg hv, if_neg hv, sub, if_neg hv, subL_subL σ τ us]
theorem subL_subL (σ τ : Int → Tm) : ∀ us : List Tm, subL τ (subL σ us) = subL (fun v => sub τ (σ v)) us
  | [] => rfl
  | x :: xs => by rw [subL, subL, subL, sub_sub σ τ x, subL_subL σ τ xs]
end
mutual
theorem sub_congr {σ τ : Int → Tm} : ∀ t : Tm, (∀ x ∈ parts t, x.v > 0 → σ x.v = τ x.v) → sub σ t = sub τ t
  | .mk v f us, h => by
    rw [sub, sub]
    by_cases hv : v > 0
    · rw [if_pos hv, if_pos hv]; exact h (.mk v f us) (by rw [parts]; simp) hv
    · rw [if_neg hv, if_neg hv, subL_congr us fun x hx => h x (by rw [parts]; exact List.mem_append_left _ hx)]
theorem subL_congr {σ τ : Int → Tm} : ∀ us : List Tm, (∀ x ∈ partsL us, x.v > 0 → σ x.v = τ x.v) → subL σ us = subL τ us
  | [], _ => rfl
  | x :: xs, h => by
    rw [subL, subL, sub_congr x fun y hy => h y (by rw [partsL]; exact List.mem_append_left _ hy), subL_congr xs fun y hy => h y (by rw [partsL]; exact List.mem_append_right _ hy)]
end
/-- The variable of a number. -/
abbrev vt (v : Int) : Tm := .mk v 0 []
/-- Parts that are right: no variable, or one without arguments. -/
def Pure (t : Tm) : Prop := ∀ x ∈ parts t, 0 ≤ x.v ∧ (x.v > 0 → x = vt x.v)
theorem Pure.good {t : Tm} (h : Pure t) : Good t := fun x hx => ⟨(h x hx).1, fun hv => by rw [(h x hx).2 hv]; rfl⟩
theorem parts_kid {t u : Tm} (hu : u ∈ t.us) {x : Tm} (hx : x ∈ parts u) : x ∈ parts t := by
  rw [parts_eq]
  refine List.mem_append_left _ ?_
  generalize t.us = us at hu
  induction us with
  | nil => cases hu
  | cons y ys ih =>
    rw [partsL, List.mem_append]
    rcases List.mem_cons.1 hu with rfl | hu
    · exact .inl hx
    · exact .inr (ih hu)
theorem parts_self (t : Tm) : t ∈ parts t := by rw [parts_eq]; simp
theorem partsL_mem {us : List Tm} {x : Tm} (h : x ∈ partsL us) : ∃ u ∈ us, x ∈ parts u := by
  induction us with
  | nil => simp [partsL] at h
  | cons y ys ih =>
    rw [partsL, List.mem_append] at h
    rcases h with h | h
    · exact ⟨y, by simp, h⟩
    · obtain ⟨u, hu, hx⟩ := ih h
      exact ⟨u, by simp [hu], hx⟩
theorem partsL_of {us : List Tm} {u x : Tm} (hu : u ∈ us) (hx : x ∈ parts u) : x ∈ partsL us := by
  induction us with
  | nil => cases hu
  | cons y ys ih =>
    rw [partsL, List.mem_append]
    rcases List.mem_cons.1 hu with rfl | hu
    · exact .inl hx
    · exact .inr (ih hu)
theorem Pure.kid {t u : Tm} (h : Pure t) (hu : u ∈ t.us) : Pure u := fun x hx => h x (parts_kid hu hx)
theorem Pure.nn {t : Tm} (h : Pure t) : ∀ x ∈ parts t, 0 ≤ x.v := fun x hx => (h x hx).1
theorem own_pure {g : List Int} {t : Tm} (h : own g t = 0) : Pure t := fun x hx => by
  refine ⟨own_v h hx, fun hv => ?_⟩
  have h1 := own_each h hx
  have h2 := own_bare h x hx hv
  unfold formOne at h1
  rw [if_pos (by omega)] at h1
  split at h1
  · cases h1
  · split at h1
    · cases h1
    · rename_i h3
      obtain ⟨v, f, us⟩ := x
      simp only [Tm.us, Tm.f, Tm.v] at *
      subst h2
      have : f = 0 := by
        rcases Classical.em (f = 0) with h | h
        · exact h
        · exact absurd (.inr h) h3
      rw [this]
mutual
theorem sub_id : ∀ t : Tm, Pure t → sub vt t = t
  | .mk v f us, h => by
    rw [sub]
    by_cases hv : v > 0
    · rw [if_pos hv]; exact ((h (.mk v f us) (parts_self _)).2 hv).symm
    · rw [if_neg hv, subL_id us fun u hu => h.kid (t := .mk v f us) hu]
theorem subL_id : ∀ us : List Tm, (∀ u ∈ us, Pure u) → subL vt us = us
  | [], _ => rfl
  | x :: xs, h => by rw [subL, sub_id x (h x (by simp)), subL_id xs fun u hu => h u (by simp [hu])]
end
/-- A substitution that is as bindings say. -/
def ExB (σ : Int → Tm) (b : Bs) : Prop := ∀ v u, lookB v b = some u → σ v = u
/-- Bindings as a substitution. -/
def sbOf (b : Bs) (v : Int) : Tm := (lookB v b).getD (vt v)
theorem sbOf_ext (b : Bs) : ExB (sbOf b) b := fun v u h => by unfold sbOf; rw [h]; rfl
theorem lookB_append (v : Int) (a b : Bs) : lookB v (a ++ b) = match lookB v a with | some u => some u | none => lookB v b := by
  induction a with
  | nil => rfl
  | cons p a ih =>
    rw [List.cons_append, lookB, lookB, ih]
    by_cases h : v = p.1
    · rw [if_pos h, if_pos h]
    · rw [if_neg h, if_neg h]
theorem ExB.snoc {σ : Int → Tm} {b : Bs} {v : Int} {t : Tm} (h : ExB σ (b ++ [(v, t)])) (hn : lookB v b = none) : ExB σ b ∧ σ v = t := by
  refine ⟨fun x u hx => h x u (by rw [lookB_append, hx]), h v t (by rw [lookB_append, hn]; simp [lookB])⟩
theorem ExB.mk {σ : Int → Tm} {b : Bs} {v : Int} {t : Tm} (h : ExB σ b) (hv : σ v = t) : ExB σ (b ++ [(v, t)]) := fun x u hx => by
  rw [lookB_append] at hx
  cases hb : lookB x b with
  | some w => rw [hb] at hx; cases hx; exact h x _ hb
  | none =>
    rw [hb] at hx
    simp only [lookB] at hx
    split at hx
    · cases hx; subst_vars; rfl
    · cases hx
mutual
/-- What is met is so. -/
theorem meet_sound {σ : Int → Tm} : ∀ (p t : Tm) (b : Bs), (∀ x ∈ parts p, 0 ≤ x.v) → (meet p t b).1 = true → ExB σ (meet p t b).2 → ExB σ b ∧ sub σ p = t
  | .mk v f us, t, b, hp, h, he => by
    rw [meet] at h he
    rw [sub]
    by_cases hv : v > 0
    · rw [if_pos hv] at h he ⊢
      cases hb : lookB v b with
      | some u =>
        rw [hb] at h he
        simp only at h he
        rw [same_iff] at h
        exact ⟨he, by rw [← h]; exact he v u hb⟩
      | none =>
        rw [hb] at he
        simp only at he
        exact he.snoc hb
    · rw [if_neg hv] at h he ⊢
      by_cases hc : t.v = 0 ∧ f = t.f ∧ us.length = t.us.length
      · rw [if_pos hc] at h he
        obtain ⟨c1, c2, c3⟩ := hc
        obtain ⟨h1, h2⟩ := meetL_sound us t.us b (fun x hx => hp x (by rw [parts]; exact List.mem_append_left _ hx)) c3 h he
        refine ⟨h1, ?_⟩
        have hv0 : v = 0 := by have := hp (.mk v f us) (parts_self _); simp only [Tm.v] at this; omega
        rw [h2, hv0, ← c1, c2, Tm.eta]
      · rw [if_neg hc] at h; cases h
theorem meetL_sound {σ : Int → Tm} : ∀ (xs ys : List Tm) (b : Bs), (∀ x ∈ partsL xs, 0 ≤ x.v) → xs.length = ys.length → (meetL xs ys b).1 = true → ExB σ (meetL xs ys b).2 → ExB σ b ∧ subL σ xs = ys
  | [], [], b, _, _, _, he => ⟨he, rfl⟩
  | x :: xs, y :: ys, b, hp, hl, h, he => by
    rw [meetL] at h he
    by_cases hc : (meet x y b).1 = true
    · rw [if_pos hc] at h he
      obtain ⟨h1, h2⟩ := meetL_sound xs ys _ (fun z hz => hp z (by rw [partsL]; exact List.mem_append_right _ hz)) (by simpa using hl) h he
      obtain ⟨h3, h4⟩ := meet_sound x y b (fun z hz => hp z (by rw [partsL]; exact List.mem_append_left _ hz)) hc h1
      exact ⟨h3, by rw [subL, h4, h2]⟩
    · rw [if_neg hc] at h; cases h
end
mutual
/-- What is so is met. -/
theorem meet_compl {σ : Int → Tm} : ∀ (p t : Tm) (b : Bs), (∀ x ∈ parts p, 0 ≤ x.v) → ExB σ b → sub σ p = t → (meet p t b).1 = true ∧ ExB σ (meet p t b).2
  | .mk v f us, t, b, hp, he, h => by
    rw [meet]
    rw [sub] at h
    by_cases hv : v > 0
    · rw [if_pos hv] at h ⊢
      cases hb : lookB v b with
      | some u =>
        simp only
        refine ⟨?_, he⟩
        rw [same_iff, ← h]; exact (he v u hb).symm
      | none => exact ⟨rfl, he.mk h⟩
    · rw [if_neg hv] at h ⊢
      have hv0 : v = 0 := by have := hp (.mk v f us) (parts_self _); simp only [Tm.v] at this; omega
      subst h
      rw [if_pos ⟨hv0, rfl, by simp only [Tm.us]; rw [subL_map, List.length_map]⟩]
      exact meetL_compl us (subL σ us) b (fun x hx => hp x (by rw [parts]; exact List.mem_append_left _ hx)) he rfl
theorem meetL_compl {σ : Int → Tm} : ∀ (xs ys : List Tm) (b : Bs), (∀ x ∈ partsL xs, 0 ≤ x.v) → ExB σ b → subL σ xs = ys → (meetL xs ys b).1 = true ∧ ExB σ (meetL xs ys b).2
  | [], _, b, _, he, h => by subst h; exact ⟨rfl, he⟩
  | x :: xs, ys, b, hp, he, h => by
    rw [subL] at h
    subst h
    rw [meetL]
    obtain ⟨h1, h2⟩ := meet_compl x (sub σ x) b (fun z hz => hp z (by rw [partsL]; exact List.mem_append_left _ hz)) he rfl
    rw [if_pos h1]
    exact meetL_compl xs _ _ (fun z hz => hp z (by rw [partsL]; exact List.mem_append_right _ hz)) h2 rfl
end
def subLt (σ : Int → Tm) : Lt → Lt := mapLt (sub σ)
theorem turn_turn (l : Lt) : turnL (turnL l) = l := rfl
theorem subLt_turn (σ : Int → Tm) (l : Lt) : subLt σ (turnL l) = turnL (subLt σ l) := rfl
/-- A literal is among these, turned or not. -/
def InC (l : Lt) (d : List Lt) : Prop := l ∈ d ∨ turnL l ∈ d
theorem InC.turn {l : Lt} {d : List Lt} (h : InC l d) : InC (turnL l) d := h.symm
/-- All literals are among these, once terms are put in. -/
def Subs (σ : Int → Tm) (c d : List Lt) : Prop := ∀ l ∈ c, InC (subLt σ l) d
def NnC (c : List Lt) : Prop := ∀ l ∈ c, (∀ x ∈ parts l.a, 0 ≤ x.v) ∧ ∀ x ∈ parts l.b, 0 ≤ x.v
theorem tryG_sound {σ : Int → Tm} {l x : Lt} {b : Bs} (hl : (∀ x ∈ parts l.a, 0 ≤ x.v) ∧ ∀ x ∈ parts l.b, 0 ≤ x.v) (h : (tryG meet l x b).1 = true) (he : ExB σ (tryG meet l x b).2) : ExB σ b ∧ sub σ l.a = x.a ∧ sub σ l.b = x.b := by
  unfold tryG at h he
  by_cases hc : (meet l.a x.a b).1 = true
  · rw [if_pos hc] at h he
    obtain ⟨h1, h2⟩ := meet_sound l.b x.b _ hl.2 h he
    obtain ⟨h3, h4⟩ := meet_sound l.a x.a b hl.1 hc h1
    exact ⟨h3, h4, h2⟩
  · rw [if_neg hc] at h; cases h
theorem tryG_compl {σ : Int → Tm} {l x : Lt} {b : Bs} (hl : (∀ x ∈ parts l.a, 0 ≤ x.v) ∧ ∀ x ∈ parts l.b, 0 ≤ x.v) (he : ExB σ b) (h1 : sub σ l.a = x.a) (h2 : sub σ l.b = x.b) : (tryG meet l x b).1 = true ∧ ExB σ (tryG meet l x b).2 := by
  unfold tryG
  obtain ⟨h3, h4⟩ := meet_compl l.a x.a b hl.1 he h1
  rw [if_pos h3]
  exact meet_compl l.b x.b _ hl.2 h4 h2
theorem cov_sound : ∀ (c d : List Lt) (b : Bs), NnC c → covG meet c d b = true → ∃ σ, ExB σ b ∧ Subs σ c d
  | [], d, b, _, _ => ⟨sbOf b, sbOf_ext b, fun l hl => by cases hl⟩
  | l :: c, d, b, hn, h => by
    rw [covG, List.any_eq_true] at h
    obtain ⟨x, hx, h⟩ := h
    rw [Bool.and_eq_true, beq_iff_eq, Bool.or_eq_true, Bool.and_eq_true, Bool.and_eq_true] at h
    obtain ⟨hy, h⟩ := h
    have hn' : NnC c := fun z hz => hn z (by simp [hz])
    rcases h with ⟨h1, h2⟩ | ⟨h1, h2⟩
    · obtain ⟨σ, he, hs⟩ := cov_sound c d _ hn' h2
      obtain ⟨e1, e2, e3⟩ := tryG_sound (hn l (by simp)) h1 he
      refine ⟨σ, e1, fun z hz => ?_⟩
      rcases List.mem_cons.1 hz with rfl | hz
      · left
        have : subLt σ z = x := by
          obtain ⟨y, a, b'⟩ := x
          simp only [subLt, mapLt] at *
          rw [e2, e3, hy]
        rw [this]; exact hx
      · exact hs z hz
    · obtain ⟨σ, he, hs⟩ := cov_sound c d _ hn' h2
      obtain ⟨e1, e2, e3⟩ := tryG_sound (hn l (by simp)) h1 he
      refine ⟨σ, e1, fun z hz => ?_⟩
      rcases List.mem_cons.1 hz with rfl | hz
      · right
        have : turnL (subLt σ z) = x := by
          obtain ⟨y, a, b'⟩ := x
          simp only [subLt, mapLt, turnL] at *
          rw [e2, e3, hy]
        rw [this]; exact hx
      · exact hs z hz
theorem cov_compl {σ : Int → Tm} : ∀ (c d : List Lt) (b : Bs), NnC c → ExB σ b → Subs σ c d → covG meet c d b = true
  | [], _, _, _, _, _ => rfl
  | l :: c, d, b, hn, he, hs => by
    have hn' : NnC c := fun z hz => hn z (by simp [hz])
    have hs' : Subs σ c d := fun z hz => hs z (by simp [hz])
    rw [covG, List.any_eq_true]
    rcases hs l (by simp) with h | h
    · refine ⟨_, h, ?_⟩
      obtain ⟨h1, h2⟩ := tryG_compl (x := subLt σ l) (hn l (by simp)) he rfl rfl
      rw [h1, Bool.true_and, cov_compl c d _ hn' h2 hs']
      simp [subLt, mapLt]
    · refine ⟨_, h, ?_⟩
      obtain ⟨h1, h2⟩ := tryG_compl (x := turnL (turnL (subLt σ l))) (hn l (by simp)) he rfl rfl
      rw [h1, Bool.true_and, cov_compl c d _ hn' h2 hs']
      simp [subLt, mapLt, turnL]
theorem cov_iff {c d : List Lt} (hn : NnC c) : covG meet c d [] = true ↔ ∃ σ, Subs σ c d := by
  constructor
  · intro h
    obtain ⟨σ, _, hs⟩ := cov_sound c d [] hn h
    exact ⟨σ, hs⟩
  · rintro ⟨σ, hs⟩
    exact cov_compl c d [] hn (fun v u h => by cases h) hs
theorem Subs.trans {σ τ : Int → Tm} {c d e : List Lt} (h1 : Subs σ c d) (h2 : Subs τ d e) : Subs (fun v => sub τ (σ v)) c e := by
  intro l hl
  have hss : ∀ l : Lt, subLt (fun v => sub τ (σ v)) l = subLt τ (subLt σ l) := fun l => by
    simp only [subLt, mapLt, sub_sub]
  rw [hss]
  rcases h1 l hl with h | h
  · exact h2 _ h
  · have := h2 _ h
    rw [subLt_turn] at this
    exact this.turn
/-- F4: what one subsumes that another one does, it subsumes. -/
theorem cov_trans {c d e : List Lt} (hc : NnC c) (hd : NnC d) (h1 : covG meet c d [] = true) (h2 : covG meet d e [] = true) : covG meet c e [] = true := by
  rw [cov_iff hc] at h1 ⊢
  rw [cov_iff hd] at h2
  obtain ⟨σ, h1⟩ := h1
  obtain ⟨τ, h2⟩ := h2
  exact ⟨_, h1.trans h2⟩
/-- F4: a clause subsumes itself. -/
theorem cov_self {c : List Lt} (hc : ∀ l ∈ c, Pure l.a ∧ Pure l.b) : covG meet c c [] = true := by
  rw [cov_iff fun l hl => ⟨(hc l hl).1.nn, (hc l hl).2.nn⟩]
  refine ⟨vt, fun l hl => .inl ?_⟩
  have : subLt vt l = l := by
    obtain ⟨y, a, b⟩ := l
    simp only [subLt, mapLt, sub_id a (hc _ hl).1, sub_id b (hc _ hl).2]
  rw [this]; exact hl
end Go.Proofs.Ytmeekpinkfpnhaa

namespace Go.Proofs.Ytmeekpinkfpnhaa

theorem v_mk (v f : Int) (us : List Tm) : (Tm.mk v f us).v = v := rfl

mutual
theorem applyR_sub (bs : Bs) : ∀ t : Tm, Pure t → applyR bs t = sub (sbOf bs) t
  | .mk v f us, h => by
    obtain ⟨h1, h2⟩ := h (.mk v f us) (parts_self _)
    simp only [Tm.v] at h1 h2
    rw [applyR, sub]
    by_cases hv : v > 0
    · rw [if_pos hv, if_pos hv]
      unfold sbOf
      cases lookB v bs with
      | some u => rfl
      | none => exact h2 hv
    · rw [if_neg hv, if_neg hv, applyRL_sub bs us fun u hu => h.kid (t := .mk v f us) hu]
      obtain rfl : v = 0 := by omega
      rfl
theorem applyRL_sub (bs : Bs) : ∀ us : List Tm, (∀ u ∈ us, Pure u) → applyRL bs us = subL (sbOf bs) us
  | [], _ => rfl
  | x :: xs, h => by rw [applyRL, subL, applyR_sub bs x (h x (by simp)), applyRL_sub bs xs fun u hu => h u (by simp [hu])]
end
theorem addV_vt (o : List Int) (v : Int) : addV o (vt v) = if v > 0 ∧ o.contains v = false then o ++ [v] else o := rfl
theorem Pure.part {t x : Tm} (h : Pure t) (hx : x ∈ parts t) : Pure x := by
  revert h hx
  refine Tm.ind (P := fun t => Pure t → x ∈ parts t → Pure x) (fun t ih h hx => ?_) t
  rw [parts_eq, List.mem_append] at hx
  rcases hx with hx | hx
  · obtain ⟨u, hu, hx⟩ := partsL_mem hx
    exact ih u hu (h.kid hu) hx
  · rw [List.mem_singleton.1 hx]; exact h
/-- A substitution of variables for those of a list, each another one. -/
structure Rn (ρ : Int → Tm) (r : Int → Int) (V : List Int) : Prop where
  eq : ∀ v ∈ V, ρ v = vt (r v)
  pos : ∀ v ∈ V, r v > 0
  inj : ∀ v ∈ V, ∀ u ∈ V, r v = r u → v = u
/-- A term that is right, whose variables are among these. -/
def Vin (V : List Int) (t : Tm) : Prop := Pure t ∧ ∀ x ∈ parts t, x.v > 0 → x.v ∈ V
theorem Vin.kid {V : List Int} {t u : Tm} (h : Vin V t) (hu : u ∈ t.us) : Vin V u := ⟨h.1.kid hu, fun x hx => h.2 x (parts_kid hu hx)⟩
section
variable {ρ : Int → Tm} {r : Int → Int} {V : List Int} (H : Rn ρ r V)
include H
mutual
theorem rn_parts : ∀ t : Tm, Vin V t → parts (sub ρ t) = (parts t).map (sub ρ)
  | .mk v f us, h => by
    by_cases hv : v > 0
    · obtain ⟨h1, h2⟩ := h.1 (.mk v f us) (parts_self _)
      have hin := h.2 (.mk v f us) (parts_self _) hv
      have e := h2 hv
      rw [e]
      simp only [Tm.v] at hin ⊢
      rw [sub, if_pos hv, H.eq v hin]
      simp only [parts, partsL, List.nil_append, List.map_cons, List.map_nil, sub, if_pos hv, H.eq v hin]
    · rw [sub, if_neg hv, parts, parts, List.map_append, rn_partsL us fun u hu => h.kid (t := .mk v f us) hu, List.map_cons, List.map_nil, sub, if_neg hv]
theorem rn_partsL : ∀ us : List Tm, (∀ u ∈ us, Vin V u) → partsL (subL ρ us) = (partsL us).map (sub ρ)
  | [], _ => rfl
  | x :: xs, h => by rw [subL, partsL, partsL, List.map_append, rn_parts x (h x (by simp)), rn_partsL xs fun u hu => h u (by simp [hu])]
end
mutual
theorem rn_count : ∀ (t : Tm) (most : Int), Vin V t → count (sub ρ t) most = count t most
  | .mk v f us, most, h => by
    by_cases hv : v > 0
    · obtain ⟨h1, h2⟩ := h.1 (.mk v f us) (parts_self _)
      have hin := h.2 (.mk v f us) (parts_self _) hv
      have e := h2 hv
      rw [e]
      simp only [Tm.v] at hin ⊢
      rw [sub, if_pos hv, H.eq v hin]
      rfl
    · rw [sub, if_neg hv, count, count, rn_countL us 1 most fun u hu => h.kid (t := .mk v f us) hu]
theorem rn_countL : ∀ (us : List Tm) (n most : Int), (∀ u ∈ us, Vin V u) → countL (subL ρ us) n most = countL us n most
  | [], _, _, _ => rfl
  | x :: xs, n, most, h => by
    rw [subL, countL, countL, rn_count x _ (h x (by simp)), rn_countL xs _ most fun u hu => h u (by simp [hu])]
end
mutual
theorem rn_form (g : List Int) (hr : ∀ v ∈ V, r v ≤ 1000) : ∀ t : Tm, Vin V t → form g t = 0 → form g (sub ρ t) = 0
  | .mk v f us, h, hf => by
    by_cases hv : v > 0
    · have hin := h.2 (.mk v f us) (parts_self _) hv
      simp only [Tm.v] at hin
      rw [sub, if_pos hv, H.eq v hin]
      have := H.pos v hin
      have := hr v hin
      simp [form, formL, formOne]; omega
    · rw [form] at hf
      rw [sub, if_neg hv, form]
      by_cases hl : formL g us = 0
      · rw [if_neg (by simp [hl])] at hf
        rw [if_neg (by simp [rn_formL g hr us (fun u hu => h.kid (t := .mk v f us) hu) hl]), subL_map, List.length_map]
        exact hf
      · rw [if_pos hl] at hf; exact absurd hf hl
theorem rn_formL (g : List Int) (hr : ∀ v ∈ V, r v ≤ 1000) : ∀ us : List Tm, (∀ u ∈ us, Vin V u) → formL g us = 0 → formL g (subL ρ us) = 0
  | [], _, _ => rfl
  | x :: xs, h, hf => by
    rw [formL] at hf
    rw [subL, formL]
    by_cases hx : form g x = 0
    · rw [if_neg (by simp [hx])] at hf
      rw [if_neg (by simp [rn_form g hr x (h x (by simp)) hx])]
      exact rn_formL g hr xs (fun u hu => h u (by simp [hu])) hf
    · rw [if_pos hx] at hf; exact absurd hf hx
end
theorem rn_own (g : List Int) (hr : ∀ v ∈ V, r v ≤ 1000) {t : Tm} (h : Vin V t) (ho : own g t = 0) : own g (sub ρ t) = 0 := by
  obtain ⟨h1, h2⟩ := own_form ho
  unfold own
  rw [rn_count H t 120 h, if_neg (by omega)]
  exact rn_form H g hr t h h1
mutual
theorem rn_inj : ∀ (a b : Tm), Vin V a → Vin V b → sub ρ a = sub ρ b → a = b
  | .mk v f us, b, ha, hb, h => by
    by_cases hv : v > 0
    · have hin := ha.2 (.mk v f us) (parts_self _) hv
      have ea := (ha.1 (.mk v f us) (parts_self _)).2 hv
      simp only [Tm.v] at hin ea
      rw [sub, if_pos hv, H.eq v hin, sub_eq] at h
      by_cases hb2 : b.v > 0
      · have hin' := hb.2 b (parts_self _) hb2
        have eb := (hb.1 b (parts_self _)).2 hb2
        rw [if_pos hb2, H.eq _ hin'] at h
        have : v = b.v := H.inj v hin _ hin' (by injection h)
        rw [ea, eb, this]
      · rw [if_neg hb2] at h
        have := H.pos v hin
        injection h; omega
    · rw [sub, if_neg hv, sub_eq] at h
      by_cases hb2 : b.v > 0
      · have hin' := hb.2 b (parts_self _) hb2
        rw [if_pos hb2, H.eq _ hin'] at h
        have := H.pos _ hin'
        injection h; omega
      · rw [if_neg hb2] at h
        injection h with h1 h2 h3
        have := rn_injL us b.us (fun u hu => ha.kid (t := .mk v f us) hu) (fun u hu => hb.kid hu) h3
        rw [h1, h2, this, Tm.eta]
theorem rn_injL : ∀ (xs ys : List Tm), (∀ u ∈ xs, Vin V u) → (∀ u ∈ ys, Vin V u) → subL ρ xs = subL ρ ys → xs = ys
  | [], [], _, _, _ => rfl
  | [], y :: ys, _, _, h => by rw [subL, subL] at h; cases h
  | x :: xs, [], _, _, h => by rw [subL, subL] at h; cases h
  | x :: xs, y :: ys, h1, h2, h => by
    rw [subL, subL] at h
    injection h with h3 h4
    rw [rn_inj x y (h1 x (by simp)) (h2 y (by simp)) h3, rn_injL xs ys (fun u hu => h1 u (by simp [hu])) (fun u hu => h2 u (by simp [hu])) h4]
end
theorem rn_same {a b : Tm} (ha : Vin V a) (hb : Vin V b) : same (sub ρ a) (sub ρ b) = same a b := by
  rw [Bool.eq_iff_iff, same_iff, same_iff]
  exact ⟨rn_inj H a b ha hb, fun h => by rw [h]⟩
theorem rn_sides {x y : Lt} (hx : Vin V x.a ∧ Vin V x.b) (hy : Vin V y.a ∧ Vin V y.b) : sidesB (subLt ρ x) (subLt ρ y) = sidesB x y := by
  unfold sidesB
  simp only [subLt, mapLt]
  rw [rn_same H hx.1 hy.1, rn_same H hx.2 hy.2, rn_same H hx.1 hy.2, rn_same H hx.2 hy.1]
theorem rn_drop {o : List Lt} {l : Lt} (ho : ∀ x ∈ o, Vin V x.a ∧ Vin V x.b) (hl : Vin V l.a ∧ Vin V l.b) : dropB (o.map (subLt ρ)) (subLt ρ l) = dropB o l := by
  unfold dropB
  have e : same (subLt ρ l).a (subLt ρ l).b = same l.a l.b := rn_same H hl.1 hl.2
  rw [e, List.any_map]
  congr 1
  refine any_same fun x hx => ?_
  simp only [Function.comp]
  rw [rn_sides H (ho x hx) hl]
  rfl
theorem rn_keep : ∀ (c p : List Lt), (∀ x ∈ p, Vin V x.a ∧ Vin V x.b) → (∀ x ∈ c, Vin V x.a ∧ Vin V x.b) → keepR (p.map (subLt ρ)) (c.map (subLt ρ)) = (keepR p c).map (subLt ρ)
  | [], p, _, _ => rfl
  | l :: c, p, hp, hc => by
    have hl := hc l (by simp)
    have h1 := rn_keep c (p ++ [l]) (fun x hx => by
      rcases List.mem_append.1 hx with hx | hx
      · exact hp x hx
      · rw [List.mem_singleton.1 hx]; exact hl) (fun x hx => hc x (by simp [hx]))
    rw [List.map_append, List.map_cons, List.map_nil] at h1
    rw [List.map_cons, keepR, keepR, rn_drop H hp hl, h1]
    by_cases hd : dropB p l = true
    · rw [if_pos hd, if_pos hd]
    · rw [if_neg hd, if_neg hd, List.map_cons]
theorem rn_addV {o : List Int} (ho : ∀ v ∈ o, v ∈ V) {x : Tm} (hx : Pure x) (hv : x.v > 0 → x.v ∈ V) : addV (o.map r) (sub ρ x) = (addV o x).map r := by
  by_cases h : x.v > 0
  · have hin := hv h
    rw [sub_eq, if_pos h, H.eq _ hin, addV_vt]
    have hp := H.pos _ hin
    have hc : (o.map r).contains (r x.v) = o.contains x.v := by
      rw [Bool.eq_iff_iff, List.contains_iff_mem, List.contains_iff_mem, List.mem_map]
      constructor
      · rintro ⟨u, hu, e⟩; rw [← H.inj u (ho u hu) _ hin e]; exact hu
      · intro hm; exact ⟨_, hm, rfl⟩
    rw [hc]
    unfold addV
    by_cases h2 : o.contains x.v = false
    · rw [if_pos ⟨hp, h2⟩, if_pos ⟨h, h2⟩, List.map_append]; rfl
    · rw [if_neg (fun e => h2 e.2), if_neg (fun e => h2 e.2)]
  · rw [sub_eq, if_neg h]
    unfold addV
    rw [if_neg (fun e => h e.1), if_neg (fun e => h (by simpa only [v_mk] using e.1))]
theorem rn_addVs : ∀ (l : List Tm) (o : List Int), (∀ v ∈ o, v ∈ V) → (∀ x ∈ l, Pure x ∧ (x.v > 0 → x.v ∈ V)) → addVs (o.map r) (l.map (sub ρ)) = (addVs o l).map r
  | [], _, _, _ => rfl
  | x :: l, o, ho, hl => by
    obtain ⟨h1, h2⟩ := hl x (by simp)
    show addVs (addV (o.map r) (sub ρ x)) (l.map (sub ρ)) = (addVs (addV o x) l).map r
    rw [rn_addV H ho h1 h2]
    refine rn_addVs l (addV o x) (fun v hv => ?_) (fun y hy => hl y (by simp [hy]))
    rcases addV_mem hv with h | ⟨h, h3⟩
    · exact ho v h
    · rw [h]; exact h2 h3
theorem rn_firstVars (l : List Tm) (hl : ∀ t ∈ l, Vin V t) : firstVars (l.map (sub ρ)) = (firstVars l).map r := by
  unfold firstVars
  have e : (l.map (sub ρ)).flatMap parts = (l.flatMap parts).map (sub ρ) := by
    induction l with
    | nil => rfl
    | cons t l ih => rw [List.map_cons, List.flatMap_cons, List.flatMap_cons, List.map_append, rn_parts H t (hl t (by simp)), ih fun u hu => hl u (by simp [hu])]
  rw [e]
  exact rn_addVs H _ [] (fun v hv => by cases hv) fun x hx => by
    obtain ⟨t, ht, hx⟩ := List.mem_flatMap.1 hx
    exact ⟨Pure.part (hl t ht).1 hx, (hl t ht).2 x hx⟩
end
theorem look_num : ∀ (vs : List Int) (i j : Nat) (h : j < vs.length), vs.Nodup → lookB vs[j] (numBs vs i) = some (vt ((i : Int) + j + 1))
  | v :: vs, i, 0, _, _ => by simp [numBs, lookB]
  | v :: vs, i, j + 1, h, hn => by
    rw [List.nodup_cons] at hn
    have hj : j < vs.length := by simpa using h
    have hne : ¬ vs[j] = v := fun e => hn.1 (by rw [← e]; exact List.getElem_mem _)
    rw [List.getElem_cons_succ, numBs, lookB, if_neg hne, look_num vs (i + 1) j hj hn.2]
    congr 2; omega
/-- Where a variable stands. -/
def posV (V : List Int) (v : Int) : Int := (V.idxOf v : Int) + 1
theorem num_rn {V : List Int} (hn : V.Nodup) : Rn (sbOf (numBs V 0)) (posV V) V := by
  refine ⟨fun v hv => ?_, fun v hv => by unfold posV; omega, fun v hv u hu h => ?_⟩
  · have hi := List.idxOf_lt_length_of_mem hv
    have := look_num V 0 (V.idxOf v) hi hn
    rw [List.getElem_idxOf hi] at this
    unfold sbOf posV
    rw [this]; simp
  · have h1 := List.getElem_idxOf (List.idxOf_lt_length_of_mem hv)
    have h2 := List.getElem_idxOf (List.idxOf_lt_length_of_mem hu)
    have : V.idxOf v = V.idxOf u := by unfold posV at h; omega
    rw [← h1, ← h2]
    congr 1
theorem pos_map {V : List Int} (hn : V.Nodup) : ∀ (i : Nat) (h : i < (V.map (posV V)).length), (V.map (posV V))[i] = (i : Int) + 1 := by
  intro i h
  have hl : i < V.length := by simpa using h
  rw [List.getElem_map]
  unfold posV
  have : V.idxOf V[i] = i := by
    have h1 := List.idxOf_lt_length_of_mem (List.getElem_mem hl)
    have h2 := List.getElem_idxOf h1
    exact (List.getElem_inj hn).1 h2
  rw [this]
theorem nodup_le : ∀ (n : Nat) (l : List Int), l.Nodup → (∀ v ∈ l, 1 ≤ v ∧ v ≤ n) → l.length ≤ n
  | 0, l, _, h => by
    cases l with
    | nil => simp
    | cons v l => have := h v (by simp); omega
  | n + 1, l, hn, h => by
    have h1 := nodup_le n (l.erase ((n : Int) + 1)) (hn.erase _) fun v hv => by
      have h2 := (hn.mem_erase_iff).1 hv
      have := h v h2.2
      have := h2.1
      omega
    rw [List.length_erase] at h1
    split at h1 <;> omega
theorem numBs_ident : ∀ (V : List Int) (k : Nat), (∀ (i : Nat) (h : i < V.length), V[i] = (k : Int) + i + 1) → ∀ v u, lookB v (numBs V k) = some u → u = vt v
  | [], _, _, v, u, h => by cases h
  | x :: V, k, hV, v, u, h => by
    rw [numBs, lookB] at h
    have h0 := hV 0 (by simp)
    simp only [List.getElem_cons_zero] at h0
    by_cases hv : v = x
    · rw [if_pos hv] at h; cases h; rw [hv, h0]; simp
    · rw [if_neg hv] at h
      exact numBs_ident V (k + 1) (fun i hi => by
        have := hV (i + 1) (by simpa using hi)
        simp only [List.getElem_cons_succ] at this
        rw [this]; omega) v u h
/-- The variables of a clause. -/
abbrev varsC (c : List Lt) : List Int := firstVars (termsOf c)
theorem termsOf_in {c : List Lt} {l : Lt} (hl : l ∈ c) : l.a ∈ termsOf c ∧ l.b ∈ termsOf c :=
  ⟨List.mem_flatMap.2 ⟨l, hl, by simp⟩, List.mem_flatMap.2 ⟨l, hl, by simp⟩⟩
theorem firstVars_has {l : List Tm} {t x : Tm} (ht : t ∈ l) (hx : x ∈ parts t) (hv : x.v > 0) : x.v ∈ firstVars l := addVs_has (List.mem_flatMap.2 ⟨t, ht, hx⟩) hv
def PureC (c : List Lt) : Prop := ∀ l ∈ c, Pure l.a ∧ Pure l.b
theorem PureC.vin {c : List Lt} (h : PureC c) : ∀ l ∈ c, Vin (varsC c) l.a ∧ Vin (varsC c) l.b := fun l hl =>
  ⟨⟨(h l hl).1, fun _ hx hv => firstVars_has (termsOf_in hl).1 hx hv⟩, ⟨(h l hl).2, fun _ hx hv => firstVars_has (termsOf_in hl).2 hx hv⟩⟩
theorem PureC.vinT {c : List Lt} (h : PureC c) : ∀ t ∈ termsOf c, Vin (varsC c) t := fun t ht => by
  obtain ⟨l, hl, rfl | rfl⟩ := termsOf_mem ht
  · exact (h.vin l hl).1
  · exact (h.vin l hl).2
theorem varsC_nodup (c : List Lt) : (varsC c).Nodup := addVs_nodup (by simp)
theorem termsOf_map (f : Tm → Tm) (c : List Lt) : termsOf (c.map (mapLt f)) = (termsOf c).map f := by
  induction c with
  | nil => rfl
  | cons l c ih => simp only [termsOf, List.map_cons, List.flatMap_cons, List.map_append, List.map_nil] at ih ⊢; rw [ih]; rfl
theorem tidyR_sub {c : List Lt} (h : PureC c) : tidyR c = (keepR [] c).map (subLt (sbOf (numBs (varsC (keepR [] c)) 0))) := by
  unfold tidyR
  exact mapLt_same fun l hl => ⟨applyR_sub _ _ (h l (keepR_mem hl)).1, applyR_sub _ _ (h l (keepR_mem hl)).2⟩
theorem keepR_keep : ∀ (c p q : List Lt), (∀ x, dropB q x = dropB p x) → keepR q (keepR p c) = keepR p c
  | [], _, _, _ => rfl
  | l :: c, p, q, h => by
    rw [keepR]
    by_cases hd : dropB p l = true
    · rw [if_pos hd]
      exact keepR_keep c (p ++ [l]) q fun x => by rw [h x, dropB_dropped hd]
    · rw [if_neg hd, keepR, h l, if_neg hd, keepR_keep c (p ++ [l]) (q ++ [l]) fun x => by rw [dropB_snoc, dropB_snoc, h x]]
theorem keepR_twice (c : List Lt) : keepR [] (keepR [] c) = keepR [] c := keepR_keep c [] [] fun _ => rfl
/-- F4: what is tidied twice is tidied once. -/
theorem tidy_twice {c : List Lt} (h : PureC c) : tidyR (tidyR c) = tidyR c := by
  have hk : PureC (keepR [] c) := fun l hl => h l (keepR_mem hl)
  have H := num_rn (varsC_nodup (keepR [] c))
  have e := tidyR_sub h
  generalize hρ : sbOf (numBs (varsC (keepR [] c)) 0) = ρ at *
  have ek : keepR [] (tidyR c) = tidyR c := by
    have := rn_keep H (keepR [] c) [] (fun x hx => by cases hx) hk.vin
    rw [List.map_nil, keepR_twice, ← e] at this
    exact this
  have ev : varsC (tidyR c) = (varsC (keepR [] c)).map (posV (varsC (keepR [] c))) := by
    rw [e]
    show firstVars (termsOf (List.map (mapLt (sub ρ)) _)) = _
    rw [termsOf_map, rn_firstVars H _ hk.vinT]
  have hp : PureC (tidyR c) := by
    rw [e]
    intro l hl
    obtain ⟨x, hx, rfl⟩ := List.mem_map.1 hl
    have key : ∀ t, Vin (varsC (keepR [] c)) t → Pure (sub ρ t) := by
      intro t ht y hy
      rw [rn_parts H t ht] at hy
      obtain ⟨z, hz, rfl⟩ := List.mem_map.1 hy
      obtain ⟨z1, z2⟩ := ht.1 z hz
      rw [sub_eq]
      by_cases hv : z.v > 0
      · have := ht.2 z hz hv
        rw [if_pos hv, H.eq _ this]
        have := H.pos _ this
        exact ⟨by simp only [v_mk]; omega, fun _ => rfl⟩
      · rw [if_neg hv]
        exact ⟨z1, fun h => absurd h hv⟩
    exact ⟨key _ (hk.vin x hx).1, key _ (hk.vin x hx).2⟩
  rw [tidyR_sub hp, ek, ev]
  have hid : ∀ t, Pure t → sub (sbOf (numBs ((varsC (keepR [] c)).map (posV (varsC (keepR [] c)))) 0)) t = t := by
    intro t ht
    refine Eq.trans (sub_congr t fun x hx hv => ?_) (sub_id t ht)
    unfold sbOf
    cases hl : lookB x.v (numBs ((varsC (keepR [] c)).map (posV (varsC (keepR [] c)))) 0) with
    | none => rfl
    | some u =>
      have := numBs_ident _ 0 (fun i hi => by rw [pos_map (varsC_nodup _)]; omega) _ _ hl
      rw [this]; rfl
  refine Eq.trans (List.map_congr_left fun l hl => ?_) (List.map_id' _)
  obtain ⟨y, a, b⟩ := l
  simp only [subLt, mapLt]
  rw [hid a (hp _ hl).1, hid b (hp _ hl).2]
/-- What is tidied is right. -/
theorem tidy_own {g : List Int} {c : List Lt} (h : ∀ l ∈ c, own g l.a = 0 ∧ own g l.b = 0) (hv : ∀ v ∈ varsC (keepR [] c), 1 ≤ v ∧ v ≤ 1000) : ∀ l ∈ tidyR c, own g l.a = 0 ∧ own g l.b = 0 := by
  have hp : PureC c := fun l hl => ⟨own_pure (h l hl).1, own_pure (h l hl).2⟩
  have hk : PureC (keepR [] c) := fun l hl => hp l (keepR_mem hl)
  have H := num_rn (varsC_nodup (keepR [] c))
  have hlen := nodup_le 1000 _ (varsC_nodup (keepR [] c)) hv
  rw [tidyR_sub hp]
  intro l hl
  obtain ⟨x, hx, rfl⟩ := List.mem_map.1 hl
  have hr : ∀ v ∈ varsC (keepR [] c), posV (varsC (keepR [] c)) v ≤ 1000 := fun v hv => by
    have := List.idxOf_lt_length_of_mem hv
    unfold posV; omega
  have ho := h x (keepR_mem hx)
  exact ⟨rn_own H g hr (hk.vin x hx).1 ho.1, rn_own H g hr (hk.vin x hx).2 ho.2⟩
theorem tidyR_len (c : List Lt) : (tidyR c).length ≤ c.length := by
  unfold tidyR; rw [List.length_map]; exact keepR_len c []
end Go.Proofs.Ytmeekpinkfpnhaa

namespace Go.Proofs.Ytmeekpinkfpnhaa
open Go.RowKit
set_option linter.unusedSimpArgs false
set_option linter.unusedSectionVars false

theorem ltDV_map1 (a : Lt) : [ltDV a] = [a].map ltDV := rfl
/-- The clause of the begun. -/
def cbC : List Lt := [⟨true, .mk 7 0 [], .mk 0 0 []⟩, ⟨false, .mk 3 0 [], .mk 3 0 []⟩]
def cbD : List Lt := [⟨true, .mk 1 0 [], .mk 0 0 []⟩]
def cbE : List Lt := [⟨true, .mk 0 0 [], .mk 0 1 [.mk 0 0 []]⟩]
theorem cb1 : tidyAns [0, 1] cbC = (cbD, 0) := by rfl
theorem cb2 : subAns [0, 1] cbD cbE = (true, 0) := by rfl
theorem cb3 : alwAns [0, 1] cbC = (false, 0) := by rfl
theorem cb4 : clsOk [0, 1] [cbC] = 0 := by rfl
theorem cbd1 : DV.st [bD true, iD 7, iD 0, .sl [], iD 0, iD 0, .sl []] = ltDV ⟨true, .mk 7 0 [], .mk 0 0 []⟩ := rfl
theorem cbd2 : DV.st [bD false, iD 3, iD 0, .sl [], iD 3, iD 0, .sl []] = ltDV ⟨false, .mk 3 0 [], .mk 3 0 []⟩ := rfl
theorem cbd3 : DV.st [bD true, iD 0, iD 0, .sl [], iD 0, iD 1, .sl ([.mk 0 0 []].map tmDV)] = ltDV ⟨true, .mk 0 0 [], .mk 0 1 [.mk 0 0 []]⟩ := rfl
set_option maxHeartbeats 2000000 in
set_option maxRecDepth 20000 in
theorem clauseBegun_tri : Tri Try.prog 35 [] (pure' (bA true)) := by
  have v1 := tidy_tri [0, 1] cbC (by decide)
  have v2 := subsumes_tri [0, 1] cbD cbE (by decide) (by decide) (by decide)
  have v3 := always_tri [0, 1] cbC (by decide)
  have v4 := clCheck_tri [0, 1] [cbC] (by decide) (by decide)
  rw [cb1] at v1
  rw [cb2] at v2
  rw [cb3] at v3
  rw [cb4] at v4
  simp only [cbD, List.map_cons, List.map_nil] at v1 v2
  have ht0 : Int.toNat 0 = 0 := rfl
  have h11 : (((1 : Nat) : Int) == 1) = true := rfl
  refine tri_enter Try.func35 rfl Try.ntmps35 (by simp only [List.length_cons, List.length_nil]; omega) fun w0 h0 k hrd hwr => ?_
  repeat' (first
    | refine awp_seq_k fun K hK => ?_
    | ((first | refine awp_region_k (by kernel_rfl) fun R hR => ?_ | refine awp_draw mixed (by kernel_rfl) (by kernel_rfl) fun R hR => ?_); simp only [go_sem, beq_self_eq_true, h11, ht0, v_mk, cbd1, cbd2, cbd3])
    | ((first | (refine hR _ ?_; clear hR R) | refine awp_skip ?_ | refine awp_exit ?_ | refine awp_ret ?_); try simp only [thenA, inBlockA, reduceIte, reduceCtorEq, Nat.reduceEqDiff, if_false, if_true])
    | ((first | refine hK _ ?_ | (clear hK K; first | refine hK _ ?_ | (clear hK K; first | refine hK _ ?_ | (clear hK K; first | refine hK _ ?_ | (clear hK K; refine hK _ ?_))))); clear hK K)
    | refine awp_true rfl rfl ?_
    | refine awp_false rfl rfl ?_
    | refine awp_block ?_
    | ((first | refine CallK.pure (enter65) (small_tri) ?_ ?_ | refine CallD.pure (enter65) (small_tri) ?_ ?_); (focus first | ((repeat (first | exact trivial | refine ⟨(by first | exact Or.inl rfl | exact Or.inr rfl), ?_⟩)); done) | (simp only [coL, AV.dat, true_or, or_true, AV.d.injEq, go_sem]; done)); simp only [go_sem, beq_self_eq_true, h11, ht0, v_mk, cbd1, cbd2, cbd3])
    | ((first | refine CallK.pure (enter67) (va_tri 7) ?_ ?_ | refine CallD.pure (enter67) (va_tri 7) ?_ ?_); (focus first | ((repeat (first | exact trivial | refine ⟨(by first | exact Or.inl rfl | exact Or.inr rfl), ?_⟩)); done) | (simp only [coL, AV.dat, true_or, or_true, AV.d.injEq, go_sem]; done)); simp only [go_sem, beq_self_eq_true, h11, ht0, v_mk, cbd1, cbd2, cbd3])
    | ((first | refine CallK.pure (enter67) (va_tri 3) ?_ ?_ | refine CallD.pure (enter67) (va_tri 3) ?_ ?_); (focus first | ((repeat (first | exact trivial | refine ⟨(by first | exact Or.inl rfl | exact Or.inr rfl), ?_⟩)); done) | (simp only [coL, AV.dat, true_or, or_true, AV.d.injEq, go_sem]; done)); simp only [go_sem, beq_self_eq_true, h11, ht0, v_mk, cbd1, cbd2, cbd3])
    | ((first | refine CallK.pure (enter66) (fn_tri 0 []) ?_ ?_ | refine CallD.pure (enter66) (fn_tri 0 []) ?_ ?_); (focus first | ((repeat (first | exact trivial | refine ⟨(by first | exact Or.inl rfl | exact Or.inr rfl), ?_⟩)); done) | (simp only [coL, AV.dat, true_or, or_true, AV.d.injEq, go_sem]; done)); simp only [go_sem, beq_self_eq_true, h11, ht0, v_mk, cbd1, cbd2, cbd3])
    | ((first | refine CallK.pure (enter66) (fn_tri 1 [.mk 0 0 []]) ?_ ?_ | refine CallD.pure (enter66) (fn_tri 1 [.mk 0 0 []]) ?_ ?_); (focus first | ((repeat (first | exact trivial | refine ⟨(by first | exact Or.inl rfl | exact Or.inr rfl), ?_⟩)); done) | (simp only [coL, AV.dat, true_or, or_true, AV.d.injEq, go_sem]; done)); simp only [go_sem, beq_self_eq_true, h11, ht0, v_mk, cbd1, cbd2, cbd3])
    | ((first | refine CallK.pure (enter29) (v1) ?_ ?_ | refine CallD.pure (enter29) (v1) ?_ ?_); (focus first | ((repeat (first | exact trivial | refine ⟨(by first | exact Or.inl rfl | exact Or.inr rfl), ?_⟩)); done) | (simp only [coL, AV.dat, true_or, or_true, AV.d.injEq, go_sem]; done)); simp only [go_sem, beq_self_eq_true, h11, ht0, v_mk, cbd1, cbd2, cbd3])
    | ((first | refine CallK.pure (enter31) (v2) ?_ ?_ | refine CallD.pure (enter31) (v2) ?_ ?_); (focus first | ((repeat (first | exact trivial | refine ⟨(by first | exact Or.inl rfl | exact Or.inr rfl), ?_⟩)); done) | (simp only [coL, AV.dat, true_or, or_true, AV.d.injEq, go_sem]; done)); simp only [go_sem, beq_self_eq_true, h11, ht0, v_mk, cbd1, cbd2, cbd3])
    | ((first | refine CallK.pure (enter30) (v3) ?_ ?_ | refine CallD.pure (enter30) (v3) ?_ ?_); (focus first | ((repeat (first | exact trivial | refine ⟨(by first | exact Or.inl rfl | exact Or.inr rfl), ?_⟩)); done) | (simp only [coL, AV.dat, true_or, or_true, AV.d.injEq, go_sem]; done)); simp only [go_sem, beq_self_eq_true, h11, ht0, v_mk, cbd1, cbd2, cbd3])
    | ((first | refine CallK.pure (enter36) (v4) ?_ ?_ | refine CallD.pure (enter36) (v4) ?_ ?_); (focus first | ((repeat (first | exact trivial | refine ⟨(by first | exact Or.inl rfl | exact Or.inr rfl), ?_⟩)); done) | (simp only [coL, AV.dat, true_or, or_true, AV.d.injEq, go_sem]; done)); simp only [go_sem, beq_self_eq_true, h11, ht0, v_mk, cbd1, cbd2, cbd3])
    | refine And.intro (by first | omega | exact trivial | rfl | assumption | (apply map_sz; intro a; simp only [go_sem]; done) | ((and_intros <;> first | omega | exact trivial | rfl | assumption | (apply map_sz; intro a; simp only [go_sem]; done) | fail); done) | fail) ?_
    | fail)
  first | refine ret_pure (by simp only [Try.results35, resOkL, resOk, Try.ntmps35, List.toList_toArray]; first | decide | (simp only [go_sem]; done) | (simp only [go_sem]; and_intros <;> first | omega | rfl | decide)) ?_ (by repeat (first | exact Fr.rfl' _ _ | assumption | refine Fr.updk ?_ (by omega) _)) | refine ret_ro (by simp only [Try.results35, resOkL, resOk, Try.ntmps35, List.toList_toArray]; first | decide | (simp only [go_sem]; done) | (simp only [go_sem]; and_intros <;> first | omega | rfl | decide)) ?_ (by repeat (first | exact Fr.rfl' _ _ | assumption | refine Fr.updk ?_ (by omega) _))
  simp only [resA, resV, Try.results35, go_sem]
  all_goals try (first | exact Co.t2 (.dat rfl) (.dat rfl) | exact Co.t3 (.dat rfl) (.dat rfl) (.dat rfl))
  exact .dat rfl
set_option maxHeartbeats 4000000 in
set_option maxRecDepth 20000 in
theorem clauseTells_tri (g : List Int) (c d : List Lt) (hc : c.length ≤ 4000000) (hd : d.length ≤ 4000000) (hcs : ∀ l ∈ c, l.a.size ≤ 4000000 ∧ l.b.size ≤ 4000000) : Tri Try.prog 5 [.d (sgDV g), .d (clDV c), .d (clDV d)] (pure' (bA true)) := by
  have t1 := tidy_tri g c hc
  have t2 := always_tri g c hc
  have t3 := subsumes_tri g c d hc hd hcs
  have t4 := checkClauses_tri g [c] (by simp) (by simpa using hc)
  have t5 := checkClauses_tri g [c, d] (by simp) (by intro x hx; simp only [List.mem_cons, List.not_mem_nil, or_false] at hx; rcases hx with rfl | rfl <;> omega)
  have t6 := clCheck_tri g [c, d] (by simp) (by intro x hx; simp only [List.mem_cons, List.not_mem_nil, or_false] at hx; rcases hx with rfl | rfl <;> omega)
  refine tri_enter Try.func5 rfl Try.ntmps5 (by simp only [List.length_cons, List.length_nil]; omega) fun w0 h0 k hrd hwr => ?_
  have hsub : clsOk g [c, d] = 0 → clsOk g [c] = 0 := fun h => by
    obtain ⟨h1, h2, h3⟩ := clsOk_all h
    unfold clsOk
    rw [if_neg (by simp [h1]), if_neg (by simp), clsL, clsL, h3 c (by simp)]; simp
  cases hv : clsOk g [c] == 0 with
  | true =>
    have hv2 : clsOk g [c] = 0 := by simpa using hv
    obtain ⟨hl8, hown⟩ := clsOk_one hv2
    have hgd : ∀ l ∈ c, Good l.a ∧ Good l.b := fun l hl => ⟨own_good (hown l hl).1, own_good (hown l hl).2⟩
    have ha1 : tidyAns g c = (tidyR c, 0) := by unfold tidyAns; rw [if_neg (by simp [hv2]), neat_tidy hgd]
    have ha2 : alwAns g c = (alwB c, 0) := by unfold alwAns; rw [if_neg (by simp [hv2])]
    rw [ha1] at t1
    rw [ha2] at t2
    rw [hv2] at t4
    have tt := tidyOf_tri c (small_own hv2)
    have ta := alwaysOf_tri c hc
    have hlen := tidyR_len c
    have ci := clauseIs_tri (tidyR c) (by omega) 0 0 (tidyR c)
    rw [if_neg (by simp), sameC_rfl, beq_self_eq_true, Bool.true_and] at ci
    cases hw : clsOk g [c, d] == 0 with
    | true =>
      have hw2 : clsOk g [c, d] = 0 := by simpa using hw
      have hdo := (clOk_all ((clsOk_all hw2).2.2 d (by simp)))
      have ha3 : subAns g c d = (covG grow c d [], 0) := by
        unfold subAns
        rw [if_neg (by simp [hw2]), covG_eq c d [] fun x hx => ⟨fun z hz => own_v (hdo.2 x hx).1 hz, fun z hz => own_v (hdo.2 x hx).2 hz⟩]
      have hszc : szC c ≤ 240 * 8 := by
        unfold szC
        have h1 : ∀ (c : List Lt), (∀ l ∈ c, own g l.a = 0 ∧ own g l.b = 0) → (c.map fun l => l.a.size + l.b.size).sum ≤ 240 * c.length := by
          intro c hc
          induction c with
          | nil => simp
          | cons l c ih =>
            have h1 := hc l (by simp)
            have h2 := own_parts h1.1
            have h3 := own_parts h1.2
            rw [parts_len] at h2 h3
            have := ih fun x hx => hc x (by simp [hx])
            simp only [List.map_cons, List.sum_cons, List.length_cons]; omega
        have := h1 c hown
        omega
      have tc := coversOf_tri d hd c hc [] (by simp; omega)
      rw [ha3] at t3
      rw [hw2] at t5 t6
      repeat' (first
        | refine awp_seq_k fun K hK => ?_
        | ((first | refine awp_region_k (by kernel_rfl) fun R hR => ?_ | refine awp_draw mixed (by kernel_rfl) (by kernel_rfl) fun R hR => ?_); simp only [go_sem, hv2, hw2, beq_self_eq_true])
        | ((first | (refine hR _ ?_; clear hR R) | refine awp_skip ?_ | refine awp_exit ?_ | refine awp_ret ?_); try simp only [thenA, inBlockA, reduceIte, reduceCtorEq, Nat.reduceEqDiff, if_false, if_true])
        | ((first | refine hK _ ?_ | (clear hK K; first | refine hK _ ?_ | (clear hK K; first | refine hK _ ?_ | (clear hK K; first | refine hK _ ?_ | (clear hK K; refine hK _ ?_))))); clear hK K)
        | refine awp_true rfl rfl ?_
        | refine awp_false rfl rfl ?_
        | refine awp_block ?_
        | ((first | refine CallK.pure (enter29) (t1) ?_ ?_ | refine CallD.pure (enter29) (t1) ?_ ?_); (focus first | ((repeat (first | exact trivial | refine ⟨(by first | exact Or.inl rfl | exact Or.inr rfl), ?_⟩)); done) | (simp only [coL, AV.dat, true_or, or_true, AV.d.injEq, go_sem]; done)); simp only [go_sem, hv2, hw2, beq_self_eq_true])
        | ((first | refine CallK.pure (enter30) (t2) ?_ ?_ | refine CallD.pure (enter30) (t2) ?_ ?_); (focus first | ((repeat (first | exact trivial | refine ⟨(by first | exact Or.inl rfl | exact Or.inr rfl), ?_⟩)); done) | (simp only [coL, AV.dat, true_or, or_true, AV.d.injEq, go_sem]; done)); simp only [go_sem, hv2, hw2, beq_self_eq_true])
        | ((first | refine CallK.pure (enter31) (t3) ?_ ?_ | refine CallD.pure (enter31) (t3) ?_ ?_); (focus first | ((repeat (first | exact trivial | refine ⟨(by first | exact Or.inl rfl | exact Or.inr rfl), ?_⟩)); done) | (simp only [coL, AV.dat, true_or, or_true, AV.d.injEq, go_sem]; done)); simp only [go_sem, hv2, hw2, beq_self_eq_true])
        | ((first | refine CallK.pure (enter24) (t4) ?_ ?_ | refine CallD.pure (enter24) (t4) ?_ ?_); (focus first | ((repeat (first | exact trivial | refine ⟨(by first | exact Or.inl rfl | exact Or.inr rfl), ?_⟩)); done) | (simp only [coL, AV.dat, true_or, or_true, AV.d.injEq, go_sem]; done)); simp only [go_sem, hv2, hw2, beq_self_eq_true])
        | ((first | refine CallK.pure (enter24) (t5) ?_ ?_ | refine CallD.pure (enter24) (t5) ?_ ?_); (focus first | ((repeat (first | exact trivial | refine ⟨(by first | exact Or.inl rfl | exact Or.inr rfl), ?_⟩)); done) | (simp only [coL, AV.dat, true_or, or_true, AV.d.injEq, go_sem]; done)); simp only [go_sem, hv2, hw2, beq_self_eq_true])
        | ((first | refine CallK.pure (enter32) (tt) ?_ ?_ | refine CallD.pure (enter32) (tt) ?_ ?_); (focus first | ((repeat (first | exact trivial | refine ⟨(by first | exact Or.inl rfl | exact Or.inr rfl), ?_⟩)); done) | (simp only [coL, AV.dat, true_or, or_true, AV.d.injEq, go_sem]; done)); simp only [go_sem, hv2, hw2, beq_self_eq_true])
        | ((first | refine CallK.pure (enter33) (ta) ?_ ?_ | refine CallD.pure (enter33) (ta) ?_ ?_); (focus first | ((repeat (first | exact trivial | refine ⟨(by first | exact Or.inl rfl | exact Or.inr rfl), ?_⟩)); done) | (simp only [coL, AV.dat, true_or, or_true, AV.d.injEq, go_sem]; done)); simp only [go_sem, hv2, hw2, beq_self_eq_true])
        | ((first | refine CallK.pure (enter34) (tc) ?_ ?_ | refine CallD.pure (enter34) (tc) ?_ ?_); (focus first | ((repeat (first | exact trivial | refine ⟨(by first | exact Or.inl rfl | exact Or.inr rfl), ?_⟩)); done) | (simp only [coL, AV.dat, true_or, or_true, AV.d.injEq, go_sem]; done)); simp only [go_sem, hv2, hw2, beq_self_eq_true])
        | ((first | refine CallK.pure (enter35) (clauseBegun_tri) ?_ ?_ | refine CallD.pure (enter35) (clauseBegun_tri) ?_ ?_); (focus first | ((repeat (first | exact trivial | refine ⟨(by first | exact Or.inl rfl | exact Or.inr rfl), ?_⟩)); done) | (simp only [coL, AV.dat, true_or, or_true, AV.d.injEq, go_sem]; done)); simp only [go_sem, hv2, hw2, beq_self_eq_true])
        | ((first | refine CallK.pure (enter36) (t6) ?_ ?_ | refine CallD.pure (enter36) (t6) ?_ ?_); (focus first | ((repeat (first | exact trivial | refine ⟨(by first | exact Or.inl rfl | exact Or.inr rfl), ?_⟩)); done) | (simp only [coL, AV.dat, true_or, or_true, AV.d.injEq, go_sem]; done)); simp only [go_sem, hv2, hw2, beq_self_eq_true])
        | ((first | refine CallK.pure (enter37) (ci) ?_ ?_ | refine CallD.pure (enter37) (ci) ?_ ?_); (focus first | ((repeat (first | exact trivial | refine ⟨(by first | exact Or.inl rfl | exact Or.inr rfl), ?_⟩)); done) | (simp only [coL, AV.dat, true_or, or_true, AV.d.injEq, go_sem]; done)); simp only [go_sem, hv2, hw2, beq_self_eq_true])
        | refine And.intro (by first | omega | exact trivial | rfl | assumption | (apply map_sz; intro a; simp only [go_sem]; done) | ((and_intros <;> first | omega | exact trivial | rfl | assumption | (apply map_sz; intro a; simp only [go_sem]; done) | fail); done) | fail) ?_
        | fail)
      first | refine ret_pure (by simp only [Try.results5, resOkL, resOk, Try.ntmps5, List.toList_toArray]; first | decide | (simp only [go_sem]; done) | (simp only [go_sem]; and_intros <;> first | omega | rfl | decide)) ?_ (by repeat (first | exact Fr.rfl' _ _ | assumption | refine Fr.updk ?_ (by omega) _)) | refine ret_ro (by simp only [Try.results5, resOkL, resOk, Try.ntmps5, List.toList_toArray]; first | decide | (simp only [go_sem]; done) | (simp only [go_sem]; and_intros <;> first | omega | rfl | decide)) ?_ (by repeat (first | exact Fr.rfl' _ _ | assumption | refine Fr.updk ?_ (by omega) _))
      simp only [resA, resV, Try.results5, go_sem]
      all_goals try (first | exact Co.t2 (.dat rfl) (.dat rfl) | exact Co.t3 (.dat rfl) (.dat rfl) (.dat rfl))
      exact .dat rfl
    | false =>
      have ha3 : subAns g c d = (false, clsOk g [c, d]) := by unfold subAns; rw [if_pos (by simpa using hw)]
      rw [ha3] at t3
      repeat' (first
        | refine awp_seq_k fun K hK => ?_
        | ((first | refine awp_region_k (by kernel_rfl) fun R hR => ?_ | refine awp_draw mixed (by kernel_rfl) (by kernel_rfl) fun R hR => ?_); simp only [go_sem, hv2, hw, beq_self_eq_true])
        | ((first | (refine hR _ ?_; clear hR R) | refine awp_skip ?_ | refine awp_exit ?_ | refine awp_ret ?_); try simp only [thenA, inBlockA, reduceIte, reduceCtorEq, Nat.reduceEqDiff, if_false, if_true])
        | ((first | refine hK _ ?_ | (clear hK K; first | refine hK _ ?_ | (clear hK K; first | refine hK _ ?_ | (clear hK K; first | refine hK _ ?_ | (clear hK K; refine hK _ ?_))))); clear hK K)
        | refine awp_true rfl rfl ?_
        | refine awp_false rfl rfl ?_
        | refine awp_block ?_
        | ((first | refine CallK.pure (enter29) (t1) ?_ ?_ | refine CallD.pure (enter29) (t1) ?_ ?_); (focus first | ((repeat (first | exact trivial | refine ⟨(by first | exact Or.inl rfl | exact Or.inr rfl), ?_⟩)); done) | (simp only [coL, AV.dat, true_or, or_true, AV.d.injEq, go_sem]; done)); simp only [go_sem, hv2, hw, beq_self_eq_true])
        | ((first | refine CallK.pure (enter30) (t2) ?_ ?_ | refine CallD.pure (enter30) (t2) ?_ ?_); (focus first | ((repeat (first | exact trivial | refine ⟨(by first | exact Or.inl rfl | exact Or.inr rfl), ?_⟩)); done) | (simp only [coL, AV.dat, true_or, or_true, AV.d.injEq, go_sem]; done)); simp only [go_sem, hv2, hw, beq_self_eq_true])
        | ((first | refine CallK.pure (enter31) (t3) ?_ ?_ | refine CallD.pure (enter31) (t3) ?_ ?_); (focus first | ((repeat (first | exact trivial | refine ⟨(by first | exact Or.inl rfl | exact Or.inr rfl), ?_⟩)); done) | (simp only [coL, AV.dat, true_or, or_true, AV.d.injEq, go_sem]; done)); simp only [go_sem, hv2, hw, beq_self_eq_true])
        | ((first | refine CallK.pure (enter24) (t4) ?_ ?_ | refine CallD.pure (enter24) (t4) ?_ ?_); (focus first | ((repeat (first | exact trivial | refine ⟨(by first | exact Or.inl rfl | exact Or.inr rfl), ?_⟩)); done) | (simp only [coL, AV.dat, true_or, or_true, AV.d.injEq, go_sem]; done)); simp only [go_sem, hv2, hw, beq_self_eq_true])
        | ((first | refine CallK.pure (enter24) (t5) ?_ ?_ | refine CallD.pure (enter24) (t5) ?_ ?_); (focus first | ((repeat (first | exact trivial | refine ⟨(by first | exact Or.inl rfl | exact Or.inr rfl), ?_⟩)); done) | (simp only [coL, AV.dat, true_or, or_true, AV.d.injEq, go_sem]; done)); simp only [go_sem, hv2, hw, beq_self_eq_true])
        | ((first | refine CallK.pure (enter32) (tt) ?_ ?_ | refine CallD.pure (enter32) (tt) ?_ ?_); (focus first | ((repeat (first | exact trivial | refine ⟨(by first | exact Or.inl rfl | exact Or.inr rfl), ?_⟩)); done) | (simp only [coL, AV.dat, true_or, or_true, AV.d.injEq, go_sem]; done)); simp only [go_sem, hv2, hw, beq_self_eq_true])
        | ((first | refine CallK.pure (enter33) (ta) ?_ ?_ | refine CallD.pure (enter33) (ta) ?_ ?_); (focus first | ((repeat (first | exact trivial | refine ⟨(by first | exact Or.inl rfl | exact Or.inr rfl), ?_⟩)); done) | (simp only [coL, AV.dat, true_or, or_true, AV.d.injEq, go_sem]; done)); simp only [go_sem, hv2, hw, beq_self_eq_true])
        | ((first | refine CallK.pure (enter35) (clauseBegun_tri) ?_ ?_ | refine CallD.pure (enter35) (clauseBegun_tri) ?_ ?_); (focus first | ((repeat (first | exact trivial | refine ⟨(by first | exact Or.inl rfl | exact Or.inr rfl), ?_⟩)); done) | (simp only [coL, AV.dat, true_or, or_true, AV.d.injEq, go_sem]; done)); simp only [go_sem, hv2, hw, beq_self_eq_true])
        | ((first | refine CallK.pure (enter36) (t6) ?_ ?_ | refine CallD.pure (enter36) (t6) ?_ ?_); (focus first | ((repeat (first | exact trivial | refine ⟨(by first | exact Or.inl rfl | exact Or.inr rfl), ?_⟩)); done) | (simp only [coL, AV.dat, true_or, or_true, AV.d.injEq, go_sem]; done)); simp only [go_sem, hv2, hw, beq_self_eq_true])
        | ((first | refine CallK.pure (enter37) (ci) ?_ ?_ | refine CallD.pure (enter37) (ci) ?_ ?_); (focus first | ((repeat (first | exact trivial | refine ⟨(by first | exact Or.inl rfl | exact Or.inr rfl), ?_⟩)); done) | (simp only [coL, AV.dat, true_or, or_true, AV.d.injEq, go_sem]; done)); simp only [go_sem, hv2, hw, beq_self_eq_true])
        | refine And.intro (by first | omega | exact trivial | rfl | assumption | (apply map_sz; intro a; simp only [go_sem]; done) | ((and_intros <;> first | omega | exact trivial | rfl | assumption | (apply map_sz; intro a; simp only [go_sem]; done) | fail); done) | fail) ?_
        | fail)
      first | refine ret_pure (by simp only [Try.results5, resOkL, resOk, Try.ntmps5, List.toList_toArray]; first | decide | (simp only [go_sem]; done) | (simp only [go_sem]; and_intros <;> first | omega | rfl | decide)) ?_ (by repeat (first | exact Fr.rfl' _ _ | assumption | refine Fr.updk ?_ (by omega) _)) | refine ret_ro (by simp only [Try.results5, resOkL, resOk, Try.ntmps5, List.toList_toArray]; first | decide | (simp only [go_sem]; done) | (simp only [go_sem]; and_intros <;> first | omega | rfl | decide)) ?_ (by repeat (first | exact Fr.rfl' _ _ | assumption | refine Fr.updk ?_ (by omega) _))
      simp only [resA, resV, Try.results5, go_sem]
      all_goals try (first | exact Co.t2 (.dat rfl) (.dat rfl) | exact Co.t3 (.dat rfl) (.dat rfl) (.dat rfl))
      exact .dat rfl
  | false =>
    have hv2 : ¬ clsOk g [c] = 0 := by simpa using hv
    have hw : (clsOk g [c, d] == 0) = false := by simpa using fun h => hv2 (hsub h)
    have ha1 : tidyAns g c = ([], clsOk g [c]) := by unfold tidyAns; rw [if_pos hv2]
    have ha2 : alwAns g c = (false, clsOk g [c]) := by unfold alwAns; rw [if_pos hv2]
    have ha3 : subAns g c d = (false, clsOk g [c, d]) := by unfold subAns; rw [if_pos (by simpa using hw)]
    rw [ha1] at t1
    rw [ha2] at t2
    rw [ha3] at t3
    have ci := clauseIs_tri [] (by simp) (clsOk g [c]) (clsOk g [c]) []
    rw [if_pos hv2, sameC_rfl, beq_self_eq_true, Bool.true_and] at ci
    repeat' (first
      | refine awp_seq_k fun K hK => ?_
      | ((first | refine awp_region_k (by kernel_rfl) fun R hR => ?_ | refine awp_draw mixed (by kernel_rfl) (by kernel_rfl) fun R hR => ?_); simp only [go_sem, hv, hw, beq_self_eq_true])
      | ((first | (refine hR _ ?_; clear hR R) | refine awp_skip ?_ | refine awp_exit ?_ | refine awp_ret ?_); try simp only [thenA, inBlockA, reduceIte, reduceCtorEq, Nat.reduceEqDiff, if_false, if_true])
      | ((first | refine hK _ ?_ | (clear hK K; first | refine hK _ ?_ | (clear hK K; first | refine hK _ ?_ | (clear hK K; first | refine hK _ ?_ | (clear hK K; refine hK _ ?_))))); clear hK K)
      | refine awp_true rfl rfl ?_
      | refine awp_false rfl rfl ?_
      | refine awp_block ?_
      | ((first | refine CallK.pure (enter29) (t1) ?_ ?_ | refine CallD.pure (enter29) (t1) ?_ ?_); (focus first | ((repeat (first | exact trivial | refine ⟨(by first | exact Or.inl rfl | exact Or.inr rfl), ?_⟩)); done) | (simp only [coL, AV.dat, true_or, or_true, AV.d.injEq, go_sem]; done)); simp only [go_sem, hv, hw, beq_self_eq_true])
      | ((first | refine CallK.pure (enter30) (t2) ?_ ?_ | refine CallD.pure (enter30) (t2) ?_ ?_); (focus first | ((repeat (first | exact trivial | refine ⟨(by first | exact Or.inl rfl | exact Or.inr rfl), ?_⟩)); done) | (simp only [coL, AV.dat, true_or, or_true, AV.d.injEq, go_sem]; done)); simp only [go_sem, hv, hw, beq_self_eq_true])
      | ((first | refine CallK.pure (enter31) (t3) ?_ ?_ | refine CallD.pure (enter31) (t3) ?_ ?_); (focus first | ((repeat (first | exact trivial | refine ⟨(by first | exact Or.inl rfl | exact Or.inr rfl), ?_⟩)); done) | (simp only [coL, AV.dat, true_or, or_true, AV.d.injEq, go_sem]; done)); simp only [go_sem, hv, hw, beq_self_eq_true])
      | ((first | refine CallK.pure (enter24) (t4) ?_ ?_ | refine CallD.pure (enter24) (t4) ?_ ?_); (focus first | ((repeat (first | exact trivial | refine ⟨(by first | exact Or.inl rfl | exact Or.inr rfl), ?_⟩)); done) | (simp only [coL, AV.dat, true_or, or_true, AV.d.injEq, go_sem]; done)); simp only [go_sem, hv, hw, beq_self_eq_true])
      | ((first | refine CallK.pure (enter24) (t5) ?_ ?_ | refine CallD.pure (enter24) (t5) ?_ ?_); (focus first | ((repeat (first | exact trivial | refine ⟨(by first | exact Or.inl rfl | exact Or.inr rfl), ?_⟩)); done) | (simp only [coL, AV.dat, true_or, or_true, AV.d.injEq, go_sem]; done)); simp only [go_sem, hv, hw, beq_self_eq_true])
      | ((first | refine CallK.pure (enter35) (clauseBegun_tri) ?_ ?_ | refine CallD.pure (enter35) (clauseBegun_tri) ?_ ?_); (focus first | ((repeat (first | exact trivial | refine ⟨(by first | exact Or.inl rfl | exact Or.inr rfl), ?_⟩)); done) | (simp only [coL, AV.dat, true_or, or_true, AV.d.injEq, go_sem]; done)); simp only [go_sem, hv, hw, beq_self_eq_true])
      | ((first | refine CallK.pure (enter36) (t6) ?_ ?_ | refine CallD.pure (enter36) (t6) ?_ ?_); (focus first | ((repeat (first | exact trivial | refine ⟨(by first | exact Or.inl rfl | exact Or.inr rfl), ?_⟩)); done) | (simp only [coL, AV.dat, true_or, or_true, AV.d.injEq, go_sem]; done)); simp only [go_sem, hv, hw, beq_self_eq_true])
      | ((first | refine CallK.pure (enter37) (ci) ?_ ?_ | refine CallD.pure (enter37) (ci) ?_ ?_); (focus first | ((repeat (first | exact trivial | refine ⟨(by first | exact Or.inl rfl | exact Or.inr rfl), ?_⟩)); done) | (simp only [coL, AV.dat, true_or, or_true, AV.d.injEq, go_sem]; done)); simp only [go_sem, hv, hw, beq_self_eq_true])
      | refine And.intro (by first | omega | exact trivial | rfl | assumption | (apply map_sz; intro a; simp only [go_sem]; done) | ((and_intros <;> first | omega | exact trivial | rfl | assumption | (apply map_sz; intro a; simp only [go_sem]; done) | fail); done) | fail) ?_
      | fail)
    first | refine ret_pure (by simp only [Try.results5, resOkL, resOk, Try.ntmps5, List.toList_toArray]; first | decide | (simp only [go_sem]; done) | (simp only [go_sem]; and_intros <;> first | omega | rfl | decide)) ?_ (by repeat (first | exact Fr.rfl' _ _ | assumption | refine Fr.updk ?_ (by omega) _)) | refine ret_ro (by simp only [Try.results5, resOkL, resOk, Try.ntmps5, List.toList_toArray]; first | decide | (simp only [go_sem]; done) | (simp only [go_sem]; and_intros <;> first | omega | rfl | decide)) ?_ (by repeat (first | exact Fr.rfl' _ _ | assumption | refine Fr.updk ?_ (by omega) _))
    simp only [resA, resV, Try.results5, go_sem]
    all_goals try (first | exact Co.t2 (.dat rfl) (.dat rfl) | exact Co.t3 (.dat rfl) (.dat rfl) (.dat rfl))
    exact .dat rfl
theorem lt_size {c : List Lt} {l : Lt} (h : l ∈ c) : l.size ≤ (c.map Lt.size).sum := by
  induction c with
  | nil => cases h
  | cons x c ih =>
    rw [List.map_cons, List.sum_cons]
    rcases List.mem_cons.1 h with rfl | h
    · omega
    · have := ih h; omega
theorem lt_len (c : List Lt) : c.length ≤ (c.map Lt.size).sum := by
  induction c with
  | nil => simp
  | cons x c ih =>
    rw [List.map_cons, List.sum_cons, List.length_cons]
    have : 1 ≤ x.size := by unfold Lt.size; omega
    omega
theorem lt_sizes {c : List Lt} {n : Nat} (h : (c.map Lt.size).sum ≤ n) : c.length ≤ n ∧ ∀ l ∈ c, l.a.size ≤ n ∧ l.b.size ≤ n := by
  refine ⟨by have := lt_len c; omega, fun l hl => ?_⟩
  have := lt_size hl
  unfold Lt.size at this h
  constructor <;> omega
theorem clause_law (g : List Int) (c d : List Lt) (_ : True) (_ : True) (_ : True) (hb : (g.length + 1) + ((c.map Lt.size).sum + 1) + ((d.map Lt.size).sum + 1) ≤ 1048576) : Tri Try.prog 5 [.d (sgDV g), .d (clDV c), .d (clDV d)] (pure' (bA true)) := by
  obtain ⟨h1, h2⟩ := lt_sizes (c := c) (n := 1048576) (by omega)
  obtain ⟨h3, h4⟩ := lt_sizes (c := d) (n := 1048576) (by omega)
  exact clauseTells_tri g c d (by omega) (by omega) (fun l hl => by have := h2 l hl; omega)
end Go.Proofs.Ytmeekpinkfpnhaa
