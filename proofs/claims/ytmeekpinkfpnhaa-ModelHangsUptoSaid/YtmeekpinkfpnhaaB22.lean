/- superposeref.HoldsOf. The law ModelTells: what must be in any case. Clauses in models, and substitutions: what is plain. No program in sight. The law ModelHangs: its walk. -/
import Derived.Test.YtmeekpinkfpnhaaB06
import Derived.Test.YtmeekpinkfpnhaaB07
import Derived.Test.YtmeekpinkfpnhaaB18
import Derived.Test.YtmeekpinkfpnhaaB20
import Derived.Test.YtmeekpinkfpnhaaB21
set_option linter.unusedSimpArgs false
set_option linter.unusedSectionVars false
set_option linter.unusedVariables false
set_option linter.unnecessarySimpa false
set_option linter.all false
namespace Go.Proofs.Ytmeekpinkfpnhaa
open Go.RowKit
theorem roAr {n : Nm} {vars : List Int} {k : Nat} {h : Heap} (hn : n.1 < k) (e : h n = some (.cells 3 (vars.map iA))) : RoOK k (arO n vars) h := ⟨fun x hx => by
  simp only [arO, List.mem_cons, List.not_mem_nil, or_false] at hx; subst hx; exact ⟨hn, e⟩⟩
theorem byL_set {vars : List Int} {x d v : Int} (hx : 1 ≤ x) (hx2 : x ≤ vars.length) (hv : 1 ≤ v) : byL (vars.set (x - 1).toNat d) v = if v = x then d else byL vars v := by
  unfold byL
  rw [List.getD_eq_getElem?_getD, List.getD_eq_getElem?_getD, List.getElem?_set]
  by_cases h : v = x
  · subst h
    rw [if_pos rfl, if_pos rfl, if_pos (by omega)]; rfl
  · rw [if_neg h, if_neg (by omega)]
theorem step_A {names : List Int} (hnd : names.Nodup) {i : Nat} (hi : i < names.length) {sz ni n : Int} {vars : List Int} (hl : vars.length = 1000) (hin : ∀ v ∈ names, 1 ≤ v ∧ v ≤ 1000) (uI : ∀ v ∈ names.take i, byL vars v = dig sz names n v) (uD : ∀ v ∈ names.drop i, dig sz (names.drop i) ni v = dig sz names n v) :
    ∀ v ∈ names.take (i + 1), byL (vars.set (names[i] - 1).toNat (ni.tmod sz)) v = dig sz names n v := by
  intro v hv
  have h1 := hin names[i] (List.getElem_mem hi)
  have h2 := hin v (List.mem_of_mem_take hv)
  rw [byL_set h1.1 (by omega) h2.1]
  rw [List.take_succ_eq_append_getElem hi, List.mem_append] at hv
  rcases hv with hv | hv
  · rw [if_neg ((nd_at hnd hi).1 v hv)]; exact uI v hv
  · simp at hv
    subst hv
    rw [if_pos rfl]
    have := uD names[i] (by rw [List.drop_eq_getElem_cons hi]; exact List.mem_cons_self ..)
    rw [List.drop_eq_getElem_cons hi, dig, if_pos rfl] at this
    exact this
set_option maxHeartbeats 4000000 in
set_option maxRecDepth 20000 in
theorem holdsOf_tri {g : List Int} {sz : Int} {tb : List (List Int)} {c : List Lt} (hm2 : mdOk g sz tb = 0) (hc8 : c.length ≤ 8) (hc : ∀ l ∈ c, own g l.a = 0 ∧ own g l.b = 0) (h8 : (firstVars (termsOf c)).length ≤ 8) :
    Tri Try.prog 26 [.d (mdDV sz tb), .d (clDV c)] (pure' (bA (holdsC sz tb c))) := by
  have hts := termsOf_size hc
  have hfv := firstVars_tri (termsOf c) (by omega)
  have hin := names_in hc
  have hnd : (firstVars (termsOf c)).Nodup := addVs_nodup List.nodup_nil
  have hC : ∀ N : Nat, N = (sz ^ (firstVars (termsOf c)).length).toNat → holdsC sz tb c = holdsF sz tb c (firstVars (termsOf c)) N 0 := fun N h => by rw [h]; rfl
  have hfine := fun (n : Int) (hn : 0 ≤ n) (l : Lt) (hl : l ∈ c) => fine_lit (mdOk_all hm2).2.1 hn hc hl
  generalize hnames : firstVars (termsOf c) = names at *
  obtain ⟨m1, m2, m3, _⟩ := mdOk_all hm2
  have pw := powerOf_tri (n := sz) (by omega) (by omega) (j := names.length) (by omega)
  obtain ⟨p1, p2⟩ := pw_le (n := sz) (by omega) (by omega) (i := names.length) (by omega)
  obtain ⟨N, hN⟩ : ∃ N : Nat, sz ^ names.length = (N : Int) := ⟨(sz ^ names.length).toNat, by omega⟩
  rw [hN] at pw p1 p2
  have hC := hC N (by rw [hN]; rfl)
  refine tri_enter Try.func26 rfl Try.ntmps26 (by simp only [List.length_cons, List.length_nil]; omega) fun w0 h0 k hrd hwr => ?_
  repeat' (first | refine awp_seq_k fun K hK => ?_ | ((first | refine awp_region_k (by kernel_rfl) fun R hR => ?_ | refine awp_draw mixed (by kernel_rfl) (by kernel_rfl) fun R hR => ?_); simp only [go_sem, List.flatten_replicate_singleton]) | ((first | (refine hR _ ?_; clear hR R) | refine awp_skip ?_ | refine awp_exit ?_ | refine awp_ret ?_); try simp only [thenA, inBlockA, reduceIte, reduceCtorEq, Nat.reduceEqDiff, if_false, if_true]) | ((first | refine hK _ ?_ | (clear hK K; first | refine hK _ ?_ | (clear hK K; first | refine hK _ ?_ | (clear hK K; first | refine hK _ ?_ | (clear hK K; refine hK _ ?_))))); clear hK K) | refine awp_true rfl rfl ?_ | refine awp_false rfl rfl ?_ | refine awp_block ?_ | ((first | refine CallK.pure (enter25) (termsOf_tri c (by omega)) ?_ ?_ | refine CallD.pure (enter25) (termsOf_tri c (by omega)) ?_ ?_ | refine CallK.pure (enter22) (hfv) ?_ ?_ | refine CallD.pure (enter22) (hfv) ?_ ?_); (focus first | ((repeat (first | exact trivial | refine ⟨(by first | exact Or.inl rfl | exact Or.inr rfl), ?_⟩)); done) | (simp only [coL, AV.dat, true_or, or_true, AV.d.injEq, go_sem]; done)); simp only [go_sem, List.flatten_replicate_singleton]) | refine And.intro (by first | ((repeat' first | omega | exact trivial | rfl | assumption | (intro a e; subst e; rfl) | exact map_sz fun a => (by simp only [go_sem]) | refine And.intro ?_ ?_); done) | fail) ?_ | fail)
  refine awp_loop (fun σ => ∃ (n : Nat) (vars : List Int), σ.t 1 = .d (clDV c) ∧ σ.t 2 = .ptr (k, 0) 0 ∧ σ.t 5 = .d (.sl (names.map iD)) ∧ σ.t 6 = .arr (k + 1 + 1, 0) 0 1000 ∧ σ.t 7 = iA n ∧ vars.length = 1000 ∧ σ.h (k, 0) = some (.cells 39 [iA sz, .d (.sl (tb.map gI))]) ∧ σ.h (k + 1 + 1, 0) = some (.cells 3 (vars.map iA)) ∧ Fr k h0 σ.h ∧ k + 1 + 1 < σ.k ∧ n ≤ N ∧ holdsF sz tb c names N n = holdsC sz tb c) (fun σ => N - (intOf' (σ.t 7)).toNat) ?_ ?_
  · refine ⟨0, List.replicate 1000 0, ?_⟩
    simp only [go_sem, List.map_replicate, List.length_replicate]
    and_intros; all_goals try (first | rfl | omega | assumption | ((repeat (first | exact Fr.rfl' _ _ | assumption | refine Fr.updk ?_ (by omega) _)); done))
    all_goals first | exact hC.symm | trace_state
  · rintro σ ⟨n, vars, s1, s2, s5, s6, s7, hvl, sh, sa, hF, hk, hn, hv⟩
    have hne := ltne (show k < σ.k by omega)
    have hne2 := ltne hk
    have s7' := s7
    rcases Nat.lt_or_ge n N with hlt | hge
    · have hz : (n : Int) < (N : Int) := by omega
      rw [holdsF_at hlt] at hv
      repeat' (first | refine awp_seq_k fun K hK => ?_ | ((first | refine awp_region_k (by kernel_rfl) fun R hR => ?_ | refine awp_draw mixed (by kernel_rfl) (by kernel_rfl) fun R hR => ?_); simp only [go_sem, s1, s2, s5, s6, s7, sh, hz, hne]) | ((first | (refine hR _ ?_; clear hR R) | refine awp_skip ?_ | refine awp_exit ?_ | refine awp_ret ?_); try simp only [thenA, inBlockA, reduceIte, reduceCtorEq, Nat.reduceEqDiff, if_false, if_true]) | ((first | refine hK _ ?_ | (clear hK K; first | refine hK _ ?_ | (clear hK K; first | refine hK _ ?_ | (clear hK K; first | refine hK _ ?_ | (clear hK K; refine hK _ ?_))))); clear hK K) | refine awp_true rfl rfl ?_ | refine awp_false rfl rfl ?_ | refine awp_block ?_ | ((first | refine CallK.pure (enter81) (pw) ?_ ?_ | refine CallD.pure (enter81) (pw) ?_ ?_); (focus first | ((repeat (first | exact trivial | refine ⟨(by first | exact Or.inl rfl | exact Or.inr rfl), ?_⟩)); done) | (simp only [coL, AV.dat, true_or, or_true, AV.d.injEq, go_sem]; done)); simp only [go_sem, s1, s2, s5, s6, s7, sh, hz, hne]) | refine And.intro (by first | ((repeat' first | omega | exact trivial | rfl | assumption | (intro a e; subst e; rfl) | exact map_sz fun a => (by simp only [go_sem]) | refine And.intro ?_ ?_); done) | fail) ?_ | fail)
      refine awp_loop (fun τ => ∃ (i : Nat) (ni : Int) (vars : List Int), τ.t 1 = .d (clDV c) ∧ τ.t 2 = .ptr (k, 0) 0 ∧ τ.t 5 = .d (.sl (names.map iD)) ∧ τ.t 6 = .arr (k + 1 + 1, 0) 0 1000 ∧ τ.t 7 = iA n ∧ τ.t 8 = iA ni ∧ τ.t 9 = iA i ∧ vars.length = 1000 ∧ τ.h (k, 0) = some (.cells 39 [iA sz, .d (.sl (tb.map gI))]) ∧ τ.h (k + 1 + 1, 0) = some (.cells 3 (vars.map iA)) ∧ Fr k h0 τ.h ∧ k + 1 + 1 < τ.k ∧ i ≤ names.length ∧ 0 ≤ ni ∧ ni ≤ n ∧
        (∀ v ∈ names.take i, byL vars v = dig sz names n v) ∧ (∀ v ∈ names.drop i, dig sz (names.drop i) ni v = dig sz names n v)) (fun τ => names.length - (intOf' (τ.t 9)).toNat) ?_ ?_
      · refine ⟨0, n, vars, ?_⟩
        simp only [go_sem, s1, s2, s5, s6, s7, sh, sa, hne, hne2, List.drop_zero, List.take_zero]
        and_intros; all_goals try (first | rfl | omega | assumption | ((repeat (first | exact Fr.rfl' _ _ | assumption | refine Fr.updk ?_ (by omega) _)); done))
      · rintro τ ⟨i, ni, vars, u1, u2, u5, u6, u7, u8, u9, uvl, uh, ua, uF, uk, ui, u0, un, uI, uD⟩
        have hne' := ltne (show k < τ.k by omega)
        have hne2' := ltne uk
        rcases Nat.lt_or_ge i names.length with hlt' | hge'
        · have hz' : (i : Int) < (names.length : Int) := by omega
          have e1 : (names.map iD).getD i default = iD names[i] := nth_map iD hlt' _
          have hszne : ¬ (sz = 0) := by omega
          obtain ⟨d1, d2⟩ := tdiv_in u0 m2
          obtain ⟨b1, b2⟩ := hin _ (List.getElem_mem hlt')
          have hset : ∀ d : Int, (vars.map iA).set (names[i] - 1).toNat (iA d) = (vars.set (names[i] - 1).toNat d).map iA := fun d => by rw [List.map_set]
          have hz2 : names[i] - 1 < 1000 := by omega
          repeat' (first | refine awp_seq_k fun K hK => ?_ | ((first | refine awp_region_k (by kernel_rfl) fun R hR => ?_ | refine awp_draw mixed (by kernel_rfl) (by kernel_rfl) fun R hR => ?_); simp only [go_sem, u1, u2, u5, u6, u7, u8, u9, uh, ua, hz', hz2, e1, hne', hne2', hszne, uvl, Int.toNat_natCast, List.length_map, Nat.mul_one]) | ((first | (refine hR _ ?_; clear hR R) | refine awp_skip ?_ | refine awp_exit ?_ | refine awp_ret ?_); try simp only [thenA, inBlockA, reduceIte, reduceCtorEq, Nat.reduceEqDiff, if_false, if_true]) | ((first | refine hK _ ?_ | (clear hK K; first | refine hK _ ?_ | (clear hK K; first | refine hK _ ?_ | (clear hK K; first | refine hK _ ?_ | (clear hK K; refine hK _ ?_))))); clear hK K) | refine awp_true rfl rfl ?_ | refine awp_false rfl rfl ?_ | refine awp_block ?_ | refine And.intro (by first | ((repeat' first | omega | exact trivial | rfl | assumption | (intro a e; subst e; rfl) | exact map_sz fun a => (by simp only [go_sem]) | refine And.intro ?_ ?_); done) | fail) ?_ | fail)
          refine ⟨⟨i + 1, ni.tdiv sz, vars.set (names[i] - 1).toNat (ni.tmod sz), ?_⟩, ?_⟩
          rotate_left
          · simp only [go_sem, u1, u2, u5, u6, u7, u8, u9, uh, ua, hne', hne2', hset, List.length_set, uvl]; omega
          simp only [go_sem, u1, u2, u5, u6, u7, u8, u9, uh, ua, hne', hne2', hset, List.length_set, uvl]
          and_intros; all_goals try (first | rfl | omega | assumption | ((repeat (first | exact Fr.rfl' _ _ | assumption | refine Fr.updk ?_ (by omega) _)); done))
          · exact step_A hnd hlt' uvl hin uI uD
          · exact step_D hnd hlt' uD
        · have hz' : ¬ ((i : Int) < (names.length : Int)) := by omega
          obtain rfl : i = names.length := by omega
          rw [List.take_length] at uI
          clear uD un u0 ui s1 s2 s5 s6 s7 sh sa hvl
          repeat' (first | refine awp_seq_k fun K hK => ?_ | ((first | refine awp_region_k (by kernel_rfl) fun R hR => ?_ | refine awp_draw mixed (by kernel_rfl) (by kernel_rfl) fun R hR => ?_); simp only [go_sem, u1, u2, u5, u6, u7, u8, u9, uh, ua, hz', hne', hne2']) | ((first | (refine hR _ ?_; clear hR R) | refine awp_skip ?_ | refine awp_exit ?_ | refine awp_ret ?_); try simp only [thenA, inBlockA, reduceIte, reduceCtorEq, Nat.reduceEqDiff, if_false, if_true]) | ((first | refine hK _ ?_ | (clear hK K; first | refine hK _ ?_ | (clear hK K; first | refine hK _ ?_ | (clear hK K; first | refine hK _ ?_ | (clear hK K; refine hK _ ?_))))); clear hK K) | refine awp_true rfl rfl ?_ | refine awp_false rfl rfl ?_ | refine awp_block ?_ | refine And.intro (by first | ((repeat' first | omega | exact trivial | rfl | assumption | (intro a e; subst e; rfl) | exact map_sz fun a => (by simp only [go_sem]) | refine And.intro ?_ ?_); done) | fail) ?_ | fail)
          refine awp_loop (fun υ => ∃ (j : Nat) (so : Bool), υ.t 1 = .d (clDV c) ∧ υ.t 2 = .ptr (k, 0) 0 ∧ υ.t 5 = .d (.sl (names.map iD)) ∧ υ.t 6 = .arr (k + 1 + 1, 0) 0 1000 ∧ υ.t 7 = iA n ∧ υ.t 10 = bA so ∧ υ.t 11 = iA j ∧ υ.h (k, 0) = some (.cells 39 [iA sz, .d (.sl (tb.map gI))]) ∧ υ.h (k + 1 + 1, 0) = some (.cells 3 (vars.map iA)) ∧ Fr k h0 υ.h ∧ k + 1 + 1 < υ.k ∧ j ≤ c.length ∧
            (so || (c.drop j).any (litIn sz tb (dig sz names n))) = c.any (litIn sz tb (dig sz names n))) (fun υ => c.length - (intOf' (υ.t 11)).toNat) ?_ ?_
          · refine ⟨0, false, ?_⟩
            simp only [go_sem, u1, u2, u5, u6, u7, uh, ua, hne', hne2', List.drop_zero]
            and_intros; all_goals try (first | rfl | omega | assumption | ((repeat (first | exact Fr.rfl' _ _ | assumption | refine Fr.updk ?_ (by omega) _)); done))
          · rintro υ ⟨j, so, w1, w2, w5, w6, w7, w10, w11, wh, wa, wF, wk, wj, wv⟩
            have hne3 := ltne (show k < υ.k by omega)
            have hne4 := ltne wk
            rcases Nat.lt_or_ge j c.length with hlt' | hge''
            · have hz'' : (j : Int) < (c.length : Int) := by omega
              have e1 : (c.map ltDV).getD j default = ltDV c[j] := nth_map ltDV hlt' _
              rw [List.drop_eq_getElem_cons hlt', List.any_cons] at wv
              cases so with
              | true =>
                repeat' (first | refine awp_seq_k fun K hK => ?_ | ((first | refine awp_region_k (by kernel_rfl) fun R hR => ?_ | refine awp_draw mixed (by kernel_rfl) (by kernel_rfl) fun R hR => ?_); simp only [go_sem, w1, w2, w6, w10, w11, wh, wa, hz'', e1, hne3, hne4]) | ((first | (refine hR _ ?_; clear hR R) | refine awp_skip ?_ | refine awp_exit ?_ | refine awp_ret ?_); try simp only [thenA, inBlockA, reduceIte, reduceCtorEq, Nat.reduceEqDiff, if_false, if_true]) | ((first | refine hK _ ?_ | (clear hK K; first | refine hK _ ?_ | (clear hK K; first | refine hK _ ?_ | (clear hK K; first | refine hK _ ?_ | (clear hK K; refine hK _ ?_))))); clear hK K) | refine awp_true rfl rfl ?_ | refine awp_false rfl rfl ?_ | refine awp_block ?_ | refine And.intro (by first | ((repeat' first | omega | exact trivial | rfl | assumption | (intro a e; subst e; rfl) | exact map_sz fun a => (by simp only [go_sem]) | refine And.intro ?_ ?_); done) | fail) ?_ | fail)
                refine ⟨⟨j + 1, true, ?_⟩, ?_⟩
                rotate_left
                · simp only [go_sem, w1, w2, w5, w6, w7, w10, w11, wh, wa, hne3, hne4]; omega
                simp only [go_sem, w1, w2, w5, w6, w7, w10, w11, wh, wa, hne3, hne4]
                and_intros; all_goals try (first | rfl | omega | assumption | ((repeat (first | exact Fr.rfl' _ _ | assumption | refine Fr.updk ?_ (by omega) _)); done))
              | false =>
                obtain ⟨⟨f1, f2⟩, f3, f4⟩ := hfine n (by omega) c[j] (List.getElem_mem hlt')
                have hro : RoOK υ.k (arO (k + 1 + 1, 0) vars) υ.h := roAr wk wa
                have va := valueOf_arrs hm2 (vars := vars) (k + 1 + 1, 0) (by omega) c[j].a (fun x hx => ⟨(f1 x hx).1, fun hv => by rw [uI _ (f2 x hx hv)]; exact (f1 x hx).2 hv⟩) (fun x hx hv => by have := hin _ (f2 x hx hv); omega)
                have vb := valueOf_arrs hm2 (vars := vars) (k + 1 + 1, 0) (by omega) c[j].b (fun x hx => ⟨(f3 x hx).1, fun hv => by rw [uI _ (f4 x hx hv)]; exact (f3 x hx).2 hv⟩) (fun x hx hv => by have := hin _ (f4 x hx hv); omega)
                rw [valM_congr c[j].a (fun x hx hv => uI _ (f2 x hx hv)), uvl] at va
                rw [valM_congr c[j].b (fun x hx hv => uI _ (f4 x hx hv)), uvl] at vb
                rw [Bool.false_or] at wv
                repeat' (first | refine awp_seq_k fun K hK => ?_ | ((first | refine awp_region_k (by kernel_rfl) fun R hR => ?_ | refine awp_draw mixed (by kernel_rfl) (by kernel_rfl) fun R hR => ?_); simp only [go_sem, w1, w2, w6, w10, w11, wh, wa, hz'', e1, hne3, hne4, Nat.reduceBEq, ite_self, implies_true, Int.toNat_natCast]) | ((first | (refine hR _ ?_; clear hR R) | refine awp_skip ?_ | refine awp_exit ?_ | refine awp_ret ?_); try simp only [thenA, inBlockA, reduceIte, reduceCtorEq, Nat.reduceEqDiff, if_false, if_true]) | ((first | refine hK _ ?_ | (clear hK K; first | refine hK _ ?_ | (clear hK K; first | refine hK _ ?_ | (clear hK K; first | refine hK _ ?_ | (clear hK K; refine hK _ ?_))))); clear hK K) | refine awp_true rfl rfl ?_ | refine awp_false rfl rfl ?_ | refine awp_block ?_ | ((first | refine CallK.look (enter23) (va) ?_ (by assumption) (by repeat (first | exact Fr.rfl' _ _ | assumption | refine Fr.updk ?_ (by omega) _)) ?_ | refine CallD.look (enter23) (va) ?_ (by assumption) (by repeat (first | exact Fr.rfl' _ _ | assumption | refine Fr.updk ?_ (by omega) _)) (by first | assumption | exact List.cons_ne_nil _ _) ?_); (focus first | ((repeat (first | exact trivial | refine ⟨(by first | exact Or.inl rfl | exact Or.inr rfl), ?_⟩)); done) | (simp only [coL, AV.dat, true_or, or_true, AV.d.injEq, go_sem]; done)); simp only [go_sem, w1, w2, w6, w10, w11, wh, wa, hz'', e1, hne3, hne4, Nat.reduceBEq, ite_self, implies_true, Int.toNat_natCast]) | ((first | refine CallK.look (enter23) (vb) ?_ (by assumption) (by repeat (first | exact Fr.rfl' _ _ | assumption | refine Fr.updk ?_ (by omega) _)) ?_ | refine CallD.look (enter23) (vb) ?_ (by assumption) (by repeat (first | exact Fr.rfl' _ _ | assumption | refine Fr.updk ?_ (by omega) _)) (by first | assumption | exact List.cons_ne_nil _ _) ?_); (focus first | ((repeat (first | exact trivial | refine ⟨(by first | exact Or.inl rfl | exact Or.inr rfl), ?_⟩)); done) | (simp only [coL, AV.dat, true_or, or_true, AV.d.injEq, go_sem]; done)); simp only [go_sem, w1, w2, w6, w10, w11, wh, wa, hz'', e1, hne3, hne4, Nat.reduceBEq, ite_self, implies_true, Int.toNat_natCast]) | refine And.intro (by first | ((repeat' first | omega | exact trivial | rfl | assumption | (intro a e; subst e; rfl) | exact map_sz fun a => (by simp only [go_sem]) | refine And.intro ?_ ?_); done) | fail) ?_ | fail)
                refine ⟨⟨j + 1, litIn sz tb (dig sz names n) c[j], ?_⟩, ?_⟩
                rotate_left
                · simp only [go_sem, w1, w2, w5, w6, w7, w10, w11, wh, wa, hne3, hne4]; omega
                simp only [go_sem, w1, w2, w5, w6, w7, w10, w11, wh, wa, hne3, hne4]
                and_intros; all_goals try (first | rfl | omega | assumption | ((repeat (first | exact Fr.rfl' _ _ | assumption | refine Fr.updk ?_ (by omega) _)); done))
            · have hz'' : ¬ ((j : Int) < (c.length : Int)) := by omega
              rw [List.drop_eq_nil_of_le hge'', List.any_nil, Bool.or_false] at wv
              rw [← wv] at hv
              cases so with
              | true =>
                rw [Bool.true_and] at hv
                repeat' (first | refine awp_seq_k fun K hK => ?_ | ((first | refine awp_region_k (by kernel_rfl) fun R hR => ?_ | refine awp_draw mixed (by kernel_rfl) (by kernel_rfl) fun R hR => ?_); simp only [go_sem, w1, w10, w11, w7, hz'', hne3, hne4]) | ((first | (refine hR _ ?_; clear hR R) | refine awp_skip ?_ | refine awp_exit ?_ | refine awp_ret ?_); try simp only [thenA, inBlockA, reduceIte, reduceCtorEq, Nat.reduceEqDiff, if_false, if_true]) | ((first | refine hK _ ?_ | (clear hK K; first | refine hK _ ?_ | (clear hK K; first | refine hK _ ?_ | (clear hK K; first | refine hK _ ?_ | (clear hK K; refine hK _ ?_))))); clear hK K) | refine awp_true rfl rfl ?_ | refine awp_false rfl rfl ?_ | refine awp_block ?_ | refine And.intro (by first | ((repeat' first | omega | exact trivial | rfl | assumption | (intro a e; subst e; rfl) | exact map_sz fun a => (by simp only [go_sem]) | refine And.intro ?_ ?_); done) | fail) ?_ | fail)
                refine ⟨⟨n + 1, vars, ?_⟩, ?_⟩
                rotate_left
                · simp only [go_sem, w1, w2, w5, w6, w7, wh, wa, uvl, hne3, hne4, s7']; omega
                simp only [go_sem, w1, w2, w5, w6, w7, wh, wa, uvl, hne3, hne4, s7']
                and_intros; all_goals try (first | rfl | omega | assumption | ((repeat (first | exact Fr.rfl' _ _ | assumption | refine Fr.updk ?_ (by omega) _)); done))
              | false =>
                rw [Bool.false_and] at hv
                repeat' (first | refine awp_seq_k fun K hK => ?_ | ((first | refine awp_region_k (by kernel_rfl) fun R hR => ?_ | refine awp_draw mixed (by kernel_rfl) (by kernel_rfl) fun R hR => ?_); simp only [go_sem, w1, w10, w11, hz'', hne3, hne4]) | ((first | (refine hR _ ?_; clear hR R) | refine awp_skip ?_ | refine awp_exit ?_ | refine awp_ret ?_); try simp only [thenA, inBlockA, reduceIte, reduceCtorEq, Nat.reduceEqDiff, if_false, if_true]) | ((first | refine hK _ ?_ | (clear hK K; first | refine hK _ ?_ | (clear hK K; first | refine hK _ ?_ | (clear hK K; first | refine hK _ ?_ | (clear hK K; refine hK _ ?_))))); clear hK K) | refine awp_true rfl rfl ?_ | refine awp_false rfl rfl ?_ | refine awp_block ?_ | refine And.intro (by first | ((repeat' first | omega | exact trivial | rfl | assumption | (intro a e; subst e; rfl) | exact map_sz fun a => (by simp only [go_sem]) | refine And.intro ?_ ?_); done) | fail) ?_ | fail)
                rw [← hv]
                (first | refine ret_pure ?_ ?_ ?_ | refine ret_ro ?_ ?_ ?_); focus exact (by simp only [Try.results26, resOkL, resOk, Try.ntmps26, List.toList_toArray]; first | decide | (simp only [go_sem]; done) | (simp only [go_sem]; and_intros <;> first | omega | rfl | decide))
                rotate_left; focus exact (by repeat (first | exact Fr.rfl' _ _ | assumption | refine Fr.updk ?_ (by omega) _))
                simp only [resA, resV, Try.results26, go_sem]
                all_goals try (first | exact Co.t2 (.dat rfl) (.dat rfl) | exact Co.t3 (.dat rfl) (.dat rfl) (.dat rfl))
                exact .dat rfl
    · have hz : ¬ ((n : Int) < (N : Int)) := by omega
      rw [holdsF_end hge] at hv
      repeat' (first | refine awp_seq_k fun K hK => ?_ | ((first | refine awp_region_k (by kernel_rfl) fun R hR => ?_ | refine awp_draw mixed (by kernel_rfl) (by kernel_rfl) fun R hR => ?_); simp only [go_sem, s2, s5, s7, sh, hz, hne]) | ((first | (refine hR _ ?_; clear hR R) | refine awp_skip ?_ | refine awp_exit ?_ | refine awp_ret ?_); try simp only [thenA, inBlockA, reduceIte, reduceCtorEq, Nat.reduceEqDiff, if_false, if_true]) | ((first | refine hK _ ?_ | (clear hK K; first | refine hK _ ?_ | (clear hK K; first | refine hK _ ?_ | (clear hK K; first | refine hK _ ?_ | (clear hK K; refine hK _ ?_))))); clear hK K) | refine awp_true rfl rfl ?_ | refine awp_false rfl rfl ?_ | refine awp_block ?_ | ((first | refine CallK.pure (enter81) (pw) ?_ ?_ | refine CallD.pure (enter81) (pw) ?_ ?_); (focus first | ((repeat (first | exact trivial | refine ⟨(by first | exact Or.inl rfl | exact Or.inr rfl), ?_⟩)); done) | (simp only [coL, AV.dat, true_or, or_true, AV.d.injEq, go_sem]; done)); simp only [go_sem, s2, s5, s7, sh, hz, hne]) | refine And.intro (by first | ((repeat' first | omega | exact trivial | rfl | assumption | (intro a e; subst e; rfl) | exact map_sz fun a => (by simp only [go_sem]) | refine And.intro ?_ ?_); done) | fail) ?_ | fail)
      rw [← hv]
      (first | refine ret_pure ?_ ?_ ?_ | refine ret_ro ?_ ?_ ?_); focus exact (by simp only [Try.results26, resOkL, resOk, Try.ntmps26, List.toList_toArray]; first | decide | (simp only [go_sem]; done) | (simp only [go_sem]; and_intros <;> first | omega | rfl | decide))
      rotate_left; focus exact (by repeat (first | exact Fr.rfl' _ _ | assumption | refine Fr.updk ?_ (by omega) _))
      simp only [resA, resV, Try.results26, go_sem]
      all_goals try (first | exact Co.t2 (.dat rfl) (.dat rfl) | exact Co.t3 (.dat rfl) (.dat rfl) (.dat rfl))
      exact .dat rfl
end Go.Proofs.Ytmeekpinkfpnhaa
namespace Go.Proofs.Ytmeekpinkfpnhaa
open Go.RowKit
theorem mb1 : mdOk [0, 1] 2 [[0], [1, 0]] = 0 := by decide
theorem mb2 : valAns [0, 1] 2 [[0], [1, 0]] (.mk 0 1 [.mk 1 0 []]) [1] = (0, 0) := by decide
theorem mb3 : hldAns [0, 1] 2 [[0], [1, 0]] [⟨false, .mk 0 1 [.mk 1 0 []], .mk 1 0 []⟩] = (true, 0) := by decide +kernel
set_option maxRecDepth 20000 in
theorem modelBegun_tri : Tri Try.prog 27 [] (pure' (bA true)) := by
  have v1 := mdValue_tri [0, 1] 2 [[0], [1, 0]] (.mk 0 1 [.mk 1 0 []]) [1] (by decide) (by decide) (by decide) (by decide)
  have v2 := mdHolds_tri [0, 1] 2 [[0], [1, 0]] [⟨false, .mk 0 1 [.mk 1 0 []], .mk 1 0 []⟩] (by decide) (by decide) (by decide)
  have v3 := mdCheck_tri [0, 1] 2 [[0], [1, 0]] (by decide) (by decide)
  rw [mb2] at v1
  rw [mb3] at v2
  rw [mb1] at v3
  refine tri_enter Try.func27 rfl Try.ntmps27 (by simp only [List.length_cons, List.length_nil]; omega) fun w0 h0 k hrd hwr => ?_
  repeat' (first | refine awp_seq_k fun K hK => ?_ | ((first | refine awp_region_k (by kernel_rfl) fun R hR => ?_ | refine awp_draw mixed (by kernel_rfl) (by kernel_rfl) fun R hR => ?_); simp only [go_sem, beq_self_eq_true]) | ((first | (refine hR _ ?_; clear hR R) | refine awp_skip ?_ | refine awp_exit ?_ | refine awp_ret ?_); try simp only [thenA, inBlockA, reduceIte, reduceCtorEq, Nat.reduceEqDiff, if_false, if_true]) | ((first | refine hK _ ?_ | (clear hK K; first | refine hK _ ?_ | (clear hK K; first | refine hK _ ?_ | (clear hK K; first | refine hK _ ?_ | (clear hK K; refine hK _ ?_))))); clear hK K) | refine awp_true rfl rfl ?_ | refine awp_false rfl rfl ?_ | refine awp_block ?_ | ((first | refine CallK.pure (enter65) (small_tri) ?_ ?_ | refine CallD.pure (enter65) (small_tri) ?_ ?_ | refine CallK.pure (enter67) (va_tri 1) ?_ ?_ | refine CallD.pure (enter67) (va_tri 1) ?_ ?_ | refine CallK.pure (enter66) (fn_tri 1 [.mk 1 0 []]) ?_ ?_ | refine CallD.pure (enter66) (fn_tri 1 [.mk 1 0 []]) ?_ ?_ | refine CallK.pure (enter18) (v1) ?_ ?_ | refine CallD.pure (enter18) (v1) ?_ ?_ | refine CallK.pure (enter19) (v2) ?_ ?_ | refine CallD.pure (enter19) (v2) ?_ ?_ | refine CallK.pure (enter28) (v3) ?_ ?_ | refine CallD.pure (enter28) (v3) ?_ ?_); (focus first | ((repeat (first | exact trivial | refine ⟨(by first | exact Or.inl rfl | exact Or.inr rfl), ?_⟩)); done) | (simp only [coL, AV.dat, true_or, or_true, AV.d.injEq, go_sem]; done)); simp only [go_sem, beq_self_eq_true]) | refine And.intro (by first | ((repeat' first | omega | exact trivial | rfl | assumption | (intro a e; subst e; rfl) | exact map_sz fun a => (by simp only [go_sem]) | refine And.intro ?_ ?_); done) | fail) ?_ | fail)
  (first | refine ret_pure ?_ ?_ ?_ | refine ret_ro ?_ ?_ ?_); focus exact (by simp only [Try.results27, resOkL, resOk, Try.ntmps27, List.toList_toArray]; first | decide | (simp only [go_sem]; done) | (simp only [go_sem]; and_intros <;> first | omega | rfl | decide))
  rotate_left; focus exact (by repeat (first | exact Fr.rfl' _ _ | assumption | refine Fr.updk ?_ (by omega) _))
  simp only [resA, resV, Try.results27, go_sem]
  all_goals try (first | exact Co.t2 (.dat rfl) (.dat rfl) | exact Co.t3 (.dat rfl) (.dat rfl) (.dat rfl))
  exact .dat rfl
end Go.Proofs.Ytmeekpinkfpnhaa
namespace Go.Proofs.Ytmeekpinkfpnhaa
mutual
theorem valM_sub {sz : Int} {tb : List (List Int)} {vs : Int → Int} (σ : Int → Tm) : ∀ t : Tm, valM sz tb vs (sub σ t) = valM sz tb (fun v => valM sz tb vs (σ v)) t
  | .mk v f us => by
    rw [sub, valM]
    by_cases hv : v > 0
    · rw [if_pos hv, if_pos hv]
    · rw [if_neg hv, if_neg hv, valM, if_neg hv, valL_sub σ us 0]
theorem valL_sub {sz : Int} {tb : List (List Int)} {vs : Int → Int} (σ : Int → Tm) : ∀ (us : List Tm) (a : Int), valL sz tb vs (subL σ us) a = valL sz tb (fun v => valM sz tb vs (σ v)) us a
  | [], _ => rfl
  | x :: xs, a => by rw [subL, valL, valL, valM_sub σ x, valL_sub σ xs]
end
theorem litIn_sub {sz : Int} {tb : List (List Int)} {vs : Int → Int} (σ : Int → Tm) (l : Lt) : litIn sz tb vs (subLt σ l) = litIn sz tb (fun v => valM sz tb vs (σ v)) l := by
  simp only [litIn, subLt, mapLt, valM_sub]
theorem litIn_turn {sz : Int} {tb : List (List Int)} {vs : Int → Int} (l : Lt) : litIn sz tb vs (turnL l) = litIn sz tb vs l := by
  simp only [litIn, turnL]
  congr 1
  rw [Bool.eq_iff_iff, beq_iff_eq, beq_iff_eq]; exact eq_comm
theorem litIn_congr {sz : Int} {tb : List (List Int)} {vs vs' : Int → Int} {l : Lt} (h : ∀ x, x ∈ parts l.a ∨ x ∈ parts l.b → x.v > 0 → vs x.v = vs' x.v) : litIn sz tb vs l = litIn sz tb vs' l := by
  unfold litIn
  rw [valM_congr l.a fun x hx => h x (.inl hx), valM_congr l.b fun x hx => h x (.inr hx)]
def InS (sz : Int) (vs : Int → Int) : Prop := ∀ v, 0 ≤ vs v ∧ vs v < sz
def HoldsA (sz : Int) (tb : List (List Int)) (c : List Lt) : Prop := ∀ vs, InS sz vs → ∃ l ∈ c, litIn sz tb vs l = true
theorem dig_sur {sz : Int} (h1 : 1 ≤ sz) (h3 : sz ≤ 3) {vs : Int → Int} (hv : InS sz vs) : ∀ names : List Int, ∃ n : Int, 0 ≤ n ∧ n < sz ^ names.length ∧ ∀ v ∈ names, dig sz names n v = vs v
  | [] => ⟨0, by omega, by simp, fun v hv => by cases hv⟩
  | x :: names => by
    obtain ⟨n, h0, hn, hd⟩ := dig_sur h1 h3 hv names
    obtain ⟨v0, v1⟩ := hv x
    have hs : sz = 1 ∨ sz = 2 ∨ sz = 3 := by omega
    have em : (vs x + sz * n).tmod sz = vs x := by
      rw [Int.tmod_eq_emod_of_nonneg (by rcases hs with rfl | rfl | rfl <;> omega)]
      rcases hs with rfl | rfl | rfl <;> omega
    have ed : (vs x + sz * n).tdiv sz = n := by
      rw [Int.tdiv_eq_ediv_of_nonneg (by rcases hs with rfl | rfl | rfl <;> omega)]
      rcases hs with rfl | rfl | rfl <;> omega
    refine ⟨vs x + sz * n, by rcases hs with rfl | rfl | rfl <;> omega, ?_, fun v hv => ?_⟩
    · rw [List.length_cons, Int.pow_succ]
      generalize sz ^ names.length = p at *
      rcases hs with rfl | rfl | rfl <;> omega
    · rw [dig]
      by_cases h : v = x
      · rw [if_pos h, em, h]
      · rw [if_neg h, ed]
        exact hd v (by rcases List.mem_cons.1 hv with h2 | h2; exact absurd h2 h; exact h2)
theorem lit_vars {c : List Lt} {l : Lt} (hl : l ∈ c) : ∀ x, x ∈ parts l.a ∨ x ∈ parts l.b → x.v > 0 → x.v ∈ varsC c := fun x hx hv => by
  rcases hx with hx | hx
  · exact firstVars_has (termsOf_in hl).1 hx hv
  · exact firstVars_has (termsOf_in hl).2 hx hv
theorem holds_iff {sz : Int} {tb : List (List Int)} {c : List Lt} (h1 : 1 ≤ sz) (h3 : sz ≤ 3) : holdsC sz tb c = true ↔ HoldsA sz tb c := by
  unfold holdsC holdsF HoldsA
  rw [List.drop_zero, List.all_eq_true]
  constructor
  · intro h vs hvs
    obtain ⟨n, h0, hn, hd⟩ := dig_sur h1 h3 hvs (varsC c)
    have := h n.toNat (by rw [List.mem_range]; show n.toNat < (sz ^ (varsC c).length).toNat; omega)
    rw [List.any_eq_true] at this
    obtain ⟨l, hl, h⟩ := this
    refine ⟨l, hl, ?_⟩
    rw [← h]
    refine litIn_congr fun x hx hv => ?_
    rw [Int.toNat_of_nonneg h0]
    exact (hd _ (lit_vars hl x hx hv)).symm
  · intro h i hi
    rw [List.any_eq_true]
    obtain ⟨l, hl, h⟩ := h (fun v => if v ∈ varsC c then dig sz (varsC c) i v else 0) (fun v => by
      by_cases hv : v ∈ varsC c
      · simp only [if_pos hv]; exact dig_in h1 _ _ _ (by omega) hv
      · simp only [if_neg hv]; omega)
    refine ⟨l, hl, ?_⟩
    rw [← h]
    exact litIn_congr fun x hx hv => by rw [if_pos (lit_vars hl x hx hv)]
theorem sub_part {σ : Int → Tm} {x : Tm} (hv : x.v > 0) : ∀ t : Tm, Pure t → x ∈ parts t → ∀ y ∈ parts (σ x.v), y ∈ parts (sub σ t) := by
  refine Tm.ind fun t ih hp hx y hy => ?_
  rw [sub_eq]
  by_cases ht : t.v > 0
  · rw [if_pos ht]
    have e := (hp t (parts_self t)).2 ht
    have : x = t := by
      rw [e] at hx ⊢
      simpa [parts, partsL] using hx
    rw [← this]; exact hy
  · rw [if_neg ht, parts, List.mem_append]
    left
    rw [parts_eq, List.mem_append] at hx
    rcases hx with hx | hx
    · obtain ⟨u, hu, hx⟩ := partsL_mem hx
      rw [subL_map]
      exact partsL_of (List.mem_map.2 ⟨u, hu, rfl⟩) (ih u hu (hp.kid hu) hx y hy)
    · rw [List.mem_singleton.1 hx] at hv; exact absurd hv ht
theorem fine_own {g : List Int} {sz : Int} {vs : Int → Int} {t : Tm} (ho : own g t = 0) (hv : InS sz vs) : Fine g sz vs (parts t) := fun x hx => ⟨own_each ho hx, fun _ => hv _⟩
def OwnC (g : List Int) (c : List Lt) : Prop := ∀ l ∈ c, own g l.a = 0 ∧ own g l.b = 0
theorem OwnC.pure {g : List Int} {c : List Lt} (h : OwnC g c) : PureC c := fun l hl => ⟨own_pure (h l hl).1, own_pure (h l hl).2⟩
theorem OwnC.nn {g : List Int} {c : List Lt} (h : OwnC g c) : NnC c := fun l hl => ⟨(own_pure (h l hl).1).nn, (own_pure (h l hl).2).nn⟩
theorem varsC_mem {c : List Lt} {v : Int} (h : v ∈ varsC c) : v > 0 ∧ ∃ l ∈ c, ∃ x, (x ∈ parts l.a ∨ x ∈ parts l.b) ∧ x.v = v := by
  rcases addVs_mem h with h | ⟨x, hx, rfl, h2⟩
  · cases h
  · obtain ⟨t, ht, hx⟩ := List.mem_flatMap.1 hx
    obtain ⟨l, hl, rfl | rfl⟩ := termsOf_mem ht
    · exact ⟨h2, l, hl, x, .inl hx, rfl⟩
    · exact ⟨h2, l, hl, x, .inr hx, rfl⟩
theorem holds_sub {sz : Int} {tb : List (List Int)} {c : List Lt} {σ : Int → Tm} (h1 : 1 ≤ sz) (hσ : ∀ vs, InS sz vs → ∀ v ∈ varsC c, 0 ≤ valM sz tb vs (σ v) ∧ valM sz tb vs (σ v) < sz) (h : HoldsA sz tb c) : HoldsA sz tb (c.map (subLt σ)) := by
  intro vs hvs
  obtain ⟨l, hl, hh⟩ := h (fun v => if v ∈ varsC c then valM sz tb vs (σ v) else 0) (fun v => by
    by_cases hv : v ∈ varsC c
    · simp only [if_pos hv]; exact hσ vs hvs v hv
    · simp only [if_neg hv]; omega)
  refine ⟨_, List.mem_map.2 ⟨l, hl, rfl⟩, ?_⟩
  rw [litIn_sub, ← hh]
  exact litIn_congr fun x hx hv => by rw [if_pos (lit_vars hl x hx hv)]
theorem holds_more {sz : Int} {tb : List (List Int)} {c d : List Lt} (hs : ∀ l ∈ c, InC l d) (h : HoldsA sz tb c) : HoldsA sz tb d := by
  intro vs hvs
  obtain ⟨l, hl, hh⟩ := h vs hvs
  rcases hs l hl with h | h
  · exact ⟨l, h, hh⟩
  · exact ⟨_, h, by rw [litIn_turn]; exact hh⟩
theorem holds_cov {g : List Int} {sz : Int} {tb : List (List Int)} {c d : List Lt} (hm : mdOk g sz tb = 0) (hc : OwnC g c) (hd : OwnC g d) (hs : covG meet c d [] = true) (h : HoldsA sz tb c) : HoldsA sz tb d := by
  obtain ⟨_, h1, h3, _⟩ := mdOk_all hm
  rw [cov_iff hc.nn] at hs
  obtain ⟨σ, hs⟩ := hs
  refine holds_more (c := c.map (subLt σ)) (fun l hl => ?_) (holds_sub h1 (fun vs hvs v hv => ?_) h)
  · obtain ⟨x, hx, rfl⟩ := List.mem_map.1 hl
    exact hs x hx
  · obtain ⟨hv0, l, hl, x, hx, rfl⟩ := varsC_mem hv
    have key : ∀ t : Tm, (t = l.a ∨ t = l.b) → x ∈ parts t → 0 ≤ valM sz tb vs (σ x.v) ∧ valM sz tb vs (σ x.v) < sz := by
      intro t ht hxt
      have hpt : Pure t := by
        rcases ht with rfl | rfl
        · exact (hc.pure l hl).1
        · exact (hc.pure l hl).2
      have hown : own g (sub σ t) = 0 := by
        rcases hs l hl with h | h
        · rcases ht with rfl | rfl
          · exact (hd _ h).1
          · exact (hd _ h).2
        · rcases ht with rfl | rfl
          · exact (hd _ h).2
          · exact (hd _ h).1
      refine valM_ok hm (σ x.v) fun y hy => ?_
      exact fine_own hown hvs y (sub_part hv0 t hpt hxt y hy)
    rcases hx with hx | hx
    · exact key _ (.inl rfl) hx
    · exact key _ (.inr rfl) hx
theorem holds_alw {sz : Int} {tb : List (List Int)} {c : List Lt} (h : alwB c = true) : HoldsA sz tb c := by
  intro vs _
  unfold alwB at h
  rw [List.any_eq_true] at h
  obtain ⟨l, hl, h⟩ := h
  rw [Bool.and_eq_true, Bool.or_eq_true, same_iff, List.any_eq_true] at h
  obtain ⟨hy, h⟩ := h
  rcases h with h | ⟨x, hx, h⟩
  · exact ⟨l, hl, by unfold litIn; rw [h, hy]; simp⟩
  · rw [Bool.and_eq_true, sidesB_iff] at h
    obtain ⟨hxy, h⟩ := h
    cases hh : litIn sz tb vs l with
    | true => exact ⟨l, hl, hh⟩
    | false =>
      refine ⟨x, hx, ?_⟩
      have hxy : x.y = false := by simpa using hxy
      unfold litIn at hh ⊢
      rw [hy] at hh
      rw [hxy]
      have hne : ¬ valM sz tb vs l.a = valM sz tb vs l.b := by simpa using hh
      rcases h with ⟨e1, e2⟩ | ⟨e1, e2⟩
      · rw [e1, e2]; simpa using hne
      · rw [e1, e2]; simpa using fun e => hne e.symm
theorem litIn_sides {sz : Int} {tb : List (List Int)} {vs : Int → Int} {x l : Lt} (hy : x.y = l.y) (hs : sidesB x l = true) (h : litIn sz tb vs l = true) : litIn sz tb vs x = true := by
  rw [sidesB_iff] at hs
  rcases hs with ⟨h1, h2⟩ | ⟨h1, h2⟩
  · have : x = l := by cases x; cases l; simp only at *; rw [hy, h1, h2]
    rw [this]; exact h
  · have : x = turnL l := by cases x; cases l; simp only [turnL] at *; rw [hy, h1, h2]
    rw [this, litIn_turn]; exact h
theorem keep_lit {sz : Int} {tb : List (List Int)} {vs : Int → Int} : ∀ (c p : List Lt), (∃ l ∈ c, litIn sz tb vs l = true) → (∃ l ∈ keepR p c, litIn sz tb vs l = true) ∨ ∃ l ∈ p, litIn sz tb vs l = true
  | l :: c, p, ⟨x, hx, h⟩ => by
    rw [keepR]
    have next : (∃ l ∈ c, litIn sz tb vs l = true) → (∃ y ∈ (if dropB p l = true then keepR (p ++ [l]) c else l :: keepR (p ++ [l]) c), litIn sz tb vs y = true) ∨ (∃ y ∈ p, litIn sz tb vs y = true) ∨ litIn sz tb vs l = true := by
      intro hc
      rcases keep_lit c (p ++ [l]) hc with ⟨y, hy, h2⟩ | ⟨y, hy, h2⟩
      · left
        refine ⟨y, ?_, h2⟩
        split
        · exact hy
        · exact List.mem_cons_of_mem _ hy
      · right
        rcases List.mem_append.1 hy with hy | hy
        · exact .inl ⟨y, hy, h2⟩
        · rw [List.mem_singleton.1 hy] at h2; exact .inr h2
    have own : litIn sz tb vs l = true → (∃ y ∈ (if dropB p l = true then keepR (p ++ [l]) c else l :: keepR (p ++ [l]) c), litIn sz tb vs y = true) ∨ ∃ y ∈ p, litIn sz tb vs y = true := by
      intro hl
      by_cases hd : dropB p l = true
      · right
        unfold dropB at hd
        rw [Bool.or_eq_true, Bool.and_eq_true, same_iff, List.any_eq_true] at hd
        rcases hd with ⟨h1, h2⟩ | ⟨z, hz, h3⟩
        · have h1 : l.y = false := by simpa using h1
          unfold litIn at hl
          rw [h1, h2] at hl
          simp at hl
        · rw [Bool.and_eq_true, beq_iff_eq] at h3
          exact ⟨z, hz, litIn_sides h3.1 h3.2 hl⟩
      · left
        rw [if_neg hd]
        exact ⟨l, by simp, hl⟩
    rcases List.mem_cons.1 hx with rfl | hx
    · exact own h
    · rcases next ⟨x, hx, h⟩ with h | h | h
      · exact .inl h
      · exact .inr h
      · exact own h
theorem holds_keep {sz : Int} {tb : List (List Int)} {c : List Lt} : HoldsA sz tb (keepR [] c) ↔ HoldsA sz tb c := by
  constructor
  · intro h vs hvs
    obtain ⟨l, hl, h⟩ := h vs hvs
    exact ⟨l, keepR_mem hl, h⟩
  · intro h vs hvs
    rcases keep_lit c [] (h vs hvs) with h | ⟨l, hl, _⟩
    · exact h
    · cases hl
theorem holds_tidy {sz : Int} {tb : List (List Int)} {c : List Lt} (h1 : 1 ≤ sz) (hc : PureC c) : HoldsA sz tb (tidyR c) ↔ HoldsA sz tb c := by
  have hk : PureC (keepR [] c) := fun l hl => hc l (keepR_mem hl)
  have H := num_rn (varsC_nodup (keepR [] c))
  rw [tidyR_sub hc, ← holds_keep (c := c)]
  generalize keepR [] c = o at *
  constructor
  · intro h vs hvs
    obtain ⟨y, hy, h⟩ := h (fun w => vs ((varsC o).getD (w - 1).toNat 0)) (fun w => hvs _)
    obtain ⟨l, hl, rfl⟩ := List.mem_map.1 hy
    refine ⟨l, hl, ?_⟩
    rw [litIn_sub] at h
    rw [← h]
    refine litIn_congr fun x hx hv => ?_
    have hin := lit_vars hl x hx hv
    have hi := List.idxOf_lt_length_of_mem hin
    rw [H.eq _ hin, valM, if_pos (H.pos _ hin)]
    unfold posV
    have e : (((varsC o).idxOf x.v : Int) + 1 - 1).toNat = (varsC o).idxOf x.v := by omega
    rw [e, getD_at hi, List.getElem_idxOf hi]
  · intro h
    refine holds_sub h1 (fun vs hvs v hv => ?_) h
    rw [H.eq _ hv, valM, if_pos (H.pos _ hv)]
    exact hvs _
end Go.Proofs.Ytmeekpinkfpnhaa
namespace Go.Proofs.Ytmeekpinkfpnhaa
open Go.RowKit
theorem hldAns_ok {g : List Int} {sz : Int} {tb : List (List Int)} {c : List Lt} (h : (hldAns g sz tb c).2 = 0) : mdOk g sz tb = 0 ∧ clsOk g [c] = 0 ∧ (varsC c).length ≤ 8 ∧ hldAns g sz tb c = (holdsC sz tb c, 0) := by
  unfold hldAns at h ⊢
  by_cases h1 : mdOk g sz tb = 0
  · rw [if_neg (by simp [h1])] at h ⊢
    by_cases h2 : clsOk g [c] = 0
    · rw [if_neg (by simp [h2])] at h ⊢
      by_cases h3 : (firstVars (termsOf c)).length > 8
      · rw [if_pos h3] at h; cases h
      · rw [if_neg h3]; exact ⟨h1, h2, by show (firstVars (termsOf c)).length ≤ 8; omega, rfl⟩
    · rw [if_pos h2] at h; exact absurd h h2
  · rw [if_pos h1] at h; exact absurd h h1
theorem hldAns_mk {g : List Int} {sz : Int} {tb : List (List Int)} {c : List Lt} (h1 : mdOk g sz tb = 0) (h2 : clsOk g [c] = 0) (h3 : (varsC c).length ≤ 8) : hldAns g sz tb c = (holdsC sz tb c, 0) := by
  unfold hldAns
  rw [if_neg (by simp [h1]), if_neg (by simp [h2]), if_neg (by show ¬ (varsC c).length > 8; omega)]
theorem bool_iff {a b : Bool} (h : a = true ↔ b = true) : a = b := by
  rw [Bool.eq_iff_iff]; exact h
set_option maxHeartbeats 4000000 in
set_option maxRecDepth 20000 in
theorem modelHangs_tri (g : List Int) (sz : Int) (tb : List (List Int)) (c d : List Lt) (hl : tb.length ≤ 4000000) (hr : ∀ r ∈ tb, r.length ≤ 4000000) (hc : c.length ≤ 4000000) (hd : d.length ≤ 4000000) (hcs : ∀ l ∈ c, l.a.size ≤ 4000000 ∧ l.b.size ≤ 4000000) : Tri Try.prog 9 [.d (sgDV g), .d (mdDV sz tb), .d (clDV c), .d (clDV d)] (pure' (bA true)) := by
  have v1 := mdHolds_tri g sz tb c hl hr hc
  have v2 := mdHolds_tri g sz tb d hl hr hd
  have s1 := subsumes_tri g c d hc hd hcs
  have a1 := always_tri g c hc
  have t1 := tidy_tri g c hc
  refine tri_enter Try.func9 rfl Try.ntmps9 (by simp only [List.length_cons, List.length_nil]; omega) fun w0 h0 k hrd hwr => ?_
  cases h1 : (hldAns g sz tb c).2 != 0 with
  | true =>
    repeat' (first | refine awp_seq_k fun K hK => ?_ | ((first | refine awp_region_k (by kernel_rfl) fun R hR => ?_ | refine awp_draw mixed (by kernel_rfl) (by kernel_rfl) fun R hR => ?_); simp only [go_sem, h1]) | ((first | (refine hR _ ?_; clear hR R) | refine awp_skip ?_ | refine awp_exit ?_ | refine awp_ret ?_); try simp only [thenA, inBlockA, reduceIte, reduceCtorEq, Nat.reduceEqDiff, if_false, if_true]) | ((first | refine hK _ ?_ | (clear hK K; first | refine hK _ ?_ | (clear hK K; first | refine hK _ ?_ | (clear hK K; first | refine hK _ ?_ | (clear hK K; refine hK _ ?_))))); clear hK K) | refine awp_true rfl rfl ?_ | refine awp_false rfl rfl ?_ | refine awp_block ?_ | ((first | refine CallK.pure (enter19) (v1) ?_ ?_ | refine CallD.pure (enter19) (v1) ?_ ?_); (focus first | ((repeat (first | exact trivial | refine ⟨(by first | exact Or.inl rfl | exact Or.inr rfl), ?_⟩)); done) | (simp only [coL, AV.dat, true_or, or_true, AV.d.injEq, go_sem]; done)); simp only [go_sem, h1]) | ((first | refine CallK.pure (enter19) (v2) ?_ ?_ | refine CallD.pure (enter19) (v2) ?_ ?_); (focus first | ((repeat (first | exact trivial | refine ⟨(by first | exact Or.inl rfl | exact Or.inr rfl), ?_⟩)); done) | (simp only [coL, AV.dat, true_or, or_true, AV.d.injEq, go_sem]; done)); simp only [go_sem, h1]) | ((first | refine CallK.pure (enter27) (modelBegun_tri) ?_ ?_ | refine CallD.pure (enter27) (modelBegun_tri) ?_ ?_ | refine CallK.pure (enter35) (clauseBegun_tri) ?_ ?_ | refine CallD.pure (enter35) (clauseBegun_tri) ?_ ?_); (focus first | ((repeat (first | exact trivial | refine ⟨(by first | exact Or.inl rfl | exact Or.inr rfl), ?_⟩)); done) | (simp only [coL, AV.dat, true_or, or_true, AV.d.injEq, go_sem]; done)); simp only [go_sem, h1]) | refine And.intro (by first | ((repeat' first | omega | exact trivial | rfl | assumption | (intro a e; subst e; rfl) | exact map_sz fun a => (by simp only [go_sem]) | refine And.intro ?_ ?_); done) | fail) ?_ | fail)
    (first | refine ret_pure ?_ ?_ ?_ | refine ret_ro ?_ ?_ ?_); focus exact (by simp only [Try.results9, resOkL, resOk, Try.ntmps9, List.toList_toArray]; first | decide | (simp only [go_sem]; done) | (simp only [go_sem]; and_intros <;> first | omega | rfl | decide))
    rotate_left; focus exact (by repeat (first | exact Fr.rfl' _ _ | assumption | refine Fr.updk ?_ (by omega) _))
    simp only [resA, resV, Try.results9, go_sem]
    all_goals try (first | exact Co.t2 (.dat rfl) (.dat rfl) | exact Co.t3 (.dat rfl) (.dat rfl) (.dat rfl))
    exact .dat rfl
  | false =>
    cases h2 : (hldAns g sz tb d).2 != 0 with
    | true =>
      repeat' (first | refine awp_seq_k fun K hK => ?_ | ((first | refine awp_region_k (by kernel_rfl) fun R hR => ?_ | refine awp_draw mixed (by kernel_rfl) (by kernel_rfl) fun R hR => ?_); simp only [go_sem, h1, h2]) | ((first | (refine hR _ ?_; clear hR R) | refine awp_skip ?_ | refine awp_exit ?_ | refine awp_ret ?_); try simp only [thenA, inBlockA, reduceIte, reduceCtorEq, Nat.reduceEqDiff, if_false, if_true]) | ((first | refine hK _ ?_ | (clear hK K; first | refine hK _ ?_ | (clear hK K; first | refine hK _ ?_ | (clear hK K; first | refine hK _ ?_ | (clear hK K; refine hK _ ?_))))); clear hK K) | refine awp_true rfl rfl ?_ | refine awp_false rfl rfl ?_ | refine awp_block ?_ | ((first | refine CallK.pure (enter19) (v1) ?_ ?_ | refine CallD.pure (enter19) (v1) ?_ ?_); (focus first | ((repeat (first | exact trivial | refine ⟨(by first | exact Or.inl rfl | exact Or.inr rfl), ?_⟩)); done) | (simp only [coL, AV.dat, true_or, or_true, AV.d.injEq, go_sem]; done)); simp only [go_sem, h1, h2]) | ((first | refine CallK.pure (enter19) (v2) ?_ ?_ | refine CallD.pure (enter19) (v2) ?_ ?_); (focus first | ((repeat (first | exact trivial | refine ⟨(by first | exact Or.inl rfl | exact Or.inr rfl), ?_⟩)); done) | (simp only [coL, AV.dat, true_or, or_true, AV.d.injEq, go_sem]; done)); simp only [go_sem, h1, h2]) | ((first | refine CallK.pure (enter27) (modelBegun_tri) ?_ ?_ | refine CallD.pure (enter27) (modelBegun_tri) ?_ ?_ | refine CallK.pure (enter35) (clauseBegun_tri) ?_ ?_ | refine CallD.pure (enter35) (clauseBegun_tri) ?_ ?_); (focus first | ((repeat (first | exact trivial | refine ⟨(by first | exact Or.inl rfl | exact Or.inr rfl), ?_⟩)); done) | (simp only [coL, AV.dat, true_or, or_true, AV.d.injEq, go_sem]; done)); simp only [go_sem, h1, h2]) | refine And.intro (by first | ((repeat' first | omega | exact trivial | rfl | assumption | (intro a e; subst e; rfl) | exact map_sz fun a => (by simp only [go_sem]) | refine And.intro ?_ ?_); done) | fail) ?_ | fail)
      (first | refine ret_pure ?_ ?_ ?_ | refine ret_ro ?_ ?_ ?_); focus exact (by simp only [Try.results9, resOkL, resOk, Try.ntmps9, List.toList_toArray]; first | decide | (simp only [go_sem]; done) | (simp only [go_sem]; and_intros <;> first | omega | rfl | decide))
      rotate_left; focus exact (by repeat (first | exact Fr.rfl' _ _ | assumption | refine Fr.updk ?_ (by omega) _))
      simp only [resA, resV, Try.results9, go_sem]
      all_goals try (first | exact Co.t2 (.dat rfl) (.dat rfl) | exact Co.t3 (.dat rfl) (.dat rfl) (.dat rfl))
      exact .dat rfl
    | false =>
      obtain ⟨k1, k2, k3, k4⟩ := hldAns_ok (by simpa using h1)
      obtain ⟨_, q2, q3, q4⟩ := hldAns_ok (by simpa using h2)
      obtain ⟨_, m1, m3, _⟩ := mdOk_all k1
      have hownc := (clsOk_one k2).2
      have hownd := (clsOk_one q2).2
      have hpc : PureC c := fun l hl => ⟨own_pure (hownc l hl).1, own_pure (hownc l hl).2⟩
      have hcd : clsOk g [c, d] = 0 := clsOk_mk (clsOk_all k2).1 (by simp) fun x hx => by
        simp only [List.mem_cons, List.not_mem_nil, or_false] at hx
        rcases hx with rfl | rfl
        · exact (clsOk_all k2).2.2 _ (by simp)
        · exact (clsOk_all q2).2.2 _ (by simp)
      have e1 : subAns g c d = (covG meet c d [], 0) := by unfold subAns; rw [if_neg (by simp [hcd])]
      have e2 : alwAns g c = (alwB c, 0) := by unfold alwAns; rw [if_neg (by simp [k2])]
      have hok := tidyR_ok k2
      have v3 := mdHolds_tri g sz tb (tidyR c) hl hr (by have := tidyR_len c; omega)
      rw [hldAns_mk k1 hok (by have := tidy_few hpc; omega)] at v3
      have ez : holdsC sz tb (tidyR c) = holdsC sz tb c := bool_iff (by rw [holds_iff m1 m3, holds_iff m1 m3]; exact holds_tidy m1 hpc)
      have ea : alwB c = true → holdsC sz tb c = true := fun h => (holds_iff m1 m3).2 (holds_alw h)
      have es : holdsC sz tb c = true → covG meet c d [] = true → holdsC sz tb d = true := fun h h' => (holds_iff m1 m3).2 (holds_cov k1 hownc hownd h' ((holds_iff m1 m3).1 h))
      rw [ez] at v3
      rw [tidyAns_ok k2] at t1
      rw [e1] at s1
      rw [e2] at a1
      rw [k4] at v1
      rw [q4] at v2
      clear h1 h2 k4 q4 e1 e2 ez
      generalize holdsC sz tb c = x at *
      generalize holdsC sz tb d = y at *
      generalize covG meet c d [] = s at *
      generalize alwB c = a at *
      have five : (x = false ∧ a = false) ∨ (x = true ∧ s = false ∧ a = false) ∨ (x = true ∧ s = false ∧ a = true) ∨ (x = true ∧ s = true ∧ y = true ∧ a = false) ∨ (x = true ∧ s = true ∧ y = true ∧ a = true) := by
        cases x <;> cases s <;> cases a <;> simp_all
      clear ea es
      rcases five with ⟨rfl, rfl⟩ | ⟨rfl, rfl, rfl⟩ | ⟨rfl, rfl, rfl⟩ | ⟨rfl, rfl, rfl, rfl⟩ | ⟨rfl, rfl, rfl, rfl⟩
      all_goals
        repeat' (first | refine awp_seq_k fun K hK => ?_ | ((first | refine awp_region_k (by kernel_rfl) fun R hR => ?_ | refine awp_draw mixed (by kernel_rfl) (by kernel_rfl) fun R hR => ?_); simp only [go_sem, beq_self_eq_true, bne_self_eq_false]) | ((first | (refine hR _ ?_; clear hR R) | refine awp_skip ?_ | refine awp_exit ?_ | refine awp_ret ?_); try simp only [thenA, inBlockA, reduceIte, reduceCtorEq, Nat.reduceEqDiff, if_false, if_true]) | ((first | refine hK _ ?_ | (clear hK K; first | refine hK _ ?_ | (clear hK K; first | refine hK _ ?_ | (clear hK K; first | refine hK _ ?_ | (clear hK K; refine hK _ ?_))))); clear hK K) | refine awp_true rfl rfl ?_ | refine awp_false rfl rfl ?_ | refine awp_block ?_ | ((first | refine CallK.pure (enter19) (v1) ?_ ?_ | refine CallD.pure (enter19) (v1) ?_ ?_); (focus first | ((repeat (first | exact trivial | refine ⟨(by first | exact Or.inl rfl | exact Or.inr rfl), ?_⟩)); done) | (simp only [coL, AV.dat, true_or, or_true, AV.d.injEq, go_sem]; done)); simp only [go_sem, beq_self_eq_true, bne_self_eq_false]) | ((first | refine CallK.pure (enter19) (v2) ?_ ?_ | refine CallD.pure (enter19) (v2) ?_ ?_); (focus first | ((repeat (first | exact trivial | refine ⟨(by first | exact Or.inl rfl | exact Or.inr rfl), ?_⟩)); done) | (simp only [coL, AV.dat, true_or, or_true, AV.d.injEq, go_sem]; done)); simp only [go_sem, beq_self_eq_true, bne_self_eq_false]) | ((first | refine CallK.pure (enter19) (v3) ?_ ?_ | refine CallD.pure (enter19) (v3) ?_ ?_); (focus first | ((repeat (first | exact trivial | refine ⟨(by first | exact Or.inl rfl | exact Or.inr rfl), ?_⟩)); done) | (simp only [coL, AV.dat, true_or, or_true, AV.d.injEq, go_sem]; done)); simp only [go_sem, beq_self_eq_true, bne_self_eq_false]) | ((first | refine CallK.pure (enter27) (modelBegun_tri) ?_ ?_ | refine CallD.pure (enter27) (modelBegun_tri) ?_ ?_ | refine CallK.pure (enter35) (clauseBegun_tri) ?_ ?_ | refine CallD.pure (enter35) (clauseBegun_tri) ?_ ?_ | refine CallK.pure (enter31) (s1) ?_ ?_ | refine CallD.pure (enter31) (s1) ?_ ?_ | refine CallK.pure (enter30) (a1) ?_ ?_ | refine CallD.pure (enter30) (a1) ?_ ?_ | refine CallK.pure (enter29) (t1) ?_ ?_ | refine CallD.pure (enter29) (t1) ?_ ?_); (focus first | ((repeat (first | exact trivial | refine ⟨(by first | exact Or.inl rfl | exact Or.inr rfl), ?_⟩)); done) | (simp only [coL, AV.dat, true_or, or_true, AV.d.injEq, go_sem]; done)); simp only [go_sem, beq_self_eq_true, bne_self_eq_false]) | refine And.intro (by first | ((repeat' first | omega | exact trivial | rfl | assumption | (intro a e; subst e; rfl) | exact map_sz fun a => (by simp only [go_sem]) | refine And.intro ?_ ?_); done) | fail) ?_ | fail)
        (first | refine ret_pure ?_ ?_ ?_ | refine ret_ro ?_ ?_ ?_); focus exact (by simp only [Try.results9, resOkL, resOk, Try.ntmps9, List.toList_toArray]; first | decide | (simp only [go_sem]; done) | (simp only [go_sem]; and_intros <;> first | omega | rfl | decide))
        rotate_left; focus exact (by repeat (first | exact Fr.rfl' _ _ | assumption | refine Fr.updk ?_ (by omega) _))
        simp only [resA, resV, Try.results9, go_sem]
        all_goals try (first | exact Co.t2 (.dat rfl) (.dat rfl) | exact Co.t3 (.dat rfl) (.dat rfl) (.dat rfl))
        exact .dat rfl
theorem modelHangs_law (g : List Int) (m : Int × List (List Int)) (c d : List Lt) (_ : True) (_ : True) (_ : True) (_ : True) (hb : (g.length + 1) + ((m.2.map fun r => r.length + 1).sum + 2) + ((c.map Lt.size).sum + 1) + ((d.map Lt.size).sum + 1) ≤ 1048576) : Tri Try.prog 9 [.d (sgDV g), .d (mdDV m.1 m.2), .d (clDV c), .d (clDV d)] (pure' (bA true)) := by
  obtain ⟨h1, h2⟩ := lt_sizes (c := c) (n := 1048576) (by omega)
  obtain ⟨h3, h4⟩ := lt_sizes (c := d) (n := 1048576) (by omega)
  have hm : ∀ (l : List (List Int)), l.length ≤ (l.map fun r => r.length + 1).sum ∧ ∀ r ∈ l, r.length ≤ (l.map fun r => r.length + 1).sum := by
    intro l
    induction l with
    | nil => simp
    | cons r l ih =>
      obtain ⟨i1, i2⟩ := ih
      refine ⟨by simp only [List.map_cons, List.sum_cons, List.length_cons]; omega, fun x hx => ?_⟩
      simp only [List.map_cons, List.sum_cons]
      rcases List.mem_cons.1 hx with rfl | hx
      · omega
      · have := i2 x hx; omega
  obtain ⟨i1, i2⟩ := hm m.2
  exact modelHangs_tri g m.1 m.2 c d (by omega) (fun r hr => by have := i2 r hr; omega) (by omega) (by omega) (fun l hl => by have := h2 l hl; omega)
end Go.Proofs.Ytmeekpinkfpnhaa
