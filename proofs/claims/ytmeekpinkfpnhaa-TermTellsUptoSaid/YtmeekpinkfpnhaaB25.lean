/- superposeref.Rising. superposeref.SameInts. The law TermTells: its walk. -/
import Derived.Test.YtmeekpinkfpnhaaB05
import Derived.Test.YtmeekpinkfpnhaaB06
import Derived.Test.YtmeekpinkfpnhaaB16
import Derived.Test.YtmeekpinkfpnhaaB23
import Derived.Test.YtmeekpinkfpnhaaB24
set_option linter.unusedSimpArgs false
set_option linter.unusedSectionVars false
set_option linter.unusedVariables false
set_option linter.unnecessarySimpa false
set_option linter.all false
namespace Go.Proofs.Ytmeekpinkfpnhaa
open Go.RowKit
section
variable {P : Program} {w0 : World} {n : Nat} {s : St}
def isOwnA : AV → Bool
  | .own _ _ => true
  | _ => false
theorem ghost_own {i : Nat} (hi : isOwnA (s.t i) = true) : Ghost P w0 n s ⟨set s.t i (.d (.sl (listOf (s.t i)))), s.h, s.k⟩ := by
  intro m β a w h1 h2 h3
  refine ⟨m, β, Nat.le_refl _, ⟨.rfl' m, .rfl' β, h2, fun j v hj => ?_⟩, fun _ _ h => h⟩
  show R m _ v (set s.t i _ j)
  unfold set
  split
  · subst_vars
    have := h3 _ v hj
    generalize s.t _ = x at hi this ⊢
    cases this with
    | own hr => exact .d hr
    | _ => cases hi
  · exact h3 j v hj
theorem ghost_nild {i : Nat} (hi : s.t i = .nil) : Ghost P w0 n s ⟨set s.t i (.d (.sl [])), s.h, s.k⟩ := by
  intro m β a w h1 h2 h3
  refine ⟨m, β, Nat.le_refl _, ⟨.rfl' m, .rfl' β, h2, fun j v hj => ?_⟩, fun _ _ h => h⟩
  show R m _ v (set s.t i _ j)
  unfold set
  split
  · subst_vars
    have := h3 _ v hj
    rw [hi] at this
    cases this with
    | nil => exact .d .nil
  · exact h3 j v hj
end
theorem rising_take {l : List Int} {i : Nat} (h : i < l.length) : rising (l.take (i + 1)) = insR (rising (l.take i)) l[i] := by
  unfold rising
  rw [List.take_succ_eq_append_getElem h, List.foldl_append]; rfl
theorem rising_len : ∀ (l o : List Int), (l.foldl insR o).length = o.length + l.length
  | [], _ => rfl
  | x :: l, o => by rw [List.foldl_cons, rising_len l, ins_len, List.length_cons]; omega
theorem getD_map_i (o : List Int) {j : Nat} (hj : j < o.length) (d : DV) : (o.map iD).getD j d = iD (o.getD j 0) := by
  rw [List.getD_eq_getElem?_getD, List.getD_eq_getElem?_getD, List.getElem?_map, List.getElem?_eq_getElem hj]; rfl
set_option maxHeartbeats 1000000 in
set_option maxRecDepth 20000 in
theorem rising_tri (l : List Int) (hl : l.length ≤ 4000000) : Tri Try.prog 51 [.d (.sl (l.map iD))] (pure' (.d (.sl ((rising l).map iD)))) := by
  refine tri_enter Try.func51 rfl Try.ntmps51 (by simp only [List.length_cons, List.length_nil]; omega) fun w0 h0 k hrd hwr => ?_
  repeat' (first | (refine awp_ghost (ghost_nild (i := 3) ?_) ?_; (focus (simp only [go_sem]; done)); simp only [go_sem]) | refine awp_seq_k fun K hK => ?_ | ((first | refine awp_region_k (by kernel_rfl) fun R hR => ?_ | refine awp_draw mixed (by kernel_rfl) (by kernel_rfl) fun R hR => ?_); simp only [go_sem]) | ((first | (refine hR _ ?_; clear hR R) | refine awp_skip ?_ | refine awp_exit ?_ | refine awp_ret ?_); try simp only [thenA, inBlockA, reduceIte, reduceCtorEq, Nat.reduceEqDiff, if_false, if_true]) | ((first | refine hK _ ?_ | (clear hK K; first | refine hK _ ?_ | (clear hK K; first | refine hK _ ?_ | (clear hK K; first | refine hK _ ?_ | (clear hK K; refine hK _ ?_))))); clear hK K) | refine awp_true rfl rfl ?_ | refine awp_false rfl rfl ?_ | refine awp_block ?_ | refine And.intro (by first | ((repeat' first | omega | exact trivial | rfl | assumption | (intro a e; subst e; rfl) | exact map_sz fun a => (by simp only [go_sem]) | refine And.intro ?_ ?_); done) | fail) ?_ | fail)
  refine awp_loop (fun σ => ∃ (i : Nat) (o : List Int), σ.t 0 = .d (.sl (l.map iD)) ∧ σ.t 3 = .d (.sl (o.map iD)) ∧ σ.t 4 = iA i ∧ Fr k h0 σ.h ∧ k ≤ σ.k ∧ i ≤ l.length ∧ o = rising (l.take i)) (fun σ => l.length - (intOf' (σ.t 4)).toNat) ?_ ?_
  · refine ⟨0, [], ?_⟩
    simp only [go_sem, ]
    and_intros; all_goals try (first | rfl | omega | assumption | ((repeat (first | exact Fr.rfl' _ _ | assumption | refine Fr.updk ?_ (by omega) _)); done))
  · rintro σ ⟨i, o, s0, s3, s4, hF, hk, hi, ho⟩
    have hol : o.length = i := by rw [ho]; unfold rising; rw [rising_len, List.length_take]; simp; omega
    rcases Nat.lt_or_ge i l.length with hlt | hge
    · have hz : (i : Int) < (l.length : Int) := by omega
      have e1 : (l.map iD).getD i default = iD (l.getD i 0) := getD_map_i l hlt _
      have e2 : l.getD i 0 = l[i] := by rw [List.getD_eq_getElem?_getD, List.getElem?_eq_getElem hlt]; rfl
      have htk : ∀ c, List.take c (o.map iD) = (o.take c).map iD := fun c => List.map_take.symm
      have hdr : ∀ (p : List Int) (c : Nat), List.drop c (p.map iD) = (p.drop c).map iD := fun p c => List.map_drop.symm
      have hco : ∀ c, (o.take c).map iD ++ [iD (l.getD i 0)] = (o.take c ++ [l.getD i 0]).map iD := fun c => by simp
      have hins : ∀ c, cutAt o (l.getD i 0) o.length = c → (o.take c ++ [l.getD i 0]) ++ o.drop c = insR o (l.getD i 0) := fun c hc => by subst hc; simp [insR]
      have hnx : insR o (l.getD i 0) = rising (l.take (i + 1)) := by rw [rising_take hlt, ← ho, e2]
      repeat' (first | refine awp_seq_k fun K hK => ?_ | ((first | refine awp_region_k (by kernel_rfl) fun R hR => ?_ | refine awp_draw mixed (by kernel_rfl) (by kernel_rfl) fun R hR => ?_); simp only [go_sem, s0, s3, s4, hz, e1, Int.toNat_natCast]) | ((first | (refine hR _ ?_; clear hR R) | refine awp_skip ?_ | refine awp_exit ?_ | refine awp_ret ?_); try simp only [thenA, inBlockA, reduceIte, reduceCtorEq, Nat.reduceEqDiff, if_false, if_true]) | ((first | refine hK _ ?_ | (clear hK K; first | refine hK _ ?_ | (clear hK K; first | refine hK _ ?_ | (clear hK K; first | refine hK _ ?_ | (clear hK K; refine hK _ ?_))))); clear hK K) | refine awp_true rfl rfl ?_ | refine awp_false rfl rfl ?_ | refine awp_block ?_ | refine And.intro (by first | ((repeat' first | omega | exact trivial | rfl | assumption | (intro a e; subst e; rfl) | exact map_sz fun a => (by simp only [go_sem]) | refine And.intro ?_ ?_); done) | fail) ?_ | fail)
      refine awp_loop (fun τ => ∃ j : Nat, τ.t 0 = .d (.sl (l.map iD)) ∧ τ.t 3 = .d (.sl (o.map iD)) ∧ τ.t 4 = iA i ∧ τ.t 5 = iA j ∧ Fr k h0 τ.h ∧ σ.k ≤ τ.k ∧ j ≤ o.length ∧ cutAt o (l.getD i 0) j = cutAt o (l.getD i 0) o.length) (fun τ => (intOf' (τ.t 5)).toNat) ?_ ?_
      · refine ⟨o.length, ?_⟩
        simp only [go_sem, s0, s3, s4, List.length_map]
        and_intros; all_goals try (first | rfl | omega | assumption | ((repeat (first | exact Fr.rfl' _ _ | assumption | refine Fr.updk ?_ (by omega) _)); done))
      · rintro τ ⟨j, u0, u3, u4, u5, uF, uk, uj, uc⟩
        have e3 : ∀ h : 0 < j, (o.map iD).getD (j - 1) default = iD (o.getD (j - 1) 0) := fun h => getD_map_i o (by omega) _
        by_cases h0j : 0 < j
        · have hz' : (j : Int) > 0 := by omega
          have hs : (j : Int) - 1 = ((j - 1 : Nat) : Int) := by omega
          have e3 := e3 h0j
          obtain ⟨j', rfl⟩ : ∃ j', j = j' + 1 := ⟨j - 1, by omega⟩
          rw [cutAt] at uc
          rw [show j' + 1 - 1 = j' from rfl] at e3 hs
          by_cases hgt : o.getD j' 0 > l.getD i 0
          · rw [if_pos hgt] at uc
            repeat' (first | refine awp_seq_k fun K hK => ?_ | ((first | refine awp_region_k (by kernel_rfl) fun R hR => ?_ | refine awp_draw mixed (by kernel_rfl) (by kernel_rfl) fun R hR => ?_); simp only [go_sem, u0, u3, u4, u5, e1, e3, hz', hs, hgt, Int.toNat_natCast]) | ((first | (refine hR _ ?_; clear hR R) | refine awp_skip ?_ | refine awp_exit ?_ | refine awp_ret ?_); try simp only [thenA, inBlockA, reduceIte, reduceCtorEq, Nat.reduceEqDiff, if_false, if_true]) | ((first | refine hK _ ?_ | (clear hK K; first | refine hK _ ?_ | (clear hK K; first | refine hK _ ?_ | (clear hK K; first | refine hK _ ?_ | (clear hK K; refine hK _ ?_))))); clear hK K) | refine awp_true rfl rfl ?_ | refine awp_false rfl rfl ?_ | refine awp_block ?_ | refine And.intro (by first | ((repeat' first | omega | exact trivial | rfl | assumption | (intro a e; subst e; rfl) | exact map_sz fun a => (by simp only [go_sem]) | refine And.intro ?_ ?_); done) | fail) ?_ | fail)
            refine ⟨⟨j', ?_⟩, ?_⟩
            rotate_left
            · simp only [go_sem, u0, u3, u4, u5, hs]; omega
            simp only [go_sem, u0, u3, u4, u5, hs]
            and_intros; all_goals try (first | rfl | omega | assumption | ((repeat (first | exact Fr.rfl' _ _ | assumption | refine Fr.updk ?_ (by omega) _)); done))
          · rw [if_neg hgt] at uc
            have hinc := hins (j' + 1) uc.symm
            repeat' (first | (refine awp_ghost (ghost_own (i := 3) ?_) ?_; (focus rfl); simp only [go_sem]) | refine awp_seq_k fun K hK => ?_ | ((first | refine awp_region_k (by kernel_rfl) fun R hR => ?_ | refine awp_draw mixed (by kernel_rfl) (by kernel_rfl) fun R hR => ?_); simp only [go_sem, u0, u3, u4, u5, e1, e3, hz', hs, hgt, htk, hdr, hco, hinc, List.take_length, List.length_map, List.length_drop, List.length_take, List.drop_zero, List.drop_nil, List.take_zero, List.length_append, List.length_cons, List.length_nil, Int.toNat_zero, List.map_nil, List.nil_append, Int.toNat_natCast]) | ((first | (refine hR _ ?_; clear hR R) | refine awp_skip ?_ | refine awp_exit ?_ | refine awp_ret ?_); try simp only [thenA, inBlockA, reduceIte, reduceCtorEq, Nat.reduceEqDiff, if_false, if_true]) | ((first | refine hK _ ?_ | (clear hK K; first | refine hK _ ?_ | (clear hK K; first | refine hK _ ?_ | (clear hK K; first | refine hK _ ?_ | (clear hK K; refine hK _ ?_))))); clear hK K) | refine awp_true rfl rfl ?_ | refine awp_false rfl rfl ?_ | refine awp_block ?_ | refine And.intro (by first | ((repeat' first | omega | exact trivial | rfl | assumption | (intro a e; subst e; rfl) | exact map_sz fun a => (by simp only [go_sem]) | refine And.intro ?_ ?_); done) | fail) ?_ | fail)
            refine ⟨⟨i + 1, insR o (l.getD i 0), ?_⟩, ?_⟩
            rotate_left
            · simp only [go_sem, s4, u0, u3, u4, hinc, List.length_map]; omega
            simp only [go_sem, s4, u0, u3, u4, hinc, List.length_map]
            and_intros; all_goals try (first | rfl | omega | assumption | ((repeat (first | exact Fr.rfl' _ _ | assumption | refine Fr.updk ?_ (by omega) _)); done))
        · obtain rfl : j = 0 := by omega
          have hz' : ¬ (((0 : Nat) : Int) > 0) := by omega
          have hinc := hins 0 uc.symm
          have hin0 : iD (l.getD i 0) :: o.map iD = (insR o (l.getD i 0)).map iD := by rw [← hinc]; simp
          repeat' (first | (refine awp_ghost (ghost_own (i := 3) ?_) ?_; (focus rfl); simp only [go_sem]) | refine awp_seq_k fun K hK => ?_ | ((first | refine awp_region_k (by kernel_rfl) fun R hR => ?_ | refine awp_draw mixed (by kernel_rfl) (by kernel_rfl) fun R hR => ?_); simp only [go_sem, u0, u3, u4, u5, e1, hz', htk, hdr, hco, hinc, List.take_length, List.length_map, List.length_drop, List.length_take, List.drop_zero, List.drop_nil, List.take_zero, List.length_append, List.length_cons, List.length_nil, Int.toNat_zero, List.map_nil, List.nil_append, Int.toNat_natCast]) | ((first | (refine hR _ ?_; clear hR R) | refine awp_skip ?_ | refine awp_exit ?_ | refine awp_ret ?_); try simp only [thenA, inBlockA, reduceIte, reduceCtorEq, Nat.reduceEqDiff, if_false, if_true]) | ((first | refine hK _ ?_ | (clear hK K; first | refine hK _ ?_ | (clear hK K; first | refine hK _ ?_ | (clear hK K; first | refine hK _ ?_ | (clear hK K; refine hK _ ?_))))); clear hK K) | refine awp_true rfl rfl ?_ | refine awp_false rfl rfl ?_ | refine awp_block ?_ | refine And.intro (by first | ((repeat' first | omega | exact trivial | rfl | assumption | (intro a e; subst e; rfl) | exact map_sz fun a => (by simp only [go_sem]) | refine And.intro ?_ ?_); done) | fail) ?_ | fail)
          refine ⟨⟨i + 1, insR o (l.getD i 0), ?_⟩, ?_⟩
          rotate_left
          · simp only [go_sem, s4, u0, u3, u4, hinc, hin0, List.length_map]; omega
          simp only [go_sem, s4, u0, u3, u4, hinc, hin0, List.length_map]
          and_intros; all_goals try (first | rfl | omega | assumption | ((repeat (first | exact Fr.rfl' _ _ | assumption | refine Fr.updk ?_ (by omega) _)); done))
    · have hz : ¬ ((i : Int) < (l.length : Int)) := by omega
      obtain rfl : i = l.length := by omega
      rw [List.take_length] at ho
      repeat' (first | refine awp_seq_k fun K hK => ?_ | ((first | refine awp_region_k (by kernel_rfl) fun R hR => ?_ | refine awp_draw mixed (by kernel_rfl) (by kernel_rfl) fun R hR => ?_); simp only [go_sem, s0, s3, s4, hz]) | ((first | (refine hR _ ?_; clear hR R) | refine awp_skip ?_ | refine awp_exit ?_ | refine awp_ret ?_); try simp only [thenA, inBlockA, reduceIte, reduceCtorEq, Nat.reduceEqDiff, if_false, if_true]) | ((first | refine hK _ ?_ | (clear hK K; first | refine hK _ ?_ | (clear hK K; first | refine hK _ ?_ | (clear hK K; first | refine hK _ ?_ | (clear hK K; refine hK _ ?_))))); clear hK K) | refine awp_true rfl rfl ?_ | refine awp_false rfl rfl ?_ | refine awp_block ?_ | refine And.intro (by first | ((repeat' first | omega | exact trivial | rfl | assumption | (intro a e; subst e; rfl) | exact map_sz fun a => (by simp only [go_sem]) | refine And.intro ?_ ?_); done) | fail) ?_ | fail)
      (first | refine ret_pure ?_ ?_ ?_ | refine ret_ro ?_ ?_ ?_); focus exact (by simp only [Try.results51, resOkL, resOk, Try.ntmps51, List.toList_toArray]; first | decide | (simp only [go_sem, ho]; done) | (simp only [go_sem, ho]; and_intros <;> first | omega | rfl | decide))
      rotate_left; focus exact (by repeat (first | exact Fr.rfl' _ _ | assumption | refine Fr.updk ?_ (by omega) _))
      simp only [resA, resV, Try.results51, go_sem, ho]
      all_goals try (first | exact Co.t2 (.dat rfl) (.dat rfl) | exact Co.t3 (.dat rfl) (.dat rfl) (.dat rfl))
      exact .dat rfl
end Go.Proofs.Ytmeekpinkfpnhaa
namespace Go.Proofs.Ytmeekpinkfpnhaa
open Go.RowKit
theorem drop_eq_at {a b : List Int} {i : Nat} (hi : i < a.length) (hi' : i < b.length) : (a.drop i = b.drop i) ↔ (a[i] = b[i] ∧ a.drop (i + 1) = b.drop (i + 1)) := by
  rw [List.drop_eq_getElem_cons hi, List.drop_eq_getElem_cons hi', List.cons.injEq]
set_option maxHeartbeats 1000000 in
set_option maxRecDepth 20000 in
theorem sameInts_tri (a b : List Int) (ha : a.length ≤ 4000000) : Tri Try.prog 56 [.d (.sl (a.map iD)), .d (.sl (b.map iD))] (pure' (bA (decide (a = b)))) := by
  refine tri_enter Try.func56 rfl Try.ntmps56 (by simp only [List.length_cons, List.length_nil]; omega) fun w0 h0 k hrd hwr => ?_
  cases h1 : ((a.length : Int) != (b.length : Int)) with
  | true =>
    rw [show decide (a = b) = false from decide_eq_false fun h => by subst h; simp at h1]
    repeat' (first | refine awp_seq_k fun K hK => ?_ | ((first | refine awp_region_k (by kernel_rfl) fun R hR => ?_ | refine awp_draw mixed (by kernel_rfl) (by kernel_rfl) fun R hR => ?_); simp only [go_sem, h1]) | ((first | (refine hR _ ?_; clear hR R) | refine awp_skip ?_ | refine awp_exit ?_ | refine awp_ret ?_); try simp only [thenA, inBlockA, reduceIte, reduceCtorEq, Nat.reduceEqDiff, if_false, if_true]) | ((first | refine hK _ ?_ | (clear hK K; first | refine hK _ ?_ | (clear hK K; first | refine hK _ ?_ | (clear hK K; first | refine hK _ ?_ | (clear hK K; refine hK _ ?_))))); clear hK K) | refine awp_true rfl rfl ?_ | refine awp_false rfl rfl ?_ | refine awp_block ?_ | refine And.intro (by first | ((repeat' first | omega | exact trivial | rfl | assumption | (intro a e; subst e; rfl) | exact map_sz fun a => (by simp only [go_sem]) | refine And.intro ?_ ?_); done) | fail) ?_ | fail)
    (first | refine ret_pure ?_ ?_ ?_ | refine ret_ro ?_ ?_ ?_); focus exact (by simp only [Try.results56, resOkL, resOk, Try.ntmps56, List.toList_toArray]; first | decide | (simp only [go_sem]; done) | (simp only [go_sem]; and_intros <;> first | omega | rfl | decide))
    rotate_left; focus exact (by repeat (first | exact Fr.rfl' _ _ | assumption | refine Fr.updk ?_ (by omega) _))
    simp only [resA, resV, Try.results56, go_sem]
    all_goals try (first | exact Co.t2 (.dat rfl) (.dat rfl) | exact Co.t3 (.dat rfl) (.dat rfl) (.dat rfl))
    all_goals exact .dat rfl
  | false =>
    have hll : a.length = b.length := by simp at h1; omega
    repeat' (first | refine awp_seq_k fun K hK => ?_ | ((first | refine awp_region_k (by kernel_rfl) fun R hR => ?_ | refine awp_draw mixed (by kernel_rfl) (by kernel_rfl) fun R hR => ?_); simp only [go_sem, h1]) | ((first | (refine hR _ ?_; clear hR R) | refine awp_skip ?_ | refine awp_exit ?_ | refine awp_ret ?_); try simp only [thenA, inBlockA, reduceIte, reduceCtorEq, Nat.reduceEqDiff, if_false, if_true]) | ((first | refine hK _ ?_ | (clear hK K; first | refine hK _ ?_ | (clear hK K; first | refine hK _ ?_ | (clear hK K; first | refine hK _ ?_ | (clear hK K; refine hK _ ?_))))); clear hK K) | refine awp_true rfl rfl ?_ | refine awp_false rfl rfl ?_ | refine awp_block ?_ | refine And.intro (by first | ((repeat' first | omega | exact trivial | rfl | assumption | (intro a e; subst e; rfl) | exact map_sz fun a => (by simp only [go_sem]) | refine And.intro ?_ ?_); done) | fail) ?_ | fail)
    refine awp_loop (fun σ => ∃ i : Nat, σ.t 0 = .d (.sl (a.map iD)) ∧ σ.t 1 = .d (.sl (b.map iD)) ∧ σ.t 5 = iA i ∧ σ.h = h0 ∧ i ≤ a.length ∧ ((a.drop i = b.drop i) ↔ a = b)) (fun σ => a.length - (intOf' (σ.t 5)).toNat) ?_ ?_
    · refine ⟨0, ?_⟩
      simp only [go_sem, List.drop_zero]
      and_intros; all_goals try (first | rfl | omega | assumption | ((repeat (first | exact Fr.rfl' _ _ | assumption | refine Fr.updk ?_ (by omega) _)); done))
    · rintro σ ⟨i, s0, s1, s5, sh, hi, hv⟩
      have hfr : Fr k h0 σ.h := by rw [sh]; exact Fr.rfl' _ _
      rcases Nat.lt_or_ge i a.length with hlt | hge
      · have hlt' : i < b.length := by omega
        have hz : (i : Int) < (a.length : Int) := by omega
        have hz' : (i : Int) < (b.length : Int) := by omega
        have e1 : (a.map iD).getD i default = iD a[i] := nth_map iD hlt _
        have e2 : (b.map iD).getD i default = iD b[i] := nth_map iD hlt' _
        rw [drop_eq_at hlt hlt'] at hv
        cases hy : (a[i] != b[i]) with
        | true =>
          have hv' : decide (a = b) = false := decide_eq_false fun h => by have := (hv.2 h).1; simp [this] at hy
          rw [hv']
          repeat' (first | refine awp_seq_k fun K hK => ?_ | ((first | refine awp_region_k (by kernel_rfl) fun R hR => ?_ | refine awp_draw mixed (by kernel_rfl) (by kernel_rfl) fun R hR => ?_); simp only [go_sem, s0, s1, s5, hz, hz', e1, e2, hy, Int.toNat_natCast]) | ((first | (refine hR _ ?_; clear hR R) | refine awp_skip ?_ | refine awp_exit ?_ | refine awp_ret ?_); try simp only [thenA, inBlockA, reduceIte, reduceCtorEq, Nat.reduceEqDiff, if_false, if_true]) | ((first | refine hK _ ?_ | (clear hK K; first | refine hK _ ?_ | (clear hK K; first | refine hK _ ?_ | (clear hK K; first | refine hK _ ?_ | (clear hK K; refine hK _ ?_))))); clear hK K) | refine awp_true rfl rfl ?_ | refine awp_false rfl rfl ?_ | refine awp_block ?_ | refine And.intro (by first | ((repeat' first | omega | exact trivial | rfl | assumption | (intro a e; subst e; rfl) | exact map_sz fun a => (by simp only [go_sem]) | refine And.intro ?_ ?_); done) | fail) ?_ | fail)
          (first | refine ret_pure ?_ ?_ ?_ | refine ret_ro ?_ ?_ ?_); focus exact (by simp only [Try.results56, resOkL, resOk, Try.ntmps56, List.toList_toArray]; first | decide | (simp only [go_sem]; done) | (simp only [go_sem]; and_intros <;> first | omega | rfl | decide))
          rotate_left; focus exact (by repeat (first | exact Fr.rfl' _ _ | assumption | refine Fr.updk ?_ (by omega) _))
          simp only [resA, resV, Try.results56, go_sem]
          all_goals try (first | exact Co.t2 (.dat rfl) (.dat rfl) | exact Co.t3 (.dat rfl) (.dat rfl) (.dat rfl))
          all_goals exact .dat rfl
        | false =>
          have hy' : a[i] = b[i] := by simpa using hy
          have hv2 : (a.drop (i + 1) = b.drop (i + 1)) ↔ a = b := ⟨fun h => hv.1 ⟨hy', h⟩, fun h => (hv.2 h).2⟩
          repeat' (first | refine awp_seq_k fun K hK => ?_ | ((first | refine awp_region_k (by kernel_rfl) fun R hR => ?_ | refine awp_draw mixed (by kernel_rfl) (by kernel_rfl) fun R hR => ?_); simp only [go_sem, s0, s1, s5, hz, hz', e1, e2, hy, Int.toNat_natCast]) | ((first | (refine hR _ ?_; clear hR R) | refine awp_skip ?_ | refine awp_exit ?_ | refine awp_ret ?_); try simp only [thenA, inBlockA, reduceIte, reduceCtorEq, Nat.reduceEqDiff, if_false, if_true]) | ((first | refine hK _ ?_ | (clear hK K; first | refine hK _ ?_ | (clear hK K; first | refine hK _ ?_ | (clear hK K; first | refine hK _ ?_ | (clear hK K; refine hK _ ?_))))); clear hK K) | refine awp_true rfl rfl ?_ | refine awp_false rfl rfl ?_ | refine awp_block ?_ | refine And.intro (by first | ((repeat' first | omega | exact trivial | rfl | assumption | (intro a e; subst e; rfl) | exact map_sz fun a => (by simp only [go_sem]) | refine And.intro ?_ ?_); done) | fail) ?_ | fail)
          refine ⟨⟨i + 1, ?_⟩, ?_⟩
          rotate_left
          · simp only [go_sem, s0, s1, s5, sh]; omega
          simp only [go_sem, s0, s1, s5, sh]
          and_intros; all_goals try (first | rfl | omega | assumption | ((repeat (first | exact Fr.rfl' _ _ | assumption | refine Fr.updk ?_ (by omega) _)); done))
      · have hz : ¬ ((i : Int) < (a.length : Int)) := by omega
        have hv' : decide (a = b) = true := decide_eq_true (hv.1 (by rw [List.drop_eq_nil_of_le hge, List.drop_eq_nil_of_le (by omega)]))
        repeat' (first | refine awp_seq_k fun K hK => ?_ | ((first | refine awp_region_k (by kernel_rfl) fun R hR => ?_ | refine awp_draw mixed (by kernel_rfl) (by kernel_rfl) fun R hR => ?_); simp only [go_sem, s0, s1, s5, hz]) | ((first | (refine hR _ ?_; clear hR R) | refine awp_skip ?_ | refine awp_exit ?_ | refine awp_ret ?_); try simp only [thenA, inBlockA, reduceIte, reduceCtorEq, Nat.reduceEqDiff, if_false, if_true]) | ((first | refine hK _ ?_ | (clear hK K; first | refine hK _ ?_ | (clear hK K; first | refine hK _ ?_ | (clear hK K; first | refine hK _ ?_ | (clear hK K; refine hK _ ?_))))); clear hK K) | refine awp_true rfl rfl ?_ | refine awp_false rfl rfl ?_ | refine awp_block ?_ | refine And.intro (by first | ((repeat' first | omega | exact trivial | rfl | assumption | (intro a e; subst e; rfl) | exact map_sz fun a => (by simp only [go_sem]) | refine And.intro ?_ ?_); done) | fail) ?_ | fail)
        (first | refine ret_pure ?_ ?_ ?_ | refine ret_ro ?_ ?_ ?_); focus exact (by simp only [Try.results56, resOkL, resOk, Try.ntmps56, List.toList_toArray]; first | decide | (simp only [go_sem]; done) | (simp only [go_sem]; and_intros <;> first | omega | rfl | decide))
        rotate_left; focus exact (by repeat (first | exact Fr.rfl' _ _ | assumption | refine Fr.updk ?_ (by omega) _))
        simp only [resA, resV, Try.results56, go_sem]
        all_goals try (first | exact Co.t2 (.dat rfl) (.dat rfl) | exact Co.t3 (.dat rfl) (.dat rfl) (.dat rfl))
        all_goals exact co_b hv'.symm
end Go.Proofs.Ytmeekpinkfpnhaa
namespace Go.Proofs.Ytmeekpinkfpnhaa
open Go.RowKit
theorem vars_zero {g : List Int} {t : Tm} (h : allOk g [t] = 0) : varsOf g t = rising (firstVars [t]) := by
  have hst : addVs [] ([t].flatMap pre) = firstVars [t] := stands_eq (fun u hu => by simp at hu; subst hu; exact own_bare ((allOk_own h).2 u (by simp))) []
  unfold varsOf
  rw [if_neg (by simp [h]), hst, rising_eq]
theorem firstVars_le (t : Tm) : (firstVars [t]).length ≤ t.size := by
  have h1 := addVs_len (parts t) []
  rw [List.length_nil, Nat.zero_add, parts_len] at h1
  unfold firstVars
  rw [List.flatMap_cons, List.flatMap_nil, List.append_nil]
  exact h1
set_option maxHeartbeats 4000000 in
set_option maxRecDepth 20000 in
theorem termTells_tri (g : List Int) (t : Tm) (ht : t.size ≤ 4000000) : Tri Try.prog 10 [.d (sgDV g), .d (tmDV t)] (pure' (bA true)) := by
  have v1 := tsize_tri g t
  have v2 := vars_tri g t ht
  have c1 := checkTerms_tri (g := g) (l := [t])
  have c2 := signature_tri (g := g)
  have c3 := checkSig_tri (g := g)
  have c4 := tcheck_tri g t
  by_cases h1 : allOk g [t] = 0
  · rw [h1] at c1 c4
    rw [h1, if_neg (by simp)] at v1
    rw [h1, vars_zero h1] at v2
    have hls := firstVars_le t
    have v3 := sizeOf_tri (t := t) 120 (by omega) (by omega)
    have v4 := firstVars_tri [t] (by simp only [Tm.size.sizes]; omega)
    have v5 := rising_tri (firstVars [t]) (by omega)
    have v6 := sameInts_tri (rising (firstVars [t])) (rising (firstVars [t])) (by rw [rising_eq, risen_len]; omega)
    rw [decide_eq_true rfl] at v6
    refine tri_enter Try.func10 rfl Try.ntmps10 (by simp only [List.length_cons, List.length_nil]; omega) fun w0 h0 k hrd hwr => ?_
    repeat' (first | refine awp_seq_k fun K hK => ?_ | ((first | refine awp_region_k (by kernel_rfl) fun R hR => ?_ | refine awp_draw mixed (by kernel_rfl) (by kernel_rfl) fun R hR => ?_); simp only [go_sem, beq_self_eq_true, nat_ne8]) | ((first | (refine hR _ ?_; clear hR R) | refine awp_skip ?_ | refine awp_exit ?_ | refine awp_ret ?_); try simp only [thenA, inBlockA, reduceIte, reduceCtorEq, Nat.reduceEqDiff, if_false, if_true]) | ((first | refine hK _ ?_ | (clear hK K; first | refine hK _ ?_ | (clear hK K; first | refine hK _ ?_ | (clear hK K; first | refine hK _ ?_ | (clear hK K; refine hK _ ?_))))); clear hK K) | refine awp_true rfl rfl ?_ | refine awp_false rfl rfl ?_ | refine awp_block ?_ | ((first | refine CallK.pure (enter52) (termBegun_tri) ?_ ?_ | refine CallD.pure (enter52) (termBegun_tri) ?_ ?_ | refine CallK.pure (enter48) (v1) ?_ ?_ | refine CallD.pure (enter48) (v1) ?_ ?_ | refine CallK.pure (enter49) (v2) ?_ ?_ | refine CallD.pure (enter49) (v2) ?_ ?_ | refine CallK.pure (enter15) (c1) ?_ ?_ | refine CallD.pure (enter15) (c1) ?_ ?_ | refine CallK.pure (enter50) (v3) ?_ ?_ | refine CallD.pure (enter50) (v3) ?_ ?_ | refine CallK.pure (enter22) (v4) ?_ ?_ | refine CallD.pure (enter22) (v4) ?_ ?_ | refine CallK.pure (enter51) (v5) ?_ ?_ | refine CallD.pure (enter51) (v5) ?_ ?_ | refine CallK.pure (enter53) (c2) ?_ ?_ | refine CallD.pure (enter53) (c2) ?_ ?_ | refine CallK.pure (enter54) (c3) ?_ ?_ | refine CallD.pure (enter54) (c3) ?_ ?_ | refine CallK.pure (enter55) (c4) ?_ ?_ | refine CallD.pure (enter55) (c4) ?_ ?_ | refine CallK.pure (enter56) (v6) ?_ ?_ | refine CallD.pure (enter56) (v6) ?_ ?_); (focus first | ((repeat (first | exact trivial | refine ⟨(by first | exact Or.inl rfl | exact Or.inr rfl), ?_⟩)); done) | (simp only [coL, AV.dat, true_or, or_true, AV.d.injEq, go_sem]; done)); simp only [go_sem, beq_self_eq_true, nat_ne8]) | refine And.intro (by first | ((repeat' first | omega | exact trivial | rfl | assumption | (intro a e; subst e; rfl) | exact map_sz fun a => (by simp only [go_sem]) | refine And.intro ?_ ?_); done) | fail) ?_ | fail)
    (first | refine ret_pure ?_ ?_ ?_ | refine ret_ro ?_ ?_ ?_); focus exact (by simp only [Try.results10, resOkL, resOk, Try.ntmps10, List.toList_toArray]; first | decide | (simp only [go_sem]; done) | (simp only [go_sem]; and_intros <;> first | omega | rfl | decide))
    rotate_left; focus exact (by repeat (first | exact Fr.rfl' _ _ | assumption | refine Fr.updk ?_ (by omega) _))
    simp only [resA, resV, Try.results10, go_sem]
    all_goals try (first | exact Co.t2 (.dat rfl) (.dat rfl) | exact Co.t3 (.dat rfl) (.dat rfl) (.dat rfl))
    exact .dat rfl
  · have a1 : varsOf g t = [] := by unfold varsOf; rw [if_pos h1]
    rw [if_pos h1] at v1
    rw [a1] at v2
    have hq : (allOk g [t] == 0) = false := by simpa using h1
    have v6 := sameInts_tri [] [] (by simp)
    rw [decide_eq_true rfl, List.map_nil] at v6
    rw [List.map_nil] at v2
    generalize allOk g [t] = e at *
    refine tri_enter Try.func10 rfl Try.ntmps10 (by simp only [List.length_cons, List.length_nil]; omega) fun w0 h0 k hrd hwr => ?_
    repeat' (first | refine awp_seq_k fun K hK => ?_ | ((first | refine awp_region_k (by kernel_rfl) fun R hR => ?_ | refine awp_draw mixed (by kernel_rfl) (by kernel_rfl) fun R hR => ?_); simp only [go_sem, beq_self_eq_true, nat_ne8, hq]) | ((first | (refine hR _ ?_; clear hR R) | refine awp_skip ?_ | refine awp_exit ?_ | refine awp_ret ?_); try simp only [thenA, inBlockA, reduceIte, reduceCtorEq, Nat.reduceEqDiff, if_false, if_true]) | ((first | refine hK _ ?_ | (clear hK K; first | refine hK _ ?_ | (clear hK K; first | refine hK _ ?_ | (clear hK K; first | refine hK _ ?_ | (clear hK K; refine hK _ ?_))))); clear hK K) | refine awp_true rfl rfl ?_ | refine awp_false rfl rfl ?_ | refine awp_block ?_ | ((first | refine CallK.pure (enter52) (termBegun_tri) ?_ ?_ | refine CallD.pure (enter52) (termBegun_tri) ?_ ?_ | refine CallK.pure (enter48) (v1) ?_ ?_ | refine CallD.pure (enter48) (v1) ?_ ?_ | refine CallK.pure (enter49) (v2) ?_ ?_ | refine CallD.pure (enter49) (v2) ?_ ?_ | refine CallK.pure (enter15) (c1) ?_ ?_ | refine CallD.pure (enter15) (c1) ?_ ?_ | refine CallK.pure (enter53) (c2) ?_ ?_ | refine CallD.pure (enter53) (c2) ?_ ?_ | refine CallK.pure (enter54) (c3) ?_ ?_ | refine CallD.pure (enter54) (c3) ?_ ?_ | refine CallK.pure (enter55) (c4) ?_ ?_ | refine CallD.pure (enter55) (c4) ?_ ?_ | refine CallK.pure (enter56) (v6) ?_ ?_ | refine CallD.pure (enter56) (v6) ?_ ?_); (focus first | ((repeat (first | exact trivial | refine ⟨(by first | exact Or.inl rfl | exact Or.inr rfl), ?_⟩)); done) | (simp only [coL, AV.dat, true_or, or_true, AV.d.injEq, go_sem]; done)); simp only [go_sem, beq_self_eq_true, nat_ne8, hq]) | refine And.intro (by first | ((repeat' first | omega | exact trivial | rfl | assumption | (intro a e; subst e; rfl) | exact map_sz fun a => (by simp only [go_sem]) | refine And.intro ?_ ?_); done) | fail) ?_ | fail)
    (first | refine ret_pure ?_ ?_ ?_ | refine ret_ro ?_ ?_ ?_); focus exact (by simp only [Try.results10, resOkL, resOk, Try.ntmps10, List.toList_toArray]; first | decide | (simp only [go_sem]; done) | (simp only [go_sem]; and_intros <;> first | omega | rfl | decide))
    rotate_left; focus exact (by repeat (first | exact Fr.rfl' _ _ | assumption | refine Fr.updk ?_ (by omega) _))
    simp only [resA, resV, Try.results10, go_sem]
    all_goals try (first | exact Co.t2 (.dat rfl) (.dat rfl) | exact Co.t3 (.dat rfl) (.dat rfl) (.dat rfl))
    exact .dat rfl
theorem termTells_law (g : List Int) (t : Tm) (_ : True) (_ : True) (hb : (g.length + 1) + t.size ≤ 1048576) : Tri Try.prog 10 [.d (sgDV g), .d (tmDV t)] (pure' (bA true)) := termTells_tri g t (by omega)
end Go.Proofs.Ytmeekpinkfpnhaa
