/- The law ModelTells: its walk. The law ModelTells: its walk, whole. -/
import Derived.Test.YtmeekpinkfpnhaaB12
set_option linter.unusedSimpArgs false
set_option linter.unusedSectionVars false
set_option linter.unusedVariables false
set_option linter.unnecessarySimpa false
set_option linter.all false
namespace Go.Proofs.Ytmeekpinkfpnhaa
open Go.RowKit
set_option linter.unusedSimpArgs false
set_option linter.unusedSectionVars false

/-- Behind the loop over what the variables are. -/
def eV (sz : Int) (l : List Int) (e : Int) : Int := if e ≠ 0 then e else if (l.any (outOf sz)) = true then 5 else 0
/-- Behind the loop over the variables. -/
def eF (vars : List Int) (l : List Int) (e : Int) : Int := if e ≠ 0 then e else if (l.any fun v => decide (v > vars.length)) = true then 1 else 0
section
variable {w0 : World} {g : List Int} {sz : Int} {tb : List (List Int)} {t : Tm} {vars : List Int} {cl : List Lt} {k : Nat} {h0 : Heap} {fn : Func} (hfn : fn = Try.f4)
variable (hl : tb.length ≤ 4000000) (hr : ∀ r ∈ tb, r.length ≤ 4000000) (hcl : cl.length ≤ 4000000) (ht : t.size ≤ 4000000) (hvl : vars.length ≤ 4000000)
include hfn hl hr hcl ht hvl
set_option maxHeartbeats 1000000 in
set_option maxRecDepth 20000 in
theorem mt_15 (σ : St) (b : MB g sz tb t vars cl k h0 σ) (e : Int) (he : e3 g sz tb t vars (eV sz vars e)) (hok : eV sz vars e = 0 → mdOk g sz tb = 0 ∧ Fine g sz (byL vars) (parts t) ∧ ∀ x ∈ parts t, x.v > 0 → x.v ≤ vars.length) (s16 : σ.t 16 = iA e) (s17 : σ.t 17 = iA (mdOk g sz tb)) (s18 : σ.t 18 = iA 0) (s19 : σ.t 19 = bA false)
    {N : Nat} {c : Code} (hN : (Try.f4).ntmps = N) (hc : bodyAt (Try.f4) [true,true,true,true,true,true,true,true] = some c) : awp Try.prog w0 N c (retQ Try.prog fn (pure' (bA true)) h0 k) σ := by
  have fin := fun σ b => mt_20 (w0 := w0) hfn hl hr hcl ht hvl (k := k) (h0 := h0) (g := g) (sz := sz) (tb := tb) (t := t) (vars := vars) (cl := cl) σ b
  obtain rfl := (Try.ntmps4).symm.trans hN; obtain rfl := Option.some.inj (show some _ = some c from hc); clear hN hc
  have hF := b.fr
  have hkk := b.kk
  have hne := ltne hkk
  repeat' (first
    | refine awp_seq_k fun K hK => ?_
    | (refine awp_region_k (by kernel_rfl) fun R hR => ?_; simp only [go_sem])
    | (refine awp_draw mixed (by kernel_rfl) (by kernel_rfl) fun R hR => ?_; simp only [go_sem])
    | (refine hR _ ?_; clear hR R; try simp only [thenA, inBlockA, reduceIte, reduceCtorEq, Nat.reduceEqDiff, if_false, if_true])
    | (refine hK _ ?_; clear hK K)
    | (clear hK K; refine hK _ ?_; clear hK K)
    | (clear hK K; clear hK K; refine hK _ ?_; clear hK K)
    | (clear hK K; clear hK K; clear hK K; refine hK _ ?_; clear hK K)
    | (clear hK K; clear hK K; clear hK K; clear hK K; refine hK _ ?_; clear hK K)
    | refine awp_true rfl rfl ?_
    | refine awp_false rfl rfl ?_
    | (refine awp_cond rfl rfl (fun hc => ?_) (fun hc => ?_) <;> (try simp only [go_sem] at hc) <;> (try (exfalso; omega)))
    | refine awp_block ?_
    | (refine awp_skip ?_; try simp only [thenA, inBlockA, reduceIte, reduceCtorEq, Nat.reduceEqDiff, if_false, if_true])
    | (refine awp_exit ?_; try simp only [thenA, inBlockA, reduceIte, reduceCtorEq, Nat.reduceEqDiff, if_false, if_true])
    | (refine awp_ret ?_; try simp only [thenA, inBlockA, reduceIte, reduceCtorEq, Nat.reduceEqDiff, if_false, if_true])
    | (refine runL_split ?_ (fun hc => ?_) (fun hc => ?_); (simp only [go_sem]; exact rfl); all_goals (try simp only [go_sem, hc]); all_goals (try simp only [go_sem] at hc); all_goals (try (exfalso; omega)))
    | (refine runD_split ?_ (fun hc => ?_) (fun hc => ?_); (simp only [go_sem]; exact rfl); all_goals (try simp only [go_sem, hc]); all_goals (try simp only [go_sem] at hc); all_goals (try (exfalso; omega)))
    | refine And.intro (by first | omega | exact trivial | rfl | assumption | (apply map_sz; intro a; simp only [go_sem]; done) | ((and_intros <;> first | omega | exact trivial | rfl | assumption | (apply map_sz; intro a; simp only [go_sem]; done) | fail); done) | fail) ?_
    | fail)
  refine awp_loop (fun τ => ∃ (i : Nat) (e' : Int), MB g sz tb t vars cl k h0 τ ∧ τ.t 22 = iA i ∧ τ.t 16 = iA e' ∧ τ.t 17 = iA (mdOk g sz tb) ∧ τ.t 18 = iA 0 ∧ τ.t 19 = bA false ∧ i ≤ vars.length ∧ eV sz (vars.drop i) e' = eV sz vars e) (fun τ => vars.length - (intOf' (τ.t 22)).toNat) ?_ ?_
  · refine ⟨0, e, (by constructor <;> first | (simp only [go_sem, b.s3, b.s4, b.s5, b.s6, b.s7, b.s11, b.s12, b.s13, b.s14, b.s15, b.a0, b.a1, b.a2, hne]; done) | (simp only [go_sem]; omega) | (dsimp only; omega) | exact (by repeat (first | exact Fr.rfl' _ _ | assumption | refine Fr.updk ?_ (by omega) _))), ?_⟩
    simp only [go_sem, s16, s17, s18, s19, List.drop_zero]
    and_intros; all_goals try (first | rfl | omega | assumption | ((repeat (first | exact Fr.rfl' _ _ | assumption | refine Fr.updk ?_ (by omega) _)); done))
  · clear b hF hkk hne s16 s17 s18 s19
    rintro τ ⟨i, e', b, s22, s16, s17, s18, s19, hi, hv⟩
    have hF := b.fr
    have hkk := b.kk
    have hne := ltne hkk
    rcases Nat.lt_or_ge i vars.length with hlt | hge
    · have hz : (i : Int) < (vars.length : Int) := by omega
      cases hm : e' == 0 with
      | true =>
        have hm2 : e' = 0 := by simpa using hm
        subst hm2
        have e1 : (vars.map iD).getD i default = iD vars[i] := nth_map iD hlt _
        unfold eV at hv
        rw [if_neg (by simp), List.drop_eq_getElem_cons hlt, List.any_cons] at hv
        generalize vars[i] = x at *
        cases h1 : decide (x < 0) with
        | true =>
          have ho : outOf sz x = true := by unfold outOf; rw [h1]; rfl
          rw [ho, Bool.true_or, if_pos rfl] at hv
          repeat' (first
            | refine awp_seq_k fun K hK => ?_
            | (refine awp_region_k (by kernel_rfl) fun R hR => ?_; simp only [go_sem, b.s3, b.s6, b.a1, s22, s16, hz, e1, hne, h1, beq_self_eq_true, Int.toNat_natCast])
            | (refine awp_draw mixed (by kernel_rfl) (by kernel_rfl) fun R hR => ?_; simp only [go_sem, b.s3, b.s6, b.a1, s22, s16, hz, e1, hne, h1, beq_self_eq_true, Int.toNat_natCast])
            | (refine hR _ ?_; clear hR R; try simp only [thenA, inBlockA, reduceIte, reduceCtorEq, Nat.reduceEqDiff, if_false, if_true])
            | (refine hK _ ?_; clear hK K)
            | (clear hK K; refine hK _ ?_; clear hK K)
            | (clear hK K; clear hK K; refine hK _ ?_; clear hK K)
            | (clear hK K; clear hK K; clear hK K; refine hK _ ?_; clear hK K)
            | (clear hK K; clear hK K; clear hK K; clear hK K; refine hK _ ?_; clear hK K)
            | refine awp_true rfl rfl ?_
            | refine awp_false rfl rfl ?_
            | (refine awp_cond rfl rfl (fun hc => ?_) (fun hc => ?_) <;> (try simp only [go_sem, b.s3, b.s6, b.a1, s22, s16, hz, e1, hne, h1, beq_self_eq_true, Int.toNat_natCast] at hc) <;> (try (exfalso; omega)))
            | refine awp_block ?_
            | (refine awp_skip ?_; try simp only [thenA, inBlockA, reduceIte, reduceCtorEq, Nat.reduceEqDiff, if_false, if_true])
            | (refine awp_exit ?_; try simp only [thenA, inBlockA, reduceIte, reduceCtorEq, Nat.reduceEqDiff, if_false, if_true])
            | (refine awp_ret ?_; try simp only [thenA, inBlockA, reduceIte, reduceCtorEq, Nat.reduceEqDiff, if_false, if_true])
            | (refine runL_split ?_ (fun hc => ?_) (fun hc => ?_); (simp only [go_sem, b.s3, b.s6, b.a1, s22, s16, hz, e1, hne, h1, beq_self_eq_true, Int.toNat_natCast]; exact rfl); all_goals (try simp only [go_sem, hc, b.s3, b.s6, b.a1, s22, s16, hz, e1, hne, h1, beq_self_eq_true, Int.toNat_natCast]); all_goals (try simp only [go_sem, b.s3, b.s6, b.a1, s22, s16, hz, e1, hne, h1, beq_self_eq_true, Int.toNat_natCast] at hc); all_goals (try (exfalso; omega)))
            | (refine runD_split ?_ (fun hc => ?_) (fun hc => ?_); (simp only [go_sem, b.s3, b.s6, b.a1, s22, s16, hz, e1, hne, h1, beq_self_eq_true, Int.toNat_natCast]; exact rfl); all_goals (try simp only [go_sem, hc, b.s3, b.s6, b.a1, s22, s16, hz, e1, hne, h1, beq_self_eq_true, Int.toNat_natCast]); all_goals (try simp only [go_sem, b.s3, b.s6, b.a1, s22, s16, hz, e1, hne, h1, beq_self_eq_true, Int.toNat_natCast] at hc); all_goals (try (exfalso; omega)))
            | refine And.intro (by first | omega | exact trivial | rfl | assumption | (apply map_sz; intro a; simp only [go_sem]; done) | ((and_intros <;> first | omega | exact trivial | rfl | assumption | (apply map_sz; intro a; simp only [go_sem]; done) | fail); done) | fail) ?_
            | fail)
          refine ⟨⟨i + 1, 5, (by constructor <;> first | (simp only [go_sem, b.s3, b.s4, b.s5, b.s6, b.s7, b.s11, b.s12, b.s13, b.s14, b.s15, b.a0, b.a1, b.a2, hne]; done) | (simp only [go_sem]; omega) | (dsimp only; omega) | exact (by repeat (first | exact Fr.rfl' _ _ | assumption | refine Fr.updk ?_ (by omega) _))), ?_⟩, ?_⟩
          · simp only [go_sem, s22, s17, s18, s19]
            and_intros; all_goals try (first | rfl | omega | assumption | ((repeat (first | exact Fr.rfl' _ _ | assumption | refine Fr.updk ?_ (by omega) _)); done))
            all_goals exact hv
          · simp only [go_sem, s22]; omega
        | false =>
          cases h2 : decide (x ≥ sz) with
          | true =>
            have ho : outOf sz x = true := by unfold outOf; rw [h2, Bool.or_true]
            rw [ho, Bool.true_or, if_pos rfl] at hv
            repeat' (first
              | refine awp_seq_k fun K hK => ?_
              | (refine awp_region_k (by kernel_rfl) fun R hR => ?_; simp only [go_sem, b.s3, b.s6, b.a1, s22, s16, hz, e1, hne, h1, h2, beq_self_eq_true, Int.toNat_natCast])
              | (refine awp_draw mixed (by kernel_rfl) (by kernel_rfl) fun R hR => ?_; simp only [go_sem, b.s3, b.s6, b.a1, s22, s16, hz, e1, hne, h1, h2, beq_self_eq_true, Int.toNat_natCast])
              | (refine hR _ ?_; clear hR R; try simp only [thenA, inBlockA, reduceIte, reduceCtorEq, Nat.reduceEqDiff, if_false, if_true])
              | (refine hK _ ?_; clear hK K)
              | (clear hK K; refine hK _ ?_; clear hK K)
              | (clear hK K; clear hK K; refine hK _ ?_; clear hK K)
              | (clear hK K; clear hK K; clear hK K; refine hK _ ?_; clear hK K)
              | (clear hK K; clear hK K; clear hK K; clear hK K; refine hK _ ?_; clear hK K)
              | refine awp_true rfl rfl ?_
              | refine awp_false rfl rfl ?_
              | (refine awp_cond rfl rfl (fun hc => ?_) (fun hc => ?_) <;> (try simp only [go_sem, b.s3, b.s6, b.a1, s22, s16, hz, e1, hne, h1, h2, beq_self_eq_true, Int.toNat_natCast] at hc) <;> (try (exfalso; omega)))
              | refine awp_block ?_
              | (refine awp_skip ?_; try simp only [thenA, inBlockA, reduceIte, reduceCtorEq, Nat.reduceEqDiff, if_false, if_true])
              | (refine awp_exit ?_; try simp only [thenA, inBlockA, reduceIte, reduceCtorEq, Nat.reduceEqDiff, if_false, if_true])
              | (refine awp_ret ?_; try simp only [thenA, inBlockA, reduceIte, reduceCtorEq, Nat.reduceEqDiff, if_false, if_true])
              | (refine runL_split ?_ (fun hc => ?_) (fun hc => ?_); (simp only [go_sem, b.s3, b.s6, b.a1, s22, s16, hz, e1, hne, h1, h2, beq_self_eq_true, Int.toNat_natCast]; exact rfl); all_goals (try simp only [go_sem, hc, b.s3, b.s6, b.a1, s22, s16, hz, e1, hne, h1, h2, beq_self_eq_true, Int.toNat_natCast]); all_goals (try simp only [go_sem, b.s3, b.s6, b.a1, s22, s16, hz, e1, hne, h1, h2, beq_self_eq_true, Int.toNat_natCast] at hc); all_goals (try (exfalso; omega)))
              | (refine runD_split ?_ (fun hc => ?_) (fun hc => ?_); (simp only [go_sem, b.s3, b.s6, b.a1, s22, s16, hz, e1, hne, h1, h2, beq_self_eq_true, Int.toNat_natCast]; exact rfl); all_goals (try simp only [go_sem, hc, b.s3, b.s6, b.a1, s22, s16, hz, e1, hne, h1, h2, beq_self_eq_true, Int.toNat_natCast]); all_goals (try simp only [go_sem, b.s3, b.s6, b.a1, s22, s16, hz, e1, hne, h1, h2, beq_self_eq_true, Int.toNat_natCast] at hc); all_goals (try (exfalso; omega)))
              | refine And.intro (by first | omega | exact trivial | rfl | assumption | (apply map_sz; intro a; simp only [go_sem]; done) | ((and_intros <;> first | omega | exact trivial | rfl | assumption | (apply map_sz; intro a; simp only [go_sem]; done) | fail); done) | fail) ?_
              | fail)
            refine ⟨⟨i + 1, 5, (by constructor <;> first | (simp only [go_sem, b.s3, b.s4, b.s5, b.s6, b.s7, b.s11, b.s12, b.s13, b.s14, b.s15, b.a0, b.a1, b.a2, hne]; done) | (simp only [go_sem]; omega) | (dsimp only; omega) | exact (by repeat (first | exact Fr.rfl' _ _ | assumption | refine Fr.updk ?_ (by omega) _))), ?_⟩, ?_⟩
            · simp only [go_sem, s22, s17, s18, s19]
              and_intros; all_goals try (first | rfl | omega | assumption | ((repeat (first | exact Fr.rfl' _ _ | assumption | refine Fr.updk ?_ (by omega) _)); done))
              all_goals exact hv
            · simp only [go_sem, s22]; omega
          | false =>
            have ho : outOf sz x = false := by unfold outOf; rw [h1, h2]; rfl
            rw [ho, Bool.false_or] at hv
            repeat' (first
              | refine awp_seq_k fun K hK => ?_
              | (refine awp_region_k (by kernel_rfl) fun R hR => ?_; simp only [go_sem, b.s3, b.s6, b.a1, s22, s16, hz, e1, hne, h1, h2, beq_self_eq_true, Int.toNat_natCast])
              | (refine awp_draw mixed (by kernel_rfl) (by kernel_rfl) fun R hR => ?_; simp only [go_sem, b.s3, b.s6, b.a1, s22, s16, hz, e1, hne, h1, h2, beq_self_eq_true, Int.toNat_natCast])
              | (refine hR _ ?_; clear hR R; try simp only [thenA, inBlockA, reduceIte, reduceCtorEq, Nat.reduceEqDiff, if_false, if_true])
              | (refine hK _ ?_; clear hK K)
              | (clear hK K; refine hK _ ?_; clear hK K)
              | (clear hK K; clear hK K; refine hK _ ?_; clear hK K)
              | (clear hK K; clear hK K; clear hK K; refine hK _ ?_; clear hK K)
              | (clear hK K; clear hK K; clear hK K; clear hK K; refine hK _ ?_; clear hK K)
              | refine awp_true rfl rfl ?_
              | refine awp_false rfl rfl ?_
              | (refine awp_cond rfl rfl (fun hc => ?_) (fun hc => ?_) <;> (try simp only [go_sem, b.s3, b.s6, b.a1, s22, s16, hz, e1, hne, h1, h2, beq_self_eq_true, Int.toNat_natCast] at hc) <;> (try (exfalso; omega)))
              | refine awp_block ?_
              | (refine awp_skip ?_; try simp only [thenA, inBlockA, reduceIte, reduceCtorEq, Nat.reduceEqDiff, if_false, if_true])
              | (refine awp_exit ?_; try simp only [thenA, inBlockA, reduceIte, reduceCtorEq, Nat.reduceEqDiff, if_false, if_true])
              | (refine awp_ret ?_; try simp only [thenA, inBlockA, reduceIte, reduceCtorEq, Nat.reduceEqDiff, if_false, if_true])
              | (refine runL_split ?_ (fun hc => ?_) (fun hc => ?_); (simp only [go_sem, b.s3, b.s6, b.a1, s22, s16, hz, e1, hne, h1, h2, beq_self_eq_true, Int.toNat_natCast]; exact rfl); all_goals (try simp only [go_sem, hc, b.s3, b.s6, b.a1, s22, s16, hz, e1, hne, h1, h2, beq_self_eq_true, Int.toNat_natCast]); all_goals (try simp only [go_sem, b.s3, b.s6, b.a1, s22, s16, hz, e1, hne, h1, h2, beq_self_eq_true, Int.toNat_natCast] at hc); all_goals (try (exfalso; omega)))
              | (refine runD_split ?_ (fun hc => ?_) (fun hc => ?_); (simp only [go_sem, b.s3, b.s6, b.a1, s22, s16, hz, e1, hne, h1, h2, beq_self_eq_true, Int.toNat_natCast]; exact rfl); all_goals (try simp only [go_sem, hc, b.s3, b.s6, b.a1, s22, s16, hz, e1, hne, h1, h2, beq_self_eq_true, Int.toNat_natCast]); all_goals (try simp only [go_sem, b.s3, b.s6, b.a1, s22, s16, hz, e1, hne, h1, h2, beq_self_eq_true, Int.toNat_natCast] at hc); all_goals (try (exfalso; omega)))
              | refine And.intro (by first | omega | exact trivial | rfl | assumption | (apply map_sz; intro a; simp only [go_sem]; done) | ((and_intros <;> first | omega | exact trivial | rfl | assumption | (apply map_sz; intro a; simp only [go_sem]; done) | fail); done) | fail) ?_
              | fail)
            refine ⟨⟨i + 1, 0, (by constructor <;> first | (simp only [go_sem, b.s3, b.s4, b.s5, b.s6, b.s7, b.s11, b.s12, b.s13, b.s14, b.s15, b.a0, b.a1, b.a2, hne]; done) | (simp only [go_sem]; omega) | (dsimp only; omega) | exact (by repeat (first | exact Fr.rfl' _ _ | assumption | refine Fr.updk ?_ (by omega) _))), ?_⟩, ?_⟩
            · simp only [go_sem, s22, s16, s17, s18, s19]
              and_intros; all_goals try (first | rfl | omega | assumption | ((repeat (first | exact Fr.rfl' _ _ | assumption | refine Fr.updk ?_ (by omega) _)); done))
              all_goals (rw [← hv]; unfold eV; rw [if_neg (by simp)])
            · simp only [go_sem, s22]; omega
      | false =>
        have hm2 : e' ≠ 0 := by simpa using hm
        have hv' : e' = eV sz vars e := by rw [← hv]; unfold eV; rw [if_pos hm2]
        rw [← hv'] at he hok
        repeat' (first
          | refine fin _ ?_ e' he hok ?_ ?_ ?_ ?_ rfl rfl
          | refine awp_seq_k fun K hK => ?_
          | (refine awp_region_k (by kernel_rfl) fun R hR => ?_; simp only [go_sem, b.s3, s22, s16, hz, hne, hm])
          | (refine awp_draw mixed (by kernel_rfl) (by kernel_rfl) fun R hR => ?_; simp only [go_sem, b.s3, s22, s16, hz, hne, hm])
          | (refine hR _ ?_; clear hR R; try simp only [thenA, inBlockA, reduceIte, reduceCtorEq, Nat.reduceEqDiff, if_false, if_true])
          | (refine hK _ ?_; clear hK K)
          | (clear hK K; refine hK _ ?_; clear hK K)
          | (clear hK K; clear hK K; refine hK _ ?_; clear hK K)
          | (clear hK K; clear hK K; clear hK K; refine hK _ ?_; clear hK K)
          | (clear hK K; clear hK K; clear hK K; clear hK K; refine hK _ ?_; clear hK K)
          | refine awp_true rfl rfl ?_
          | refine awp_false rfl rfl ?_
          | (refine awp_cond rfl rfl (fun hc => ?_) (fun hc => ?_) <;> (try simp only [go_sem, b.s3, s22, s16, hz, hne, hm] at hc) <;> (try (exfalso; omega)))
          | refine awp_block ?_
          | (refine awp_skip ?_; try simp only [thenA, inBlockA, reduceIte, reduceCtorEq, Nat.reduceEqDiff, if_false, if_true])
          | (refine awp_exit ?_; try simp only [thenA, inBlockA, reduceIte, reduceCtorEq, Nat.reduceEqDiff, if_false, if_true])
          | (refine awp_ret ?_; try simp only [thenA, inBlockA, reduceIte, reduceCtorEq, Nat.reduceEqDiff, if_false, if_true])
          | (refine runL_split ?_ (fun hc => ?_) (fun hc => ?_); (simp only [go_sem, b.s3, s22, s16, hz, hne, hm]; exact rfl); all_goals (try simp only [go_sem, hc, b.s3, s22, s16, hz, hne, hm]); all_goals (try simp only [go_sem, b.s3, s22, s16, hz, hne, hm] at hc); all_goals (try (exfalso; omega)))
          | (refine runD_split ?_ (fun hc => ?_) (fun hc => ?_); (simp only [go_sem, b.s3, s22, s16, hz, hne, hm]; exact rfl); all_goals (try simp only [go_sem, hc, b.s3, s22, s16, hz, hne, hm]); all_goals (try simp only [go_sem, b.s3, s22, s16, hz, hne, hm] at hc); all_goals (try (exfalso; omega)))
          | refine And.intro (by first | omega | exact trivial | rfl | assumption | (apply map_sz; intro a; simp only [go_sem]; done) | ((and_intros <;> first | omega | exact trivial | rfl | assumption | (apply map_sz; intro a; simp only [go_sem]; done) | fail); done) | fail) ?_
          | fail)
        · exact (by constructor <;> first | (simp only [go_sem, b.s3, b.s4, b.s5, b.s6, b.s7, b.s11, b.s12, b.s13, b.s14, b.s15, b.a0, b.a1, b.a2, hne]; done) | (simp only [go_sem]; omega) | (dsimp only; omega) | exact (by repeat (first | exact Fr.rfl' _ _ | assumption | refine Fr.updk ?_ (by omega) _)))
        all_goals simp only [go_sem, s16, s17, s18, s19]
    · have hz : ¬ ((i : Int) < (vars.length : Int)) := by omega
      rw [List.drop_eq_nil_of_le hge] at hv
      have hv' : e' = eV sz vars e := by
        rw [← hv]; unfold eV
        by_cases h : e' = 0
        · rw [if_neg (by simp [h]), h]; rfl
        · rw [if_pos h]
      rw [← hv'] at he hok
      repeat' (first
        | refine fin _ ?_ e' he hok ?_ ?_ ?_ ?_ rfl rfl
        | refine awp_seq_k fun K hK => ?_
        | (refine awp_region_k (by kernel_rfl) fun R hR => ?_; simp only [go_sem, b.s3, s22, s16, hz, hne])
        | (refine awp_draw mixed (by kernel_rfl) (by kernel_rfl) fun R hR => ?_; simp only [go_sem, b.s3, s22, s16, hz, hne])
        | (refine hR _ ?_; clear hR R; try simp only [thenA, inBlockA, reduceIte, reduceCtorEq, Nat.reduceEqDiff, if_false, if_true])
        | (refine hK _ ?_; clear hK K)
        | (clear hK K; refine hK _ ?_; clear hK K)
        | (clear hK K; clear hK K; refine hK _ ?_; clear hK K)
        | (clear hK K; clear hK K; clear hK K; refine hK _ ?_; clear hK K)
        | (clear hK K; clear hK K; clear hK K; clear hK K; refine hK _ ?_; clear hK K)
        | refine awp_true rfl rfl ?_
        | refine awp_false rfl rfl ?_
        | (refine awp_cond rfl rfl (fun hc => ?_) (fun hc => ?_) <;> (try simp only [go_sem, b.s3, s22, s16, hz, hne] at hc) <;> (try (exfalso; omega)))
        | refine awp_block ?_
        | (refine awp_skip ?_; try simp only [thenA, inBlockA, reduceIte, reduceCtorEq, Nat.reduceEqDiff, if_false, if_true])
        | (refine awp_exit ?_; try simp only [thenA, inBlockA, reduceIte, reduceCtorEq, Nat.reduceEqDiff, if_false, if_true])
        | (refine awp_ret ?_; try simp only [thenA, inBlockA, reduceIte, reduceCtorEq, Nat.reduceEqDiff, if_false, if_true])
        | (refine runL_split ?_ (fun hc => ?_) (fun hc => ?_); (simp only [go_sem, b.s3, s22, s16, hz, hne]; exact rfl); all_goals (try simp only [go_sem, hc, b.s3, s22, s16, hz, hne]); all_goals (try simp only [go_sem, b.s3, s22, s16, hz, hne] at hc); all_goals (try (exfalso; omega)))
        | (refine runD_split ?_ (fun hc => ?_) (fun hc => ?_); (simp only [go_sem, b.s3, s22, s16, hz, hne]; exact rfl); all_goals (try simp only [go_sem, hc, b.s3, s22, s16, hz, hne]); all_goals (try simp only [go_sem, b.s3, s22, s16, hz, hne] at hc); all_goals (try (exfalso; omega)))
        | refine And.intro (by first | omega | exact trivial | rfl | assumption | (apply map_sz; intro a; simp only [go_sem]; done) | ((and_intros <;> first | omega | exact trivial | rfl | assumption | (apply map_sz; intro a; simp only [go_sem]; done) | fail); done) | fail) ?_
        | fail)
      · exact (by constructor <;> first | (simp only [go_sem, b.s3, b.s4, b.s5, b.s6, b.s7, b.s11, b.s12, b.s13, b.s14, b.s15, b.a0, b.a1, b.a2, hne]; done) | (simp only [go_sem]; omega) | (dsimp only; omega) | exact (by repeat (first | exact Fr.rfl' _ _ | assumption | refine Fr.updk ?_ (by omega) _)))
      all_goals simp only [go_sem, s16, s17, s18, s19]
set_option maxHeartbeats 1000000 in
set_option maxRecDepth 20000 in
theorem mt_8 (σ : St) (b : MB g sz tb t vars cl k h0 σ) (e : Int) (he : e3 g sz tb t vars (eV sz vars (eF vars (firstVars [t]) e))) (hok : eV sz vars (eF vars (firstVars [t]) e) = 0 → mdOk g sz tb = 0 ∧ Fine g sz (byL vars) (parts t) ∧ ∀ x ∈ parts t, x.v > 0 → x.v ≤ vars.length) (s16 : σ.t 16 = iA e) (s17 : σ.t 17 = iA (mdOk g sz tb)) (s18 : σ.t 18 = iA 0) (s19 : σ.t 19 = bA false)
    {N : Nat} {c : Code} (hN : (Try.f4).ntmps = N) (hc : bodyAt (Try.f4) [true,true,true,true,true,true,true] = some c) : awp Try.prog w0 N c (retQ Try.prog fn (pure' (bA true)) h0 k) σ := by
  have fin := fun σ b => mt_15 (w0 := w0) hfn hl hr hcl ht hvl (k := k) (h0 := h0) (g := g) (sz := sz) (tb := tb) (t := t) (vars := vars) (cl := cl) σ b
  have hfl : (firstVars [t]).length ≤ 4000000 := by have := firstVars_len [t]; simp [Tm.size.sizes] at this; omega
  have hfv := firstVars_tri [t] (by simp [Tm.size.sizes]; omega)
  obtain rfl := (Try.ntmps4).symm.trans hN; obtain rfl := Option.some.inj (show some _ = some c from hc); clear hN hc
  have hF := b.fr
  have hkk := b.kk
  have hne := ltne hkk
  cases hm : e == 0 with
  | false =>
    have hm2 : e ≠ 0 := by simpa using hm
    have hv' : eF vars (firstVars [t]) e = e := by unfold eF; rw [if_pos hm2]
    rw [hv'] at he hok
    repeat' (first
      | refine fin _ ?_ e he hok ?_ ?_ ?_ ?_ rfl rfl
      | refine awp_seq_k fun K hK => ?_
      | (refine awp_region_k (by kernel_rfl) fun R hR => ?_; simp only [go_sem, s16, hm, hne])
      | (refine awp_draw mixed (by kernel_rfl) (by kernel_rfl) fun R hR => ?_; simp only [go_sem, s16, hm, hne])
      | (refine hR _ ?_; clear hR R; try simp only [thenA, inBlockA, reduceIte, reduceCtorEq, Nat.reduceEqDiff, if_false, if_true])
      | (refine hK _ ?_; clear hK K)
      | (clear hK K; refine hK _ ?_; clear hK K)
      | (clear hK K; clear hK K; refine hK _ ?_; clear hK K)
      | (clear hK K; clear hK K; clear hK K; refine hK _ ?_; clear hK K)
      | (clear hK K; clear hK K; clear hK K; clear hK K; refine hK _ ?_; clear hK K)
      | refine awp_true rfl rfl ?_
      | refine awp_false rfl rfl ?_
      | (refine awp_cond rfl rfl (fun hc => ?_) (fun hc => ?_) <;> (try simp only [go_sem, s16, hm, hne] at hc) <;> (try (exfalso; omega)))
      | refine awp_block ?_
      | (refine awp_skip ?_; try simp only [thenA, inBlockA, reduceIte, reduceCtorEq, Nat.reduceEqDiff, if_false, if_true])
      | (refine awp_exit ?_; try simp only [thenA, inBlockA, reduceIte, reduceCtorEq, Nat.reduceEqDiff, if_false, if_true])
      | (refine awp_ret ?_; try simp only [thenA, inBlockA, reduceIte, reduceCtorEq, Nat.reduceEqDiff, if_false, if_true])
      | (refine runL_split ?_ (fun hc => ?_) (fun hc => ?_); (simp only [go_sem, s16, hm, hne]; exact rfl); all_goals (try simp only [go_sem, hc, s16, hm, hne]); all_goals (try simp only [go_sem, s16, hm, hne] at hc); all_goals (try (exfalso; omega)))
      | (refine runD_split ?_ (fun hc => ?_) (fun hc => ?_); (simp only [go_sem, s16, hm, hne]; exact rfl); all_goals (try simp only [go_sem, hc, s16, hm, hne]); all_goals (try simp only [go_sem, s16, hm, hne] at hc); all_goals (try (exfalso; omega)))
      | refine And.intro (by first | omega | exact trivial | rfl | assumption | (apply map_sz; intro a; simp only [go_sem]; done) | ((and_intros <;> first | omega | exact trivial | rfl | assumption | (apply map_sz; intro a; simp only [go_sem]; done) | fail); done) | fail) ?_
      | fail)
    · exact (by constructor <;> first | (simp only [go_sem, b.s3, b.s4, b.s5, b.s6, b.s7, b.s11, b.s12, b.s13, b.s14, b.s15, b.a0, b.a1, b.a2, hne]; done) | (simp only [go_sem]; omega) | (dsimp only; omega) | exact (by repeat (first | exact Fr.rfl' _ _ | assumption | refine Fr.updk ?_ (by omega) _)))
    all_goals simp only [go_sem, s16, s17, s18, s19]
  | true =>
    have hm2 : e = 0 := by simpa using hm
    subst hm2
    generalize firstVars [t] = l at *
    repeat' (first
      | refine awp_seq_k fun K hK => ?_
      | (refine awp_region_k (by kernel_rfl) fun R hR => ?_; simp only [go_sem, s16, b.s7, b.a2, hne, beq_self_eq_true])
      | (refine awp_draw mixed (by kernel_rfl) (by kernel_rfl) fun R hR => ?_; simp only [go_sem, s16, b.s7, b.a2, hne, beq_self_eq_true])
      | (refine hR _ ?_; clear hR R; try simp only [thenA, inBlockA, reduceIte, reduceCtorEq, Nat.reduceEqDiff, if_false, if_true])
      | (refine hK _ ?_; clear hK K)
      | (clear hK K; refine hK _ ?_; clear hK K)
      | (clear hK K; clear hK K; refine hK _ ?_; clear hK K)
      | (clear hK K; clear hK K; clear hK K; refine hK _ ?_; clear hK K)
      | (clear hK K; clear hK K; clear hK K; clear hK K; refine hK _ ?_; clear hK K)
      | refine awp_true rfl rfl ?_
      | refine awp_false rfl rfl ?_
      | (refine awp_cond rfl rfl (fun hc => ?_) (fun hc => ?_) <;> (try simp only [go_sem, s16, b.s7, b.a2, hne, beq_self_eq_true] at hc) <;> (try (exfalso; omega)))
      | refine awp_block ?_
      | (refine awp_skip ?_; try simp only [thenA, inBlockA, reduceIte, reduceCtorEq, Nat.reduceEqDiff, if_false, if_true])
      | (refine awp_exit ?_; try simp only [thenA, inBlockA, reduceIte, reduceCtorEq, Nat.reduceEqDiff, if_false, if_true])
      | (refine awp_ret ?_; try simp only [thenA, inBlockA, reduceIte, reduceCtorEq, Nat.reduceEqDiff, if_false, if_true])
      | (refine runL_split ?_ (fun hc => ?_) (fun hc => ?_); (simp only [go_sem, s16, b.s7, b.a2, hne, beq_self_eq_true]; exact rfl); all_goals (try simp only [go_sem, hc, s16, b.s7, b.a2, hne, beq_self_eq_true]); all_goals (try simp only [go_sem, s16, b.s7, b.a2, hne, beq_self_eq_true] at hc); all_goals (try (exfalso; omega)))
      | (refine runD_split ?_ (fun hc => ?_) (fun hc => ?_); (simp only [go_sem, s16, b.s7, b.a2, hne, beq_self_eq_true]; exact rfl); all_goals (try simp only [go_sem, hc, s16, b.s7, b.a2, hne, beq_self_eq_true]); all_goals (try simp only [go_sem, s16, b.s7, b.a2, hne, beq_self_eq_true] at hc); all_goals (try (exfalso; omega)))
      | (first | (refine CallK.pure (enter22) (hfv) ?_ ?_; (focus first | ((repeat (first | exact trivial | refine ⟨(by first | exact Or.inl rfl | exact Or.inr rfl), ?_⟩)); done) | (simp only [coL, AV.dat, true_or, or_true, AV.d.injEq, go_sem]; done)); simp only [go_sem, s16, b.s7, b.a2, hne, beq_self_eq_true]) | (refine CallD.pure (enter22) (hfv) ?_ ?_; (focus first | ((repeat (first | exact trivial | refine ⟨(by first | exact Or.inl rfl | exact Or.inr rfl), ?_⟩)); done) | (simp only [coL, AV.dat, true_or, or_true, AV.d.injEq, go_sem]; done)); simp only [go_sem, s16, b.s7, b.a2, hne, beq_self_eq_true]))
      | refine And.intro (by first | omega | exact trivial | rfl | assumption | (apply map_sz; intro a; simp only [go_sem]; done) | ((and_intros <;> first | omega | exact trivial | rfl | assumption | (apply map_sz; intro a; simp only [go_sem]; done) | fail); done) | fail) ?_
      | fail)
    refine awp_loop (fun τ => ∃ (i : Nat) (e' : Int), MB g sz tb t vars cl k h0 τ ∧ τ.t 20 = .d (.sl (l.map iD)) ∧ τ.t 21 = iA i ∧ τ.t 16 = iA e' ∧ τ.t 17 = iA (mdOk g sz tb) ∧ τ.t 18 = iA 0 ∧ τ.t 19 = bA false ∧ i ≤ l.length ∧ eF vars (l.drop i) e' = eF vars l 0) (fun τ => l.length - (intOf' (τ.t 21)).toNat) ?_ ?_
    · refine ⟨0, 0, (by constructor <;> first | (simp only [go_sem, b.s3, b.s4, b.s5, b.s6, b.s7, b.s11, b.s12, b.s13, b.s14, b.s15, b.a0, b.a1, b.a2, hne]; done) | (simp only [go_sem]; omega) | (dsimp only; omega) | exact (by repeat (first | exact Fr.rfl' _ _ | assumption | refine Fr.updk ?_ (by omega) _))), ?_⟩
      simp only [go_sem, s16, s17, s18, s19, List.drop_zero]
      and_intros; all_goals try (first | rfl | omega | assumption | ((repeat (first | exact Fr.rfl' _ _ | assumption | refine Fr.updk ?_ (by omega) _)); done))
    · clear b hF hkk hne s16 s17 s18 s19
      rintro τ ⟨i, e', b, s20, s21, s16, s17, s18, s19, hi, hv⟩
      have hF := b.fr
      have hkk := b.kk
      have hne := ltne hkk
      rcases Nat.lt_or_ge i l.length with hlt | hge
      · have hz : (i : Int) < (l.length : Int) := by omega
        cases hm : e' == 0 with
        | true =>
          have hm2 : e' = 0 := by simpa using hm
          subst hm2
          have e1 : (l.map iD).getD i default = iD l[i] := nth_map iD hlt _
          have hv0 : eF vars (l.drop i) 0 = if decide (l[i] > vars.length) = true then 1 else eF vars (l.drop (i + 1)) 0 := by
            unfold eF
            rw [if_neg (by simp), List.drop_eq_getElem_cons hlt, List.any_cons]
            cases decide (l[i] > vars.length) <;> simp
          rw [hv0] at hv
          cases h1 : decide (l[i] > vars.length) with
          | true =>
            rw [h1, if_pos rfl] at hv
            repeat' (first
              | refine awp_seq_k fun K hK => ?_
              | (refine awp_region_k (by kernel_rfl) fun R hR => ?_; simp only [go_sem, b.s3, s20, s21, s16, hz, e1, hne, h1, beq_self_eq_true, Int.toNat_natCast])
              | (refine awp_draw mixed (by kernel_rfl) (by kernel_rfl) fun R hR => ?_; simp only [go_sem, b.s3, s20, s21, s16, hz, e1, hne, h1, beq_self_eq_true, Int.toNat_natCast])
              | (refine hR _ ?_; clear hR R; try simp only [thenA, inBlockA, reduceIte, reduceCtorEq, Nat.reduceEqDiff, if_false, if_true])
              | (refine hK _ ?_; clear hK K)
              | (clear hK K; refine hK _ ?_; clear hK K)
              | (clear hK K; clear hK K; refine hK _ ?_; clear hK K)
              | (clear hK K; clear hK K; clear hK K; refine hK _ ?_; clear hK K)
              | (clear hK K; clear hK K; clear hK K; clear hK K; refine hK _ ?_; clear hK K)
              | refine awp_true rfl rfl ?_
              | refine awp_false rfl rfl ?_
              | (refine awp_cond rfl rfl (fun hc => ?_) (fun hc => ?_) <;> (try simp only [go_sem, b.s3, s20, s21, s16, hz, e1, hne, h1, beq_self_eq_true, Int.toNat_natCast] at hc) <;> (try (exfalso; omega)))
              | refine awp_block ?_
              | (refine awp_skip ?_; try simp only [thenA, inBlockA, reduceIte, reduceCtorEq, Nat.reduceEqDiff, if_false, if_true])
              | (refine awp_exit ?_; try simp only [thenA, inBlockA, reduceIte, reduceCtorEq, Nat.reduceEqDiff, if_false, if_true])
              | (refine awp_ret ?_; try simp only [thenA, inBlockA, reduceIte, reduceCtorEq, Nat.reduceEqDiff, if_false, if_true])
              | (refine runL_split ?_ (fun hc => ?_) (fun hc => ?_); (simp only [go_sem, b.s3, s20, s21, s16, hz, e1, hne, h1, beq_self_eq_true, Int.toNat_natCast]; exact rfl); all_goals (try simp only [go_sem, hc, b.s3, s20, s21, s16, hz, e1, hne, h1, beq_self_eq_true, Int.toNat_natCast]); all_goals (try simp only [go_sem, b.s3, s20, s21, s16, hz, e1, hne, h1, beq_self_eq_true, Int.toNat_natCast] at hc); all_goals (try (exfalso; omega)))
              | (refine runD_split ?_ (fun hc => ?_) (fun hc => ?_); (simp only [go_sem, b.s3, s20, s21, s16, hz, e1, hne, h1, beq_self_eq_true, Int.toNat_natCast]; exact rfl); all_goals (try simp only [go_sem, hc, b.s3, s20, s21, s16, hz, e1, hne, h1, beq_self_eq_true, Int.toNat_natCast]); all_goals (try simp only [go_sem, b.s3, s20, s21, s16, hz, e1, hne, h1, beq_self_eq_true, Int.toNat_natCast] at hc); all_goals (try (exfalso; omega)))
              | refine And.intro (by first | omega | exact trivial | rfl | assumption | (apply map_sz; intro a; simp only [go_sem]; done) | ((and_intros <;> first | omega | exact trivial | rfl | assumption | (apply map_sz; intro a; simp only [go_sem]; done) | fail); done) | fail) ?_
              | fail)
            refine ⟨⟨i + 1, 1, (by constructor <;> first | (simp only [go_sem, b.s3, b.s4, b.s5, b.s6, b.s7, b.s11, b.s12, b.s13, b.s14, b.s15, b.a0, b.a1, b.a2, hne]; done) | (simp only [go_sem]; omega) | (dsimp only; omega) | exact (by repeat (first | exact Fr.rfl' _ _ | assumption | refine Fr.updk ?_ (by omega) _))), ?_⟩, ?_⟩
            · simp only [go_sem, s20, s21, s17, s18, s19]
              and_intros; all_goals try (first | rfl | omega | assumption | ((repeat (first | exact Fr.rfl' _ _ | assumption | refine Fr.updk ?_ (by omega) _)); done))
              all_goals exact hv
            · simp only [go_sem, s21]; omega
          | false =>
            rw [h1] at hv
            repeat' (first
              | refine awp_seq_k fun K hK => ?_
              | (refine awp_region_k (by kernel_rfl) fun R hR => ?_; simp only [go_sem, b.s3, s20, s21, s16, hz, e1, hne, h1, beq_self_eq_true, Int.toNat_natCast])
              | (refine awp_draw mixed (by kernel_rfl) (by kernel_rfl) fun R hR => ?_; simp only [go_sem, b.s3, s20, s21, s16, hz, e1, hne, h1, beq_self_eq_true, Int.toNat_natCast])
              | (refine hR _ ?_; clear hR R; try simp only [thenA, inBlockA, reduceIte, reduceCtorEq, Nat.reduceEqDiff, if_false, if_true])
              | (refine hK _ ?_; clear hK K)
              | (clear hK K; refine hK _ ?_; clear hK K)
              | (clear hK K; clear hK K; refine hK _ ?_; clear hK K)
              | (clear hK K; clear hK K; clear hK K; refine hK _ ?_; clear hK K)
              | (clear hK K; clear hK K; clear hK K; clear hK K; refine hK _ ?_; clear hK K)
              | refine awp_true rfl rfl ?_
              | refine awp_false rfl rfl ?_
              | (refine awp_cond rfl rfl (fun hc => ?_) (fun hc => ?_) <;> (try simp only [go_sem, b.s3, s20, s21, s16, hz, e1, hne, h1, beq_self_eq_true, Int.toNat_natCast] at hc) <;> (try (exfalso; omega)))
              | refine awp_block ?_
              | (refine awp_skip ?_; try simp only [thenA, inBlockA, reduceIte, reduceCtorEq, Nat.reduceEqDiff, if_false, if_true])
              | (refine awp_exit ?_; try simp only [thenA, inBlockA, reduceIte, reduceCtorEq, Nat.reduceEqDiff, if_false, if_true])
              | (refine awp_ret ?_; try simp only [thenA, inBlockA, reduceIte, reduceCtorEq, Nat.reduceEqDiff, if_false, if_true])
              | (refine runL_split ?_ (fun hc => ?_) (fun hc => ?_); (simp only [go_sem, b.s3, s20, s21, s16, hz, e1, hne, h1, beq_self_eq_true, Int.toNat_natCast]; exact rfl); all_goals (try simp only [go_sem, hc, b.s3, s20, s21, s16, hz, e1, hne, h1, beq_self_eq_true, Int.toNat_natCast]); all_goals (try simp only [go_sem, b.s3, s20, s21, s16, hz, e1, hne, h1, beq_self_eq_true, Int.toNat_natCast] at hc); all_goals (try (exfalso; omega)))
              | (refine runD_split ?_ (fun hc => ?_) (fun hc => ?_); (simp only [go_sem, b.s3, s20, s21, s16, hz, e1, hne, h1, beq_self_eq_true, Int.toNat_natCast]; exact rfl); all_goals (try simp only [go_sem, hc, b.s3, s20, s21, s16, hz, e1, hne, h1, beq_self_eq_true, Int.toNat_natCast]); all_goals (try simp only [go_sem, b.s3, s20, s21, s16, hz, e1, hne, h1, beq_self_eq_true, Int.toNat_natCast] at hc); all_goals (try (exfalso; omega)))
              | refine And.intro (by first | omega | exact trivial | rfl | assumption | (apply map_sz; intro a; simp only [go_sem]; done) | ((and_intros <;> first | omega | exact trivial | rfl | assumption | (apply map_sz; intro a; simp only [go_sem]; done) | fail); done) | fail) ?_
              | fail)
            refine ⟨⟨i + 1, 0, (by constructor <;> first | (simp only [go_sem, b.s3, b.s4, b.s5, b.s6, b.s7, b.s11, b.s12, b.s13, b.s14, b.s15, b.a0, b.a1, b.a2, hne]; done) | (simp only [go_sem]; omega) | (dsimp only; omega) | exact (by repeat (first | exact Fr.rfl' _ _ | assumption | refine Fr.updk ?_ (by omega) _))), ?_⟩, ?_⟩
            · simp only [go_sem, s20, s21, s16, s17, s18, s19]
              and_intros; all_goals try (first | rfl | omega | assumption | ((repeat (first | exact Fr.rfl' _ _ | assumption | refine Fr.updk ?_ (by omega) _)); done))
              all_goals exact hv
            · simp only [go_sem, s21]; omega
        | false =>
          have hm2 : e' ≠ 0 := by simpa using hm
          have hv' : e' = eF vars l 0 := by rw [← hv]; unfold eF; rw [if_pos hm2]
          rw [← hv'] at he hok
          repeat' (first
            | refine fin _ ?_ e' he hok ?_ ?_ ?_ ?_ rfl rfl
            | refine awp_seq_k fun K hK => ?_
            | (refine awp_region_k (by kernel_rfl) fun R hR => ?_; simp only [go_sem, s20, s21, s16, hz, hne, hm])
            | (refine awp_draw mixed (by kernel_rfl) (by kernel_rfl) fun R hR => ?_; simp only [go_sem, s20, s21, s16, hz, hne, hm])
            | (refine hR _ ?_; clear hR R; try simp only [thenA, inBlockA, reduceIte, reduceCtorEq, Nat.reduceEqDiff, if_false, if_true])
            | (refine hK _ ?_; clear hK K)
            | (clear hK K; refine hK _ ?_; clear hK K)
            | (clear hK K; clear hK K; refine hK _ ?_; clear hK K)
            | (clear hK K; clear hK K; clear hK K; refine hK _ ?_; clear hK K)
            | (clear hK K; clear hK K; clear hK K; clear hK K; refine hK _ ?_; clear hK K)
            | refine awp_true rfl rfl ?_
            | refine awp_false rfl rfl ?_
            | (refine awp_cond rfl rfl (fun hc => ?_) (fun hc => ?_) <;> (try simp only [go_sem, s20, s21, s16, hz, hne, hm] at hc) <;> (try (exfalso; omega)))
            | refine awp_block ?_
            | (refine awp_skip ?_; try simp only [thenA, inBlockA, reduceIte, reduceCtorEq, Nat.reduceEqDiff, if_false, if_true])
            | (refine awp_exit ?_; try simp only [thenA, inBlockA, reduceIte, reduceCtorEq, Nat.reduceEqDiff, if_false, if_true])
            | (refine awp_ret ?_; try simp only [thenA, inBlockA, reduceIte, reduceCtorEq, Nat.reduceEqDiff, if_false, if_true])
            | (refine runL_split ?_ (fun hc => ?_) (fun hc => ?_); (simp only [go_sem, s20, s21, s16, hz, hne, hm]; exact rfl); all_goals (try simp only [go_sem, hc, s20, s21, s16, hz, hne, hm]); all_goals (try simp only [go_sem, s20, s21, s16, hz, hne, hm] at hc); all_goals (try (exfalso; omega)))
            | (refine runD_split ?_ (fun hc => ?_) (fun hc => ?_); (simp only [go_sem, s20, s21, s16, hz, hne, hm]; exact rfl); all_goals (try simp only [go_sem, hc, s20, s21, s16, hz, hne, hm]); all_goals (try simp only [go_sem, s20, s21, s16, hz, hne, hm] at hc); all_goals (try (exfalso; omega)))
            | refine And.intro (by first | omega | exact trivial | rfl | assumption | (apply map_sz; intro a; simp only [go_sem]; done) | ((and_intros <;> first | omega | exact trivial | rfl | assumption | (apply map_sz; intro a; simp only [go_sem]; done) | fail); done) | fail) ?_
            | fail)
          · exact (by constructor <;> first | (simp only [go_sem, b.s3, b.s4, b.s5, b.s6, b.s7, b.s11, b.s12, b.s13, b.s14, b.s15, b.a0, b.a1, b.a2, hne]; done) | (simp only [go_sem]; omega) | (dsimp only; omega) | exact (by repeat (first | exact Fr.rfl' _ _ | assumption | refine Fr.updk ?_ (by omega) _)))
          all_goals simp only [go_sem, s16, s17, s18, s19]
      · have hz : ¬ ((i : Int) < (l.length : Int)) := by omega
        rw [List.drop_eq_nil_of_le hge] at hv
        have hv' : e' = eF vars l 0 := by
          rw [← hv]; unfold eF
          by_cases h : e' = 0
          · rw [if_neg (by simp [h]), h]; rfl
          · rw [if_pos h]
        rw [← hv'] at he hok
        repeat' (first
          | refine fin _ ?_ e' he hok ?_ ?_ ?_ ?_ rfl rfl
          | refine awp_seq_k fun K hK => ?_
          | (refine awp_region_k (by kernel_rfl) fun R hR => ?_; simp only [go_sem, s20, s21, s16, hz, hne])
          | (refine awp_draw mixed (by kernel_rfl) (by kernel_rfl) fun R hR => ?_; simp only [go_sem, s20, s21, s16, hz, hne])
          | (refine hR _ ?_; clear hR R; try simp only [thenA, inBlockA, reduceIte, reduceCtorEq, Nat.reduceEqDiff, if_false, if_true])
          | (refine hK _ ?_; clear hK K)
          | (clear hK K; refine hK _ ?_; clear hK K)
          | (clear hK K; clear hK K; refine hK _ ?_; clear hK K)
          | (clear hK K; clear hK K; clear hK K; refine hK _ ?_; clear hK K)
          | (clear hK K; clear hK K; clear hK K; clear hK K; refine hK _ ?_; clear hK K)
          | refine awp_true rfl rfl ?_
          | refine awp_false rfl rfl ?_
          | (refine awp_cond rfl rfl (fun hc => ?_) (fun hc => ?_) <;> (try simp only [go_sem, s20, s21, s16, hz, hne] at hc) <;> (try (exfalso; omega)))
          | refine awp_block ?_
          | (refine awp_skip ?_; try simp only [thenA, inBlockA, reduceIte, reduceCtorEq, Nat.reduceEqDiff, if_false, if_true])
          | (refine awp_exit ?_; try simp only [thenA, inBlockA, reduceIte, reduceCtorEq, Nat.reduceEqDiff, if_false, if_true])
          | (refine awp_ret ?_; try simp only [thenA, inBlockA, reduceIte, reduceCtorEq, Nat.reduceEqDiff, if_false, if_true])
          | (refine runL_split ?_ (fun hc => ?_) (fun hc => ?_); (simp only [go_sem, s20, s21, s16, hz, hne]; exact rfl); all_goals (try simp only [go_sem, hc, s20, s21, s16, hz, hne]); all_goals (try simp only [go_sem, s20, s21, s16, hz, hne] at hc); all_goals (try (exfalso; omega)))
          | (refine runD_split ?_ (fun hc => ?_) (fun hc => ?_); (simp only [go_sem, s20, s21, s16, hz, hne]; exact rfl); all_goals (try simp only [go_sem, hc, s20, s21, s16, hz, hne]); all_goals (try simp only [go_sem, s20, s21, s16, hz, hne] at hc); all_goals (try (exfalso; omega)))
          | refine And.intro (by first | omega | exact trivial | rfl | assumption | (apply map_sz; intro a; simp only [go_sem]; done) | ((and_intros <;> first | omega | exact trivial | rfl | assumption | (apply map_sz; intro a; simp only [go_sem]; done) | fail); done) | fail) ?_
          | fail)
        · exact (by constructor <;> first | (simp only [go_sem, b.s3, b.s4, b.s5, b.s6, b.s7, b.s11, b.s12, b.s13, b.s14, b.s15, b.a0, b.a1, b.a2, hne]; done) | (simp only [go_sem]; omega) | (dsimp only; omega) | exact (by repeat (first | exact Fr.rfl' _ _ | assumption | refine Fr.updk ?_ (by omega) _)))
        all_goals simp only [go_sem, s16, s17, s18, s19]
end
end Go.Proofs.Ytmeekpinkfpnhaa

namespace Go.Proofs.Ytmeekpinkfpnhaa
open Go.RowKit
set_option linter.unusedSimpArgs false
set_option linter.unusedSectionVars false

set_option maxHeartbeats 4000000 in
set_option maxRecDepth 20000 in
theorem modelTells_tri (g : List Int) (sz : Int) (tb : List (List Int)) (t : Tm) (vars : List Int) (cl : List Lt) (hl : tb.length ≤ 4000000) (hr : ∀ r ∈ tb, r.length ≤ 4000000) (hcl : cl.length ≤ 4000000) (ht : t.size ≤ 4000000) (hvl : vars.length ≤ 4000000) :
    Tri Try.prog 4 [.d (sgDV g), .d (mdDV sz tb), .d (tmDV t), .d (.sl (vars.map iD)), .d (clDV cl)] (pure' (bA true)) := by
  have v1 := mdValue_tri g sz tb t vars hl hr ht hvl
  have v2 := mdHolds_tri g sz tb cl hl hr hcl
  have v3 := checkModel_tri g sz tb hl hr
  have v4 := checkTerm_tri g t
  refine tri_enter Try.func4 rfl Try.ntmps4 (by simp only [List.length_cons, List.length_nil]; omega) fun w0 h0 k hrd hwr => ?_
  have fin := fun σ b => mt_8 (w0 := w0) rfl hl hr hcl ht hvl (k := k) (h0 := h0) (g := g) (sz := sz) (tb := tb) (t := t) (vars := vars) (cl := cl) σ b
  cases hm : mdOk g sz tb == 0 with
  | false =>
    have hm2 : mdOk g sz tb ≠ 0 := by simpa using hm
    have hv : valAns g sz tb t vars = (0, mdOk g sz tb) := by unfold valAns; rw [if_pos hm2]
    have hE : eV sz vars (eF vars (firstVars [t]) (mdOk g sz tb)) = mdOk g sz tb := by unfold eF; rw [if_pos hm2]; unfold eV; rw [if_pos hm2]
    repeat' (first
      | refine fin _ ?_ (mdOk g sz tb) (by rw [hE]; unfold e3; rw [if_neg hm2]; exact hv) (fun h => absurd (hE.symm.trans h) hm2) ?_ ?_ ?_ ?_ rfl rfl
      | refine awp_seq_k fun K hK => ?_
      | (refine awp_region_k (by kernel_rfl) fun R hR => ?_; simp only [go_sem, hm])
      | (refine awp_draw mixed (by kernel_rfl) (by kernel_rfl) fun R hR => ?_; simp only [go_sem, hm])
      | (refine hR _ ?_; clear hR R; try simp only [thenA, inBlockA, reduceIte, reduceCtorEq, Nat.reduceEqDiff, if_false, if_true])
      | (refine hK _ ?_; clear hK K)
      | (clear hK K; refine hK _ ?_; clear hK K)
      | (clear hK K; clear hK K; refine hK _ ?_; clear hK K)
      | (clear hK K; clear hK K; clear hK K; refine hK _ ?_; clear hK K)
      | (clear hK K; clear hK K; clear hK K; clear hK K; refine hK _ ?_; clear hK K)
      | refine awp_true rfl rfl ?_
      | refine awp_false rfl rfl ?_
      | (refine awp_cond rfl rfl (fun hc => ?_) (fun hc => ?_) <;> (try simp only [go_sem, hm] at hc) <;> (try (exfalso; omega)))
      | refine awp_block ?_
      | (refine awp_skip ?_; try simp only [thenA, inBlockA, reduceIte, reduceCtorEq, Nat.reduceEqDiff, if_false, if_true])
      | (refine awp_exit ?_; try simp only [thenA, inBlockA, reduceIte, reduceCtorEq, Nat.reduceEqDiff, if_false, if_true])
      | (refine awp_ret ?_; try simp only [thenA, inBlockA, reduceIte, reduceCtorEq, Nat.reduceEqDiff, if_false, if_true])
      | (refine runL_split ?_ (fun hc => ?_) (fun hc => ?_); (simp only [go_sem, hm]; exact rfl); all_goals (try simp only [go_sem, hc, hm]); all_goals (try simp only [go_sem, hm] at hc); all_goals (try (exfalso; omega)))
      | (refine runD_split ?_ (fun hc => ?_) (fun hc => ?_); (simp only [go_sem, hm]; exact rfl); all_goals (try simp only [go_sem, hc, hm]); all_goals (try simp only [go_sem, hm] at hc); all_goals (try (exfalso; omega)))
      | (first | (refine CallK.pure (enter18) (v1) ?_ ?_; (focus first | ((repeat (first | exact trivial | refine ⟨(by first | exact Or.inl rfl | exact Or.inr rfl), ?_⟩)); done) | (simp only [coL, AV.dat, true_or, or_true, AV.d.injEq, go_sem]; done)); simp only [go_sem, hm]) | (refine CallD.pure (enter18) (v1) ?_ ?_; (focus first | ((repeat (first | exact trivial | refine ⟨(by first | exact Or.inl rfl | exact Or.inr rfl), ?_⟩)); done) | (simp only [coL, AV.dat, true_or, or_true, AV.d.injEq, go_sem]; done)); simp only [go_sem, hm]))
      | (first | (refine CallK.pure (enter19) (v2) ?_ ?_; (focus first | ((repeat (first | exact trivial | refine ⟨(by first | exact Or.inl rfl | exact Or.inr rfl), ?_⟩)); done) | (simp only [coL, AV.dat, true_or, or_true, AV.d.injEq, go_sem]; done)); simp only [go_sem, hm]) | (refine CallD.pure (enter19) (v2) ?_ ?_; (focus first | ((repeat (first | exact trivial | refine ⟨(by first | exact Or.inl rfl | exact Or.inr rfl), ?_⟩)); done) | (simp only [coL, AV.dat, true_or, or_true, AV.d.injEq, go_sem]; done)); simp only [go_sem, hm]))
      | (first | (refine CallK.pure (enter20) (v3) ?_ ?_; (focus first | ((repeat (first | exact trivial | refine ⟨(by first | exact Or.inl rfl | exact Or.inr rfl), ?_⟩)); done) | (simp only [coL, AV.dat, true_or, or_true, AV.d.injEq, go_sem]; done)); simp only [go_sem, hm]) | (refine CallD.pure (enter20) (v3) ?_ ?_; (focus first | ((repeat (first | exact trivial | refine ⟨(by first | exact Or.inl rfl | exact Or.inr rfl), ?_⟩)); done) | (simp only [coL, AV.dat, true_or, or_true, AV.d.injEq, go_sem]; done)); simp only [go_sem, hm]))
      | refine And.intro (by first | omega | exact trivial | rfl | assumption | (apply map_sz; intro a; simp only [go_sem]; done) | ((and_intros <;> first | omega | exact trivial | rfl | assumption | (apply map_sz; intro a; simp only [go_sem]; done) | fail); done) | fail) ?_
      | fail)
    · constructor <;> first | (simp only [go_sem, hm]; done) | (simp only [go_sem]; omega) | (dsimp only; omega) | exact (by repeat (first | exact Fr.rfl' _ _ | assumption | refine Fr.updk ?_ (by omega) _))
    all_goals simp only [go_sem, hm]
  | true =>
    have hm2 : mdOk g sz tb = 0 := by simpa using hm
    have hE : e3 g sz tb t vars (eV sz vars (eF vars (firstVars [t]) (own g t))) ∧ (eV sz vars (eF vars (firstVars [t]) (own g t)) = 0 → mdOk g sz tb = 0 ∧ Fine g sz (byL vars) (parts t) ∧ ∀ x ∈ parts t, x.v > 0 → x.v ≤ vars.length) := by
      unfold e3 valAns
      rw [if_neg (by simp [hm2])]
      by_cases ho : own g t = 0
      · rw [if_neg (by simp [ho]), ho]
        cases h1 : (firstVars [t]).any fun v => decide (v > vars.length) with
        | true =>
          have : eV sz vars (eF vars (firstVars [t]) 0) = 1 := by unfold eF; rw [if_neg (by simp), if_pos h1]; rfl
          rw [this]; exact ⟨rfl, fun h => by cases h⟩
        | false =>
          have e1 : eF vars (firstVars [t]) 0 = 0 := by unfold eF; rw [if_neg (by simp), if_neg (by rw [h1]; simp)]
          rw [e1]
          cases h2 : vars.any (outOf sz) with
          | true =>
            have : eV sz vars 0 = 5 := by unfold eV; rw [if_neg (by simp), if_pos h2]
            rw [this]; exact ⟨rfl, fun h => by cases h⟩
          | false =>
            have : eV sz vars 0 = 0 := by unfold eV; rw [if_neg (by simp), if_neg (by rw [h2]; simp)]
            rw [this]
            exact ⟨rfl, fun _ => ⟨hm2, fine_of ho h1 h2⟩⟩
      · rw [if_pos ho]
        have : eV sz vars (eF vars (firstVars [t]) (own g t)) = own g t := by unfold eF; rw [if_pos ho]; unfold eV; rw [if_pos ho]
        rw [this, if_neg ho]
        exact ⟨rfl, fun h => absurd h ho⟩
    repeat' (first
      | refine fin _ ?_ (own g t) hE.1 hE.2 ?_ ?_ ?_ ?_ rfl rfl
      | refine awp_seq_k fun K hK => ?_
      | (refine awp_region_k (by kernel_rfl) fun R hR => ?_; simp only [go_sem, hm2, beq_self_eq_true])
      | (refine awp_draw mixed (by kernel_rfl) (by kernel_rfl) fun R hR => ?_; simp only [go_sem, hm2, beq_self_eq_true])
      | (refine hR _ ?_; clear hR R; try simp only [thenA, inBlockA, reduceIte, reduceCtorEq, Nat.reduceEqDiff, if_false, if_true])
      | (refine hK _ ?_; clear hK K)
      | (clear hK K; refine hK _ ?_; clear hK K)
      | (clear hK K; clear hK K; refine hK _ ?_; clear hK K)
      | (clear hK K; clear hK K; clear hK K; refine hK _ ?_; clear hK K)
      | (clear hK K; clear hK K; clear hK K; clear hK K; refine hK _ ?_; clear hK K)
      | refine awp_true rfl rfl ?_
      | refine awp_false rfl rfl ?_
      | (refine awp_cond rfl rfl (fun hc => ?_) (fun hc => ?_) <;> (try simp only [go_sem, hm2, beq_self_eq_true] at hc) <;> (try (exfalso; omega)))
      | refine awp_block ?_
      | (refine awp_skip ?_; try simp only [thenA, inBlockA, reduceIte, reduceCtorEq, Nat.reduceEqDiff, if_false, if_true])
      | (refine awp_exit ?_; try simp only [thenA, inBlockA, reduceIte, reduceCtorEq, Nat.reduceEqDiff, if_false, if_true])
      | (refine awp_ret ?_; try simp only [thenA, inBlockA, reduceIte, reduceCtorEq, Nat.reduceEqDiff, if_false, if_true])
      | (refine runL_split ?_ (fun hc => ?_) (fun hc => ?_); (simp only [go_sem, hm2, beq_self_eq_true]; exact rfl); all_goals (try simp only [go_sem, hc, hm2, beq_self_eq_true]); all_goals (try simp only [go_sem, hm2, beq_self_eq_true] at hc); all_goals (try (exfalso; omega)))
      | (refine runD_split ?_ (fun hc => ?_) (fun hc => ?_); (simp only [go_sem, hm2, beq_self_eq_true]; exact rfl); all_goals (try simp only [go_sem, hc, hm2, beq_self_eq_true]); all_goals (try simp only [go_sem, hm2, beq_self_eq_true] at hc); all_goals (try (exfalso; omega)))
      | (first | (refine CallK.pure (enter18) (v1) ?_ ?_; (focus first | ((repeat (first | exact trivial | refine ⟨(by first | exact Or.inl rfl | exact Or.inr rfl), ?_⟩)); done) | (simp only [coL, AV.dat, true_or, or_true, AV.d.injEq, go_sem]; done)); simp only [go_sem, hm2, beq_self_eq_true]) | (refine CallD.pure (enter18) (v1) ?_ ?_; (focus first | ((repeat (first | exact trivial | refine ⟨(by first | exact Or.inl rfl | exact Or.inr rfl), ?_⟩)); done) | (simp only [coL, AV.dat, true_or, or_true, AV.d.injEq, go_sem]; done)); simp only [go_sem, hm2, beq_self_eq_true]))
      | (first | (refine CallK.pure (enter19) (v2) ?_ ?_; (focus first | ((repeat (first | exact trivial | refine ⟨(by first | exact Or.inl rfl | exact Or.inr rfl), ?_⟩)); done) | (simp only [coL, AV.dat, true_or, or_true, AV.d.injEq, go_sem]; done)); simp only [go_sem, hm2, beq_self_eq_true]) | (refine CallD.pure (enter19) (v2) ?_ ?_; (focus first | ((repeat (first | exact trivial | refine ⟨(by first | exact Or.inl rfl | exact Or.inr rfl), ?_⟩)); done) | (simp only [coL, AV.dat, true_or, or_true, AV.d.injEq, go_sem]; done)); simp only [go_sem, hm2, beq_self_eq_true]))
      | (first | (refine CallK.pure (enter20) (v3) ?_ ?_; (focus first | ((repeat (first | exact trivial | refine ⟨(by first | exact Or.inl rfl | exact Or.inr rfl), ?_⟩)); done) | (simp only [coL, AV.dat, true_or, or_true, AV.d.injEq, go_sem]; done)); simp only [go_sem, hm2, beq_self_eq_true]) | (refine CallD.pure (enter20) (v3) ?_ ?_; (focus first | ((repeat (first | exact trivial | refine ⟨(by first | exact Or.inl rfl | exact Or.inr rfl), ?_⟩)); done) | (simp only [coL, AV.dat, true_or, or_true, AV.d.injEq, go_sem]; done)); simp only [go_sem, hm2, beq_self_eq_true]))
      | (first | (refine CallK.pure (enter21) (v4) ?_ ?_; (focus first | ((repeat (first | exact trivial | refine ⟨(by first | exact Or.inl rfl | exact Or.inr rfl), ?_⟩)); done) | (simp only [coL, AV.dat, true_or, or_true, AV.d.injEq, go_sem]; done)); simp only [go_sem, hm2, beq_self_eq_true]) | (refine CallD.pure (enter21) (v4) ?_ ?_; (focus first | ((repeat (first | exact trivial | refine ⟨(by first | exact Or.inl rfl | exact Or.inr rfl), ?_⟩)); done) | (simp only [coL, AV.dat, true_or, or_true, AV.d.injEq, go_sem]; done)); simp only [go_sem, hm2, beq_self_eq_true]))
      | refine And.intro (by first | omega | exact trivial | rfl | assumption | (apply map_sz; intro a; simp only [go_sem]; done) | ((and_intros <;> first | omega | exact trivial | rfl | assumption | (apply map_sz; intro a; simp only [go_sem]; done) | fail); done) | fail) ?_
      | fail)
    · constructor <;> first | (simp only [go_sem, hm2]; done) | (simp only [go_sem]; omega) | (dsimp only; omega) | exact (by repeat (first | exact Fr.rfl' _ _ | assumption | refine Fr.updk ?_ (by omega) _))
    all_goals simp only [go_sem, hm2]
theorem model_law (g : List Int) (m : Int × List (List Int)) (t : Tm) (vars : List Int) (cl : List Lt) (_ : True) (_ : True) (_ : True) (_ : True) (_ : True)
    (hb : (g.length + 1) + ((m.2.map fun r => r.length + 1).sum + 2) + t.size + (vars.length + 1) + ((cl.map Lt.size).sum + 1) ≤ 1048576) :
    Tri Try.prog 4 [.d (sgDV g), .d (mdDV m.1 m.2), .d (tmDV t), .d (.sl (vars.map iD)), .d (clDV cl)] (pure' (bA true)) := by
  have h1 : ∀ (l : List (List Int)), l.length ≤ (l.map fun r => r.length + 1).sum := fun l => by
    induction l with
    | nil => simp
    | cons x xs ih => simp only [List.map_cons, List.sum_cons, List.length_cons]; omega
  have h2 : ∀ (l : List (List Int)), ∀ r ∈ l, r.length ≤ (l.map fun r => r.length + 1).sum := fun l => by
    induction l with
    | nil => simp
    | cons x xs ih =>
      intro r hr
      simp only [List.map_cons, List.sum_cons]
      rcases List.mem_cons.1 hr with rfl | hr
      · omega
      · have := ih r hr; omega
  have h3 : ∀ l : List Lt, l.length ≤ (l.map Lt.size).sum := fun l => by
    induction l with
    | nil => simp
    | cons x xs ih => simp only [List.map_cons, List.sum_cons, List.length_cons]; unfold Lt.size at *; omega
  have h4 := h1 m.2
  have h5 := h2 m.2
  have h6 := h3 cl
  exact modelTells_tri g m.1 m.2 t vars cl (by omega) (fun r hr => by have := h5 r hr; omega) (by omega) (by omega) (by omega)
end Go.Proofs.Ytmeekpinkfpnhaa
