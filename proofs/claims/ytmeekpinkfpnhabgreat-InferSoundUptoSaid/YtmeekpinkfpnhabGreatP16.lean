/- infer. -/
import Derived.Test.YtmeekpinkfpnhabGreatP15
set_option linter.all false
namespace Go.Proofs.YtmeekpinkfpnhabGreat
open Go.RowKit
attribute [local irreducible] CallK CallD
theorem FrN.stY {k j : Nat} {N : List Nm} {h0 h : Heap} (hf : FrN k N h0 h) (O : Nm → Ob) : FrN k N h0 (Go.Proofs.YtmeekpinkfpnhabGreat.stH ((k, j) :: N) O h) := fun x hx hxn => by
 rw [stH_get, if_neg (fun h => (List.mem_cons.1 h).elim (fun e => by rw [e] at hx; simp at hx) hxn)]; exact hf x hx hxn
def tryN (i : Nat) : Inf := tryI 0 1 0 0 (decide (3 ≤ i)) (i % 3 == 2) (if i % 3 == 1 then [0] else [])
def boolsD : List DV := [bD false, bD true]
set_option maxRecDepth 20000 in
set_option maxHeartbeats 4000000 in
theorem tries1_tri {l : Nat} {N : List Nm} {O : Nat → Nm → Ob} (hne : N ≠ []) (hcl : ∀ i k, (∀ n ∈ N, n.1 < k) → Cl k N (O i)) (L0 L1 : Lt) {u : Tm} (hu : L1.a.us = [u]) (huu : u.us = []) (hb : L1.b.us = [])
  (hY : ∀ i, i < 6 → TriY Tryz.prog l [.d (ifDV (tryN i))] (stE N (O i) (O (i + 1)) (bA true))) :
  Tri Tryz.prog 109 [.fn (.yield l) [] [], .el (.st [iD 1]) 0, .el (.st [.sl [clDV [L0], clDV [L1]]]) 0, .el (.st [iD 0]) 0] (stE N (O 0) (O 6) (.tup [])) := by
 refine aES Tryz.func109 rfl Tryz.ntmps109 fun w0 h0 k hag => ?_
 have hyN : (k, 0) ∉ N := fun h => by have := (hag.get _ h).1; simp at this
 have hNk := notN hag (Nat.le_refl k)
 have hcl1 : ∀ i, ∀ k', (∀ n ∈ (k, 0) :: N, n.1 < k') → Cl k' ((k, 0) :: N) (yO (k, 0) l (O i)) := fun i k' h => yO_cl (hcl i k' fun n hn => h n (List.mem_cons_of_mem _ hn))
 have one : ∀ i, i < 6 → ∀ (pl : List Int) (tu ot : Bool), tryN i = tryI 0 1 0 0 tu ot pl → ∀ x, Tri Tryz.prog 111 ([.d (.sl (pl.map iD)), .d (tmDV x)] ++ tryC (k, 0) 0 1 0 0 tu ot) (stE ((k, 0) :: N) (yO (k, 0) l (O i)) (yO (k, 0) l (O (i + 1))) (bA true)) := fun i hi pl tu ot e x =>
  try1_tri hyN (hcl (i + 1)) 0 1 0 0 tu ot pl x (by rw [← e]; exact hY i hi)
 have W0 : ∀ j, j < 2 → Tri Tryz.prog 89 [.d (tmDV L1.a), .fn (.func 111) [] (tryC (k, 0) 0 1 0 0 (decide (j = 1)) false)] (stE ((k, 0) :: N) (yO (k, 0) l (O (3 * j))) (yO (k, 0) l (O (3 * j + 2))) (bA true)) := fun j hj =>
  walkW (enter111) (List.cons_ne_nil _ _) (hcl1 _) L1.a (walkP1 (enter111) (List.cons_ne_nil _ _) (hcl1 (3 * j + 1)) (hcl1 (3 * j + 2)) L1.a u hu huu [] (by simp) (one (3 * j) (by omega) [] (decide (j = 1)) false (by match j with | 0 => rfl | 1 => rfl | j + 2 => omega) L1.a) (one (3 * j + 1) (by omega) [0] (decide (j = 1)) false (by match j with | 0 => rfl | 1 => rfl | j + 2 => omega) u))
 have W1 : ∀ j, j < 2 → Tri Tryz.prog 89 [.d (tmDV L1.b), .fn (.func 111) [] (tryC (k, 0) 0 1 0 0 (decide (j = 1)) true)] (stE ((k, 0) :: N) (yO (k, 0) l (O (3 * j + 2))) (yO (k, 0) l (O (3 * j + 3))) (bA true)) := fun j hj =>
  walkW (enter111) (List.cons_ne_nil _ _) (hcl1 _) L1.b (walkP0 (enter111) (List.cons_ne_nil _ _) (hcl1 (3 * j + 3)) L1.b hb [] (one (3 * j + 2) (by omega) [] (decide (j = 1)) true (by match j with | 0 => rfl | 1 => rfl | j + 2 => omega) L1.b))
 obtain ⟨y, hy⟩ : ∃ y : Nm, y = (k, 0) := ⟨_, rfl⟩
 have hcls : ∀ x : Lt, clDV [x] = .sl [ltDV x] := fun _ => rfl
 have h10 : ((1 : Int) < 0) = False := by simp
 repeat' (first | refine aQ fun K hK => ?_ | ((first | refine aK fun R hR => ?_ | refine aD mixed fun R hR => ?_); simp only [go_sem, hcls, h10, Int.toNat_zero, hNk]) | ((first | (refine hR _ ?_; clear hR R) | refine aZ rfl ?_); try refine aP ?_) | ((repeat (fail_if_success refine hK _ ?_); clear hK K); refine hK _ ?_; clear hK K) | refine aT ?_ | refine aF ?_ | refine aB ?_ | refine aN ?_ | fail)
 refine awp_loop (fun σ => ∃ i : Nat, σ.t 1 = .el (.st [iD 1]) 0 ∧ σ.t 2 = .el (.st [.sl [.sl [ltDV L0], .sl [ltDV L1]]]) 0 ∧ σ.t 3 = .el (.st [iD 0]) 0 ∧ σ.t 4 = .ptr (k, 0) 0 ∧ σ.t 27 = iA 1 ∧ σ.t 28 = iA i ∧ Ag (k + 1) ((k, 0) :: N) (yO (k, 0) l (O (6 * i))) σ.h ∧ FrN k N h0 σ.h ∧ k < σ.k ∧ i ≤ 1) (fun σ => 1 - (intOf' (σ.t 28)).toNat) ?_ ?_
 ·refine ⟨0, ?_⟩
  simp only [go_sem, ]
  and_intros; all_goals try (first | rfl | omega | assumption | exact anA)
  ·refine ⟨fun n hn => ?_⟩
   rcases List.mem_cons.1 hn with h | h
   ·subst h
    exact ⟨Nat.lt_succ_self _, by simp only [go_sem, ]; exact (yO_y _ _ _).symm⟩
   ·obtain ⟨h1, h2⟩ := hag.get n h
    have hne' : n ≠ (k, 0) := fun e => hyN (e ▸ h)
    exact ⟨Nat.lt_succ_of_lt h1, by rw [yO_n hne', ← h2]; exact upd_ne _ _ hne'⟩
  ·exact (by repeat (first | exact FrN.rfl' _ _ _ | assumption | refine FrN.updk ?_ (by omega) _ | refine FrN.stH ?_ _))
 ·rintro σ ⟨i, s1, s2, s3, s4, s27, s28, hA, hF, hk, hi⟩
  match i with
  | 1 =>
   have hz : ¬ (((1 : Nat) : Int) < 1) := by decide
   have hA' := yO_ag hyN hA
   have hA2 : Ag k N (O 6) σ.h := ⟨fun n hn => ⟨(hag.get n hn).1, (hA'.get n hn).2⟩⟩
   have hcl' := hcl 6 k fun n hn => (hag.get n hn).1
   repeat' (first | refine aQ fun K hK => ?_ | ((first | refine aK fun R hR => ?_ | refine aD mixed fun R hR => ?_); simp only [go_sem, s27, s28, hz]) | ((first | (refine hR _ ?_; clear hR R) | refine aZ rfl ?_); try refine aP ?_) | ((repeat (fail_if_success refine hK _ ?_); clear hK K); refine hK _ ?_; clear hK K) | refine aT ?_ | refine aF ?_ | refine aB ?_ | refine aN ?_ | fail)
   exact (ret_st (P := Tryz.prog) (fn := Tryz.f109) (s := ⟨_, σ.h, _⟩) (by rw [Tryz.results109]; trivial) (by rw [Tryz.results109]; exact .refl fun n hn => by cases hn) hA2 hF hcl').2
  | 0 =>
   replace s28 : σ.t 28 = iA 0 := s28
   have hz : ((0 : Int) < 1) := by decide
   repeat' (first | (refine awp_ghost (ghost_el (i := 5) (n := (σ.k + 1, 1)) (e := 3) (ds := [iD 0]) ?_ ?_) ?_; (focus (simp only [go_sem, ]; done)); (focus (simp only [go_sem, ]; done)); simp only [go_sem, ]) | refine aQ fun K hK => ?_ | ((first | refine aK fun R hR => ?_ | refine aD mixed fun R hR => ?_); simp only [go_sem, s1, s2, s3, s4, s27, s28, hz]) | ((first | (refine hR _ ?_; clear hR R) | refine aZ rfl ?_); try refine aP ?_) | ((repeat (fail_if_success refine hK _ ?_); clear hK K); refine hK _ ?_; clear hK K) | refine aT ?_ | refine aF ?_ | refine aB ?_ | refine aN ?_ | fail)
   refine awp_loop (fun τ => ∃ (j : Nat) (x31 : Nm), τ.t 1 = .el (.st [iD 1]) 0 ∧ τ.t 2 = .el (.st [.sl [.sl [ltDV L0], .sl [ltDV L1]]]) 0 ∧ τ.t 3 = .el (.st [iD 0]) 0 ∧ τ.t 4 = .ptr (k, 0) 0 ∧ τ.t 27 = iA 1 ∧ τ.t 28 = iA 0 ∧ τ.t 5 = .el (.st [iD 0]) 0 ∧ τ.t 31 = .own x31 boolsD ∧ τ.t 32 = iA 2 ∧ τ.t 33 = iA j ∧ Ag (k + 1) ((k, 0) :: N) (yO (k, 0) l (O (3 * j))) τ.h ∧ FrN k N h0 τ.h ∧ k < τ.k ∧ j ≤ 2) (fun τ => 2 - (intOf' (τ.t 33)).toNat) ?_ ?_
   ·refine ⟨0, (σ.k + 1 + 1, 0), ?_⟩
    simp only [go_sem, s1, s2, s3, s4, s27, s28]
    and_intros; all_goals try (first | rfl | omega | assumption | exact anA)
    all_goals first | ((repeat (first | assumption | exact Ag.stN (by assumption) _ _ | refine Ag.updk ?_ (by omega) _)); done) | ((repeat (first | exact FrN.rfl' _ _ _ | assumption | refine FrN.updk ?_ (by omega) _ | refine FrN.stH ?_ _ | refine FrN.stY ?_ _)); done)
   ·rintro τ ⟨j, x31, t1, t2, t3, t4, t27, t28, t5, t31, t32, t33, tA, tF, tk, tj⟩
    rcases Nat.lt_or_ge j 2 with hj | hge
    ·have hz2 : (j : Int) < 2 := by omega
     have e31 : boolsD.getD j default = bD (decide (j = 1)) := by match j with | 0 => rfl | 1 => rfl | j + 2 => omega
     have l31 : boolsD.length = 2 := rfl
     repeat' (first | (refine awp_ghost (ghost_el (i := 7) (n := (τ.k + 1, 2)) (e := 4) (ds := [bD (decide (j = 1))]) ?_ ?_) ?_; (focus (simp only [go_sem, ]; done)); (focus (simp only [go_sem, ]; done)); simp only [go_sem, ]) | refine aQ fun K hK => ?_ | ((first | refine aK fun R hR => ?_ | refine aD mixed fun R hR => ?_); simp only [go_sem, t1, t2, t3, t4, t27, t28, t5, t31, t32, t33, hz2, e31, l31, Int.toNat_natCast, Int.toNat_zero, Int.toNat_one]) | ((first | (refine hR _ ?_; clear hR R) | refine aZ rfl ?_); try refine aP ?_) | ((repeat (fail_if_success refine hK _ ?_); clear hK K); refine hK _ ?_; clear hK K) | refine aT ?_ | refine aF ?_ | refine aB ?_ | refine aN ?_ | fail)
     refine awp_loop (fun υ => ∃ (b : Nat), υ.t 1 = .el (.st [iD 1]) 0 ∧ υ.t 2 = .el (.st [.sl [.sl [ltDV L0], .sl [ltDV L1]]]) 0 ∧ υ.t 3 = .el (.st [iD 0]) 0 ∧ υ.t 4 = .ptr (k, 0) 0 ∧ υ.t 27 = iA 1 ∧ υ.t 28 = iA 0 ∧ υ.t 5 = .el (.st [iD 0]) 0 ∧ υ.t 31 = .own x31 boolsD ∧ υ.t 32 = iA 2 ∧ υ.t 33 = iA j ∧ υ.t 7 = .el (.st [bD (decide (j = 1))]) 0 ∧ υ.t 40 = .d (.sl [ltDV L1]) ∧ υ.t 41 = iA 1 ∧ υ.t 42 = iA b ∧ Ag (k + 1) ((k, 0) :: N) (yO (k, 0) l (O (3 * j + 3 * b))) υ.h ∧ FrN k N h0 υ.h ∧ k < υ.k ∧ b ≤ 1) (fun υ => 1 - (intOf' (υ.t 42)).toNat) ?_ ?_
     ·refine ⟨0, ?_⟩
      simp only [go_sem, t1, t2, t3, t4, t27, t28, t5, t31, t32, t33, e31]
      and_intros; all_goals try (first | rfl | omega | assumption | exact anA)
      all_goals first | ((repeat (first | assumption | exact Ag.stN (by assumption) _ _ | refine Ag.updk ?_ (by omega) _)); done) | ((repeat (first | exact FrN.rfl' _ _ _ | assumption | refine FrN.updk ?_ (by omega) _ | refine FrN.stH ?_ _ | refine FrN.stY ?_ _)); done)
     ·rintro υ ⟨b, u1, u2, u3, u4, u27, u28, u5, u31, u32, u33, u7, u40, u41, u42, uA, uF, uk, ub⟩
      match b with
      | 1 =>
       have hz3 : ¬ (((1 : Nat) : Int) < 1) := by decide
       repeat' (first | refine aQ fun K hK => ?_ | ((first | refine aK fun R hR => ?_ | refine aD mixed fun R hR => ?_); simp only [go_sem, u41, u42, u33, hz3]) | ((first | (refine hR _ ?_; clear hR R) | refine aZ rfl ?_); try refine aP ?_) | ((repeat (fail_if_success refine hK _ ?_); clear hK K); refine hK _ ?_; clear hK K) | refine aT ?_ | refine aF ?_ | refine aB ?_ | refine aN ?_ | fail)
       refine ⟨⟨j + 1, x31, ?_⟩, ?_⟩
       ·simp only [go_sem, u1, u2, u3, u4, u27, u28, u5, u31, u32, u33]
        and_intros; all_goals try (first | rfl | omega | assumption | exact anA)
        all_goals first | ((repeat (first | assumption | exact Ag.stN (by assumption) _ _ | refine Ag.updk ?_ (by omega) _)); done) | ((repeat (first | exact FrN.rfl' _ _ _ | assumption | refine FrN.updk ?_ (by omega) _ | refine FrN.stH ?_ _ | refine FrN.stY ?_ _)); done)
       ·simp only [go_sem, u33, t33]; try omega
      | 0 =>
       replace u42 : υ.t 42 = iA 0 := u42
       have hz3 : ((0 : Int) < 1) := by decide
       repeat' (first | (refine awp_ghost (ghost_el (i := 8) (n := (υ.k + 1, 3)) (e := 3) (ds := [iD 0]) ?_ ?_) ?_; (focus (simp only [go_sem, ]; done)); (focus (simp only [go_sem, ]; done)); simp only [go_sem, ]) | (refine awp_ghost (ghost_el (i := 9) (n := (υ.k + 1, 4)) (e := 66) (ds := (ltDV L1).cells) ?_ ?_) ?_; (focus (simp only [go_sem, ]; done)); (focus (simp only [go_sem, ]; done)); simp only [go_sem, ]) | refine aQ fun K hK => ?_ | ((first | refine aK fun R hR => ?_ | refine aD mixed fun R hR => ?_); simp only [go_sem, u1, u2, u3, u4, u40, u41, u42, hz3, Int.toNat_zero]) | ((first | (refine hR _ ?_; clear hR R) | refine aZ rfl ?_); try refine aP ?_) | ((repeat (fail_if_success refine hK _ ?_); clear hK K); refine hK _ ?_; clear hK K) | refine aT ?_ | refine aF ?_ | refine aB ?_ | refine aN ?_ | fail)
       have l47 : boolsD.length = 2 := rfl
       refine awp_loop (fun ν => ∃ (q : Nat) (x47 : Nm), ν.t 1 = .el (.st [iD 1]) 0 ∧ ν.t 2 = .el (.st [.sl [.sl [ltDV L0], .sl [ltDV L1]]]) 0 ∧ ν.t 3 = .el (.st [iD 0]) 0 ∧ ν.t 4 = .ptr (k, 0) 0 ∧ ν.t 27 = iA 1 ∧ ν.t 28 = iA 0 ∧ ν.t 5 = .el (.st [iD 0]) 0 ∧ ν.t 31 = .own x31 boolsD ∧ ν.t 32 = iA 2 ∧ ν.t 33 = iA j ∧ ν.t 7 = .el (.st [bD (decide (j = 1))]) 0 ∧ ν.t 40 = .d (.sl [ltDV L1]) ∧ ν.t 41 = iA 1 ∧ ν.t 42 = iA 0 ∧ ν.t 8 = .el (.st [iD 0]) 0 ∧ ν.t 9 = .el (.st (ltDV L1).cells) 0 ∧ ν.t 47 = .own x47 boolsD ∧ ν.t 48 = iA 2 ∧ ν.t 49 = iA q ∧
        Ag (k + 1) ((k, 0) :: N) (yO (k, 0) l (O (3 * j + (if q = 0 then 0 else q + 1)))) ν.h ∧ FrN k N h0 ν.h ∧ k < ν.k ∧ q ≤ 2) (fun ν => 2 - (intOf' (ν.t 49)).toNat) ?_ ?_
       ·refine ⟨0, (υ.k + 1 + 1, 0), ?_⟩
        simp only [go_sem, u1, u2, u3, u4, u27, u28, u5, u31, u32, u33, u7, u40, u41, u42]
        and_intros; all_goals try (first | rfl | omega | assumption | exact anA)
        all_goals first | ((repeat (first | assumption | exact Ag.stN (by assumption) _ _ | refine Ag.updk ?_ (by omega) _)); done) | ((repeat (first | exact FrN.rfl' _ _ _ | assumption | refine FrN.updk ?_ (by omega) _ | refine FrN.stH ?_ _ | refine FrN.stY ?_ _)); done)
       ·rintro ν ⟨q, x47, v1, v2, v3, v4, v27, v28, v5, v31, v32, v33, v7, v40, v41, v42, v8, v9, v47, v48, v49, vA, vF, vk, vq⟩
        match q with
        | 2 =>
         have hz4 : ¬ (((2 : Nat) : Int) < 2) := by decide
         repeat' (first | refine aQ fun K hK => ?_ | ((first | refine aK fun R hR => ?_ | refine aD mixed fun R hR => ?_); simp only [go_sem, v48, v49, v42, hz4]) | ((first | (refine hR _ ?_; clear hR R) | refine aZ rfl ?_); try refine aP ?_) | ((repeat (fail_if_success refine hK _ ?_); clear hK K); refine hK _ ?_; clear hK K) | refine aT ?_ | refine aF ?_ | refine aB ?_ | refine aN ?_ | fail)
         refine ⟨⟨1, ?_⟩, ?_⟩
         ·simp only [go_sem, v1, v2, v3, v4, v27, v28, v5, v31, v32, v33, v7, v40, v41, v42]
          and_intros; all_goals try (first | rfl | omega | assumption | exact anA)
          all_goals first | ((repeat (first | assumption | exact Ag.stN (by assumption) _ _ | refine Ag.updk ?_ (by omega) _)); done) | ((repeat (first | exact FrN.rfl' _ _ _ | assumption | refine FrN.updk ?_ (by omega) _ | refine FrN.stH ?_ _ | refine FrN.stY ?_ _)); done)
         ·simp only [go_sem, v42, u42]; try decide
        | 0 =>
         replace v49 : ν.t 49 = iA 0 := v49
         have hz4 : ((0 : Int) < 2) := by decide
         have e47 : boolsD.getD 0 default = bD false := rfl
         have hS : Tri Tryz.prog 98 [.d (ltDV L1), bA false] (pure' (.tup [.d (tmDV L1.a), .d (tmDV L1.b)])) := ifSides_tri L1 false
         have hW := W0 j hj
         unfold tryC at hW
         have hN1 := notN vA (k' := ν.k) (by omega)
         repeat' (first | (refine awp_ghost (ghost_el (i := 11) (n := (ν.k + 1, 2)) (e := 4) (ds := [bD false]) ?_ ?_) ?_; (focus (simp only [go_sem, ]; done)); (focus (simp only [go_sem, ]; done)); simp only [go_sem, ]) | refine aQ fun K hK => ?_ | ((first | refine aK fun R hR => ?_ | refine aD mixed fun R hR => ?_); simp only [go_sem, v1, v2, v3, v4, v5, v7, v8, v9, v47, v48, v49, hz4, e47, l47, hN1, Int.toNat_zero]) | ((first | (refine hR _ ?_; clear hR R) | refine aZ rfl ?_); try refine aP ?_) | ((repeat (fail_if_success refine hK _ ?_); clear hK K); refine hK _ ?_; clear hK K) | refine aT ?_ | refine aF ?_ | refine aB ?_ | ((first | refine CallK.pure (enter98) (hS) ?_ ?_ | refine CallD.pure (enter98) (hS) ?_ ?_ | refine CallK.chg (enter89) (hW) ?_ (by assumption) frA ?_ | refine CallD.chg (enter89) (hW) ?_ (by assumption) frA (by assumption) ?_); (focus exact aC); simp only [go_sem, v1, v2, v3, v4, v5, v7, v8, v9, v47, v48, v49, hz4, e47, l47, hN1, Int.toNat_zero]) | refine aN ?_ | fail)
         refine ⟨⟨1, x47, ?_⟩, ?_⟩
         ·simp only [go_sem, v1, v2, v3, v4, v27, v28, v5, v31, v32, v33, v7, v40, v41, v42, v8, v9, v47, v48, v49]
          and_intros; all_goals try (first | rfl | omega | assumption | exact anA)
          all_goals first | exact Ag.stN (fun n hn => (vA.get n hn).1) _ _ | ((repeat (first | assumption | exact Ag.stN (by assumption) _ _ | refine Ag.updk ?_ (by omega) _)); done) | ((repeat (first | exact FrN.rfl' _ _ _ | assumption | refine FrN.updk ?_ (by omega) _ | refine FrN.stH ?_ _ | refine FrN.stY ?_ _)); done)
         ·simp only [go_sem, v49]; try decide
        | 1 =>
         replace v49 : ν.t 49 = iA 1 := v49
         have hz4 : ((1 : Int) < 2) := by decide
         have e47 : boolsD.getD 1 default = bD true := rfl
         have hS : Tri Tryz.prog 98 [.d (ltDV L1), bA true] (pure' (.tup [.d (tmDV L1.b), .d (tmDV L1.a)])) := ifSides_tri L1 true
         have hW := W1 j hj
         unfold tryC at hW
         have hN1 := notN vA (k' := ν.k) (by omega)
         repeat' (first | (refine awp_ghost (ghost_el (i := 11) (n := (ν.k + 1, 2)) (e := 4) (ds := [bD true]) ?_ ?_) ?_; (focus (simp only [go_sem, ]; done)); (focus (simp only [go_sem, ]; done)); simp only [go_sem, ]) | refine aQ fun K hK => ?_ | ((first | refine aK fun R hR => ?_ | refine aD mixed fun R hR => ?_); simp only [go_sem, v1, v2, v3, v4, v5, v7, v8, v9, v47, v48, v49, hz4, e47, l47, hN1, Int.toNat_one]) | ((first | (refine hR _ ?_; clear hR R) | refine aZ rfl ?_); try refine aP ?_) | ((repeat (fail_if_success refine hK _ ?_); clear hK K); refine hK _ ?_; clear hK K) | refine aT ?_ | refine aF ?_ | refine aB ?_ | ((first | refine CallK.pure (enter98) (hS) ?_ ?_ | refine CallD.pure (enter98) (hS) ?_ ?_ | refine CallK.chg (enter89) (hW) ?_ (by assumption) frA ?_ | refine CallD.chg (enter89) (hW) ?_ (by assumption) frA (by assumption) ?_); (focus exact aC); simp only [go_sem, v1, v2, v3, v4, v5, v7, v8, v9, v47, v48, v49, hz4, e47, l47, hN1, Int.toNat_one]) | refine aN ?_ | fail)
         refine ⟨⟨2, x47, ?_⟩, ?_⟩
         ·simp only [go_sem, v1, v2, v3, v4, v27, v28, v5, v31, v32, v33, v7, v40, v41, v42, v8, v9, v47, v48, v49]
          and_intros; all_goals try (first | rfl | omega | assumption | exact anA)
          all_goals first | exact Ag.stN (fun n hn => (vA.get n hn).1) _ _ | ((repeat (first | assumption | exact Ag.stN (by assumption) _ _ | refine Ag.updk ?_ (by omega) _)); done) | ((repeat (first | exact FrN.rfl' _ _ _ | assumption | refine FrN.updk ?_ (by omega) _ | refine FrN.stH ?_ _ | refine FrN.stY ?_ _)); done)
         ·simp only [go_sem, v49]; try decide
        | q + 3 => omega
      | b + 2 => omega
    ·obtain rfl : j = 2 := by omega
     have hz2 : ¬ (((2 : Nat) : Int) < 2) := by decide
     repeat' (first | refine aQ fun K hK => ?_ | ((first | refine aK fun R hR => ?_ | refine aD mixed fun R hR => ?_); simp only [go_sem, t32, t33, t28, hz2]) | ((first | (refine hR _ ?_; clear hR R) | refine aZ rfl ?_); try refine aP ?_) | ((repeat (fail_if_success refine hK _ ?_); clear hK K); refine hK _ ?_; clear hK K) | refine aT ?_ | refine aF ?_ | refine aB ?_ | refine aN ?_ | fail)
     refine ⟨⟨1, ?_⟩, ?_⟩
     ·simp only [go_sem, t1, t2, t3, t4, t27, t28]
      and_intros; all_goals try (first | rfl | omega | assumption | exact anA)
      all_goals first | ((repeat (first | assumption | exact Ag.stN (by assumption) _ _ | refine Ag.updk ?_ (by omega) _)); done) | ((repeat (first | exact FrN.rfl' _ _ _ | assumption | refine FrN.updk ?_ (by omega) _ | refine FrN.stH ?_ _ | refine FrN.stY ?_ _)); done)
     ·simp only [go_sem, s28, t28]; decide
  | i + 2 => omega
end Go.Proofs.YtmeekpinkfpnhabGreat
