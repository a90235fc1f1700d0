/- Texts read: what catches the reader where it gives up. -/
import Derived.Test.YtmeekpinkfpnhabDoorP10
import Derived.Test.YtmeekpinkfpnhabDoorP17
set_option linter.all false
namespace Go.Proofs.YtmeekpinkfpnhabDoor
open Go.RowKit
set_option maxHeartbeats 16000000 in
set_option maxRecDepth 20000 in
theorem term_bad5 (l : By) (hl : l.length ≤ 4000000) (f : Nat) (ih : RdTSpec l f) (ihb : RdTBad l f) (b : Nm) (i n j : Nat) (hi : i ≤ l.length) (hfu : l.length - i < f + 1) (hX : hasAt l i [88] = false) (hf : hasAt l i [102] = true) (hn : rdN l (i + 1) = some (n, j)) (hp : hasAt l j [40] = true) (ha : rdA (rdT l f) l 4 (j + 1) [] = none) : TriP Tryd.prog CH 33 [.ptr b 0] b (rdO l i) := by
 have h1 := hasAt_le hf hi
 simp only [List.length_cons, List.length_nil] at h1
 have h2 := rdN_le hn h1
 have h3 := hasAt_le hp h2.2
 simp only [List.length_cons, List.length_nil] at h3
 refine triP_enter Tryd.func33 rfl Tryd.ntmps33 (by simp only [List.length_cons, List.length_nil]; omega) fun w0 h0 k hh hbk => ?_
 rw [rdO_eq] at hh
 have qb := nmne hbk
 have hT := take_no b l [88] i hl hi hX
 have hT2 := take_yes b l [102] i hl hi (by decide) hf
 have hM := number_tri b l (i + 1) n j hl (by omega) hn
 have hT3 := take_yes b l [40] j hl h2.2 (by decide) hp
 repeat' (first | (refine awp_ghost (ghost_boxN (b := (k + 1 + 1 + 1, 3)) (e := 27) (e' := 27) (cs := [iA 0, iA n, .nil]) 2 ?_ rfl) ?_; (focus (simp only [go_sem, qb]; done)); simp only [go_sem]) | refine awp_seq_k fun K hK => ?_ | ((first | refine awp_region_k (by kernel_rfl) fun R hR => ?_ | refine awp_draw mixed (by kernel_rfl) (by kernel_rfl) fun R hR => ?_); simp only [go_sem, qb]) | ((first | (refine hR _ ?_; clear hR R) | refine awp_skip ?_ | refine awp_exit ?_ | refine awp_ret ?_); try simp only [thenA, inBlockA, reduceIte, reduceCtorEq, Nat.reduceEqDiff, if_false, if_true]) | ((first | refine hK _ ?_ | (clear hK K; first | refine hK _ ?_ | (clear hK K; first | refine hK _ ?_ | (clear hK K; first | refine hK _ ?_ | (clear hK K; refine hK _ ?_))))); clear hK K) | refine awp_true rfl rfl ?_ | refine awp_false rfl rfl ?_ | refine awp_block ?_ | ((first | refine CallK.chg (enter49) (hT) ?_ (agRd hbk (by first | (simp only [go_sem, hh, qb, rdO]; done) | fail)) (Fr.rfl' _ _) ?_ | refine CallD.chg (enter49) (hT) ?_ (agRd hbk (by first | (simp only [go_sem, hh, qb, rdO]; done) | fail)) (Fr.rfl' _ _) (by first | assumption | exact List.cons_ne_nil _ _) ?_); (focus first | ((repeat (first | exact trivial | refine ⟨(by first | exact Or.inl rfl | exact Or.inr rfl), ?_⟩)); done) | (simp only [coL, AV.dat, true_or, or_true, AV.d.injEq, go_sem]; done)); simp only [go_sem, qb]) | ((first | refine CallK.chg (enter49) (hT2) ?_ (agRd hbk (by first | (simp only [go_sem, hh, qb, rdO]; done) | fail)) (Fr.rfl' _ _) ?_ | refine CallD.chg (enter49) (hT2) ?_ (agRd hbk (by first | (simp only [go_sem, hh, qb, rdO]; done) | fail)) (Fr.rfl' _ _) (by first | assumption | exact List.cons_ne_nil _ _) ?_); (focus first | ((repeat (first | exact trivial | refine ⟨(by first | exact Or.inl rfl | exact Or.inr rfl), ?_⟩)); done) | (simp only [coL, AV.dat, true_or, or_true, AV.d.injEq, go_sem]; done)); simp only [go_sem, qb]) | ((first | refine CallK.chg (enter49) (hT3) ?_ (agRd hbk (by first | (simp only [go_sem, hh, qb, rdO]; done) | fail)) (Fr.rfl' _ _) ?_ | refine CallD.chg (enter49) (hT3) ?_ (agRd hbk (by first | (simp only [go_sem, hh, qb, rdO]; done) | fail)) (Fr.rfl' _ _) (by first | assumption | exact List.cons_ne_nil _ _) ?_); (focus first | ((repeat (first | exact trivial | refine ⟨(by first | exact Or.inl rfl | exact Or.inr rfl), ?_⟩)); done) | (simp only [coL, AV.dat, true_or, or_true, AV.d.injEq, go_sem]; done)); simp only [go_sem, qb]) | ((first | refine CallK.chg (enter50) (hM) ?_ (agRd hbk (by first | (simp only [go_sem, hh, qb, rdO]; done) | fail)) (Fr.rfl' _ _) ?_ | refine CallD.chg (enter50) (hM) ?_ (agRd hbk (by first | (simp only [go_sem, hh, qb, rdO]; done) | fail)) (Fr.rfl' _ _) (by first | assumption | exact List.cons_ne_nil _ _) ?_); (focus first | ((repeat (first | exact trivial | refine ⟨(by first | exact Or.inl rfl | exact Or.inr rfl), ?_⟩)); done) | (simp only [coL, AV.dat, true_or, or_true, AV.d.injEq, go_sem]; done)); simp only [go_sem, qb]) | ((first | refine CallK.pure (enter48) (need_tri b) ?_ ?_ | refine CallD.pure (enter48) (need_tri b) ?_ ?_); (focus first | ((repeat (first | exact trivial | refine ⟨(by first | exact Or.inl rfl | exact Or.inr rfl), ?_⟩)); done) | (simp only [coL, AV.dat, true_or, or_true, AV.d.injEq, go_sem]; done)); simp only [go_sem, qb]) | refine And.intro (by first | ((repeat' first | omega | exact trivial | rfl | assumption | (intro a e; subst e; rfl) | exact map_sz fun a => (by simp only [go_sem]) | refine And.intro ?_ ?_); done) | fail) ?_ | fail)
 refine awp_loop (fun σ => ∃ (q i' : Nat) (acc : List Tm), σ.t 0 = .ptr b 0 ∧ σ.t 2 = .ptr (k, 0) 0 ∧ σ.t 4 = .ptr (k + 1 + 1 + 1, 3) 0 ∧ σ.h (k, 0) = some (.cells 27 [iA 0, iA 0, .nil]) ∧ σ.h (k + 1 + 1 + 1, 3) = some (.cells 27 [iA 0, iA n, .own (k + 1 + 1 + 1 + 1, 0) (acc.map tmDV)]) ∧ σ.h (k + 1 + 1 + 1 + 1, 0) = some (.perm 27 acc.length) ∧ σ.h b = some (.cells 86 [sA l, iA i']) ∧ FrN k [b] h0 σ.h ∧ k + 1 + 1 + 1 + 1 < σ.k ∧ i' ≤ l.length ∧ i < i' ∧ q + acc.length = 4 ∧ acc.length ≤ 3 ∧ rdA (rdT l f) l q i' acc = none) (fun σ => 4 - permLen σ.h (k + 1 + 1 + 1 + 1, 0)) ?_ ?_
 ·refine ⟨4, j + 1, [], ?_⟩
  simp only [go_sem, qb, rdO]
  and_intros; all_goals try (first | rfl | omega | assumption | ((repeat (first | exact Fr.rfl' _ _ | assumption | refine Fr.updk ?_ (by omega) _)); done))
  exact (by repeat (first | exact FrN.rfl' _ _ _ | assumption | refine FrN.updk ?_ (by omega) _ | refine FrN.stH ?_ _))
 ·rintro σ ⟨q, i', acc, s0, s2, s4, sh, shb, sp, sr, hF, hk, hi', hii, hq, hacc, hA⟩
  have qb := nmne (show b.1 < σ.k by omega)
  have qb2 := nmne hbk
  have hne0 := ltne (show k < σ.k by omega)
  have hne1 := ltne (show k + 1 + 1 + 1 < σ.k by omega)
  have hne2 := ltne hk
  have hbk' : b.1 < σ.k := by omega
  cases q with
  | zero => omega
  | succ q =>
   rw [rdA] at hA
   cases hR : rdT l f i' with
   | none =>
    have hC := ihb b i' hi' (by omega) hR
    repeat' (first | (refine awp_anyB (ch := CH) (id := 9) (q := 3) mixed (by kernel_rfl) rfl ?_; refine anyB_three (f := 4) rfl (by kernel_rfl) (by kernel_rfl) (by kernel_rfl) (by kernel_rfl) (by kernel_rfl) (by kernel_rfl) (by kernel_rfl) (by kernel_rfl) (by kernel_rfl) (by kernel_rfl) ?_ ?_ ?_ ?_ ?_ ?_ ?_ ?_ ?_ ?_ ?_ ?_ ?_ ?_) | refine awp_seq_k fun K hK => ?_ | ((first | refine awp_region_k (by kernel_rfl) fun R hR => ?_ | refine awp_draw mixed (by kernel_rfl) (by kernel_rfl) fun R hR => ?_); simp only [go_sem, s0, s2, s4, sh, shb, sp, sr, qb, qb2, hne0, hne1, hne2]) | ((first | (refine hR _ ?_; clear hR R) | refine awp_skip ?_ | refine awp_exit ?_ | refine awp_ret ?_); try simp only [thenA, inBlockA, reduceIte, reduceCtorEq, Nat.reduceEqDiff, if_false, if_true]) | ((first | refine hK _ ?_ | (clear hK K; first | refine hK _ ?_ | (clear hK K; first | refine hK _ ?_ | (clear hK K; first | refine hK _ ?_ | (clear hK K; refine hK _ ?_))))); clear hK K) | refine awp_true rfl rfl ?_ | refine awp_false rfl rfl ?_ | refine awp_block ?_ | refine And.intro (by first | ((repeat' first | omega | exact trivial | rfl | assumption | (intro a e; subst e; rfl) | exact map_sz fun a => (by simp only [go_sem]) | refine And.intro ?_ ?_); done) | fail) ?_ | fail)
    all_goals (try simp only [pst, go_sem, s0, s2, s4, sh, shb, sp, sr, qb, qb2, hne0, hne1, hne2])
    all_goals first
     | done
     | (refine BoomK.mk1 (enter33) hC ?_ ?_ ?_ <;> (try simp only [thenA, inBlockA, panQ, reduceIte, reduceCtorEq, true_and, coL, AV.dat, true_or, or_true, go_sem, s0, sr, qb, qb2]); (focus rfl); exact FrN.updn hF (List.mem_singleton.2 rfl) _)
     | (repeat' first | omega | exact trivial | rfl | refine And.intro ?_ ?_ | refine ⟨_, rfl, ?_, ?_⟩; done)
   | some p =>
    obtain ⟨t, j'⟩ := p
    rw [hR] at hA
    simp only at hA
    have hC := ih b i' t j' hi' hR
    obtain ⟨g1, g2⟩ := rdT_le l f i' t j' hi' hR
    have eap : acc.map tmDV ++ [tmDV t] = (acc ++ [t]).map tmDV := by simp
    have eal : (acc ++ [t]).length = acc.length + 1 := by simp
    by_cases h3' : acc.length + 1 > 3
    ·have hlen : decide (((acc.length + 1 : Nat) : Int) ≤ 3) = false := by simp; omega
     repeat' (first | (refine awp_boom (ch := CH) (id := 10) 5 (by kernel_rfl) rfl fun R hR => ?_; simp only [go_sem, List.take_succ_cons, List.take_zero, s0, s2, s4, sh, shb, sp, sr, qb, qb2, hne0, hne1, hne2, hlen, eap, eal, List.length_map, Int.toNat_natCast]) | refine awp_seq_k fun K hK => ?_ | ((first | refine awp_region_k (by kernel_rfl) fun R hR => ?_ | refine awp_draw mixed (by kernel_rfl) (by kernel_rfl) fun R hR => ?_); simp only [go_sem, s0, s2, s4, sh, shb, sp, sr, qb, qb2, hne0, hne1, hne2, hlen, eap, eal, List.length_map, Int.toNat_natCast]) | ((first | (refine hR _ ?_; clear hR R) | refine awp_skip ?_ | refine awp_exit ?_ | refine awp_ret ?_); try simp only [thenA, inBlockA, reduceIte, reduceCtorEq, Nat.reduceEqDiff, if_false, if_true]) | ((first | refine hK _ ?_ | (clear hK K; first | refine hK _ ?_ | (clear hK K; first | refine hK _ ?_ | (clear hK K; first | refine hK _ ?_ | (clear hK K; refine hK _ ?_))))); clear hK K) | refine awp_true rfl rfl ?_ | refine awp_false rfl rfl ?_ | refine awp_block ?_ | ((first | refine CallK.chg (enter33) (hC) ?_ (agRd hbk' (by first | (simp only [go_sem, sr, qb, qb2, rdO]; done) | fail)) (Fr.rfl' _ _) ?_ | refine CallD.chg (enter33) (hC) ?_ (agRd hbk' (by first | (simp only [go_sem, sr, qb, qb2, rdO]; done) | fail)) (Fr.rfl' _ _) (by first | assumption | exact List.cons_ne_nil _ _) ?_); (focus first | ((repeat (first | exact trivial | refine ⟨(by first | exact Or.inl rfl | exact Or.inr rfl), ?_⟩)); done) | (simp only [coL, AV.dat, true_or, or_true, AV.d.injEq, go_sem]; done)); simp only [go_sem, s0, s2, s4, sh, shb, sp, sr, qb, qb2, hne0, hne1, hne2, hlen, eap, eal, List.length_map, Int.toNat_natCast]) | refine And.intro (by first | ((repeat' first | omega | exact trivial | rfl | assumption | (intro a e; subst e; rfl) | exact map_sz fun a => (by simp only [go_sem]) | refine And.intro ?_ ?_); done) | fail) ?_ | fail)
     refine BoomK.mk1 (enter48) (need_boom b (.cells 86 [sA l, iA j'])) ?_ ?_ ?_
     focus first | ((repeat (first | exact trivial | refine ⟨(by first | exact Or.inl rfl | exact Or.inr rfl), ?_⟩)); done) | (simp only [coL, AV.dat, true_or, or_true, AV.d.injEq, go_sem, s0, s2, s4, sh, shb, sp, sr, qb, qb2, hne0, hne1, hne2]; done)
     focus first | (simp only [go_sem, s0, s2, s4, sh, shb, sp, sr, qb, qb2, hne0, hne1, hne2]; done) | (simp only [go_sem, s0, s2, s4, sh, shb, sp, sr, qb, qb2, hne0, hne1, hne2]; rfl) | assumption
     simp only [thenA, inBlockA, panQ, reduceIte, reduceCtorEq, true_and]
     repeat (first | exact FrN.rfl' _ _ _ | assumption | refine FrN.updk ?_ (by first | omega | fail) _ | refine FrN.updn ?_ (by first | (simp; done) | fail) _ | refine FrN.stH ?_ _)
    ·rw [if_neg h3'] at hA
     have hlen : decide (((acc.length + 1 : Nat) : Int) ≤ 3) = true := by simp; omega
     cases hcm : hasAt l j' [44] with
     | true =>
      have g3 := hasAt_le hcm g2
      simp only [List.length_cons, List.length_nil] at g3
      rw [if_pos hcm] at hA
      have hT := take_yes b l [44] j' hl g2 (by decide) hcm
      repeat' (first | refine awp_seq_k fun K hK => ?_ | ((first | refine awp_region_k (by kernel_rfl) fun R hR => ?_ | refine awp_draw mixed (by kernel_rfl) (by kernel_rfl) fun R hR => ?_); simp only [go_sem, s0, s2, s4, sh, shb, sp, sr, qb, qb2, hne0, hne1, hne2, hlen, eap, eal, List.length_map, Int.toNat_natCast]) | ((first | (refine hR _ ?_; clear hR R) | refine awp_skip ?_ | refine awp_exit ?_ | refine awp_ret ?_); try simp only [thenA, inBlockA, reduceIte, reduceCtorEq, Nat.reduceEqDiff, if_false, if_true]) | ((first | refine hK _ ?_ | (clear hK K; first | refine hK _ ?_ | (clear hK K; first | refine hK _ ?_ | (clear hK K; first | refine hK _ ?_ | (clear hK K; refine hK _ ?_))))); clear hK K) | refine awp_true rfl rfl ?_ | refine awp_false rfl rfl ?_ | refine awp_block ?_ | ((first | refine CallK.chg (enter33) (hC) ?_ (agRd hbk' (by first | (simp only [go_sem, sr, qb, qb2, rdO]; done) | fail)) (Fr.rfl' _ _) ?_ | refine CallD.chg (enter33) (hC) ?_ (agRd hbk' (by first | (simp only [go_sem, sr, qb, qb2, rdO]; done) | fail)) (Fr.rfl' _ _) (by first | assumption | exact List.cons_ne_nil _ _) ?_); (focus first | ((repeat (first | exact trivial | refine ⟨(by first | exact Or.inl rfl | exact Or.inr rfl), ?_⟩)); done) | (simp only [coL, AV.dat, true_or, or_true, AV.d.injEq, go_sem]; done)); simp only [go_sem, s0, s2, s4, sh, shb, sp, sr, qb, qb2, hne0, hne1, hne2, hlen, eap, eal, List.length_map, Int.toNat_natCast]) | ((first | refine CallK.chg (enter49) (hT) ?_ (agRd hbk' (by first | (simp only [go_sem, sr, qb, qb2, rdO]; done) | fail)) (Fr.rfl' _ _) ?_ | refine CallD.chg (enter49) (hT) ?_ (agRd hbk' (by first | (simp only [go_sem, sr, qb, qb2, rdO]; done) | fail)) (Fr.rfl' _ _) (by first | assumption | exact List.cons_ne_nil _ _) ?_); (focus first | ((repeat (first | exact trivial | refine ⟨(by first | exact Or.inl rfl | exact Or.inr rfl), ?_⟩)); done) | (simp only [coL, AV.dat, true_or, or_true, AV.d.injEq, go_sem]; done)); simp only [go_sem, s0, s2, s4, sh, shb, sp, sr, qb, qb2, hne0, hne1, hne2, hlen, eap, eal, List.length_map, Int.toNat_natCast]) | ((first | refine CallK.pure (enter48) (need_tri b) ?_ ?_ | refine CallD.pure (enter48) (need_tri b) ?_ ?_); (focus first | ((repeat (first | exact trivial | refine ⟨(by first | exact Or.inl rfl | exact Or.inr rfl), ?_⟩)); done) | (simp only [coL, AV.dat, true_or, or_true, AV.d.injEq, go_sem]; done)); simp only [go_sem, s0, s2, s4, sh, shb, sp, sr, qb, qb2, hne0, hne1, hne2, hlen, eap, eal, List.length_map, Int.toNat_natCast]) | refine And.intro (by first | ((repeat' first | omega | exact trivial | rfl | assumption | (intro a e; subst e; rfl) | exact map_sz fun a => (by simp only [go_sem]) | refine And.intro ?_ ?_); done) | fail) ?_ | fail)
      refine ⟨⟨q, j' + 1, acc ++ [t], ?_⟩, ?_⟩
      rotate_left
      ·simp only [permLen, go_sem, sp, qb, qb2, hne0, hne1, hne2, eal]; omega
      simp only [go_sem, s0, s2, s4, sh, shb, sp, sr, qb, qb2, hne0, hne1, hne2, eap, eal, List.length_map, rdO]
      and_intros; all_goals try (first | rfl | omega | assumption | ((repeat (first | exact Fr.rfl' _ _ | assumption | refine Fr.updk ?_ (by omega) _)); done))
      exact (by repeat (first | exact FrN.rfl' _ _ _ | assumption | refine FrN.updk ?_ (by omega) _ | refine FrN.stH ?_ _))
     | false =>
      rw [if_neg (by simp [hcm])] at hA
      cases hcp : hasAt l j' [41] with
      | true => rw [if_pos hcp] at hA; cases hA
      | false =>
       have hT := take_no b l [44] j' hl g2 hcm
       have hT2 := take_no b l [41] j' hl g2 hcp
       repeat' (first | (refine awp_boom (ch := CH) (id := 12) 3 (by kernel_rfl) rfl fun R hR => ?_; simp only [go_sem, List.take_succ_cons, List.take_zero, s0, s2, s4, sh, shb, sp, sr, qb, qb2, hne0, hne1, hne2, hlen, eap, eal, List.length_map, Int.toNat_natCast]) | refine awp_seq_k fun K hK => ?_ | ((first | refine awp_region_k (by kernel_rfl) fun R hR => ?_ | refine awp_draw mixed (by kernel_rfl) (by kernel_rfl) fun R hR => ?_); simp only [go_sem, s0, s2, s4, sh, shb, sp, sr, qb, qb2, hne0, hne1, hne2, hlen, eap, eal, List.length_map, Int.toNat_natCast]) | ((first | (refine hR _ ?_; clear hR R) | refine awp_skip ?_ | refine awp_exit ?_ | refine awp_ret ?_); try simp only [thenA, inBlockA, reduceIte, reduceCtorEq, Nat.reduceEqDiff, if_false, if_true]) | ((first | refine hK _ ?_ | (clear hK K; first | refine hK _ ?_ | (clear hK K; first | refine hK _ ?_ | (clear hK K; first | refine hK _ ?_ | (clear hK K; refine hK _ ?_))))); clear hK K) | refine awp_true rfl rfl ?_ | refine awp_false rfl rfl ?_ | refine awp_block ?_ | ((first | refine CallK.chg (enter33) (hC) ?_ (agRd hbk' (by first | (simp only [go_sem, sr, qb, qb2, rdO]; done) | fail)) (Fr.rfl' _ _) ?_ | refine CallD.chg (enter33) (hC) ?_ (agRd hbk' (by first | (simp only [go_sem, sr, qb, qb2, rdO]; done) | fail)) (Fr.rfl' _ _) (by first | assumption | exact List.cons_ne_nil _ _) ?_); (focus first | ((repeat (first | exact trivial | refine ⟨(by first | exact Or.inl rfl | exact Or.inr rfl), ?_⟩)); done) | (simp only [coL, AV.dat, true_or, or_true, AV.d.injEq, go_sem]; done)); simp only [go_sem, s0, s2, s4, sh, shb, sp, sr, qb, qb2, hne0, hne1, hne2, hlen, eap, eal, List.length_map, Int.toNat_natCast]) | ((first | refine CallK.chg (enter49) (hT) ?_ (agRd hbk' (by first | (simp only [go_sem, sr, qb, qb2, rdO]; done) | fail)) (Fr.rfl' _ _) ?_ | refine CallD.chg (enter49) (hT) ?_ (agRd hbk' (by first | (simp only [go_sem, sr, qb, qb2, rdO]; done) | fail)) (Fr.rfl' _ _) (by first | assumption | exact List.cons_ne_nil _ _) ?_); (focus first | ((repeat (first | exact trivial | refine ⟨(by first | exact Or.inl rfl | exact Or.inr rfl), ?_⟩)); done) | (simp only [coL, AV.dat, true_or, or_true, AV.d.injEq, go_sem]; done)); simp only [go_sem, s0, s2, s4, sh, shb, sp, sr, qb, qb2, hne0, hne1, hne2, hlen, eap, eal, List.length_map, Int.toNat_natCast]) | ((first | refine CallK.chg (enter49) (hT2) ?_ (agRd hbk' (by first | (simp only [go_sem, sr, qb, qb2, rdO]; done) | fail)) (Fr.rfl' _ _) ?_ | refine CallD.chg (enter49) (hT2) ?_ (agRd hbk' (by first | (simp only [go_sem, sr, qb, qb2, rdO]; done) | fail)) (Fr.rfl' _ _) (by first | assumption | exact List.cons_ne_nil _ _) ?_); (focus first | ((repeat (first | exact trivial | refine ⟨(by first | exact Or.inl rfl | exact Or.inr rfl), ?_⟩)); done) | (simp only [coL, AV.dat, true_or, or_true, AV.d.injEq, go_sem]; done)); simp only [go_sem, s0, s2, s4, sh, shb, sp, sr, qb, qb2, hne0, hne1, hne2, hlen, eap, eal, List.length_map, Int.toNat_natCast]) | ((first | refine CallK.pure (enter48) (need_tri b) ?_ ?_ | refine CallD.pure (enter48) (need_tri b) ?_ ?_); (focus first | ((repeat (first | exact trivial | refine ⟨(by first | exact Or.inl rfl | exact Or.inr rfl), ?_⟩)); done) | (simp only [coL, AV.dat, true_or, or_true, AV.d.injEq, go_sem]; done)); simp only [go_sem, s0, s2, s4, sh, shb, sp, sr, qb, qb2, hne0, hne1, hne2, hlen, eap, eal, List.length_map, Int.toNat_natCast]) | refine And.intro (by first | ((repeat' first | omega | exact trivial | rfl | assumption | (intro a e; subst e; rfl) | exact map_sz fun a => (by simp only [go_sem]) | refine And.intro ?_ ?_); done) | fail) ?_ | fail)
       refine BoomK.mk1 (enter48) (need_boom b (.cells 86 [sA l, iA j'])) ?_ ?_ ?_
       focus first | ((repeat (first | exact trivial | refine ⟨(by first | exact Or.inl rfl | exact Or.inr rfl), ?_⟩)); done) | (simp only [coL, AV.dat, true_or, or_true, AV.d.injEq, go_sem, s0, s2, s4, sh, shb, sp, sr, qb, qb2, hne0, hne1, hne2, rdO]; done)
       focus first | (simp only [go_sem, s0, s2, s4, sh, shb, sp, sr, qb, qb2, hne0, hne1, hne2, rdO]; done) | (simp only [go_sem, s0, s2, s4, sh, shb, sp, sr, qb, qb2, hne0, hne1, hne2, rdO]; rfl) | assumption
       simp only [thenA, inBlockA, panQ, reduceIte, reduceCtorEq, true_and]
       repeat (first | exact FrN.rfl' _ _ _ | assumption | refine FrN.updk ?_ (by first | omega | fail) _ | refine FrN.updn ?_ (by first | (simp; done) | fail) _ | refine FrN.stH ?_ _)
theorem term_boom (l : By) (hl : l.length ≤ 4000000) : ∀ f : Nat, RdTBad l f
 | 0 => fun b i hi h => by omega
 | f + 1 => fun b i hi hfu h => by
  rw [rdT] at h
  cases hX : hasAt l i [88] with
  | true =>
   rw [if_pos hX] at h
   cases hn : rdN l (i + 1) with
   | none => exact term_bad1 l hl b i hi hX hn
   | some p =>
    obtain ⟨n, j⟩ := p
    rw [hn] at h
    simp only at h
    by_cases hn0 : n > 0
    ·rw [if_pos hn0] at h; cases h
    ·exact term_bad2 l hl b i n j hi hX hn hn0
  | false =>
   rw [if_neg (by simp [hX])] at h
   cases hf : hasAt l i [102] with
   | false => exact term_bad3 l hl b i hi hX hf
   | true =>
    rw [if_pos hf] at h
    cases hn : rdN l (i + 1) with
    | none => exact term_bad4 l hl b i hi hX hf hn
    | some p =>
     obtain ⟨n, j⟩ := p
     rw [hn] at h
     simp only at h
     cases hp : hasAt l j [40] with
     | false => rw [if_neg (by simp [hp])] at h; cases h
     | true =>
      rw [if_pos hp] at h
      cases ha : rdA (rdT l f) l 4 (j + 1) [] with
      | some q => rw [ha] at h; cases h
      | none => exact term_bad5 l hl f (term_tri l hl f) (term_boom l hl f) b i n j hi (by omega) hX hf hn hp ha
set_option maxHeartbeats 16000000 in
set_option maxRecDepth 20000 in
theorem clause_bad (l : By) (hl : l.length ≤ 4000000) (f Q : Nat) (hQ : Q ≤ 4000000) (b : Nm) (i : Nat) (hi : i ≤ l.length) (hf : hasAt l i [36, 102, 97, 108, 115, 101] = false) (hfu : l.length < f) (hqu : l.length < Q) (hc : rdC l f Q i [] = none) : TriP Tryd.prog CH 36 [.ptr b 0] b (rdO l i) := by
 refine triP_enter Tryd.func36 rfl Tryd.ntmps36 (by simp only [List.length_cons, List.length_nil]; omega) fun w0 h0 k hh hbk => ?_
 rw [rdO_eq] at hh
 have qb := nmne hbk
 have hT := take_no b l [36, 102, 97, 108, 115, 101] i hl hi hf
 repeat' (first | refine awp_ghost (ghost_nil (i := 3) (e := 52) rfl) ?_ | refine awp_seq_k fun K hK => ?_ | ((first | refine awp_region_k (by kernel_rfl) fun R hR => ?_ | refine awp_draw mixed (by kernel_rfl) (by kernel_rfl) fun R hR => ?_); simp only [go_sem, qb]) | ((first | (refine hR _ ?_; clear hR R) | refine awp_skip ?_ | refine awp_exit ?_ | refine awp_ret ?_); try simp only [thenA, inBlockA, reduceIte, reduceCtorEq, Nat.reduceEqDiff, if_false, if_true]) | ((first | refine hK _ ?_ | (clear hK K; first | refine hK _ ?_ | (clear hK K; first | refine hK _ ?_ | (clear hK K; first | refine hK _ ?_ | (clear hK K; refine hK _ ?_))))); clear hK K) | refine awp_true rfl rfl ?_ | refine awp_false rfl rfl ?_ | refine awp_block ?_ | ((first | refine CallK.chg (enter49) (hT) ?_ (agRd hbk (by first | (simp only [go_sem, hh, qb, rdO]; done) | fail)) (Fr.rfl' _ _) ?_ | refine CallD.chg (enter49) (hT) ?_ (agRd hbk (by first | (simp only [go_sem, hh, qb, rdO]; done) | fail)) (Fr.rfl' _ _) (by first | assumption | exact List.cons_ne_nil _ _) ?_); (focus first | ((repeat (first | exact trivial | refine ⟨(by first | exact Or.inl rfl | exact Or.inr rfl), ?_⟩)); done) | (simp only [coL, AV.dat, true_or, or_true, AV.d.injEq, go_sem]; done)); simp only [go_sem, qb]) | refine And.intro (by first | ((repeat' first | omega | exact trivial | rfl | assumption | (intro a e; subst e; rfl) | exact map_sz fun a => (by simp only [go_sem]) | refine And.intro ?_ ?_); done) | fail) ?_ | fail)
 refine awp_loop (fun σ => ∃ (q i' : Nat) (acc : List Lt), σ.t 0 = .ptr b 0 ∧ σ.t 3 = .own (k + 1 + 1 + 1, 0) (acc.map ltDV) ∧ σ.h (k + 1 + 1 + 1, 0) = some (.perm 52 acc.length) ∧ σ.h b = some (.cells 86 [sA l, iA i']) ∧ FrN k [b] h0 σ.h ∧ k + 1 + 1 + 1 < σ.k ∧ i' ≤ l.length ∧ q + acc.length = Q ∧ l.length - i' < q ∧ rdC l f q i' acc = none) (fun σ => Q - permLen σ.h (k + 1 + 1 + 1, 0)) ?_ ?_
 ·refine ⟨Q, i, [], ?_⟩
  simp only [go_sem, qb, rdO, hh]
  and_intros; all_goals try (first | rfl | omega | assumption | ((repeat (first | exact Fr.rfl' _ _ | assumption | refine Fr.updk ?_ (by omega) _)); done))
  exact (by repeat (first | exact FrN.rfl' _ _ _ | assumption | refine FrN.updk ?_ (by omega) _ | refine FrN.stH ?_ _))
 ·rintro σ ⟨q, i', acc, s0, s3, sp, sr, hF, hk, hi', hq, hqi, hA⟩
  have qb := nmne (show b.1 < σ.k by omega)
  have qb2 := nmne hbk
  have hne2 := ltne hk
  have hbk' : b.1 < σ.k := by omega
  cases q with
  | zero => omega
  | succ q =>
   rw [rdC] at hA
   cases ha : rdT l f i' with
   | none =>
    have hC := term_boom l hl f b i' hi' (by omega) ha
    repeat' (first | (refine awp_boom (ch := CH) (id := 4) 1 (by kernel_rfl) rfl fun R hR => ?_; simp only [go_sem, List.take_succ_cons, List.take_zero, s0, s3, sp, sr, qb, qb2, hne2]) | refine awp_seq_k fun K hK => ?_ | ((first | refine awp_region_k (by kernel_rfl) fun R hR => ?_ | refine awp_draw mixed (by kernel_rfl) (by kernel_rfl) fun R hR => ?_); simp only [go_sem, s0, s3, sp, sr, qb, qb2, hne2]) | ((first | (refine hR _ ?_; clear hR R) | refine awp_skip ?_ | refine awp_exit ?_ | refine awp_ret ?_); try simp only [thenA, inBlockA, reduceIte, reduceCtorEq, Nat.reduceEqDiff, if_false, if_true]) | ((first | refine hK _ ?_ | (clear hK K; first | refine hK _ ?_ | (clear hK K; first | refine hK _ ?_ | (clear hK K; first | refine hK _ ?_ | (clear hK K; refine hK _ ?_))))); clear hK K) | refine awp_true rfl rfl ?_ | refine awp_false rfl rfl ?_ | refine awp_block ?_ | refine And.intro (by first | ((repeat' first | omega | exact trivial | rfl | assumption | (intro a e; subst e; rfl) | exact map_sz fun a => (by simp only [go_sem]) | refine And.intro ?_ ?_); done) | fail) ?_ | fail)
    refine BoomK.mk1 (enter33) (hC) ?_ ?_ ?_
    focus first | ((repeat (first | exact trivial | refine ⟨(by first | exact Or.inl rfl | exact Or.inr rfl), ?_⟩)); done) | (simp only [coL, AV.dat, true_or, or_true, AV.d.injEq, go_sem, s0, s3, sp, sr, qb, qb2, hne2, rdO]; done)
    focus first | (simp only [go_sem, s0, s3, sp, sr, qb, qb2, hne2, rdO]; done) | (simp only [go_sem, s0, s3, sp, sr, qb, qb2, hne2, rdO]; rfl) | assumption
    simp only [thenA, inBlockA, panQ, reduceIte, reduceCtorEq, true_and]
    repeat (first | exact FrN.rfl' _ _ _ | assumption | refine FrN.updk ?_ (by first | omega | fail) _ | refine FrN.updn ?_ (by first | (simp; done) | fail) _ | refine FrN.stH ?_ _)
   | some p =>
    obtain ⟨ta, ja⟩ := p
    have hCa := term_tri l hl f b i' ta ja hi' ha
    obtain ⟨u1, u2⟩ := rdT_le l f i' ta ja hi' ha
    cases hy : hasAt l ja [32, 61, 32] with
    | true =>
     have v1 := hasAt_le hy u2
     simp only [List.length_cons, List.length_nil] at v1
     have hT1 := take_yes b l [32, 61, 32] ja hl u2 (by decide) hy
     cases hbb : rdT l f (ja + 3) with
     | none =>
      have hC := term_boom l hl f b (ja + 3) v1 (by omega) hbb
      repeat' (first | (refine awp_boom (ch := CH) (id := 7) 1 (by kernel_rfl) rfl fun R hR => ?_; simp only [go_sem, List.take_succ_cons, List.take_zero, s0, s3, sp, sr, qb, qb2, hne2]) | refine awp_seq_k fun K hK => ?_ | ((first | refine awp_region_k (by kernel_rfl) fun R hR => ?_ | refine awp_draw mixed (by kernel_rfl) (by kernel_rfl) fun R hR => ?_); simp only [go_sem, s0, s3, sp, sr, qb, qb2, hne2]) | ((first | (refine hR _ ?_; clear hR R) | refine awp_skip ?_ | refine awp_exit ?_ | refine awp_ret ?_); try simp only [thenA, inBlockA, reduceIte, reduceCtorEq, Nat.reduceEqDiff, if_false, if_true]) | ((first | refine hK _ ?_ | (clear hK K; first | refine hK _ ?_ | (clear hK K; first | refine hK _ ?_ | (clear hK K; first | refine hK _ ?_ | (clear hK K; refine hK _ ?_))))); clear hK K) | refine awp_true rfl rfl ?_ | refine awp_false rfl rfl ?_ | refine awp_block ?_ | ((first | refine CallK.chg (enter33) (hCa) ?_ (agRd hbk' (by first | (simp only [go_sem, sr, qb, qb2, rdO]; done) | fail)) (Fr.rfl' _ _) ?_ | refine CallD.chg (enter33) (hCa) ?_ (agRd hbk' (by first | (simp only [go_sem, sr, qb, qb2, rdO]; done) | fail)) (Fr.rfl' _ _) (by first | assumption | exact List.cons_ne_nil _ _) ?_); (focus first | ((repeat (first | exact trivial | refine ⟨(by first | exact Or.inl rfl | exact Or.inr rfl), ?_⟩)); done) | (simp only [coL, AV.dat, true_or, or_true, AV.d.injEq, go_sem]; done)); simp only [go_sem, s0, s3, sp, sr, qb, qb2, hne2]) | ((first | refine CallK.chg (enter49) (hT1) ?_ (agRd hbk' (by first | (simp only [go_sem, sr, qb, qb2, rdO]; done) | fail)) (Fr.rfl' _ _) ?_ | refine CallD.chg (enter49) (hT1) ?_ (agRd hbk' (by first | (simp only [go_sem, sr, qb, qb2, rdO]; done) | fail)) (Fr.rfl' _ _) (by first | assumption | exact List.cons_ne_nil _ _) ?_); (focus first | ((repeat (first | exact trivial | refine ⟨(by first | exact Or.inl rfl | exact Or.inr rfl), ?_⟩)); done) | (simp only [coL, AV.dat, true_or, or_true, AV.d.injEq, go_sem]; done)); simp only [go_sem, s0, s3, sp, sr, qb, qb2, hne2]) | ((first | refine CallK.pure (enter48) (need_tri b) ?_ ?_ | refine CallD.pure (enter48) (need_tri b) ?_ ?_); (focus first | ((repeat (first | exact trivial | refine ⟨(by first | exact Or.inl rfl | exact Or.inr rfl), ?_⟩)); done) | (simp only [coL, AV.dat, true_or, or_true, AV.d.injEq, go_sem]; done)); simp only [go_sem, s0, s3, sp, sr, qb, qb2, hne2]) | refine And.intro (by first | ((repeat' first | omega | exact trivial | rfl | assumption | (intro a e; subst e; rfl) | exact map_sz fun a => (by simp only [go_sem]) | refine And.intro ?_ ?_); done) | fail) ?_ | fail)
      refine BoomK.mk1 (enter33) (hC) ?_ ?_ ?_
      focus first | ((repeat (first | exact trivial | refine ⟨(by first | exact Or.inl rfl | exact Or.inr rfl), ?_⟩)); done) | (simp only [coL, AV.dat, true_or, or_true, AV.d.injEq, go_sem, s0, s3, sp, sr, qb, qb2, hne2, rdO]; done)
      focus first | (simp only [go_sem, s0, s3, sp, sr, qb, qb2, hne2, rdO]; done) | (simp only [go_sem, s0, s3, sp, sr, qb, qb2, hne2, rdO]; rfl) | assumption
      simp only [thenA, inBlockA, panQ, reduceIte, reduceCtorEq, true_and]
      repeat (first | exact FrN.rfl' _ _ _ | assumption | refine FrN.updk ?_ (by first | omega | fail) _ | refine FrN.updn ?_ (by first | (simp; done) | fail) _ | refine FrN.stH ?_ _)
     | some p =>
      obtain ⟨tb, j'⟩ := p
      have hCb := term_tri l hl f b (ja + 3) tb j' v1 hbb
      obtain ⟨u3, u4⟩ := rdT_le l f _ tb j' v1 hbb
      have hL : rdL l f i' = some (⟨true, ta, tb⟩, j') := by
       unfold rdL
       rw [ha]
       simp only [hy, if_true, hbb]
      rw [hL] at hA
      simp only at hA
      have eap : acc.map ltDV ++ [DV.st [.v (.bool true), .v (.int .i64 ta.v), .v (.int .i64 ta.f), .sl (ta.us.map tmDV), .v (.int .i64 tb.v), .v (.int .i64 tb.f), .sl (tb.us.map tmDV)]] = (acc ++ [(⟨true, ta, tb⟩ : Lt)]).map ltDV := by rw [List.map_append]; rfl
      have eal : (acc ++ [(⟨true, ta, tb⟩ : Lt)]).length = acc.length + 1 := by simp
      cases hcm : hasAt l j' [32, 124, 32] with
      | false => rw [if_neg (by simp [hcm])] at hA; cases hA
      | true =>
       have g3 := hasAt_le hcm u4
       simp only [List.length_cons, List.length_nil] at g3
       rw [if_pos hcm] at hA
       have hT3 := take_yes b l [32, 124, 32] j' hl u4 (by decide) hcm
       repeat' (first | refine awp_seq_k fun K hK => ?_ | ((first | refine awp_region_k (by kernel_rfl) fun R hR => ?_ | refine awp_draw mixed (by kernel_rfl) (by kernel_rfl) fun R hR => ?_); simp only [go_sem, s0, s3, sp, sr, qb, qb2, hne2, eap, eal, List.length_map, Int.toNat_natCast]) | ((first | (refine hR _ ?_; clear hR R) | refine awp_skip ?_ | refine awp_exit ?_ | refine awp_ret ?_); try simp only [thenA, inBlockA, reduceIte, reduceCtorEq, Nat.reduceEqDiff, if_false, if_true]) | ((first | refine hK _ ?_ | (clear hK K; first | refine hK _ ?_ | (clear hK K; first | refine hK _ ?_ | (clear hK K; first | refine hK _ ?_ | (clear hK K; refine hK _ ?_))))); clear hK K) | refine awp_true rfl rfl ?_ | refine awp_false rfl rfl ?_ | refine awp_block ?_ | ((first | refine CallK.chg (enter33) (hCa) ?_ (agRd hbk' (by first | (simp only [go_sem, sr, qb, qb2, rdO]; done) | fail)) (Fr.rfl' _ _) ?_ | refine CallD.chg (enter33) (hCa) ?_ (agRd hbk' (by first | (simp only [go_sem, sr, qb, qb2, rdO]; done) | fail)) (Fr.rfl' _ _) (by first | assumption | exact List.cons_ne_nil _ _) ?_); (focus first | ((repeat (first | exact trivial | refine ⟨(by first | exact Or.inl rfl | exact Or.inr rfl), ?_⟩)); done) | (simp only [coL, AV.dat, true_or, or_true, AV.d.injEq, go_sem]; done)); simp only [go_sem, s0, s3, sp, sr, qb, qb2, hne2, eap, eal, List.length_map, Int.toNat_natCast]) | ((first | refine CallK.chg (enter49) (hT1) ?_ (agRd hbk' (by first | (simp only [go_sem, sr, qb, qb2, rdO]; done) | fail)) (Fr.rfl' _ _) ?_ | refine CallD.chg (enter49) (hT1) ?_ (agRd hbk' (by first | (simp only [go_sem, sr, qb, qb2, rdO]; done) | fail)) (Fr.rfl' _ _) (by first | assumption | exact List.cons_ne_nil _ _) ?_); (focus first | ((repeat (first | exact trivial | refine ⟨(by first | exact Or.inl rfl | exact Or.inr rfl), ?_⟩)); done) | (simp only [coL, AV.dat, true_or, or_true, AV.d.injEq, go_sem]; done)); simp only [go_sem, s0, s3, sp, sr, qb, qb2, hne2, eap, eal, List.length_map, Int.toNat_natCast]) | ((first | refine CallK.chg (enter33) (hCb) ?_ (agRd hbk' (by first | (simp only [go_sem, sr, qb, qb2, rdO]; done) | fail)) (Fr.rfl' _ _) ?_ | refine CallD.chg (enter33) (hCb) ?_ (agRd hbk' (by first | (simp only [go_sem, sr, qb, qb2, rdO]; done) | fail)) (Fr.rfl' _ _) (by first | assumption | exact List.cons_ne_nil _ _) ?_); (focus first | ((repeat (first | exact trivial | refine ⟨(by first | exact Or.inl rfl | exact Or.inr rfl), ?_⟩)); done) | (simp only [coL, AV.dat, true_or, or_true, AV.d.injEq, go_sem]; done)); simp only [go_sem, s0, s3, sp, sr, qb, qb2, hne2, eap, eal, List.length_map, Int.toNat_natCast]) | ((first | refine CallK.chg (enter49) (hT3) ?_ (agRd hbk' (by first | (simp only [go_sem, sr, qb, qb2, rdO]; done) | fail)) (Fr.rfl' _ _) ?_ | refine CallD.chg (enter49) (hT3) ?_ (agRd hbk' (by first | (simp only [go_sem, sr, qb, qb2, rdO]; done) | fail)) (Fr.rfl' _ _) (by first | assumption | exact List.cons_ne_nil _ _) ?_); (focus first | ((repeat (first | exact trivial | refine ⟨(by first | exact Or.inl rfl | exact Or.inr rfl), ?_⟩)); done) | (simp only [coL, AV.dat, true_or, or_true, AV.d.injEq, go_sem]; done)); simp only [go_sem, s0, s3, sp, sr, qb, qb2, hne2, eap, eal, List.length_map, Int.toNat_natCast]) | ((first | refine CallK.pure (enter48) (need_tri b) ?_ ?_ | refine CallD.pure (enter48) (need_tri b) ?_ ?_); (focus first | ((repeat (first | exact trivial | refine ⟨(by first | exact Or.inl rfl | exact Or.inr rfl), ?_⟩)); done) | (simp only [coL, AV.dat, true_or, or_true, AV.d.injEq, go_sem]; done)); simp only [go_sem, s0, s3, sp, sr, qb, qb2, hne2, eap, eal, List.length_map, Int.toNat_natCast]) | refine And.intro (by first | ((repeat' first | omega | exact trivial | rfl | assumption | (intro a e; subst e; rfl) | exact map_sz fun a => (by simp only [go_sem]) | refine And.intro ?_ ?_); done) | fail) ?_ | fail)
       refine ⟨⟨q, j' + 3, acc ++ [⟨true, ta, tb⟩], ?_⟩, ?_⟩
       rotate_left
       ·simp only [permLen, go_sem, sp, qb, qb2, hne2, eal]; omega
       simp only [go_sem, s0, s3, sp, sr, qb, qb2, hne2, eap, eal, List.length_map, rdO]
       and_intros; all_goals try (first | rfl | omega | assumption | ((repeat (first | exact Fr.rfl' _ _ | assumption | refine Fr.updk ?_ (by omega) _)); done))
       exact (by repeat (first | exact FrN.rfl' _ _ _ | assumption | refine FrN.updk ?_ (by omega) _ | refine FrN.stH ?_ _))
    | false =>
     have hT1 := take_no b l [32, 61, 32] ja hl u2 hy
     cases hy2 : hasAt l ja [32, 33, 61, 32] with
     | true =>
      have v1 := hasAt_le hy2 u2
      simp only [List.length_cons, List.length_nil] at v1
      have hT2 := take_yes b l [32, 33, 61, 32] ja hl u2 (by decide) hy2
      cases hbb : rdT l f (ja + 4) with
      | none =>
       have hC := term_boom l hl f b (ja + 4) v1 (by omega) hbb
       repeat' (first | (refine awp_boom (ch := CH) (id := 7) 1 (by kernel_rfl) rfl fun R hR => ?_; simp only [go_sem, List.take_succ_cons, List.take_zero, s0, s3, sp, sr, qb, qb2, hne2]) | refine awp_seq_k fun K hK => ?_ | ((first | refine awp_region_k (by kernel_rfl) fun R hR => ?_ | refine awp_draw mixed (by kernel_rfl) (by kernel_rfl) fun R hR => ?_); simp only [go_sem, s0, s3, sp, sr, qb, qb2, hne2]) | ((first | (refine hR _ ?_; clear hR R) | refine awp_skip ?_ | refine awp_exit ?_ | refine awp_ret ?_); try simp only [thenA, inBlockA, reduceIte, reduceCtorEq, Nat.reduceEqDiff, if_false, if_true]) | ((first | refine hK _ ?_ | (clear hK K; first | refine hK _ ?_ | (clear hK K; first | refine hK _ ?_ | (clear hK K; first | refine hK _ ?_ | (clear hK K; refine hK _ ?_))))); clear hK K) | refine awp_true rfl rfl ?_ | refine awp_false rfl rfl ?_ | refine awp_block ?_ | ((first | refine CallK.chg (enter33) (hCa) ?_ (agRd hbk' (by first | (simp only [go_sem, sr, qb, qb2, rdO]; done) | fail)) (Fr.rfl' _ _) ?_ | refine CallD.chg (enter33) (hCa) ?_ (agRd hbk' (by first | (simp only [go_sem, sr, qb, qb2, rdO]; done) | fail)) (Fr.rfl' _ _) (by first | assumption | exact List.cons_ne_nil _ _) ?_); (focus first | ((repeat (first | exact trivial | refine ⟨(by first | exact Or.inl rfl | exact Or.inr rfl), ?_⟩)); done) | (simp only [coL, AV.dat, true_or, or_true, AV.d.injEq, go_sem]; done)); simp only [go_sem, s0, s3, sp, sr, qb, qb2, hne2]) | ((first | refine CallK.chg (enter49) (hT1) ?_ (agRd hbk' (by first | (simp only [go_sem, sr, qb, qb2, rdO]; done) | fail)) (Fr.rfl' _ _) ?_ | refine CallD.chg (enter49) (hT1) ?_ (agRd hbk' (by first | (simp only [go_sem, sr, qb, qb2, rdO]; done) | fail)) (Fr.rfl' _ _) (by first | assumption | exact List.cons_ne_nil _ _) ?_); (focus first | ((repeat (first | exact trivial | refine ⟨(by first | exact Or.inl rfl | exact Or.inr rfl), ?_⟩)); done) | (simp only [coL, AV.dat, true_or, or_true, AV.d.injEq, go_sem]; done)); simp only [go_sem, s0, s3, sp, sr, qb, qb2, hne2]) | ((first | refine CallK.chg (enter49) (hT2) ?_ (agRd hbk' (by first | (simp only [go_sem, sr, qb, qb2, rdO]; done) | fail)) (Fr.rfl' _ _) ?_ | refine CallD.chg (enter49) (hT2) ?_ (agRd hbk' (by first | (simp only [go_sem, sr, qb, qb2, rdO]; done) | fail)) (Fr.rfl' _ _) (by first | assumption | exact List.cons_ne_nil _ _) ?_); (focus first | ((repeat (first | exact trivial | refine ⟨(by first | exact Or.inl rfl | exact Or.inr rfl), ?_⟩)); done) | (simp only [coL, AV.dat, true_or, or_true, AV.d.injEq, go_sem]; done)); simp only [go_sem, s0, s3, sp, sr, qb, qb2, hne2]) | ((first | refine CallK.pure (enter48) (need_tri b) ?_ ?_ | refine CallD.pure (enter48) (need_tri b) ?_ ?_); (focus first | ((repeat (first | exact trivial | refine ⟨(by first | exact Or.inl rfl | exact Or.inr rfl), ?_⟩)); done) | (simp only [coL, AV.dat, true_or, or_true, AV.d.injEq, go_sem]; done)); simp only [go_sem, s0, s3, sp, sr, qb, qb2, hne2]) | refine And.intro (by first | ((repeat' first | omega | exact trivial | rfl | assumption | (intro a e; subst e; rfl) | exact map_sz fun a => (by simp only [go_sem]) | refine And.intro ?_ ?_); done) | fail) ?_ | fail)
       refine BoomK.mk1 (enter33) (hC) ?_ ?_ ?_
       focus first | ((repeat (first | exact trivial | refine ⟨(by first | exact Or.inl rfl | exact Or.inr rfl), ?_⟩)); done) | (simp only [coL, AV.dat, true_or, or_true, AV.d.injEq, go_sem, s0, s3, sp, sr, qb, qb2, hne2, rdO]; done)
       focus first | (simp only [go_sem, s0, s3, sp, sr, qb, qb2, hne2, rdO]; done) | (simp only [go_sem, s0, s3, sp, sr, qb, qb2, hne2, rdO]; rfl) | assumption
       simp only [thenA, inBlockA, panQ, reduceIte, reduceCtorEq, true_and]
       repeat (first | exact FrN.rfl' _ _ _ | assumption | refine FrN.updk ?_ (by first | omega | fail) _ | refine FrN.updn ?_ (by first | (simp; done) | fail) _ | refine FrN.stH ?_ _)
      | some p =>
       obtain ⟨tb, j'⟩ := p
       have hCb := term_tri l hl f b (ja + 4) tb j' v1 hbb
       obtain ⟨u3, u4⟩ := rdT_le l f _ tb j' v1 hbb
       have hL : rdL l f i' = some (⟨false, ta, tb⟩, j') := by
        unfold rdL
        rw [ha]
        simp only [hy, if_true, hbb, hy2, Bool.false_eq_true, if_false]
       rw [hL] at hA
       simp only at hA
       have eap : acc.map ltDV ++ [DV.st [.v (.bool false), .v (.int .i64 ta.v), .v (.int .i64 ta.f), .sl (ta.us.map tmDV), .v (.int .i64 tb.v), .v (.int .i64 tb.f), .sl (tb.us.map tmDV)]] = (acc ++ [(⟨false, ta, tb⟩ : Lt)]).map ltDV := by rw [List.map_append]; rfl
       have eal : (acc ++ [(⟨false, ta, tb⟩ : Lt)]).length = acc.length + 1 := by simp
       cases hcm : hasAt l j' [32, 124, 32] with
       | false => rw [if_neg (by simp [hcm])] at hA; cases hA
       | true =>
        have g3 := hasAt_le hcm u4
        simp only [List.length_cons, List.length_nil] at g3
        rw [if_pos hcm] at hA
        have hT3 := take_yes b l [32, 124, 32] j' hl u4 (by decide) hcm
        repeat' (first | refine awp_seq_k fun K hK => ?_ | ((first | refine awp_region_k (by kernel_rfl) fun R hR => ?_ | refine awp_draw mixed (by kernel_rfl) (by kernel_rfl) fun R hR => ?_); simp only [go_sem, s0, s3, sp, sr, qb, qb2, hne2, eap, eal, List.length_map, Int.toNat_natCast]) | ((first | (refine hR _ ?_; clear hR R) | refine awp_skip ?_ | refine awp_exit ?_ | refine awp_ret ?_); try simp only [thenA, inBlockA, reduceIte, reduceCtorEq, Nat.reduceEqDiff, if_false, if_true]) | ((first | refine hK _ ?_ | (clear hK K; first | refine hK _ ?_ | (clear hK K; first | refine hK _ ?_ | (clear hK K; first | refine hK _ ?_ | (clear hK K; refine hK _ ?_))))); clear hK K) | refine awp_true rfl rfl ?_ | refine awp_false rfl rfl ?_ | refine awp_block ?_ | ((first | refine CallK.chg (enter33) (hCa) ?_ (agRd hbk' (by first | (simp only [go_sem, sr, qb, qb2, rdO]; done) | fail)) (Fr.rfl' _ _) ?_ | refine CallD.chg (enter33) (hCa) ?_ (agRd hbk' (by first | (simp only [go_sem, sr, qb, qb2, rdO]; done) | fail)) (Fr.rfl' _ _) (by first | assumption | exact List.cons_ne_nil _ _) ?_); (focus first | ((repeat (first | exact trivial | refine ⟨(by first | exact Or.inl rfl | exact Or.inr rfl), ?_⟩)); done) | (simp only [coL, AV.dat, true_or, or_true, AV.d.injEq, go_sem]; done)); simp only [go_sem, s0, s3, sp, sr, qb, qb2, hne2, eap, eal, List.length_map, Int.toNat_natCast]) | ((first | refine CallK.chg (enter49) (hT1) ?_ (agRd hbk' (by first | (simp only [go_sem, sr, qb, qb2, rdO]; done) | fail)) (Fr.rfl' _ _) ?_ | refine CallD.chg (enter49) (hT1) ?_ (agRd hbk' (by first | (simp only [go_sem, sr, qb, qb2, rdO]; done) | fail)) (Fr.rfl' _ _) (by first | assumption | exact List.cons_ne_nil _ _) ?_); (focus first | ((repeat (first | exact trivial | refine ⟨(by first | exact Or.inl rfl | exact Or.inr rfl), ?_⟩)); done) | (simp only [coL, AV.dat, true_or, or_true, AV.d.injEq, go_sem]; done)); simp only [go_sem, s0, s3, sp, sr, qb, qb2, hne2, eap, eal, List.length_map, Int.toNat_natCast]) | ((first | refine CallK.chg (enter49) (hT2) ?_ (agRd hbk' (by first | (simp only [go_sem, sr, qb, qb2, rdO]; done) | fail)) (Fr.rfl' _ _) ?_ | refine CallD.chg (enter49) (hT2) ?_ (agRd hbk' (by first | (simp only [go_sem, sr, qb, qb2, rdO]; done) | fail)) (Fr.rfl' _ _) (by first | assumption | exact List.cons_ne_nil _ _) ?_); (focus first | ((repeat (first | exact trivial | refine ⟨(by first | exact Or.inl rfl | exact Or.inr rfl), ?_⟩)); done) | (simp only [coL, AV.dat, true_or, or_true, AV.d.injEq, go_sem]; done)); simp only [go_sem, s0, s3, sp, sr, qb, qb2, hne2, eap, eal, List.length_map, Int.toNat_natCast]) | ((first | refine CallK.chg (enter33) (hCb) ?_ (agRd hbk' (by first | (simp only [go_sem, sr, qb, qb2, rdO]; done) | fail)) (Fr.rfl' _ _) ?_ | refine CallD.chg (enter33) (hCb) ?_ (agRd hbk' (by first | (simp only [go_sem, sr, qb, qb2, rdO]; done) | fail)) (Fr.rfl' _ _) (by first | assumption | exact List.cons_ne_nil _ _) ?_); (focus first | ((repeat (first | exact trivial | refine ⟨(by first | exact Or.inl rfl | exact Or.inr rfl), ?_⟩)); done) | (simp only [coL, AV.dat, true_or, or_true, AV.d.injEq, go_sem]; done)); simp only [go_sem, s0, s3, sp, sr, qb, qb2, hne2, eap, eal, List.length_map, Int.toNat_natCast]) | ((first | refine CallK.chg (enter49) (hT3) ?_ (agRd hbk' (by first | (simp only [go_sem, sr, qb, qb2, rdO]; done) | fail)) (Fr.rfl' _ _) ?_ | refine CallD.chg (enter49) (hT3) ?_ (agRd hbk' (by first | (simp only [go_sem, sr, qb, qb2, rdO]; done) | fail)) (Fr.rfl' _ _) (by first | assumption | exact List.cons_ne_nil _ _) ?_); (focus first | ((repeat (first | exact trivial | refine ⟨(by first | exact Or.inl rfl | exact Or.inr rfl), ?_⟩)); done) | (simp only [coL, AV.dat, true_or, or_true, AV.d.injEq, go_sem]; done)); simp only [go_sem, s0, s3, sp, sr, qb, qb2, hne2, eap, eal, List.length_map, Int.toNat_natCast]) | ((first | refine CallK.pure (enter48) (need_tri b) ?_ ?_ | refine CallD.pure (enter48) (need_tri b) ?_ ?_); (focus first | ((repeat (first | exact trivial | refine ⟨(by first | exact Or.inl rfl | exact Or.inr rfl), ?_⟩)); done) | (simp only [coL, AV.dat, true_or, or_true, AV.d.injEq, go_sem]; done)); simp only [go_sem, s0, s3, sp, sr, qb, qb2, hne2, eap, eal, List.length_map, Int.toNat_natCast]) | refine And.intro (by first | ((repeat' first | omega | exact trivial | rfl | assumption | (intro a e; subst e; rfl) | exact map_sz fun a => (by simp only [go_sem]) | refine And.intro ?_ ?_); done) | fail) ?_ | fail)
        refine ⟨⟨q, j' + 3, acc ++ [⟨false, ta, tb⟩], ?_⟩, ?_⟩
        rotate_left
        ·simp only [permLen, go_sem, sp, qb, qb2, hne2, eal]; omega
        simp only [go_sem, s0, s3, sp, sr, qb, qb2, hne2, eap, eal, List.length_map, rdO]
        and_intros; all_goals try (first | rfl | omega | assumption | ((repeat (first | exact Fr.rfl' _ _ | assumption | refine Fr.updk ?_ (by omega) _)); done))
        exact (by repeat (first | exact FrN.rfl' _ _ _ | assumption | refine FrN.updk ?_ (by omega) _ | refine FrN.stH ?_ _))
     | false =>
      have hT2 := take_no b l [32, 33, 61, 32] ja hl u2 hy2
      repeat' (first | (refine awp_boom (ch := CH) (id := 6) 7 (by kernel_rfl) rfl fun R hR => ?_; simp only [go_sem, List.take_succ_cons, List.take_zero, s0, s3, sp, sr, qb, qb2, hne2]) | refine awp_seq_k fun K hK => ?_ | ((first | refine awp_region_k (by kernel_rfl) fun R hR => ?_ | refine awp_draw mixed (by kernel_rfl) (by kernel_rfl) fun R hR => ?_); simp only [go_sem, s0, s3, sp, sr, qb, qb2, hne2]) | ((first | (refine hR _ ?_; clear hR R) | refine awp_skip ?_ | refine awp_exit ?_ | refine awp_ret ?_); try simp only [thenA, inBlockA, reduceIte, reduceCtorEq, Nat.reduceEqDiff, if_false, if_true]) | ((first | refine hK _ ?_ | (clear hK K; first | refine hK _ ?_ | (clear hK K; first | refine hK _ ?_ | (clear hK K; first | refine hK _ ?_ | (clear hK K; refine hK _ ?_))))); clear hK K) | refine awp_true rfl rfl ?_ | refine awp_false rfl rfl ?_ | refine awp_block ?_ | ((first | refine CallK.chg (enter33) (hCa) ?_ (agRd hbk' (by first | (simp only [go_sem, sr, qb, qb2, rdO]; done) | fail)) (Fr.rfl' _ _) ?_ | refine CallD.chg (enter33) (hCa) ?_ (agRd hbk' (by first | (simp only [go_sem, sr, qb, qb2, rdO]; done) | fail)) (Fr.rfl' _ _) (by first | assumption | exact List.cons_ne_nil _ _) ?_); (focus first | ((repeat (first | exact trivial | refine ⟨(by first | exact Or.inl rfl | exact Or.inr rfl), ?_⟩)); done) | (simp only [coL, AV.dat, true_or, or_true, AV.d.injEq, go_sem]; done)); simp only [go_sem, s0, s3, sp, sr, qb, qb2, hne2]) | ((first | refine CallK.chg (enter49) (hT1) ?_ (agRd hbk' (by first | (simp only [go_sem, sr, qb, qb2, rdO]; done) | fail)) (Fr.rfl' _ _) ?_ | refine CallD.chg (enter49) (hT1) ?_ (agRd hbk' (by first | (simp only [go_sem, sr, qb, qb2, rdO]; done) | fail)) (Fr.rfl' _ _) (by first | assumption | exact List.cons_ne_nil _ _) ?_); (focus first | ((repeat (first | exact trivial | refine ⟨(by first | exact Or.inl rfl | exact Or.inr rfl), ?_⟩)); done) | (simp only [coL, AV.dat, true_or, or_true, AV.d.injEq, go_sem]; done)); simp only [go_sem, s0, s3, sp, sr, qb, qb2, hne2]) | ((first | refine CallK.chg (enter49) (hT2) ?_ (agRd hbk' (by first | (simp only [go_sem, sr, qb, qb2, rdO]; done) | fail)) (Fr.rfl' _ _) ?_ | refine CallD.chg (enter49) (hT2) ?_ (agRd hbk' (by first | (simp only [go_sem, sr, qb, qb2, rdO]; done) | fail)) (Fr.rfl' _ _) (by first | assumption | exact List.cons_ne_nil _ _) ?_); (focus first | ((repeat (first | exact trivial | refine ⟨(by first | exact Or.inl rfl | exact Or.inr rfl), ?_⟩)); done) | (simp only [coL, AV.dat, true_or, or_true, AV.d.injEq, go_sem]; done)); simp only [go_sem, s0, s3, sp, sr, qb, qb2, hne2]) | refine And.intro (by first | ((repeat' first | omega | exact trivial | rfl | assumption | (intro a e; subst e; rfl) | exact map_sz fun a => (by simp only [go_sem]) | refine And.intro ?_ ?_); done) | fail) ?_ | fail)
      refine BoomK.mk1 (enter48) (need_boom b (.cells 86 [sA l, iA ja])) ?_ ?_ ?_
      focus first | ((repeat (first | exact trivial | refine ⟨(by first | exact Or.inl rfl | exact Or.inr rfl), ?_⟩)); done) | (simp only [coL, AV.dat, true_or, or_true, AV.d.injEq, go_sem, s0, s3, sp, sr, qb, qb2, hne2, rdO]; done)
      focus first | (simp only [go_sem, s0, s3, sp, sr, qb, qb2, hne2, rdO]; done) | (simp only [go_sem, s0, s3, sp, sr, qb, qb2, hne2, rdO]; rfl) | assumption
      simp only [thenA, inBlockA, panQ, reduceIte, reduceCtorEq, true_and]
      repeat (first | exact FrN.rfl' _ _ _ | assumption | refine FrN.updk ?_ (by first | omega | fail) _ | refine FrN.updn ?_ (by first | (simp; done) | fail) _ | refine FrN.stH ?_ _)
theorem clause_boom (l : By) (hl : l.length ≤ 4000000) (f Q : Nat) (hQ : Q ≤ 4000000) (b : Nm) (i : Nat) (hi : i ≤ l.length) (hfu : l.length < f) (hqu : l.length < Q) (hc : rdK l f Q i = none) : TriP Tryd.prog CH 36 [.ptr b 0] b (rdO l i) := by
 unfold rdK at hc
 cases hf : hasAt l i [36, 102, 97, 108, 115, 101] with
 | true => rw [if_pos hf] at hc; cases hc
 | false => rw [if_neg (by simp [hf])] at hc; exact clause_bad l hl f Q hQ b i hi hf hfu hqu hc
set_option maxHeartbeats 2000000 in
set_option maxRecDepth 20000 in
theorem catch_tri {w0 : GW} {h : Heap} {k : Nat} {m : Mem} {β : Bl} {w : World} {v : Value} {nm : Nm} {x : AV} (H : HRel Tryd.prog w0 h k m β w) (hv : R m β v (.ptr nm 0)) (hn : h nm = some (.cells 30 [x])) :
  CallsD Tryd.prog 47 #[v] (.panicking CH) w fun e u' w' => (∃ r, e = .returned r) ∧ settle u' = .returning ∧ ∃ m' β', m.le m' ∧ β.le β' ∧ (∀ n, n.1 < k → β n = none → β' n = none) ∧ HRel Tryd.prog w0 (upd h nm (some (.cells 30 [iA 1]))) (k + 1) m' β' w' := by
 obtain ⟨pn, hpn, _⟩ := H.obj nm _ hn
 have hnk : nm.1 < k := H.dom nm pn hpn
 have hne : nm ≠ (k, 0) := fun e => by rw [e] at hnk; simp at hnk
 have hb0 : β (k, 0) = none := by
  cases hb : β (k, 0) with
  | none => rfl
  | some p => have := H.dom _ _ hb; simp at this
 obtain ⟨va, w1, m1, β1, ra, a1, a2, a3, a4, a5⟩ := alloc_ok (t := 83) (nm := (k, 0)) (H.tick (Nat.le_succ k)) hb0 (Nat.lt_succ_self k) (by kernel_rfl)
 have hz : zeroAV Tryd.prog 83 = [] := by kernel_rfl
 have hz0 : h (k, 0) = none := by
  cases hh : h (k, 0) with
  | none => rfl
  | some ob =>
   obtain ⟨p, hp, _⟩ := H.obj _ ob hh
   rw [hb0] at hp; cases hp
 have a4' : HRel Tryd.prog w0 (upd h (k, 0) (some (.cells 83 []))) (k + 1) m1 β1 w1 := by rw [← hz]; exact a4
 obtain ⟨w2, m2, β2, rs, b1, b2, b3, b4, _⟩ := store_ok (t := 83) (u := .agg #[]) (x := .st []) a4' (by kernel_rfl) a5 (.st rfl (fun i c hc => by simp at hc) fun i v a hv => by simp at hv) (by
  refine ⟨trivial, ?_, ?_, ?_⟩
  ·simp [isCells, upd]
  ·simp [AV.cells]
  ·kernel_rfl)
 have H2 : HRel Tryd.prog w0 h (k + 1) m2 β2 w2 := by
  have := b4.del (k, 0)
  have e : upd ((effStore (.ptr (k, 0) 0) (.st []) (upd h (k, 0) (some (.cells 83 [])))).ap (upd h (k, 0) (some (.cells 83 [])))) (k, 0) none = h := by
   funext y
   unfold upd
   split
   ·subst_vars; exact hz0.symm
   ·rename_i hy
    simp [effStore, Eff.ap, upd, hy]
  rwa [e] at this
 obtain ⟨w3, m3, β3, re, c1, c2, c3, c4, _⟩ := store_ok (t := 30) (u := .int .i64 1) (x := iA 1) H2 (by kernel_rfl) ((hv.mono a1 a2).mono b1 b2) (.d (.v rfl)) (by
  refine ⟨trivial, ?_, ?_, ?_⟩
  ·rw [isCells, hn]; trivial
  ·rw [objCells, hn]; simp [AV.cells, DV.cells]
  ·kernel_rfl)
 have e3 : (effStore (.ptr nm 0) (iA 1) h).ap h = upd h nm (some (.cells 30 [iA 1])) := by
  simp [effStore, Eff.ap, objTy, objCells, hn, AV.cells, DV.cells, setR]
 rw [e3] at c4
 have fin : ∃ m' β', m.le m' ∧ β.le β' ∧ (∀ n, n.1 < k → β n = none → β' n = none) ∧ HRel Tryd.prog w0 (upd h nm (some (.cells 30 [iA 1]))) (k + 1) m' β' w3 :=
  ⟨m3, β3, (a1.trans b1).trans c1, (a2.trans b2).trans c2, fun n hnk h0 => c3 n (b3 n (a3 n (fun e => by rw [e] at hnk; simp at hnk) h0)), c4⟩
 clear c4 H2 b4 a4 a4' c1 c2 c3 b1 b2 b3 a1 a2 a3 e3 H
 simp [go_sem] at ra
 obtain ⟨rfl, rfl⟩ := ra
 simp [go_sem] at rs
 subst rs
 cases hv with
 | @ptr n off p hpb hver =>
 simp [go_sem] at re
 refine callsD_of_wpS Tryd.func47 rfl fun c₀ cs hu => ?_
 apply wpS_seq
 apply wpS_region
 simp [wpOpsS, go_sem, recoverD, hu, Tryd.ntmps47, Exit.thenS]
 apply wpS_seq
 apply wpS_region
 simp [wpOpsS, go_sem, recoverD, hu, Tryd.ntmps47, Exit.thenS, eqGuard]
 refine wpS_cond (t := true) (by simp [Act.eval]) ?_
 simp only [if_true]
 apply wpS_seq
 apply wpS_seq
 apply wpS_region
 simp [wpOpsS, go_sem, recoverD, hu, Tryd.ntmps47, Exit.thenS, Instr.typeAssert, Tryd.underlying83]
 apply wpS_seq
 apply wpS_region
 simp [wpOpsS, go_sem, recoverD, hu, Tryd.ntmps47, Exit.thenS]
 refine wpS_cond (t := false) (by simp [Act.eval]) ?_
 simp only [Bool.false_eq_true, if_false]
 refine wpS_of_wp (wp_skip ?_)
 simp only [Exit.thenS]
 apply wpS_region
 simp [wpOpsS, go_sem, recoverD, hu, Tryd.ntmps47, Exit.thenS, re, bodyPostS, results, Tryd.results47, settle]
 simpa using fin
end Go.Proofs.YtmeekpinkfpnhabDoor
