/- Texts: strconv. -/
import Derived.Test.YtmeekpinkfpnhabDoorP07
import Derived.Test.YtmeekpinkfpnhabDoorP08
import Derived.Test.YtmeekpinkfpnhabDoorP15
import Derived.Lib.AtoiTie
import Derived.Shelf.Strconv.ErrVarAll
set_option linter.all false
namespace Go.Proofs.YtmeekpinkfpnhabDoor
open Go.RowKit
def taA (n : Nat) : Option (List Tm × Nat) → Tm × Int
 | some (us, m) => (.mk 0 n us, m)
 | none => (.mk 0 0 [], -1)
set_option maxHeartbeats 16000000 in
set_option maxRecDepth 20000 in
theorem ta_args (l : By) (f i : Nat) (hl : l.length ≤ 4000000) (ih : TaSpec l f) (hfu : l.length - i < f + 1) (hc : l[i]? = some 102) (n j : Nat) (hn : rdN l (i + 1) = some (n, j)) (hp : l[j]? = some 40) (A : Tm × Int) (hA : A = taA n (rdA (rdT l f) l 4 (j + 1) [])) : Tri Tryd.prog 37 [sA l, iA i] (pure' (.tup [.d (tmDV A.1), iA A.2])) := by
 have hlt := (List.getElem?_eq_some_iff.1 hc).1
 have hjlt := (List.getElem?_eq_some_iff.1 hp).1
 have hc2 := byteAt_bs hc
 have hd2 := byteAt_bs hp
 have hN := numberAt_tri l (i + 1) hl hlt
 have hna : naAns l (i + 1) = ((n : Int), j) := by unfold naAns; rw [hn]
 rw [hna] at hN
 have hnl := rdN_lt hn
 have hjl := rdN_le hn hlt
 refine tri_enter Tryd.func37 rfl Tryd.ntmps37 (by simp only [List.length_cons, List.length_nil]; omega) fun w0 h0 k hrd hwr => ?_
 have h1 : decide ((i : Int) ≥ (l.length : Int)) = false := by simp; omega
 have hi1 : (i : Int) < (l.length : Int) := by omega
 have e1 : ((i : Int) + 1) = ((i + 1 : Nat) : Int) := by omega
 have n3 : decide ((n : Int) < 0) = false := by simp
 have n1 : (((102 : UInt8).toNat : Int) != 88) = true := by decide
 have n2 : (((102 : UInt8).toNat : Int) != 102) = false := by decide
 have n4 : (((102 : UInt8).toNat : Int) == 88) = false := by decide
 have n5 : (((40 : UInt8).toNat : Int) != 40) = false := by decide
 have h5 : decide ((j : Int) ≥ (l.length : Int)) = false := by simp; omega
 have hj1 : (j : Int) < (l.length : Int) := by omega
 repeat' (first | (refine awp_ghost (ghost_boxN (b := (k + 1 + 1 + 1 + 1 + 1, 2)) (e := 27) (e' := 27) (cs := [iA 0, iA n, .nil]) 2 ?_ rfl) ?_; (focus (simp only [go_sem, ]; done)); simp only [go_sem]) | refine awp_seq_k fun K hK => ?_ | ((first | refine awp_region_k (by kernel_rfl) fun R hR => ?_ | refine awp_draw mixed (by kernel_rfl) (by kernel_rfl) fun R hR => ?_); simp only [go_sem, h1, hc2, n1, n2, n3, n4, n5, h5, hd2, e1, Int.toNat_natCast]) | ((first | (refine hR _ ?_; clear hR R) | refine awp_skip ?_ | refine awp_exit ?_ | refine awp_ret ?_); try simp only [thenA, inBlockA, reduceIte, reduceCtorEq, Nat.reduceEqDiff, if_false, if_true]) | ((first | refine hK _ ?_ | (clear hK K; first | refine hK _ ?_ | (clear hK K; first | refine hK _ ?_ | (clear hK K; first | refine hK _ ?_ | (clear hK K; refine hK _ ?_))))); clear hK K) | refine awp_true rfl rfl ?_ | refine awp_false rfl rfl ?_ | refine awp_block ?_ | ((first | refine CallK.pure (enter53) (hN) ?_ ?_ | refine CallD.pure (enter53) (hN) ?_ ?_); (focus first | ((repeat (first | exact trivial | refine ⟨(by first | exact Or.inl rfl | exact Or.inr rfl), ?_⟩)); done) | (simp only [coL, AV.dat, true_or, or_true, AV.d.injEq, go_sem]; done)); simp only [go_sem, h1, hc2, n1, n2, n3, n4, n5, h5, hd2, e1, Int.toNat_natCast]) | refine And.intro (by first | ((repeat' first | omega | exact trivial | rfl | assumption | (intro a e; subst e; rfl) | exact map_sz fun a => (by simp only [go_sem]) | refine And.intro ?_ ?_); done) | fail) ?_ | fail)
 refine awp_loop (fun σ => ∃ (q e : Nat) (acc : List Tm), σ.t 0 = sA l ∧ σ.t 4 = .ptr (k, 0) 0 ∧ σ.t 7 = iA e ∧ σ.t 8 = .ptr (k + 1 + 1 + 1 + 1 + 1, 2) 0 ∧ σ.h (k, 0) = some (.cells 27 [iA 0, iA 0, .nil]) ∧ σ.h (k + 1 + 1 + 1 + 1 + 1, 2) = some (.cells 27 [iA 0, iA n, .own (k + 1 + 1 + 1 + 1 + 1 + 1, 0) (acc.map tmDV)]) ∧ σ.h (k + 1 + 1 + 1 + 1 + 1 + 1, 0) = some (.perm 27 acc.length) ∧ Fr k h0 σ.h ∧ k + 1 + 1 + 1 + 1 + 1 + 1 < σ.k ∧ i < e ∧ e < l.length ∧ q + acc.length = 4 ∧ acc.length ≤ 3 ∧ A = taA n (rdA (rdT l f) l q (e + 1) acc)) (fun σ => 4 - permLen σ.h (k + 1 + 1 + 1 + 1 + 1 + 1, 0)) ?_ ?_
 ·refine ⟨4, j, [], ?_⟩
  simp only [go_sem, ]
  and_intros; all_goals try (first | rfl | omega | assumption | ((repeat (first | exact Fr.rfl' _ _ | assumption | refine Fr.updk ?_ (by omega) _)); done))
 ·rintro σ ⟨q, e, acc, s0, s4, s7, s8, sh, shb, sp, hF, hk, hie, hel, hq, hacc, hA'⟩
  have hne0 := ltne (show k < σ.k by omega)
  have hne1 := ltne (show k + 1 + 1 + 1 + 1 + 1 < σ.k by omega)
  have hne2 := ltne hk
  cases q with
  | zero => omega
  | succ q =>
   rw [rdA] at hA'
   have hT := ih (e + 1) hel (by omega)
   have ez : ((e : Int) + 1) = ((e + 1 : Nat) : Int) := by omega
   cases hR : rdT l f (e + 1) with
   | none =>
    rw [hR] at hA'
    simp only [taA] at hA'
    rw [show taF l f (e + 1) = (.mk 0 0 [], -1) by unfold taF; rw [hR]] at hT
    have e2 : decide ((-1 : Int) < 0) = true := by decide
    rw [hA']
    repeat' (first | refine awp_seq_k fun K hK => ?_ | ((first | refine awp_region_k (by kernel_rfl) fun R hR => ?_ | refine awp_draw mixed (by kernel_rfl) (by kernel_rfl) fun R hR => ?_); simp only [go_sem, s0, s4, s7, s8, sh, shb, sp, hne0, hne1, hne2, ez, e2, Int.toNat_natCast]) | ((first | (refine hR _ ?_; clear hR R) | refine awp_skip ?_ | refine awp_exit ?_ | refine awp_ret ?_); try simp only [thenA, inBlockA, reduceIte, reduceCtorEq, Nat.reduceEqDiff, if_false, if_true]) | ((first | refine hK _ ?_ | (clear hK K; first | refine hK _ ?_ | (clear hK K; first | refine hK _ ?_ | (clear hK K; first | refine hK _ ?_ | (clear hK K; refine hK _ ?_))))); clear hK K) | refine awp_true rfl rfl ?_ | refine awp_false rfl rfl ?_ | refine awp_block ?_ | ((first | refine CallK.pure (enter37) (hT) ?_ ?_ | refine CallD.pure (enter37) (hT) ?_ ?_); (focus first | ((repeat (first | exact trivial | refine ⟨(by first | exact Or.inl rfl | exact Or.inr rfl), ?_⟩)); done) | (simp only [coL, AV.dat, true_or, or_true, AV.d.injEq, go_sem]; done)); simp only [go_sem, s0, s4, s7, s8, sh, shb, sp, hne0, hne1, hne2, ez, e2, Int.toNat_natCast]) | refine And.intro (by first | ((repeat' first | omega | exact trivial | rfl | assumption | (intro a e; subst e; rfl) | exact map_sz fun a => (by simp only [go_sem]) | refine And.intro ?_ ?_); done) | fail) ?_ | fail)
    (first | refine ret_pure ?_ ?_ ?_ | refine ret_ro ?_ ?_ ?_); focus exact (by simp only [Tryd.results37, resOkL, resOk, Tryd.ntmps37, List.toList_toArray]; first | decide | (simp only [go_sem, s4, sh, shb, sp, hne0, hne1, hne2]; done) | (simp only [go_sem, s4, sh, shb, sp, hne0, hne1, hne2]; and_intros <;> first | omega | rfl | decide))
    rotate_left; focus exact (by repeat (first | exact Fr.rfl' _ _ | assumption | refine Fr.updk ?_ (by omega) _ | refine Fr.stH ?_ _ (by intro n hn; simp only [List.mem_cons, List.not_mem_nil, or_false] at hn; subst hn; simp only; omega)))
    simp only [resA, resV, Tryd.results37, go_sem, s4, sh, shb, sp, hne0, hne1, hne2]
    all_goals try (first | exact Co.t2 (.dat rfl) (.dat rfl) | exact Co.t3 (.dat rfl) (.dat rfl) (.dat rfl))
    exact Co.t2 (co_tm rfl) (.dat rfl)
   | some p =>
    obtain ⟨t, j'⟩ := p
    rw [hR] at hA'
    simp only at hA'
    rw [show taF l f (e + 1) = (t, (j' : Int)) by unfold taF; rw [hR]] at hT
    obtain ⟨g1, g2⟩ := rdT_le l f (e + 1) t j' hel hR
    have e2 : decide ((j' : Int) < 0) = false := by simp
    have eap : acc.map tmDV ++ [DV.st [.v (.int .i64 t.v), .v (.int .i64 t.f), .sl (t.us.map tmDV)]] = (acc ++ [t]).map tmDV := by
     rw [List.map_append, List.map_singleton, tmDV_fold]
    have eap2 : acc.map tmDV ++ [tmDV t] = (acc ++ [t]).map tmDV := by simp
    have eal : (acc ++ [t]).length = acc.length + 1 := by simp
    by_cases h3' : acc.length + 1 > 3
    ·rw [if_pos h3'] at hA'
     simp only [taA] at hA'
     have hlen : decide (((acc.length + 1 : Nat) : Int) > 3) = true := by simp; omega
     rw [hA']
     repeat' (first | refine awp_seq_k fun K hK => ?_ | ((first | refine awp_region_k (by kernel_rfl) fun R hR => ?_ | refine awp_draw mixed (by kernel_rfl) (by kernel_rfl) fun R hR => ?_); simp only [go_sem, s0, s4, s7, s8, sh, shb, sp, hne0, hne1, hne2, ez, e2, hlen, eap, eap2, eal, List.length_map, Int.toNat_natCast]) | ((first | (refine hR _ ?_; clear hR R) | refine awp_skip ?_ | refine awp_exit ?_ | refine awp_ret ?_); try simp only [thenA, inBlockA, reduceIte, reduceCtorEq, Nat.reduceEqDiff, if_false, if_true]) | ((first | refine hK _ ?_ | (clear hK K; first | refine hK _ ?_ | (clear hK K; first | refine hK _ ?_ | (clear hK K; first | refine hK _ ?_ | (clear hK K; refine hK _ ?_))))); clear hK K) | refine awp_true rfl rfl ?_ | refine awp_false rfl rfl ?_ | refine awp_block ?_ | ((first | refine CallK.pure (enter37) (hT) ?_ ?_ | refine CallD.pure (enter37) (hT) ?_ ?_); (focus first | ((repeat (first | exact trivial | refine ⟨(by first | exact Or.inl rfl | exact Or.inr rfl), ?_⟩)); done) | (simp only [coL, AV.dat, true_or, or_true, AV.d.injEq, go_sem]; done)); simp only [go_sem, s0, s4, s7, s8, sh, shb, sp, hne0, hne1, hne2, ez, e2, hlen, eap, eap2, eal, List.length_map, Int.toNat_natCast]) | refine And.intro (by first | ((repeat' first | omega | exact trivial | rfl | assumption | (intro a e; subst e; rfl) | exact map_sz fun a => (by simp only [go_sem]) | refine And.intro ?_ ?_); done) | fail) ?_ | fail)
     (first | refine ret_pure ?_ ?_ ?_ | refine ret_ro ?_ ?_ ?_); focus exact (by simp only [Tryd.results37, resOkL, resOk, Tryd.ntmps37, List.toList_toArray]; first | decide | (simp only [go_sem, s4, sh, shb, sp, hne0, hne1, hne2]; done) | (simp only [go_sem, s4, sh, shb, sp, hne0, hne1, hne2]; and_intros <;> first | omega | rfl | decide))
     rotate_left; focus exact (by repeat (first | exact Fr.rfl' _ _ | assumption | refine Fr.updk ?_ (by omega) _ | refine Fr.stH ?_ _ (by intro n hn; simp only [List.mem_cons, List.not_mem_nil, or_false] at hn; subst hn; simp only; omega)))
     simp only [resA, resV, Tryd.results37, go_sem, s4, sh, shb, sp, hne0, hne1, hne2]
     all_goals try (first | exact Co.t2 (.dat rfl) (.dat rfl) | exact Co.t3 (.dat rfl) (.dat rfl) (.dat rfl))
     exact Co.t2 (co_tm rfl) (.dat rfl)
    ·rw [if_neg h3'] at hA'
     have hlen : decide (((acc.length + 1 : Nat) : Int) > 3) = false := by simp; omega
     rcases Nat.lt_or_ge j' l.length with hj' | hj'
     ·obtain ⟨d, hd⟩ : ∃ d, l[j']? = some d := ⟨_, List.getElem?_eq_getElem hj'⟩
      have hd3 := byteAt_bs hd
      have hjn : decide ((j' : Int) ≥ (l.length : Int)) = false := by simp; omega
      have hji : (j' : Int) < (l.length : Int) := by omega
      by_cases h44 : d = 44
      ·subst h44
       rw [if_pos (has_yes hd)] at hA'
       have m1 : (((44 : UInt8).toNat : Int) != 44) = false := by decide
       have m2 : (((44 : UInt8).toNat : Int) == 41) = false := by decide
       repeat' (first | refine awp_seq_k fun K hK => ?_ | ((first | refine awp_region_k (by kernel_rfl) fun R hR => ?_ | refine awp_draw mixed (by kernel_rfl) (by kernel_rfl) fun R hR => ?_); simp only [go_sem, s0, s4, s7, s8, sh, shb, sp, hne0, hne1, hne2, ez, e2, hlen, hjn, hd3, m1, m2, eap, eap2, eal, List.length_map, Int.toNat_natCast]) | ((first | (refine hR _ ?_; clear hR R) | refine awp_skip ?_ | refine awp_exit ?_ | refine awp_ret ?_); try simp only [thenA, inBlockA, reduceIte, reduceCtorEq, Nat.reduceEqDiff, if_false, if_true]) | ((first | refine hK _ ?_ | (clear hK K; first | refine hK _ ?_ | (clear hK K; first | refine hK _ ?_ | (clear hK K; first | refine hK _ ?_ | (clear hK K; refine hK _ ?_))))); clear hK K) | refine awp_true rfl rfl ?_ | refine awp_false rfl rfl ?_ | refine awp_block ?_ | ((first | refine CallK.pure (enter37) (hT) ?_ ?_ | refine CallD.pure (enter37) (hT) ?_ ?_); (focus first | ((repeat (first | exact trivial | refine ⟨(by first | exact Or.inl rfl | exact Or.inr rfl), ?_⟩)); done) | (simp only [coL, AV.dat, true_or, or_true, AV.d.injEq, go_sem]; done)); simp only [go_sem, s0, s4, s7, s8, sh, shb, sp, hne0, hne1, hne2, ez, e2, hlen, hjn, hd3, m1, m2, eap, eap2, eal, List.length_map, Int.toNat_natCast]) | refine And.intro (by first | ((repeat' first | omega | exact trivial | rfl | assumption | (intro a e; subst e; rfl) | exact map_sz fun a => (by simp only [go_sem]) | refine And.intro ?_ ?_); done) | fail) ?_ | fail)
       refine ⟨⟨q, j', acc ++ [t], ?_⟩, ?_⟩
       rotate_left
       ·simp only [permLen, go_sem, sp, hne0, hne1, hne2, eal]; omega
       simp only [go_sem, s0, s4, s7, s8, sh, shb, sp, hne0, hne1, hne2, eap, eap2, eal, List.length_map]
       and_intros; all_goals try (first | rfl | omega | assumption | ((repeat (first | exact Fr.rfl' _ _ | assumption | refine Fr.updk ?_ (by omega) _)); done))
      ·rw [if_neg (by rw [has_no hd h44]; simp)] at hA'
       have m1 := byte_ne (n := 44) h44 rfl
       by_cases h41 : d = 41
       ·subst h41
        rw [if_pos (has_yes hd)] at hA'
        simp only [taA] at hA'
        have m2 : (((41 : UInt8).toNat : Int) != 41) = false := by decide
        have m3 : (((41 : UInt8).toNat : Int) == 41) = true := by decide
        have ej : ((j' : Int) + 1) = ((j' + 1 : Nat) : Int) := by omega
        rw [hA']
        repeat' (first | refine awp_seq_k fun K hK => ?_ | ((first | refine awp_region_k (by kernel_rfl) fun R hR => ?_ | refine awp_draw mixed (by kernel_rfl) (by kernel_rfl) fun R hR => ?_); simp only [go_sem, s0, s4, s7, s8, sh, shb, sp, hne0, hne1, hne2, ez, e2, hlen, hjn, hd3, m1, m2, m3, ej, eap, eap2, eal, List.length_map, Int.toNat_natCast]) | ((first | (refine hR _ ?_; clear hR R) | refine awp_skip ?_ | refine awp_exit ?_ | refine awp_ret ?_); try simp only [thenA, inBlockA, reduceIte, reduceCtorEq, Nat.reduceEqDiff, if_false, if_true]) | ((first | refine hK _ ?_ | (clear hK K; first | refine hK _ ?_ | (clear hK K; first | refine hK _ ?_ | (clear hK K; first | refine hK _ ?_ | (clear hK K; refine hK _ ?_))))); clear hK K) | refine awp_true rfl rfl ?_ | refine awp_false rfl rfl ?_ | refine awp_block ?_ | ((first | refine CallK.pure (enter37) (hT) ?_ ?_ | refine CallD.pure (enter37) (hT) ?_ ?_); (focus first | ((repeat (first | exact trivial | refine ⟨(by first | exact Or.inl rfl | exact Or.inr rfl), ?_⟩)); done) | (simp only [coL, AV.dat, true_or, or_true, AV.d.injEq, go_sem]; done)); simp only [go_sem, s0, s4, s7, s8, sh, shb, sp, hne0, hne1, hne2, ez, e2, hlen, hjn, hd3, m1, m2, m3, ej, eap, eap2, eal, List.length_map, Int.toNat_natCast]) | refine And.intro (by first | ((repeat' first | omega | exact trivial | rfl | assumption | (intro a e; subst e; rfl) | exact map_sz fun a => (by simp only [go_sem]) | refine And.intro ?_ ?_); done) | fail) ?_ | fail)
        (first | refine ret_pure ?_ ?_ ?_ | refine ret_ro ?_ ?_ ?_); focus exact (by simp only [Tryd.results37, resOkL, resOk, Tryd.ntmps37, List.toList_toArray]; first | decide | (simp only [go_sem, s4, sh, shb, sp, hne0, hne1, hne2]; done) | (simp only [go_sem, s4, sh, shb, sp, hne0, hne1, hne2]; and_intros <;> first | omega | rfl | decide))
        rotate_left; focus exact (by repeat (first | exact Fr.rfl' _ _ | assumption | refine Fr.updk ?_ (by omega) _ | refine Fr.stH ?_ _ (by intro n hn; simp only [List.mem_cons, List.not_mem_nil, or_false] at hn; subst hn; simp only; omega)))
        simp only [resA, resV, Tryd.results37, go_sem, s4, sh, shb, sp, hne0, hne1, hne2]
        all_goals try (first | exact Co.t2 (.dat rfl) (.dat rfl) | exact Co.t3 (.dat rfl) (.dat rfl) (.dat rfl))
        exact Co.t2 (co_tm rfl) (.dat rfl)
       ·rw [if_neg (by rw [has_no hd h41]; simp)] at hA'
        simp only [taA] at hA'
        have m2 := byte_ne (n := 41) h41 rfl
        rw [hA']
        repeat' (first | refine awp_seq_k fun K hK => ?_ | ((first | refine awp_region_k (by kernel_rfl) fun R hR => ?_ | refine awp_draw mixed (by kernel_rfl) (by kernel_rfl) fun R hR => ?_); simp only [go_sem, s0, s4, s7, s8, sh, shb, sp, hne0, hne1, hne2, ez, e2, hlen, hjn, hd3, m1, m2, eap, eap2, eal, List.length_map, Int.toNat_natCast]) | ((first | (refine hR _ ?_; clear hR R) | refine awp_skip ?_ | refine awp_exit ?_ | refine awp_ret ?_); try simp only [thenA, inBlockA, reduceIte, reduceCtorEq, Nat.reduceEqDiff, if_false, if_true]) | ((first | refine hK _ ?_ | (clear hK K; first | refine hK _ ?_ | (clear hK K; first | refine hK _ ?_ | (clear hK K; first | refine hK _ ?_ | (clear hK K; refine hK _ ?_))))); clear hK K) | refine awp_true rfl rfl ?_ | refine awp_false rfl rfl ?_ | refine awp_block ?_ | ((first | refine CallK.pure (enter37) (hT) ?_ ?_ | refine CallD.pure (enter37) (hT) ?_ ?_); (focus first | ((repeat (first | exact trivial | refine ⟨(by first | exact Or.inl rfl | exact Or.inr rfl), ?_⟩)); done) | (simp only [coL, AV.dat, true_or, or_true, AV.d.injEq, go_sem]; done)); simp only [go_sem, s0, s4, s7, s8, sh, shb, sp, hne0, hne1, hne2, ez, e2, hlen, hjn, hd3, m1, m2, eap, eap2, eal, List.length_map, Int.toNat_natCast]) | refine And.intro (by first | ((repeat' first | omega | exact trivial | rfl | assumption | (intro a e; subst e; rfl) | exact map_sz fun a => (by simp only [go_sem]) | refine And.intro ?_ ?_); done) | fail) ?_ | fail)
        (first | refine ret_pure ?_ ?_ ?_ | refine ret_ro ?_ ?_ ?_); focus exact (by simp only [Tryd.results37, resOkL, resOk, Tryd.ntmps37, List.toList_toArray]; first | decide | (simp only [go_sem, s4, sh, shb, sp, hne0, hne1, hne2]; done) | (simp only [go_sem, s4, sh, shb, sp, hne0, hne1, hne2]; and_intros <;> first | omega | rfl | decide))
        rotate_left; focus exact (by repeat (first | exact Fr.rfl' _ _ | assumption | refine Fr.updk ?_ (by omega) _ | refine Fr.stH ?_ _ (by intro n hn; simp only [List.mem_cons, List.not_mem_nil, or_false] at hn; subst hn; simp only; omega)))
        simp only [resA, resV, Tryd.results37, go_sem, s4, sh, shb, sp, hne0, hne1, hne2]
        all_goals try (first | exact Co.t2 (.dat rfl) (.dat rfl) | exact Co.t3 (.dat rfl) (.dat rfl) (.dat rfl))
        exact Co.t2 (co_tm rfl) (.dat rfl)
     ·have hjn : decide ((j' : Int) ≥ (l.length : Int)) = true := by simp; omega
      rw [if_neg (by rw [has_end hj']; simp), if_neg (by rw [has_end hj']; simp)] at hA'
      simp only [taA] at hA'
      rw [hA']
      repeat' (first | refine awp_seq_k fun K hK => ?_ | ((first | refine awp_region_k (by kernel_rfl) fun R hR => ?_ | refine awp_draw mixed (by kernel_rfl) (by kernel_rfl) fun R hR => ?_); simp only [go_sem, s0, s4, s7, s8, sh, shb, sp, hne0, hne1, hne2, ez, e2, hlen, hjn, eap, eap2, eal, List.length_map, Int.toNat_natCast]) | ((first | (refine hR _ ?_; clear hR R) | refine awp_skip ?_ | refine awp_exit ?_ | refine awp_ret ?_); try simp only [thenA, inBlockA, reduceIte, reduceCtorEq, Nat.reduceEqDiff, if_false, if_true]) | ((first | refine hK _ ?_ | (clear hK K; first | refine hK _ ?_ | (clear hK K; first | refine hK _ ?_ | (clear hK K; first | refine hK _ ?_ | (clear hK K; refine hK _ ?_))))); clear hK K) | refine awp_true rfl rfl ?_ | refine awp_false rfl rfl ?_ | refine awp_block ?_ | ((first | refine CallK.pure (enter37) (hT) ?_ ?_ | refine CallD.pure (enter37) (hT) ?_ ?_); (focus first | ((repeat (first | exact trivial | refine ⟨(by first | exact Or.inl rfl | exact Or.inr rfl), ?_⟩)); done) | (simp only [coL, AV.dat, true_or, or_true, AV.d.injEq, go_sem]; done)); simp only [go_sem, s0, s4, s7, s8, sh, shb, sp, hne0, hne1, hne2, ez, e2, hlen, hjn, eap, eap2, eal, List.length_map, Int.toNat_natCast]) | refine And.intro (by first | ((repeat' first | omega | exact trivial | rfl | assumption | (intro a e; subst e; rfl) | exact map_sz fun a => (by simp only [go_sem]) | refine And.intro ?_ ?_); done) | fail) ?_ | fail)
      (first | refine ret_pure ?_ ?_ ?_ | refine ret_ro ?_ ?_ ?_); focus exact (by simp only [Tryd.results37, resOkL, resOk, Tryd.ntmps37, List.toList_toArray]; first | decide | (simp only [go_sem, s4, sh, shb, sp, hne0, hne1, hne2]; done) | (simp only [go_sem, s4, sh, shb, sp, hne0, hne1, hne2]; and_intros <;> first | omega | rfl | decide))
      rotate_left; focus exact (by repeat (first | exact Fr.rfl' _ _ | assumption | refine Fr.updk ?_ (by omega) _ | refine Fr.stH ?_ _ (by intro n hn; simp only [List.mem_cons, List.not_mem_nil, or_false] at hn; subst hn; simp only; omega)))
      simp only [resA, resV, Tryd.results37, go_sem, s4, sh, shb, sp, hne0, hne1, hne2]
      all_goals try (first | exact Co.t2 (.dat rfl) (.dat rfl) | exact Co.t3 (.dat rfl) (.dat rfl) (.dat rfl))
      exact Co.t2 (co_tm rfl) (.dat rfl)
theorem termAt_tri (l : By) (hl : l.length ≤ 4000000) : ∀ f : Nat, TaSpec l f
 | 0 => fun i hi h => by omega
 | f + 1 => fun i hi hfu => by
  rcases Nat.lt_or_ge i l.length with hlt | hge
  ·obtain ⟨c, hc⟩ : ∃ c, l[i]? = some c := ⟨_, List.getElem?_eq_getElem hlt⟩
   by_cases h88 : c = 88
   ·subst h88
    cases hn : rdN l (i + 1) with
    | none =>
     have e : taF l (f + 1) i = (.mk 0 0 [], -1) := by
      unfold taF; rw [rdT, if_pos (has_yes hc), hn]
     rw [e]; exact ta_none l f i hl hc (.inl rfl) hn
    | some p =>
     obtain ⟨n, j⟩ := p
     have h := ta_var l i hl hc n j hn
     have e : taF l (f + 1) i = (if n = 0 then .mk 0 0 [] else .mk n 0 [], if n = 0 then -1 else (j : Int)) := by
      unfold taF; rw [rdT, if_pos (has_yes hc), hn]
      simp only
      by_cases h0 : n = 0
      ·rw [if_pos h0, if_pos h0, if_neg (by omega)]
      ·rw [if_neg h0, if_neg h0, if_pos (by omega)]
     rw [e]; exact h
   ·by_cases h102 : c = 102
    ·subst h102
     have hx : ¬ (hasAt l i [88] = true) := by rw [has_no hc (by decide)]; simp
     cases hn : rdN l (i + 1) with
     | none =>
      have e : taF l (f + 1) i = (.mk 0 0 [], -1) := by
       unfold taF; rw [rdT, if_neg hx, if_pos (has_yes hc), hn]
      rw [e]; exact ta_none l f i hl hc (.inr rfl) hn
     | some p =>
      obtain ⟨n, j⟩ := p
      cases hp : hasAt l j [40] with
      | false =>
       have e : taF l (f + 1) i = (.mk 0 n [], (j : Int)) := by
        unfold taF; rw [rdT, if_neg hx, if_pos (has_yes hc), hn]
        simp only [hp, Bool.false_eq_true, if_false]
       rw [e]; exact ta_fn0 l i hl hc n j hn hp
      | true =>
       have hp' : l[j]? = some 40 := by rw [hasAt_one] at hp; simpa using hp
       refine ta_args l f i hl (termAt_tri l hl f) hfu hc n j hn hp' _ ?_
       unfold taF; rw [rdT, if_neg hx, if_pos (has_yes hc), hn]
       simp only [hp, if_true]
       cases rdA (rdT l f) l 4 (j + 1) [] <;> rfl
    ·have e : taF l (f + 1) i = (.mk 0 0 [], -1) := by
      unfold taF; rw [rdT, if_neg (by rw [has_no hc h88]; simp), if_neg (by rw [has_no hc h102]; simp)]
     rw [e]; exact ta_other l f i hl hc h88 h102
  ·have e : taF l (f + 1) i = (.mk 0 0 [], -1) := by
    unfold taF; rw [rdT, if_neg (by rw [has_end hge]; simp), if_neg (by rw [has_end hge]; simp)]
   rw [e]; exact ta_end l f i hl hi hge
def TriP (P : Program) (ch : List PanicEntry) (f : FuncId) (args : List AV) (b : Nm) (ob : Ob) : Prop :=
 ∀ (w0 : GW) (h : Heap) (k : Nat) (m : Mem) (β : Bl) (w : World) (cargs : Array Value), HRel P w0 h k m β w → h b = some ob →
  cargs.size = args.length → (∀ (i : Nat) (v : Value) (a : AV), cargs[i]? = some v → args[i]? = some a → R m β v a) →
  Calls P f cargs w fun en w' => ∃ m' β', en = .panicked ch ∧ m.le m' ∧ β.le β' ∧ (∀ n, β n = none → β' n = none) ∧ HRel P w0 (upd h b none) k m' β' w'
def BoomK (P : Program) (ch : List PanicEntry) (f : Operand) (args : Array Operand) (s : St) (K : St → Prop) : Prop :=
 ∃ g first caps az b ob, s.ev f = .fn (.func g) first caps ∧ enterOk P g ∧ coL (args.toList.map s.ev) az ∧ TriP P ch g (first ++ az ++ caps) b ob ∧ s.h b = some ob ∧ K ⟨s.t, upd s.h b none, s.k⟩
section
variable {P : Program} {w0 : GW} {w : World} {m : Mem} {β : Bl} {s : St} {a : Act} {n : Nat} {ch : List PanicEntry}
theorem boom_sound {dst : Option Tmp} {f : Operand} {args : Array Operand} {ats : Array TypeId} {ty : TypeId} {pos : String} {after : Array Edge} {guard : Option (Nat × Bool)} {KS : St → Prop} {K : Act → World → Prop} {Q : Exit → Act → World → Prop}
  (hb : BoomK P ch f args s KS) (hop : opOk n (.call ⟨.value f, args, ats⟩) = true) (hn : a.tmps.size = n) (H : HRel P w0 s.h s.k m β w) (hT : TRel m β s.t a.tmps)
  (hQ : ∀ b m' β' w', KS ⟨s.t, upd s.h b none, s.k⟩ → Goes P w0 m β ⟨s.t, upd s.h b none, s.k⟩ m' β' a w' → (∀ x, β x = none → β' x = none) → Q (.panic ch) a w') :
  Oper.wp P ⟨dst, .call ⟨.value f, args, ats⟩, ty, pos, after, guard⟩ a w K Q := by
 obtain ⟨g, first, caps, az, b, ob, hf, hent, hco, htri, hh, hks⟩ := hb
 simp only [opOk, Array.all_eq_true_iff_forall_mem] at hop
 have hfv := ev_ok hT hn (hop f (by simp [Op.operands, Call.operands]))
 rw [hf] at hfv
 obtain ⟨ha1, ha2⟩ := evs_ok hT hn (xs := args) (fun x hx => hop x (by simp [Op.operands, Call.operands, hx]))
 generalize hV : a.eval f = V at hfv
 cases hfv with
 | @fn _ fs cs _ _ h1 h2 h3 h4 =>
  have hres : (execOp a.eval ⟨dst, .call ⟨.value f, args, ats⟩, ty, pos, after, guard⟩).run P w = .ok (.enter g (fs ++ args.map a.eval ++ cs)) w := by
   simp [execOp, resolve, Deferred.ofValue, hV, invoke, hent _ w]
  obtain ⟨hl, hcR⟩ := coL_R hco
  have hlen : (fs ++ args.map a.eval ++ cs).size = (first ++ az ++ caps).length := by
   have : args.size = az.length := by simpa using hl
   simp [h1, h2, this]
  have hargs : ∀ (q : Nat) (v : Value) (b : AV), (fs ++ args.map a.eval ++ cs)[q]? = some v → (first ++ az ++ caps)[q]? = some b → R m β v b := by
   intro q v b hv hb
   have hla : (args.map a.eval).size = az.length := by rw [ha1, hl]
   by_cases q1 : q < first.length
   ·rw [Array.getElem?_append_left (by simp; omega), Array.getElem?_append_left (by omega)] at hv
    rw [List.getElem?_append_left (by simp; omega), List.getElem?_append_left q1] at hb
    exact h3 q v b hv hb
   ·by_cases q2 : q < first.length + az.length
    ·rw [Array.getElem?_append_left (by simp at hla ⊢; omega), Array.getElem?_append_right (by omega)] at hv
     rw [List.getElem?_append_left (by simp; omega), List.getElem?_append_right (by omega)] at hb
     rw [h1] at hv
     have hq : q - first.length < (args.toList.map s.ev).length := by rw [hl]; omega
     exact hcR _ v _ b (List.getElem?_eq_getElem hq) hb (ha2 _ v _ hv (List.getElem?_eq_getElem hq))
    ·rw [Array.getElem?_append_right (by simp at hla ⊢; omega)] at hv
     rw [List.getElem?_append_right (by simp; omega)] at hb
     have e1 : q - (fs ++ args.map a.eval).size = q - (first ++ az).length := by simp at hla ⊢; omega
     rw [e1] at hv
     exact h4 _ v b hv hb
  have hcalls := htri w0 s.h s.k m β w _ H hh hlen hargs
  unfold Oper.wp
  rw [hres]
  refine hcalls.mono ?_
  rintro en w' ⟨m', β', rfl, g1, g2, g3, g4⟩
  exact hQ b m' β' w' hks ⟨g1, g2, g4, hT.mono g1 g2⟩ g3
theorem wpList_app {ops : Array Oper} {Q Q' : Exit → Act → World → Prop} {l2 : List Oper} : ∀ (l1 : List Oper) (a : Act) (w : World), wpList P ops Q' l1 a w → (∀ a w, Q' .normal a w → wpList P ops Q l2 a w) → (∀ e a w, e ≠ .normal → Q' e a w → Q e a w) → wpList P ops Q (l1 ++ l2) a w
 | [], a, w, h, h1, _ => h1 a w h
 | o :: l1, a, w, h, h1, h2 => by
  have nx : ∀ a w, wpList P ops Q' l1 a w → wpList P ops Q (l1 ++ l2) a w := fun a w h => wpList_app l1 a w h h1 h2
  rw [List.cons_append]
  unfold wpList at h ⊢
  split
  ·rename_i hw
   rw [if_pos hw] at h
   rcases h with h | ⟨q1, q2⟩
   ·left
    unfold Oper.wp at h ⊢
    generalize (execOp a.eval o).run P w = r at *
    cases r with
    | ok nx' w' =>
     cases nx' <;> simp only [Oper.upon] at h ⊢ <;>
      first
       | exact nx _ _ h
       | (refine Calls.mono h (fun e w'' he => ?_); cases e with
        | returned v => exact nx _ _ he
        | panicked c => exact h2 _ _ _ (by simp) he
        | outgrown => obtain ⟨a0, w0', hh⟩ := he; exact ⟨a0, w0', h2 _ _ _ (by simp) hh⟩)
       | exact Rows.mono h (fun _ _ he => nx _ _ he)
    | halt x w' => cases x <;> simp only [Oper.upon] at h ⊢ <;> first | exact h2 _ _ _ (by simp) h | exact h
   ·right
    obtain ⟨a0, w0', hh⟩ := q2
    exact ⟨q1, a0, w0', h2 _ _ _ (by simp) hh⟩
  ·rename_i hw
   rw [if_neg hw] at h
   exact nx _ _ h
theorem awp_boom {Q : Exit → St → Prop} {id : Nat} {l : List Oper} (q : Nat) {dst : Option Tmp} {f : Operand} {args : Array Operand} {ats : Array TypeId} {ty : TypeId} {pos : String} {after : Array Edge}
  (hreg : regOk n l = true) (hq : l[q]? = some ⟨dst, .call ⟨.value f, args, ats⟩, ty, pos, after, none⟩)
  (h : ∀ K : St → Prop, (∀ s', BoomK P ch f args s' (Q (.panic ch)) → K s') → runL P l.toArray s.k (l.take q) 0 { s with k := s.k + 1 } K) : awp P w0 n (.region id l.toArray false) Q s := by
 have h := h _ fun _ h => h
 intro m β a w h1 h2 h3
 simp only [regOk, Bool.and_eq_true, List.all_eq_true, decide_eq_true_eq] at hreg
 obtain ⟨hreg, hlen⟩ := hreg
 refine wp_region_list ?_
 have hql : q < l.length := (List.getElem?_eq_some_iff.1 hq).1
 have hqe : l[q] = ⟨dst, .call ⟨.value f, args, ats⟩, ty, pos, after, none⟩ := (List.getElem?_eq_some_iff.1 hq).2
 have el : l = l.take q ++ (⟨dst, .call ⟨.value f, args, ats⟩, ty, pos, after, none⟩ : Oper) :: l.drop (q + 1) := by
  rw [← hqe, ← List.drop_eq_getElem_cons hql, List.take_append_drop]
 have ht : ∀ o ∈ l.take q, opOk n o.op = true := fun o ho => (hreg o (List.mem_of_mem_take ho)).1
 have key := runF_sound (P := P) (w0 := w0) (n := n) (ops := l.toArray) (tick := s.k) (Q := fun e a' w' => e = .normal ∧ wpList P l.toArray (fun e a' w' => ∃ s' m' β', Q e s' ∧ a'.tmps.size = n ∧ a'.defers = a.defers ∧ s.k ≤ s'.k ∧ Goes P w0 m β s' m' β' a' w' ∧ ∀ x, x.1 < s.k → β x = none → β' x = none) ((⟨dst, .call ⟨.value f, args, ats⟩, ty, pos, after, none⟩ : Oper) :: l.drop (q + 1)) a' w')
  (fun o ho => (hreg o (by simpa using ho)).2) (l.take q) 0 { s with k := s.k + 1 } m β a w (runF_of _ _ _ h) ht (by simp; omega) h1 (by simp) (h2.tick (Nat.le_succ _)) h3 (fun j _ => by
   cases hb : β (s.k, j) with
   | none => rfl
   | some p => have := h2.dom _ _ hb; simp at this) (by
   intro s' m' β' a' w' hK k1 k2 k3 k4 k5
   refine ⟨rfl, ?_⟩
   unfold wpList
   rw [if_pos (by simp [Region.wanted])]
   left
   refine boom_sound (n := n) (s := s') (m := m') (β := β') hK ?_ k1 k4.heap k4.slots ?_
   ·have := (hreg _ (List.getElem_mem hql)).1
    rwa [hqe] at this
   ·intro b m'' β'' w'' hq hg hx
    exact ⟨_, m'', β'', hq, k1, k2, by show s.k ≤ s'.k; rw [k3]; exact Nat.le_succ _, ⟨k4.mem.trans hg.mem, k4.bl.trans hg.bl, hg.heap, hg.slots⟩, fun x hx' h0 => hx x (k5 x (by omega) h0)⟩)
 show wpList P l.toArray _ l.toArray.toList a w
 rw [List.toList_toArray]
 conv => arg 4; rw [el]
 exact wpList_app _ _ _ key (fun a w h => h.2) (fun e a w he h => absurd h.1 he)
theorem BoomK.mk1 {s : St} {g : FuncId} {args : Array Operand} {az : List AV} {b : Nm} {ob : Ob} {K : St → Prop} (hent : enterOk P g) (ht : TriP P ch g az b ob) (hco : coL (args.toList.map s.ev) az) (hh : s.h b = some ob) (hk : K ⟨s.t, upd s.h b none, s.k⟩) : BoomK P ch (.func g) args s K :=
 ⟨g, [], [], az, b, ob, rfl, hent, hco, by simpa using ht, hh, hk⟩
theorem BoomK.mkv {s : St} {f : Operand} {g : FuncId} {first caps : List AV} {args : Array Operand} {az : List AV} {b : Nm} {ob : Ob} {K : St → Prop} (hf : s.ev f = .fn (.func g) first caps) (hent : enterOk P g) (ht : TriP P ch g (first ++ az ++ caps) b ob) (hco : coL (args.toList.map s.ev) az) (hh : s.h b = some ob) (hk : K ⟨s.t, upd s.h b none, s.k⟩) : BoomK P ch f args s K :=
 ⟨g, first, caps, az, b, ob, hf, hent, hco, ht, hh, hk⟩
def panQ (ch : List PanicEntry) (b : Nm) (h0 : Heap) (k : Nat) : Exit → St → Prop
 | .panic c, s => c = ch ∧ FrN k [b] h0 s.h
 | _, _ => False
theorem triP_enter {f : FuncId} {fn : Func} {c : Code} {args : List AV} {b : Nm} {ob : Ob} {n : Nat} (hf : P.funcs[f]? = some fn) (hb : fn.body = some c) (hnt : fn.ntmps = n) (hlen : args.length ≤ n)
  (h : ∀ (w0 : GW) (h0 : Heap) (k : Nat), h0 b = some ob → b.1 < k → awp P w0 n c (panQ ch b h0 k) ⟨slotsOf args, h0, k⟩) : TriP P ch f args b ob := by
 subst hnt
 intro w0 h0 k m β w cargs H hh hsz hargs
 obtain ⟨p, hp, _⟩ := H.obj b ob hh
 have hbk : b.1 < k := H.dom b p hp
 refine calls_of_wp hf hb (wp_mono (h w0 h0 k hh hbk m β _ w ?_ H ?_) ?_)
 ·simp; omega
 ·intro i v hi
  show R m β v (args.getD i .junk)
  by_cases hlt : i < cargs.size
  ·rw [Array.getElem?_append_left hlt] at hi
   have ha : args[i]? = some (args[i]'(by omega)) := List.getElem?_eq_getElem (by omega)
   have := hargs i v _ hi ha
   rwa [show args.getD i AV.junk = args[i]'(by omega) from by simp only [List.getD_eq_getElem?_getD, ha, Option.getD_some]]
  ·rw [show args.getD i AV.junk = .junk from by simp only [List.getD_eq_getElem?_getD, List.getElem?_eq_none (show args.length ≤ i by omega)]; rfl]
   exact .junk
 ·rintro en a' w' ⟨s', m', β', hq, g1, g2, g3, g4, g5⟩
  cases en with
  | panic c =>
   obtain ⟨rfl, hfr⟩ := hq
   obtain ⟨β'', k1, k2, k3, k4, _⟩ := leave (s := ⟨s'.t, upd s'.h b none, s'.k⟩) (ren := none) (e := ⟨.junk, [], [(b, none)]⟩) H g4.bl g5 (g4.heap.del b) ⟨fun x hx _ => by
     show upd s'.h b none x = upd h0 b none x
     unfold upd
     split
     ·rfl
     ·rename_i hne; exact hfr x hx (by simpa using hne), fun y hy => (by cases hy), fun x hx ob ho => by
     simp only [List.mem_cons, List.not_mem_nil, or_false] at hx
     subst hx; cases ho⟩ (fun x hx => by
     simp only [List.mem_cons, List.not_mem_nil, or_false] at hx
     subst hx; exact hbk) (fun y hy => by cases hy)
   refine ⟨g2, m', β'', rfl, g4.mem, k1, fun x hx => ?_, k3⟩
   by_cases e : x = b
   ·subst e; rw [hp] at hx; cases hx
   ·exact k2 x (fun y hy => by
     simp only [List.mem_cons, List.not_mem_nil, or_false] at hy
     subst hy; exact Ne.symm e) hx
  | _ => exact hq.elim
end
def anyB (P : Program) (ops : Array Oper) (tick q : Nat) (B : St → Prop) : Nat → Array Bool → St → Prop
 | 0, _, _ => False
 | f + 1, listed, s => Region.ready .any ops listed ≠ [] ∧ ∀ i ∈ Region.ready .any ops listed, ∀ o, ops[i]? = some o →
   if i = q then B s else ∃ e, OpD P ops tick i o s e ∧ anyB P ops tick q B f (listed.setIfInBounds i true) (s.step o e)
section
variable {P : Program} {w0 : GW} {n : Nat} {ops : Array Oper} {tick q : Nat} {ch : List PanicEntry}
theorem anyB_sound {Q : Exit → Act → World → Prop} {KS : St → Prop} {dst : Option Tmp} {f : Operand} {args : Array Operand} {ats : Array TypeId} {ty : TypeId} {pos : String} {after : Array Edge}
  (hd : ∀ o ∈ ops, dstOk n o = true) (hop : ∀ o ∈ ops, opOk n o.op = true) (hsz : ops.size < 1000) (hq : ops[q]? = some ⟨dst, .call ⟨.value f, args, ats⟩, ty, pos, after, none⟩) : ∀ (fuel : Nat) (listed : Array Bool) (s : St) (m : Mem) (β : Bl) (a : Act) (w : World),
  anyB P ops tick q (fun s => BoomK P ch f args s KS) fuel listed s → listed.size = ops.size → a.tmps.size = n → tick < s.k → HRel P w0 s.h s.k m β w → TRel m β s.t a.tmps → (∀ j, listed.getD (j % 1000) true = false → β (tick, j) = none) →
  (∀ (s' : St) (b : Nm) m' β' a' w', KS ⟨s'.t, upd s'.h b none, s'.k⟩ → a'.tmps.size = n → a'.defers = a.defers → s'.k = s.k → Goes P w0 m β ⟨s'.t, upd s'.h b none, s'.k⟩ m' β' a' w' → (∀ x, x.1 ≠ tick → β x = none → β' x = none) → Q (.panic ch) a' w') → wpAny P .any ops Q fuel listed a w
 | 0, _, _, _, _, _, _, hr, _, _, _, _, _, _, _ => hr.elim
 | fuel + 1, listed, s, m, β, a, w, hr, hls, hn, hk, H, hT, hfr, hQ => by
  refine ⟨fun h0 => absurd h0 hr.1, fun i hi => ?_⟩
  obtain ⟨hun, o, ho, _⟩ := mem_ready.1 hi
  have hlt : i < ops.size := (Array.getElem?_eq_some_iff.1 ho).1
  have hri := hr.2 i hi o ho
  have hop1 := hop o (Array.mem_of_getElem? ho)
  unfold wpOp
  simp only [ho]
  by_cases hiq : i = q
  ·subst hiq
   rw [if_pos rfl] at hri
   rw [ho] at hq; cases hq
   rw [if_pos (by simp [Region.wanted])]
   left
   refine boom_sound (n := n) hri hop1 hn H hT fun b m' β' w' h1 h2 h3 => ?_
   exact hQ s b m' β' a w' h1 hn rfl rfl h2 fun x _ h0 => h3 x h0
  ·rw [if_neg hiq] at hri
   obtain ⟨e, hD, hrest⟩ := hri
   have next : ∀ v m' β' w', Goes P w0 m β (s.step o e) m' β' (a.put o.dst v) w' → (∀ x, ¬ (x.1 = tick ∧ x.2 % 1000 = i) → β x = none → β' x = none) → wpAny P .any ops Q fuel (listed.setIfInBounds i true) (a.put o.dst v) w' := by
    intro v m' β' w' hg hb
    refine anyB_sound hd hop hsz hq fuel _ (s.step o e) m' β' (a.put o.dst v) w' hrest (by simpa using hls) (by rw [put_size, hn]) hk hg.heap hg.slots (fun j hj => ?_) ?_
    ·have hne : j % 1000 ≠ i := fun e => by
      subst e
      have hl : j % 1000 < listed.size := by omega
      rw [Array.getD_eq_getD_getElem?, Array.getElem?_setIfInBounds_self_of_lt hl] at hj
      cases hj
     rw [getD_set_ne true (Ne.symm hne)] at hj
     exact hb (tick, j) (fun h => hne h.2) (hfr j hj)
    ·intro s' b m'' β'' a' w'' h1 h2 h3 h4 h5 h6
     refine hQ s' b m'' β'' a' w'' h1 h2 (h3.trans (put_defers _ _ _)) h4 ⟨hg.mem.trans h5.mem, hg.bl.trans h5.bl, h5.heap, h5.slots⟩ fun x hx h0 => h6 x hx (hb x (fun h => hx h.1) h0)
   have act : ActOK P tick i o s e → o.wp P a w (wpAny P .any ops Q fuel (listed.setIfInBounds i true)) Q := fun h1 =>
    act_sound h1 hop1 hn hk (by omega) H hT (fun j hj => hfr j (by rw [hj]; exact hun)) fun v m' β' w' hg hb => next v m' β' w' hg hb
   unfold OpD at hD
   split at hD
   ·rename_i hg
    rw [if_pos (by simp [Region.wanted, hg])]
    exact .inl (act hD)
   ·rename_i j b hg
    obtain ⟨h1, h2, h3⟩ := hD
    have hy := gval_sound (b := b) hT hn hd h1
    by_cases hb : guardB b (gval ops s j) = true
    ·rw [if_pos (by simp [Region.wanted, hg, hb] at hy ⊢; exact hy)]
     exact .inl (act (h2 hb))
    ·have hb' : guardB b (gval ops s j) = false := by simpa using hb
     rw [if_neg (by simp [Region.wanted, hg, hb'] at hy ⊢; exact hy)]
     have he := h3 hb'
     exact next undef m β w ⟨.rfl' m, .rfl' β, by rw [he]; exact H, step_slots hT (.rfl' m) (.rfl' β) (by rw [he]; exact .un)⟩ fun _ _ h => h
theorem awp_anyB {Q : Exit → St → Prop} {s : St} {id : Nat} {l : List Oper} {dst : Option Tmp} {f : Operand} {args : Array Operand} {ats : Array TypeId} {ty : TypeId} {pos : String} {after : Array Edge}
  (hm : P.follows .mixedOrders = true) (hreg : regOk n l = true) (hq : l[q]? = some ⟨dst, .call ⟨.value f, args, ats⟩, ty, pos, after, none⟩)
  (hB : anyB P l.toArray s.k q (fun s' => BoomK P ch f args s' (Q (.panic ch))) l.length (Array.replicate l.toArray.size false) { s with k := s.k + 1 }) : awp P w0 n (.region id l.toArray true) Q s := by
 intro m β a w h1 h2 h3
 simp only [regOk, Bool.and_eq_true, List.all_eq_true, decide_eq_true_eq] at hreg
 obtain ⟨hreg, hlen⟩ := hreg
 refine wp_region_any hm ?_
 have hsz : l.toArray.size = l.length := by simp
 rw [hsz]
 rw [hsz] at hB
 refine anyB_sound (n := n) (fun o ho => (hreg o (by simpa using ho)).2) (fun o ho => (hreg o (by simpa using ho)).1) (by simpa using hlen) (by simpa using hq) l.length _ { s with k := s.k + 1 } m β a _ hB (by simp) h1 (by simp) ((h2.tick (Nat.le_succ _)).draw) h3 (fun j _ => ?_) ?_
 ·cases hb : β (s.k, j) with
  | none => rfl
  | some p => have := h2.dom _ _ hb; simp at this
 ·intro s' b m' β' a' w' hK g1 g2 g3 g4 g5
  exact ⟨_, m', β', hK, g1, g2, by show s.k ≤ s'.k; rw [g3]; exact Nat.le_succ _, g4, fun x hx => g5 x (by omega)⟩
def backB (l : List Oper) : Bool := (List.range l.length).all fun i => match l[i]? with | some o => o.after.all fun e => !Region.binds .any e || decide (e.on < i) | none => true
def depB (l : List Oper) : Bool := (List.range (l.length - 1)).all fun j => (List.range l.length).any fun i => decide (j < i) && match l[i]? with | some o => edgeB o j | none => false
theorem ready_all {l : List Oper} {listed : Array Bool} (hdep : depB l = true) (hq : q + 1 = l.length) (hr : q ∈ Region.ready .any l.toArray listed) (hc : Closd l.toArray listed) : ∀ (d j : Nat), j + d = q → 0 < d → listed.getD j false = true := by
 intro d
 induction d using Nat.strongRecOn with
 | _ d ih =>
  intro j hj hd
  unfold depB at hdep
  rw [List.all_eq_true] at hdep
  have h1 := hdep j (by rw [List.mem_range]; omega)
  rw [List.any_eq_true] at h1
  obtain ⟨i, hi, h2⟩ := h1
  rw [List.mem_range] at hi
  simp only [Bool.and_eq_true, decide_eq_true_eq] at h2
  obtain ⟨hji, h2⟩ := h2
  cases ho : l[i]? with
  | none => rw [ho] at h2; cases h2
  | some o =>
   rw [ho] at h2
   simp only at h2
   have ho' : l.toArray[i]? = some o := by simpa using ho
   rcases Nat.lt_or_ge i q with hlt | hge
   ·have hl := ih (q - i) (by omega) i (by omega) (by omega)
    exact edgeB_listed (fun e he hb => hc i o ho' hl e he hb) h2
   ·have : i = q := by omega
    subst this
    obtain ⟨_, o2, ho2, hall⟩ := mem_ready.1 hr
    rw [ho'] at ho2; cases ho2
    exact edgeB_listed hall h2
theorem ready_ne {l : List Oper} {listed : Array Bool} (hback : backB l = true) (hsz : listed.size = l.length) : ∀ (d i : Nat), i + d = l.length → (∀ j, j < i → listed.getD j false = true) → (∃ j, j < l.length ∧ listed.getD j false = false) → ∃ i, i ∈ Region.ready .any l.toArray listed
 | 0, i, hi, hpre, ⟨j, hj, hjf⟩ => by rw [hpre j (by omega)] at hjf; cases hjf
 | d + 1, i, hi, hpre, hex => by
  have hil : i < l.length := by omega
  cases hli : listed.getD i false with
  | true => exact ready_ne hback hsz d (i + 1) (by omega) (fun j hj => by rcases Nat.lt_succ_iff_lt_or_eq.1 hj with h | h; exact hpre j h; rw [h]; exact hli) hex
  | false =>
   refine ⟨i, mem_ready.2 ⟨?_, l[i], by simpa using List.getElem?_eq_getElem hil, fun e he hb => ?_⟩⟩
   ·rw [Array.getD_eq_getD_getElem?] at hli ⊢
    rw [Array.getElem?_eq_getElem (by omega)] at hli ⊢
    exact hli
   ·unfold backB at hback
    rw [List.all_eq_true] at hback
    have := hback i (by rw [List.mem_range]; exact hil)
    rw [List.getElem?_eq_getElem hil] at this
    simp only [Array.all_eq_true_iff_forall_mem, Bool.or_eq_true, Bool.not_eq_true', decide_eq_true_eq] at this
    rcases this e he with h | h
    ·rw [hb] at h; cases h
    ·exact hpre _ h
theorem anyB_last {es : Nat → Eff} {B : St → Prop} {l : List Oper} (hback : backB l = true) (hdep : depB l = true) (hql : q + 1 = l.length) : ∀ (f : Nat) (listed' listed : Array Bool) (s : St), listed'.size = q → listed.size = q + 1 → (∀ i, i < q → listed[i]? = listed'[i]?) → listed[q]? = some false → Closd l.toArray listed →
  anyA P (l.take q).toArray tick es f listed' s B → anyB P l.toArray tick q B (f + 1) listed s := by
 intro f
 induction f with
 | zero =>
  intro listed' listed s h1 h2 h3 h4 hc hA
  have hsz : listed.size = l.length := by omega
  refine ⟨fun h0 => ?_, fun i hi o ho => ?_⟩
  ·obtain ⟨i, hi⟩ := ready_ne hback hsz l.length 0 (by omega) (fun j hj => by omega) ⟨q, by omega, by rw [Array.getD_eq_getD_getElem?, h4]; rfl⟩
   rw [h0] at hi; cases hi
  ·by_cases hiq : i = q
   ·rw [if_pos hiq]; exact hA.2
   ·exfalso
    obtain ⟨hun, o', ho', hall⟩ := mem_ready.1 hi
    have hlt : i < l.length := by have := (Array.getElem?_eq_some_iff.1 ho').1; simpa using this
    have hm : i ∈ Region.ready .any (l.take q).toArray listed' := mem_ready.2 ⟨by
     rw [Array.getD_eq_getD_getElem?, ← h3 i (by omega), ← Array.getD_eq_getD_getElem?]; exact hun, o', by
     simp only [List.getElem?_toArray] at ho' ⊢; rw [List.getElem?_take_of_lt (by omega)]; exact ho', fun e he hb => by
     have hl := hall e he hb
     have hel : e.on < q := by
      unfold backB at hback
      rw [List.all_eq_true] at hback
      have := hback i (by rw [List.mem_range]; exact hlt)
      simp only [List.getElem?_toArray] at ho'
      rw [ho'] at this
      simp only [Array.all_eq_true_iff_forall_mem, Bool.or_eq_true, Bool.not_eq_true', decide_eq_true_eq] at this
      rcases this e he with h | h
      ·rw [hb] at h; cases h
      ·omega
     rw [Array.getD_eq_getD_getElem?, ← h3 _ hel, ← Array.getD_eq_getD_getElem?]; exact hl⟩
    rw [hA.1] at hm; cases hm
 | succ f ih =>
  intro listed' listed s h1 h2 h3 h4 hc hA
  have hsz : listed.size = l.length := by omega
  have back : ∀ i o, l[i]? = some o → ∀ e ∈ o.after, Region.binds .any e = true → e.on < i := fun i o ho e he hb => by
   have hlt := (List.getElem?_eq_some_iff.1 ho).1
   unfold backB at hback
   rw [List.all_eq_true] at hback
   have := hback i (by rw [List.mem_range]; exact hlt)
   rw [ho] at this
   simp only [Array.all_eq_true_iff_forall_mem, Bool.or_eq_true, Bool.not_eq_true', decide_eq_true_eq] at this
   rcases this e he with h | h
   ·rw [hb] at h; cases h
   ·exact h
  refine ⟨fun h0 => ?_, fun i hi o ho => ?_⟩
  ·obtain ⟨i, hi⟩ := ready_ne hback hsz l.length 0 (by omega) (fun j hj => by omega) ⟨q, by omega, by rw [Array.getD_eq_getD_getElem?, h4]; rfl⟩
   rw [h0] at hi; cases hi
  ·by_cases hiq : i = q
   ·subst hiq
    rw [if_pos rfl]
    refine hA.1 ?_
    have hall := ready_all hdep hql hi hc
    refine List.eq_nil_iff_forall_not_mem.2 fun j hj => ?_
    obtain ⟨hun, o2, ho2, _⟩ := mem_ready.1 hj
    have hjl : j < i := by have := (Array.getElem?_eq_some_iff.1 ho2).1; simp at this; omega
    have := hall (i - j) j (by omega) (by omega)
    rw [Array.getD_eq_getD_getElem?, h3 j hjl, Array.getElem?_eq_getElem (by omega)] at this
    rw [Array.getD_eq_getD_getElem?, Array.getElem?_eq_getElem (by omega)] at hun
    simp only [Option.getD_some] at this hun
    rw [this] at hun; cases hun
   ·rw [if_neg hiq]
    obtain ⟨hun, o', ho', hall⟩ := mem_ready.1 hi
    rw [ho'] at ho; cases ho
    have hlt : i < l.length := by have := (Array.getElem?_eq_some_iff.1 ho').1; simpa using this
    have hil : i < q := by omega
    have ho'' : l[i]? = some o := by simpa using ho'
    have ho3 : (l.take q).toArray[i]? = some o := by simp only [List.getElem?_toArray]; rw [List.getElem?_take_of_lt hil]; exact ho''
    have hm : i ∈ Region.ready .any (l.take q).toArray listed' := mem_ready.2 ⟨by
     rw [Array.getD_eq_getD_getElem?, ← h3 i hil, ← Array.getD_eq_getD_getElem?]; exact hun, o, ho3, fun e he hb => by
     have hl := hall e he hb
     have hel : e.on < q := by have := back i o ho'' e he hb; omega
     rw [Array.getD_eq_getD_getElem?, ← h3 _ hel, ← Array.getD_eq_getD_getElem?]; exact hl⟩
    obtain ⟨hD, hA'⟩ := hA.2 i hm o ho3
    refine ⟨es i, ?_, ?_⟩
    ·unfold OpD at hD ⊢
     split
     ·rename_i hg; rw [hg] at hD; exact hD
     ·rename_i j b hg
      rw [hg] at hD
      simp only at hD
      have hjq : j < q := by
       refine Classical.byContradiction fun hge => ?_
       have : gval (l.take q).toArray s j = .junk := by
        unfold gval gslot
        rw [Array.getElem?_eq_none (by simp; omega)]
        rfl
       rw [this] at hD
       simp [guardOk, isBool] at hD
      have e1 : gval l.toArray s j = gval (l.take q).toArray s j := by
       unfold gval gslot
       simp only [List.getElem?_toArray]
       rw [List.getElem?_take_of_lt hjq]
      rw [e1]; exact hD
    ·refine ih _ _ _ (by simpa using h1) (by simpa using h2) (fun j hj => ?_) ?_ (hc.set hi) hA'
     ·by_cases e : i = j
      ·subst e
       rw [Array.getElem?_setIfInBounds_self_of_lt (by omega), Array.getElem?_setIfInBounds_self_of_lt (by omega)]
      ·rw [Array.getElem?_setIfInBounds_ne e, Array.getElem?_setIfInBounds_ne e]; exact h3 j hj
     ·rw [Array.getElem?_setIfInBounds_ne hiq]; exact h4
theorem awp_boom_last {Q : Exit → St → Prop} {s : St} {id : Nat} {l : List Oper} (q : Nat) {dst : Option Tmp} {f : Operand} {args : Array Operand} {ats : Array TypeId} {ty : TypeId} {pos : String} {after : Array Edge}
  (hm : P.follows .mixedOrders = true) (hreg : regOk n l = true) (hq : l[q]? = some ⟨dst, .call ⟨.value f, args, ats⟩, ty, pos, after, none⟩) (hql : q + 1 = l.length) (hback : backB l = true) (hdep : depB l = true)
  (hB : Region.lexB .any (l.take q).toArray = true)
  (h : ∀ K : St → Prop, (∀ s', BoomK P ch f args s' (Q (.panic ch)) → K s') → runD P (l.take q).toArray s.k (l.take q) 0 { s with k := s.k + 1 } [] K) : awp P w0 n (.region id l.toArray true) Q s := by
 have h := h _ fun _ h => h
 refine awp_anyB (ch := ch) hm hreg hq ?_
 simp only [Region.lexB, Bool.and_eq_true] at hB
 obtain ⟨es, k1, k2, _⟩ := runE_es (l.take q) 0 _ [] (runE_of (l.take q) 0 _ _ h)
 have hlen : (l.take q).length = q := by rw [List.length_take]; omega
 have hA := anyA_lex (ops := (l.take q).toArray) (es := es) (fun a b o hab hb => by have := k2 a b o hab (by simpa using hb); simpa using this) (l.take q) 0 (Array.replicate (l.take q).toArray.size false) _ (by simp) (by simp) (fun j oj _ hj => by simp only [Array.getD_eq_getD_getElem?, Array.getElem?_replicate] at hj; split at hj <;> cases hj) (by simpa using hB.2) k1
 rw [hlen] at hA
 rw [← hql]
 refine anyB_last hback hdep hql q _ _ _ (by simp; omega) (by simp; omega) (fun i hi => ?_) ?_ (fun j oj _ hj => by simp only [Array.getD_eq_getD_getElem?, Array.getElem?_replicate] at hj; split at hj <;> cases hj) hA
 ·rw [Array.getElem?_replicate, Array.getElem?_replicate, if_pos (by simp; omega), if_pos (by simp; omega)]
 ·rw [Array.getElem?_replicate, if_pos (by simp; omega)]
def pst (P : Program) (tick i : Nat) (o : Oper) (s : St) : St := s.step o (effOf P (tick, i) o.op s.ev s.h)
theorem opD_plain {i : Nat} {o : Oper} {s : St} (hg : o.guard = none) (hc : isCallV o.op = false) (h : okOf P o.op s.ev s.h) : OpD P ops tick i o s (effOf P (tick, i) o.op s.ev s.h) := by
 unfold OpD
 rw [hg]
 show ActOK P tick i o s _
 unfold ActOK
 split
 ·rename_i heq; rw [heq] at hc; simp [isCallV] at hc
 ·exact ⟨h, rfl⟩
theorem anyB_three {B : St → Prop} {s : St} {o0 o1 o2 o3 : Oper} {r : List Oper} {f : Nat} (hl : ops = (o0 :: o1 :: o2 :: o3 :: r).toArray)
  (hg : (o0.guard.isNone && o1.guard.isNone && o2.guard.isNone && !isCallV o0.op && !isCallV o1.op && !isCallV o2.op) = true)
  (r0 : Region.ready .any ops (Array.replicate ops.size false) = [0, 2])
  (ra : Region.ready .any ops ((Array.replicate ops.size false).setIfInBounds 0 true) = [1, 2])
  (rb : Region.ready .any ops ((Array.replicate ops.size false).setIfInBounds 2 true) = [0, 3])
  (rc : Region.ready .any ops (((Array.replicate ops.size false).setIfInBounds 0 true).setIfInBounds 1 true) = [2])
  (rd : Region.ready .any ops (((Array.replicate ops.size false).setIfInBounds 0 true).setIfInBounds 2 true) = [1, 3])
  (re : Region.ready .any ops (((Array.replicate ops.size false).setIfInBounds 2 true).setIfInBounds 0 true) = [1, 3])
  (rf : Region.ready .any ops ((((Array.replicate ops.size false).setIfInBounds 0 true).setIfInBounds 1 true).setIfInBounds 2 true) = [3])
  (rg : Region.ready .any ops ((((Array.replicate ops.size false).setIfInBounds 0 true).setIfInBounds 2 true).setIfInBounds 1 true) = [3])
  (rh : Region.ready .any ops ((((Array.replicate ops.size false).setIfInBounds 2 true).setIfInBounds 0 true).setIfInBounds 1 true) = [3])
  (k0 : okOf P o0.op s.ev s.h) (k2 : okOf P o2.op s.ev s.h)
  (ka1 : okOf P o1.op (pst P tick 0 o0 s).ev (pst P tick 0 o0 s).h) (ka2 : okOf P o2.op (pst P tick 0 o0 s).ev (pst P tick 0 o0 s).h)
  (kb0 : okOf P o0.op (pst P tick 2 o2 s).ev (pst P tick 2 o2 s).h) (bb : B (pst P tick 2 o2 s))
  (kc2 : okOf P o2.op (pst P tick 1 o1 (pst P tick 0 o0 s)).ev (pst P tick 1 o1 (pst P tick 0 o0 s)).h)
  (kd1 : okOf P o1.op (pst P tick 2 o2 (pst P tick 0 o0 s)).ev (pst P tick 2 o2 (pst P tick 0 o0 s)).h) (bd : B (pst P tick 2 o2 (pst P tick 0 o0 s)))
  (ke1 : okOf P o1.op (pst P tick 0 o0 (pst P tick 2 o2 s)).ev (pst P tick 0 o0 (pst P tick 2 o2 s)).h) (be : B (pst P tick 0 o0 (pst P tick 2 o2 s)))
  (bf : B (pst P tick 2 o2 (pst P tick 1 o1 (pst P tick 0 o0 s)))) (bg : B (pst P tick 1 o1 (pst P tick 2 o2 (pst P tick 0 o0 s)))) (bh : B (pst P tick 1 o1 (pst P tick 0 o0 (pst P tick 2 o2 s)))) :
  anyB P ops tick 3 B (f + 4) (Array.replicate ops.size false) s := by
 simp only [Bool.and_eq_true, Option.isNone_iff_eq_none, Bool.not_eq_true'] at hg
 obtain ⟨⟨⟨⟨⟨g0, g1⟩, g2⟩, c0⟩, c1⟩, c2⟩ := hg
 have i0 : ∀ o, ops[0]? = some o → o = o0 := fun o ho => by subst hl; simp at ho; exact ho.symm
 have i1 : ∀ o, ops[1]? = some o → o = o1 := fun o ho => by subst hl; simp at ho; exact ho.symm
 have i2 : ∀ o, ops[2]? = some o → o = o2 := fun o ho => by subst hl; simp at ho; exact ho.symm
 have two : ∀ {Pr : Nat → Prop} {x y : Nat}, Pr x → Pr y → ∀ i ∈ [x, y], Pr i := fun h1 h2 i hi => by
  simp only [List.mem_cons, List.not_mem_nil, or_false] at hi
  rcases hi with rfl | rfl
  ·exact h1
  ·exact h2
 have one : ∀ {Pr : Nat → Prop} {x : Nat}, Pr x → ∀ i ∈ [x], Pr i := fun h1 i hi => by
  simp only [List.mem_cons, List.not_mem_nil, or_false] at hi
  rw [hi]; exact h1
 have boom : ∀ {s' : St} {Z : Oper → Prop} {b : Prop}, B s' → ∀ o, ops[3]? = some o → if 3 = 3 then B s' else b := fun h o _ => by rw [if_pos rfl]; exact h
 refine ⟨by rw [r0]; simp, ?_⟩
 rw [r0]
 refine two (fun o ho => ?_) (fun o ho => ?_)
 ·rw [i0 o ho, if_neg (by decide)]
  refine ⟨_, opD_plain g0 c0 k0, by rw [ra]; simp, ?_⟩
  rw [ra]
  refine two (fun o ho => ?_) (fun o ho => ?_)
  ·rw [i1 o ho, if_neg (by decide)]
   refine ⟨_, opD_plain g1 c1 ka1, by rw [rc]; simp, ?_⟩
   rw [rc]
   refine one (fun o ho => ?_)
   rw [i2 o ho, if_neg (by decide)]
   refine ⟨_, opD_plain g2 c2 kc2, by rw [rf]; simp, ?_⟩
   rw [rf]
   refine one (fun o ho => ?_)
   rw [if_pos rfl]; exact bf
  ·rw [i2 o ho, if_neg (by decide)]
   refine ⟨_, opD_plain g2 c2 ka2, by rw [rd]; simp, ?_⟩
   rw [rd]
   refine two (fun o ho => ?_) (fun o ho => ?_)
   ·rw [i1 o ho, if_neg (by decide)]
    refine ⟨_, opD_plain g1 c1 kd1, by rw [rg]; simp, ?_⟩
    rw [rg]
    refine one (fun o ho => ?_)
    rw [if_pos rfl]; exact bg
   ·rw [if_pos rfl]; exact bd
 ·rw [i2 o ho, if_neg (by decide)]
  refine ⟨_, opD_plain g2 c2 k2, by rw [rb]; simp, ?_⟩
  rw [rb]
  refine two (fun o ho => ?_) (fun o ho => ?_)
  ·rw [i0 o ho, if_neg (by decide)]
   refine ⟨_, opD_plain g0 c0 kb0, by rw [re]; simp, ?_⟩
   rw [re]
   refine two (fun o ho => ?_) (fun o ho => ?_)
   ·rw [i1 o ho, if_neg (by decide)]
    refine ⟨_, opD_plain g1 c1 ke1, by rw [rh]; simp, ?_⟩
    rw [rh]
    refine one (fun o ho => ?_)
    rw [if_pos rfl]; exact bh
   ·rw [if_pos rfl]; exact be
  ·rw [if_pos rfl]; exact bb
end
end Go.Proofs.YtmeekpinkfpnhabDoor
namespace Go.Proofs
open Go.Shelf
def YtmeekpinkfpnhabDoorlaysAtoiC_ren : Go.Shelf.Ren := ⟨fun | 172 => 59 | 244 => 64 | 245 => 65 | 247 => 70 | 279 => 71 | 280 => 72 | 281 => 73 | 282 => 74 | 287 => 80 | 316 => 81 | 171 => 39 | 205 => 82 | 321 => 85 | 322 => 86 | 243 => 54 | 246 => 60 | 283 => 66 | 284 => 67 | 285 => 68 | 286 => 69 | 129 => 76 | 317 => 75 | 318 => 77 | 319 => 78 | 320 => 79 | 337 => 83 | 338 => 84 | n => n, fun | 9 => 9 | 3 => 3 | 75 => 76 | 76 => 77 | 4 => 4 | 5 => 5 | 167 => 106 | 37 => 71 | 0 => 0 | 85 => 107 | 2 => 2 | 168 => 109 | 53 => 101 | 175 => 119 | 46 => 117 | 210 => 123 | 127 => 93 | 145 => 129 | 143 => 127 | 21 => 21 | 171 => 100 | 173 => 104 | 212 => 114 | 51 => 115 | 20 => 20 | 213 => 116 | 232 => 130 | 233 => 131 | 80 => 79 | n => n, fun | 15 => 2 | 16 => 3 | 17 => 1 | 18 => 4 | 19 => 5 | n => n⟩
theorem YtmeekpinkfpnhabDoorlaysAtoiC : Go.Proofs.LaysC.n172 Tryd.prog YtmeekpinkfpnhabDoorlaysAtoiC_ren := {
 mixed := by kernel_rfl
 f129 := Tryd.func76.trans (congrArg some (by kernel_rfl))
 f171 := Tryd.func39.trans (congrArg some (by kernel_rfl))
 f172 := Tryd.func59.trans (congrArg some (by kernel_rfl))
 f205 := Tryd.func82.trans (congrArg some (by kernel_rfl))
 f243 := Tryd.func54.trans (congrArg some (by kernel_rfl))
 f244 := Tryd.func64.trans (congrArg some (by kernel_rfl))
 f245 := Tryd.func65.trans (congrArg some (by kernel_rfl))
 f246 := Tryd.func60.trans (congrArg some (by kernel_rfl))
 f247 := Tryd.func70.trans (congrArg some (by kernel_rfl))
 f279 := Tryd.func71.trans (congrArg some (by kernel_rfl))
 f280 := Tryd.func72.trans (congrArg some (by kernel_rfl))
 f281 := Tryd.func73.trans (congrArg some (by kernel_rfl))
 f282 := Tryd.func74.trans (congrArg some (by kernel_rfl))
 f283 := Tryd.func66.trans (congrArg some (by kernel_rfl))
 f284 := Tryd.func67.trans (congrArg some (by kernel_rfl))
 f285 := Tryd.func68.trans (congrArg some (by kernel_rfl))
 f286 := Tryd.func69.trans (congrArg some (by kernel_rfl))
 f287 := Tryd.func80.trans (congrArg some (by kernel_rfl))
 f316 := Tryd.func81.trans (congrArg some (by kernel_rfl))
 f317 := Tryd.func75.trans (congrArg some (by kernel_rfl))
 f318 := Tryd.func77.trans (congrArg some (by kernel_rfl))
 f319 := Tryd.func78.trans (congrArg some (by kernel_rfl))
 f320 := Tryd.func79.trans (congrArg some (by kernel_rfl))
 f321 := Tryd.func85.trans (congrArg some (by kernel_rfl))
 f322 := Tryd.func86.trans (congrArg some (by kernel_rfl))
 f337 := Tryd.func83.trans (congrArg some (by kernel_rfl))
 f338 := Tryd.func84.trans (congrArg some (by kernel_rfl))
 t0 := Tryd.underlying0
 a0 := Tryd.isAgg0
 z0 := Tryd.sizeOf0
 v0 := Tryd.zeroValue0
 t2 := Tryd.underlying2
 a2 := Tryd.isAgg2
 z2 := Tryd.sizeOf2
 v2 := Tryd.zeroValue2
 t3 := Tryd.underlying3
 a3 := Tryd.isAgg3
 z3 := Tryd.sizeOf3
 v3 := Tryd.zeroValue3
 t4 := Tryd.underlying4
 a4 := Tryd.isAgg4
 z4 := Tryd.sizeOf4
 v4 := Tryd.zeroValue4
 t5 := Tryd.underlying5
 a5 := Tryd.isAgg5
 z5 := Tryd.sizeOf5
 v5 := Tryd.zeroValue5
 t9 := Tryd.underlying9
 a9 := Tryd.isAgg9
 z9 := Tryd.sizeOf9
 v9 := Tryd.zeroValue9
 t20 := Tryd.underlying20
 a20 := Tryd.isAgg20
 z20 := Tryd.sizeOf20
 v20 := Tryd.zeroValue20
 t21 := Tryd.underlying21
 a21 := Tryd.isAgg21
 z21 := Tryd.sizeOf21
 v21 := Tryd.zeroValue21
 t37 := Tryd.underlying71
 a37 := Tryd.isAgg71
 z37 := Tryd.sizeOf71
 v37 := Tryd.zeroValue71
 t46 := Tryd.underlying117
 a46 := Tryd.isAgg117
 z46 := Tryd.sizeOf117
 v46 := Tryd.zeroValue117
 t51 := Tryd.underlying115
 a51 := Tryd.isAgg115
 z51 := Tryd.sizeOf115
 v51 := Tryd.zeroValue115
 t53 := Tryd.underlying101
 a53 := Tryd.isAgg101
 z53 := Tryd.sizeOf101
 v53 := Tryd.zeroValue101
 t75 := Tryd.underlying76
 a75 := Tryd.isAgg76
 z75 := Tryd.sizeOf76
 v75 := Tryd.zeroValue76
 t76 := Tryd.underlying77
 a76 := Tryd.isAgg77
 z76 := Tryd.sizeOf77
 v76 := Tryd.zeroValue77
 t85 := Tryd.underlying107
 a85 := Tryd.isAgg107
 z85 := Tryd.sizeOf107
 v85 := Tryd.zeroValue107
 t127 := Tryd.underlying93
 a127 := Tryd.isAgg93
 z127 := Tryd.sizeOf93
 v127 := Tryd.zeroValue93
 t143 := Tryd.underlying127
 a143 := Tryd.isAgg127
 z143 := Tryd.sizeOf127
 v143 := Tryd.zeroValue127
 t145 := Tryd.underlying129
 a145 := Tryd.isAgg129
 z145 := Tryd.sizeOf129
 v145 := Tryd.zeroValue129
 t167 := Tryd.underlying106
 a167 := Tryd.isAgg106
 z167 := Tryd.sizeOf106
 v167 := Tryd.zeroValue106
 t168 := Tryd.underlying109
 a168 := Tryd.isAgg109
 z168 := Tryd.sizeOf109
 v168 := Tryd.zeroValue109
 t171 := Tryd.underlying100
 a171 := Tryd.isAgg100
 z171 := Tryd.sizeOf100
 v171 := Tryd.zeroValue100
 t173 := Tryd.underlying104
 a173 := Tryd.isAgg104
 z173 := Tryd.sizeOf104
 v173 := Tryd.zeroValue104
 t175 := Tryd.underlying119
 a175 := Tryd.isAgg119
 z175 := Tryd.sizeOf119
 v175 := Tryd.zeroValue119
 t210 := Tryd.underlying123
 a210 := Tryd.isAgg123
 z210 := Tryd.sizeOf123
 v210 := Tryd.zeroValue123
 t212 := Tryd.underlying114
 a212 := Tryd.isAgg114
 z212 := Tryd.sizeOf114
 v212 := Tryd.zeroValue114
 t213 := Tryd.underlying116
 a213 := Tryd.isAgg116
 z213 := Tryd.sizeOf116
 t232 := Tryd.underlying130
 a232 := Tryd.isAgg130
 z232 := Tryd.sizeOf130
 v232 := Tryd.zeroValue130
 t233 := Tryd.underlying131
 a233 := Tryd.isAgg131
 z233 := Tryd.sizeOf131
 v233 := Tryd.zeroValue131
 g15 := by kernel_rfl
 g16 := by kernel_rfl
 g17 := by kernel_rfl
 g18 := by kernel_rfl
 g19 := by kernel_rfl
 t80 := Tryd.underlying79
 a80 := Tryd.isAgg79
 z80 := Tryd.sizeOf79
 v80 := Tryd.zeroValue79
 i0 := by kernel_rfl
 i2 := by kernel_rfl
 i3 := by kernel_rfl
 i4 := by kernel_rfl
 i5 := by kernel_rfl
 i9 := by kernel_rfl
 i20 := by kernel_rfl
 i21 := by kernel_rfl
 i37 := by kernel_rfl
 i46 := by kernel_rfl
 i51 := by kernel_rfl
 i53 := by kernel_rfl
 i75 := by kernel_rfl
 i76 := by kernel_rfl
 i80 := by kernel_rfl
 i85 := by kernel_rfl
 i127 := by kernel_rfl
 i143 := by kernel_rfl
 i145 := by kernel_rfl
 i167 := by kernel_rfl
 i168 := by kernel_rfl
 i171 := by kernel_rfl
 i173 := by kernel_rfl
 i175 := by kernel_rfl
 i210 := by kernel_rfl
 i212 := by kernel_rfl
 i232 := by kernel_rfl
 i233 := by kernel_rfl
 m15 := by kernel_rfl
 m16 := by kernel_rfl
 m17 := by kernel_rfl
 m18 := by kernel_rfl
 m19 := by kernel_rfl
 c0 := by kernel_rfl
 c2 := by kernel_rfl
 c3 := by kernel_rfl
 c4 := by kernel_rfl
 c5 := by kernel_rfl
 c9 := by kernel_rfl
 c20 := by kernel_rfl
 c21 := by kernel_rfl
 c37 := by kernel_rfl
 c46 := by kernel_rfl
 c51 := by kernel_rfl
 c53 := by kernel_rfl
 c75 := by kernel_rfl
 c76 := by kernel_rfl
 c80 := by kernel_rfl
 c85 := by kernel_rfl
 c127 := by kernel_rfl
 c143 := by kernel_rfl
 c145 := by kernel_rfl
 c167 := by kernel_rfl
 c168 := by kernel_rfl
 c171 := by kernel_rfl
 c173 := by kernel_rfl
 c175 := by kernel_rfl
 c210 := by kernel_rfl
 c212 := by kernel_rfl
 c213 := by kernel_rfl
 c232 := by kernel_rfl
 c233 := by kernel_rfl }
end Go.Proofs
namespace Go.Proofs.YtmeekpinkfpnhabDoor
open Go.RowKit Go.Sort Go.Shelf
theorem atoi_ok (ds : By) (v : Int) (hl : ds.length ≤ 4000000) (h : Lib.atoiAll ds = .ok v) : Tri Tryd.prog 59 [sA ds] (pure' (.tup [iA v, .d (.v .nilIface)])) := by
 intro w0 hh k m β w cargs H hrd hwr hsz hargs
 obtain ⟨x, rfl, hv⟩ := args1 rfl hsz hargs
 obtain rfl := hv.strv
 refine (Any.strconv_Atoi_ok YtmeekpinkfpnhabDoorlaysAtoiC (bs ds) (by rw [bs_size]; omega) v (by rw [bs_list]; exact h) w).mono ?_
 rintro e w' ⟨rfl, hw⟩
 have H' : HRel Tryd.prog w0 hh k m β w' := by
  rcases hw with rfl | ⟨t, rfl⟩
  ·exact H
  ·exact H.grow (Lib.bytesWorld_below w _ t)
 refine ⟨_, m, β, rfl, .rfl' m, .rfl' β, fun _ _ h => h, H', ?_⟩
 refine .tup rfl fun i v a hv ha => ?_
 match i with
 | 0 => simp at hv ha; subst hv; subst ha; exact .d (.v rfl)
 | 1 => simp at hv ha; subst hv; subst ha; exact .d (.v rfl)
 | i + 2 => simp at hv
theorem var_cell {w0 : GW} {w : World} {b : Nat} {x : Value} (h : w0.cell? ⟨b, 0, none⟩ = some x) (hb : Below w0.heap.size w0 w) : w.cell? ⟨b, 0, none⟩ = some x := by
 have hlt := World.block_lt_of_cell? w0 ⟨b, 0, none⟩ (by rw [h])
 rw [hb.cell hlt]; exact h
theorem atoi_bad (ds : By) (hl : ds.length ≤ 4000000) (h : ∀ v, Lib.atoiAll ds ≠ .ok v) : Tri Tryd.prog 59 [sA ds] (pure' (.tup [.junk, .ifc])) := by
 intro w0 hh k m β w cargs H hrd hwr hsz hargs
 obtain ⟨x, rfl, hv⟩ := args1 rfl hsz hargs
 obtain rfl := hv.strv
 have fin : ∀ (a : Value) (u : TypeId) (q : Value), R m β (.tuple #[a, .iface u q]) (.tup [.junk, .ifc]) := fun a u q => .tup rfl fun i v a hv ha => by
  match i with
  | 0 => simp at hv ha; subst hv; subst ha; exact .junk
  | 1 => simp at hv ha; subst hv; subst ha; exact .ifc
  | i + 2 => simp at hv
 cases hc : Lib.atoiAll ds with
 | ok v => exact absurd hc (h v)
 | «syntax» =>
  obtain ⟨tp, p, hvar⟩ := w0.ok.2.1
  have hcell := var_cell (World.var?_cell YtmeekpinkfpnhabDoorlaysAtoiC.m15 hvar 0) H.ext
  refine (Any.strconv_Atoi_syntax YtmeekpinkfpnhabDoorlaysAtoiC (bs ds) (by rw [bs_size]; omega) (by rw [bs_list]; exact hc) _ w hcell (.inr ⟨tp, p, rfl⟩)).mono ?_
  rintro e w' ⟨N, rfl, _, _, hw⟩
  exact ⟨_, m, β, rfl, .rfl' m, .rfl' β, fun _ _ h => h, H.grow hw, fin _ _ _⟩
 | range =>
  obtain ⟨tp, p, hvar⟩ := w0.ok.2.2
  have hcell := var_cell (World.var?_cell YtmeekpinkfpnhabDoorlaysAtoiC.m16 hvar 0) H.ext
  refine (Any.strconv_Atoi_range YtmeekpinkfpnhabDoorlaysAtoiC (bs ds) (by rw [bs_size]; omega) (by rw [bs_list]; exact hc) _ w hcell (.inr ⟨tp, p, rfl⟩)).mono ?_
  rintro e w' ⟨N, rfl, _, _, hw⟩
  exact ⟨_, m, β, rfl, .rfl' m, .rfl' β, fun _ _ h => h, H.grow hw, fin _ _ _⟩
end Go.Proofs.YtmeekpinkfpnhabDoor
