/- Texts read: text. -/
import Derived.Test.YtmeekpinkfpnhabDoorP08
import Derived.Test.YtmeekpinkfpnhabDoorP09
set_option linter.all false
namespace Go.Proofs.YtmeekpinkfpnhabDoor
open Go.RowKit
theorem rdL_le {l : By} {f i : Nat} {x : Lt} {j : Nat} (hi : i ≤ l.length) (h : rdL l f i = some (x, j)) : i ≤ j ∧ j ≤ l.length := by
 unfold rdL at h
 split at h
 ·cases h
 ·rename_i a m ha
  have h1 := rdT_le l f i a m hi ha
  split at h
  ·rename_i hc
   have h2 := hasAt_le hc h1.2
   simp only [List.length_cons, List.length_nil] at h2
   split at h
   ·rename_i b m' hb
    have h3 := rdT_le l f _ b m' h2 hb
    cases h; omega
   ·cases h
  ·split at h
   ·rename_i hc
    have h2 := hasAt_le hc h1.2
    simp only [List.length_cons, List.length_nil] at h2
    split at h
    ·rename_i b m' hb
     have h3 := rdT_le l f _ b m' h2 hb
     cases h; omega
    ·cases h
   ·cases h
set_option maxHeartbeats 1000000 in
set_option maxRecDepth 20000 in
theorem clause_none (l : By) (hl : l.length ≤ 4000000) (b : Nm) (i : Nat) (hi : i ≤ l.length) (hf : hasAt l i [36, 102, 97, 108, 115, 101] = true) : Tri Tryd.prog 36 [.ptr b 0] (rdE1 b l i (i + 6) (.d (clDV []))) := by
 refine tri_enter_st Tryd.func36 rfl Tryd.ntmps36 (by simp only [List.length_cons, List.length_nil]; omega) fun w0 h0 k hag => ?_
 obtain ⟨hb, eb⟩ := hag.get b (by simp)
 rw [rdO_eq] at eb
 have hN : ∀ n ∈ [b], n.1 < k := by simpa using hb
 have qb := nmne hb
 have hT := take_yes b l [36, 102, 97, 108, 115, 101] i hl hi (by decide) hf
 repeat' (first | refine awp_seq_k fun K hK => ?_ | ((first | refine awp_region_k (by kernel_rfl) fun R hR => ?_ | refine awp_draw mixed (by kernel_rfl) (by kernel_rfl) fun R hR => ?_); simp only [go_sem, qb]) | ((first | (refine hR _ ?_; clear hR R) | refine awp_skip ?_ | refine awp_exit ?_ | refine awp_ret ?_); try simp only [thenA, inBlockA, reduceIte, reduceCtorEq, Nat.reduceEqDiff, if_false, if_true]) | ((first | refine hK _ ?_ | (clear hK K; first | refine hK _ ?_ | (clear hK K; first | refine hK _ ?_ | (clear hK K; first | refine hK _ ?_ | (clear hK K; refine hK _ ?_))))); clear hK K) | refine awp_true rfl rfl ?_ | refine awp_false rfl rfl ?_ | refine awp_block ?_ | ((first | refine CallK.chg (enter49) (hT) ?_ (agRd hb (by simp only [go_sem, eb, qb, rdO])) (Fr.rfl' _ _) ?_ | refine CallD.chg (enter49) (hT) ?_ (agRd hb (by simp only [go_sem, eb, qb, rdO])) (Fr.rfl' _ _) (by first | assumption | exact List.cons_ne_nil _ _) ?_); (focus first | ((repeat (first | exact trivial | refine ⟨(by first | exact Or.inl rfl | exact Or.inr rfl), ?_⟩)); done) | (simp only [coL, AV.dat, true_or, or_true, AV.d.injEq, go_sem]; done)); simp only [go_sem, qb]) | refine And.intro (by first | ((repeat' first | omega | exact trivial | rfl | assumption | (intro a e; subst e; rfl) | exact map_sz fun a => (by simp only [go_sem]) | refine And.intro ?_ ?_); done) | fail) ?_ | fail)
 have hcl := rdO_cl b l (i + 6) k
 refine ret_st (by simp only [Tryd.results36, resOkL, resOk, Tryd.ntmps36, List.toList_toArray]; first | decide | (simp only [go_sem, qb]; done) | (simp only [go_sem, qb]; and_intros <;> first | omega | rfl | decide)) ?_ (by repeat (first | assumption | exact Ag.stN (by assumption) _ _ | refine Ag.updk ?_ (by omega) _)) (by repeat (first | exact FrN.rfl' _ _ _ | assumption | refine FrN.updk ?_ (by omega) _ | refine FrN.stH ?_ _)) (by assumption)
 simp only [resA, resV, Tryd.results36, go_sem, qb]
 all_goals try (first | exact .dat rfl | exact Co.t2 (.dat rfl) (.dat rfl) | exact Co.t3 (.dat rfl) (.dat rfl) (.dat rfl))
set_option maxHeartbeats 16000000 in
set_option maxRecDepth 20000 in
theorem clause_some (l : By) (hl : l.length ≤ 4000000) (f Q : Nat) (hQ : Q ≤ 4000000) (b : Nm) (i j : Nat) (c : List Lt) (hi : i ≤ l.length) (hf : hasAt l i [36, 102, 97, 108, 115, 101] = false) (hc : rdC l f Q i [] = some (c, j)) : Tri Tryd.prog 36 [.ptr b 0] (rdE1 b l i j (.d (clDV c))) := by
 refine tri_enter_st Tryd.func36 rfl Tryd.ntmps36 (by simp only [List.length_cons, List.length_nil]; omega) fun w0 h0 k hag => ?_
 obtain ⟨hb, eb⟩ := hag.get b (by simp)
 rw [rdO_eq] at eb
 have hN : ∀ n ∈ [b], n.1 < k := by simpa using hb
 have qb := nmne hb
 have hT := take_no b l [36, 102, 97, 108, 115, 101] i hl hi hf
 repeat' (first | refine awp_ghost (ghost_nil (i := 3) (e := 52) rfl) ?_ | refine awp_seq_k fun K hK => ?_ | ((first | refine awp_region_k (by kernel_rfl) fun R hR => ?_ | refine awp_draw mixed (by kernel_rfl) (by kernel_rfl) fun R hR => ?_); simp only [go_sem, qb]) | ((first | (refine hR _ ?_; clear hR R) | refine awp_skip ?_ | refine awp_exit ?_ | refine awp_ret ?_); try simp only [thenA, inBlockA, reduceIte, reduceCtorEq, Nat.reduceEqDiff, if_false, if_true]) | ((first | refine hK _ ?_ | (clear hK K; first | refine hK _ ?_ | (clear hK K; first | refine hK _ ?_ | (clear hK K; first | refine hK _ ?_ | (clear hK K; refine hK _ ?_))))); clear hK K) | refine awp_true rfl rfl ?_ | refine awp_false rfl rfl ?_ | refine awp_block ?_ | ((first | refine CallK.chg (enter49) (hT) ?_ (agRd hb (by simp only [go_sem, eb, qb, rdO])) (Fr.rfl' _ _) ?_ | refine CallD.chg (enter49) (hT) ?_ (agRd hb (by simp only [go_sem, eb, qb, rdO])) (Fr.rfl' _ _) (by first | assumption | exact List.cons_ne_nil _ _) ?_); (focus first | ((repeat (first | exact trivial | refine ⟨(by first | exact Or.inl rfl | exact Or.inr rfl), ?_⟩)); done) | (simp only [coL, AV.dat, true_or, or_true, AV.d.injEq, go_sem]; done)); simp only [go_sem, qb]) | refine And.intro (by first | ((repeat' first | omega | exact trivial | rfl | assumption | (intro a e; subst e; rfl) | exact map_sz fun a => (by simp only [go_sem]) | refine And.intro ?_ ?_); done) | fail) ?_ | fail)
 refine awp_loop (fun σ => ∃ (q i' : Nat) (acc : List Lt), σ.t 0 = .ptr b 0 ∧ σ.t 3 = .own (k + 1 + 1 + 1, 0) (acc.map ltDV) ∧ σ.h (k + 1 + 1 + 1, 0) = some (.perm 52 acc.length) ∧ σ.h b = some (.cells 86 [sA l, iA i']) ∧ FrN k [b] h0 σ.h ∧ k + 1 + 1 + 1 < σ.k ∧ i' ≤ l.length ∧ q + acc.length = Q ∧ rdC l f q i' acc = some (c, j)) (fun σ => Q - permLen σ.h (k + 1 + 1 + 1, 0)) ?_ ?_
 ·refine ⟨Q, i, [], ?_⟩
  simp only [go_sem, qb, rdO, eb]
  and_intros; all_goals try (first | rfl | omega | assumption | ((repeat (first | exact Fr.rfl' _ _ | assumption | refine Fr.updk ?_ (by omega) _)); done))
  exact (by repeat (first | exact FrN.rfl' _ _ _ | assumption | refine FrN.updk ?_ (by omega) _ | refine FrN.stH ?_ _))
 ·rintro σ ⟨q, i', acc, s0, s3, sp, sr, hF, hk, hi', hq, hA⟩
  have qb := nmne (show b.1 < σ.k by omega)
  have qb2 := nmne hb
  have hne2 := ltne hk
  have hbk : b.1 < σ.k := by omega
  cases q with
  | zero => rw [rdC] at hA; cases hA
  | succ q =>
   rw [rdC] at hA
   cases hL : rdL l f i' with
   | none => rw [hL] at hA; cases hA
   | some p =>
    obtain ⟨x, j'⟩ := p
    rw [hL] at hA
    simp only at hA
    obtain ⟨g1, g2⟩ := rdL_le hi' hL
    unfold rdL at hL
    cases ha : rdT l f i' with
    | none => rw [ha] at hL; cases hL
    | some p =>
     obtain ⟨ta, ja⟩ := p
     rw [ha] at hL
     simp only at hL
     have hCa := term_tri l hl f b i' ta ja hi' ha
     obtain ⟨u1, u2⟩ := rdT_le l f i' ta ja hi' ha
     cases hy : hasAt l ja [32, 61, 32] with
     | true =>
      have v1 := hasAt_le hy u2
      simp only [List.length_cons, List.length_nil] at v1
      rw [if_pos hy] at hL
      split at hL
      ·rename_i tb jb hbb
       cases hL
       have hCb := term_tri l hl f b (ja + 3) tb j' v1 hbb
       have hT1 := take_yes b l [32, 61, 32] ja hl u2 (by decide) hy
       have eap : acc.map ltDV ++ [DV.st [.v (.bool true), .v (.int .i64 ta.v), .v (.int .i64 ta.f), .sl (ta.us.map tmDV), .v (.int .i64 tb.v), .v (.int .i64 tb.f), .sl (tb.us.map tmDV)]] = (acc ++ [(⟨true, ta, tb⟩ : Lt)]).map ltDV := by rw [List.map_append]; rfl
       have eal : (acc ++ [(⟨true, ta, tb⟩ : Lt)]).length = acc.length + 1 := by simp
       cases hcm : hasAt l j' [32, 124, 32] with
       | true =>
        have g3 := hasAt_le hcm g2
        simp only [List.length_cons, List.length_nil] at g3
        rw [if_pos hcm] at hA
        have hT3 := take_yes b l [32, 124, 32] j' hl g2 (by decide) hcm
        repeat' (first | refine awp_seq_k fun K hK => ?_ | ((first | refine awp_region_k (by kernel_rfl) fun R hR => ?_ | refine awp_draw mixed (by kernel_rfl) (by kernel_rfl) fun R hR => ?_); simp only [go_sem, s0, s3, sp, sr, qb, qb2, hne2, eap, eal, List.length_map, Int.toNat_natCast]) | ((first | (refine hR _ ?_; clear hR R) | refine awp_skip ?_ | refine awp_exit ?_ | refine awp_ret ?_); try simp only [thenA, inBlockA, reduceIte, reduceCtorEq, Nat.reduceEqDiff, if_false, if_true]) | ((first | refine hK _ ?_ | (clear hK K; first | refine hK _ ?_ | (clear hK K; first | refine hK _ ?_ | (clear hK K; first | refine hK _ ?_ | (clear hK K; refine hK _ ?_))))); clear hK K) | refine awp_true rfl rfl ?_ | refine awp_false rfl rfl ?_ | refine awp_block ?_ | ((first | refine CallK.chg (enter33) (hCa) ?_ (agRd hbk (by first | (simp only [go_sem, sr, qb, qb2, rdO]; done) | fail)) (Fr.rfl' _ _) ?_ | refine CallD.chg (enter33) (hCa) ?_ (agRd hbk (by first | (simp only [go_sem, sr, qb, qb2, rdO]; done) | fail)) (Fr.rfl' _ _) (by first | assumption | exact List.cons_ne_nil _ _) ?_); (focus first | ((repeat (first | exact trivial | refine ⟨(by first | exact Or.inl rfl | exact Or.inr rfl), ?_⟩)); done) | (simp only [coL, AV.dat, true_or, or_true, AV.d.injEq, go_sem]; done)); simp only [go_sem, s0, s3, sp, sr, qb, qb2, hne2, eap, eal, List.length_map, Int.toNat_natCast]) | ((first | refine CallK.chg (enter49) (hT1) ?_ (agRd hbk (by first | (simp only [go_sem, sr, qb, qb2, rdO]; done) | fail)) (Fr.rfl' _ _) ?_ | refine CallD.chg (enter49) (hT1) ?_ (agRd hbk (by first | (simp only [go_sem, sr, qb, qb2, rdO]; done) | fail)) (Fr.rfl' _ _) (by first | assumption | exact List.cons_ne_nil _ _) ?_); (focus first | ((repeat (first | exact trivial | refine ⟨(by first | exact Or.inl rfl | exact Or.inr rfl), ?_⟩)); done) | (simp only [coL, AV.dat, true_or, or_true, AV.d.injEq, go_sem]; done)); simp only [go_sem, s0, s3, sp, sr, qb, qb2, hne2, eap, eal, List.length_map, Int.toNat_natCast]) | ((first | refine CallK.chg (enter33) (hCb) ?_ (agRd hbk (by first | (simp only [go_sem, sr, qb, qb2, rdO]; done) | fail)) (Fr.rfl' _ _) ?_ | refine CallD.chg (enter33) (hCb) ?_ (agRd hbk (by first | (simp only [go_sem, sr, qb, qb2, rdO]; done) | fail)) (Fr.rfl' _ _) (by first | assumption | exact List.cons_ne_nil _ _) ?_); (focus first | ((repeat (first | exact trivial | refine ⟨(by first | exact Or.inl rfl | exact Or.inr rfl), ?_⟩)); done) | (simp only [coL, AV.dat, true_or, or_true, AV.d.injEq, go_sem]; done)); simp only [go_sem, s0, s3, sp, sr, qb, qb2, hne2, eap, eal, List.length_map, Int.toNat_natCast]) | ((first | refine CallK.chg (enter49) (hT3) ?_ (agRd hbk (by first | (simp only [go_sem, sr, qb, qb2, rdO]; done) | fail)) (Fr.rfl' _ _) ?_ | refine CallD.chg (enter49) (hT3) ?_ (agRd hbk (by first | (simp only [go_sem, sr, qb, qb2, rdO]; done) | fail)) (Fr.rfl' _ _) (by first | assumption | exact List.cons_ne_nil _ _) ?_); (focus first | ((repeat (first | exact trivial | refine ⟨(by first | exact Or.inl rfl | exact Or.inr rfl), ?_⟩)); done) | (simp only [coL, AV.dat, true_or, or_true, AV.d.injEq, go_sem]; done)); simp only [go_sem, s0, s3, sp, sr, qb, qb2, hne2, eap, eal, List.length_map, Int.toNat_natCast]) | ((first | refine CallK.pure (enter48) (need_tri b) ?_ ?_ | refine CallD.pure (enter48) (need_tri b) ?_ ?_); (focus first | ((repeat (first | exact trivial | refine ⟨(by first | exact Or.inl rfl | exact Or.inr rfl), ?_⟩)); done) | (simp only [coL, AV.dat, true_or, or_true, AV.d.injEq, go_sem]; done)); simp only [go_sem, s0, s3, sp, sr, qb, qb2, hne2, eap, eal, List.length_map, Int.toNat_natCast]) | refine And.intro (by first | ((repeat' first | omega | exact trivial | rfl | assumption | (intro a e; subst e; rfl) | exact map_sz fun a => (by simp only [go_sem]) | refine And.intro ?_ ?_); done) | fail) ?_ | fail)
        refine ⟨⟨q, j' + 3, acc ++ [⟨true, ta, tb⟩], ?_⟩, ?_⟩
        rotate_left
        ·simp only [permLen, go_sem, sp, qb, qb2, hne2, eal]; omega
        simp only [go_sem, s0, s3, sp, sr, qb, qb2, hne2, eap, eal, List.length_map, rdO]
        and_intros; all_goals try (first | rfl | omega | assumption | ((repeat (first | exact Fr.rfl' _ _ | assumption | refine Fr.updk ?_ (by omega) _)); done))
        exact (by repeat (first | exact FrN.rfl' _ _ _ | assumption | refine FrN.updk ?_ (by omega) _ | refine FrN.stH ?_ _))
       | false =>
        rw [if_neg (by simp [hcm])] at hA
        cases hA
        have hT3 := take_no b l [32, 124, 32] j hl g2 hcm
        repeat' (first | refine awp_seq_k fun K hK => ?_ | ((first | refine awp_region_k (by kernel_rfl) fun R hR => ?_ | refine awp_draw mixed (by kernel_rfl) (by kernel_rfl) fun R hR => ?_); simp only [go_sem, s0, s3, sp, sr, qb, qb2, hne2, eap, eal, List.length_map, Int.toNat_natCast]) | ((first | (refine hR _ ?_; clear hR R) | refine awp_skip ?_ | refine awp_exit ?_ | refine awp_ret ?_); try simp only [thenA, inBlockA, reduceIte, reduceCtorEq, Nat.reduceEqDiff, if_false, if_true]) | ((first | refine hK _ ?_ | (clear hK K; first | refine hK _ ?_ | (clear hK K; first | refine hK _ ?_ | (clear hK K; first | refine hK _ ?_ | (clear hK K; refine hK _ ?_))))); clear hK K) | refine awp_true rfl rfl ?_ | refine awp_false rfl rfl ?_ | refine awp_block ?_ | ((first | refine CallK.chg (enter33) (hCa) ?_ (agRd hbk (by first | (simp only [go_sem, sr, qb, qb2, rdO]; done) | fail)) (Fr.rfl' _ _) ?_ | refine CallD.chg (enter33) (hCa) ?_ (agRd hbk (by first | (simp only [go_sem, sr, qb, qb2, rdO]; done) | fail)) (Fr.rfl' _ _) (by first | assumption | exact List.cons_ne_nil _ _) ?_); (focus first | ((repeat (first | exact trivial | refine ⟨(by first | exact Or.inl rfl | exact Or.inr rfl), ?_⟩)); done) | (simp only [coL, AV.dat, true_or, or_true, AV.d.injEq, go_sem]; done)); simp only [go_sem, s0, s3, sp, sr, qb, qb2, hne2, eap, eal, List.length_map, Int.toNat_natCast]) | ((first | refine CallK.chg (enter49) (hT1) ?_ (agRd hbk (by first | (simp only [go_sem, sr, qb, qb2, rdO]; done) | fail)) (Fr.rfl' _ _) ?_ | refine CallD.chg (enter49) (hT1) ?_ (agRd hbk (by first | (simp only [go_sem, sr, qb, qb2, rdO]; done) | fail)) (Fr.rfl' _ _) (by first | assumption | exact List.cons_ne_nil _ _) ?_); (focus first | ((repeat (first | exact trivial | refine ⟨(by first | exact Or.inl rfl | exact Or.inr rfl), ?_⟩)); done) | (simp only [coL, AV.dat, true_or, or_true, AV.d.injEq, go_sem]; done)); simp only [go_sem, s0, s3, sp, sr, qb, qb2, hne2, eap, eal, List.length_map, Int.toNat_natCast]) | ((first | refine CallK.chg (enter33) (hCb) ?_ (agRd hbk (by first | (simp only [go_sem, sr, qb, qb2, rdO]; done) | fail)) (Fr.rfl' _ _) ?_ | refine CallD.chg (enter33) (hCb) ?_ (agRd hbk (by first | (simp only [go_sem, sr, qb, qb2, rdO]; done) | fail)) (Fr.rfl' _ _) (by first | assumption | exact List.cons_ne_nil _ _) ?_); (focus first | ((repeat (first | exact trivial | refine ⟨(by first | exact Or.inl rfl | exact Or.inr rfl), ?_⟩)); done) | (simp only [coL, AV.dat, true_or, or_true, AV.d.injEq, go_sem]; done)); simp only [go_sem, s0, s3, sp, sr, qb, qb2, hne2, eap, eal, List.length_map, Int.toNat_natCast]) | ((first | refine CallK.chg (enter49) (hT3) ?_ (agRd hbk (by first | (simp only [go_sem, sr, qb, qb2, rdO]; done) | fail)) (Fr.rfl' _ _) ?_ | refine CallD.chg (enter49) (hT3) ?_ (agRd hbk (by first | (simp only [go_sem, sr, qb, qb2, rdO]; done) | fail)) (Fr.rfl' _ _) (by first | assumption | exact List.cons_ne_nil _ _) ?_); (focus first | ((repeat (first | exact trivial | refine ⟨(by first | exact Or.inl rfl | exact Or.inr rfl), ?_⟩)); done) | (simp only [coL, AV.dat, true_or, or_true, AV.d.injEq, go_sem]; done)); simp only [go_sem, s0, s3, sp, sr, qb, qb2, hne2, eap, eal, List.length_map, Int.toNat_natCast]) | ((first | refine CallK.pure (enter48) (need_tri b) ?_ ?_ | refine CallD.pure (enter48) (need_tri b) ?_ ?_); (focus first | ((repeat (first | exact trivial | refine ⟨(by first | exact Or.inl rfl | exact Or.inr rfl), ?_⟩)); done) | (simp only [coL, AV.dat, true_or, or_true, AV.d.injEq, go_sem]; done)); simp only [go_sem, s0, s3, sp, sr, qb, qb2, hne2, eap, eal, List.length_map, Int.toNat_natCast]) | refine And.intro (by first | ((repeat' first | omega | exact trivial | rfl | assumption | (intro a e; subst e; rfl) | exact map_sz fun a => (by simp only [go_sem]) | refine And.intro ?_ ?_); done) | fail) ?_ | fail)
        have hcl := rdO_cl b l j k
        refine ret_st (by simp only [Tryd.results36, resOkL, resOk, Tryd.ntmps36, List.toList_toArray]; first | decide | (simp only [go_sem, qb, qb2, hne2]; done) | (simp only [go_sem, qb, qb2, hne2]; and_intros <;> first | omega | rfl | decide)) ?_ (by repeat (first | assumption | exact Ag.stN (by assumption) _ _ | refine Ag.updk ?_ (by omega) _)) (by repeat (first | exact FrN.rfl' _ _ _ | assumption | refine FrN.updk ?_ (by omega) _ | refine FrN.stH ?_ _)) (by assumption)
        simp only [resA, resV, Tryd.results36, go_sem, qb, qb2, hne2]
        all_goals try (first | exact .dat rfl | exact Co.t2 (.dat rfl) (.dat rfl) | exact Co.t3 (.dat rfl) (.dat rfl) (.dat rfl))
      ·cases hL
     | false =>
      rw [if_neg (by simp [hy])] at hL
      cases hy2 : hasAt l ja [32, 33, 61, 32] with
      | false => rw [if_neg (by simp [hy2])] at hL; cases hL
      | true =>
       have v1 := hasAt_le hy2 u2
       simp only [List.length_cons, List.length_nil] at v1
       rw [if_pos hy2] at hL
       split at hL
       ·rename_i tb jb hbb
        cases hL
        have hCb := term_tri l hl f b (ja + 4) tb j' v1 hbb
        have hT1 := take_no b l [32, 61, 32] ja hl u2 hy
        have hT2 := take_yes b l [32, 33, 61, 32] ja hl u2 (by decide) hy2
        have eap : acc.map ltDV ++ [DV.st [.v (.bool false), .v (.int .i64 ta.v), .v (.int .i64 ta.f), .sl (ta.us.map tmDV), .v (.int .i64 tb.v), .v (.int .i64 tb.f), .sl (tb.us.map tmDV)]] = (acc ++ [(⟨false, ta, tb⟩ : Lt)]).map ltDV := by rw [List.map_append]; rfl
        have eal : (acc ++ [(⟨false, ta, tb⟩ : Lt)]).length = acc.length + 1 := by simp
        cases hcm : hasAt l j' [32, 124, 32] with
        | true =>
         have g3 := hasAt_le hcm g2
         simp only [List.length_cons, List.length_nil] at g3
         rw [if_pos hcm] at hA
         have hT3 := take_yes b l [32, 124, 32] j' hl g2 (by decide) hcm
         repeat' (first | refine awp_seq_k fun K hK => ?_ | ((first | refine awp_region_k (by kernel_rfl) fun R hR => ?_ | refine awp_draw mixed (by kernel_rfl) (by kernel_rfl) fun R hR => ?_); simp only [go_sem, s0, s3, sp, sr, qb, qb2, hne2, eap, eal, List.length_map, Int.toNat_natCast]) | ((first | (refine hR _ ?_; clear hR R) | refine awp_skip ?_ | refine awp_exit ?_ | refine awp_ret ?_); try simp only [thenA, inBlockA, reduceIte, reduceCtorEq, Nat.reduceEqDiff, if_false, if_true]) | ((first | refine hK _ ?_ | (clear hK K; first | refine hK _ ?_ | (clear hK K; first | refine hK _ ?_ | (clear hK K; first | refine hK _ ?_ | (clear hK K; refine hK _ ?_))))); clear hK K) | refine awp_true rfl rfl ?_ | refine awp_false rfl rfl ?_ | refine awp_block ?_ | ((first | refine CallK.chg (enter33) (hCa) ?_ (agRd hbk (by first | (simp only [go_sem, sr, qb, qb2, rdO]; done) | fail)) (Fr.rfl' _ _) ?_ | refine CallD.chg (enter33) (hCa) ?_ (agRd hbk (by first | (simp only [go_sem, sr, qb, qb2, rdO]; done) | fail)) (Fr.rfl' _ _) (by first | assumption | exact List.cons_ne_nil _ _) ?_); (focus first | ((repeat (first | exact trivial | refine ⟨(by first | exact Or.inl rfl | exact Or.inr rfl), ?_⟩)); done) | (simp only [coL, AV.dat, true_or, or_true, AV.d.injEq, go_sem]; done)); simp only [go_sem, s0, s3, sp, sr, qb, qb2, hne2, eap, eal, List.length_map, Int.toNat_natCast]) | ((first | refine CallK.chg (enter49) (hT1) ?_ (agRd hbk (by first | (simp only [go_sem, sr, qb, qb2, rdO]; done) | fail)) (Fr.rfl' _ _) ?_ | refine CallD.chg (enter49) (hT1) ?_ (agRd hbk (by first | (simp only [go_sem, sr, qb, qb2, rdO]; done) | fail)) (Fr.rfl' _ _) (by first | assumption | exact List.cons_ne_nil _ _) ?_); (focus first | ((repeat (first | exact trivial | refine ⟨(by first | exact Or.inl rfl | exact Or.inr rfl), ?_⟩)); done) | (simp only [coL, AV.dat, true_or, or_true, AV.d.injEq, go_sem]; done)); simp only [go_sem, s0, s3, sp, sr, qb, qb2, hne2, eap, eal, List.length_map, Int.toNat_natCast]) | ((first | refine CallK.chg (enter49) (hT2) ?_ (agRd hbk (by first | (simp only [go_sem, sr, qb, qb2, rdO]; done) | fail)) (Fr.rfl' _ _) ?_ | refine CallD.chg (enter49) (hT2) ?_ (agRd hbk (by first | (simp only [go_sem, sr, qb, qb2, rdO]; done) | fail)) (Fr.rfl' _ _) (by first | assumption | exact List.cons_ne_nil _ _) ?_); (focus first | ((repeat (first | exact trivial | refine ⟨(by first | exact Or.inl rfl | exact Or.inr rfl), ?_⟩)); done) | (simp only [coL, AV.dat, true_or, or_true, AV.d.injEq, go_sem]; done)); simp only [go_sem, s0, s3, sp, sr, qb, qb2, hne2, eap, eal, List.length_map, Int.toNat_natCast]) | ((first | refine CallK.chg (enter33) (hCb) ?_ (agRd hbk (by first | (simp only [go_sem, sr, qb, qb2, rdO]; done) | fail)) (Fr.rfl' _ _) ?_ | refine CallD.chg (enter33) (hCb) ?_ (agRd hbk (by first | (simp only [go_sem, sr, qb, qb2, rdO]; done) | fail)) (Fr.rfl' _ _) (by first | assumption | exact List.cons_ne_nil _ _) ?_); (focus first | ((repeat (first | exact trivial | refine ⟨(by first | exact Or.inl rfl | exact Or.inr rfl), ?_⟩)); done) | (simp only [coL, AV.dat, true_or, or_true, AV.d.injEq, go_sem]; done)); simp only [go_sem, s0, s3, sp, sr, qb, qb2, hne2, eap, eal, List.length_map, Int.toNat_natCast]) | ((first | refine CallK.chg (enter49) (hT3) ?_ (agRd hbk (by first | (simp only [go_sem, sr, qb, qb2, rdO]; done) | fail)) (Fr.rfl' _ _) ?_ | refine CallD.chg (enter49) (hT3) ?_ (agRd hbk (by first | (simp only [go_sem, sr, qb, qb2, rdO]; done) | fail)) (Fr.rfl' _ _) (by first | assumption | exact List.cons_ne_nil _ _) ?_); (focus first | ((repeat (first | exact trivial | refine ⟨(by first | exact Or.inl rfl | exact Or.inr rfl), ?_⟩)); done) | (simp only [coL, AV.dat, true_or, or_true, AV.d.injEq, go_sem]; done)); simp only [go_sem, s0, s3, sp, sr, qb, qb2, hne2, eap, eal, List.length_map, Int.toNat_natCast]) | ((first | refine CallK.pure (enter48) (need_tri b) ?_ ?_ | refine CallD.pure (enter48) (need_tri b) ?_ ?_); (focus first | ((repeat (first | exact trivial | refine ⟨(by first | exact Or.inl rfl | exact Or.inr rfl), ?_⟩)); done) | (simp only [coL, AV.dat, true_or, or_true, AV.d.injEq, go_sem]; done)); simp only [go_sem, s0, s3, sp, sr, qb, qb2, hne2, eap, eal, List.length_map, Int.toNat_natCast]) | refine And.intro (by first | ((repeat' first | omega | exact trivial | rfl | assumption | (intro a e; subst e; rfl) | exact map_sz fun a => (by simp only [go_sem]) | refine And.intro ?_ ?_); done) | fail) ?_ | fail)
         refine ⟨⟨q, j' + 3, acc ++ [⟨false, ta, tb⟩], ?_⟩, ?_⟩
         rotate_left
         ·simp only [permLen, go_sem, sp, qb, qb2, hne2, eal]; omega
         simp only [go_sem, s0, s3, sp, sr, qb, qb2, hne2, eap, eal, List.length_map, rdO]
         and_intros; all_goals try (first | rfl | omega | assumption | ((repeat (first | exact Fr.rfl' _ _ | assumption | refine Fr.updk ?_ (by omega) _)); done))
         exact (by repeat (first | exact FrN.rfl' _ _ _ | assumption | refine FrN.updk ?_ (by omega) _ | refine FrN.stH ?_ _))
        | false =>
         rw [if_neg (by simp [hcm])] at hA
         cases hA
         have hT3 := take_no b l [32, 124, 32] j hl g2 hcm
         repeat' (first | refine awp_seq_k fun K hK => ?_ | ((first | refine awp_region_k (by kernel_rfl) fun R hR => ?_ | refine awp_draw mixed (by kernel_rfl) (by kernel_rfl) fun R hR => ?_); simp only [go_sem, s0, s3, sp, sr, qb, qb2, hne2, eap, eal, List.length_map, Int.toNat_natCast]) | ((first | (refine hR _ ?_; clear hR R) | refine awp_skip ?_ | refine awp_exit ?_ | refine awp_ret ?_); try simp only [thenA, inBlockA, reduceIte, reduceCtorEq, Nat.reduceEqDiff, if_false, if_true]) | ((first | refine hK _ ?_ | (clear hK K; first | refine hK _ ?_ | (clear hK K; first | refine hK _ ?_ | (clear hK K; first | refine hK _ ?_ | (clear hK K; refine hK _ ?_))))); clear hK K) | refine awp_true rfl rfl ?_ | refine awp_false rfl rfl ?_ | refine awp_block ?_ | ((first | refine CallK.chg (enter33) (hCa) ?_ (agRd hbk (by first | (simp only [go_sem, sr, qb, qb2, rdO]; done) | fail)) (Fr.rfl' _ _) ?_ | refine CallD.chg (enter33) (hCa) ?_ (agRd hbk (by first | (simp only [go_sem, sr, qb, qb2, rdO]; done) | fail)) (Fr.rfl' _ _) (by first | assumption | exact List.cons_ne_nil _ _) ?_); (focus first | ((repeat (first | exact trivial | refine ⟨(by first | exact Or.inl rfl | exact Or.inr rfl), ?_⟩)); done) | (simp only [coL, AV.dat, true_or, or_true, AV.d.injEq, go_sem]; done)); simp only [go_sem, s0, s3, sp, sr, qb, qb2, hne2, eap, eal, List.length_map, Int.toNat_natCast]) | ((first | refine CallK.chg (enter49) (hT1) ?_ (agRd hbk (by first | (simp only [go_sem, sr, qb, qb2, rdO]; done) | fail)) (Fr.rfl' _ _) ?_ | refine CallD.chg (enter49) (hT1) ?_ (agRd hbk (by first | (simp only [go_sem, sr, qb, qb2, rdO]; done) | fail)) (Fr.rfl' _ _) (by first | assumption | exact List.cons_ne_nil _ _) ?_); (focus first | ((repeat (first | exact trivial | refine ⟨(by first | exact Or.inl rfl | exact Or.inr rfl), ?_⟩)); done) | (simp only [coL, AV.dat, true_or, or_true, AV.d.injEq, go_sem]; done)); simp only [go_sem, s0, s3, sp, sr, qb, qb2, hne2, eap, eal, List.length_map, Int.toNat_natCast]) | ((first | refine CallK.chg (enter49) (hT2) ?_ (agRd hbk (by first | (simp only [go_sem, sr, qb, qb2, rdO]; done) | fail)) (Fr.rfl' _ _) ?_ | refine CallD.chg (enter49) (hT2) ?_ (agRd hbk (by first | (simp only [go_sem, sr, qb, qb2, rdO]; done) | fail)) (Fr.rfl' _ _) (by first | assumption | exact List.cons_ne_nil _ _) ?_); (focus first | ((repeat (first | exact trivial | refine ⟨(by first | exact Or.inl rfl | exact Or.inr rfl), ?_⟩)); done) | (simp only [coL, AV.dat, true_or, or_true, AV.d.injEq, go_sem]; done)); simp only [go_sem, s0, s3, sp, sr, qb, qb2, hne2, eap, eal, List.length_map, Int.toNat_natCast]) | ((first | refine CallK.chg (enter33) (hCb) ?_ (agRd hbk (by first | (simp only [go_sem, sr, qb, qb2, rdO]; done) | fail)) (Fr.rfl' _ _) ?_ | refine CallD.chg (enter33) (hCb) ?_ (agRd hbk (by first | (simp only [go_sem, sr, qb, qb2, rdO]; done) | fail)) (Fr.rfl' _ _) (by first | assumption | exact List.cons_ne_nil _ _) ?_); (focus first | ((repeat (first | exact trivial | refine ⟨(by first | exact Or.inl rfl | exact Or.inr rfl), ?_⟩)); done) | (simp only [coL, AV.dat, true_or, or_true, AV.d.injEq, go_sem]; done)); simp only [go_sem, s0, s3, sp, sr, qb, qb2, hne2, eap, eal, List.length_map, Int.toNat_natCast]) | ((first | refine CallK.chg (enter49) (hT3) ?_ (agRd hbk (by first | (simp only [go_sem, sr, qb, qb2, rdO]; done) | fail)) (Fr.rfl' _ _) ?_ | refine CallD.chg (enter49) (hT3) ?_ (agRd hbk (by first | (simp only [go_sem, sr, qb, qb2, rdO]; done) | fail)) (Fr.rfl' _ _) (by first | assumption | exact List.cons_ne_nil _ _) ?_); (focus first | ((repeat (first | exact trivial | refine ⟨(by first | exact Or.inl rfl | exact Or.inr rfl), ?_⟩)); done) | (simp only [coL, AV.dat, true_or, or_true, AV.d.injEq, go_sem]; done)); simp only [go_sem, s0, s3, sp, sr, qb, qb2, hne2, eap, eal, List.length_map, Int.toNat_natCast]) | ((first | refine CallK.pure (enter48) (need_tri b) ?_ ?_ | refine CallD.pure (enter48) (need_tri b) ?_ ?_); (focus first | ((repeat (first | exact trivial | refine ⟨(by first | exact Or.inl rfl | exact Or.inr rfl), ?_⟩)); done) | (simp only [coL, AV.dat, true_or, or_true, AV.d.injEq, go_sem]; done)); simp only [go_sem, s0, s3, sp, sr, qb, qb2, hne2, eap, eal, List.length_map, Int.toNat_natCast]) | refine And.intro (by first | ((repeat' first | omega | exact trivial | rfl | assumption | (intro a e; subst e; rfl) | exact map_sz fun a => (by simp only [go_sem]) | refine And.intro ?_ ?_); done) | fail) ?_ | fail)
         have hcl := rdO_cl b l j k
         refine ret_st (by simp only [Tryd.results36, resOkL, resOk, Tryd.ntmps36, List.toList_toArray]; first | decide | (simp only [go_sem, qb, qb2, hne2]; done) | (simp only [go_sem, qb, qb2, hne2]; and_intros <;> first | omega | rfl | decide)) ?_ (by repeat (first | assumption | exact Ag.stN (by assumption) _ _ | refine Ag.updk ?_ (by omega) _)) (by repeat (first | exact FrN.rfl' _ _ _ | assumption | refine FrN.updk ?_ (by omega) _ | refine FrN.stH ?_ _)) (by assumption)
         simp only [resA, resV, Tryd.results36, go_sem, qb, qb2, hne2]
         all_goals try (first | exact .dat rfl | exact Co.t2 (.dat rfl) (.dat rfl) | exact Co.t3 (.dat rfl) (.dat rfl) (.dat rfl))
       ·cases hL
theorem clause_tri (l : By) (hl : l.length ≤ 4000000) (f Q : Nat) (hQ : Q ≤ 4000000) (b : Nm) (i j : Nat) (c : List Lt) (hi : i ≤ l.length) (hc : rdK l f Q i = some (c, j)) : Tri Tryd.prog 36 [.ptr b 0] (rdE1 b l i j (.d (clDV c))) := by
 unfold rdK at hc
 cases hf : hasAt l i [36, 102, 97, 108, 115, 101] with
 | true => rw [if_pos hf] at hc; cases hc; exact clause_none l hl b i hi hf
 | false => rw [if_neg (by simp [hf])] at hc; exact clause_some l hl f Q hQ b i j c hi hf hc
set_option maxRecDepth 20000 in
theorem idle (v : Value) (w : World) : CallsD Tryd.prog 47 #[v] .returning w fun e u' w' => e = .returned (.tuple #[]) ∧ u' = .returning ∧ w' = w := by
 refine callsD_of_wpS Tryd.func47 rfl fun c₀ cs hu => ?_
 apply wpS_seq
 apply wpS_region
 simp [wpOpsS, go_sem, recoverD, hu, Tryd.ntmps47, Exit.thenS]
 apply wpS_seq
 apply wpS_region
 simp [wpOpsS, go_sem, recoverD, hu, Tryd.ntmps47, Exit.thenS, eqGuard, run_neq_nil_nil]
 refine wpS_cond (t := false) (by simp [Act.eval]) ?_
 simp only [Bool.false_eq_true, if_false]
 refine wpS_of_wp (wp_skip ?_)
 cases c₀
 simp_all [bodyPostS, results, Tryd.results47]
theorem ag2 {rb tb : Nm} {k : Nat} {h : Heap} {R0 A : Ob} (h1 : rb.1 < k) (h2 : tb.1 < k) (e1 : h rb = some R0) (e2 : h tb = some A) (hne : rb ≠ tb) : Ag k [rb, tb] (fun x => if x = rb then R0 else A) h := by
 refine ⟨fun n hn => ?_⟩
 simp only [List.mem_cons, List.not_mem_nil, or_false] at hn
 rcases hn with rfl | rfl
 ·exact ⟨h1, by simpa using e1⟩
 ·exact ⟨h2, by simpa [Ne.symm hne] using e2⟩
set_option maxHeartbeats 4000000 in
set_option maxRecDepth 20000 in
theorem read_tri (g : List Int) (hg : sigOk g = 0) (l : By) (hl : l.length ≤ 3000) (c : FuncId) (hc : enterOk Tryd.prog c) (caps : List AV) (tb : Nm) (A B : Ob) (hB : B.names = [])
  (hdo : ∀ rb : Nm, rb ≠ tb → Tri Tryd.prog c ([.ptr rb 0] ++ caps) (stE [rb, tb] (fun x => if x = rb then rdO l 0 else A) (fun x => if x = rb then rdO l l.length else B) .junk)) :
  Tri Tryd.prog 31 [.d (sgDV g), sA l, .fn (.func c) [] caps] (stE [tb] (fun _ => A) (fun _ => B) (iA 0)) := by
 refine tri_enterT (C := 47) Tryd.func31 rfl Tryd.ntmps31 (by simp only [List.length_cons, List.length_nil]; omega) (enter47) idle fun w0 h0 k hrd hwr => ?_
 have etb : h0 tb = some A := hrd (tb, some A) (by simp [stE])
 have ht : tb.1 < k := hwr (tb, some B) (by simp [stE])
 have qb := nmne ht
 have h1 := signature_tri g
 rw [hg] at h1
 have hl3 : decide (((l.length : Nat) : Int) > 3000) = false := by simp; omega
 refine awpT_first ?_
 repeat' (first | refine awp_seq_k fun K hK => ?_ | ((first | refine awp_region_k (by kernel_rfl) fun R hR => ?_ | refine awp_draw mixed (by kernel_rfl) (by kernel_rfl) fun R hR => ?_); simp only [go_sem]) | ((first | (refine hR _ ?_; clear hR R) | refine awp_skip ?_ | refine awp_exit ?_ | refine awp_ret ?_); try simp only [thenA, inBlockA, reduceIte, reduceCtorEq, Nat.reduceEqDiff, if_false, if_true]) | ((first | refine hK _ ?_ | (clear hK K; first | refine hK _ ?_ | (clear hK K; first | refine hK _ ?_ | (clear hK K; first | refine hK _ ?_ | (clear hK K; refine hK _ ?_))))); clear hK K) | refine awp_true rfl rfl ?_ | refine awp_false rfl rfl ?_ | refine awp_block ?_ | refine And.intro (by first | ((repeat' first | omega | exact trivial | rfl | assumption | (intro a e; subst e; rfl) | exact map_sz fun a => (by simp only [go_sem]) | refine And.intro ?_ ?_); done) | fail) ?_ | fail)
 refine awpT_first ?_
 repeat' (first | refine awp_seq_k fun K hK => ?_ | ((first | refine awp_region_k (by kernel_rfl) fun R hR => ?_ | refine awp_draw mixed (by kernel_rfl) (by kernel_rfl) fun R hR => ?_); simp only [go_sem, bne_self_eq_false]) | ((first | (refine hR _ ?_; clear hR R) | refine awp_skip ?_ | refine awp_exit ?_ | refine awp_ret ?_); try simp only [thenA, inBlockA, reduceIte, reduceCtorEq, Nat.reduceEqDiff, if_false, if_true]) | ((first | refine hK _ ?_ | (clear hK K; first | refine hK _ ?_ | (clear hK K; first | refine hK _ ?_ | (clear hK K; first | refine hK _ ?_ | (clear hK K; refine hK _ ?_))))); clear hK K) | refine awp_true rfl rfl ?_ | refine awp_false rfl rfl ?_ | refine awp_block ?_ | ((first | refine CallK.pure (enter22) (h1) ?_ ?_ | refine CallD.pure (enter22) (h1) ?_ ?_); (focus first | ((repeat (first | exact trivial | refine ⟨(by first | exact Or.inl rfl | exact Or.inr rfl), ?_⟩)); done) | (simp only [coL, AV.dat, true_or, or_true, AV.d.injEq, go_sem]; done)); simp only [go_sem, bne_self_eq_false]) | refine And.intro (by first | ((repeat' first | omega | exact trivial | rfl | assumption | (intro a e; subst e; rfl) | exact map_sz fun a => (by simp only [go_sem]) | refine And.intro ?_ ?_); done) | fail) ?_ | fail)
 refine awpT_first ?_
 repeat' (first | refine awp_seq_k fun K hK => ?_ | ((first | refine awp_region_k (by kernel_rfl) fun R hR => ?_ | refine awp_draw mixed (by kernel_rfl) (by kernel_rfl) fun R hR => ?_); simp only [go_sem, hl3]) | ((first | (refine hR _ ?_; clear hR R) | refine awp_skip ?_ | refine awp_exit ?_ | refine awp_ret ?_); try simp only [thenA, inBlockA, reduceIte, reduceCtorEq, Nat.reduceEqDiff, if_false, if_true]) | ((first | refine hK _ ?_ | (clear hK K; first | refine hK _ ?_ | (clear hK K; first | refine hK _ ?_ | (clear hK K; first | refine hK _ ?_ | (clear hK K; refine hK _ ?_))))); clear hK K) | refine awp_true rfl rfl ?_ | refine awp_false rfl rfl ?_ | refine awp_block ?_ | refine And.intro (by first | ((repeat' first | omega | exact trivial | rfl | assumption | (intro a e; subst e; rfl) | exact map_sz fun a => (by simp only [go_sem]) | refine And.intro ?_ ?_); done) | fail) ?_ | fail)
 refine awpT_seq (awpT_defer (by decide) (by decide) ?_)
 simp only [thenT]
 refine awpT_of ?_
 have hne : ((k + 1 + 1 + 1 + 1 + 1, 2) : Nm) ≠ tb := fun e => by have := congrArg Prod.fst e; simp only at this; omega
 have hC : Tri Tryd.prog c ([] ++ [.ptr (k + 1 + 1 + 1 + 1 + 1, 2) 0] ++ caps) _ := hdo (k + 1 + 1 + 1 + 1 + 1, 2) hne
 repeat' (first | refine awp_seq_k fun K hK => ?_ | ((first | refine awp_region_k (by kernel_rfl) fun R hR => ?_ | refine awp_draw mixed (by kernel_rfl) (by kernel_rfl) fun R hR => ?_); simp only [go_sem, qb, rdO, beq_self_eq_true]) | ((first | (refine hR _ ?_; clear hR R) | refine awp_skip ?_ | refine awp_exit ?_ | refine awp_ret ?_); try simp only [thenA, inBlockA, reduceIte, reduceCtorEq, Nat.reduceEqDiff, if_false, if_true]) | ((first | refine hK _ ?_ | (clear hK K; first | refine hK _ ?_ | (clear hK K; first | refine hK _ ?_ | (clear hK K; first | refine hK _ ?_ | (clear hK K; refine hK _ ?_))))); clear hK K) | refine awp_true rfl rfl ?_ | refine awp_false rfl rfl ?_ | refine awp_block ?_ | ((first | refine CallK.vchg rfl (hc) (hC) ?_ (ag2 (k := k + 1 + 1 + 1 + 1 + 1 + 1 + 1) (by simp only; omega) (by omega) (by first | (simp only [go_sem, qb, rdO]; rfl) | fail) (by first | (simp only [go_sem, qb, etb]; done) | fail) hne) (Fr.rfl' _ _) ?_ | refine CallD.vchg rfl (hc) (hC) ?_ (ag2 (k := k + 1 + 1 + 1 + 1 + 1 + 1 + 1) (by simp only; omega) (by omega) (by first | (simp only [go_sem, qb, rdO]; rfl) | fail) (by first | (simp only [go_sem, qb, etb]; done) | fail) hne) (Fr.rfl' _ _) (by first | assumption | exact List.cons_ne_nil _ _) ?_ | refine CallK.pure (enter48) (need_tri (k + 1 + 1 + 1 + 1 + 1, 2)) ?_ ?_ | refine CallD.pure (enter48) (need_tri (k + 1 + 1 + 1 + 1 + 1, 2)) ?_ ?_); (focus first | ((repeat (first | exact trivial | refine ⟨(by first | exact Or.inl rfl | exact Or.inr rfl), ?_⟩)); done) | (simp only [coL, AV.dat, true_or, or_true, AV.d.injEq, go_sem]; done)); simp only [go_sem, qb, rdO, beq_self_eq_true]) | refine And.intro (by first | ((repeat' first | omega | exact trivial | rfl | assumption | (intro a e; subst e; rfl) | exact map_sz fun a => (by simp only [go_sem]) | refine And.intro ?_ ?_); done) | fail) ?_ | fail)
 simp only [retT]
 refine ret_st (by simp only [Tryd.results31, resOkL, resOk, Tryd.ntmps31, List.toList_toArray]; first | decide | (simp only [go_sem, qb]; done) | (simp only [go_sem, qb]; and_intros <;> first | omega | rfl | decide)) (by simp only [resA, resV, Tryd.results31, go_sem, qb]; first | exact .dat rfl | exact Co.t2 (.dat rfl) (.dat rfl) | exact Co.t3 (.dat rfl) (.dat rfl) (.dat rfl)) ?_ ?_ ?_
 ·refine ⟨fun n hn => ?_⟩
  simp only [List.mem_cons, List.not_mem_nil, or_false] at hn
  subst hn
  exact ⟨ht, by simp only [go_sem, qb]⟩
 ·intro x hx hn
  have qx := nmne hx
  have hxt : (x = tb) = False := eq_false (by simpa using hn)
  simp only [go_sem, qx, hxt]
 ·intro n hn x hx
  simp only [hB] at hx
  cases hx
end Go.Proofs.YtmeekpinkfpnhabDoor
