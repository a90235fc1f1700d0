/- term.Stands. Numbers that rise: superposeref.Rising against the library's sort. No program in sight. slices.Sort of numbers, in an array. term.Vars. term.Size, term.At, term.Put; termBegun. termBegun. The law TermBack: its walk. -/
import Derived.Test.YtmeekpinkfpnhaaB04
import Derived.Test.YtmeekpinkfpnhaaB05
import Derived.Test.YtmeekpinkfpnhaaB06
import Derived.Test.YtmeekpinkfpnhaaB09
import Derived.Shelf.Slices.In.SortNone
import Derived.Shelf.Sort.Plain
import Derived.Sort.OwnSortedInts
import Derived.Ground.NamesProg
set_option linter.unusedSimpArgs false
set_option linter.unusedSectionVars false
set_option linter.unusedVariables false
set_option linter.unnecessarySimpa false
set_option linter.all false
namespace Go.Proofs.Ytmeekpinkfpnhaa
open Go.RowKit
theorem flatC_ints (zs : List Int) : flatC (zs.map iD) = zs.map iA := by
  induction zs with
  | nil => rfl
  | cons z zs ih => simp only [flatC, List.map_cons, List.flatMap_cons] at ih ⊢; rw [ih]; rfl
theorem preL_flat (us : List Tm) : preL us = us.flatMap pre := by
  induction us with
  | nil => rfl
  | cons x xs ih => rw [preL, List.flatMap_cons, ih]
def stO (b m : Nm) (s : List Int) (x : Nm) : Ob := if x = b then .cells 22 [.own m (s.map iD)] else .perm 3 s.length
def stStep (x : Tm) (s : List Int) : Bool × List Int := (true, addV s x)
mutual
theorem walk_stands : ∀ (t : Tm) (s : List Int), walkS stStep t s = (true, addVs s (pre t))
  | .mk v f us, s => by
    rw [walkS, pre]
    simp only [stStep, if_true]
    exact walkL_stands us (addV s (.mk v f us))
theorem walkL_stands : ∀ (us : List Tm) (s : List Int), walkL stStep us s = (true, addVs s (preL us))
  | [], s => rfl
  | x :: xs, s => by
    rw [walkL, preL, addVs_append, walk_stands x s]
    simp only [if_true]
    exact walkL_stands xs _
end
theorem stO_b (b m : Nm) (s : List Int) : stO b m s b = .cells 22 [.own m (s.map iD)] := by simp [stO]
theorem stO_m {b m : Nm} (h : b ≠ m) (s : List Int) : stO b m s m = .perm 3 s.length := by simp [stO, Ne.symm h]
theorem stO_cl (b m : Nm) (s : List Int) (k : Nat) (h : ∀ n ∈ [b, m], n.1 < k) : Cl k [b, m] (stO b m s) := by
  intro n _ x hx
  unfold stO at hx
  split at hx
  · simp [Ob.names, namesL, AV.names] at hx; rw [hx]; exact h m (by simp)
  · simp [Ob.names] at hx
set_option maxRecDepth 20000 in
theorem stands1_tri {b m : Nm} (hbm : b ≠ m) (s : List Int) (hs : s.length ≤ 16000000) (pl : List Int) (x : Tm) : Tri Try.prog 112 [.d (.sl (pl.map iD)), .d (tmDV x), .ptr b 0] (stE [b, m] (stO b m s) (stO b m (addV s x)) (bA true)) := by
  refine tri_enter_st Try.func112 rfl Try.ntmps112 (by simp only [List.length_cons, List.length_nil]; omega) fun w0 h0 k hag => ?_
  obtain ⟨hb, eb⟩ := hag.get b (by simp)
  obtain ⟨hm, em⟩ := hag.get m (by simp)
  rw [stO_b] at eb
  rw [stO_m hbm] at em
  have nb := nmne hb
  have nm := nmne hm
  have h1 : (b = m) = False := eq_false hbm
  have h2 : (m = b) = False := eq_false hbm.symm
  cases hv : decide (x.v > 0) with
  | false =>
    have hadd : addV s x = s := by unfold addV; rw [if_neg (by simp at hv; omega)]
    repeat' (first | refine awp_seq_k fun K hK => ?_ | ((first | refine awp_region_k (by kernel_rfl) fun R hR => ?_ | refine awp_draw mixed (by kernel_rfl) (by kernel_rfl) fun R hR => ?_); simp only [go_sem, eb, em, nb, nm, h1, h2, hv]) | ((first | (refine hR _ ?_; clear hR R) | refine awp_skip ?_ | refine awp_exit ?_ | refine awp_ret ?_); try simp only [thenA, inBlockA, reduceIte, reduceCtorEq, Nat.reduceEqDiff, if_false, if_true]) | ((first | refine hK _ ?_ | (clear hK K; first | refine hK _ ?_ | (clear hK K; first | refine hK _ ?_ | (clear hK K; first | refine hK _ ?_ | (clear hK K; refine hK _ ?_))))); clear hK K) | refine awp_true rfl rfl ?_ | refine awp_false rfl rfl ?_ | refine awp_block ?_ | refine And.intro (by first | ((repeat' first | omega | exact trivial | rfl | assumption | (intro a e; subst e; rfl) | exact map_sz fun a => (by simp only [go_sem]) | refine And.intro ?_ ?_); done) | fail) ?_ | fail)
    refine ret_st (by simp only [Try.results112, resOkL, resOk, Try.ntmps112, List.toList_toArray]; first | decide | (simp only [go_sem]; done) | (simp only [go_sem]; and_intros <;> first | omega | rfl | decide)) (by simp only [resA, resV, Try.results112, go_sem]; first | exact .dat rfl | exact Co.t2 (.dat rfl) (.dat rfl) | exact Co.t3 (.dat rfl) (.dat rfl) (.dat rfl)) ?_ ?_ ?_
    · rw [hadd]; exact (by repeat (first | assumption | exact Ag.stN (by assumption) _ _ | refine Ag.updk ?_ (by omega) _))
    · exact (by repeat (first | exact FrN.rfl' _ _ _ | assumption | refine FrN.updk ?_ (by omega) _ | refine FrN.stH ?_ _))
    · exact stO_cl b m _ k fun n hn => (hag.get n hn).1
  | true =>
    cases hc : s.contains x.v with
    | true =>
      have hadd : addV s x = s := by unfold addV; rw [if_neg]; rintro ⟨_, h⟩; rw [hc] at h; cases h
      repeat' (first | refine awp_seq_k fun K hK => ?_ | ((first | refine awp_region_k (by kernel_rfl) fun R hR => ?_ | refine awp_draw mixed (by kernel_rfl) (by kernel_rfl) fun R hR => ?_); simp only [go_sem, eb, em, nb, nm, h1, h2, hv, hc]) | ((first | (refine hR _ ?_; clear hR R) | refine awp_skip ?_ | refine awp_exit ?_ | refine awp_ret ?_); try simp only [thenA, inBlockA, reduceIte, reduceCtorEq, Nat.reduceEqDiff, if_false, if_true]) | ((first | refine hK _ ?_ | (clear hK K; first | refine hK _ ?_ | (clear hK K; first | refine hK _ ?_ | (clear hK K; first | refine hK _ ?_ | (clear hK K; refine hK _ ?_))))); clear hK K) | refine awp_true rfl rfl ?_ | refine awp_false rfl rfl ?_ | refine awp_block ?_ | ((first | refine CallK.pure (enter113) (contains_tri s (by omega) x.v) ?_ ?_ | refine CallD.pure (enter113) (contains_tri s (by omega) x.v) ?_ ?_); (focus first | ((repeat (first | exact trivial | refine ⟨(by first | exact Or.inl rfl | exact Or.inr rfl), ?_⟩)); done) | (simp only [coL, AV.dat, true_or, or_true, AV.d.injEq, go_sem]; done)); simp only [go_sem, eb, em, nb, nm, h1, h2, hv, hc]) | refine And.intro (by first | ((repeat' first | omega | exact trivial | rfl | assumption | (intro a e; subst e; rfl) | exact map_sz fun a => (by simp only [go_sem]) | refine And.intro ?_ ?_); done) | fail) ?_ | fail)
      refine ret_st (by simp only [Try.results112, resOkL, resOk, Try.ntmps112, List.toList_toArray]; first | decide | (simp only [go_sem]; done) | (simp only [go_sem]; and_intros <;> first | omega | rfl | decide)) (by simp only [resA, resV, Try.results112, go_sem]; first | exact .dat rfl | exact Co.t2 (.dat rfl) (.dat rfl) | exact Co.t3 (.dat rfl) (.dat rfl) (.dat rfl)) ?_ ?_ ?_
      · rw [hadd]; exact (by repeat (first | assumption | exact Ag.stN (by assumption) _ _ | refine Ag.updk ?_ (by omega) _))
      · exact (by repeat (first | exact FrN.rfl' _ _ _ | assumption | refine FrN.updk ?_ (by omega) _ | refine FrN.stH ?_ _))
      · exact stO_cl b m _ k fun n hn => (hag.get n hn).1
    | false =>
      have hadd : addV s x = s ++ [x.v] := by unfold addV; rw [if_pos ⟨by simpa using hv, hc⟩]
      repeat' (first | refine awp_seq_k fun K hK => ?_ | ((first | refine awp_region_k (by kernel_rfl) fun R hR => ?_ | refine awp_draw mixed (by kernel_rfl) (by kernel_rfl) fun R hR => ?_); simp only [go_sem, eb, em, nb, nm, h1, h2, hv, hc, List.length_map]) | ((first | (refine hR _ ?_; clear hR R) | refine awp_skip ?_ | refine awp_exit ?_ | refine awp_ret ?_); try simp only [thenA, inBlockA, reduceIte, reduceCtorEq, Nat.reduceEqDiff, if_false, if_true]) | ((first | refine hK _ ?_ | (clear hK K; first | refine hK _ ?_ | (clear hK K; first | refine hK _ ?_ | (clear hK K; first | refine hK _ ?_ | (clear hK K; refine hK _ ?_))))); clear hK K) | refine awp_true rfl rfl ?_ | refine awp_false rfl rfl ?_ | refine awp_block ?_ | ((first | refine CallK.pure (enter113) (contains_tri s (by omega) x.v) ?_ ?_ | refine CallD.pure (enter113) (contains_tri s (by omega) x.v) ?_ ?_); (focus first | ((repeat (first | exact trivial | refine ⟨(by first | exact Or.inl rfl | exact Or.inr rfl), ?_⟩)); done) | (simp only [coL, AV.dat, true_or, or_true, AV.d.injEq, go_sem]; done)); simp only [go_sem, eb, em, nb, nm, h1, h2, hv, hc, List.length_map]) | refine And.intro (by first | ((repeat' first | omega | exact trivial | rfl | assumption | (intro a e; subst e; rfl) | exact map_sz fun a => (by simp only [go_sem]) | refine And.intro ?_ ?_); done) | fail) ?_ | fail)
      refine ret_st (by simp only [Try.results112, resOkL, resOk, Try.ntmps112, List.toList_toArray]; first | decide | (simp only [go_sem]; done) | (simp only [go_sem]; and_intros <;> first | omega | rfl | decide)) (by simp only [resA, resV, Try.results112, go_sem]; first | exact .dat rfl | exact Co.t2 (.dat rfl) (.dat rfl) | exact Co.t3 (.dat rfl) (.dat rfl) (.dat rfl)) ?_ ?_ ?_
      · refine ⟨fun n hn => ⟨(hag.get n hn).1, ?_⟩⟩
        simp only [List.mem_cons, List.not_mem_nil, or_false] at hn
        rcases hn with rfl | rfl
        · rw [stO_b, hadd]; simp only [go_sem, nb, nm, h1, h2]; simp
        · rw [stO_m hbm, hadd]; simp only [go_sem, nb, nm, h1, h2]; simp
      · refine FrN.updn (FrN.updn (by repeat (first | exact FrN.rfl' _ _ _ | assumption | refine FrN.updk ?_ (by omega) _ | refine FrN.stH ?_ _)) (by simp) _) (by simp) _
      · exact stO_cl b m _ k fun n hn => (hag.get n hn).1
set_option maxRecDepth 20000 in
theorem stands_new (l : List Tm) (hl : (Tm.size.sizes l) ≤ 4000000) (n' : Nm) : Tri Try.prog 70 [.d (.sl (l.map tmDV))] (newEff 3 n' ((addVs [] (l.flatMap pre)).map iD)) := by
  refine tri_enter Try.func70 rfl Try.ntmps70 (by simp only [List.length_cons, List.length_nil]; omega) fun w0 h0 k hrd hwr => ?_
  have hn' : n'.1 < k := hwr _ (List.mem_cons_self ..)
  have h0' : h0 n' = none := hrd _ (List.mem_cons_self ..)
  repeat' (first | refine awp_ghost (ghost_box (b := (k + 1, 0)) (e := 3) (e' := 22) (upd_self _ _ _)) ?_ | refine awp_seq_k fun K hK => ?_ | ((first | refine awp_region_k (by kernel_rfl) fun R hR => ?_ | refine awp_draw mixed (by kernel_rfl) (by kernel_rfl) fun R hR => ?_); simp only [go_sem]) | ((first | (refine hR _ ?_; clear hR R) | refine awp_skip ?_ | refine awp_exit ?_ | refine awp_ret ?_); try simp only [thenA, inBlockA, reduceIte, reduceCtorEq, Nat.reduceEqDiff, if_false, if_true]) | ((first | refine hK _ ?_ | (clear hK K; first | refine hK _ ?_ | (clear hK K; first | refine hK _ ?_ | (clear hK K; first | refine hK _ ?_ | (clear hK K; refine hK _ ?_))))); clear hK K) | refine awp_true rfl rfl ?_ | refine awp_false rfl rfl ?_ | refine awp_block ?_ | refine And.intro (by first | ((repeat' first | omega | exact trivial | rfl | assumption | (intro a e; subst e; rfl) | exact map_sz fun a => (by simp only [go_sem]) | refine And.intro ?_ ?_); done) | fail) ?_ | fail)
  obtain ⟨b, hb⟩ : ∃ b : Nm, b = (k + 1, 0) := ⟨_, rfl⟩
  obtain ⟨m, hm⟩ : ∃ m : Nm, m = (k + 1 + 1, 0) := ⟨_, rfl⟩
  have hbm : b ≠ m := by rw [hb, hm]; simp
  refine awp_loop (fun σ => ∃ i : Nat, σ.t 3 = .ptr b 0 ∧ σ.t 6 = .d (.sl (l.map tmDV)) ∧ σ.t 7 = iA l.length ∧ σ.t 8 = iA i ∧ Ag (k + 1 + 1 + 1) [b, m] (stO b m (addVs [] ((l.take i).flatMap pre))) σ.h ∧ Fr k h0 σ.h ∧ k + 1 + 1 + 1 ≤ σ.k ∧ i ≤ l.length) (fun σ => l.length - (intOf' (σ.t 8)).toNat) ?_ ?_
  · refine ⟨0, ?_⟩
    simp only [go_sem, hb]
    and_intros; all_goals try (first | rfl | omega | assumption | ((repeat (first | exact Fr.rfl' _ _ | assumption | refine Fr.updk ?_ (by omega) _)); done))
    refine ⟨fun n hn => ?_⟩
    simp only [List.mem_cons, List.not_mem_nil, or_false] at hn
    rcases hn with h | h
    · rw [h, stO_b, hm]
      refine ⟨by simp only; omega, ?_⟩
      simp only [go_sem, ]
      rfl
    · rw [h, stO_m (hb ▸ hbm), hm]
      refine ⟨by simp only; omega, ?_⟩
      simp only [go_sem, ]
      rfl
  · rintro σ ⟨i, s3, s6, s7, s8, hA, hF, hk, hi⟩
    have hll := Tm.sizes_len l
    rcases Nat.lt_or_ge i l.length with hlt | hge
    · have hz : (i : Int) < (l.length : Int) := by omega
      have e1 : (l.map tmDV).getD i default = tmDV l[i] := nth_map tmDV hlt _
      have hsz := Tm.sizes_at l i hlt
      have hcl := stO_cl b m
      have hlen : (addVs [] ((l.take i).flatMap pre)).length ≤ 4000000 := by
        have h1 := addVs_len ((l.take i).flatMap pre) []
        rw [← preL_flat, preL_len] at h1
        have h2 := sizes_take l i
        rw [← preL_flat]
        simp only [List.length_nil] at h1
        omega
      have hw := walk_tri (stO b m) [b, m] 112 [.ptr b 0] stStep (fun n s => s.length + n ≤ 16000000) (stO_cl b m) ((enter112)) (by simp) l[i] (fun x _ n s hs => ⟨by have := addV_len s x; simp only [stStep]; omega, fun pl => stands1_tri hbm s (by omega) pl x⟩) 0 (addVs [] ((l.take i).flatMap pre)) (by omega) (by omega)
      rw [walk_stands, ← addVs_append] at hw
      have ht : (l.take i).flatMap pre ++ pre l[i] = (l.take (i + 1)).flatMap pre := by rw [List.take_succ_eq_append_getElem hlt, List.flatMap_append]; simp
      rw [ht] at hw
      have hN1 := notN hA (k' := σ.k) (by omega)
      repeat' (first | refine awp_seq_k fun K hK => ?_ | ((first | refine awp_region_k (by kernel_rfl) fun R hR => ?_ | refine awp_draw mixed (by kernel_rfl) (by kernel_rfl) fun R hR => ?_); simp only [go_sem, s3, s6, s7, s8, hz, e1, hN1, Int.toNat_natCast]) | ((first | (refine hR _ ?_; clear hR R) | refine awp_skip ?_ | refine awp_exit ?_ | refine awp_ret ?_); try simp only [thenA, inBlockA, reduceIte, reduceCtorEq, Nat.reduceEqDiff, if_false, if_true]) | ((first | refine hK _ ?_ | (clear hK K; first | refine hK _ ?_ | (clear hK K; first | refine hK _ ?_ | (clear hK K; first | refine hK _ ?_ | (clear hK K; refine hK _ ?_))))); clear hK K) | refine awp_true rfl rfl ?_ | refine awp_false rfl rfl ?_ | refine awp_block ?_ | ((first | refine CallK.chg (enter111) (hw) ?_ (by assumption) (by repeat (first | exact Fr.rfl' _ _ | assumption | refine Fr.updk ?_ (by omega) _)) ?_ | refine CallD.chg (enter111) (hw) ?_ (by assumption) (by repeat (first | exact Fr.rfl' _ _ | assumption | refine Fr.updk ?_ (by omega) _)) (by assumption) ?_); (focus first | ((repeat (first | exact trivial | refine ⟨(by first | exact Or.inl rfl | exact Or.inr rfl), ?_⟩)); done) | (simp only [coL, AV.dat, true_or, or_true, AV.d.injEq, go_sem]; done)); simp only [go_sem, s3, s6, s7, s8, hz, e1, hN1, Int.toNat_natCast]) | refine And.intro (by first | ((repeat' first | omega | exact trivial | rfl | assumption | (intro a e; subst e; rfl) | exact map_sz fun a => (by simp only [go_sem]) | refine And.intro ?_ ?_); done) | fail) ?_ | fail)
      refine ⟨⟨i + 1, ?_⟩, ?_⟩
      · simp only [go_sem, s3, s6, s7, s8]
        and_intros; all_goals try (first | rfl | omega | assumption | ((repeat (first | exact Fr.rfl' _ _ | assumption | refine Fr.updk ?_ (by omega) _)); done))
        · exact Ag.stN (fun n hn => (hA.get n hn).1) _ _
        · exact Fr.stH (by repeat (first | exact Fr.rfl' _ _ | assumption | refine Fr.updk ?_ (by omega) _)) _ (fun n hn => by
            simp only [List.mem_cons, List.not_mem_nil, or_false] at hn
            rcases hn with h | h <;> rw [h] <;> (first | rw [hb] | rw [hm]) <;> simp only <;> omega)
      · simp only [go_sem, s8]; omega
    · have hz : ¬ ((i : Int) < (l.length : Int)) := by omega
      obtain rfl : i = l.length := by omega
      rw [List.take_length] at hA
      have hbg := (hA.get b (by simp)).2
      rw [stO_b] at hbg
      have hmg := (hA.get m (by simp)).2
      rw [stO_m hbm] at hmg
      subst hm
      repeat' (first | refine awp_seq_k fun K hK => ?_ | ((first | refine awp_region_k (by kernel_rfl) fun R hR => ?_ | refine awp_draw mixed (by kernel_rfl) (by kernel_rfl) fun R hR => ?_); simp only [go_sem, s3, s7, s8, hz, hbg]) | ((first | (refine hR _ ?_; clear hR R) | refine awp_skip ?_ | refine awp_exit ?_ | refine awp_ret ?_); try simp only [thenA, inBlockA, reduceIte, reduceCtorEq, Nat.reduceEqDiff, if_false, if_true]) | ((first | refine hK _ ?_ | (clear hK K; first | refine hK _ ?_ | (clear hK K; first | refine hK _ ?_ | (clear hK K; first | refine hK _ ?_ | (clear hK K; refine hK _ ?_))))); clear hK K) | refine awp_true rfl rfl ?_ | refine awp_false rfl rfl ?_ | refine awp_block ?_ | refine And.intro (by first | ((repeat' first | omega | exact trivial | rfl | assumption | (intro a e; subst e; rfl) | exact map_sz fun a => (by simp only [go_sem]) | refine And.intro ?_ ?_); done) | fail) ?_ | fail)
      refine ret_new (by simp only [Try.results70, resOkL, resOk, Try.ntmps70, List.toList_toArray]; first | decide | (simp only [go_sem, hmg]; done) | (simp only [go_sem, hmg]; and_intros <;> first | omega | rfl | decide)) (by simp only [resA, resV, Try.results70, go_sem, hmg]; try rfl) ?_ hn' h0' ?_ (by repeat (first | exact Fr.rfl' _ _ | assumption | refine Fr.updk ?_ (by omega) _)) <;> simp only [go_sem, List.length_map, hmg] <;> first | rfl | omega
theorem stands_tri (l : List Tm) (hl : (Tm.size.sizes l) ≤ 4000000) : Tri Try.prog 70 [.d (.sl (l.map tmDV))] (pure' (.d (.sl ((addVs [] (l.flatMap pre)).map iD)))) := Tri.data fun n' => stands_new l hl n'
theorem stands_arr (l : List Tm) (hl : (Tm.size.sizes l) ≤ 4000000) (h0 : 0 < (addVs [] (l.flatMap pre)).length) (n' : Nm) : Tri Try.prog 70 [.d (.sl (l.map tmDV))] (arrE 3 n' (addVs [] (l.flatMap pre)).length ((addVs [] (l.flatMap pre)).map iA)) := by
  have h := Tri.thaw (stands_new l hl n') (fun a ha => by simp only [List.mem_cons, List.not_mem_nil, or_false] at ha; exact ⟨_, ha⟩) (by rw [List.length_map]; exact h0)
    (fun y hy => by obtain ⟨z, _, rfl⟩ := List.mem_map.1 hy; rw [show szT Try.prog 3 = 1 from by kernel_rfl]; rfl)
    (fun y hy d hd => by obtain ⟨z, _, rfl⟩ := List.mem_map.1 hy; rcases List.mem_singleton.1 (show d ∈ [iD z] from hd) with rfl; exact .int _)
  rw [List.length_map, flatC_ints] at h
  exact h
end Go.Proofs.Ytmeekpinkfpnhaa
namespace Go.Proofs.Ytmeekpinkfpnhaa
def risen (zs : List Int) : List Int := zs.mergeSort fun x y => decide (x ≤ y)
theorem risen_len (zs : List Int) : (risen zs).length = zs.length := by unfold risen; simp
def cutAt (o : List Int) (x : Int) : Nat → Nat
  | 0 => 0
  | n + 1 => if o.getD n 0 > x then cutAt o x n else n + 1
def insR (o : List Int) (x : Int) : List Int := o.take (cutAt o x o.length) ++ x :: o.drop (cutAt o x o.length)
def rising (l : List Int) : List Int := l.foldl insR []
theorem cut_le (o : List Int) (x : Int) : ∀ n, cutAt o x n ≤ n
  | 0 => Nat.le_refl _
  | n + 1 => by rw [cutAt]; split; have := cut_le o x n; omega; exact Nat.le_refl _
theorem cut_hi (o : List Int) (x : Int) : ∀ n j, cutAt o x n ≤ j → j < n → x < o.getD j 0
  | 0, _, _, h => absurd h (Nat.not_lt_zero _)
  | n + 1, j, h1, h2 => by
    rw [cutAt] at h1
    split at h1
    · rename_i h
      by_cases hj : j = n
      · subst hj; exact h
      · exact cut_hi o x n j h1 (by omega)
    · omega
theorem cut_lo (o : List Int) (x : Int) : ∀ n, cutAt o x n = 0 ∨ o.getD (cutAt o x n - 1) 0 ≤ x
  | 0 => .inl rfl
  | n + 1 => by
    rw [cutAt]
    split
    · exact cut_lo o x n
    · rename_i h
      exact .inr (by simpa using h)
theorem ins_len (o : List Int) (x : Int) : (insR o x).length = o.length + 1 := by
  have := cut_le o x o.length
  simp only [insR, List.length_append, List.length_take, List.length_cons, List.length_drop]; omega
theorem ins_perm (o : List Int) (x : Int) : (insR o x).Perm (x :: o) := by
  unfold insR
  refine List.perm_middle.trans ?_
  rw [List.take_append_drop]
theorem ins_sorted {o : List Int} (h : o.Pairwise (· ≤ ·)) (x : Int) : (insR o x).Pairwise (· ≤ ·) := by
  have hc := cut_le o x o.length
  have hlo : ∀ a ∈ o.take (cutAt o x o.length), a ≤ x := by
    intro a ha
    obtain ⟨i, hi, rfl⟩ := List.mem_iff_getElem.1 ha
    rw [List.length_take] at hi
    rw [List.getElem_take]
    rcases cut_lo o x o.length with h0 | h0
    · omega
    · have hlt : cutAt o x o.length - 1 < o.length := by omega
      rw [List.getD_eq_getElem?_getD, List.getElem?_eq_getElem hlt, Option.getD_some] at h0
      by_cases he : i = cutAt o x o.length - 1
      · subst he; exact h0
      · have := List.pairwise_iff_getElem.1 h i (cutAt o x o.length - 1) (by omega) hlt (by omega)
        omega
  have hhi : ∀ b ∈ o.drop (cutAt o x o.length), x < b := by
    intro b hb
    obtain ⟨i, hi, rfl⟩ := List.mem_iff_getElem.1 hb
    rw [List.length_drop] at hi
    rw [List.getElem_drop]
    have := cut_hi o x o.length (cutAt o x o.length + i) (by omega) (by omega)
    rwa [List.getD_eq_getElem?_getD, List.getElem?_eq_getElem (by omega), Option.getD_some] at this
  unfold insR
  refine List.pairwise_append.2 ⟨h.sublist (List.take_sublist _ _), List.pairwise_cons.2 ⟨fun b hb => by have := hhi b hb; omega, h.sublist (List.drop_sublist _ _)⟩, fun a ha b hb => ?_⟩
  have h1 := hlo a ha
  rcases List.mem_cons.1 hb with rfl | hb
  · exact h1
  · have := hhi b hb; omega
theorem rising_fold : ∀ (l o : List Int), o.Pairwise (· ≤ ·) → (l.foldl insR o).Pairwise (· ≤ ·) ∧ (l.foldl insR o).Perm (o ++ l)
  | [], o, h => ⟨h, by rw [List.append_nil]; exact .refl _⟩
  | x :: l, o, h => by
    obtain ⟨h1, h2⟩ := rising_fold l (insR o x) (ins_sorted h x)
    refine ⟨h1, h2.trans ?_⟩
    refine ((ins_perm o x).append_right l).trans ?_
    exact List.perm_middle.symm
theorem rising_eq (l : List Int) : rising l = risen l := by
  obtain ⟨h1, h2⟩ := rising_fold l [] .nil
  have h3 := List.pairwise_mergeSort (le := fun x y : Int => decide (x ≤ y)) (fun a b c h1 h2 => by simp at h1 h2 ⊢; omega) (fun a b => by simp; omega) l
  have h4 := List.mergeSort_perm l fun x y : Int => decide (x ≤ y)
  refine List.Perm.eq_of_pairwise (le := (· ≤ ·)) (fun a b _ _ h1 h2 => by omega) h1 (h3.imp fun h => by simpa using h) ?_
  exact h2.trans h4.symm
end Go.Proofs.Ytmeekpinkfpnhaa
namespace Go.Proofs
open Go.Shelf
def YtmeekpinkfpnhaalaysSort_ren : Go.Shelf.Ren := ⟨fun | 189 => 103 | 125 => 131 | 257 => 130 | 128 => 152 | 129 => 153 | 294 => 143 | 295 => 144 | 296 => 145 | 297 => 146 | 298 => 147 | 299 => 148 | 216 => 149 | 300 => 150 | 301 => 151 | 328 => 160 | 329 => 161 | 330 => 162 | 331 => 163 | 332 => 164 | 215 => 165 | 343 => 166 | n => n, fun | 28 => 22 | 3 => 3 | 46 => 154 | 0 => 0 | 51 => 176 | 53 => 178 | 4 => 4 | 183 => 169 | 182 => 168 | 131 => 173 | 5 => 5 | 9 => 9 | 218 => 180 | 222 => 184 | 228 => 186 | 229 => 187 | n => n, fun | n => n⟩
theorem YtmeekpinkfpnhaalaysSort : Go.Proofs.Lays.n189 Try.prog YtmeekpinkfpnhaalaysSort_ren := {
  mixed := by kernel_rfl
  f125 := Try.func131.trans (congrArg some (by kernel_rfl))
  f128 := Try.func152.trans (congrArg some (by kernel_rfl))
  f129 := Try.func153.trans (congrArg some (by kernel_rfl))
  f189 := Try.func103.trans (congrArg some (by kernel_rfl))
  f215 := Try.func165.trans (congrArg some (by kernel_rfl))
  f216 := Try.func149.trans (congrArg some (by kernel_rfl))
  f257 := Try.func130.trans (congrArg some (by kernel_rfl))
  f294 := Try.func143.trans (congrArg some (by kernel_rfl))
  f295 := Try.func144.trans (congrArg some (by kernel_rfl))
  f296 := Try.func145.trans (congrArg some (by kernel_rfl))
  f297 := Try.func146.trans (congrArg some (by kernel_rfl))
  f298 := Try.func147.trans (congrArg some (by kernel_rfl))
  f299 := Try.func148.trans (congrArg some (by kernel_rfl))
  f300 := Try.func150.trans (congrArg some (by kernel_rfl))
  f301 := Try.func151.trans (congrArg some (by kernel_rfl))
  f328 := Try.func160.trans (congrArg some (by kernel_rfl))
  f329 := Try.func161.trans (congrArg some (by kernel_rfl))
  f330 := Try.func162.trans (congrArg some (by kernel_rfl))
  f331 := Try.func163.trans (congrArg some (by kernel_rfl))
  f332 := Try.func164.trans (congrArg some (by kernel_rfl))
  f343 := Try.func166.trans (congrArg some (by kernel_rfl))
  t0 := Try.underlying0
  a0 := Try.isAgg0
  z0 := Try.sizeOf0
  v0 := Try.zeroValue0
  t3 := Try.underlying3
  a3 := Try.isAgg3
  z3 := Try.sizeOf3
  v3 := Try.zeroValue3
  t4 := Try.underlying4
  a4 := Try.isAgg4
  z4 := Try.sizeOf4
  v4 := Try.zeroValue4
  t5 := Try.underlying5
  a5 := Try.isAgg5
  z5 := Try.sizeOf5
  v5 := Try.zeroValue5
  t9 := Try.underlying9
  a9 := Try.isAgg9
  z9 := Try.sizeOf9
  v9 := Try.zeroValue9
  t28 := Try.underlying22
  a28 := Try.isAgg22
  z28 := Try.sizeOf22
  v28 := Try.zeroValue22
  t46 := Try.underlying154
  a46 := Try.isAgg154
  z46 := Try.sizeOf154
  v46 := Try.zeroValue154
  t51 := Try.underlying176
  a51 := Try.isAgg176
  z51 := Try.sizeOf176
  v51 := Try.zeroValue176
  t53 := Try.underlying178
  a53 := Try.isAgg178
  z53 := Try.sizeOf178
  v53 := Try.zeroValue178
  t131 := Try.underlying173
  a131 := Try.isAgg173
  z131 := Try.sizeOf173
  v131 := Try.zeroValue173
  t182 := Try.underlying168
  a182 := Try.isAgg168
  z182 := Try.sizeOf168
  v182 := Try.zeroValue168
  t183 := Try.underlying169
  a183 := Try.isAgg169
  z183 := Try.sizeOf169
  v183 := Try.zeroValue169
  t218 := Try.underlying180
  a218 := Try.isAgg180
  z218 := Try.sizeOf180
  v218 := Try.zeroValue180
  t222 := Try.underlying184
  a222 := Try.isAgg184
  z222 := Try.sizeOf184
  v222 := Try.zeroValue184
  t228 := Try.underlying186
  a228 := Try.isAgg186
  z228 := Try.sizeOf186
  v228 := Try.zeroValue186
  t229 := Try.underlying187
  a229 := Try.isAgg187
  z229 := Try.sizeOf187
  v229 := Try.zeroValue187 }
end Go.Proofs
namespace Go.Proofs.Ytmeekpinkfpnhaa
open Go.RowKit Go.Sort Go.Shelf
def sortE (n : Nm) (zs : List Int) : Eff := ⟨.junk, [(n, some (.cells 3 (zs.map iA)))], [(n, some (.cells 3 ((risen zs).map iA)))]⟩
theorem RD.int' {m : Mem} {x : Value} {n : Int} (h : RD m x (iD n)) : x = .int .i64 n := by cases h; rfl
theorem sort_tri (zs : List Int) (hz : zs.length ≤ 4000000) (h0 : 0 < zs.length) (n' : Nm) : Tri Try.prog 103 [.arr n' 0 zs.length] (sortE n' zs) := by
  intro w0 h k m β w cargs H hrd hwr hsz hargs
  have hob : h n' = some (.cells 3 (zs.map iA)) := hrd (n', some (.cells 3 (zs.map iA))) (by simp [sortE])
  obtain ⟨hk, _⟩ := hwr (n', some (.cells 3 ((risen zs).map iA))) (by simp [sortE])
  have hk : n'.1 < k := hk
  obtain ⟨v, rfl⟩ : ∃ v, cargs = #[v] := by
    obtain ⟨l⟩ := cargs
    match l, hsz with
    | [v], _ => exact ⟨v, rfl⟩
  have hv := hargs 0 v (.arr n' 0 zs.length) (by simp) (by simp)
  generalize hA : AV.arr n' 0 zs.length = A at hv
  cases hv with
  | @arr n off len cap o p hb hver hc hm ho =>
    cases hA
    obtain ⟨q, hq, hver', c, c1, c2, c3, c4⟩ := H.obj n' _ hob
    rw [hb] at hq; cases hq
    have ho : o = 0 := by rcases ho with h | h; omega; exact h
    subst ho
    rw [List.length_map] at c2
    have hcx : c.toList.take zs.length = zs.map (Value.int .i64) := by
      apply List.ext_getElem?
      intro j
      by_cases hj : j < zs.length
      · have hjc : j < c.size := by omega
        have e1 := Array.getElem?_eq_getElem hjc
        have e2 : (zs.map iA)[j]? = some (iA zs[j]) := by rw [List.getElem?_map, List.getElem?_eq_getElem hj]; rfl
        have e3 := (c3 j _ _ e1 e2).2.dat2.int'
        rw [List.getElem?_take_of_lt hj, Array.getElem?_toList, e1, e3, List.getElem?_map, List.getElem?_eq_getElem hj]; rfl
      · rw [List.getElem?_take_eq_none (by omega), List.getElem?_eq_none (by simp; omega)]
    have hH := holds_of_blockI c1 hcx
    have hS : Calls Try.prog 103 #[.slice (some ⟨p.1, 0, none⟩) zs.length cap] w fun e w' => e = .returned (.tuple #[]) ∧ ∃ n obs, w' = Go.Sort.grow (putRow (Value.int .i64) (Sort.ahead w n) p.1 0 (risen zs).toArray) obs :=
      Any.slices_Sort_int YtmeekpinkfpnhaalaysSort p.1 0 cap zs w hH (H.lt hob hb trivial) (by omega)
    refine hS.mono ?_
    rintro en w' ⟨rfl, n, obs, hw'⟩
    have g := grownBy_sortedI (w := w) (g := p.1) (n := n) (os := obs) (risen zs).toArray
    have hs := heap_sortedI (w := w) (n := n) (os := obs) (risen zs).toArray c1
    have ht := take_putCellsI c (risen zs) (by rw [risen_len]; exact c2)
    rw [← hw'] at g hs
    clear hw'
    generalize hC : putCells (Value.int .i64) 0 (risen zs).toArray c = C at hs ht
    have hlC : C.size = c.size := by rw [← hC]; simp [putCells]
    have hB : w0.heap.size ≤ p.1 := H.new n' p _ hb hob trivial
    have eβ : updB β n' p = β := by
      funext y; unfold updB; split
      · subst_vars; exact hb.symm
      · rfl
    have hext : Below w0.heap.size w0 w' := H.ext.trans ⟨g.os, g.tape, g.output, g.size, fun i hi => g.block i (Nat.lt_of_lt_of_le hi H.size) (by simp; omega)⟩
    have H2 := H.upd1 (n := n') (p := p) (ob := .cells 3 ((risen zs).map iA)) (m' := m) (w' := w') (le_old hb) hk hext (.rfl' m) (fun b o v hv => ?_) ?_ (fun _ => hB) ?_
    · rw [eβ] at H2
      exact ⟨_, m, β, rfl, .rfl' m, .rfl' β, fun _ _ h => h, H2, .junk⟩
    · obtain ⟨k1, k2⟩ := H.mem b o v hv
      have hne : b ≠ p.1 := fun e => by subst e; rw [c4] at hv; cases hv
      refine ⟨?_, k2⟩
      have := g.block b (H.mem_lt hv) (by simpa using hne)
      unfold World.cell? at k1 ⊢
      rw [this]; exact k1
    · rw [eβ]
      refine ⟨hver, C, hs, by rw [List.length_map, risen_len, hlC]; exact c2, fun i v x hi hx => ?_, c4⟩
      rw [List.getElem?_map] at hx
      cases hr : (risen zs)[i]? with
      | none => rw [hr] at hx; cases hx
      | some r =>
        rw [hr] at hx; cases hx
        have hi' := (List.getElem?_eq_some_iff.1 hr).1
        have e1 : (C.toList.take (risen zs).length)[i]? = ((risen zs).map (Value.int .i64))[i]? := by rw [ht]
        rw [List.getElem?_take_of_lt hi', Array.getElem?_toList, hi, List.getElem?_map, hr] at e1
        cases e1
        exact ⟨rfl, .d (.v rfl)⟩
    · intro x p' ob' hx hox hpx hr
      have hne : p'.1 ≠ p.1 := fun e => hx (H.inj x n' p' p ob' _ hox hob hpx hb hr trivial e)
      exact ⟨fun _ => hne, g.block _ (H.lt hox hpx hr) (by simpa using hne), fun _ => rfl⟩
  | _ => cases hA
theorem sort_none : Tri Try.prog 103 [.d (.sl [])] (pure' .junk) := by
  intro w0 h k m β w cargs H hrd hwr hsz hargs
  obtain ⟨v, rfl⟩ : ∃ v, cargs = #[v] := by
    obtain ⟨l⟩ := cargs
    match l, hsz with
    | [v], _ => exact ⟨v, rfl⟩
  have hv := (hargs 0 v (.d (.sl [])) (by simp) (by simp)).dat2
  have hS : ∀ (a : Option Addr) (c : Nat), Calls Try.prog 103 #[.slice a 0 c] w fun e w' => e = .returned (.tuple #[]) ∧ w' = w := fun a c => Any.slices_Sort_int_none YtmeekpinkfpnhaalaysSort a c w
  rcases hv.slice_ with ⟨⟨a, rfl⟩, _⟩ | ⟨b, o, cap, rfl, _, _⟩
  · refine (hS a 0).mono ?_
    rintro en w' ⟨rfl, rfl⟩
    exact ⟨_, m, β, rfl, .rfl' m, .rfl' β, fun _ _ h => h, H, .junk⟩
  · refine (hS _ cap).mono ?_
    rintro en w' ⟨rfl, rfl⟩
    exact ⟨_, m, β, rfl, .rfl' m, .rfl' β, fun _ _ h => h, H, .junk⟩
end Go.Proofs.Ytmeekpinkfpnhaa
namespace Go.Proofs.Ytmeekpinkfpnhaa
open Go.RowKit
def varsOf (g : List Int) (t : Tm) : List Int := if allOk g [t] ≠ 0 then [] else risen (addVs [] ([t].flatMap pre))
set_option maxHeartbeats 1000000 in
set_option maxRecDepth 20000 in
theorem vars_tri (g : List Int) (t : Tm) (ht : t.size ≤ 4000000) : Tri Try.prog 49 [.d (sgDV g), .d (tmDV t)] (pure' (.tup [.d (.sl ((varsOf g t).map iD)), iA (allOk g [t])])) := by
  have hl : Tm.size.sizes [t] ≤ 4000000 := by simp only [Tm.size.sizes]; omega
  refine tri_enter Try.func49 rfl Try.ntmps49 (by simp only [List.length_cons, List.length_nil]; omega) fun w0 h0 k hrd hwr => ?_
  refine awp_new fun hnew => ?_
  have hnn : NoNew h0 k := hnew
  have hnn := hnn.at
  cases he : (allOk g [t] != 0) with
  | true =>
    have e1 : varsOf g t = [] := by unfold varsOf; rw [if_pos (by simpa using he)]
    rw [e1]
    repeat' (first | refine awp_seq_k fun K hK => ?_ | ((first | refine awp_region_k (by kernel_rfl) fun R hR => ?_ | refine awp_draw mixed (by kernel_rfl) (by kernel_rfl) fun R hR => ?_); simp only [go_sem, he]) | ((first | (refine hR _ ?_; clear hR R) | refine awp_skip ?_ | refine awp_exit ?_ | refine awp_ret ?_); try simp only [thenA, inBlockA, reduceIte, reduceCtorEq, Nat.reduceEqDiff, if_false, if_true]) | ((first | refine hK _ ?_ | (clear hK K; first | refine hK _ ?_ | (clear hK K; first | refine hK _ ?_ | (clear hK K; first | refine hK _ ?_ | (clear hK K; refine hK _ ?_))))); clear hK K) | refine awp_true rfl rfl ?_ | refine awp_false rfl rfl ?_ | refine awp_block ?_ | ((first | refine CallK.pure (enter61) (all_tri g [t]) ?_ ?_ | refine CallD.pure (enter61) (all_tri g [t]) ?_ ?_); (focus first | ((repeat (first | exact trivial | refine ⟨(by first | exact Or.inl rfl | exact Or.inr rfl), ?_⟩)); done) | (simp only [coL, AV.dat, true_or, or_true, AV.d.injEq, go_sem]; done)); simp only [go_sem, he]) | refine And.intro (by first | ((repeat' first | omega | exact trivial | rfl | assumption | (intro a e; subst e; rfl) | exact map_sz fun a => (by simp only [go_sem]) | refine And.intro ?_ ?_); done) | fail) ?_ | fail)
    (first | refine ret_pure ?_ ?_ ?_ | refine ret_ro ?_ ?_ ?_); focus exact (by simp only [Try.results49, resOkL, resOk, Try.ntmps49, List.toList_toArray]; first | decide | (simp only [go_sem]; done) | (simp only [go_sem]; and_intros <;> first | omega | rfl | decide))
    rotate_left; focus exact (by repeat (first | exact Fr.rfl' _ _ | assumption | refine Fr.updk ?_ (by omega) _))
    simp only [resA, resV, Try.results49, go_sem]
    all_goals try (first | exact Co.t2 (.dat rfl) (.dat rfl) | exact Co.t3 (.dat rfl) (.dat rfl) (.dat rfl))
  | false =>
    have e0 : allOk g [t] = 0 := by simpa using he
    have e1 : varsOf g t = risen (addVs [] ([t].flatMap pre)) := by unfold varsOf; rw [if_neg (by simp [e0])]
    have hst := stands_tri [t] hl
    have hsa := stands_arr [t] hl
    rw [e1]
    have hz4 : (addVs [] ([t].flatMap pre)).length ≤ 4000000 := by
      have h1 := addVs_len ([t].flatMap pre) []
      rw [← preL_flat, preL_len] at h1
      simp only [List.length_nil] at h1
      rw [← preL_flat]
      omega
    generalize addVs [] ([t].flatMap pre) = zs at *
    by_cases hze : zs = []
    · subst hze
      have e2 : risen [] = [] := List.eq_nil_of_length_eq_zero (by rw [risen_len]; rfl)
      rw [e2]
      repeat' (first | refine awp_seq_k fun K hK => ?_ | ((first | refine awp_region_k (by kernel_rfl) fun R hR => ?_ | refine awp_draw mixed (by kernel_rfl) (by kernel_rfl) fun R hR => ?_); simp only [go_sem, he]) | ((first | (refine hR _ ?_; clear hR R) | refine awp_skip ?_ | refine awp_exit ?_ | refine awp_ret ?_); try simp only [thenA, inBlockA, reduceIte, reduceCtorEq, Nat.reduceEqDiff, if_false, if_true]) | ((first | refine hK _ ?_ | (clear hK K; first | refine hK _ ?_ | (clear hK K; first | refine hK _ ?_ | (clear hK K; first | refine hK _ ?_ | (clear hK K; refine hK _ ?_))))); clear hK K) | refine awp_true rfl rfl ?_ | refine awp_false rfl rfl ?_ | refine awp_block ?_ | ((first | refine CallK.pure (enter61) (all_tri g [t]) ?_ ?_ | refine CallD.pure (enter61) (all_tri g [t]) ?_ ?_ | refine CallK.pure (enter70) (hst) ?_ ?_ | refine CallD.pure (enter70) (hst) ?_ ?_ | refine CallK.pure (enter103) (sort_none) ?_ ?_ | refine CallD.pure (enter103) (sort_none) ?_ ?_); (focus first | ((repeat (first | exact trivial | refine ⟨(by first | exact Or.inl rfl | exact Or.inr rfl), ?_⟩)); done) | (simp only [coL, AV.dat, true_or, or_true, AV.d.injEq, go_sem]; done)); simp only [go_sem, he]) | refine And.intro (by first | ((repeat' first | omega | exact trivial | rfl | assumption | (intro a e; subst e; rfl) | exact map_sz fun a => (by simp only [go_sem]) | refine And.intro ?_ ?_); done) | fail) ?_ | fail)
      (first | refine ret_pure ?_ ?_ ?_ | refine ret_ro ?_ ?_ ?_); focus exact (by simp only [Try.results49, resOkL, resOk, Try.ntmps49, List.toList_toArray]; first | decide | (simp only [go_sem, e0]; done) | (simp only [go_sem, e0]; and_intros <;> first | omega | rfl | decide))
      rotate_left; focus exact (by repeat (first | exact Fr.rfl' _ _ | assumption | refine Fr.updk ?_ (by omega) _))
      simp only [resA, resV, Try.results49, go_sem, e0]
      all_goals try (first | exact Co.t2 (.dat rfl) (.dat rfl) | exact Co.t3 (.dat rfl) (.dat rfl) (.dat rfl))
    · have hp : 0 < zs.length := List.length_pos_iff.2 hze
      have hsa := hsa hp
      have hlen2 : zs.length = ((risen zs).map iD).length := by rw [List.length_map, risen_len]
      have hszs2 : ∀ y ∈ (risen zs).map iD, y.cells.length = 1 := fun y hy => by obtain ⟨z, _, rfl⟩ := List.mem_map.1 hy; rfl
      repeat' (first | (refine CallK.arr rfl (enter70) hsa ?_ ?_ ?_; (focus exact ⟨.inr rfl, trivial⟩); (focus (simp only [go_sem, hnn]; done)); simp only [go_sem, hnn]) | (refine CallK.eff (enter103) (sort_tri zs hz4 hp (k + 1 + 1 + 1, 2)) ?_ ?_ ?_ ?_; (focus exact ⟨.inl rfl, trivial⟩); (focus (intro x hx; rcases List.mem_singleton.1 hx with rfl; simp only [go_sem, ]; done)); (focus (intro x hx; rcases List.mem_singleton.1 hx with rfl; left; simp only [go_sem, ]; done)); simp only [sortE]; simp only [go_sem, hnn]) | (refine awp_ghost (ghost_freeze (i := 4) (n := (k + 1 + 1 + 1, 2)) (e := 3) (ys := (risen zs).map iD) (len := zs.length) (sz := 1) ?_ ?_ hlen2 hszs2) ?_; (focus (simp only [go_sem]; done)); (focus (rw [flatC_ints]; simp only [go_sem]; done)); simp only [go_sem]) | refine awp_seq_k fun K hK => ?_ | ((first | refine awp_region_k (by kernel_rfl) fun R hR => ?_ | refine awp_draw mixed (by kernel_rfl) (by kernel_rfl) fun R hR => ?_); simp only [go_sem, he, hnn]) | ((first | (refine hR _ ?_; clear hR R) | refine awp_skip ?_ | refine awp_exit ?_ | refine awp_ret ?_); try simp only [thenA, inBlockA, reduceIte, reduceCtorEq, Nat.reduceEqDiff, if_false, if_true]) | ((first | refine hK _ ?_ | (clear hK K; first | refine hK _ ?_ | (clear hK K; first | refine hK _ ?_ | (clear hK K; first | refine hK _ ?_ | (clear hK K; refine hK _ ?_))))); clear hK K) | refine awp_true rfl rfl ?_ | refine awp_false rfl rfl ?_ | refine awp_block ?_ | ((first | refine CallK.pure (enter61) (all_tri g [t]) ?_ ?_ | refine CallD.pure (enter61) (all_tri g [t]) ?_ ?_); (focus first | ((repeat (first | exact trivial | refine ⟨(by first | exact Or.inl rfl | exact Or.inr rfl), ?_⟩)); done) | (simp only [coL, AV.dat, true_or, or_true, AV.d.injEq, go_sem]; done)); simp only [go_sem, he, hnn]) | refine And.intro (by first | ((repeat' first | omega | exact trivial | rfl | assumption | (intro a e; subst e; rfl) | exact map_sz fun a => (by simp only [go_sem]) | refine And.intro ?_ ?_); done) | fail) ?_ | fail)
      (first | refine ret_pure ?_ ?_ ?_ | refine ret_ro ?_ ?_ ?_); focus exact (by simp only [Try.results49, resOkL, resOk, Try.ntmps49, List.toList_toArray]; first | decide | (simp only [go_sem, e0]; done) | (simp only [go_sem, e0]; and_intros <;> first | omega | rfl | decide))
      rotate_left; focus exact (by repeat (first | exact Fr.rfl' _ _ | assumption | refine Fr.updk ?_ (by omega) _))
      simp only [resA, resV, Try.results49, go_sem, e0]
      all_goals try (first | exact Co.t2 (.dat rfl) (.dat rfl) | exact Co.t3 (.dat rfl) (.dat rfl) (.dat rfl))
end Go.Proofs.Ytmeekpinkfpnhaa
namespace Go.Proofs.Ytmeekpinkfpnhaa
open Go.RowKit
theorem atG_size : ∀ (p : List Int) (t x : Tm), atG t p = some x → x.size ≤ t.size
  | [], t, x, h => by rw [atG] at h; cases h; exact Nat.le_refl _
  | i :: p, t, x, h => by
    obtain ⟨n, hn, rfl, h2⟩ := atG_some h
    have := atG_size p _ x h2
    have := Tm.size_at hn
    omega
theorem allOk_sz {g : List Int} {l : List Tm} (h : allOk g l = 0) {t : Tm} (ht : t ∈ l) : t.size ≤ 120 := by
  have := own_parts ((allOk_own h).2 t ht); rw [parts_len] at this; exact this
set_option maxRecDepth 20000 in
theorem tsize_tri (g : List Int) (t : Tm) : Tri Try.prog 48 [.d (sgDV g), .d (tmDV t)] (pure' (.tup [iA (if allOk g [t] ≠ 0 then 0 else count t 120), iA (allOk g [t])])) := by
  have hc := count_tri t 120 (by omega) (by omega)
  refine tri_enter Try.func48 rfl Try.ntmps48 (by simp only [List.length_cons, List.length_nil]; omega) fun w0 h0 k hrd hwr => ?_
  cases he : (allOk g [t] != 0) with
  | true =>
    rw [if_pos (by simpa using he)]
    repeat' (first | refine awp_seq_k fun K hK => ?_ | ((first | refine awp_region_k (by kernel_rfl) fun R hR => ?_ | refine awp_draw mixed (by kernel_rfl) (by kernel_rfl) fun R hR => ?_); simp only [go_sem, he]) | ((first | (refine hR _ ?_; clear hR R) | refine awp_skip ?_ | refine awp_exit ?_ | refine awp_ret ?_); try simp only [thenA, inBlockA, reduceIte, reduceCtorEq, Nat.reduceEqDiff, if_false, if_true]) | ((first | refine hK _ ?_ | (clear hK K; first | refine hK _ ?_ | (clear hK K; first | refine hK _ ?_ | (clear hK K; first | refine hK _ ?_ | (clear hK K; refine hK _ ?_))))); clear hK K) | refine awp_true rfl rfl ?_ | refine awp_false rfl rfl ?_ | refine awp_block ?_ | ((first | refine CallK.pure (enter61) (all_tri g [t]) ?_ ?_ | refine CallD.pure (enter61) (all_tri g [t]) ?_ ?_); (focus first | ((repeat (first | exact trivial | refine ⟨(by first | exact Or.inl rfl | exact Or.inr rfl), ?_⟩)); done) | (simp only [coL, AV.dat, true_or, or_true, AV.d.injEq, go_sem]; done)); simp only [go_sem, he]) | refine And.intro (by first | ((repeat' first | omega | exact trivial | rfl | assumption | (intro a e; subst e; rfl) | exact map_sz fun a => (by simp only [go_sem]) | refine And.intro ?_ ?_); done) | fail) ?_ | fail)
    (first | refine ret_pure ?_ ?_ ?_ | refine ret_ro ?_ ?_ ?_); focus exact (by simp only [Try.results48, resOkL, resOk, Try.ntmps48, List.toList_toArray]; first | decide | (simp only [go_sem]; done) | (simp only [go_sem]; and_intros <;> first | omega | rfl | decide))
    rotate_left; focus exact (by repeat (first | exact Fr.rfl' _ _ | assumption | refine Fr.updk ?_ (by omega) _))
    simp only [resA, resV, Try.results48, go_sem]
    all_goals try (first | exact Co.t2 (.dat rfl) (.dat rfl) | exact Co.t3 (.dat rfl) (.dat rfl) (.dat rfl))
  | false =>
    have e0 : allOk g [t] = 0 := by simpa using he
    rw [if_neg (by simp [e0])]
    repeat' (first | refine awp_seq_k fun K hK => ?_ | ((first | refine awp_region_k (by kernel_rfl) fun R hR => ?_ | refine awp_draw mixed (by kernel_rfl) (by kernel_rfl) fun R hR => ?_); simp only [go_sem, he]) | ((first | (refine hR _ ?_; clear hR R) | refine awp_skip ?_ | refine awp_exit ?_ | refine awp_ret ?_); try simp only [thenA, inBlockA, reduceIte, reduceCtorEq, Nat.reduceEqDiff, if_false, if_true]) | ((first | refine hK _ ?_ | (clear hK K; first | refine hK _ ?_ | (clear hK K; first | refine hK _ ?_ | (clear hK K; first | refine hK _ ?_ | (clear hK K; refine hK _ ?_))))); clear hK K) | refine awp_true rfl rfl ?_ | refine awp_false rfl rfl ?_ | refine awp_block ?_ | ((first | refine CallK.pure (enter61) (all_tri g [t]) ?_ ?_ | refine CallD.pure (enter61) (all_tri g [t]) ?_ ?_ | refine CallK.pure (enter102) (hc) ?_ ?_ | refine CallD.pure (enter102) (hc) ?_ ?_); (focus first | ((repeat (first | exact trivial | refine ⟨(by first | exact Or.inl rfl | exact Or.inr rfl), ?_⟩)); done) | (simp only [coL, AV.dat, true_or, or_true, AV.d.injEq, go_sem]; done)); simp only [go_sem, he]) | refine And.intro (by first | ((repeat' first | omega | exact trivial | rfl | assumption | (intro a e; subst e; rfl) | exact map_sz fun a => (by simp only [go_sem]) | refine And.intro ?_ ?_); done) | fail) ?_ | fail)
    (first | refine ret_pure ?_ ?_ ?_ | refine ret_ro ?_ ?_ ?_); focus exact (by simp only [Try.results48, resOkL, resOk, Try.ntmps48, List.toList_toArray]; first | decide | (simp only [go_sem, e0]; done) | (simp only [go_sem, e0]; and_intros <;> first | omega | rfl | decide))
    rotate_left; focus exact (by repeat (first | exact Fr.rfl' _ _ | assumption | refine Fr.updk ?_ (by omega) _))
    simp only [resA, resV, Try.results48, go_sem, e0]
    all_goals try (first | exact Co.t2 (.dat rfl) (.dat rfl) | exact Co.t3 (.dat rfl) (.dat rfl) (.dat rfl))
def atAns (g : List Int) (t : Tm) (p : List Int) : Tm × Int := if allOk g [t] ≠ 0 then (tm0, allOk g [t]) else if (atA t p).2 = true then ((atA t p).1, 0) else (tm0, 5)
set_option maxHeartbeats 1000000 in
set_option maxRecDepth 20000 in
theorem at_tri (g : List Int) (t : Tm) (p : List Int) (hp : p.length ≤ 4000000) : Tri Try.prog 57 [.d (sgDV g), .d (tmDV t), .d (.sl (p.map iD))] (pure' (.tup [.d (tmDV (atAns g t p).1), iA (atAns g t p).2])) := by
  refine tri_enter Try.func57 rfl Try.ntmps57 (by simp only [List.length_cons, List.length_nil]; omega) fun w0 h0 k hrd hwr => ?_
  unfold atAns
  cases he : (allOk g [t] != 0) with
  | true =>
    rw [if_pos (by simpa using he)]
    repeat' (first | refine awp_seq_k fun K hK => ?_ | ((first | refine awp_region_k (by kernel_rfl) fun R hR => ?_ | refine awp_draw mixed (by kernel_rfl) (by kernel_rfl) fun R hR => ?_); simp only [go_sem, he]) | ((first | (refine hR _ ?_; clear hR R) | refine awp_skip ?_ | refine awp_exit ?_ | refine awp_ret ?_); try simp only [thenA, inBlockA, reduceIte, reduceCtorEq, Nat.reduceEqDiff, if_false, if_true]) | ((first | refine hK _ ?_ | (clear hK K; first | refine hK _ ?_ | (clear hK K; first | refine hK _ ?_ | (clear hK K; first | refine hK _ ?_ | (clear hK K; refine hK _ ?_))))); clear hK K) | refine awp_true rfl rfl ?_ | refine awp_false rfl rfl ?_ | refine awp_block ?_ | ((first | refine CallK.pure (enter61) (all_tri g [t]) ?_ ?_ | refine CallD.pure (enter61) (all_tri g [t]) ?_ ?_); (focus first | ((repeat (first | exact trivial | refine ⟨(by first | exact Or.inl rfl | exact Or.inr rfl), ?_⟩)); done) | (simp only [coL, AV.dat, true_or, or_true, AV.d.injEq, go_sem]; done)); simp only [go_sem, he]) | refine And.intro (by first | ((repeat' first | omega | exact trivial | rfl | assumption | (intro a e; subst e; rfl) | exact map_sz fun a => (by simp only [go_sem]) | refine And.intro ?_ ?_); done) | fail) ?_ | fail)
    (first | refine ret_pure ?_ ?_ ?_ | refine ret_ro ?_ ?_ ?_); focus exact (by simp only [Try.results57, resOkL, resOk, Try.ntmps57, List.toList_toArray]; first | decide | (simp only [go_sem]; done) | (simp only [go_sem]; and_intros <;> first | omega | rfl | decide))
    rotate_left; focus exact (by repeat (first | exact Fr.rfl' _ _ | assumption | refine Fr.updk ?_ (by omega) _))
    simp only [resA, resV, Try.results57, go_sem]
    all_goals try (first | exact Co.t2 (.dat rfl) (.dat rfl) | exact Co.t3 (.dat rfl) (.dat rfl) (.dat rfl))
    all_goals exact .t2 (co_tm rfl) (.dat rfl)
  | false =>
    have e0 : allOk g [t] = 0 := by simpa using he
    rw [if_neg (by simp [e0])]
    have hsz := allOk_sz e0 (t := t) (by simp)
    have hf := find_tri p t hp (by omega)
    cases hx : atG t p with
    | none =>
      have ha : atA t p = (tm0, false) := by unfold atA; rw [hx]
      rw [ha] at hf ⊢
      rw [if_neg (by simp)]
      repeat' (first | refine awp_seq_k fun K hK => ?_ | ((first | refine awp_region_k (by kernel_rfl) fun R hR => ?_ | refine awp_draw mixed (by kernel_rfl) (by kernel_rfl) fun R hR => ?_); simp only [go_sem, he]) | ((first | (refine hR _ ?_; clear hR R) | refine awp_skip ?_ | refine awp_exit ?_ | refine awp_ret ?_); try simp only [thenA, inBlockA, reduceIte, reduceCtorEq, Nat.reduceEqDiff, if_false, if_true]) | ((first | refine hK _ ?_ | (clear hK K; first | refine hK _ ?_ | (clear hK K; first | refine hK _ ?_ | (clear hK K; first | refine hK _ ?_ | (clear hK K; refine hK _ ?_))))); clear hK K) | refine awp_true rfl rfl ?_ | refine awp_false rfl rfl ?_ | refine awp_block ?_ | ((first | refine CallK.pure (enter61) (all_tri g [t]) ?_ ?_ | refine CallD.pure (enter61) (all_tri g [t]) ?_ ?_ | refine CallK.pure (enter105) (hf) ?_ ?_ | refine CallD.pure (enter105) (hf) ?_ ?_); (focus first | ((repeat (first | exact trivial | refine ⟨(by first | exact Or.inl rfl | exact Or.inr rfl), ?_⟩)); done) | (simp only [coL, AV.dat, true_or, or_true, AV.d.injEq, go_sem]; done)); simp only [go_sem, he]) | refine And.intro (by first | ((repeat' first | omega | exact trivial | rfl | assumption | (intro a e; subst e; rfl) | exact map_sz fun a => (by simp only [go_sem]) | refine And.intro ?_ ?_); done) | fail) ?_ | fail)
      (first | refine ret_pure ?_ ?_ ?_ | refine ret_ro ?_ ?_ ?_); focus exact (by simp only [Try.results57, resOkL, resOk, Try.ntmps57, List.toList_toArray]; first | decide | (simp only [go_sem]; done) | (simp only [go_sem]; and_intros <;> first | omega | rfl | decide))
      rotate_left; focus exact (by repeat (first | exact Fr.rfl' _ _ | assumption | refine Fr.updk ?_ (by omega) _))
      simp only [resA, resV, Try.results57, go_sem]
      all_goals try (first | exact Co.t2 (.dat rfl) (.dat rfl) | exact Co.t3 (.dat rfl) (.dat rfl) (.dat rfl))
      all_goals exact .t2 (co_tm rfl) (.dat rfl)
    | some x =>
      have ha : atA t p = (x, true) := by unfold atA; rw [hx]
      have hxs := atG_size p t x hx
      rw [ha] at hf ⊢
      rw [if_pos rfl]
      repeat' (first | refine awp_seq_k fun K hK => ?_ | ((first | refine awp_region_k (by kernel_rfl) fun R hR => ?_ | refine awp_draw mixed (by kernel_rfl) (by kernel_rfl) fun R hR => ?_); simp only [go_sem, he]) | ((first | (refine hR _ ?_; clear hR R) | refine awp_skip ?_ | refine awp_exit ?_ | refine awp_ret ?_); try simp only [thenA, inBlockA, reduceIte, reduceCtorEq, Nat.reduceEqDiff, if_false, if_true]) | ((first | refine hK _ ?_ | (clear hK K; first | refine hK _ ?_ | (clear hK K; first | refine hK _ ?_ | (clear hK K; first | refine hK _ ?_ | (clear hK K; refine hK _ ?_))))); clear hK K) | refine awp_true rfl rfl ?_ | refine awp_false rfl rfl ?_ | refine awp_block ?_ | ((first | refine CallK.pure (enter61) (all_tri g [t]) ?_ ?_ | refine CallD.pure (enter61) (all_tri g [t]) ?_ ?_ | refine CallK.pure (enter105) (hf) ?_ ?_ | refine CallD.pure (enter105) (hf) ?_ ?_ | refine CallK.pure (enter98) (copied_tri x (by omega)) ?_ ?_ | refine CallD.pure (enter98) (copied_tri x (by omega)) ?_ ?_); (focus first | ((repeat (first | exact trivial | refine ⟨(by first | exact Or.inl rfl | exact Or.inr rfl), ?_⟩)); done) | (simp only [coL, AV.dat, true_or, or_true, AV.d.injEq, go_sem]; done)); simp only [go_sem, he]) | refine And.intro (by first | ((repeat' first | omega | exact trivial | rfl | assumption | (intro a e; subst e; rfl) | exact map_sz fun a => (by simp only [go_sem]) | refine And.intro ?_ ?_); done) | fail) ?_ | fail)
      (first | refine ret_pure ?_ ?_ ?_ | refine ret_ro ?_ ?_ ?_); focus exact (by simp only [Try.results57, resOkL, resOk, Try.ntmps57, List.toList_toArray]; first | decide | (simp only [go_sem]; done) | (simp only [go_sem]; and_intros <;> first | omega | rfl | decide))
      rotate_left; focus exact (by repeat (first | exact Fr.rfl' _ _ | assumption | refine Fr.updk ?_ (by omega) _))
      simp only [resA, resV, Try.results57, go_sem]
      all_goals try (first | exact Co.t2 (.dat rfl) (.dat rfl) | exact Co.t3 (.dat rfl) (.dat rfl) (.dat rfl))
      all_goals first | exact .t2 (co_tm' rfl) (.dat rfl) | exact .t2 (.dat rfl) (.dat rfl)
def putAns (g : List Int) (t : Tm) (p : List Int) (u : Tm) : Tm × Int :=
  if allOk g [t, u] ≠ 0 then (tm0, allOk g [t, u]) else if (atA t p).2 = true then (if count (layG t p u) 120 > 120 then (tm0, 2) else (layG t p u, 0)) else (tm0, 5)
set_option maxHeartbeats 1000000 in
set_option maxRecDepth 20000 in
theorem put_tri (g : List Int) (t : Tm) (p : List Int) (u : Tm) (hp : p.length ≤ 4000000) : Tri Try.prog 58 [.d (sgDV g), .d (tmDV t), .d (.sl (p.map iD)), .d (tmDV u)] (pure' (.tup [.d (tmDV (putAns g t p u).1), iA (putAns g t p u).2])) := by
  refine tri_enter Try.func58 rfl Try.ntmps58 (by simp only [List.length_cons, List.length_nil]; omega) fun w0 h0 k hrd hwr => ?_
  unfold putAns
  cases he : (allOk g [t, u] != 0) with
  | true =>
    rw [if_pos (by simpa using he)]
    repeat' (first | refine awp_seq_k fun K hK => ?_ | ((first | refine awp_region_k (by kernel_rfl) fun R hR => ?_ | refine awp_draw mixed (by kernel_rfl) (by kernel_rfl) fun R hR => ?_); simp only [go_sem, he]) | ((first | (refine hR _ ?_; clear hR R) | refine awp_skip ?_ | refine awp_exit ?_ | refine awp_ret ?_); try simp only [thenA, inBlockA, reduceIte, reduceCtorEq, Nat.reduceEqDiff, if_false, if_true]) | ((first | refine hK _ ?_ | (clear hK K; first | refine hK _ ?_ | (clear hK K; first | refine hK _ ?_ | (clear hK K; first | refine hK _ ?_ | (clear hK K; refine hK _ ?_))))); clear hK K) | refine awp_true rfl rfl ?_ | refine awp_false rfl rfl ?_ | refine awp_block ?_ | ((first | refine CallK.pure (enter61) (all_tri g [t, u]) ?_ ?_ | refine CallD.pure (enter61) (all_tri g [t, u]) ?_ ?_); (focus first | ((repeat (first | exact trivial | refine ⟨(by first | exact Or.inl rfl | exact Or.inr rfl), ?_⟩)); done) | (simp only [coL, AV.dat, true_or, or_true, AV.d.injEq, go_sem]; done)); simp only [go_sem, he]) | refine And.intro (by first | ((repeat' first | omega | exact trivial | rfl | assumption | (intro a e; subst e; rfl) | exact map_sz fun a => (by simp only [go_sem]) | refine And.intro ?_ ?_); done) | fail) ?_ | fail)
    (first | refine ret_pure ?_ ?_ ?_ | refine ret_ro ?_ ?_ ?_); focus exact (by simp only [Try.results58, resOkL, resOk, Try.ntmps58, List.toList_toArray]; first | decide | (simp only [go_sem]; done) | (simp only [go_sem]; and_intros <;> first | omega | rfl | decide))
    rotate_left; focus exact (by repeat (first | exact Fr.rfl' _ _ | assumption | refine Fr.updk ?_ (by omega) _))
    simp only [resA, resV, Try.results58, go_sem]
    all_goals try (first | exact Co.t2 (.dat rfl) (.dat rfl) | exact Co.t3 (.dat rfl) (.dat rfl) (.dat rfl))
    all_goals exact .t2 (co_tm rfl) (.dat rfl)
  | false =>
    have e0 : allOk g [t, u] = 0 := by simpa using he
    rw [if_neg (by simp [e0])]
    have hsz := allOk_sz e0 (t := t) (by simp)
    have hf := find_tri p t hp (by omega)
    cases hx : atG t p with
    | none =>
      have ha : atA t p = (tm0, false) := by unfold atA; rw [hx]
      rw [ha] at hf ⊢
      rw [if_neg (by simp)]
      repeat' (first | refine awp_seq_k fun K hK => ?_ | ((first | refine awp_region_k (by kernel_rfl) fun R hR => ?_ | refine awp_draw mixed (by kernel_rfl) (by kernel_rfl) fun R hR => ?_); simp only [go_sem, he]) | ((first | (refine hR _ ?_; clear hR R) | refine awp_skip ?_ | refine awp_exit ?_ | refine awp_ret ?_); try simp only [thenA, inBlockA, reduceIte, reduceCtorEq, Nat.reduceEqDiff, if_false, if_true]) | ((first | refine hK _ ?_ | (clear hK K; first | refine hK _ ?_ | (clear hK K; first | refine hK _ ?_ | (clear hK K; first | refine hK _ ?_ | (clear hK K; refine hK _ ?_))))); clear hK K) | refine awp_true rfl rfl ?_ | refine awp_false rfl rfl ?_ | refine awp_block ?_ | ((first | refine CallK.pure (enter61) (all_tri g [t, u]) ?_ ?_ | refine CallD.pure (enter61) (all_tri g [t, u]) ?_ ?_ | refine CallK.pure (enter105) (hf) ?_ ?_ | refine CallD.pure (enter105) (hf) ?_ ?_); (focus first | ((repeat (first | exact trivial | refine ⟨(by first | exact Or.inl rfl | exact Or.inr rfl), ?_⟩)); done) | (simp only [coL, AV.dat, true_or, or_true, AV.d.injEq, go_sem]; done)); simp only [go_sem, he]) | refine And.intro (by first | ((repeat' first | omega | exact trivial | rfl | assumption | (intro a e; subst e; rfl) | exact map_sz fun a => (by simp only [go_sem]) | refine And.intro ?_ ?_); done) | fail) ?_ | fail)
      (first | refine ret_pure ?_ ?_ ?_ | refine ret_ro ?_ ?_ ?_); focus exact (by simp only [Try.results58, resOkL, resOk, Try.ntmps58, List.toList_toArray]; first | decide | (simp only [go_sem]; done) | (simp only [go_sem]; and_intros <;> first | omega | rfl | decide))
      rotate_left; focus exact (by repeat (first | exact Fr.rfl' _ _ | assumption | refine Fr.updk ?_ (by omega) _))
      simp only [resA, resV, Try.results58, go_sem]
      all_goals try (first | exact Co.t2 (.dat rfl) (.dat rfl) | exact Co.t3 (.dat rfl) (.dat rfl) (.dat rfl))
      all_goals exact .t2 (co_tm rfl) (.dat rfl)
    | some x =>
      have ha : atA t p = (x, true) := by unfold atA; rw [hx]
      have hly := lay_tri p t u x hx hp (by omega)
      have hc := count_tri (layG t p u) 120 (by omega) (by omega)
      rw [ha] at hf ⊢
      rw [if_pos rfl]
      cases hn : decide (count (layG t p u) 120 > 120) with
      | true =>
        rw [if_pos (by simpa using hn)]
        repeat' (first | refine awp_seq_k fun K hK => ?_ | ((first | refine awp_region_k (by kernel_rfl) fun R hR => ?_ | refine awp_draw mixed (by kernel_rfl) (by kernel_rfl) fun R hR => ?_); simp only [go_sem, he, hn]) | ((first | (refine hR _ ?_; clear hR R) | refine awp_skip ?_ | refine awp_exit ?_ | refine awp_ret ?_); try simp only [thenA, inBlockA, reduceIte, reduceCtorEq, Nat.reduceEqDiff, if_false, if_true]) | ((first | refine hK _ ?_ | (clear hK K; first | refine hK _ ?_ | (clear hK K; first | refine hK _ ?_ | (clear hK K; first | refine hK _ ?_ | (clear hK K; refine hK _ ?_))))); clear hK K) | refine awp_true rfl rfl ?_ | refine awp_false rfl rfl ?_ | refine awp_block ?_ | ((first | refine CallK.pure (enter61) (all_tri g [t, u]) ?_ ?_ | refine CallD.pure (enter61) (all_tri g [t, u]) ?_ ?_ | refine CallK.pure (enter105) (hf) ?_ ?_ | refine CallD.pure (enter105) (hf) ?_ ?_ | refine CallK.pure (enter106) (hly) ?_ ?_ | refine CallD.pure (enter106) (hly) ?_ ?_ | refine CallK.pure (enter102) (hc) ?_ ?_ | refine CallD.pure (enter102) (hc) ?_ ?_); (focus first | ((repeat (first | exact trivial | refine ⟨(by first | exact Or.inl rfl | exact Or.inr rfl), ?_⟩)); done) | (simp only [coL, AV.dat, true_or, or_true, AV.d.injEq, go_sem]; done)); simp only [go_sem, he, hn]) | refine And.intro (by first | ((repeat' first | omega | exact trivial | rfl | assumption | (intro a e; subst e; rfl) | exact map_sz fun a => (by simp only [go_sem]) | refine And.intro ?_ ?_); done) | fail) ?_ | fail)
        (first | refine ret_pure ?_ ?_ ?_ | refine ret_ro ?_ ?_ ?_); focus exact (by simp only [Try.results58, resOkL, resOk, Try.ntmps58, List.toList_toArray]; first | decide | (simp only [go_sem]; done) | (simp only [go_sem]; and_intros <;> first | omega | rfl | decide))
        rotate_left; focus exact (by repeat (first | exact Fr.rfl' _ _ | assumption | refine Fr.updk ?_ (by omega) _))
        simp only [resA, resV, Try.results58, go_sem]
        all_goals try (first | exact Co.t2 (.dat rfl) (.dat rfl) | exact Co.t3 (.dat rfl) (.dat rfl) (.dat rfl))
        all_goals exact .t2 (co_tm rfl) (.dat rfl)
      | false =>
        have hn' : ¬ count (layG t p u) 120 > 120 := by simpa using hn
        rw [if_neg hn']
        have hls := count_cap.1 (show count (layG t p u) 120 ≤ 120 by omega)
        repeat' (first | refine awp_seq_k fun K hK => ?_ | ((first | refine awp_region_k (by kernel_rfl) fun R hR => ?_ | refine awp_draw mixed (by kernel_rfl) (by kernel_rfl) fun R hR => ?_); simp only [go_sem, he, hn]) | ((first | (refine hR _ ?_; clear hR R) | refine awp_skip ?_ | refine awp_exit ?_ | refine awp_ret ?_); try simp only [thenA, inBlockA, reduceIte, reduceCtorEq, Nat.reduceEqDiff, if_false, if_true]) | ((first | refine hK _ ?_ | (clear hK K; first | refine hK _ ?_ | (clear hK K; first | refine hK _ ?_ | (clear hK K; first | refine hK _ ?_ | (clear hK K; refine hK _ ?_))))); clear hK K) | refine awp_true rfl rfl ?_ | refine awp_false rfl rfl ?_ | refine awp_block ?_ | ((first | refine CallK.pure (enter61) (all_tri g [t, u]) ?_ ?_ | refine CallD.pure (enter61) (all_tri g [t, u]) ?_ ?_ | refine CallK.pure (enter105) (hf) ?_ ?_ | refine CallD.pure (enter105) (hf) ?_ ?_ | refine CallK.pure (enter106) (hly) ?_ ?_ | refine CallD.pure (enter106) (hly) ?_ ?_ | refine CallK.pure (enter102) (hc) ?_ ?_ | refine CallD.pure (enter102) (hc) ?_ ?_ | refine CallK.pure (enter98) (copied_tri (layG t p u) (by omega)) ?_ ?_ | refine CallD.pure (enter98) (copied_tri (layG t p u) (by omega)) ?_ ?_); (focus first | ((repeat (first | exact trivial | refine ⟨(by first | exact Or.inl rfl | exact Or.inr rfl), ?_⟩)); done) | (simp only [coL, AV.dat, true_or, or_true, AV.d.injEq, go_sem]; done)); simp only [go_sem, he, hn]) | refine And.intro (by first | ((repeat' first | omega | exact trivial | rfl | assumption | (intro a e; subst e; rfl) | exact map_sz fun a => (by simp only [go_sem]) | refine And.intro ?_ ?_); done) | fail) ?_ | fail)
        (first | refine ret_pure ?_ ?_ ?_ | refine ret_ro ?_ ?_ ?_); focus exact (by simp only [Try.results58, resOkL, resOk, Try.ntmps58, List.toList_toArray]; first | decide | (simp only [go_sem]; done) | (simp only [go_sem]; and_intros <;> first | omega | rfl | decide))
        rotate_left; focus exact (by repeat (first | exact Fr.rfl' _ _ | assumption | refine Fr.updk ?_ (by omega) _))
        simp only [resA, resV, Try.results58, go_sem]
        all_goals try (first | exact Co.t2 (.dat rfl) (.dat rfl) | exact Co.t3 (.dat rfl) (.dat rfl) (.dat rfl))
        all_goals first | exact .t2 (co_tm' rfl) (.dat rfl) | exact .t2 (.dat rfl) (.dat rfl)
end Go.Proofs.Ytmeekpinkfpnhaa
namespace Go.Proofs.Ytmeekpinkfpnhaa
open Go.RowKit
theorem tcheck_tri (g : List Int) (t : Tm) : Tri Try.prog 55 [.d (sgDV g), .d (tmDV t)] (pure' (iA (allOk g [t]))) := by
  refine tri_enter Try.func55 rfl Try.ntmps55 (by simp only [List.length_cons, List.length_nil]; omega) fun w0 h0 k hrd hwr => ?_
  repeat' (first | refine awp_seq_k fun K hK => ?_ | ((first | refine awp_region_k (by kernel_rfl) fun R hR => ?_ | refine awp_draw mixed (by kernel_rfl) (by kernel_rfl) fun R hR => ?_); simp only [go_sem]) | ((first | (refine hR _ ?_; clear hR R) | refine awp_skip ?_ | refine awp_exit ?_ | refine awp_ret ?_); try simp only [thenA, inBlockA, reduceIte, reduceCtorEq, Nat.reduceEqDiff, if_false, if_true]) | ((first | refine hK _ ?_ | (clear hK K; first | refine hK _ ?_ | (clear hK K; first | refine hK _ ?_ | (clear hK K; first | refine hK _ ?_ | (clear hK K; refine hK _ ?_))))); clear hK K) | refine awp_true rfl rfl ?_ | refine awp_false rfl rfl ?_ | refine awp_block ?_ | ((first | refine CallK.pure (enter61) (all_tri g [t]) ?_ ?_ | refine CallD.pure (enter61) (all_tri g [t]) ?_ ?_); (focus first | ((repeat (first | exact trivial | refine ⟨(by first | exact Or.inl rfl | exact Or.inr rfl), ?_⟩)); done) | (simp only [coL, AV.dat, true_or, or_true, AV.d.injEq, go_sem]; done)); simp only [go_sem]) | refine And.intro (by first | ((repeat' first | omega | exact trivial | rfl | assumption | (intro a e; subst e; rfl) | exact map_sz fun a => (by simp only [go_sem]) | refine And.intro ?_ ?_); done) | fail) ?_ | fail)
  (first | refine ret_pure ?_ ?_ ?_ | refine ret_ro ?_ ?_ ?_); focus exact (by simp only [Try.results55, resOkL, resOk, Try.ntmps55, List.toList_toArray]; first | decide | (simp only [go_sem]; done) | (simp only [go_sem]; and_intros <;> first | omega | rfl | decide))
  rotate_left; focus exact (by repeat (first | exact Fr.rfl' _ _ | assumption | refine Fr.updk ?_ (by omega) _))
  simp only [resA, resV, Try.results55, go_sem]
  all_goals try (first | exact Co.t2 (.dat rfl) (.dat rfl) | exact Co.t3 (.dat rfl) (.dat rfl) (.dat rfl))
  exact .dat rfl
theorem tb0 : allOk [0, 1] [.mk 0 1 [.mk 2 0 []], .mk 0 0 []] = 0 := by decide
theorem tb1 : putAns [0, 1] (.mk 0 1 [.mk 2 0 []]) [0] (.mk 0 0 []) = (.mk 0 1 [.mk 0 0 []], 0) := by
  have e1 : atA (.mk 0 1 [.mk 2 0 []]) [0] = (.mk 2 0 [], true) := rfl
  have e2 : layG (.mk 0 1 [.mk 2 0 []]) [0] (.mk 0 0 []) = .mk 0 1 [.mk 0 0 []] := rfl
  have e3 : count (.mk 0 1 [.mk 0 0 []]) 120 = 2 := by decide
  unfold putAns
  rw [if_neg (by simp [tb0]), e1, if_pos rfl, e2, if_neg (by rw [e3]; decide)]
theorem tb2 : allOk [0, 1] [.mk 0 1 [.mk 2 0 []]] = 0 := by decide
theorem tb3 : varsOf [0, 1] (.mk 0 1 [.mk 2 0 []]) = [2] := by
  have e1 : addVs [] ([Tm.mk 0 1 [.mk 2 0 []]].flatMap pre) = [2] := by decide
  unfold varsOf
  rw [if_neg (by simp [tb2]), e1]
  simp [risen]
theorem tb4 : allOk [0, 1] [.mk 0 1 [.mk 0 0 []]] = 0 := by decide
theorem tb5 : count (.mk 0 1 [.mk 0 0 []]) 120 = 2 := by decide
theorem tb7 : (((1 : Nat) : Int) == 1) = true := rfl
theorem tb6 : sigOk [0, 1] = 0 := by decide
set_option maxHeartbeats 4000000 in
set_option maxRecDepth 20000 in
theorem termBegun_tri : Tri Try.prog 52 [] (pure' (bA true)) := by
  have h1 := put_tri [0, 1] (.mk 0 1 [.mk 2 0 []]) [0] (.mk 0 0 []) (by decide)
  rw [tb1] at h1
  have h2 := tsize_tri [0, 1] (.mk 0 1 [.mk 0 0 []])
  rw [tb4, if_neg (by decide), tb5] at h2
  have h3 := vars_tri [0, 1] (.mk 0 1 [.mk 2 0 []]) (by decide)
  rw [tb3, tb2] at h3
  have h4 := sameR_tri (.mk 0 1 [.mk 0 0 []]) (.mk 0 1 [.mk 0 0 []])
  rw [same_rfl] at h4
  have h5 := tcheck_tri [0, 1] (.mk 0 1 [.mk 0 0 []])
  rw [tb4] at h5
  have h6 := signature_tri (g := [0, 1])
  rw [tb6] at h6
  refine tri_enter Try.func52 rfl Try.ntmps52 (by simp only [List.length_cons, List.length_nil]; omega) fun w0 h0 k hrd hwr => ?_
  repeat' (first | refine awp_seq_k fun K hK => ?_ | ((first | refine awp_region_k (by kernel_rfl) fun R hR => ?_ | refine awp_draw mixed (by kernel_rfl) (by kernel_rfl) fun R hR => ?_); simp only [go_sem, eq_self, beq_self_eq_true, tb7, Int.toNat_zero]) | ((first | (refine hR _ ?_; clear hR R) | refine awp_skip ?_ | refine awp_exit ?_ | refine awp_ret ?_); try simp only [thenA, inBlockA, reduceIte, reduceCtorEq, Nat.reduceEqDiff, if_false, if_true]) | ((first | refine hK _ ?_ | (clear hK K; first | refine hK _ ?_ | (clear hK K; first | refine hK _ ?_ | (clear hK K; first | refine hK _ ?_ | (clear hK K; refine hK _ ?_))))); clear hK K) | refine awp_true rfl rfl ?_ | refine awp_false rfl rfl ?_ | refine awp_block ?_ | ((first | refine CallK.pure (enter66) (fn_tri 0 []) ?_ ?_ | refine CallD.pure (enter66) (fn_tri 0 []) ?_ ?_); (focus first | ((repeat (first | exact trivial | refine ⟨(by first | exact Or.inl rfl | exact Or.inr rfl), ?_⟩)); done) | (simp only [coL, AV.dat, true_or, or_true, AV.d.injEq, go_sem]; done)); simp only [go_sem, eq_self, beq_self_eq_true, tb7, Int.toNat_zero]) | ((first | refine CallK.pure (enter66) (fn_tri 1 [.mk 2 0 []]) ?_ ?_ | refine CallD.pure (enter66) (fn_tri 1 [.mk 2 0 []]) ?_ ?_); (focus first | ((repeat (first | exact trivial | refine ⟨(by first | exact Or.inl rfl | exact Or.inr rfl), ?_⟩)); done) | (simp only [coL, AV.dat, true_or, or_true, AV.d.injEq, go_sem]; done)); simp only [go_sem, eq_self, beq_self_eq_true, tb7, Int.toNat_zero]) | ((first | refine CallK.pure (enter66) (fn_tri 1 [.mk 0 0 []]) ?_ ?_ | refine CallD.pure (enter66) (fn_tri 1 [.mk 0 0 []]) ?_ ?_); (focus first | ((repeat (first | exact trivial | refine ⟨(by first | exact Or.inl rfl | exact Or.inr rfl), ?_⟩)); done) | (simp only [coL, AV.dat, true_or, or_true, AV.d.injEq, go_sem]; done)); simp only [go_sem, eq_self, beq_self_eq_true, tb7, Int.toNat_zero]) | ((first | refine CallK.pure (enter65) (small_tri) ?_ ?_ | refine CallD.pure (enter65) (small_tri) ?_ ?_ | refine CallK.pure (enter67) (va_tri 2) ?_ ?_ | refine CallD.pure (enter67) (va_tri 2) ?_ ?_ | refine CallK.pure (enter58) (h1) ?_ ?_ | refine CallD.pure (enter58) (h1) ?_ ?_ | refine CallK.pure (enter48) (h2) ?_ ?_ | refine CallD.pure (enter48) (h2) ?_ ?_ | refine CallK.pure (enter49) (h3) ?_ ?_ | refine CallD.pure (enter49) (h3) ?_ ?_ | refine CallK.pure (enter47) (h4) ?_ ?_ | refine CallD.pure (enter47) (h4) ?_ ?_ | refine CallK.pure (enter55) (h5) ?_ ?_ | refine CallD.pure (enter55) (h5) ?_ ?_ | refine CallK.pure (enter53) (h6) ?_ ?_ | refine CallD.pure (enter53) (h6) ?_ ?_); (focus first | ((repeat (first | exact trivial | refine ⟨(by first | exact Or.inl rfl | exact Or.inr rfl), ?_⟩)); done) | (simp only [coL, AV.dat, true_or, or_true, AV.d.injEq, go_sem]; done)); simp only [go_sem, eq_self, beq_self_eq_true, tb7, Int.toNat_zero]) | refine And.intro (by first | ((repeat' first | omega | exact trivial | rfl | assumption | (intro a e; subst e; rfl) | exact map_sz fun a => (by simp only [go_sem]) | refine And.intro ?_ ?_); done) | fail) ?_ | fail)
  (first | refine ret_pure ?_ ?_ ?_ | refine ret_ro ?_ ?_ ?_); focus exact (by simp only [Try.results52, resOkL, resOk, Try.ntmps52, List.toList_toArray]; first | decide | (simp only [go_sem]; done) | (simp only [go_sem]; and_intros <;> first | omega | rfl | decide))
  rotate_left; focus exact (by repeat (first | exact Fr.rfl' _ _ | assumption | refine Fr.updk ?_ (by omega) _))
  simp only [resA, resV, Try.results52, go_sem]
  all_goals try (first | exact Co.t2 (.dat rfl) (.dat rfl) | exact Co.t3 (.dat rfl) (.dat rfl) (.dat rfl))
  exact .dat rfl
end Go.Proofs.Ytmeekpinkfpnhaa
namespace Go.Proofs.Ytmeekpinkfpnhaa
open Go.RowKit
theorem own_of {g : List Int} {t : Tm} (h1 : count t 120 ≤ 120) (h2 : form g t = 0) : own g t = 0 := by
  unfold own; rw [if_neg (by omega)]; exact h2
theorem allOk_of {g : List Int} {l : List Tm} (h1 : sigOk g = 0) (h2 : ∀ t ∈ l, own g t = 0) : allOk g l = 0 := by
  unfold allOk
  rw [if_neg (by simp [h1])]
  induction l with
  | nil => rfl
  | cons x xs ih => rw [ownL, if_neg (by simp [h2 x (by simp)])]; exact ih fun t ht => h2 t (by simp [ht])
theorem at_zero {g : List Int} {t : Tm} {p : List Int} (h : (atAns g t p).2 = 0) : ∃ x, atG t p = some x ∧ atAns g t p = (x, 0) ∧ sigOk g = 0 ∧ own g t = 0 := by
  unfold atAns at h ⊢
  by_cases h0 : allOk g [t] = 0
  · rw [if_neg (by simp [h0])] at h ⊢
    cases hx : atG t p with
    | none =>
      have ha : atA t p = (tm0, false) := by unfold atA; rw [hx]
      rw [ha, if_neg (by simp)] at h; simp at h
    | some x =>
      have ha : atA t p = (x, true) := by unfold atA; rw [hx]
      obtain ⟨k1, k2⟩ := allOk_own h0
      exact ⟨x, rfl, by rw [ha, if_pos rfl], k1, k2 t (by simp)⟩
  · rw [if_pos h0] at h; exact absurd h h0
theorem at_of {g : List Int} {t x : Tm} {p : List Int} (h1 : sigOk g = 0) (h2 : own g t = 0) (h : atG t p = some x) : atAns g t p = (x, 0) := by
  have ha : atA t p = (x, true) := by unfold atA; rw [h]
  unfold atAns
  rw [if_neg (by rw [allOk_of h1 (by simpa using h2)]; simp), ha, if_pos rfl]
theorem put_of {g : List Int} {t u x : Tm} {p : List Int} (h1 : sigOk g = 0) (h2 : own g t = 0) (h3 : own g u = 0) (h : atG t p = some x) (hc : count (layG t p u) 120 ≤ 120) : putAns g t p u = (layG t p u, 0) := by
  have ha : atA t p = (x, true) := by unfold atA; rw [h]
  unfold putAns
  rw [if_neg (by rw [allOk_of h1 (by simp [h2, h3])]; simp), ha, if_pos rfl, if_neg (by omega)]
theorem put_zero {g : List Int} {t u x : Tm} {p : List Int} (hx : atG t p = some x) (h : (putAns g t p u).2 = 0) : putAns g t p u = (layG t p u, 0) ∧ own g u = 0 ∧ count (layG t p u) 120 ≤ 120 := by
  unfold putAns at h ⊢
  have ha : atA t p = (x, true) := by unfold atA; rw [hx]
  by_cases h0 : allOk g [t, u] = 0
  · rw [if_neg (by simp [h0]), ha, if_pos rfl] at h ⊢
    by_cases hc : count (layG t p u) 120 > 120
    · rw [if_pos hc] at h; simp at h
    · rw [if_neg hc]
      exact ⟨rfl, (allOk_own h0).2 u (by simp), by omega⟩
  · rw [if_pos h0] at h; exact absurd h h0
theorem at_in : ∀ (p : List Int) (t x : Tm), atG t p = some x → x ∈ parts t := fun p t x h => at_parts p t x h x (parts_self x)
set_option maxHeartbeats 4000000 in
set_option maxRecDepth 20000 in
theorem termBack_tri (g : List Int) (t : Tm) (p : List Int) (u : Tm) (hp : p.length ≤ 4000000) : Tri Try.prog 12 [.d (sgDV g), .d (tmDV t), .d (.sl (p.map iD)), .d (tmDV u)] (pure' (bA true)) := by
  have v1 := at_tri g t p hp
  have v2 := put_tri g t p u hp
  refine tri_enter Try.func12 rfl Try.ntmps12 (by simp only [List.length_cons, List.length_nil]; omega) fun w0 h0 k hrd hwr => ?_
  cases he : ((atAns g t p).2 != 0) with
  | true =>
    repeat' (first | refine awp_seq_k fun K hK => ?_ | ((first | refine awp_region_k (by kernel_rfl) fun R hR => ?_ | refine awp_draw mixed (by kernel_rfl) (by kernel_rfl) fun R hR => ?_); simp only [go_sem, he]) | ((first | (refine hR _ ?_; clear hR R) | refine awp_skip ?_ | refine awp_exit ?_ | refine awp_ret ?_); try simp only [thenA, inBlockA, reduceIte, reduceCtorEq, Nat.reduceEqDiff, if_false, if_true]) | ((first | refine hK _ ?_ | (clear hK K; first | refine hK _ ?_ | (clear hK K; first | refine hK _ ?_ | (clear hK K; first | refine hK _ ?_ | (clear hK K; refine hK _ ?_))))); clear hK K) | refine awp_true rfl rfl ?_ | refine awp_false rfl rfl ?_ | refine awp_block ?_ | ((first | refine CallK.pure (enter52) (termBegun_tri) ?_ ?_ | refine CallD.pure (enter52) (termBegun_tri) ?_ ?_ | refine CallK.pure (enter57) (v1) ?_ ?_ | refine CallD.pure (enter57) (v1) ?_ ?_ | refine CallK.pure (enter58) (v2) ?_ ?_ | refine CallD.pure (enter58) (v2) ?_ ?_); (focus first | ((repeat (first | exact trivial | refine ⟨(by first | exact Or.inl rfl | exact Or.inr rfl), ?_⟩)); done) | (simp only [coL, AV.dat, true_or, or_true, AV.d.injEq, go_sem]; done)); simp only [go_sem, he]) | refine And.intro (by first | ((repeat' first | omega | exact trivial | rfl | assumption | (intro a e; subst e; rfl) | exact map_sz fun a => (by simp only [go_sem]) | refine And.intro ?_ ?_); done) | fail) ?_ | fail)
    (first | refine ret_pure ?_ ?_ ?_ | refine ret_ro ?_ ?_ ?_); focus exact (by simp only [Try.results12, resOkL, resOk, Try.ntmps12, List.toList_toArray]; first | decide | (simp only [go_sem]; done) | (simp only [go_sem]; and_intros <;> first | omega | rfl | decide))
    rotate_left; focus exact (by repeat (first | exact Fr.rfl' _ _ | assumption | refine Fr.updk ?_ (by omega) _))
    simp only [resA, resV, Try.results12, go_sem]
    all_goals try (first | exact Co.t2 (.dat rfl) (.dat rfl) | exact Co.t3 (.dat rfl) (.dat rfl) (.dat rfl))
    exact .dat rfl
  | false =>
    cases hf : ((putAns g t p u).2 != 0) with
    | true =>
      repeat' (first | refine awp_seq_k fun K hK => ?_ | ((first | refine awp_region_k (by kernel_rfl) fun R hR => ?_ | refine awp_draw mixed (by kernel_rfl) (by kernel_rfl) fun R hR => ?_); simp only [go_sem, he, hf]) | ((first | (refine hR _ ?_; clear hR R) | refine awp_skip ?_ | refine awp_exit ?_ | refine awp_ret ?_); try simp only [thenA, inBlockA, reduceIte, reduceCtorEq, Nat.reduceEqDiff, if_false, if_true]) | ((first | refine hK _ ?_ | (clear hK K; first | refine hK _ ?_ | (clear hK K; first | refine hK _ ?_ | (clear hK K; first | refine hK _ ?_ | (clear hK K; refine hK _ ?_))))); clear hK K) | refine awp_true rfl rfl ?_ | refine awp_false rfl rfl ?_ | refine awp_block ?_ | ((first | refine CallK.pure (enter52) (termBegun_tri) ?_ ?_ | refine CallD.pure (enter52) (termBegun_tri) ?_ ?_ | refine CallK.pure (enter57) (v1) ?_ ?_ | refine CallD.pure (enter57) (v1) ?_ ?_ | refine CallK.pure (enter58) (v2) ?_ ?_ | refine CallD.pure (enter58) (v2) ?_ ?_); (focus first | ((repeat (first | exact trivial | refine ⟨(by first | exact Or.inl rfl | exact Or.inr rfl), ?_⟩)); done) | (simp only [coL, AV.dat, true_or, or_true, AV.d.injEq, go_sem]; done)); simp only [go_sem, he, hf]) | refine And.intro (by first | ((repeat' first | omega | exact trivial | rfl | assumption | (intro a e; subst e; rfl) | exact map_sz fun a => (by simp only [go_sem]) | refine And.intro ?_ ?_); done) | fail) ?_ | fail)
      (first | refine ret_pure ?_ ?_ ?_ | refine ret_ro ?_ ?_ ?_); focus exact (by simp only [Try.results12, resOkL, resOk, Try.ntmps12, List.toList_toArray]; first | decide | (simp only [go_sem]; done) | (simp only [go_sem]; and_intros <;> first | omega | rfl | decide))
      rotate_left; focus exact (by repeat (first | exact Fr.rfl' _ _ | assumption | refine Fr.updk ?_ (by omega) _))
      simp only [resA, resV, Try.results12, go_sem]
      all_goals try (first | exact Co.t2 (.dat rfl) (.dat rfl) | exact Co.t3 (.dat rfl) (.dat rfl) (.dat rfl))
      exact .dat rfl
    | false =>
      obtain ⟨x, hx, a1, a2, a3⟩ := at_zero (show (atAns g t p).2 = 0 by simpa using he)
      obtain ⟨b1, b2, b3⟩ := put_zero hx (show (putAns g t p u).2 = 0 by simpa using hf)
      obtain ⟨c1, c2⟩ := own_form a3
      have hl : own g (layG t p u) = 0 := own_of b3 (lay_form g p t u x hx c1 (own_form b2).1)
      have hxo : own g x = 0 := by
        have hin := at_in p t x hx
        have hsz := atG_size p t x hx
        have hts := count_cap.1 c2
        exact own_of (count_cap.2 (by omega)) (form_part c1 hin)
      have v3 := at_tri g (layG t p u) p hp
      rw [at_of a2 hl (at_lay p t u x hx)] at v3
      have v4 := put_tri g (layG t p u) p x hp
      rw [put_of a2 hl hxo (at_lay p t u x hx) (by rw [lay_back p t u x hx]; exact c2), lay_back p t u x hx] at v4
      rw [a1] at v1
      rw [b1] at v2
      have w1 := sameR_tri u u
      have w2 := sameR_tri t t
      rw [same_rfl] at w1 w2
      repeat' (first | refine awp_seq_k fun K hK => ?_ | ((first | refine awp_region_k (by kernel_rfl) fun R hR => ?_ | refine awp_draw mixed (by kernel_rfl) (by kernel_rfl) fun R hR => ?_); simp only [go_sem, beq_self_eq_true, bne_self_eq_false]) | ((first | (refine hR _ ?_; clear hR R) | refine awp_skip ?_ | refine awp_exit ?_ | refine awp_ret ?_); try simp only [thenA, inBlockA, reduceIte, reduceCtorEq, Nat.reduceEqDiff, if_false, if_true]) | ((first | refine hK _ ?_ | (clear hK K; first | refine hK _ ?_ | (clear hK K; first | refine hK _ ?_ | (clear hK K; first | refine hK _ ?_ | (clear hK K; refine hK _ ?_))))); clear hK K) | refine awp_true rfl rfl ?_ | refine awp_false rfl rfl ?_ | refine awp_block ?_ | ((first | refine CallK.pure (enter57) (v1) ?_ ?_ | refine CallD.pure (enter57) (v1) ?_ ?_); (focus first | ((repeat (first | exact trivial | refine ⟨(by first | exact Or.inl rfl | exact Or.inr rfl), ?_⟩)); done) | (simp only [coL, AV.dat, true_or, or_true, AV.d.injEq, go_sem]; done)); simp only [go_sem, beq_self_eq_true, bne_self_eq_false]) | ((first | refine CallK.pure (enter58) (v2) ?_ ?_ | refine CallD.pure (enter58) (v2) ?_ ?_); (focus first | ((repeat (first | exact trivial | refine ⟨(by first | exact Or.inl rfl | exact Or.inr rfl), ?_⟩)); done) | (simp only [coL, AV.dat, true_or, or_true, AV.d.injEq, go_sem]; done)); simp only [go_sem, beq_self_eq_true, bne_self_eq_false]) | ((first | refine CallK.pure (enter57) (v3) ?_ ?_ | refine CallD.pure (enter57) (v3) ?_ ?_); (focus first | ((repeat (first | exact trivial | refine ⟨(by first | exact Or.inl rfl | exact Or.inr rfl), ?_⟩)); done) | (simp only [coL, AV.dat, true_or, or_true, AV.d.injEq, go_sem]; done)); simp only [go_sem, beq_self_eq_true, bne_self_eq_false]) | ((first | refine CallK.pure (enter58) (v4) ?_ ?_ | refine CallD.pure (enter58) (v4) ?_ ?_); (focus first | ((repeat (first | exact trivial | refine ⟨(by first | exact Or.inl rfl | exact Or.inr rfl), ?_⟩)); done) | (simp only [coL, AV.dat, true_or, or_true, AV.d.injEq, go_sem]; done)); simp only [go_sem, beq_self_eq_true, bne_self_eq_false]) | ((first | refine CallK.pure (enter47) (w1) ?_ ?_ | refine CallD.pure (enter47) (w1) ?_ ?_); (focus first | ((repeat (first | exact trivial | refine ⟨(by first | exact Or.inl rfl | exact Or.inr rfl), ?_⟩)); done) | (simp only [coL, AV.dat, true_or, or_true, AV.d.injEq, go_sem]; done)); simp only [go_sem, beq_self_eq_true, bne_self_eq_false]) | ((first | refine CallK.pure (enter47) (w2) ?_ ?_ | refine CallD.pure (enter47) (w2) ?_ ?_); (focus first | ((repeat (first | exact trivial | refine ⟨(by first | exact Or.inl rfl | exact Or.inr rfl), ?_⟩)); done) | (simp only [coL, AV.dat, true_or, or_true, AV.d.injEq, go_sem]; done)); simp only [go_sem, beq_self_eq_true, bne_self_eq_false]) | ((first | refine CallK.pure (enter52) (termBegun_tri) ?_ ?_ | refine CallD.pure (enter52) (termBegun_tri) ?_ ?_); (focus first | ((repeat (first | exact trivial | refine ⟨(by first | exact Or.inl rfl | exact Or.inr rfl), ?_⟩)); done) | (simp only [coL, AV.dat, true_or, or_true, AV.d.injEq, go_sem]; done)); simp only [go_sem, beq_self_eq_true, bne_self_eq_false]) | refine And.intro (by first | ((repeat' first | omega | exact trivial | rfl | assumption | (intro a e; subst e; rfl) | exact map_sz fun a => (by simp only [go_sem]) | refine And.intro ?_ ?_); done) | fail) ?_ | fail)
      (first | refine ret_pure ?_ ?_ ?_ | refine ret_ro ?_ ?_ ?_); focus exact (by simp only [Try.results12, resOkL, resOk, Try.ntmps12, List.toList_toArray]; first | decide | (simp only [go_sem]; done) | (simp only [go_sem]; and_intros <;> first | omega | rfl | decide))
      rotate_left; focus exact (by repeat (first | exact Fr.rfl' _ _ | assumption | refine Fr.updk ?_ (by omega) _))
      simp only [resA, resV, Try.results12, go_sem]
      all_goals try (first | exact Co.t2 (.dat rfl) (.dat rfl) | exact Co.t3 (.dat rfl) (.dat rfl) (.dat rfl))
      exact .dat rfl
theorem termBack_law (g : List Int) (t : Tm) (p : List Int) (u : Tm) (_ : True) (_ : True) (_ : True) (_ : True) (hb : (g.length + 1) + t.size + (p.length + 1) + u.size ≤ 1048576) : Tri Try.prog 12 [.d (sgDV g), .d (tmDV t), .d (.sl (p.map iD)), .d (tmDV u)] (pure' (bA true)) := termBack_tri g t p u (by omega)
end Go.Proofs.Ytmeekpinkfpnhaa
