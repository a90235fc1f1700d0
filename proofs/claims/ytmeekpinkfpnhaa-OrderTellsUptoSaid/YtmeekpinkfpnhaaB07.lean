/- superposeref.PartsOf. superposeref.GreaterOf: what is plain. superposeref.GreaterOf: the end of a round. superposeref.GreaterOf: a round. superposeref.GreaterOf: a round, from its beginning. -/
import Derived.Test.YtmeekpinkfpnhaaB06
set_option linter.unusedSimpArgs false
set_option linter.unusedSectionVars false
set_option linter.unusedVariables false
set_option linter.unnecessarySimpa false
set_option linter.all false
namespace Go.Proofs.Ytmeekpinkfpnhaa
open Go.RowKit
set_option linter.unusedSimpArgs false
set_option linter.unusedSectionVars false

def PartsSpec' (t : Tm) : Prop := t.fits → ∀ (n : Nm) (l : List Tm), l.length + (parts t).length ≤ 4000000 →
  Tri Try.prog 63 [.own n (l.map tmDV), .d (tmDV t)] (ownEff 27 n (l.map tmDV) ((l ++ parts t).map tmDV))
theorem partsOf_step (t : Tm) (ih : ∀ u ∈ t.us, PartsSpec' u) : PartsSpec' t := by
  intro hft n l hsz
  have hlen := Tm.fits_len hft
  have hp2 := parts_eq t
  have hp3 : (parts t).length = (partsL t.us).length + 1 := by rw [hp2]; simp
  refine tri_enter Try.func63 rfl Try.ntmps63 (by simp only [List.length_cons, List.length_nil]; omega) fun w0 h0 k hrd hwr => ?_
  have hn : h0 n = some (.perm 27 (l.map tmDV).length) := hrd (n, _) (by simp [ownEff])
  have hnk : n.1 < k := hwr (n, _) (by simp only [ownEff, List.mem_cons, List.not_mem_nil, or_false]; rfl)
  have hne := nmne hnk
  rw [List.length_map] at hn
  repeat' (first
    | refine awp_seq_k fun K hK => ?_
    | (refine awp_region_k (by kernel_rfl) fun R hR => ?_; simp only [go_sem, hne])
    | (refine awp_draw mixed (by kernel_rfl) (by kernel_rfl) fun R hR => ?_; simp only [go_sem, hne])
    | (refine hR _ ?_; clear hR R; try simp only [thenA, inBlockA, reduceIte, reduceCtorEq, Nat.reduceEqDiff, if_false, if_true])
    | (refine hK _ ?_; clear hK K)
    | (clear hK K; refine hK _ ?_; clear hK K)
    | (clear hK K; clear hK K; refine hK _ ?_; clear hK K)
    | (clear hK K; clear hK K; clear hK K; refine hK _ ?_; clear hK K)
    | (clear hK K; clear hK K; clear hK K; clear hK K; refine hK _ ?_; clear hK K)
    | refine awp_true rfl rfl ?_
    | refine awp_false rfl rfl ?_
    | (refine awp_cond rfl rfl (fun hc => ?_) (fun hc => ?_) <;> (try simp only [go_sem, hne] at hc) <;> (try (exfalso; omega)))
    | refine awp_block ?_
    | (refine awp_skip ?_; try simp only [thenA, inBlockA, reduceIte, reduceCtorEq, Nat.reduceEqDiff, if_false, if_true])
    | (refine awp_exit ?_; try simp only [thenA, inBlockA, reduceIte, reduceCtorEq, Nat.reduceEqDiff, if_false, if_true])
    | (refine awp_ret ?_; try simp only [thenA, inBlockA, reduceIte, reduceCtorEq, Nat.reduceEqDiff, if_false, if_true])
    | (refine runL_split ?_ (fun hc => ?_) (fun hc => ?_); (simp only [go_sem, hne]; exact rfl); all_goals (try simp only [go_sem, hc, hne]); all_goals (try simp only [go_sem, hne] at hc); all_goals (try (exfalso; omega)))
    | (refine runD_split ?_ (fun hc => ?_) (fun hc => ?_); (simp only [go_sem, hne]; exact rfl); all_goals (try simp only [go_sem, hc, hne]); all_goals (try simp only [go_sem, hne] at hc); all_goals (try (exfalso; omega)))
    | refine And.intro (by first | omega | exact trivial | rfl | assumption | (apply map_sz; intro a; simp only [go_sem]; done) | ((and_intros <;> first | omega | exact trivial | rfl | assumption | (apply map_sz; intro a; simp only [go_sem]; done) | fail); done) | fail) ?_
    | fail)
  refine awp_loop (fun s => ∃ (i : Nat), s.t 0 = .own n ((l ++ partsL (t.us.take i)).map tmDV) ∧ s.t 3 = .ptr (k, 0) 0 ∧ s.t 5 = iA i ∧ s.h (k, 0) = some (.cells 27 [iA t.v, iA t.f, .d (.sl (t.us.map tmDV))]) ∧
    s.h n = some (.perm 27 (l ++ partsL (t.us.take i)).length) ∧ FrX k n h0 s.h ∧ k < s.k ∧ i ≤ t.us.length) (fun s => t.us.length - (intOf' (s.t 5)).toNat) ?_ ?_
  · refine ⟨0, ?_⟩
    simp only [go_sem, hne, hn, partsL, List.take_zero, List.append_nil]
    and_intros; all_goals try (first | rfl | omega | assumption | ((repeat (first | exact Fr.rfl' _ _ | assumption | refine Fr.updk ?_ (by omega) _)); done))
    exact FrX.updk (FrX.rfl' _ _ _) (by omega) _
  · rintro s ⟨i, s0, s3, s5, sh, sn, hfr, hk, hi⟩
    have hne' := nmne (show n.1 < s.k by omega)
    rcases Nat.lt_or_ge i t.us.length with hlt | hge
    · have e1 := nth_map tmDV hlt default
      have hz : (i : Int) < (t.us.length : Int) := by omega
      have hp := partsL_at hlt
      repeat' (first
        | refine awp_seq_k fun K hK => ?_
        | (refine awp_region_k (by kernel_rfl) fun R hR => ?_; simp only [go_sem, s0, s3, s5, sh, sn, e1, hz, hne, hne', Int.toNat_natCast])
        | (refine awp_draw mixed (by kernel_rfl) (by kernel_rfl) fun R hR => ?_; simp only [go_sem, s0, s3, s5, sh, sn, e1, hz, hne, hne', Int.toNat_natCast])
        | (refine hR _ ?_; clear hR R; try simp only [thenA, inBlockA, reduceIte, reduceCtorEq, Nat.reduceEqDiff, if_false, if_true])
        | (refine hK _ ?_; clear hK K)
        | (clear hK K; refine hK _ ?_; clear hK K)
        | (clear hK K; clear hK K; refine hK _ ?_; clear hK K)
        | (clear hK K; clear hK K; clear hK K; refine hK _ ?_; clear hK K)
        | (clear hK K; clear hK K; clear hK K; clear hK K; refine hK _ ?_; clear hK K)
        | refine awp_true rfl rfl ?_
        | refine awp_false rfl rfl ?_
        | (refine awp_cond rfl rfl (fun hc => ?_) (fun hc => ?_) <;> (try simp only [go_sem, s0, s3, s5, sh, sn, e1, hz, hne, hne', Int.toNat_natCast] at hc) <;> (try (exfalso; omega)))
        | refine awp_block ?_
        | (refine awp_skip ?_; try simp only [thenA, inBlockA, reduceIte, reduceCtorEq, Nat.reduceEqDiff, if_false, if_true])
        | (refine awp_exit ?_; try simp only [thenA, inBlockA, reduceIte, reduceCtorEq, Nat.reduceEqDiff, if_false, if_true])
        | (refine awp_ret ?_; try simp only [thenA, inBlockA, reduceIte, reduceCtorEq, Nat.reduceEqDiff, if_false, if_true])
        | (refine runL_split ?_ (fun hc => ?_) (fun hc => ?_); (simp only [go_sem, s0, s3, s5, sh, sn, e1, hz, hne, hne', Int.toNat_natCast]; exact rfl); all_goals (try simp only [go_sem, hc, s0, s3, s5, sh, sn, e1, hz, hne, hne', Int.toNat_natCast]); all_goals (try simp only [go_sem, s0, s3, s5, sh, sn, e1, hz, hne, hne', Int.toNat_natCast] at hc); all_goals (try (exfalso; omega)))
        | (refine runD_split ?_ (fun hc => ?_) (fun hc => ?_); (simp only [go_sem, s0, s3, s5, sh, sn, e1, hz, hne, hne', Int.toNat_natCast]; exact rfl); all_goals (try simp only [go_sem, hc, s0, s3, s5, sh, sn, e1, hz, hne, hne', Int.toNat_natCast]); all_goals (try simp only [go_sem, s0, s3, s5, sh, sn, e1, hz, hne, hne', Int.toNat_natCast] at hc); all_goals (try (exfalso; omega)))
        | (first | (refine CallK.eff (enter63) (ih _ (List.getElem_mem hlt) (Tm.fits_at hft hlt) n (l ++ partsL (t.us.take i)) (by rw [List.length_append]; omega)) ?_ ?_ ?_ ?_; (focus first | ((repeat (first | exact trivial | refine ⟨(by first | exact Or.inl rfl | exact Or.inr rfl), ?_⟩)); done) | (simp only [coL, AV.dat, true_or, or_true, AV.d.injEq, go_sem]; done)); (focus (simp only [go_sem, s0, s3, s5, sh, sn, e1, hz, hne, hne', Int.toNat_natCast]; done)); (focus (simp only [go_sem, s0, s3, s5, sh, sn, e1, hz, hne, hne', Int.toNat_natCast]; done)); simp only [go_sem, s0, s3, s5, sh, sn, e1, hz, hne, hne', Int.toNat_natCast]) | (refine CallD.eff (enter63) (ih _ (List.getElem_mem hlt) (Tm.fits_at hft hlt) n (l ++ partsL (t.us.take i)) (by rw [List.length_append]; omega)) ?_ ?_ ?_ ?_; (focus first | ((repeat (first | exact trivial | refine ⟨(by first | exact Or.inl rfl | exact Or.inr rfl), ?_⟩)); done) | (simp only [coL, AV.dat, true_or, or_true, AV.d.injEq, go_sem]; done)); (focus (simp only [go_sem, s0, s3, s5, sh, sn, e1, hz, hne, hne', Int.toNat_natCast]; done)); (focus (simp only [go_sem, s0, s3, s5, sh, sn, e1, hz, hne, hne', Int.toNat_natCast]; done)); simp only [go_sem, s0, s3, s5, sh, sn, e1, hz, hne, hne', Int.toNat_natCast]))
        | refine And.intro (by first | omega | exact trivial | rfl | assumption | (apply map_sz; intro a; simp only [go_sem]; done) | ((and_intros <;> first | omega | exact trivial | rfl | assumption | (apply map_sz; intro a; simp only [go_sem]; done) | fail); done) | fail) ?_
        | fail)
      refine ⟨⟨i + 1, ?_⟩, ?_⟩
      rotate_left
      · simp only [go_sem, s0, s3, s5, sh, sn, hne, hne', partsL_take hlt]; omega
      simp only [go_sem, s0, s3, s5, sh, sn, hne, hne', partsL_take hlt]
      and_intros; all_goals try (first | rfl | omega | assumption | ((repeat (first | exact Fr.rfl' _ _ | assumption | refine Fr.updk ?_ (by omega) _)); done))
      exact FrX.updn hfr _
    · have hz : ¬ ((i : Int) < (t.us.length : Int)) := by omega
      obtain rfl : i = t.us.length := by omega
      have e2 : partsL (List.take t.us.length t.us) = partsL t.us := by rw [List.take_length]
      rw [e2] at s0 sn
      have hl : (l ++ partsL t.us).length ≤ 16777215 := by rw [List.length_append]; omega
      repeat' (first
        | refine awp_seq_k fun K hK => ?_
        | (refine awp_region_k (by kernel_rfl) fun R hR => ?_; simp only [go_sem, s0, s3, s5, sh, sn, hz, hne, hne'])
        | (refine awp_draw mixed (by kernel_rfl) (by kernel_rfl) fun R hR => ?_; simp only [go_sem, s0, s3, s5, sh, sn, hz, hne, hne'])
        | (refine hR _ ?_; clear hR R; try simp only [thenA, inBlockA, reduceIte, reduceCtorEq, Nat.reduceEqDiff, if_false, if_true])
        | (refine hK _ ?_; clear hK K)
        | (clear hK K; refine hK _ ?_; clear hK K)
        | (clear hK K; clear hK K; refine hK _ ?_; clear hK K)
        | (clear hK K; clear hK K; clear hK K; refine hK _ ?_; clear hK K)
        | (clear hK K; clear hK K; clear hK K; clear hK K; refine hK _ ?_; clear hK K)
        | refine awp_true rfl rfl ?_
        | refine awp_false rfl rfl ?_
        | (refine awp_cond rfl rfl (fun hc => ?_) (fun hc => ?_) <;> (try simp only [go_sem, s0, s3, s5, sh, sn, hz, hne, hne'] at hc) <;> (try (exfalso; omega)))
        | refine awp_block ?_
        | (refine awp_skip ?_; try simp only [thenA, inBlockA, reduceIte, reduceCtorEq, Nat.reduceEqDiff, if_false, if_true])
        | (refine awp_exit ?_; try simp only [thenA, inBlockA, reduceIte, reduceCtorEq, Nat.reduceEqDiff, if_false, if_true])
        | (refine awp_ret ?_; try simp only [thenA, inBlockA, reduceIte, reduceCtorEq, Nat.reduceEqDiff, if_false, if_true])
        | (refine runL_split ?_ (fun hc => ?_) (fun hc => ?_); (simp only [go_sem, s0, s3, s5, sh, sn, hz, hne, hne']; exact rfl); all_goals (try simp only [go_sem, hc, s0, s3, s5, sh, sn, hz, hne, hne']); all_goals (try simp only [go_sem, s0, s3, s5, sh, sn, hz, hne, hne'] at hc); all_goals (try (exfalso; omega)))
        | (refine runD_split ?_ (fun hc => ?_) (fun hc => ?_); (simp only [go_sem, s0, s3, s5, sh, sn, hz, hne, hne']; exact rfl); all_goals (try simp only [go_sem, hc, s0, s3, s5, sh, sn, hz, hne, hne']); all_goals (try simp only [go_sem, s0, s3, s5, sh, sn, hz, hne, hne'] at hc); all_goals (try (exfalso; omega)))
        | refine And.intro (by first | omega | exact trivial | rfl | assumption | (apply map_sz; intro a; simp only [go_sem]; done) | ((and_intros <;> first | omega | exact trivial | rfl | assumption | (apply map_sz; intro a; simp only [go_sem]; done) | fail); done) | fail) ?_
        | fail)
      refine ret_own (by simp only [Try.results63, resOkL, resOk, Try.ntmps63, List.toList_toArray]; decide) ?_ (by assumption) ?_ ?_
      all_goals simp only [resA, resV, Try.results63, go_sem, hne, hne', e2, hp2]
      · simp
      · simp
      · exact FrX.updn (FrX.updk hfr (by omega) _) _
theorem partsOf_tri (t : Tm) : PartsSpec' t := Tm.ind partsOf_step t
theorem partsOf_new (t : Tm) (hft : t.fits) (hsz : (parts t).length ≤ 4000000) (n' : Nm) : Tri Try.prog 63 [.nil, .d (tmDV t)] (newEff 27 n' ((parts t).map tmDV)) :=
  Tri.grown (pre := []) (fun n => by have := partsOf_tri t hft n [] (by simpa using hsz); simpa using this) n'
theorem partsOf_data (t : Tm) (hft : t.fits) (hsz : (parts t).length ≤ 4000000) : Tri Try.prog 63 [.nil, .d (tmDV t)] (pure' (.d (.sl ((parts t).map tmDV)))) := Tri.data fun n' => partsOf_new t hft hsz n'
end Go.Proofs.Ytmeekpinkfpnhaa

namespace Go.Proofs.Ytmeekpinkfpnhaa
open Go.RowKit

/-- The number of an argument: of a part ahead. -/
theorem argsOf_nat (t : Tm) {i : Nat} (hi : i < (argsOf t).length) {m : Nat} (hm : m < (argsOf t)[i].length) : ∃ j : Nat, (argsOf t)[i][m] = (j : Int) ∧ j < i := by
  have hi' : i < (pn t 0).length := by simpa [argsOf] using hi
  obtain ⟨h1, h2⟩ := pn_well0 t i hi' _ (List.getElem?_eq_getElem hi')
  have e : (argsOf t)[i] = (pn t 0)[i].2 := by simp [argsOf]
  have hm' : m < (pn t 0)[i].1.us.length := by rw [← h1, ← e]; exact hm
  obtain ⟨j, h3, h4, _⟩ := h2 m _ (List.getElem?_eq_getElem hm')
  refine ⟨j, ?_, h4⟩
  have h5 : (argsOf t)[i][m]? = some (j : Int) := by rw [e]; exact h3
  rw [List.getElem?_eq_getElem hm] at h5
  exact Option.some.inj h5
mutual
theorem parts_size : ∀ (t u : Tm), u ∈ parts t → u.size ≤ t.size
  | .mk v f us, u, h => by
    rw [parts, List.mem_append] at h
    rcases h with h | h
    · have := partsL_size us u h; simp only [Tm.size]; omega
    · rw [List.mem_singleton.1 h]; exact Nat.le_refl _
theorem partsL_size : ∀ (us : List Tm) (u : Tm), u ∈ partsL us → u.size ≤ Tm.size.sizes us
  | [], _, h => by simp [partsL] at h
  | x :: xs, u, h => by
    rw [partsL, List.mem_append] at h
    simp only [Tm.size.sizes]
    rcases h with h | h
    · have := parts_size x u h; omega
    · have := partsL_size xs u h; omega
end
theorem argsOf_fits (t : Tm) (hft : t.fits) {i : Nat} (hi : i < (argsOf t).length) : (argsOf t)[i].length ≤ 4000000 := by
  rw [argsOf_at t hi]
  have := parts_size t _ (List.getElem_mem (by rw [← argsOf_len]; exact hi))
  have h2 := Tm.len_lt ((parts t)[i]'(by rw [← argsOf_len]; exact hi))
  unfold Tm.fits at hft
  omega
/-- Is one part greater than the other? by their numbers. -/
def gtN (ps pt : List Tm) (p : Int × Int) : Bool := match ps[p.1.toNat]?, pt[p.2.toNat]? with
  | some x, some y => gt x y
  | _, _ => false
theorem gtN_at {ps pt : List Tm} {a b : Nat} (ha : a < ps.length) (hb : b < pt.length) : gtN ps pt (a, b) = gt ps[a] pt[b] := by
  simp [gtN, ha, hb]
/-- What is found out for a pair. -/
def grN (s t : Tm) (i j : Nat) : Bool :=
  grG (sameN (parts s) (parts t)) (gtN (parts s) (parts t)) ((parts s).getD i (.mk 0 0 [])).v ((parts s).getD i (.mk 0 0 [])).f ((argsOf s).getD i []) ((parts t).getD j (.mk 0 0 [])).v ((parts t).getD j (.mk 0 0 [])).f ((argsOf t).getD j []) i j
theorem grN_right {s t : Tm} {i j : Nat} (hi : i < (parts s).length) (hj : j < (parts t).length) (hv : 0 ≤ (parts s)[i].v) (hv' : 0 ≤ (parts t)[j].v) : grN s t i j = gtN (parts s) (parts t) (i, j) := by
  unfold grN
  rw [getD_at hi, getD_at hj, getD_at (by rw [argsOf_len]; exact hi), getD_at (by rw [argsOf_len]; exact hj), gtN_at hi hj]
  exact grG_right hi hj hv hv' (known_same fun a b ha hb _ => gtN_at ha hb)
/-- A row of the table, of which the first j are found out. -/
def rowA (ps pt : List Tm) (i j : Nat) : List AV := (List.range pt.length).map fun b => bA (decide (b < j) && gtN ps pt (i, b))
theorem rowA_len (ps pt : List Tm) (i j : Nat) : (rowA ps pt i j).length = pt.length := by simp [rowA]
theorem rowA_at {ps pt : List Tm} {i j b : Nat} (hb : b < j) (hj : j ≤ pt.length) : (rowA ps pt i j).getD b .junk = bA (gtN ps pt (i, b)) := by
  rw [List.getD_eq_getElem?_getD]; simp [rowA, show b < pt.length by omega, hb]
theorem rowA_0 (ps pt : List Tm) (i : Nat) : List.replicate pt.length (bA false) = rowA ps pt i 0 := by
  have : rowA ps pt i 0 = (List.range pt.length).map (fun _ => bA false) := by simp [rowA]
  rw [this, List.map_const', List.length_range]
theorem rowA_set {ps pt : List Tm} {i j : Nat} (hj : j < pt.length) : (rowA ps pt i j).set j (bA (gtN ps pt (i, j))) = rowA ps pt i (j + 1) := by
  apply List.ext_getElem?
  intro b
  rw [List.getElem?_set]
  by_cases hb : b < pt.length
  · by_cases e : j = b
    · subst e; simp [rowA, hb]
    · simp only [e, if_false]
      simp only [rowA, List.getElem?_map, List.getElem?_range hb, Option.map_some]
      have : (decide (b < j)) = decide (b < j + 1) := by simp; omega
      rw [this]
  · by_cases e : j = b
    · subst e; omega
    · simp [e, rowA, show pt.length ≤ b by omega]
/-- The table, of which the first n rows are made. -/
def tabA (nm : Nat → Nm) (N m n : Nat) : List AV := (List.range N).map fun a => if a < n then .arr (nm a) 0 m else .nil
theorem tabA_len (nm : Nat → Nm) (N m n : Nat) : (tabA nm N m n).length = N := by simp [tabA]
theorem tabA_0 (nm : Nat → Nm) (N m : Nat) : List.replicate N AV.nil = tabA nm N m 0 := by
  have : tabA nm N m 0 = (List.range N).map (fun _ => .nil) := by simp [tabA]
  rw [this, List.map_const', List.length_range]
theorem tabA_at {nm : Nat → Nm} {N m n a : Nat} (ha : a < n) (hn : n ≤ N) : (tabA nm N m n).getD a .junk = .arr (nm a) 0 m := by
  rw [List.getD_eq_getElem?_getD]; simp [tabA, show a < N by omega, ha]
theorem tabA_set {nm : Nat → Nm} {N m n : Nat} (x : Nm) (hn : n < N) : (tabA nm N m n).set n (.arr x 0 m) = tabA (fun a => if a = n then x else nm a) N m (n + 1) := by
  apply List.ext_getElem?
  intro b
  rw [List.getElem?_set]
  by_cases hb : b < N
  · by_cases e : n = b
    · subst e; simp [tabA, hb]
    · simp only [e, if_false]
      simp only [tabA, List.getElem?_map, List.getElem?_range hb, Option.map_some]
      by_cases h : b < n
      · rw [if_pos h, if_pos (show b < n + 1 by omega), if_neg (show ¬ b = n by omega)]
      · rw [if_neg h, if_neg (show ¬ b < n + 1 by omega)]
  · by_cases e : n = b
    · subst e; omega
    · simp [e, tabA, show N ≤ b by omega]
theorem tabA_congr {nm nm' : Nat → Nm} {N m n : Nat} (h : ∀ a, a < n → nm a = nm' a) : tabA nm N m n = tabA nm' N m n := by
  unfold tabA
  apply List.map_congr_left
  intro a _
  by_cases ha : a < n
  · rw [if_pos ha, if_pos ha, h a ha]
  · rw [if_neg ha, if_neg ha]
end Go.Proofs.Ytmeekpinkfpnhaa

namespace Go.Proofs.Ytmeekpinkfpnhaa
open Go.RowKit
set_option linter.unusedSimpArgs false
set_option linter.unusedSectionVars false

/-- A list of numbers la data. -/
abbrev gI (l : List Int) : DV := .sl (l.map iD)
/-- What stands while a pair is looked at. -/
structure GCx (ps pt : List Tm) (la lb : List (List Int)) (T x y : Nm) (nm : Nat → Nm) (i j : Nat) (σ : St) : Prop where
  s5 : σ.t 5 = .d (.sl (ps.map tmDV))
  s6 : σ.t 6 = .d (.sl (pt.map tmDV))
  s7 : σ.t 7 = .d (.sl (la.map gI))
  s8 : σ.t 8 = .d (.sl (lb.map gI))
  s9 : σ.t 9 = .arr T 0 ps.length
  s10 : σ.t 10 = iA i
  s11 : σ.t 11 = iA j
  s12 : σ.t 12 = .ptr x 0
  s13 : σ.t 13 = .ptr y 0
  hx : ∀ h : i < ps.length, σ.h x = some (.cells 27 [iA ps[i].v, iA ps[i].f, .d (.sl (ps[i].us.map tmDV))])
  hy : ∀ h : j < pt.length, σ.h y = some (.cells 27 [iA pt[j].v, iA pt[j].f, .d (.sl (pt[j].us.map tmDV))])
  hT : σ.h T = some (.cells 94 (tabA nm ps.length pt.length (i + 1)))
  hr : ∀ a, a < i → σ.h (nm a) = some (.cells 4 (rowA ps pt a pt.length))
  hi : σ.h (nm i) = some (.cells 4 (rowA ps pt i j))
theorem GCx.keep {ps pt : List Tm} {la lb : List (List Int)} {T x y : Nm} {nm : Nat → Nm} {i j : Nat} {σ σ' : St} (h : GCx ps pt la lb T x y nm i j σ) (hh : σ'.h = σ.h) (ht : ∀ n ∈ [5, 6, 7, 8, 9, 10, 11, 12, 13], σ'.t n = σ.t n) : GCx ps pt la lb T x y nm i j σ' := by
  obtain ⟨s5, s6, s7, s8, s9, s10, s11, s12, s13, hx, hy, hT, hr, hi⟩ := h
  simp only [List.mem_cons, List.not_mem_nil, or_false, forall_eq_or_imp, forall_eq] at ht
  obtain ⟨e5, e6, e7, e8, e9, e10, e11, e12, e13⟩ := ht
  exact ⟨e5.trans s5, e6.trans s6, e7.trans s7, e8.trans s8, e9.trans s9, e10.trans s10, e11.trans s11, e12.trans s12, e13.trans s13, fun h => by rw [hh]; exact hx h, fun h => by rw [hh]; exact hy h, by rw [hh]; exact hT, fun a ha => by rw [hh]; exact hr a ha, by rw [hh]; exact hi⟩
/-- What a round leaves. -/
structure GPost (ps pt : List Tm) (nm : Nat → Nm) (i j : Nat) (σ σ' : St) : Prop where
  t : ∀ n ∈ [2, 3, 5, 6, 7, 8, 9, 10, 11], σ'.t n = σ.t n
  k : σ.k ≤ σ'.k
  h : ∀ x, x ≠ nm i → σ'.h x = σ.h x
  hi : σ'.h (nm i) = some (.cells 4 (rowA ps pt i (j + 1)))
/-- Slots but those of the round, and objects, are as they were. -/
abbrev GKeep := Keep [2, 3, 5, 6, 7, 8, 9, 10, 11, 12, 13]
theorem Keep.cx {ps pt : List Tm} {la lb : List (List Int)} {T x y : Nm} {nm : Nat → Nm} {i j : Nat} {σ σ' : St} (h : GKeep σ σ') (hc : GCx ps pt la lb T x y nm i j σ) : GCx ps pt la lb T x y nm i j σ' :=
  hc.keep h.h fun n hn => h.t n (by simp only [List.mem_cons, List.not_mem_nil, or_false] at hn ⊢; omega)
theorem Keep.post {ps pt : List Tm} {nm : Nat → Nm} {i j : Nat} {σ σ' σ'' : St} (h : GKeep σ σ') (hp : GPost ps pt nm i j σ' σ'') : GPost ps pt nm i j σ σ'' :=
  ⟨fun n hn => (hp.t n hn).trans (h.t n (by simp only [List.mem_cons, List.not_mem_nil, or_false] at hn ⊢; omega)), Nat.le_trans h.k hp.k, fun z hz => (hp.h z hz).trans (by rw [h.h]), hp.hi⟩
theorem lexi_same {f h : Int × Int → Bool} {l m : List Int} {n : Nat} (hl : n < l.length) (hm : n < m.length) (hf : f (l[n], m[n]) = true) : lexi f h (l.drop (n + 1)) (m.drop (n + 1)) = lexi f h (l.drop n) (m.drop n) := by
  rw [List.drop_eq_getElem_cons hl, List.drop_eq_getElem_cons hm, lexi, if_pos hf]
theorem lexi_not {f h : Int × Int → Bool} {l m : List Int} {n : Nat} (hl : n < l.length) (hm : n < m.length) (hf : f (l[n], m[n]) = false) : lexi f h (l.drop n) (m.drop n) = h (l[n], m[n]) := by
  rw [List.drop_eq_getElem_cons hl, List.drop_eq_getElem_cons hm, lexi, if_neg (by simp [hf])]

section
variable {ps pt : List Tm} {la lb : List (List Int)} {T x y : Nm} {nm : Nat → Nm} {i j : Nat} {w0 : World} {Q : Exit → St → Prop}
variable (hi : i < ps.length) (hj : j < pt.length) (hi' : i < la.length) (hj' : j < lb.length) (hT : T ≠ nm i) (hnm : ∀ a, a < i → nm a ≠ nm i)
variable (hsa : ∀ (n : Nat) (h : n < la[i].length), ∃ a : Nat, la[i][n] = (a : Int) ∧ a < i) (hta : ∀ (n : Nat) (h : n < lb[j].length), ∃ a : Nat, lb[j][n] = (a : Int) ∧ a < j)
variable (hla : la[i].length ≤ 4000000) (hlb : lb[j].length ≤ 4000000)
include hi hj hi' hj' hT hnm hsa hta hla hlb

theorem gre_store (σ : St) (hc : GCx ps pt la lb T x y nm i j σ) (h14 : σ.t 14 = bA (gtN ps pt (i, j))) (hQ : ∀ σ', GPost ps pt nm i j σ σ' → Q .normal σ') {N : Nat} {c : Code} (hN : (Try.f16).ntmps = N) (hc : bodyAt (Try.f16) [true,true,true,true,false,true,false,false,true,false,false,true,true,false,false,true,false,false,true,true,true,true,true,true,true] = some c) : awp Try.prog w0 N c Q σ := by
  obtain rfl := (Try.ntmps16).symm.trans hN; obtain rfl := Option.some.inj (show some _ = some c from hc); clear hN hc
  obtain ⟨s5, s6, s7, s8, s9, s10, s11, s12, s13, hx, hy, hTT, hr, hii⟩ := hc
  have e1 : (tabA nm ps.length pt.length (i + 1)).getD i .junk = .arr (nm i) 0 pt.length := tabA_at (Nat.lt_succ_self i) hi
  have e2 : ¬ (T = nm i) := hT
  repeat' (first
    | refine awp_seq_k fun K hK => ?_
    | (refine awp_region_k (by kernel_rfl) fun R hR => ?_; simp only [go_sem, s9, s10, s11, h14, hTT, hii, e1, e2, Int.toNat_natCast, Nat.mul_one, tabA_len, rowA_len, rowA_set hj])
    | (refine awp_draw mixed (by kernel_rfl) (by kernel_rfl) fun R hR => ?_; simp only [go_sem, s9, s10, s11, h14, hTT, hii, e1, e2, Int.toNat_natCast, Nat.mul_one, tabA_len, rowA_len, rowA_set hj])
    | (refine hR _ ?_; clear hR R; try simp only [thenA, inBlockA, reduceIte, reduceCtorEq, Nat.reduceEqDiff, if_false, if_true])
    | (refine hK _ ?_; clear hK K)
    | (clear hK K; refine hK _ ?_; clear hK K)
    | (clear hK K; clear hK K; refine hK _ ?_; clear hK K)
    | (clear hK K; clear hK K; clear hK K; refine hK _ ?_; clear hK K)
    | (clear hK K; clear hK K; clear hK K; clear hK K; refine hK _ ?_; clear hK K)
    | refine awp_true rfl rfl ?_
    | refine awp_false rfl rfl ?_
    | (refine awp_cond rfl rfl (fun hc => ?_) (fun hc => ?_) <;> (try simp only [go_sem, s9, s10, s11, h14, hTT, hii, e1, e2, Int.toNat_natCast, Nat.mul_one, tabA_len, rowA_len, rowA_set hj] at hc) <;> (try (exfalso; omega)))
    | refine awp_block ?_
    | (refine awp_skip ?_; try simp only [thenA, inBlockA, reduceIte, reduceCtorEq, Nat.reduceEqDiff, if_false, if_true])
    | (refine awp_exit ?_; try simp only [thenA, inBlockA, reduceIte, reduceCtorEq, Nat.reduceEqDiff, if_false, if_true])
    | (refine awp_ret ?_; try simp only [thenA, inBlockA, reduceIte, reduceCtorEq, Nat.reduceEqDiff, if_false, if_true])
    | (refine runL_split ?_ (fun hc => ?_) (fun hc => ?_); (simp only [go_sem, s9, s10, s11, h14, hTT, hii, e1, e2, Int.toNat_natCast, Nat.mul_one, tabA_len, rowA_len, rowA_set hj]; exact rfl); all_goals (try simp only [go_sem, hc, s9, s10, s11, h14, hTT, hii, e1, e2, Int.toNat_natCast, Nat.mul_one, tabA_len, rowA_len, rowA_set hj]); all_goals (try simp only [go_sem, s9, s10, s11, h14, hTT, hii, e1, e2, Int.toNat_natCast, Nat.mul_one, tabA_len, rowA_len, rowA_set hj] at hc); all_goals (try (exfalso; omega)))
    | (refine runD_split ?_ (fun hc => ?_) (fun hc => ?_); (simp only [go_sem, s9, s10, s11, h14, hTT, hii, e1, e2, Int.toNat_natCast, Nat.mul_one, tabA_len, rowA_len, rowA_set hj]; exact rfl); all_goals (try simp only [go_sem, hc, s9, s10, s11, h14, hTT, hii, e1, e2, Int.toNat_natCast, Nat.mul_one, tabA_len, rowA_len, rowA_set hj]); all_goals (try simp only [go_sem, s9, s10, s11, h14, hTT, hii, e1, e2, Int.toNat_natCast, Nat.mul_one, tabA_len, rowA_len, rowA_set hj] at hc); all_goals (try (exfalso; omega)))
    | refine And.intro (by first | omega | exact trivial | rfl | assumption | (apply map_sz; intro a; simp only [go_sem]; done) | ((and_intros <;> first | omega | exact trivial | rfl | assumption | (apply map_sz; intro a; simp only [go_sem]; done) | fail); done) | fail) ?_
    | fail)
  refine hQ _ ⟨?_, Nat.le_succ _, fun z hz => ?_, ?_⟩
  · simp only [go_sem]
  · simp only [go_sem, hz]
  · simp only [go_sem]

set_option maxHeartbeats 4000000 in
/-- From the comparison of the arguments on. -/
theorem gre_lex (σ : St) (hc : GCx ps pt la lb T x y nm i j σ) (yes all : Bool) (h14 : σ.t 14 = bA yes) (h17 : σ.t 17 = bA all) (hall : all = true → ps[i].f = pt[j].f → la[i].length = lb[j].length)
    (hv : (if (all && ps[i].f == pt[j].f) = true then yes || lexi (sameN ps pt) (gtN ps pt) la[i] lb[j] else yes) = gtN ps pt (i, j)) (hQ : ∀ σ', GPost ps pt nm i j σ σ' → Q .normal σ') {N : Nat} {c : Code} (hN : (Try.f16).ntmps = N) (hc : bodyAt (Try.f16) [true,true,true,true,false,true,false,false,true,false,false,true,true,false,false,true,false,false,true,true,true,true,true,true] = some c) : awp Try.prog w0 N c Q σ := by
  have fin : ∀ σ1, GKeep σ σ1 → σ1.t 14 = bA (gtN ps pt (i, j)) → ∀ {c' : Code}, bodyAt (Try.f16) [true,true,true,true,false,true,false,false,true,false,false,true,true,false,false,true,false,false,true,true,true,true,true,true,true] = some c' → awp Try.prog w0 N c' Q σ1 := by
    intro σ1 g1 g2 c' hc'
    exact gre_store hi hj hi' hj' hT hnm hsa hta hla hlb σ1 (g1.cx ‹_›) g2 (fun σ' hp => hQ σ' (g1.post hp)) hN hc'
  obtain rfl := (Try.ntmps16).symm.trans hN; obtain rfl := Option.some.inj (show some _ = some c from hc); clear hN hc
  obtain ⟨s5, s6, s7, s8, s9, s10, s11, s12, s13, hx, hy, hTT, hr, hii⟩ := id hc
  have hx := hx hi
  have hy := hy hj
  have ea : (la.map gI).getD i default = gI la[i] := nth_map gI hi' _
  have eb : (lb.map gI).getD j default = gI lb[j] := nth_map gI hj' _
  by_cases hcond : (all && ps[i].f == pt[j].f) = true
  · rw [if_pos hcond] at hv
    rw [Bool.and_eq_true] at hcond
    obtain ⟨rfl, ef⟩ := hcond
    have hlen := hall rfl (by simpa using ef)
    repeat' (first
      | refine awp_seq_k fun K hK => ?_
      | (refine awp_region_k (by kernel_rfl) fun R hR => ?_; simp only [go_sem, h17, s12, s13, hx, hy, ef])
      | (refine awp_draw mixed (by kernel_rfl) (by kernel_rfl) fun R hR => ?_; simp only [go_sem, h17, s12, s13, hx, hy, ef])
      | (refine hR _ ?_; clear hR R; try simp only [thenA, inBlockA, reduceIte, reduceCtorEq, Nat.reduceEqDiff, if_false, if_true])
      | (refine hK _ ?_; clear hK K)
      | (clear hK K; refine hK _ ?_; clear hK K)
      | (clear hK K; clear hK K; refine hK _ ?_; clear hK K)
      | (clear hK K; clear hK K; clear hK K; refine hK _ ?_; clear hK K)
      | (clear hK K; clear hK K; clear hK K; clear hK K; refine hK _ ?_; clear hK K)
      | refine awp_true rfl rfl ?_
      | refine awp_false rfl rfl ?_
      | (refine awp_cond rfl rfl (fun hc => ?_) (fun hc => ?_) <;> (try simp only [go_sem, h17, s12, s13, hx, hy, ef] at hc) <;> (try (exfalso; omega)))
      | refine awp_block ?_
      | (refine awp_skip ?_; try simp only [thenA, inBlockA, reduceIte, reduceCtorEq, Nat.reduceEqDiff, if_false, if_true])
      | (refine awp_exit ?_; try simp only [thenA, inBlockA, reduceIte, reduceCtorEq, Nat.reduceEqDiff, if_false, if_true])
      | (refine awp_ret ?_; try simp only [thenA, inBlockA, reduceIte, reduceCtorEq, Nat.reduceEqDiff, if_false, if_true])
      | (refine runL_split ?_ (fun hc => ?_) (fun hc => ?_); (simp only [go_sem, h17, s12, s13, hx, hy, ef]; exact rfl); all_goals (try simp only [go_sem, hc, h17, s12, s13, hx, hy, ef]); all_goals (try simp only [go_sem, h17, s12, s13, hx, hy, ef] at hc); all_goals (try (exfalso; omega)))
      | (refine runD_split ?_ (fun hc => ?_) (fun hc => ?_); (simp only [go_sem, h17, s12, s13, hx, hy, ef]; exact rfl); all_goals (try simp only [go_sem, hc, h17, s12, s13, hx, hy, ef]); all_goals (try simp only [go_sem, h17, s12, s13, hx, hy, ef] at hc); all_goals (try (exfalso; omega)))
      | refine And.intro (by first | omega | exact trivial | rfl | assumption | (apply map_sz; intro a; simp only [go_sem]; done) | ((and_intros <;> first | omega | exact trivial | rfl | assumption | (apply map_sz; intro a; simp only [go_sem]; done) | fail); done) | fail) ?_
      | fail)
    refine awp_loop (fun τ => ∃ n : Nat, GKeep σ τ ∧ τ.t 14 = bA yes ∧ τ.t 19 = iA n ∧ n ≤ la[i].length ∧ lexi (sameN ps pt) (gtN ps pt) (la[i].drop n) (lb[j].drop n) = lexi (sameN ps pt) (gtN ps pt) la[i] lb[j]) (fun τ => la[i].length - (intOf' (τ.t 19)).toNat) ?_ ?_
    · refine ⟨0, (by repeat (first | exact Keep.of (by assumption) | exact Keep.rfl' _ _ | refine Keep.set ?_ (by rfl) | refine Keep.tick ?_)), ?_⟩
      simp only [go_sem, h14, List.drop_zero]
      and_intros; all_goals try (first | rfl | omega | assumption | ((repeat (first | exact Fr.rfl' _ _ | assumption | refine Fr.updk ?_ (by omega) _)); done))
    · rintro τ ⟨n, hk, t14, t19, hn, hlex⟩
      obtain ⟨u5, u6, u7, u8, u9, u10, u11, u12, u13, ux, uy, uT, ur, ui⟩ := hk.cx hc
      rcases Nat.lt_or_ge n la[i].length with hlt | hge
      · have hlt' : n < lb[j].length := by omega
        have hlz : (n : Int) < (la[i].length : Int) := by omega
        obtain ⟨p, ep, hp⟩ := hsa n hlt
        obtain ⟨q, eq', hq⟩ := hta n hlt'
        have k1 : (tabA nm ps.length pt.length (i + 1)).getD p .junk = .arr (nm p) 0 pt.length := tabA_at (by omega) hi
        have k2 : (rowA ps pt p pt.length).getD q .junk = bA (gtN ps pt (p, q)) := rowA_at (by omega) (Nat.le_refl _)
        have k3 := ur p hp
        have hp' : p < ps.length := by omega
        have hq' : q < pt.length := by omega
        have f1 : (la[i].map iD).getD n default = iD p := by rw [nth_map iD hlt, ep]
        have f2 : (lb[j].map iD).getD n default = iD q := by rw [nth_map iD hlt', eq']
        have f3 : (ps.map tmDV).getD p default = tmDV ps[p] := nth_map tmDV hp' _
        have f4 : (pt.map tmDV).getD q default = tmDV pt[q] := nth_map tmDV hq' _
        cases hs : same ps[p] pt[q] with
        | true =>
          repeat' (first
            | refine awp_seq_k fun K hK => ?_
            | (refine awp_region_k (by kernel_rfl) fun R hR => ?_; simp only [go_sem, t14, t19, u5, u6, u7, u8, u10, u11, ea, eb, hlz, f1, f2, f3, f4, hs, Int.toNat_natCast])
            | (refine awp_draw mixed (by kernel_rfl) (by kernel_rfl) fun R hR => ?_; simp only [go_sem, t14, t19, u5, u6, u7, u8, u10, u11, ea, eb, hlz, f1, f2, f3, f4, hs, Int.toNat_natCast])
            | (refine hR _ ?_; clear hR R; try simp only [thenA, inBlockA, reduceIte, reduceCtorEq, Nat.reduceEqDiff, if_false, if_true])
            | (refine hK _ ?_; clear hK K)
            | (clear hK K; refine hK _ ?_; clear hK K)
            | (clear hK K; clear hK K; refine hK _ ?_; clear hK K)
            | (clear hK K; clear hK K; clear hK K; refine hK _ ?_; clear hK K)
            | (clear hK K; clear hK K; clear hK K; clear hK K; refine hK _ ?_; clear hK K)
            | refine awp_true rfl rfl ?_
            | refine awp_false rfl rfl ?_
            | (refine awp_cond rfl rfl (fun hc => ?_) (fun hc => ?_) <;> (try simp only [go_sem, t14, t19, u5, u6, u7, u8, u10, u11, ea, eb, hlz, f1, f2, f3, f4, hs, Int.toNat_natCast] at hc) <;> (try (exfalso; omega)))
            | refine awp_block ?_
            | (refine awp_skip ?_; try simp only [thenA, inBlockA, reduceIte, reduceCtorEq, Nat.reduceEqDiff, if_false, if_true])
            | (refine awp_exit ?_; try simp only [thenA, inBlockA, reduceIte, reduceCtorEq, Nat.reduceEqDiff, if_false, if_true])
            | (refine awp_ret ?_; try simp only [thenA, inBlockA, reduceIte, reduceCtorEq, Nat.reduceEqDiff, if_false, if_true])
            | (refine runL_split ?_ (fun hc => ?_) (fun hc => ?_); (simp only [go_sem, t14, t19, u5, u6, u7, u8, u10, u11, ea, eb, hlz, f1, f2, f3, f4, hs, Int.toNat_natCast]; exact rfl); all_goals (try simp only [go_sem, hc, t14, t19, u5, u6, u7, u8, u10, u11, ea, eb, hlz, f1, f2, f3, f4, hs, Int.toNat_natCast]); all_goals (try simp only [go_sem, t14, t19, u5, u6, u7, u8, u10, u11, ea, eb, hlz, f1, f2, f3, f4, hs, Int.toNat_natCast] at hc); all_goals (try (exfalso; omega)))
            | (refine runD_split ?_ (fun hc => ?_) (fun hc => ?_); (simp only [go_sem, t14, t19, u5, u6, u7, u8, u10, u11, ea, eb, hlz, f1, f2, f3, f4, hs, Int.toNat_natCast]; exact rfl); all_goals (try simp only [go_sem, hc, t14, t19, u5, u6, u7, u8, u10, u11, ea, eb, hlz, f1, f2, f3, f4, hs, Int.toNat_natCast]); all_goals (try simp only [go_sem, t14, t19, u5, u6, u7, u8, u10, u11, ea, eb, hlz, f1, f2, f3, f4, hs, Int.toNat_natCast] at hc); all_goals (try (exfalso; omega)))
            | (first | (refine CallK.pure (enter47) (sameR_tri ps[p] pt[q]) ?_ ?_; (focus first | ((repeat (first | exact trivial | refine ⟨(by first | exact Or.inl rfl | exact Or.inr rfl), ?_⟩)); done) | (simp only [coL, AV.dat, true_or, or_true, AV.d.injEq, go_sem]; done)); simp only [go_sem, t14, t19, u5, u6, u7, u8, u10, u11, ea, eb, hlz, f1, f2, f3, f4, hs, Int.toNat_natCast]) | (refine CallD.pure (enter47) (sameR_tri ps[p] pt[q]) ?_ ?_; (focus first | ((repeat (first | exact trivial | refine ⟨(by first | exact Or.inl rfl | exact Or.inr rfl), ?_⟩)); done) | (simp only [coL, AV.dat, true_or, or_true, AV.d.injEq, go_sem]; done)); simp only [go_sem, t14, t19, u5, u6, u7, u8, u10, u11, ea, eb, hlz, f1, f2, f3, f4, hs, Int.toNat_natCast]))
            | refine And.intro (by first | omega | exact trivial | rfl | assumption | (apply map_sz; intro a; simp only [go_sem]; done) | ((and_intros <;> first | omega | exact trivial | rfl | assumption | (apply map_sz; intro a; simp only [go_sem]; done) | fail); done) | fail) ?_
            | fail)
          refine ⟨⟨n + 1, (by repeat (first | exact Keep.of (by assumption) | exact Keep.rfl' _ _ | refine Keep.set ?_ (by rfl) | refine Keep.tick ?_)), ?_⟩, ?_⟩
          · simp only [go_sem, t14, t19]
            and_intros; all_goals try (first | rfl | omega | assumption | ((repeat (first | exact Fr.rfl' _ _ | assumption | refine Fr.updk ?_ (by omega) _)); done))
            rw [lexi_same hlt hlt' (by rw [ep, eq', sameN_at hp' hq']; exact hs)]; exact hlex
          · simp only [go_sem, t14, t19]; omega
        | false =>
          have hyes : (yes || gtN ps pt (p, q)) = gtN ps pt (i, j) := by
            rw [← hv, ← hlex, lexi_not hlt hlt' (by rw [ep, eq', sameN_at hp' hq']; exact hs), ep, eq']
          cases yes with
          | true =>
            repeat' (first
              | refine fin _ ?_ ?_ rfl
              | refine awp_seq_k fun K hK => ?_
              | (refine awp_region_k (by kernel_rfl) fun R hR => ?_; simp only [go_sem, t14, t19, u5, u6, u7, u8, u9, u10, u11, ea, eb, hlz, f1, f2, f3, f4, hs, uT, k1, k2, k3, Int.toNat_natCast, Nat.mul_one, tabA_len, rowA_len])
              | (refine awp_draw mixed (by kernel_rfl) (by kernel_rfl) fun R hR => ?_; simp only [go_sem, t14, t19, u5, u6, u7, u8, u9, u10, u11, ea, eb, hlz, f1, f2, f3, f4, hs, uT, k1, k2, k3, Int.toNat_natCast, Nat.mul_one, tabA_len, rowA_len])
              | (refine hR _ ?_; clear hR R; try simp only [thenA, inBlockA, reduceIte, reduceCtorEq, Nat.reduceEqDiff, if_false, if_true])
              | (refine hK _ ?_; clear hK K)
              | (clear hK K; refine hK _ ?_; clear hK K)
              | (clear hK K; clear hK K; refine hK _ ?_; clear hK K)
              | (clear hK K; clear hK K; clear hK K; refine hK _ ?_; clear hK K)
              | (clear hK K; clear hK K; clear hK K; clear hK K; refine hK _ ?_; clear hK K)
              | refine awp_true rfl rfl ?_
              | refine awp_false rfl rfl ?_
              | (refine awp_cond rfl rfl (fun hc => ?_) (fun hc => ?_) <;> (try simp only [go_sem, t14, t19, u5, u6, u7, u8, u9, u10, u11, ea, eb, hlz, f1, f2, f3, f4, hs, uT, k1, k2, k3, Int.toNat_natCast, Nat.mul_one, tabA_len, rowA_len] at hc) <;> (try (exfalso; omega)))
              | refine awp_block ?_
              | (refine awp_skip ?_; try simp only [thenA, inBlockA, reduceIte, reduceCtorEq, Nat.reduceEqDiff, if_false, if_true])
              | (refine awp_exit ?_; try simp only [thenA, inBlockA, reduceIte, reduceCtorEq, Nat.reduceEqDiff, if_false, if_true])
              | (refine awp_ret ?_; try simp only [thenA, inBlockA, reduceIte, reduceCtorEq, Nat.reduceEqDiff, if_false, if_true])
              | (refine runL_split ?_ (fun hc => ?_) (fun hc => ?_); (simp only [go_sem, t14, t19, u5, u6, u7, u8, u9, u10, u11, ea, eb, hlz, f1, f2, f3, f4, hs, uT, k1, k2, k3, Int.toNat_natCast, Nat.mul_one, tabA_len, rowA_len]; exact rfl); all_goals (try simp only [go_sem, hc, t14, t19, u5, u6, u7, u8, u9, u10, u11, ea, eb, hlz, f1, f2, f3, f4, hs, uT, k1, k2, k3, Int.toNat_natCast, Nat.mul_one, tabA_len, rowA_len]); all_goals (try simp only [go_sem, t14, t19, u5, u6, u7, u8, u9, u10, u11, ea, eb, hlz, f1, f2, f3, f4, hs, uT, k1, k2, k3, Int.toNat_natCast, Nat.mul_one, tabA_len, rowA_len] at hc); all_goals (try (exfalso; omega)))
              | (refine runD_split ?_ (fun hc => ?_) (fun hc => ?_); (simp only [go_sem, t14, t19, u5, u6, u7, u8, u9, u10, u11, ea, eb, hlz, f1, f2, f3, f4, hs, uT, k1, k2, k3, Int.toNat_natCast, Nat.mul_one, tabA_len, rowA_len]; exact rfl); all_goals (try simp only [go_sem, hc, t14, t19, u5, u6, u7, u8, u9, u10, u11, ea, eb, hlz, f1, f2, f3, f4, hs, uT, k1, k2, k3, Int.toNat_natCast, Nat.mul_one, tabA_len, rowA_len]); all_goals (try simp only [go_sem, t14, t19, u5, u6, u7, u8, u9, u10, u11, ea, eb, hlz, f1, f2, f3, f4, hs, uT, k1, k2, k3, Int.toNat_natCast, Nat.mul_one, tabA_len, rowA_len] at hc); all_goals (try (exfalso; omega)))
              | (first | (refine CallK.pure (enter47) (sameR_tri ps[p] pt[q]) ?_ ?_; (focus first | ((repeat (first | exact trivial | refine ⟨(by first | exact Or.inl rfl | exact Or.inr rfl), ?_⟩)); done) | (simp only [coL, AV.dat, true_or, or_true, AV.d.injEq, go_sem]; done)); simp only [go_sem, t14, t19, u5, u6, u7, u8, u9, u10, u11, ea, eb, hlz, f1, f2, f3, f4, hs, uT, k1, k2, k3, Int.toNat_natCast, Nat.mul_one, tabA_len, rowA_len]) | (refine CallD.pure (enter47) (sameR_tri ps[p] pt[q]) ?_ ?_; (focus first | ((repeat (first | exact trivial | refine ⟨(by first | exact Or.inl rfl | exact Or.inr rfl), ?_⟩)); done) | (simp only [coL, AV.dat, true_or, or_true, AV.d.injEq, go_sem]; done)); simp only [go_sem, t14, t19, u5, u6, u7, u8, u9, u10, u11, ea, eb, hlz, f1, f2, f3, f4, hs, uT, k1, k2, k3, Int.toNat_natCast, Nat.mul_one, tabA_len, rowA_len]))
              | refine And.intro (by first | omega | exact trivial | rfl | assumption | (apply map_sz; intro a; simp only [go_sem]; done) | ((and_intros <;> first | omega | exact trivial | rfl | assumption | (apply map_sz; intro a; simp only [go_sem]; done) | fail); done) | fail) ?_
              | fail)
            · exact (by repeat (first | exact Keep.of (by assumption) | exact Keep.rfl' _ _ | refine Keep.set ?_ (by rfl) | refine Keep.tick ?_))
            · simp only [go_sem, ← hyes, Bool.true_or]
          | false =>
            repeat' (first
              | refine fin _ ?_ ?_ rfl
              | refine awp_seq_k fun K hK => ?_
              | (refine awp_region_k (by kernel_rfl) fun R hR => ?_; simp only [go_sem, t14, t19, u5, u6, u7, u8, u9, u10, u11, ea, eb, hlz, f1, f2, f3, f4, hs, uT, k1, k2, k3, Int.toNat_natCast, Nat.mul_one, tabA_len, rowA_len])
              | (refine awp_draw mixed (by kernel_rfl) (by kernel_rfl) fun R hR => ?_; simp only [go_sem, t14, t19, u5, u6, u7, u8, u9, u10, u11, ea, eb, hlz, f1, f2, f3, f4, hs, uT, k1, k2, k3, Int.toNat_natCast, Nat.mul_one, tabA_len, rowA_len])
              | (refine hR _ ?_; clear hR R; try simp only [thenA, inBlockA, reduceIte, reduceCtorEq, Nat.reduceEqDiff, if_false, if_true])
              | (refine hK _ ?_; clear hK K)
              | (clear hK K; refine hK _ ?_; clear hK K)
              | (clear hK K; clear hK K; refine hK _ ?_; clear hK K)
              | (clear hK K; clear hK K; clear hK K; refine hK _ ?_; clear hK K)
              | (clear hK K; clear hK K; clear hK K; clear hK K; refine hK _ ?_; clear hK K)
              | refine awp_true rfl rfl ?_
              | refine awp_false rfl rfl ?_
              | (refine awp_cond rfl rfl (fun hc => ?_) (fun hc => ?_) <;> (try simp only [go_sem, t14, t19, u5, u6, u7, u8, u9, u10, u11, ea, eb, hlz, f1, f2, f3, f4, hs, uT, k1, k2, k3, Int.toNat_natCast, Nat.mul_one, tabA_len, rowA_len] at hc) <;> (try (exfalso; omega)))
              | refine awp_block ?_
              | (refine awp_skip ?_; try simp only [thenA, inBlockA, reduceIte, reduceCtorEq, Nat.reduceEqDiff, if_false, if_true])
              | (refine awp_exit ?_; try simp only [thenA, inBlockA, reduceIte, reduceCtorEq, Nat.reduceEqDiff, if_false, if_true])
              | (refine awp_ret ?_; try simp only [thenA, inBlockA, reduceIte, reduceCtorEq, Nat.reduceEqDiff, if_false, if_true])
              | (refine runL_split ?_ (fun hc => ?_) (fun hc => ?_); (simp only [go_sem, t14, t19, u5, u6, u7, u8, u9, u10, u11, ea, eb, hlz, f1, f2, f3, f4, hs, uT, k1, k2, k3, Int.toNat_natCast, Nat.mul_one, tabA_len, rowA_len]; exact rfl); all_goals (try simp only [go_sem, hc, t14, t19, u5, u6, u7, u8, u9, u10, u11, ea, eb, hlz, f1, f2, f3, f4, hs, uT, k1, k2, k3, Int.toNat_natCast, Nat.mul_one, tabA_len, rowA_len]); all_goals (try simp only [go_sem, t14, t19, u5, u6, u7, u8, u9, u10, u11, ea, eb, hlz, f1, f2, f3, f4, hs, uT, k1, k2, k3, Int.toNat_natCast, Nat.mul_one, tabA_len, rowA_len] at hc); all_goals (try (exfalso; omega)))
              | (refine runD_split ?_ (fun hc => ?_) (fun hc => ?_); (simp only [go_sem, t14, t19, u5, u6, u7, u8, u9, u10, u11, ea, eb, hlz, f1, f2, f3, f4, hs, uT, k1, k2, k3, Int.toNat_natCast, Nat.mul_one, tabA_len, rowA_len]; exact rfl); all_goals (try simp only [go_sem, hc, t14, t19, u5, u6, u7, u8, u9, u10, u11, ea, eb, hlz, f1, f2, f3, f4, hs, uT, k1, k2, k3, Int.toNat_natCast, Nat.mul_one, tabA_len, rowA_len]); all_goals (try simp only [go_sem, t14, t19, u5, u6, u7, u8, u9, u10, u11, ea, eb, hlz, f1, f2, f3, f4, hs, uT, k1, k2, k3, Int.toNat_natCast, Nat.mul_one, tabA_len, rowA_len] at hc); all_goals (try (exfalso; omega)))
              | (first | (refine CallK.pure (enter47) (sameR_tri ps[p] pt[q]) ?_ ?_; (focus first | ((repeat (first | exact trivial | refine ⟨(by first | exact Or.inl rfl | exact Or.inr rfl), ?_⟩)); done) | (simp only [coL, AV.dat, true_or, or_true, AV.d.injEq, go_sem]; done)); simp only [go_sem, t14, t19, u5, u6, u7, u8, u9, u10, u11, ea, eb, hlz, f1, f2, f3, f4, hs, uT, k1, k2, k3, Int.toNat_natCast, Nat.mul_one, tabA_len, rowA_len]) | (refine CallD.pure (enter47) (sameR_tri ps[p] pt[q]) ?_ ?_; (focus first | ((repeat (first | exact trivial | refine ⟨(by first | exact Or.inl rfl | exact Or.inr rfl), ?_⟩)); done) | (simp only [coL, AV.dat, true_or, or_true, AV.d.injEq, go_sem]; done)); simp only [go_sem, t14, t19, u5, u6, u7, u8, u9, u10, u11, ea, eb, hlz, f1, f2, f3, f4, hs, uT, k1, k2, k3, Int.toNat_natCast, Nat.mul_one, tabA_len, rowA_len]))
              | refine And.intro (by first | omega | exact trivial | rfl | assumption | (apply map_sz; intro a; simp only [go_sem]; done) | ((and_intros <;> first | omega | exact trivial | rfl | assumption | (apply map_sz; intro a; simp only [go_sem]; done) | fail); done) | fail) ?_
              | fail)
            · exact (by repeat (first | exact Keep.of (by assumption) | exact Keep.rfl' _ _ | refine Keep.set ?_ (by rfl) | refine Keep.tick ?_))
            · simp only [go_sem, ← hyes, Bool.false_or]
      · have hge' : n = la[i].length := by omega
        have hlz : ¬ ((n : Int) < (la[i].length : Int)) := by omega
        have hyes : yes = gtN ps pt (i, j) := by
          rw [← hv, ← hlex, hge', List.drop_length]
          cases (lb[j].drop la[i].length) <;> simp [lexi]
        cases yes with
        | true =>
          repeat' (first
            | refine fin _ ?_ ?_ rfl
            | refine awp_seq_k fun K hK => ?_
            | (refine awp_region_k (by kernel_rfl) fun R hR => ?_; simp only [go_sem, t14, t19, u5, u6, u7, u8, u9, u10, u11, ea, eb, hlz, Int.toNat_natCast, Nat.mul_one])
            | (refine awp_draw mixed (by kernel_rfl) (by kernel_rfl) fun R hR => ?_; simp only [go_sem, t14, t19, u5, u6, u7, u8, u9, u10, u11, ea, eb, hlz, Int.toNat_natCast, Nat.mul_one])
            | (refine hR _ ?_; clear hR R; try simp only [thenA, inBlockA, reduceIte, reduceCtorEq, Nat.reduceEqDiff, if_false, if_true])
            | (refine hK _ ?_; clear hK K)
            | (clear hK K; refine hK _ ?_; clear hK K)
            | (clear hK K; clear hK K; refine hK _ ?_; clear hK K)
            | (clear hK K; clear hK K; clear hK K; refine hK _ ?_; clear hK K)
            | (clear hK K; clear hK K; clear hK K; clear hK K; refine hK _ ?_; clear hK K)
            | refine awp_true rfl rfl ?_
            | refine awp_false rfl rfl ?_
            | (refine awp_cond rfl rfl (fun hc => ?_) (fun hc => ?_) <;> (try simp only [go_sem, t14, t19, u5, u6, u7, u8, u9, u10, u11, ea, eb, hlz, Int.toNat_natCast, Nat.mul_one] at hc) <;> (try (exfalso; omega)))
            | refine awp_block ?_
            | (refine awp_skip ?_; try simp only [thenA, inBlockA, reduceIte, reduceCtorEq, Nat.reduceEqDiff, if_false, if_true])
            | (refine awp_exit ?_; try simp only [thenA, inBlockA, reduceIte, reduceCtorEq, Nat.reduceEqDiff, if_false, if_true])
            | (refine awp_ret ?_; try simp only [thenA, inBlockA, reduceIte, reduceCtorEq, Nat.reduceEqDiff, if_false, if_true])
            | (refine runL_split ?_ (fun hc => ?_) (fun hc => ?_); (simp only [go_sem, t14, t19, u5, u6, u7, u8, u9, u10, u11, ea, eb, hlz, Int.toNat_natCast, Nat.mul_one]; exact rfl); all_goals (try simp only [go_sem, hc, t14, t19, u5, u6, u7, u8, u9, u10, u11, ea, eb, hlz, Int.toNat_natCast, Nat.mul_one]); all_goals (try simp only [go_sem, t14, t19, u5, u6, u7, u8, u9, u10, u11, ea, eb, hlz, Int.toNat_natCast, Nat.mul_one] at hc); all_goals (try (exfalso; omega)))
            | (refine runD_split ?_ (fun hc => ?_) (fun hc => ?_); (simp only [go_sem, t14, t19, u5, u6, u7, u8, u9, u10, u11, ea, eb, hlz, Int.toNat_natCast, Nat.mul_one]; exact rfl); all_goals (try simp only [go_sem, hc, t14, t19, u5, u6, u7, u8, u9, u10, u11, ea, eb, hlz, Int.toNat_natCast, Nat.mul_one]); all_goals (try simp only [go_sem, t14, t19, u5, u6, u7, u8, u9, u10, u11, ea, eb, hlz, Int.toNat_natCast, Nat.mul_one] at hc); all_goals (try (exfalso; omega)))
            | refine And.intro (by first | omega | exact trivial | rfl | assumption | (apply map_sz; intro a; simp only [go_sem]; done) | ((and_intros <;> first | omega | exact trivial | rfl | assumption | (apply map_sz; intro a; simp only [go_sem]; done) | fail); done) | fail) ?_
            | fail)
          · exact (by repeat (first | exact Keep.of (by assumption) | exact Keep.rfl' _ _ | refine Keep.set ?_ (by rfl) | refine Keep.tick ?_))
          · simp only [go_sem, ← hyes]
        | false =>
          repeat' (first
            | refine fin _ ?_ ?_ rfl
            | refine awp_seq_k fun K hK => ?_
            | (refine awp_region_k (by kernel_rfl) fun R hR => ?_; simp only [go_sem, t14, t19, u5, u6, u7, u8, u9, u10, u11, ea, eb, hlz, Int.toNat_natCast, Nat.mul_one])
            | (refine awp_draw mixed (by kernel_rfl) (by kernel_rfl) fun R hR => ?_; simp only [go_sem, t14, t19, u5, u6, u7, u8, u9, u10, u11, ea, eb, hlz, Int.toNat_natCast, Nat.mul_one])
            | (refine hR _ ?_; clear hR R; try simp only [thenA, inBlockA, reduceIte, reduceCtorEq, Nat.reduceEqDiff, if_false, if_true])
            | (refine hK _ ?_; clear hK K)
            | (clear hK K; refine hK _ ?_; clear hK K)
            | (clear hK K; clear hK K; refine hK _ ?_; clear hK K)
            | (clear hK K; clear hK K; clear hK K; refine hK _ ?_; clear hK K)
            | (clear hK K; clear hK K; clear hK K; clear hK K; refine hK _ ?_; clear hK K)
            | refine awp_true rfl rfl ?_
            | refine awp_false rfl rfl ?_
            | (refine awp_cond rfl rfl (fun hc => ?_) (fun hc => ?_) <;> (try simp only [go_sem, t14, t19, u5, u6, u7, u8, u9, u10, u11, ea, eb, hlz, Int.toNat_natCast, Nat.mul_one] at hc) <;> (try (exfalso; omega)))
            | refine awp_block ?_
            | (refine awp_skip ?_; try simp only [thenA, inBlockA, reduceIte, reduceCtorEq, Nat.reduceEqDiff, if_false, if_true])
            | (refine awp_exit ?_; try simp only [thenA, inBlockA, reduceIte, reduceCtorEq, Nat.reduceEqDiff, if_false, if_true])
            | (refine awp_ret ?_; try simp only [thenA, inBlockA, reduceIte, reduceCtorEq, Nat.reduceEqDiff, if_false, if_true])
            | (refine runL_split ?_ (fun hc => ?_) (fun hc => ?_); (simp only [go_sem, t14, t19, u5, u6, u7, u8, u9, u10, u11, ea, eb, hlz, Int.toNat_natCast, Nat.mul_one]; exact rfl); all_goals (try simp only [go_sem, hc, t14, t19, u5, u6, u7, u8, u9, u10, u11, ea, eb, hlz, Int.toNat_natCast, Nat.mul_one]); all_goals (try simp only [go_sem, t14, t19, u5, u6, u7, u8, u9, u10, u11, ea, eb, hlz, Int.toNat_natCast, Nat.mul_one] at hc); all_goals (try (exfalso; omega)))
            | (refine runD_split ?_ (fun hc => ?_) (fun hc => ?_); (simp only [go_sem, t14, t19, u5, u6, u7, u8, u9, u10, u11, ea, eb, hlz, Int.toNat_natCast, Nat.mul_one]; exact rfl); all_goals (try simp only [go_sem, hc, t14, t19, u5, u6, u7, u8, u9, u10, u11, ea, eb, hlz, Int.toNat_natCast, Nat.mul_one]); all_goals (try simp only [go_sem, t14, t19, u5, u6, u7, u8, u9, u10, u11, ea, eb, hlz, Int.toNat_natCast, Nat.mul_one] at hc); all_goals (try (exfalso; omega)))
            | refine And.intro (by first | omega | exact trivial | rfl | assumption | (apply map_sz; intro a; simp only [go_sem]; done) | ((and_intros <;> first | omega | exact trivial | rfl | assumption | (apply map_sz; intro a; simp only [go_sem]; done) | fail); done) | fail) ?_
            | fail)
          · exact (by repeat (first | exact Keep.of (by assumption) | exact Keep.rfl' _ _ | refine Keep.set ?_ (by rfl) | refine Keep.tick ?_))
          · simp only [go_sem, ← hyes]
  · rw [if_neg hcond] at hv
    cases all with
    | true =>
      have ef : (ps[i].f == pt[j].f) = false := by simpa using hcond
      repeat' (first
        | refine fin _ ?_ ?_ rfl
        | refine awp_seq_k fun K hK => ?_
        | (refine awp_region_k (by kernel_rfl) fun R hR => ?_; simp only [go_sem, h17, s12, s13, hx, hy, ef])
        | (refine awp_draw mixed (by kernel_rfl) (by kernel_rfl) fun R hR => ?_; simp only [go_sem, h17, s12, s13, hx, hy, ef])
        | (refine hR _ ?_; clear hR R; try simp only [thenA, inBlockA, reduceIte, reduceCtorEq, Nat.reduceEqDiff, if_false, if_true])
        | (refine hK _ ?_; clear hK K)
        | (clear hK K; refine hK _ ?_; clear hK K)
        | (clear hK K; clear hK K; refine hK _ ?_; clear hK K)
        | (clear hK K; clear hK K; clear hK K; refine hK _ ?_; clear hK K)
        | (clear hK K; clear hK K; clear hK K; clear hK K; refine hK _ ?_; clear hK K)
        | refine awp_true rfl rfl ?_
        | refine awp_false rfl rfl ?_
        | (refine awp_cond rfl rfl (fun hc => ?_) (fun hc => ?_) <;> (try simp only [go_sem, h17, s12, s13, hx, hy, ef] at hc) <;> (try (exfalso; omega)))
        | refine awp_block ?_
        | (refine awp_skip ?_; try simp only [thenA, inBlockA, reduceIte, reduceCtorEq, Nat.reduceEqDiff, if_false, if_true])
        | (refine awp_exit ?_; try simp only [thenA, inBlockA, reduceIte, reduceCtorEq, Nat.reduceEqDiff, if_false, if_true])
        | (refine awp_ret ?_; try simp only [thenA, inBlockA, reduceIte, reduceCtorEq, Nat.reduceEqDiff, if_false, if_true])
        | (refine runL_split ?_ (fun hc => ?_) (fun hc => ?_); (simp only [go_sem, h17, s12, s13, hx, hy, ef]; exact rfl); all_goals (try simp only [go_sem, hc, h17, s12, s13, hx, hy, ef]); all_goals (try simp only [go_sem, h17, s12, s13, hx, hy, ef] at hc); all_goals (try (exfalso; omega)))
        | (refine runD_split ?_ (fun hc => ?_) (fun hc => ?_); (simp only [go_sem, h17, s12, s13, hx, hy, ef]; exact rfl); all_goals (try simp only [go_sem, hc, h17, s12, s13, hx, hy, ef]); all_goals (try simp only [go_sem, h17, s12, s13, hx, hy, ef] at hc); all_goals (try (exfalso; omega)))
        | refine And.intro (by first | omega | exact trivial | rfl | assumption | (apply map_sz; intro a; simp only [go_sem]; done) | ((and_intros <;> first | omega | exact trivial | rfl | assumption | (apply map_sz; intro a; simp only [go_sem]; done) | fail); done) | fail) ?_
        | fail)
      · exact (by repeat (first | exact Keep.of (by assumption) | exact Keep.rfl' _ _ | refine Keep.set ?_ (by rfl) | refine Keep.tick ?_))
      · simp only [go_sem, h14, hv]
    | false =>
      repeat' (first
        | refine fin _ ?_ ?_ rfl
        | refine awp_seq_k fun K hK => ?_
        | (refine awp_region_k (by kernel_rfl) fun R hR => ?_; simp only [go_sem, h17, s12, s13, hx, hy])
        | (refine awp_draw mixed (by kernel_rfl) (by kernel_rfl) fun R hR => ?_; simp only [go_sem, h17, s12, s13, hx, hy])
        | (refine hR _ ?_; clear hR R; try simp only [thenA, inBlockA, reduceIte, reduceCtorEq, Nat.reduceEqDiff, if_false, if_true])
        | (refine hK _ ?_; clear hK K)
        | (clear hK K; refine hK _ ?_; clear hK K)
        | (clear hK K; clear hK K; refine hK _ ?_; clear hK K)
        | (clear hK K; clear hK K; clear hK K; refine hK _ ?_; clear hK K)
        | (clear hK K; clear hK K; clear hK K; clear hK K; refine hK _ ?_; clear hK K)
        | refine awp_true rfl rfl ?_
        | refine awp_false rfl rfl ?_
        | (refine awp_cond rfl rfl (fun hc => ?_) (fun hc => ?_) <;> (try simp only [go_sem, h17, s12, s13, hx, hy] at hc) <;> (try (exfalso; omega)))
        | refine awp_block ?_
        | (refine awp_skip ?_; try simp only [thenA, inBlockA, reduceIte, reduceCtorEq, Nat.reduceEqDiff, if_false, if_true])
        | (refine awp_exit ?_; try simp only [thenA, inBlockA, reduceIte, reduceCtorEq, Nat.reduceEqDiff, if_false, if_true])
        | (refine awp_ret ?_; try simp only [thenA, inBlockA, reduceIte, reduceCtorEq, Nat.reduceEqDiff, if_false, if_true])
        | (refine runL_split ?_ (fun hc => ?_) (fun hc => ?_); (simp only [go_sem, h17, s12, s13, hx, hy]; exact rfl); all_goals (try simp only [go_sem, hc, h17, s12, s13, hx, hy]); all_goals (try simp only [go_sem, h17, s12, s13, hx, hy] at hc); all_goals (try (exfalso; omega)))
        | (refine runD_split ?_ (fun hc => ?_) (fun hc => ?_); (simp only [go_sem, h17, s12, s13, hx, hy]; exact rfl); all_goals (try simp only [go_sem, hc, h17, s12, s13, hx, hy]); all_goals (try simp only [go_sem, h17, s12, s13, hx, hy] at hc); all_goals (try (exfalso; omega)))
        | refine And.intro (by first | omega | exact trivial | rfl | assumption | (apply map_sz; intro a; simp only [go_sem]; done) | ((and_intros <;> first | omega | exact trivial | rfl | assumption | (apply map_sz; intro a; simp only [go_sem]; done) | fail); done) | fail) ?_
        | fail)
      · exact (by repeat (first | exact Keep.of (by assumption) | exact Keep.rfl' _ _ | refine Keep.set ?_ (by rfl) | refine Keep.tick ?_))
      · simp only [go_sem, h14, hv]
end
end Go.Proofs.Ytmeekpinkfpnhaa

namespace Go.Proofs.Ytmeekpinkfpnhaa
open Go.RowKit
set_option linter.unusedSimpArgs false
set_option linter.unusedSectionVars false

section
variable {ps pt : List Tm} {la lb : List (List Int)} {T x y : Nm} {nm : Nat → Nm} {i j : Nat} {w0 : World} {Q : Exit → St → Prop}
variable (hi : i < ps.length) (hj : j < pt.length) (hi' : i < la.length) (hj' : j < lb.length) (hT : T ≠ nm i) (hnm : ∀ a, a < i → nm a ≠ nm i)
variable (hsa : ∀ (n : Nat) (h : n < la[i].length), ∃ a : Nat, la[i][n] = (a : Int) ∧ a < i) (hta : ∀ (n : Nat) (h : n < lb[j].length), ∃ a : Nat, lb[j][n] = (a : Int) ∧ a < j)
variable (hla : la[i].length ≤ 4000000) (hlb : lb[j].length ≤ 4000000)
include hi hj hi' hj' hT hnm hsa hta hla hlb

theorem gre_pick (σ : St) (hc : GCx ps pt la lb T x y nm i j σ) (yes all : Bool) (h14 : σ.t 14 = bA yes) (h17 : σ.t 17 = bA all) (hall : all = true → ps[i].f = pt[j].f → la[i].length = lb[j].length)
    (hv : (if (all && ps[i].f == pt[j].f) = true then (if (all && decide (pt[j].f < ps[i].f)) = true then true else yes) || lexi (sameN ps pt) (gtN ps pt) la[i] lb[j] else if (all && decide (pt[j].f < ps[i].f)) = true then true else yes) = gtN ps pt (i, j))
    (hQ : ∀ σ', GPost ps pt nm i j σ σ' → Q .normal σ') {N : Nat} {c : Code} (hN : (Try.f16).ntmps = N) (hc : bodyAt (Try.f16) [true,true,true,true,false,true,false,false,true,false,false,true,true,false,false,true,false,false,true,true,true,true,true] = some c) : awp Try.prog w0 N c Q σ := by
  have fin : ∀ σ1, GKeep σ σ1 → ∀ y1, σ1.t 14 = bA y1 → (if (all && decide (pt[j].f < ps[i].f)) = true then true else yes) = y1 → σ1.t 17 = bA all → ∀ {c' : Code}, bodyAt (Try.f16) [true,true,true,true,false,true,false,false,true,false,false,true,true,false,false,true,false,false,true,true,true,true,true,true] = some c' → awp Try.prog w0 N c' Q σ1 := by
    intro σ1 g1 y1 g2 g3 g4 c' hc'
    exact gre_lex hi hj hi' hj' hT hnm hsa hta hla hlb σ1 (g1.cx ‹_›) _ all g2 g4 hall (by rw [← g3]; exact hv) (fun σ' hp => hQ σ' (g1.post hp)) hN hc'
  obtain rfl := (Try.ntmps16).symm.trans hN; obtain rfl := Option.some.inj (show some _ = some c from hc); clear hN hc
  obtain ⟨s5, s6, s7, s8, s9, s10, s11, s12, s13, hx, hy, hTT, hr, hii⟩ := id hc
  have hx := hx hi
  have hy := hy hj
  cases all with
  | true =>
    by_cases hf : pt[j].f < ps[i].f
    · repeat' (first
        | refine fin _ ?_ true ?_ ?_ ?_ rfl
        | refine awp_seq_k fun K hK => ?_
        | (refine awp_region_k (by kernel_rfl) fun R hR => ?_; simp only [go_sem, h17, s12, s13, hx, hy, hf, gt_iff_lt])
        | (refine awp_draw mixed (by kernel_rfl) (by kernel_rfl) fun R hR => ?_; simp only [go_sem, h17, s12, s13, hx, hy, hf, gt_iff_lt])
        | (refine hR _ ?_; clear hR R; try simp only [thenA, inBlockA, reduceIte, reduceCtorEq, Nat.reduceEqDiff, if_false, if_true])
        | (refine hK _ ?_; clear hK K)
        | (clear hK K; refine hK _ ?_; clear hK K)
        | (clear hK K; clear hK K; refine hK _ ?_; clear hK K)
        | (clear hK K; clear hK K; clear hK K; refine hK _ ?_; clear hK K)
        | (clear hK K; clear hK K; clear hK K; clear hK K; refine hK _ ?_; clear hK K)
        | refine awp_true rfl rfl ?_
        | refine awp_false rfl rfl ?_
        | (refine awp_cond rfl rfl (fun hc => ?_) (fun hc => ?_) <;> (try simp only [go_sem, h17, s12, s13, hx, hy, hf, gt_iff_lt] at hc) <;> (try (exfalso; omega)))
        | refine awp_block ?_
        | (refine awp_skip ?_; try simp only [thenA, inBlockA, reduceIte, reduceCtorEq, Nat.reduceEqDiff, if_false, if_true])
        | (refine awp_exit ?_; try simp only [thenA, inBlockA, reduceIte, reduceCtorEq, Nat.reduceEqDiff, if_false, if_true])
        | (refine awp_ret ?_; try simp only [thenA, inBlockA, reduceIte, reduceCtorEq, Nat.reduceEqDiff, if_false, if_true])
        | (refine runL_split ?_ (fun hc => ?_) (fun hc => ?_); (simp only [go_sem, h17, s12, s13, hx, hy, hf, gt_iff_lt]; exact rfl); all_goals (try simp only [go_sem, hc, h17, s12, s13, hx, hy, hf, gt_iff_lt]); all_goals (try simp only [go_sem, h17, s12, s13, hx, hy, hf, gt_iff_lt] at hc); all_goals (try (exfalso; omega)))
        | (refine runD_split ?_ (fun hc => ?_) (fun hc => ?_); (simp only [go_sem, h17, s12, s13, hx, hy, hf, gt_iff_lt]; exact rfl); all_goals (try simp only [go_sem, hc, h17, s12, s13, hx, hy, hf, gt_iff_lt]); all_goals (try simp only [go_sem, h17, s12, s13, hx, hy, hf, gt_iff_lt] at hc); all_goals (try (exfalso; omega)))
        | refine And.intro (by first | omega | exact trivial | rfl | assumption | (apply map_sz; intro a; simp only [go_sem]; done) | ((and_intros <;> first | omega | exact trivial | rfl | assumption | (apply map_sz; intro a; simp only [go_sem]; done) | fail); done) | fail) ?_
        | fail)
      · exact (by repeat (first | exact Keep.of (by assumption) | exact Keep.rfl' _ _ | refine Keep.set ?_ (by rfl) | refine Keep.tick ?_))
      · simp only [go_sem]
      · simp only [go_sem, hf]
      · simp only [go_sem, h17]
    · repeat' (first
        | refine fin _ ?_ yes ?_ ?_ ?_ rfl
        | refine awp_seq_k fun K hK => ?_
        | (refine awp_region_k (by kernel_rfl) fun R hR => ?_; simp only [go_sem, h17, s12, s13, hx, hy, hf, gt_iff_lt])
        | (refine awp_draw mixed (by kernel_rfl) (by kernel_rfl) fun R hR => ?_; simp only [go_sem, h17, s12, s13, hx, hy, hf, gt_iff_lt])
        | (refine hR _ ?_; clear hR R; try simp only [thenA, inBlockA, reduceIte, reduceCtorEq, Nat.reduceEqDiff, if_false, if_true])
        | (refine hK _ ?_; clear hK K)
        | (clear hK K; refine hK _ ?_; clear hK K)
        | (clear hK K; clear hK K; refine hK _ ?_; clear hK K)
        | (clear hK K; clear hK K; clear hK K; refine hK _ ?_; clear hK K)
        | (clear hK K; clear hK K; clear hK K; clear hK K; refine hK _ ?_; clear hK K)
        | refine awp_true rfl rfl ?_
        | refine awp_false rfl rfl ?_
        | (refine awp_cond rfl rfl (fun hc => ?_) (fun hc => ?_) <;> (try simp only [go_sem, h17, s12, s13, hx, hy, hf, gt_iff_lt] at hc) <;> (try (exfalso; omega)))
        | refine awp_block ?_
        | (refine awp_skip ?_; try simp only [thenA, inBlockA, reduceIte, reduceCtorEq, Nat.reduceEqDiff, if_false, if_true])
        | (refine awp_exit ?_; try simp only [thenA, inBlockA, reduceIte, reduceCtorEq, Nat.reduceEqDiff, if_false, if_true])
        | (refine awp_ret ?_; try simp only [thenA, inBlockA, reduceIte, reduceCtorEq, Nat.reduceEqDiff, if_false, if_true])
        | (refine runL_split ?_ (fun hc => ?_) (fun hc => ?_); (simp only [go_sem, h17, s12, s13, hx, hy, hf, gt_iff_lt]; exact rfl); all_goals (try simp only [go_sem, hc, h17, s12, s13, hx, hy, hf, gt_iff_lt]); all_goals (try simp only [go_sem, h17, s12, s13, hx, hy, hf, gt_iff_lt] at hc); all_goals (try (exfalso; omega)))
        | (refine runD_split ?_ (fun hc => ?_) (fun hc => ?_); (simp only [go_sem, h17, s12, s13, hx, hy, hf, gt_iff_lt]; exact rfl); all_goals (try simp only [go_sem, hc, h17, s12, s13, hx, hy, hf, gt_iff_lt]); all_goals (try simp only [go_sem, h17, s12, s13, hx, hy, hf, gt_iff_lt] at hc); all_goals (try (exfalso; omega)))
        | refine And.intro (by first | omega | exact trivial | rfl | assumption | (apply map_sz; intro a; simp only [go_sem]; done) | ((and_intros <;> first | omega | exact trivial | rfl | assumption | (apply map_sz; intro a; simp only [go_sem]; done) | fail); done) | fail) ?_
        | fail)
      · exact (by repeat (first | exact Keep.of (by assumption) | exact Keep.rfl' _ _ | refine Keep.set ?_ (by rfl) | refine Keep.tick ?_))
      · simp only [go_sem, h14]
      · simp only [go_sem, hf]
      · simp only [go_sem, h17]
  | false =>
    repeat' (first
      | refine fin _ ?_ yes ?_ ?_ ?_ rfl
      | refine awp_seq_k fun K hK => ?_
      | (refine awp_region_k (by kernel_rfl) fun R hR => ?_; simp only [go_sem, h17, s12, s13, hx, hy])
      | (refine awp_draw mixed (by kernel_rfl) (by kernel_rfl) fun R hR => ?_; simp only [go_sem, h17, s12, s13, hx, hy])
      | (refine hR _ ?_; clear hR R; try simp only [thenA, inBlockA, reduceIte, reduceCtorEq, Nat.reduceEqDiff, if_false, if_true])
      | (refine hK _ ?_; clear hK K)
      | (clear hK K; refine hK _ ?_; clear hK K)
      | (clear hK K; clear hK K; refine hK _ ?_; clear hK K)
      | (clear hK K; clear hK K; clear hK K; refine hK _ ?_; clear hK K)
      | (clear hK K; clear hK K; clear hK K; clear hK K; refine hK _ ?_; clear hK K)
      | refine awp_true rfl rfl ?_
      | refine awp_false rfl rfl ?_
      | (refine awp_cond rfl rfl (fun hc => ?_) (fun hc => ?_) <;> (try simp only [go_sem, h17, s12, s13, hx, hy] at hc) <;> (try (exfalso; omega)))
      | refine awp_block ?_
      | (refine awp_skip ?_; try simp only [thenA, inBlockA, reduceIte, reduceCtorEq, Nat.reduceEqDiff, if_false, if_true])
      | (refine awp_exit ?_; try simp only [thenA, inBlockA, reduceIte, reduceCtorEq, Nat.reduceEqDiff, if_false, if_true])
      | (refine awp_ret ?_; try simp only [thenA, inBlockA, reduceIte, reduceCtorEq, Nat.reduceEqDiff, if_false, if_true])
      | (refine runL_split ?_ (fun hc => ?_) (fun hc => ?_); (simp only [go_sem, h17, s12, s13, hx, hy]; exact rfl); all_goals (try simp only [go_sem, hc, h17, s12, s13, hx, hy]); all_goals (try simp only [go_sem, h17, s12, s13, hx, hy] at hc); all_goals (try (exfalso; omega)))
      | (refine runD_split ?_ (fun hc => ?_) (fun hc => ?_); (simp only [go_sem, h17, s12, s13, hx, hy]; exact rfl); all_goals (try simp only [go_sem, hc, h17, s12, s13, hx, hy]); all_goals (try simp only [go_sem, h17, s12, s13, hx, hy] at hc); all_goals (try (exfalso; omega)))
      | refine And.intro (by first | omega | exact trivial | rfl | assumption | (apply map_sz; intro a; simp only [go_sem]; done) | ((and_intros <;> first | omega | exact trivial | rfl | assumption | (apply map_sz; intro a; simp only [go_sem]; done) | fail); done) | fail) ?_
      | fail)
    · exact (by repeat (first | exact Keep.of (by assumption) | exact Keep.rfl' _ _ | refine Keep.set ?_ (by rfl) | refine Keep.tick ?_))
    · simp only [go_sem, h14]
    · simp only [go_sem]
    · simp only [go_sem, h17]

theorem gre_all (σ : St) (hc : GCx ps pt la lb T x y nm i j σ) (yes base : Bool) (h14 : σ.t 14 = bA yes) (h17 : σ.t 17 = bA base) (hall : base = true → ps[i].f = pt[j].f → la[i].length = lb[j].length)
    (hv : ∀ all, all = (base && lb[j].all fun b => gtN ps pt (i, b)) → (if (all && ps[i].f == pt[j].f) = true then (if (all && decide (pt[j].f < ps[i].f)) = true then true else yes) || lexi (sameN ps pt) (gtN ps pt) la[i] lb[j] else if (all && decide (pt[j].f < ps[i].f)) = true then true else yes) = gtN ps pt (i, j))
    (hQ : ∀ σ', GPost ps pt nm i j σ σ' → Q .normal σ') {N : Nat} {c : Code} (hN : (Try.f16).ntmps = N) (hc : bodyAt (Try.f16) [true,true,true,true,false,true,false,false,true,false,false,true,true,false,false,true,false,false,true,true,true,true] = some c) : awp Try.prog w0 N c Q σ := by
  have fin : ∀ σ1, GKeep σ σ1 → ∀ all, all = (base && lb[j].all fun b => gtN ps pt (i, b)) → σ1.t 14 = bA yes → σ1.t 17 = bA all → ∀ {c' : Code}, bodyAt (Try.f16) [true,true,true,true,false,true,false,false,true,false,false,true,true,false,false,true,false,false,true,true,true,true,true] = some c' → awp Try.prog w0 N c' Q σ1 := by
    intro σ1 g1 all g2 g3 g4 c' hc'
    refine gre_pick hi hj hi' hj' hT hnm hsa hta hla hlb σ1 (g1.cx ‹_›) _ all g3 g4 (fun h => hall ?_) (hv all g2) (fun σ' hp => hQ σ' (g1.post hp)) hN hc'
    rw [g2, Bool.and_eq_true] at h; exact h.1
  obtain rfl := (Try.ntmps16).symm.trans hN; obtain rfl := Option.some.inj (show some _ = some c from hc); clear hN hc
  have eb : (lb.map gI).getD j default = gI lb[j] := nth_map gI hj' _
  repeat' (first
    | refine awp_seq_k fun K hK => ?_
    | (refine awp_region_k (by kernel_rfl) fun R hR => ?_; simp only [go_sem])
    | (refine awp_draw mixed (by kernel_rfl) (by kernel_rfl) fun R hR => ?_; simp only [go_sem])
    | (refine hR _ ?_; clear hR R; try simp only [thenA, inBlockA, reduceIte, reduceCtorEq, Nat.reduceEqDiff, if_false, if_true])
    | (refine hK _ ?_; clear hK K)
    | (clear hK K; refine hK _ ?_; clear hK K)
    | (clear hK K; clear hK K; refine hK _ ?_; clear hK K)
    | (clear hK K; clear hK K; clear hK K; refine hK _ ?_; clear hK K)
    | (clear hK K; clear hK K; clear hK K; clear hK K; refine hK _ ?_; clear hK K)
    | refine awp_true rfl rfl ?_
    | refine awp_false rfl rfl ?_
    | (refine awp_cond rfl rfl (fun hc => ?_) (fun hc => ?_) <;> (try simp only [go_sem] at hc) <;> (try (exfalso; omega)))
    | refine awp_block ?_
    | (refine awp_skip ?_; try simp only [thenA, inBlockA, reduceIte, reduceCtorEq, Nat.reduceEqDiff, if_false, if_true])
    | (refine awp_exit ?_; try simp only [thenA, inBlockA, reduceIte, reduceCtorEq, Nat.reduceEqDiff, if_false, if_true])
    | (refine awp_ret ?_; try simp only [thenA, inBlockA, reduceIte, reduceCtorEq, Nat.reduceEqDiff, if_false, if_true])
    | (refine runL_split ?_ (fun hc => ?_) (fun hc => ?_); (simp only [go_sem]; exact rfl); all_goals (try simp only [go_sem, hc]); all_goals (try simp only [go_sem] at hc); all_goals (try (exfalso; omega)))
    | (refine runD_split ?_ (fun hc => ?_) (fun hc => ?_); (simp only [go_sem]; exact rfl); all_goals (try simp only [go_sem, hc]); all_goals (try simp only [go_sem] at hc); all_goals (try (exfalso; omega)))
    | refine And.intro (by first | omega | exact trivial | rfl | assumption | (apply map_sz; intro a; simp only [go_sem]; done) | ((and_intros <;> first | omega | exact trivial | rfl | assumption | (apply map_sz; intro a; simp only [go_sem]; done) | fail); done) | fail) ?_
    | fail)
  refine awp_loop (fun τ => ∃ (n : Nat) (cur : Bool), GKeep σ τ ∧ τ.t 14 = bA yes ∧ τ.t 17 = bA cur ∧ τ.t 18 = iA n ∧ n ≤ lb[j].length ∧ (cur && (lb[j].drop n).all fun b => gtN ps pt (i, b)) = (base && lb[j].all fun b => gtN ps pt (i, b))) (fun τ => lb[j].length - (intOf' (τ.t 18)).toNat) ?_ ?_
  · refine ⟨0, base, (by repeat (first | exact Keep.of (by assumption) | exact Keep.rfl' _ _ | refine Keep.set ?_ (by rfl) | refine Keep.tick ?_)), ?_⟩
    simp only [go_sem, h14, h17, List.drop_zero]
    and_intros; all_goals try (first | rfl | omega | assumption | ((repeat (first | exact Fr.rfl' _ _ | assumption | refine Fr.updk ?_ (by omega) _)); done))
  · rintro τ ⟨n, cur, hk, t14, t17, t18, hn, hcur⟩
    obtain ⟨u5, u6, u7, u8, u9, u10, u11, u12, u13, ux, uy, uT, ur, ui⟩ := hk.cx hc
    rcases Nat.lt_or_ge n lb[j].length with hlt | hge
    · have hlz : (n : Int) < (lb[j].length : Int) := by omega
      obtain ⟨q, eq', hq⟩ := hta n hlt
      have k1 : (tabA nm ps.length pt.length (i + 1)).getD i .junk = .arr (nm i) 0 pt.length := tabA_at (by omega) hi
      have k2 : (rowA ps pt i j).getD q .junk = bA (gtN ps pt (i, q)) := rowA_at hq (by omega)
      have f2 : (lb[j].map iD).getD n default = iD q := by rw [nth_map iD hlt, eq']
      have hd : (lb[j].drop n).all (fun b => gtN ps pt (i, b)) = (gtN ps pt (i, q) && (lb[j].drop (n + 1)).all fun b => gtN ps pt (i, b)) := by
        rw [List.drop_eq_getElem_cons hlt, List.all_cons, eq']
      rw [hd, ← Bool.and_assoc] at hcur
      cases cur with
      | true =>
        repeat' (first
          | refine awp_seq_k fun K hK => ?_
          | (refine awp_region_k (by kernel_rfl) fun R hR => ?_; simp only [go_sem, t17, t18, u8, u9, u10, u11, eb, hlz, uT, ui, k1, k2, f2, Int.toNat_natCast, Nat.mul_one, tabA_len, rowA_len])
          | (refine awp_draw mixed (by kernel_rfl) (by kernel_rfl) fun R hR => ?_; simp only [go_sem, t17, t18, u8, u9, u10, u11, eb, hlz, uT, ui, k1, k2, f2, Int.toNat_natCast, Nat.mul_one, tabA_len, rowA_len])
          | (refine hR _ ?_; clear hR R; try simp only [thenA, inBlockA, reduceIte, reduceCtorEq, Nat.reduceEqDiff, if_false, if_true])
          | (refine hK _ ?_; clear hK K)
          | (clear hK K; refine hK _ ?_; clear hK K)
          | (clear hK K; clear hK K; refine hK _ ?_; clear hK K)
          | (clear hK K; clear hK K; clear hK K; refine hK _ ?_; clear hK K)
          | (clear hK K; clear hK K; clear hK K; clear hK K; refine hK _ ?_; clear hK K)
          | refine awp_true rfl rfl ?_
          | refine awp_false rfl rfl ?_
          | (refine awp_cond rfl rfl (fun hc => ?_) (fun hc => ?_) <;> (try simp only [go_sem, t17, t18, u8, u9, u10, u11, eb, hlz, uT, ui, k1, k2, f2, Int.toNat_natCast, Nat.mul_one, tabA_len, rowA_len] at hc) <;> (try (exfalso; omega)))
          | refine awp_block ?_
          | (refine awp_skip ?_; try simp only [thenA, inBlockA, reduceIte, reduceCtorEq, Nat.reduceEqDiff, if_false, if_true])
          | (refine awp_exit ?_; try simp only [thenA, inBlockA, reduceIte, reduceCtorEq, Nat.reduceEqDiff, if_false, if_true])
          | (refine awp_ret ?_; try simp only [thenA, inBlockA, reduceIte, reduceCtorEq, Nat.reduceEqDiff, if_false, if_true])
          | (refine runL_split ?_ (fun hc => ?_) (fun hc => ?_); (simp only [go_sem, t17, t18, u8, u9, u10, u11, eb, hlz, uT, ui, k1, k2, f2, Int.toNat_natCast, Nat.mul_one, tabA_len, rowA_len]; exact rfl); all_goals (try simp only [go_sem, hc, t17, t18, u8, u9, u10, u11, eb, hlz, uT, ui, k1, k2, f2, Int.toNat_natCast, Nat.mul_one, tabA_len, rowA_len]); all_goals (try simp only [go_sem, t17, t18, u8, u9, u10, u11, eb, hlz, uT, ui, k1, k2, f2, Int.toNat_natCast, Nat.mul_one, tabA_len, rowA_len] at hc); all_goals (try (exfalso; omega)))
          | (refine runD_split ?_ (fun hc => ?_) (fun hc => ?_); (simp only [go_sem, t17, t18, u8, u9, u10, u11, eb, hlz, uT, ui, k1, k2, f2, Int.toNat_natCast, Nat.mul_one, tabA_len, rowA_len]; exact rfl); all_goals (try simp only [go_sem, hc, t17, t18, u8, u9, u10, u11, eb, hlz, uT, ui, k1, k2, f2, Int.toNat_natCast, Nat.mul_one, tabA_len, rowA_len]); all_goals (try simp only [go_sem, t17, t18, u8, u9, u10, u11, eb, hlz, uT, ui, k1, k2, f2, Int.toNat_natCast, Nat.mul_one, tabA_len, rowA_len] at hc); all_goals (try (exfalso; omega)))
          | refine And.intro (by first | omega | exact trivial | rfl | assumption | (apply map_sz; intro a; simp only [go_sem]; done) | ((and_intros <;> first | omega | exact trivial | rfl | assumption | (apply map_sz; intro a; simp only [go_sem]; done) | fail); done) | fail) ?_
          | fail)
        refine ⟨⟨n + 1, gtN ps pt (i, q), (by repeat (first | exact Keep.of (by assumption) | exact Keep.rfl' _ _ | refine Keep.set ?_ (by rfl) | refine Keep.tick ?_)), ?_⟩, ?_⟩
        · simp only [go_sem, t14, t18]
          and_intros; all_goals try (first | rfl | omega | assumption | ((repeat (first | exact Fr.rfl' _ _ | assumption | refine Fr.updk ?_ (by omega) _)); done))
        · simp only [go_sem, t18]; omega
      | false =>
        repeat' (first
          | refine awp_seq_k fun K hK => ?_
          | (refine awp_region_k (by kernel_rfl) fun R hR => ?_; simp only [go_sem, t17, t18, u8, u9, u10, u11, eb, hlz, Int.toNat_natCast])
          | (refine awp_draw mixed (by kernel_rfl) (by kernel_rfl) fun R hR => ?_; simp only [go_sem, t17, t18, u8, u9, u10, u11, eb, hlz, Int.toNat_natCast])
          | (refine hR _ ?_; clear hR R; try simp only [thenA, inBlockA, reduceIte, reduceCtorEq, Nat.reduceEqDiff, if_false, if_true])
          | (refine hK _ ?_; clear hK K)
          | (clear hK K; refine hK _ ?_; clear hK K)
          | (clear hK K; clear hK K; refine hK _ ?_; clear hK K)
          | (clear hK K; clear hK K; clear hK K; refine hK _ ?_; clear hK K)
          | (clear hK K; clear hK K; clear hK K; clear hK K; refine hK _ ?_; clear hK K)
          | refine awp_true rfl rfl ?_
          | refine awp_false rfl rfl ?_
          | (refine awp_cond rfl rfl (fun hc => ?_) (fun hc => ?_) <;> (try simp only [go_sem, t17, t18, u8, u9, u10, u11, eb, hlz, Int.toNat_natCast] at hc) <;> (try (exfalso; omega)))
          | refine awp_block ?_
          | (refine awp_skip ?_; try simp only [thenA, inBlockA, reduceIte, reduceCtorEq, Nat.reduceEqDiff, if_false, if_true])
          | (refine awp_exit ?_; try simp only [thenA, inBlockA, reduceIte, reduceCtorEq, Nat.reduceEqDiff, if_false, if_true])
          | (refine awp_ret ?_; try simp only [thenA, inBlockA, reduceIte, reduceCtorEq, Nat.reduceEqDiff, if_false, if_true])
          | (refine runL_split ?_ (fun hc => ?_) (fun hc => ?_); (simp only [go_sem, t17, t18, u8, u9, u10, u11, eb, hlz, Int.toNat_natCast]; exact rfl); all_goals (try simp only [go_sem, hc, t17, t18, u8, u9, u10, u11, eb, hlz, Int.toNat_natCast]); all_goals (try simp only [go_sem, t17, t18, u8, u9, u10, u11, eb, hlz, Int.toNat_natCast] at hc); all_goals (try (exfalso; omega)))
          | (refine runD_split ?_ (fun hc => ?_) (fun hc => ?_); (simp only [go_sem, t17, t18, u8, u9, u10, u11, eb, hlz, Int.toNat_natCast]; exact rfl); all_goals (try simp only [go_sem, hc, t17, t18, u8, u9, u10, u11, eb, hlz, Int.toNat_natCast]); all_goals (try simp only [go_sem, t17, t18, u8, u9, u10, u11, eb, hlz, Int.toNat_natCast] at hc); all_goals (try (exfalso; omega)))
          | refine And.intro (by first | omega | exact trivial | rfl | assumption | (apply map_sz; intro a; simp only [go_sem]; done) | ((and_intros <;> first | omega | exact trivial | rfl | assumption | (apply map_sz; intro a; simp only [go_sem]; done) | fail); done) | fail) ?_
          | fail)
        refine ⟨⟨n + 1, false, (by repeat (first | exact Keep.of (by assumption) | exact Keep.rfl' _ _ | refine Keep.set ?_ (by rfl) | refine Keep.tick ?_)), ?_⟩, ?_⟩
        · simp only [go_sem, t14, t18]
          and_intros; all_goals try (first | rfl | omega | assumption | ((repeat (first | exact Fr.rfl' _ _ | assumption | refine Fr.updk ?_ (by omega) _)); done))
        · simp only [go_sem, t18]; omega
    · have hge' : n = lb[j].length := by omega
      have hlz : ¬ ((n : Int) < (lb[j].length : Int)) := by omega
      repeat' (first
        | refine fin _ ?_ cur ?_ ?_ ?_ rfl
        | refine awp_seq_k fun K hK => ?_
        | (refine awp_region_k (by kernel_rfl) fun R hR => ?_; simp only [go_sem, t17, t18, u8, u9, u10, u11, eb, hlz, Int.toNat_natCast])
        | (refine awp_draw mixed (by kernel_rfl) (by kernel_rfl) fun R hR => ?_; simp only [go_sem, t17, t18, u8, u9, u10, u11, eb, hlz, Int.toNat_natCast])
        | (refine hR _ ?_; clear hR R; try simp only [thenA, inBlockA, reduceIte, reduceCtorEq, Nat.reduceEqDiff, if_false, if_true])
        | (refine hK _ ?_; clear hK K)
        | (clear hK K; refine hK _ ?_; clear hK K)
        | (clear hK K; clear hK K; refine hK _ ?_; clear hK K)
        | (clear hK K; clear hK K; clear hK K; refine hK _ ?_; clear hK K)
        | (clear hK K; clear hK K; clear hK K; clear hK K; refine hK _ ?_; clear hK K)
        | refine awp_true rfl rfl ?_
        | refine awp_false rfl rfl ?_
        | (refine awp_cond rfl rfl (fun hc => ?_) (fun hc => ?_) <;> (try simp only [go_sem, t17, t18, u8, u9, u10, u11, eb, hlz, Int.toNat_natCast] at hc) <;> (try (exfalso; omega)))
        | refine awp_block ?_
        | (refine awp_skip ?_; try simp only [thenA, inBlockA, reduceIte, reduceCtorEq, Nat.reduceEqDiff, if_false, if_true])
        | (refine awp_exit ?_; try simp only [thenA, inBlockA, reduceIte, reduceCtorEq, Nat.reduceEqDiff, if_false, if_true])
        | (refine awp_ret ?_; try simp only [thenA, inBlockA, reduceIte, reduceCtorEq, Nat.reduceEqDiff, if_false, if_true])
        | (refine runL_split ?_ (fun hc => ?_) (fun hc => ?_); (simp only [go_sem, t17, t18, u8, u9, u10, u11, eb, hlz, Int.toNat_natCast]; exact rfl); all_goals (try simp only [go_sem, hc, t17, t18, u8, u9, u10, u11, eb, hlz, Int.toNat_natCast]); all_goals (try simp only [go_sem, t17, t18, u8, u9, u10, u11, eb, hlz, Int.toNat_natCast] at hc); all_goals (try (exfalso; omega)))
        | (refine runD_split ?_ (fun hc => ?_) (fun hc => ?_); (simp only [go_sem, t17, t18, u8, u9, u10, u11, eb, hlz, Int.toNat_natCast]; exact rfl); all_goals (try simp only [go_sem, hc, t17, t18, u8, u9, u10, u11, eb, hlz, Int.toNat_natCast]); all_goals (try simp only [go_sem, t17, t18, u8, u9, u10, u11, eb, hlz, Int.toNat_natCast] at hc); all_goals (try (exfalso; omega)))
        | refine And.intro (by first | omega | exact trivial | rfl | assumption | (apply map_sz; intro a; simp only [go_sem]; done) | ((and_intros <;> first | omega | exact trivial | rfl | assumption | (apply map_sz; intro a; simp only [go_sem]; done) | fail); done) | fail) ?_
        | fail)
      · exact (by repeat (first | exact Keep.of (by assumption) | exact Keep.rfl' _ _ | refine Keep.set ?_ (by rfl) | refine Keep.tick ?_))
      · rw [← hcur, hge', List.drop_length]; simp
      · simp only [go_sem, t14]
      · simp only [go_sem, t17]
end
end Go.Proofs.Ytmeekpinkfpnhaa

namespace Go.Proofs.Ytmeekpinkfpnhaa
open Go.RowKit
set_option linter.unusedSimpArgs false
set_option linter.unusedSectionVars false

section
variable {ps pt : List Tm} {la lb : List (List Int)} {T x y : Nm} {nm : Nat → Nm} {i j : Nat} {w0 : World} {Q : Exit → St → Prop}
variable (hi : i < ps.length) (hj : j < pt.length) (hi' : i < la.length) (hj' : j < lb.length) (hT : T ≠ nm i) (hnm : ∀ a, a < i → nm a ≠ nm i)
variable (hsa : ∀ (n : Nat) (h : n < la[i].length), ∃ a : Nat, la[i][n] = (a : Int) ∧ a < i) (hta : ∀ (n : Nat) (h : n < lb[j].length), ∃ a : Nat, lb[j][n] = (a : Int) ∧ a < j)
variable (hla : la[i].length ≤ 4000000) (hlb : lb[j].length ≤ 4000000)
variable (hlen : ps[i].v = 0 → pt[j].v = 0 → ps[i].f = pt[j].f → la[i].length = lb[j].length)
variable (hG : grG (sameN ps pt) (gtN ps pt) ps[i].v ps[i].f la[i] pt[j].v pt[j].f lb[j] i j = gtN ps pt (i, j))
include hi hj hi' hj' hT hnm hsa hta hla hlb hlen hG

theorem gre_base (σ : St) (hc : GCx ps pt la lb T x y nm i j σ) (h14 : σ.t 14 = bA (grYes (sameN ps pt) (gtN ps pt) ps[i].v la[i] j))
    (hQ : ∀ σ', GPost ps pt nm i j σ σ' → Q .normal σ') {N : Nat} {c : Code} (hN : (Try.f16).ntmps = N) (hc : bodyAt (Try.f16) [true,true,true,true,false,true,false,false,true,false,false,true,true,false,false,true,false,false,true,true,true] = some c) : awp Try.prog w0 N c Q σ := by
  have fin : ∀ σ1, GKeep σ σ1 → ∀ base, base = (ps[i].v == 0 && pt[j].v == 0 && decide (pt[j].f ≤ ps[i].f)) → σ1.t 14 = bA (grYes (sameN ps pt) (gtN ps pt) ps[i].v la[i] j) → σ1.t 17 = bA base → ∀ {c' : Code}, bodyAt (Try.f16) [true,true,true,true,false,true,false,false,true,false,false,true,true,false,false,true,false,false,true,true,true,true] = some c' → awp Try.prog w0 N c' Q σ1 := by
    intro σ1 g1 base g2 g3 g4 c' hc'
    refine gre_all hi hj hi' hj' hT hnm hsa hta hla hlb σ1 (g1.cx ‹_›) _ base g3 g4 (fun h => ?_) (fun all ha => ?_) (fun σ' hp => hQ σ' (g1.post hp)) hN hc'
    · rw [g2] at h
      simp only [Bool.and_eq_true, beq_iff_eq] at h
      exact hlen h.1.1 h.1.2
    · rw [← hG, ha, g2]; rfl
  obtain rfl := (Try.ntmps16).symm.trans hN; obtain rfl := Option.some.inj (show some _ = some c from hc); clear hN hc
  obtain ⟨s5, s6, s7, s8, s9, s10, s11, s12, s13, hx, hy, hTT, hr, hii⟩ := id hc
  have hx := hx hi
  have hy := hy hj
  by_cases hv : ps[i].v = 0
  · by_cases hv' : pt[j].v = 0
    · repeat' (first
        | refine fin _ ?_ (decide (pt[j].f ≤ ps[i].f)) ?_ ?_ ?_ rfl
        | refine awp_seq_k fun K hK => ?_
        | (refine awp_region_k (by kernel_rfl) fun R hR => ?_; simp only [go_sem, s12, s13, hx, hy, hv, hv', beq_self_eq_true, ge_iff_le])
        | (refine awp_draw mixed (by kernel_rfl) (by kernel_rfl) fun R hR => ?_; simp only [go_sem, s12, s13, hx, hy, hv, hv', beq_self_eq_true, ge_iff_le])
        | (refine hR _ ?_; clear hR R; try simp only [thenA, inBlockA, reduceIte, reduceCtorEq, Nat.reduceEqDiff, if_false, if_true])
        | (refine hK _ ?_; clear hK K)
        | (clear hK K; refine hK _ ?_; clear hK K)
        | (clear hK K; clear hK K; refine hK _ ?_; clear hK K)
        | (clear hK K; clear hK K; clear hK K; refine hK _ ?_; clear hK K)
        | (clear hK K; clear hK K; clear hK K; clear hK K; refine hK _ ?_; clear hK K)
        | refine awp_true rfl rfl ?_
        | refine awp_false rfl rfl ?_
        | (refine awp_cond rfl rfl (fun hc => ?_) (fun hc => ?_) <;> (try simp only [go_sem, s12, s13, hx, hy, hv, hv', beq_self_eq_true, ge_iff_le] at hc) <;> (try (exfalso; omega)))
        | refine awp_block ?_
        | (refine awp_skip ?_; try simp only [thenA, inBlockA, reduceIte, reduceCtorEq, Nat.reduceEqDiff, if_false, if_true])
        | (refine awp_exit ?_; try simp only [thenA, inBlockA, reduceIte, reduceCtorEq, Nat.reduceEqDiff, if_false, if_true])
        | (refine awp_ret ?_; try simp only [thenA, inBlockA, reduceIte, reduceCtorEq, Nat.reduceEqDiff, if_false, if_true])
        | (refine runL_split ?_ (fun hc => ?_) (fun hc => ?_); (simp only [go_sem, s12, s13, hx, hy, hv, hv', beq_self_eq_true, ge_iff_le]; exact rfl); all_goals (try simp only [go_sem, hc, s12, s13, hx, hy, hv, hv', beq_self_eq_true, ge_iff_le]); all_goals (try simp only [go_sem, s12, s13, hx, hy, hv, hv', beq_self_eq_true, ge_iff_le] at hc); all_goals (try (exfalso; omega)))
        | (refine runD_split ?_ (fun hc => ?_) (fun hc => ?_); (simp only [go_sem, s12, s13, hx, hy, hv, hv', beq_self_eq_true, ge_iff_le]; exact rfl); all_goals (try simp only [go_sem, hc, s12, s13, hx, hy, hv, hv', beq_self_eq_true, ge_iff_le]); all_goals (try simp only [go_sem, s12, s13, hx, hy, hv, hv', beq_self_eq_true, ge_iff_le] at hc); all_goals (try (exfalso; omega)))
        | refine And.intro (by first | omega | exact trivial | rfl | assumption | (apply map_sz; intro a; simp only [go_sem]; done) | ((and_intros <;> first | omega | exact trivial | rfl | assumption | (apply map_sz; intro a; simp only [go_sem]; done) | fail); done) | fail) ?_
        | fail)
      · exact (by repeat (first | exact Keep.of (by assumption) | exact Keep.rfl' _ _ | refine Keep.set ?_ (by rfl) | refine Keep.tick ?_))
      · simp [hv, hv']
      · simp only [go_sem, h14]
      · simp only [go_sem]
    · have hv'' : (pt[j].v == 0) = false := by simpa using hv'
      repeat' (first
        | refine fin _ ?_ false ?_ ?_ ?_ rfl
        | refine awp_seq_k fun K hK => ?_
        | (refine awp_region_k (by kernel_rfl) fun R hR => ?_; simp only [go_sem, s12, s13, hx, hy, hv, hv'', beq_self_eq_true])
        | (refine awp_draw mixed (by kernel_rfl) (by kernel_rfl) fun R hR => ?_; simp only [go_sem, s12, s13, hx, hy, hv, hv'', beq_self_eq_true])
        | (refine hR _ ?_; clear hR R; try simp only [thenA, inBlockA, reduceIte, reduceCtorEq, Nat.reduceEqDiff, if_false, if_true])
        | (refine hK _ ?_; clear hK K)
        | (clear hK K; refine hK _ ?_; clear hK K)
        | (clear hK K; clear hK K; refine hK _ ?_; clear hK K)
        | (clear hK K; clear hK K; clear hK K; refine hK _ ?_; clear hK K)
        | (clear hK K; clear hK K; clear hK K; clear hK K; refine hK _ ?_; clear hK K)
        | refine awp_true rfl rfl ?_
        | refine awp_false rfl rfl ?_
        | (refine awp_cond rfl rfl (fun hc => ?_) (fun hc => ?_) <;> (try simp only [go_sem, s12, s13, hx, hy, hv, hv'', beq_self_eq_true] at hc) <;> (try (exfalso; omega)))
        | refine awp_block ?_
        | (refine awp_skip ?_; try simp only [thenA, inBlockA, reduceIte, reduceCtorEq, Nat.reduceEqDiff, if_false, if_true])
        | (refine awp_exit ?_; try simp only [thenA, inBlockA, reduceIte, reduceCtorEq, Nat.reduceEqDiff, if_false, if_true])
        | (refine awp_ret ?_; try simp only [thenA, inBlockA, reduceIte, reduceCtorEq, Nat.reduceEqDiff, if_false, if_true])
        | (refine runL_split ?_ (fun hc => ?_) (fun hc => ?_); (simp only [go_sem, s12, s13, hx, hy, hv, hv'', beq_self_eq_true]; exact rfl); all_goals (try simp only [go_sem, hc, s12, s13, hx, hy, hv, hv'', beq_self_eq_true]); all_goals (try simp only [go_sem, s12, s13, hx, hy, hv, hv'', beq_self_eq_true] at hc); all_goals (try (exfalso; omega)))
        | (refine runD_split ?_ (fun hc => ?_) (fun hc => ?_); (simp only [go_sem, s12, s13, hx, hy, hv, hv'', beq_self_eq_true]; exact rfl); all_goals (try simp only [go_sem, hc, s12, s13, hx, hy, hv, hv'', beq_self_eq_true]); all_goals (try simp only [go_sem, s12, s13, hx, hy, hv, hv'', beq_self_eq_true] at hc); all_goals (try (exfalso; omega)))
        | refine And.intro (by first | omega | exact trivial | rfl | assumption | (apply map_sz; intro a; simp only [go_sem]; done) | ((and_intros <;> first | omega | exact trivial | rfl | assumption | (apply map_sz; intro a; simp only [go_sem]; done) | fail); done) | fail) ?_
        | fail)
      · exact (by repeat (first | exact Keep.of (by assumption) | exact Keep.rfl' _ _ | refine Keep.set ?_ (by rfl) | refine Keep.tick ?_))
      · simp [hv'']
      · simp only [go_sem, h14]
      · simp only [go_sem]
  · have hv'' : (ps[i].v == 0) = false := by simpa using hv
    repeat' (first
      | refine fin _ ?_ false ?_ ?_ ?_ rfl
      | refine awp_seq_k fun K hK => ?_
      | (refine awp_region_k (by kernel_rfl) fun R hR => ?_; simp only [go_sem, s12, s13, hx, hy, hv''])
      | (refine awp_draw mixed (by kernel_rfl) (by kernel_rfl) fun R hR => ?_; simp only [go_sem, s12, s13, hx, hy, hv''])
      | (refine hR _ ?_; clear hR R; try simp only [thenA, inBlockA, reduceIte, reduceCtorEq, Nat.reduceEqDiff, if_false, if_true])
      | (refine hK _ ?_; clear hK K)
      | (clear hK K; refine hK _ ?_; clear hK K)
      | (clear hK K; clear hK K; refine hK _ ?_; clear hK K)
      | (clear hK K; clear hK K; clear hK K; refine hK _ ?_; clear hK K)
      | (clear hK K; clear hK K; clear hK K; clear hK K; refine hK _ ?_; clear hK K)
      | refine awp_true rfl rfl ?_
      | refine awp_false rfl rfl ?_
      | (refine awp_cond rfl rfl (fun hc => ?_) (fun hc => ?_) <;> (try simp only [go_sem, s12, s13, hx, hy, hv''] at hc) <;> (try (exfalso; omega)))
      | refine awp_block ?_
      | (refine awp_skip ?_; try simp only [thenA, inBlockA, reduceIte, reduceCtorEq, Nat.reduceEqDiff, if_false, if_true])
      | (refine awp_exit ?_; try simp only [thenA, inBlockA, reduceIte, reduceCtorEq, Nat.reduceEqDiff, if_false, if_true])
      | (refine awp_ret ?_; try simp only [thenA, inBlockA, reduceIte, reduceCtorEq, Nat.reduceEqDiff, if_false, if_true])
      | (refine runL_split ?_ (fun hc => ?_) (fun hc => ?_); (simp only [go_sem, s12, s13, hx, hy, hv'']; exact rfl); all_goals (try simp only [go_sem, hc, s12, s13, hx, hy, hv'']); all_goals (try simp only [go_sem, s12, s13, hx, hy, hv''] at hc); all_goals (try (exfalso; omega)))
      | (refine runD_split ?_ (fun hc => ?_) (fun hc => ?_); (simp only [go_sem, s12, s13, hx, hy, hv'']; exact rfl); all_goals (try simp only [go_sem, hc, s12, s13, hx, hy, hv'']); all_goals (try simp only [go_sem, s12, s13, hx, hy, hv''] at hc); all_goals (try (exfalso; omega)))
      | refine And.intro (by first | omega | exact trivial | rfl | assumption | (apply map_sz; intro a; simp only [go_sem]; done) | ((and_intros <;> first | omega | exact trivial | rfl | assumption | (apply map_sz; intro a; simp only [go_sem]; done) | fail); done) | fail) ?_
      | fail)
    · exact (by repeat (first | exact Keep.of (by assumption) | exact Keep.rfl' _ _ | refine Keep.set ?_ (by rfl) | refine Keep.tick ?_))
    · simp [hv'']
    · simp only [go_sem, h14]
    · simp only [go_sem]

theorem gre_yes (σ : St) (hc : GCx ps pt la lb T x y nm i j σ) (h14 : σ.t 14 = bA false)
    (hQ : ∀ σ', GPost ps pt nm i j σ σ' → Q .normal σ') {N : Nat} {c : Code} (hN : (Try.f16).ntmps = N) (hc : bodyAt (Try.f16) [true,true,true,true,false,true,false,false,true,false,false,true,true,false,false,true,false,false,true,true] = some c) : awp Try.prog w0 N c Q σ := by
  have fin : ∀ σ1, GKeep σ σ1 → ∀ yes, yes = grYes (sameN ps pt) (gtN ps pt) ps[i].v la[i] j → σ1.t 14 = bA yes → ∀ {c' : Code}, bodyAt (Try.f16) [true,true,true,true,false,true,false,false,true,false,false,true,true,false,false,true,false,false,true,true,true] = some c' → awp Try.prog w0 N c' Q σ1 := by
    intro σ1 g1 yes g2 g3 c' hc'
    exact gre_base hi hj hi' hj' hT hnm hsa hta hla hlb hlen hG σ1 (g1.cx ‹_›) (by rw [g3, g2]) (fun σ' hp => hQ σ' (g1.post hp)) hN hc'
  obtain rfl := (Try.ntmps16).symm.trans hN; obtain rfl := Option.some.inj (show some _ = some c from hc); clear hN hc
  obtain ⟨s5, s6, s7, s8, s9, s10, s11, s12, s13, hx, hy, hTT, hr, hii⟩ := id hc
  have hx := hx hi
  have hy := hy hj
  have ea : (la.map gI).getD i default = gI la[i] := nth_map gI hi' _
  by_cases hv : ps[i].v = 0
  · repeat' (first
      | refine awp_seq_k fun K hK => ?_
      | (refine awp_region_k (by kernel_rfl) fun R hR => ?_; simp only [go_sem, s12, hx, hv, beq_self_eq_true])
      | (refine awp_draw mixed (by kernel_rfl) (by kernel_rfl) fun R hR => ?_; simp only [go_sem, s12, hx, hv, beq_self_eq_true])
      | (refine hR _ ?_; clear hR R; try simp only [thenA, inBlockA, reduceIte, reduceCtorEq, Nat.reduceEqDiff, if_false, if_true])
      | (refine hK _ ?_; clear hK K)
      | (clear hK K; refine hK _ ?_; clear hK K)
      | (clear hK K; clear hK K; refine hK _ ?_; clear hK K)
      | (clear hK K; clear hK K; clear hK K; refine hK _ ?_; clear hK K)
      | (clear hK K; clear hK K; clear hK K; clear hK K; refine hK _ ?_; clear hK K)
      | refine awp_true rfl rfl ?_
      | refine awp_false rfl rfl ?_
      | (refine awp_cond rfl rfl (fun hc => ?_) (fun hc => ?_) <;> (try simp only [go_sem, s12, hx, hv, beq_self_eq_true] at hc) <;> (try (exfalso; omega)))
      | refine awp_block ?_
      | (refine awp_skip ?_; try simp only [thenA, inBlockA, reduceIte, reduceCtorEq, Nat.reduceEqDiff, if_false, if_true])
      | (refine awp_exit ?_; try simp only [thenA, inBlockA, reduceIte, reduceCtorEq, Nat.reduceEqDiff, if_false, if_true])
      | (refine awp_ret ?_; try simp only [thenA, inBlockA, reduceIte, reduceCtorEq, Nat.reduceEqDiff, if_false, if_true])
      | (refine runL_split ?_ (fun hc => ?_) (fun hc => ?_); (simp only [go_sem, s12, hx, hv, beq_self_eq_true]; exact rfl); all_goals (try simp only [go_sem, hc, s12, hx, hv, beq_self_eq_true]); all_goals (try simp only [go_sem, s12, hx, hv, beq_self_eq_true] at hc); all_goals (try (exfalso; omega)))
      | (refine runD_split ?_ (fun hc => ?_) (fun hc => ?_); (simp only [go_sem, s12, hx, hv, beq_self_eq_true]; exact rfl); all_goals (try simp only [go_sem, hc, s12, hx, hv, beq_self_eq_true]); all_goals (try simp only [go_sem, s12, hx, hv, beq_self_eq_true] at hc); all_goals (try (exfalso; omega)))
      | refine And.intro (by first | omega | exact trivial | rfl | assumption | (apply map_sz; intro a; simp only [go_sem]; done) | ((and_intros <;> first | omega | exact trivial | rfl | assumption | (apply map_sz; intro a; simp only [go_sem]; done) | fail); done) | fail) ?_
      | fail)
    let G : Int → Bool := fun a => gtN ps pt (a, j) || sameN ps pt (a, j)
    refine awp_loop (fun τ => ∃ (n : Nat) (cur : Bool), GKeep σ τ ∧ τ.t 14 = bA cur ∧ τ.t 15 = iA n ∧ n ≤ la[i].length ∧ (cur || (la[i].drop n).any G) = la[i].any G) (fun τ => la[i].length - (intOf' (τ.t 15)).toNat) ?_ ?_
    · refine ⟨0, false, (by repeat (first | exact Keep.of (by assumption) | exact Keep.rfl' _ _ | refine Keep.set ?_ (by rfl) | refine Keep.tick ?_)), ?_⟩
      simp only [go_sem, h14, List.drop_zero]
      and_intros; all_goals try (first | rfl | omega | assumption | ((repeat (first | exact Fr.rfl' _ _ | assumption | refine Fr.updk ?_ (by omega) _)); done))
    · rintro τ ⟨n, cur, hk, t14, t15, hn, hcur⟩
      obtain ⟨u5, u6, u7, u8, u9, u10, u11, u12, u13, ux, uy, uT, ur, ui⟩ := hk.cx hc
      have uy := uy hj
      rcases Nat.lt_or_ge n la[i].length with hlt | hge
      · have hlz : (n : Int) < (la[i].length : Int) := by omega
        obtain ⟨p, ep, hp⟩ := hsa n hlt
        have hp' : p < ps.length := by omega
        have k1 : (tabA nm ps.length pt.length (i + 1)).getD p .junk = .arr (nm p) 0 pt.length := tabA_at (by omega) hi
        have k2 : (rowA ps pt p pt.length).getD j .junk = bA (gtN ps pt (p, j)) := rowA_at hj (Nat.le_refl _)
        have k3 := ur p hp
        have f1 : (la[i].map iD).getD n default = iD p := by rw [nth_map iD hlt, ep]
        have f3 : (ps.map tmDV).getD p default = tmDV ps[p] := nth_map tmDV hp' _
        have hs := sameN_at hp' hj
        have hd : (la[i].drop n).any G = (G p || (la[i].drop (n + 1)).any G) := by
          rw [List.drop_eq_getElem_cons hlt, List.any_cons, ep]
        rw [hd, ← Bool.or_assoc] at hcur
        cases cur with
        | true =>
          repeat' (first
            | refine awp_seq_k fun K hK => ?_
            | (refine awp_region_k (by kernel_rfl) fun R hR => ?_; simp only [go_sem, t14, t15, u7, u10, ea, hlz, f1, Int.toNat_natCast])
            | (refine awp_draw mixed (by kernel_rfl) (by kernel_rfl) fun R hR => ?_; simp only [go_sem, t14, t15, u7, u10, ea, hlz, f1, Int.toNat_natCast])
            | (refine hR _ ?_; clear hR R; try simp only [thenA, inBlockA, reduceIte, reduceCtorEq, Nat.reduceEqDiff, if_false, if_true])
            | (refine hK _ ?_; clear hK K)
            | (clear hK K; refine hK _ ?_; clear hK K)
            | (clear hK K; clear hK K; refine hK _ ?_; clear hK K)
            | (clear hK K; clear hK K; clear hK K; refine hK _ ?_; clear hK K)
            | (clear hK K; clear hK K; clear hK K; clear hK K; refine hK _ ?_; clear hK K)
            | refine awp_true rfl rfl ?_
            | refine awp_false rfl rfl ?_
            | (refine awp_cond rfl rfl (fun hc => ?_) (fun hc => ?_) <;> (try simp only [go_sem, t14, t15, u7, u10, ea, hlz, f1, Int.toNat_natCast] at hc) <;> (try (exfalso; omega)))
            | refine awp_block ?_
            | (refine awp_skip ?_; try simp only [thenA, inBlockA, reduceIte, reduceCtorEq, Nat.reduceEqDiff, if_false, if_true])
            | (refine awp_exit ?_; try simp only [thenA, inBlockA, reduceIte, reduceCtorEq, Nat.reduceEqDiff, if_false, if_true])
            | (refine awp_ret ?_; try simp only [thenA, inBlockA, reduceIte, reduceCtorEq, Nat.reduceEqDiff, if_false, if_true])
            | (refine runL_split ?_ (fun hc => ?_) (fun hc => ?_); (simp only [go_sem, t14, t15, u7, u10, ea, hlz, f1, Int.toNat_natCast]; exact rfl); all_goals (try simp only [go_sem, hc, t14, t15, u7, u10, ea, hlz, f1, Int.toNat_natCast]); all_goals (try simp only [go_sem, t14, t15, u7, u10, ea, hlz, f1, Int.toNat_natCast] at hc); all_goals (try (exfalso; omega)))
            | (refine runD_split ?_ (fun hc => ?_) (fun hc => ?_); (simp only [go_sem, t14, t15, u7, u10, ea, hlz, f1, Int.toNat_natCast]; exact rfl); all_goals (try simp only [go_sem, hc, t14, t15, u7, u10, ea, hlz, f1, Int.toNat_natCast]); all_goals (try simp only [go_sem, t14, t15, u7, u10, ea, hlz, f1, Int.toNat_natCast] at hc); all_goals (try (exfalso; omega)))
            | refine And.intro (by first | omega | exact trivial | rfl | assumption | (apply map_sz; intro a; simp only [go_sem]; done) | ((and_intros <;> first | omega | exact trivial | rfl | assumption | (apply map_sz; intro a; simp only [go_sem]; done) | fail); done) | fail) ?_
            | fail)
          refine ⟨⟨n + 1, true, (by repeat (first | exact Keep.of (by assumption) | exact Keep.rfl' _ _ | refine Keep.set ?_ (by rfl) | refine Keep.tick ?_)), ?_⟩, ?_⟩
          · simp only [go_sem, t14, t15]
            and_intros; all_goals try (first | rfl | omega | assumption | ((repeat (first | exact Fr.rfl' _ _ | assumption | refine Fr.updk ?_ (by omega) _)); done))
          · simp only [go_sem, t15]; omega
        | false =>
          cases hg : gtN ps pt (p, j) with
          | true =>
            repeat' (first
              | refine awp_seq_k fun K hK => ?_
              | (refine awp_region_k (by kernel_rfl) fun R hR => ?_; simp only [go_sem, t14, t15, u5, u7, u9, u10, u11, ea, hlz, f1, uT, k1, k2, k3, hg, Int.toNat_natCast, Nat.mul_one, tabA_len, rowA_len])
              | (refine awp_draw mixed (by kernel_rfl) (by kernel_rfl) fun R hR => ?_; simp only [go_sem, t14, t15, u5, u7, u9, u10, u11, ea, hlz, f1, uT, k1, k2, k3, hg, Int.toNat_natCast, Nat.mul_one, tabA_len, rowA_len])
              | (refine hR _ ?_; clear hR R; try simp only [thenA, inBlockA, reduceIte, reduceCtorEq, Nat.reduceEqDiff, if_false, if_true])
              | (refine hK _ ?_; clear hK K)
              | (clear hK K; refine hK _ ?_; clear hK K)
              | (clear hK K; clear hK K; refine hK _ ?_; clear hK K)
              | (clear hK K; clear hK K; clear hK K; refine hK _ ?_; clear hK K)
              | (clear hK K; clear hK K; clear hK K; clear hK K; refine hK _ ?_; clear hK K)
              | refine awp_true rfl rfl ?_
              | refine awp_false rfl rfl ?_
              | (refine awp_cond rfl rfl (fun hc => ?_) (fun hc => ?_) <;> (try simp only [go_sem, t14, t15, u5, u7, u9, u10, u11, ea, hlz, f1, uT, k1, k2, k3, hg, Int.toNat_natCast, Nat.mul_one, tabA_len, rowA_len] at hc) <;> (try (exfalso; omega)))
              | refine awp_block ?_
              | (refine awp_skip ?_; try simp only [thenA, inBlockA, reduceIte, reduceCtorEq, Nat.reduceEqDiff, if_false, if_true])
              | (refine awp_exit ?_; try simp only [thenA, inBlockA, reduceIte, reduceCtorEq, Nat.reduceEqDiff, if_false, if_true])
              | (refine awp_ret ?_; try simp only [thenA, inBlockA, reduceIte, reduceCtorEq, Nat.reduceEqDiff, if_false, if_true])
              | (refine runL_split ?_ (fun hc => ?_) (fun hc => ?_); (simp only [go_sem, t14, t15, u5, u7, u9, u10, u11, ea, hlz, f1, uT, k1, k2, k3, hg, Int.toNat_natCast, Nat.mul_one, tabA_len, rowA_len]; exact rfl); all_goals (try simp only [go_sem, hc, t14, t15, u5, u7, u9, u10, u11, ea, hlz, f1, uT, k1, k2, k3, hg, Int.toNat_natCast, Nat.mul_one, tabA_len, rowA_len]); all_goals (try simp only [go_sem, t14, t15, u5, u7, u9, u10, u11, ea, hlz, f1, uT, k1, k2, k3, hg, Int.toNat_natCast, Nat.mul_one, tabA_len, rowA_len] at hc); all_goals (try (exfalso; omega)))
              | (refine runD_split ?_ (fun hc => ?_) (fun hc => ?_); (simp only [go_sem, t14, t15, u5, u7, u9, u10, u11, ea, hlz, f1, uT, k1, k2, k3, hg, Int.toNat_natCast, Nat.mul_one, tabA_len, rowA_len]; exact rfl); all_goals (try simp only [go_sem, hc, t14, t15, u5, u7, u9, u10, u11, ea, hlz, f1, uT, k1, k2, k3, hg, Int.toNat_natCast, Nat.mul_one, tabA_len, rowA_len]); all_goals (try simp only [go_sem, t14, t15, u5, u7, u9, u10, u11, ea, hlz, f1, uT, k1, k2, k3, hg, Int.toNat_natCast, Nat.mul_one, tabA_len, rowA_len] at hc); all_goals (try (exfalso; omega)))
              | refine And.intro (by first | omega | exact trivial | rfl | assumption | (apply map_sz; intro a; simp only [go_sem]; done) | ((and_intros <;> first | omega | exact trivial | rfl | assumption | (apply map_sz; intro a; simp only [go_sem]; done) | fail); done) | fail) ?_
              | fail)
            refine ⟨⟨n + 1, true, (by repeat (first | exact Keep.of (by assumption) | exact Keep.rfl' _ _ | refine Keep.set ?_ (by rfl) | refine Keep.tick ?_)), ?_⟩, ?_⟩
            · simp only [go_sem, t14, t15]
              and_intros; all_goals try (first | rfl | omega | assumption | ((repeat (first | exact Fr.rfl' _ _ | assumption | refine Fr.updk ?_ (by omega) _)); done))
              rw [← hcur]; simp [G, hg]
            · simp only [go_sem, t15]; omega
          | false =>
            repeat' (first
              | refine awp_seq_k fun K hK => ?_
              | (refine awp_region_k (by kernel_rfl) fun R hR => ?_; simp only [go_sem, t14, t15, u5, u7, u9, u10, u11, u13, uy, ea, hlz, f1, f3, uT, k1, k2, k3, hg, Int.toNat_natCast, Nat.mul_one, tabA_len, rowA_len])
              | (refine awp_draw mixed (by kernel_rfl) (by kernel_rfl) fun R hR => ?_; simp only [go_sem, t14, t15, u5, u7, u9, u10, u11, u13, uy, ea, hlz, f1, f3, uT, k1, k2, k3, hg, Int.toNat_natCast, Nat.mul_one, tabA_len, rowA_len])
              | (refine hR _ ?_; clear hR R; try simp only [thenA, inBlockA, reduceIte, reduceCtorEq, Nat.reduceEqDiff, if_false, if_true])
              | (refine hK _ ?_; clear hK K)
              | (clear hK K; refine hK _ ?_; clear hK K)
              | (clear hK K; clear hK K; refine hK _ ?_; clear hK K)
              | (clear hK K; clear hK K; clear hK K; refine hK _ ?_; clear hK K)
              | (clear hK K; clear hK K; clear hK K; clear hK K; refine hK _ ?_; clear hK K)
              | refine awp_true rfl rfl ?_
              | refine awp_false rfl rfl ?_
              | (refine awp_cond rfl rfl (fun hc => ?_) (fun hc => ?_) <;> (try simp only [go_sem, t14, t15, u5, u7, u9, u10, u11, u13, uy, ea, hlz, f1, f3, uT, k1, k2, k3, hg, Int.toNat_natCast, Nat.mul_one, tabA_len, rowA_len] at hc) <;> (try (exfalso; omega)))
              | refine awp_block ?_
              | (refine awp_skip ?_; try simp only [thenA, inBlockA, reduceIte, reduceCtorEq, Nat.reduceEqDiff, if_false, if_true])
              | (refine awp_exit ?_; try simp only [thenA, inBlockA, reduceIte, reduceCtorEq, Nat.reduceEqDiff, if_false, if_true])
              | (refine awp_ret ?_; try simp only [thenA, inBlockA, reduceIte, reduceCtorEq, Nat.reduceEqDiff, if_false, if_true])
              | (refine runL_split ?_ (fun hc => ?_) (fun hc => ?_); (simp only [go_sem, t14, t15, u5, u7, u9, u10, u11, u13, uy, ea, hlz, f1, f3, uT, k1, k2, k3, hg, Int.toNat_natCast, Nat.mul_one, tabA_len, rowA_len]; exact rfl); all_goals (try simp only [go_sem, hc, t14, t15, u5, u7, u9, u10, u11, u13, uy, ea, hlz, f1, f3, uT, k1, k2, k3, hg, Int.toNat_natCast, Nat.mul_one, tabA_len, rowA_len]); all_goals (try simp only [go_sem, t14, t15, u5, u7, u9, u10, u11, u13, uy, ea, hlz, f1, f3, uT, k1, k2, k3, hg, Int.toNat_natCast, Nat.mul_one, tabA_len, rowA_len] at hc); all_goals (try (exfalso; omega)))
              | (refine runD_split ?_ (fun hc => ?_) (fun hc => ?_); (simp only [go_sem, t14, t15, u5, u7, u9, u10, u11, u13, uy, ea, hlz, f1, f3, uT, k1, k2, k3, hg, Int.toNat_natCast, Nat.mul_one, tabA_len, rowA_len]; exact rfl); all_goals (try simp only [go_sem, hc, t14, t15, u5, u7, u9, u10, u11, u13, uy, ea, hlz, f1, f3, uT, k1, k2, k3, hg, Int.toNat_natCast, Nat.mul_one, tabA_len, rowA_len]); all_goals (try simp only [go_sem, t14, t15, u5, u7, u9, u10, u11, u13, uy, ea, hlz, f1, f3, uT, k1, k2, k3, hg, Int.toNat_natCast, Nat.mul_one, tabA_len, rowA_len] at hc); all_goals (try (exfalso; omega)))
              | (first | (refine CallK.pure (enter47) (sameR_tri ps[p] pt[j]) ?_ ?_; (focus first | ((repeat (first | exact trivial | refine ⟨(by first | exact Or.inl rfl | exact Or.inr rfl), ?_⟩)); done) | (simp only [coL, AV.dat, true_or, or_true, AV.d.injEq, go_sem]; done)); simp only [go_sem, t14, t15, u5, u7, u9, u10, u11, u13, uy, ea, hlz, f1, f3, uT, k1, k2, k3, hg, Int.toNat_natCast, Nat.mul_one, tabA_len, rowA_len]) | (refine CallD.pure (enter47) (sameR_tri ps[p] pt[j]) ?_ ?_; (focus first | ((repeat (first | exact trivial | refine ⟨(by first | exact Or.inl rfl | exact Or.inr rfl), ?_⟩)); done) | (simp only [coL, AV.dat, true_or, or_true, AV.d.injEq, go_sem]; done)); simp only [go_sem, t14, t15, u5, u7, u9, u10, u11, u13, uy, ea, hlz, f1, f3, uT, k1, k2, k3, hg, Int.toNat_natCast, Nat.mul_one, tabA_len, rowA_len]))
              | refine And.intro (by first | omega | exact trivial | rfl | assumption | (apply map_sz; intro a; simp only [go_sem]; done) | ((and_intros <;> first | omega | exact trivial | rfl | assumption | (apply map_sz; intro a; simp only [go_sem]; done) | fail); done) | fail) ?_
              | fail)
            refine ⟨⟨n + 1, same ps[p] pt[j], (by repeat (first | exact Keep.of (by assumption) | exact Keep.rfl' _ _ | refine Keep.set ?_ (by rfl) | refine Keep.tick ?_)), ?_⟩, ?_⟩
            · simp only [go_sem, t14, t15]
              and_intros; all_goals try (first | rfl | omega | assumption | ((repeat (first | exact Fr.rfl' _ _ | assumption | refine Fr.updk ?_ (by omega) _)); done))
              rw [← hcur]; simp [G, hg, hs]
            · simp only [go_sem, t15]; omega
      · have hge' : n = la[i].length := by omega
        have hlz : ¬ ((n : Int) < (la[i].length : Int)) := by omega
        repeat' (first
          | refine fin _ ?_ cur ?_ ?_ rfl
          | refine awp_seq_k fun K hK => ?_
          | (refine awp_region_k (by kernel_rfl) fun R hR => ?_; simp only [go_sem, t14, t15, u7, u10, ea, hlz, Int.toNat_natCast])
          | (refine awp_draw mixed (by kernel_rfl) (by kernel_rfl) fun R hR => ?_; simp only [go_sem, t14, t15, u7, u10, ea, hlz, Int.toNat_natCast])
          | (refine hR _ ?_; clear hR R; try simp only [thenA, inBlockA, reduceIte, reduceCtorEq, Nat.reduceEqDiff, if_false, if_true])
          | (refine hK _ ?_; clear hK K)
          | (clear hK K; refine hK _ ?_; clear hK K)
          | (clear hK K; clear hK K; refine hK _ ?_; clear hK K)
          | (clear hK K; clear hK K; clear hK K; refine hK _ ?_; clear hK K)
          | (clear hK K; clear hK K; clear hK K; clear hK K; refine hK _ ?_; clear hK K)
          | refine awp_true rfl rfl ?_
          | refine awp_false rfl rfl ?_
          | (refine awp_cond rfl rfl (fun hc => ?_) (fun hc => ?_) <;> (try simp only [go_sem, t14, t15, u7, u10, ea, hlz, Int.toNat_natCast] at hc) <;> (try (exfalso; omega)))
          | refine awp_block ?_
          | (refine awp_skip ?_; try simp only [thenA, inBlockA, reduceIte, reduceCtorEq, Nat.reduceEqDiff, if_false, if_true])
          | (refine awp_exit ?_; try simp only [thenA, inBlockA, reduceIte, reduceCtorEq, Nat.reduceEqDiff, if_false, if_true])
          | (refine awp_ret ?_; try simp only [thenA, inBlockA, reduceIte, reduceCtorEq, Nat.reduceEqDiff, if_false, if_true])
          | (refine runL_split ?_ (fun hc => ?_) (fun hc => ?_); (simp only [go_sem, t14, t15, u7, u10, ea, hlz, Int.toNat_natCast]; exact rfl); all_goals (try simp only [go_sem, hc, t14, t15, u7, u10, ea, hlz, Int.toNat_natCast]); all_goals (try simp only [go_sem, t14, t15, u7, u10, ea, hlz, Int.toNat_natCast] at hc); all_goals (try (exfalso; omega)))
          | (refine runD_split ?_ (fun hc => ?_) (fun hc => ?_); (simp only [go_sem, t14, t15, u7, u10, ea, hlz, Int.toNat_natCast]; exact rfl); all_goals (try simp only [go_sem, hc, t14, t15, u7, u10, ea, hlz, Int.toNat_natCast]); all_goals (try simp only [go_sem, t14, t15, u7, u10, ea, hlz, Int.toNat_natCast] at hc); all_goals (try (exfalso; omega)))
          | refine And.intro (by first | omega | exact trivial | rfl | assumption | (apply map_sz; intro a; simp only [go_sem]; done) | ((and_intros <;> first | omega | exact trivial | rfl | assumption | (apply map_sz; intro a; simp only [go_sem]; done) | fail); done) | fail) ?_
          | fail)
        · exact (by repeat (first | exact Keep.of (by assumption) | exact Keep.rfl' _ _ | refine Keep.set ?_ (by rfl) | refine Keep.tick ?_))
        · rw [hge', List.drop_length, List.any_nil, Bool.or_false] at hcur
          rw [hcur]; simp [grYes, hv, G]
        · simp only [go_sem, t14]
  · have hv'' : (ps[i].v == 0) = false := by simpa using hv
    repeat' (first
      | refine fin _ ?_ false ?_ ?_ rfl
      | refine awp_seq_k fun K hK => ?_
      | (refine awp_region_k (by kernel_rfl) fun R hR => ?_; simp only [go_sem, s12, hx, hv''])
      | (refine awp_draw mixed (by kernel_rfl) (by kernel_rfl) fun R hR => ?_; simp only [go_sem, s12, hx, hv''])
      | (refine hR _ ?_; clear hR R; try simp only [thenA, inBlockA, reduceIte, reduceCtorEq, Nat.reduceEqDiff, if_false, if_true])
      | (refine hK _ ?_; clear hK K)
      | (clear hK K; refine hK _ ?_; clear hK K)
      | (clear hK K; clear hK K; refine hK _ ?_; clear hK K)
      | (clear hK K; clear hK K; clear hK K; refine hK _ ?_; clear hK K)
      | (clear hK K; clear hK K; clear hK K; clear hK K; refine hK _ ?_; clear hK K)
      | refine awp_true rfl rfl ?_
      | refine awp_false rfl rfl ?_
      | (refine awp_cond rfl rfl (fun hc => ?_) (fun hc => ?_) <;> (try simp only [go_sem, s12, hx, hv''] at hc) <;> (try (exfalso; omega)))
      | refine awp_block ?_
      | (refine awp_skip ?_; try simp only [thenA, inBlockA, reduceIte, reduceCtorEq, Nat.reduceEqDiff, if_false, if_true])
      | (refine awp_exit ?_; try simp only [thenA, inBlockA, reduceIte, reduceCtorEq, Nat.reduceEqDiff, if_false, if_true])
      | (refine awp_ret ?_; try simp only [thenA, inBlockA, reduceIte, reduceCtorEq, Nat.reduceEqDiff, if_false, if_true])
      | (refine runL_split ?_ (fun hc => ?_) (fun hc => ?_); (simp only [go_sem, s12, hx, hv'']; exact rfl); all_goals (try simp only [go_sem, hc, s12, hx, hv'']); all_goals (try simp only [go_sem, s12, hx, hv''] at hc); all_goals (try (exfalso; omega)))
      | (refine runD_split ?_ (fun hc => ?_) (fun hc => ?_); (simp only [go_sem, s12, hx, hv'']; exact rfl); all_goals (try simp only [go_sem, hc, s12, hx, hv'']); all_goals (try simp only [go_sem, s12, hx, hv''] at hc); all_goals (try (exfalso; omega)))
      | refine And.intro (by first | omega | exact trivial | rfl | assumption | (apply map_sz; intro a; simp only [go_sem]; done) | ((and_intros <;> first | omega | exact trivial | rfl | assumption | (apply map_sz; intro a; simp only [go_sem]; done) | fail); done) | fail) ?_
      | fail)
    · exact (by repeat (first | exact Keep.of (by assumption) | exact Keep.rfl' _ _ | refine Keep.set ?_ (by rfl) | refine Keep.tick ?_))
    · simp [grYes, hv'']
    · simp only [go_sem, h14]
end
end Go.Proofs.Ytmeekpinkfpnhaa
