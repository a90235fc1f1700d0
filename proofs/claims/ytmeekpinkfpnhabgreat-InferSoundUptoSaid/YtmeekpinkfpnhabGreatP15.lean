/- infer. -/
import Derived.Test.YtmeekpinkfpnhabGreatP11
import Derived.Test.YtmeekpinkfpnhabGreatP14
set_option linter.all false
namespace Go.Proofs.YtmeekpinkfpnhabGreat
open Go.RowKit
attribute [local irreducible] CallK CallD
section
variable {P : Program} {ops : Array Oper} {rest : List Oper} {K : St → Prop} {tick i : Nat} {s : St} {dst : Option Tmp} {op : Op} {f : Operand} {args : Array Operand} {ty : TypeId} {pos : String} {after : Array Edge} {guard : Option (Nat × Bool)} {az : List AV} {v : AV} {k : Nat} {h0 : Heap} {N : List Nm} {O O' : Nm → Ob} {l : Nat}
theorem yieldK (hf : s.ev f = .fn (.yield l) [] []) (hY : TriY P l az (stE N O O' v)) (hco : coL (args.toList.map s.ev) az) (ha : Ag k N O h0) (hfr : Fr k h0 s.h)
  (hk : runL P ops tick rest (i + 1) ⟨match dst with | some d => set s.t d v | none => s.t, stH N O' s.h, s.k⟩ K) : ∃ e, YieldOK P tick i f args s e ∧ runL P ops tick rest (i + 1) (s.step ⟨dst, op, ty, pos, after, guard⟩ e) K :=
 ⟨stE N O O' v, ⟨l, az, hf, hco, hY, (ha.fr hfr).rd, (ha.fr hfr).wr⟩, by unfold St.step; rw [stE_apH]; exact hk⟩
end
def yO (y : Nm) (l : Nat) (O : Nm → Ob) (n : Nm) : Ob := if n = y then .cells 104 [.fn (.yield l) [] []] else O n
theorem yO_y (y : Nm) (l : Nat) (O : Nm → Ob) : yO y l O y = .cells 104 [.fn (.yield l) [] []] := if_pos rfl
theorem yO_n {y n : Nm} {l : Nat} {O : Nm → Ob} (h : n ≠ y) : yO y l O n = O n := if_neg h
theorem yO_cl {y : Nm} {l : Nat} {O : Nm → Ob} {N : List Nm} {k : Nat} (h : Cl k N O) : Cl k (y :: N) (yO y l O) := by
 intro n hn x hx
 by_cases e : n = y
 ·subst e; rw [yO_y] at hx; simp [Ob.names, namesL, AV.names] at hx
 ·rw [yO_n e] at hx
  rcases List.mem_cons.1 hn with h1 | h1
  ·exact absurd h1 e
  ·exact h n h1 x hx
theorem yO_ag {y : Nm} {l : Nat} {O : Nm → Ob} {N : List Nm} {k : Nat} {h : Heap} (hy : y ∉ N) (ha : Ag k (y :: N) (yO y l O) h) : Ag k N O h :=
 ⟨fun n hn => let ⟨h1, h2⟩ := ha.get n (List.mem_cons_of_mem _ hn); ⟨h1, by rw [h2, yO_n (fun e => by subst e; exact hy hn)]⟩⟩
def tryI (left right a b : Int) (tu ot : Bool) (pl : List Int) : Inf := ⟨3, left, right, a, b, tu, ot, pl⟩
def tryC (y : Nm) (left right a b : Int) (tu ot : Bool) : List AV := [.ptr y 0, .el (.st [iD left]) 0, .el (.st [iD right]) 0, .el (.st [iD a]) 0, .el (.st [iD b]) 0, .el (.st [bD tu]) 0, .el (.st [bD ot]) 0]
set_option maxRecDepth 20000 in
theorem try1_tri {l : Nat} {y : Nm} {N : List Nm} {O O' : Nm → Ob} (hyN : y ∉ N) (hcl : ∀ k, (∀ n ∈ N, n.1 < k) → Cl k N O') (left right a b : Int) (tu ot : Bool) (pl : List Int) (x : Tm)
  (hY : TriY Tryz.prog l [.d (ifDV (tryI left right a b tu ot pl))] (stE N O O' (bA true))) :
  Tri Tryz.prog 111 ([.d (.sl (pl.map iD)), .d (tmDV x)] ++ tryC y left right a b tu ot) (stE (y :: N) (yO y l O) (yO y l O') (bA true)) := by
 show Tri Tryz.prog 111 [.d (.sl (pl.map iD)), .d (tmDV x), .ptr y 0, .el (.st [iD left]) 0, .el (.st [iD right]) 0, .el (.st [iD a]) 0, .el (.st [iD b]) 0, .el (.st [bD tu]) 0, .el (.st [bD ot]) 0] _
 refine aES Tryz.func111 rfl Tryz.ntmps111 fun w0 h0 k hag => ?_
 have hA := yO_ag hyN hag
 obtain ⟨hy1, hy2⟩ := hag.get y (by simp)
 rw [yO_y] at hy2
 have ny := nmne hy1
 have hNk := notN hA (Nat.le_refl k)
 have hcl' := yO_cl (y := y) (l := l) (hcl k fun n hn => (hag.get n (List.mem_cons_of_mem _ hn)).1)
 repeat' (first | (refine awp_regionY 9 (by kernel_rfl) rfl rfl rfl rfl fun R hR => ?_; simp only [go_sem, hy2, ny, hNk]) | (refine yieldK rfl hY ?_ hA frA ?_; (focus exact ⟨.inr rfl, trivial⟩); simp only [go_sem, hy2, ny, hNk]) | refine aQ fun K hK => ?_ | ((first | refine aK fun R hR => ?_ | refine aD mixed fun R hR => ?_); simp only [go_sem, hy2, ny, hNk]) | ((first | (refine hR _ ?_; clear hR R) | refine aZ rfl ?_); try refine aP ?_) | ((repeat (fail_if_success refine hK _ ?_); clear hK K); refine hK _ ?_; clear hK K) | refine aT ?_ | refine aF ?_ | refine aB ?_ | refine aN ?_ | fail)
 have hf1 : FrN k (y :: N) h0 (stH N O' h0) := fun z hz hzn => by rw [stH_get, if_neg (fun h => hzn (List.mem_cons_of_mem _ h))]
 refine ret_st (okA Tryz.ntmps111 Tryz.results111) (by simp only [resA, resV, Tryz.results111, go_sem]; first | exact .dat rfl | exact Co.t2 (.dat rfl) (.dat rfl) | exact Co.t3 (.dat rfl) (.dat rfl) (.dat rfl)) ?_ ?_ ?_
 ·refine ⟨fun n hn => ⟨(hag.get n hn).1, ?_⟩⟩
  show stH N O' _ n = _
  rw [stH_get]
  by_cases hN : n ∈ N
  ·rw [if_pos hN, yO_n (fun e => by subst e; exact hyN hN)]
  ·rw [if_neg hN]
   obtain rfl : n = y := (List.mem_cons.1 hn).resolve_right hN
   rw [yO_y, ← hy2]
   exact upd_ne _ _ (fun e => by rw [e] at hy1; simp at hy1)
 ·intro z hz hzn
  show stH N O' _ z = _
  rw [stH_get, if_neg (fun h => hzn (List.mem_cons_of_mem _ h))]
  exact upd_ne _ _ (fun e => by rw [e] at hz; simp at hz)
 ·exact hcl'
section
variable {N : List Nm} {g : FuncId} {caps : List AV} (hg : enterOk Tryz.prog g) (hne : N ≠ [])
include hg hne
set_option maxRecDepth 20000 in
theorem walkP0 {O O' : Nm → Ob} (hcl : ∀ k, (∀ n ∈ N, n.1 < k) → Cl k N O') (t : Tm) (hus : t.us = []) (pl : List Int) (hT : Tri Tryz.prog g ([.d (.sl (pl.map iD)), .d (tmDV t)] ++ caps) (stE N O O' (bA true))) :
  Tri Tryz.prog 116 [.d (tmDV t), .d (.sl (pl.map iD)), .fn (.func g) [] caps] (stE N O O' (bA true)) := by
 refine aES Tryz.func116 rfl Tryz.ntmps116 fun w0 h0 k hag => ?_
 have hlt : ∀ n ∈ N, n.1 < k := fun n hn => (hag.get n hn).1
 have hNk := notN hag (Nat.le_refl k)
 have hNk1 := notN hag (k' := k + 1) (by omega)
 have hcl' := hcl k hlt
 repeat' (first | refine aQ fun K hK => ?_ | ((first | refine aK fun R hR => ?_ | refine aD mixed fun R hR => ?_); simp only [go_sem, hNk, hNk1]) | ((first | (refine hR _ ?_; clear hR R) | refine aZ rfl ?_); try refine aP ?_) | ((repeat (fail_if_success refine hK _ ?_); clear hK K); refine hK _ ?_; clear hK K) | refine aT ?_ | refine aF ?_ | refine aB ?_ | ((first | refine CallK.vchg rfl (hg) (hT) ?_ (by assumption) frA ?_ | refine CallD.vchg rfl (hg) (hT) ?_ (by assumption) frA (by assumption) ?_); (focus exact aC); simp only [go_sem, hNk, hNk1]) | refine aN ?_ | fail)
 refine awp_loop (fun σ => σ.t 15 = .d (.sl (t.us.map tmDV)) ∧ σ.t 16 = iA t.us.length ∧ σ.t 17 = iA 0 ∧ Ag k N O' σ.h ∧ FrN k N h0 σ.h ∧ k < σ.k) (fun σ => 0) ?_ ?_
 ·simp only [go_sem, ]
  and_intros; all_goals try (first | rfl | omega | assumption | exact anA)
  ·exact (by repeat (first | assumption | exact Ag.stN (by assumption) _ _ | refine Ag.updk ?_ (by omega) _))
  ·exact (by repeat (first | exact FrN.rfl' _ _ _ | assumption | refine FrN.updk ?_ (by omega) _ | refine FrN.stH ?_ _))
 ·rintro σ ⟨s15, s16, s17, hA, hF, hk⟩
  rw [hus] at s16
  have hz : ¬ ((0 : Int) < (([] : List Tm).length : Int)) := by simp
  repeat' (first | refine aQ fun K hK => ?_ | ((first | refine aK fun R hR => ?_ | refine aD mixed fun R hR => ?_); simp only [go_sem, s16, s17, hz]) | ((first | (refine hR _ ?_; clear hR R) | refine aZ rfl ?_); try refine aP ?_) | ((repeat (fail_if_success refine hK _ ?_); clear hK K); refine hK _ ?_; clear hK K) | refine aT ?_ | refine aF ?_ | refine aB ?_ | refine aN ?_ | fail)
  refine ret_st (okA Tryz.ntmps116 Tryz.results116) ?_ (by repeat (first | assumption | exact Ag.stN (by assumption) _ _ | refine Ag.updk ?_ (by omega) _)) (by repeat (first | exact FrN.rfl' _ _ _ | assumption | refine FrN.updk ?_ (by omega) _ | refine FrN.stH ?_ _)) (by assumption)
  simp only [resA, resV, Tryz.results116, go_sem]
  all_goals try (first | exact .dat rfl | exact Co.t2 (.dat rfl) (.dat rfl) | exact Co.t3 (.dat rfl) (.dat rfl) (.dat rfl))
set_option maxRecDepth 20000 in
theorem walkP1 {O O1 O' : Nm → Ob} (hcl1 : ∀ k, (∀ n ∈ N, n.1 < k) → Cl k N O1) (hcl : ∀ k, (∀ n ∈ N, n.1 < k) → Cl k N O') (t u : Tm) (hus : t.us = [u]) (huu : u.us = []) (pl : List Int) (hpl : pl.length ≤ 1000)
  (hT : Tri Tryz.prog g ([.d (.sl (pl.map iD)), .d (tmDV t)] ++ caps) (stE N O O1 (bA true))) (hU : Tri Tryz.prog g ([.d (.sl ((pl ++ [0]).map iD)), .d (tmDV u)] ++ caps) (stE N O1 O' (bA true))) :
  Tri Tryz.prog 116 [.d (tmDV t), .d (.sl (pl.map iD)), .fn (.func g) [] caps] (stE N O O' (bA true)) := by
 have g3 := walkP0 hg hne hcl u huu (pl ++ [0]) hU
 have epl : (pl ++ [(0 : Int)]).map iD = pl.map iD ++ [iD 0] := by simp
 rw [epl] at g3
 refine aES Tryz.func116 rfl Tryz.ntmps116 fun w0 h0 k hag => ?_
 have hlt : ∀ n ∈ N, n.1 < k := fun n hn => (hag.get n hn).1
 have hNk := notN hag (Nat.le_refl k)
 have hNk1 := notN hag (k' := k + 1) (by omega)
 have hcl1' := hcl1 k hlt
 have hcl' := hcl k hlt
 repeat' (first | refine aQ fun K hK => ?_ | ((first | refine aK fun R hR => ?_ | refine aD mixed fun R hR => ?_); simp only [go_sem, hNk, hNk1]) | ((first | (refine hR _ ?_; clear hR R) | refine aZ rfl ?_); try refine aP ?_) | ((repeat (fail_if_success refine hK _ ?_); clear hK K); refine hK _ ?_; clear hK K) | refine aT ?_ | refine aF ?_ | refine aB ?_ | ((first | refine CallK.vchg rfl (hg) (hT) ?_ (by assumption) frA ?_ | refine CallD.vchg rfl (hg) (hT) ?_ (by assumption) frA (by assumption) ?_); (focus exact aC); simp only [go_sem, hNk, hNk1]) | refine aN ?_ | fail)
 refine awp_loop (fun σ => ∃ (i : Nat), σ.t 1 = .d (.sl (pl.map iD)) ∧ σ.t 2 = .fn (.func g) [] caps ∧ σ.t 15 = .d (.sl [tmDV u]) ∧ σ.t 16 = iA 1 ∧ σ.t 17 = iA i ∧ Ag k N (if i = 0 then O1 else O') σ.h ∧ FrN k N h0 σ.h ∧ k < σ.k ∧ i ≤ 1) (fun σ => 1 - (intOf' (σ.t 17)).toNat) ?_ ?_
 ·refine ⟨0, ?_⟩
  simp only [go_sem, hus]
  and_intros; all_goals try (first | rfl | omega | assumption | exact anA)
  ·exact (by repeat (first | assumption | exact Ag.stN (by assumption) _ _ | refine Ag.updk ?_ (by omega) _))
  ·exact (by repeat (first | exact FrN.rfl' _ _ _ | assumption | refine FrN.updk ?_ (by omega) _ | refine FrN.stH ?_ _))
 ·rintro σ ⟨i, s1', s2, s15, s16, s17, hA, hF, hk, hi⟩
  match i with
  | 0 =>
   rw [if_pos rfl] at hA
   replace s17 : σ.t 17 = iA 0 := s17
   have hz : (0 : Int) < 1 := by decide
   have hN1 := notN hag (k' := σ.k) (by omega)
   have hN2 := notN hag (k' := σ.k + 1) (by omega)
   have hN3 := notN hag (k' := σ.k + 1 + 1) (by omega)
   have hN4 := notN' hag (k' := σ.k + 1) (by omega)
   have hN5 := notN' hag (k' := σ.k + 1 + 1) (by omega)
   have fN := fun r w => farN (N := N) r w
   refine awp_new fun hnew => ?_
   have hnn := hnew.at
   repeat' (first | refine aQ fun K hK => ?_ | ((first | refine aK fun R hR => ?_ | refine aD mixed fun R hR => ?_); simp only [go_sem, s1', s2, s15, s16, s17, hz, epl, hN1, hN2, hN3, hN4, hN5, fN, hnn, Nat.reduceBEq, ite_self, implies_true, Int.toNat_natCast, Int.toNat_zero]) | ((first | (refine hR _ ?_; clear hR R) | refine aZ rfl ?_); try refine aP ?_) | ((repeat (fail_if_success refine hK _ ?_); clear hK K); refine hK _ ?_; clear hK K) | refine aT ?_ | refine aF ?_ | refine aB ?_ | ((first | refine CallK.chg (enter116) (g3) ?_ (by assumption) frA ?_ | refine CallD.chg (enter116) (g3) ?_ (by assumption) frA (by assumption) ?_); (focus exact aC); simp only [go_sem, s1', s2, s15, s16, s17, hz, epl, hN1, hN2, hN3, hN4, hN5, fN, hnn, Nat.reduceBEq, ite_self, implies_true, Int.toNat_natCast, Int.toNat_zero]) | ((first | refine CallK.new rfl (enter127) (clone_ints pl (by omega)) ?_ ?_ ?_ | refine CallD.new rfl (enter127) (clone_ints pl (by omega)) ?_ ?_ ?_); (focus exact aC); (focus (simp only [go_sem, s1', s2, s15, s16, s17, hz, epl, hN1, hN2, hN3, hN4, hN5, fN, hnn, Nat.reduceBEq, ite_self, implies_true, Int.toNat_natCast, Int.toNat_zero]; done)); simp only [go_sem, s1', s2, s15, s16, s17, hz, epl, hN1, hN2, hN3, hN4, hN5, fN, hnn, Nat.reduceBEq, ite_self, implies_true, Int.toNat_natCast, Int.toNat_zero]) | refine aN ?_ | fail)
   refine ⟨⟨1, ?_⟩, ?_⟩
   ·simp only [go_sem, s1', s2, s15, s16, s17]
    and_intros; all_goals try (first | rfl | omega | assumption | exact anA)
    ·exact (by repeat (first | assumption | exact Ag.stN (by assumption) _ _ | refine Ag.updk ?_ (by omega) _))
    ·exact (by repeat (first | exact FrN.rfl' _ _ _ | assumption | refine FrN.updk ?_ (by omega) _ | refine FrN.stH ?_ _))
   ·simp only [go_sem, s17]; omega
  | 1 =>
   rw [if_neg (by decide)] at hA
   have hz : ¬ (((1 : Nat) : Int) < 1) := by decide
   repeat' (first | refine aQ fun K hK => ?_ | ((first | refine aK fun R hR => ?_ | refine aD mixed fun R hR => ?_); simp only [go_sem, s16, s17, hz]) | ((first | (refine hR _ ?_; clear hR R) | refine aZ rfl ?_); try refine aP ?_) | ((repeat (fail_if_success refine hK _ ?_); clear hK K); refine hK _ ?_; clear hK K) | refine aT ?_ | refine aF ?_ | refine aB ?_ | refine aN ?_ | fail)
   refine ret_st (okA Tryz.ntmps116 Tryz.results116) ?_ (by repeat (first | assumption | exact Ag.stN (by assumption) _ _ | refine Ag.updk ?_ (by omega) _)) (by repeat (first | exact FrN.rfl' _ _ _ | assumption | refine FrN.updk ?_ (by omega) _ | refine FrN.stH ?_ _)) (by assumption)
   simp only [resA, resV, Tryz.results116, go_sem]
   all_goals try (first | exact .dat rfl | exact Co.t2 (.dat rfl) (.dat rfl) | exact Co.t3 (.dat rfl) (.dat rfl) (.dat rfl))
  | i + 2 => omega
theorem walkW {O O' : Nm → Ob} (hcl : ∀ k, (∀ n ∈ N, n.1 < k) → Cl k N O') (t : Tm) (h1 : Tri Tryz.prog 116 [.d (tmDV t), .d (.sl (([] : List Int).map iD)), .fn (.func g) [] caps] (stE N O O' (bA true))) :
  Tri Tryz.prog 89 [.d (tmDV t), .fn (.func g) [] caps] (stE N O O' (bA true)) := by
 refine aES Tryz.func89 rfl Tryz.ntmps89 fun w0 h0 k hag => ?_
 have hlt : ∀ n ∈ N, n.1 < k := fun n hn => (hag.get n hn).1
 have hNk := notN hag (Nat.le_refl k)
 have hNk1 := notN hag (k' := k + 1) (by omega)
 have hcl' := hcl k hlt
 repeat' (first | refine aQ fun K hK => ?_ | ((first | refine aK fun R hR => ?_ | refine aD mixed fun R hR => ?_); simp only [go_sem, hNk, hNk1]) | ((first | (refine hR _ ?_; clear hR R) | refine aZ rfl ?_); try refine aP ?_) | ((repeat (fail_if_success refine hK _ ?_); clear hK K); refine hK _ ?_; clear hK K) | refine aT ?_ | refine aF ?_ | refine aB ?_ | ((first | refine CallK.chg (enter116) (h1) ?_ (by assumption) frA ?_ | refine CallD.chg (enter116) (h1) ?_ (by assumption) frA (by assumption) ?_); (focus exact aC); simp only [go_sem, hNk, hNk1]) | refine aN ?_ | fail)
 refine ret_st (okA Tryz.ntmps89 Tryz.results89) ?_ (by repeat (first | assumption | exact Ag.stN (by assumption) _ _ | refine Ag.updk ?_ (by omega) _)) (by repeat (first | exact FrN.rfl' _ _ _ | assumption | refine FrN.updk ?_ (by omega) _ | refine FrN.stH ?_ _)) (by assumption)
 simp only [resA, resV, Tryz.results89, go_sem]
 all_goals try (first | exact .dat rfl | exact Co.t2 (.dat rfl) (.dat rfl) | exact Co.t3 (.dat rfl) (.dat rfl) (.dat rfl))
end
end Go.Proofs.YtmeekpinkfpnhabGreat
