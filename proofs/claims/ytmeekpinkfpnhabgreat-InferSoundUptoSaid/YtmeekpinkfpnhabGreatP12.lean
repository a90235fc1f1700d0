/- Rewriting: what is plain. -/
import Derived.Test.YtmeekpinkfpnhabGreatP06
import Derived.Test.YtmeekpinkfpnhabGreatP08
import Derived.Test.YtmeekpinkfpnhabGreatP10
import Derived.Test.YtmeekpinkfpnhabGreatP11
set_option linter.all false
namespace Go.Proofs.YtmeekpinkfpnhabGreat
open Go.RowKit
theorem co_tm' {k : Nat} {ren : Ren} {t : Tm} {a : AV} (h : a.toD? = some (.sl (t.us.map tmDV))) : Co k ren (.st [iA t.v, iA t.f, a]) (.d (tmDV t)) :=
 .dat (by simp only [AV.toD?, allD, h]; rw [tmDV_eq]; rfl)
section
variable (g : FuncId) (caps : List AV) (ro : List (Nm × Ob)) (step : Tm → Tm × Bool) (hg : enterOk Tryz.prog g)
def MapSpec (t : Tm) : Prop := t.size ≤ 4000000 → (∀ x ∈ pre t, Tri Tryz.prog g ([.d (tmDV x)] ++ caps) (rdE ro (.tup [.d (tmDV (step x).1), bA (step x).2]))) → Tri Tryz.prog 66 [.d (tmDV t), .fn (.func g) [] caps] (rdE ro (.d (tmDV (mapM step t))))
include hg
set_option maxRecDepth 20000 in
theorem mapped_step (t : Tm) (ih : ∀ u ∈ t.us, MapSpec g caps ro step u) : MapSpec g caps ro step t := by
 intro hsz hdo
 have hlen := t.len_lt
 have hd0 := hdo t (by rw [pre_eq]; simp)
 rw [mapM_eq]
 refine aER Tryz.func66 rfl Tryz.ntmps66 fun w0 h0 k hro => ?_
 cases h1 : (step t).2 with
 | true =>
  rw [h1] at hd0
  generalize (step t).1 = u at *
  simp only [if_true]
  repeat' (first | refine aQ fun K hK => ?_ | ((first | refine aK fun R hR => ?_ | refine aD mixed fun R hR => ?_); simp only [go_sem]) | ((first | (refine hR _ ?_; clear hR R) | refine aZ rfl ?_); try refine aP ?_) | ((repeat (fail_if_success refine hK _ ?_); clear hK K); refine hK _ ?_; clear hK K) | refine aT ?_ | refine aF ?_ | refine aB ?_ | ((first | refine CallK.vlook rfl (hg) (hd0) ?_ (by assumption) frA ?_ | refine CallD.vlook rfl (hg) (hd0) ?_ (by assumption) frA (by first | assumption | exact List.cons_ne_nil _ _) ?_); (focus exact aC); simp only [go_sem]) | refine aN ?_ | fail)
  (first | refine ret_pure ?_ ?_ ?_ | refine ret_ro ?_ ?_ ?_); focus exact (okA Tryz.ntmps66 Tryz.results66)
  rotate_left; focus exact frA
  simp only [resA, resV, Tryz.results66, go_sem]
  all_goals try exact coA
  exact co_tm' rfl
 | false =>
  rw [h1] at hd0
  generalize (step t).1 = u at *
  simp only [Bool.false_eq_true, if_false]
  repeat' (first | refine awp_ghost (ghost_nil (i := 7) (e := 63) rfl) ?_ | refine aQ fun K hK => ?_ | ((first | refine aK fun R hR => ?_ | refine aD mixed fun R hR => ?_); simp only [go_sem]) | ((first | (refine hR _ ?_; clear hR R) | refine aZ rfl ?_); try refine aP ?_) | ((repeat (fail_if_success refine hK _ ?_); clear hK K); refine hK _ ?_; clear hK K) | refine aT ?_ | refine aF ?_ | refine aB ?_ | ((first | refine CallK.vlook rfl (hg) (hd0) ?_ (by assumption) frA ?_ | refine CallD.vlook rfl (hg) (hd0) ?_ (by assumption) frA (by first | assumption | exact List.cons_ne_nil _ _) ?_); (focus exact aC); simp only [go_sem]) | refine aN ?_ | fail)
  refine awp_loop (fun σ => ∃ i : Nat, σ.t 1 = .fn (.func g) [] caps ∧ σ.t 2 = .ptr (k, 0) 0 ∧ σ.t 4 = .ptr (k, 1) 0 ∧ σ.t 7 = .own (k + 1 + 1 + 1 + 1, 0) ((mapL step (t.us.take i)).map tmDV) ∧ σ.t 19 = .d (.sl (t.us.map tmDV)) ∧ σ.t 20 = iA t.us.length ∧ σ.t 21 = iA i ∧
   σ.h (k, 0) = some (.cells 63 [iA t.v, iA t.f, .d (.sl (t.us.map tmDV))]) ∧ σ.h (k, 1) = some (.cells 63 [iA 0, iA 0, .nil]) ∧ σ.h (k + 1 + 1 + 1 + 1, 0) = some (.perm 63 (mapL step (t.us.take i)).length) ∧ Fr k h0 σ.h ∧ k + 1 + 1 + 1 + 1 < σ.k ∧ i ≤ t.us.length) (fun σ => t.us.length - (intOf' (σ.t 21)).toNat) ?_ ?_
  ·refine ⟨0, ?_⟩
   simp only [go_sem, List.take_zero, mapL]
   and_intros; all_goals try (first | rfl | omega | assumption | exact anA)
  ·rintro σ ⟨i, s1, s2, s4, s7, s19, s20, s21, sh, sh', sp, hF, hk, hi⟩
   have hne := ltne (show k < σ.k by omega)
   have hne2 := ltne hk
   have hml := mapL_len step (t.us.take i)
   rw [List.length_take] at hml
   rcases Nat.lt_or_ge i t.us.length with hlt | hge
   ·have hz : (i : Int) < (t.us.length : Int) := by omega
    have e1 : (t.us.map tmDV).getD i default = tmDV t.us[i] := nth_map tmDV hlt _
    have hs := Tm.size_at hlt
    have h2 := ih _ (List.getElem_mem hlt) (by omega) (fun x hx => hdo x (by rw [pre_eq]; exact List.mem_cons_of_mem _ (preL_mem (List.getElem_mem hlt) hx)))
    have etk : (mapL step (t.us.take i)).map tmDV ++ [tmDV (mapM step t.us[i])] = (mapL step (t.us.take (i + 1))).map tmDV := by rw [mapL_take hlt]; simp
    repeat' (first | refine aQ fun K hK => ?_ | ((first | refine aK fun R hR => ?_ | refine aD mixed fun R hR => ?_); simp only [go_sem, s1, s2, s4, s7, s19, s20, s21, sh, sh', sp, hz, e1, hne, hne2, List.length_map, Int.toNat_natCast]) | ((first | (refine hR _ ?_; clear hR R) | refine aZ rfl ?_); try refine aP ?_) | ((repeat (fail_if_success refine hK _ ?_); clear hK K); refine hK _ ?_; clear hK K) | refine aT ?_ | refine aF ?_ | refine aB ?_ | ((first | refine CallK.look (enter66) (h2) ?_ (by assumption) frA ?_ | refine CallD.look (enter66) (h2) ?_ (by assumption) frA (by first | assumption | exact List.cons_ne_nil _ _) ?_); (focus exact aC); simp only [go_sem, s1, s2, s4, s7, s19, s20, s21, sh, sh', sp, hz, e1, hne, hne2, List.length_map, Int.toNat_natCast]) | refine aN ?_ | fail)
    refine ⟨⟨i + 1, ?_⟩, ?_⟩
    rotate_left
    ·simp only [go_sem, s1, s2, s4, s7, s19, s20, s21, sh, sh', sp, hne, hne2, etk, List.length_map]; omega
    simp only [go_sem, s1, s2, s4, s7, s19, s20, s21, sh, sh', sp, hne, hne2, etk, List.length_map]
    and_intros; all_goals try (first | rfl | omega | assumption | exact anA)
   ·have hz : ¬ ((i : Int) < (t.us.length : Int)) := by omega
    obtain rfl : i = t.us.length := by omega
    rw [List.take_length] at s7 sp
    repeat' (first | refine aQ fun K hK => ?_ | ((first | refine aK fun R hR => ?_ | refine aD mixed fun R hR => ?_); simp only [go_sem, s1, s2, s4, s7, s20, s21, sh, sh', sp, hz, hne, hne2]) | ((first | (refine hR _ ?_; clear hR R) | refine aZ rfl ?_); try refine aP ?_) | ((repeat (fail_if_success refine hK _ ?_); clear hK K); refine hK _ ?_; clear hK K) | refine aT ?_ | refine aF ?_ | refine aB ?_ | refine aN ?_ | fail)
    (first | refine ret_pure ?_ ?_ ?_ | refine ret_ro ?_ ?_ ?_); focus exact (by simp only [Tryz.results66, resOkL, resOk, Tryz.ntmps66, List.toList_toArray]; first | decide | (simp only [go_sem, s4, hne, hne2]; done) | (simp only [go_sem, s4, hne, hne2]; and_intros <;> first | omega | rfl | decide))
    rotate_left; focus exact frA
    simp only [resA, resV, Tryz.results66, go_sem, s4, hne, hne2]
    all_goals try exact coA
    exact co_tm rfl
theorem mapped_tri : ∀ t : Tm, MapSpec g caps ro step t := Tm.ind (mapped_step g caps ro step hg)
end
set_option maxRecDepth 20000 in
theorem copied1_tri (t : Tm) : Tri Tryz.prog 67 [.d (tmDV t)] (rdE [] (.tup [.d (tmDV t), bA false])) := by
 refine aER Tryz.func67 rfl Tryz.ntmps67 fun w0 h0 k hro => ?_
 repeat' (first | refine aQ fun K hK => ?_ | ((first | refine aK fun R hR => ?_ | refine aD mixed fun R hR => ?_); simp only [go_sem]) | ((first | (refine hR _ ?_; clear hR R) | refine aZ rfl ?_); try refine aP ?_) | ((repeat (fail_if_success refine hK _ ?_); clear hK K); refine hK _ ?_; clear hK K) | refine aT ?_ | refine aF ?_ | refine aB ?_ | refine aN ?_ | fail)
 (first | refine ret_pure ?_ ?_ ?_ | refine ret_ro ?_ ?_ ?_); focus exact (okA Tryz.ntmps67 Tryz.results67)
 rotate_left; focus exact frA
 simp only [resA, resV, Tryz.results67, go_sem]
 all_goals try exact coA
 exact .t2 (co_tm' rfl) (.dat rfl)
set_option maxRecDepth 20000 in
theorem copied_tri (t : Tm) (ht : t.size ≤ 4000000) : Tri Tryz.prog 26 [.d (tmDV t)] (pure' (.d (tmDV t))) := by
 have h := mapped_tri 67 [] [] copyS (enter67) t ht (fun x _ => copied1_tri x)
 rw [copy_id, rdE_nil] at h
 refine aE Tryz.func26 rfl Tryz.ntmps26 fun w0 h0 k hrd hwr => ?_
 repeat' (first | refine aQ fun K hK => ?_ | ((first | refine aK fun R hR => ?_ | refine aD mixed fun R hR => ?_); simp only [go_sem]) | ((first | (refine hR _ ?_; clear hR R) | refine aZ rfl ?_); try refine aP ?_) | ((repeat (fail_if_success refine hK _ ?_); clear hK K); refine hK _ ?_; clear hK K) | refine aT ?_ | refine aF ?_ | refine aB ?_ | ((first | refine CallK.pure (enter66) (h) ?_ ?_ | refine CallD.pure (enter66) (h) ?_ ?_); (focus exact aC); simp only [go_sem]) | refine aN ?_ | fail)
 (first | refine ret_pure ?_ ?_ ?_ | refine ret_ro ?_ ?_ ?_); focus exact (okA Tryz.ntmps26 Tryz.results26)
 rotate_left; focus exact frA
 simp only [resA, resV, Tryz.results26, go_sem]
 all_goals try exact coA
 exact co_tm' rfl
attribute [go_sem] effLook okLook effPut okPut askM mapEs isMapO isNilM isI64
@[go_sem] theorem mapTii : mapT Tryz.prog 98 = some 3 := by kernel_rfl
@[go_sem] theorem zeroDi : zeroD Tryz.prog 3 = .d (.v (.int .i64 0)) := by kernel_rfl
theorem getM_put (k k' : Int) (x : DV) : ∀ es : List (Int × DV), getM k' (putM k x es) = if k' = k then some x else getM k' es
 | [] => by
  unfold putM
  simp only [getM]
 | p :: m => by
  unfold putM
  by_cases h : k = p.1
  ·rw [if_pos h]
   simp only [getM]
   by_cases h2 : k' = k
   ·rw [if_pos h2, if_pos h2]
   ·rw [if_neg h2, if_neg h2, if_neg (by rw [← h]; exact h2)]
  ·rw [if_neg h]
   simp only [getM]
   rw [getM_put k k' x m]
   by_cases h2 : k' = p.1
   ·rw [if_pos h2, if_pos h2, if_neg (by rintro rfl; exact h h2)]
   ·rw [if_neg h2, if_neg h2]
@[go_sem] theorem mapTit : mapT Tryz.prog 133 = some 63 := by kernel_rfl
@[go_sem] theorem zeroDt : zeroD Tryz.prog 63 = .st [.d (.v (.int .i64 0)), .d (.v (.int .i64 0)), .nil] := by kernel_rfl
def bsE (b : Bs) : List (Int × DV) := b.map fun p => (p.1, tmDV p.2)
theorem getM_bs (v : Int) (b : Bs) : getM v (bsE b) = (lookB v b).map tmDV := by
 induction b with
 | nil => rfl
 | cons p b ih =>
  simp only [bsE, List.map_cons, getM, lookB] at ih ⊢
  by_cases h : v = p.1
  ·rw [if_pos h, if_pos h]; rfl
  ·rw [if_neg h, if_neg h]; exact ih
theorem putM_bs {v : Int} {b : Bs} (h : lookB v b = none) (t : Tm) : putM v (tmDV t) (bsE b) = bsE (b ++ [(v, t)]) := by
 induction b with
 | nil => rfl
 | cons p b ih =>
  rw [lookB] at h
  by_cases hv : v = p.1
  ·rw [if_pos hv] at h; cases h
  ·rw [if_neg hv] at h
   have := ih h
   simp only [bsE, List.map_cons, List.cons_append, putM] at this ⊢
   rw [if_neg hv, this]
abbrev bsO (b mm : Nm) (bs : Bs) : List (Nm × Ob) := [(b, .cells 133 [.map mm]), (mm, .map (bsE bs))]
theorem roBs {b mm : Nm} {bs : Bs} {k : Nat} {h : Heap} (h1 : b.1 < k) (h2 : mm.1 < k) (e1 : h b = some (.cells 133 [.map mm])) (e2 : h mm = some (.map (bsE bs))) : RoOK k (bsO b mm bs) h := ⟨fun x hx => by
 simp only [bsO, List.mem_cons, List.not_mem_nil, or_false] at hx
 rcases hx with rfl | rfl
 ·exact ⟨h1, e1⟩
 ·exact ⟨h2, e2⟩⟩
set_option maxHeartbeats 1000000 in
set_option maxRecDepth 20000 in
theorem made1_tri (b mm : Nm) (bs : Bs) (hbs : ∀ p ∈ bs, p.2.size ≤ 4000000) (x : Tm) : Tri Tryz.prog 136 [.d (tmDV x), .ptr b 0] (rdE (bsO b mm bs) (.tup [.d (tmDV (madeS bs x).1), bA (madeS bs x).2])) := by
 have hin : ∀ (bs : Bs) (u : Tm), lookB x.v bs = some u → ∃ p ∈ bs, p.2 = u := by
  intro bs u h
  induction bs with
  | nil => cases h
  | cons p bs ih =>
   rw [lookB] at h
   by_cases hv : x.v = p.1
   ·rw [if_pos hv] at h; cases h; exact ⟨p, by simp, rfl⟩
   ·rw [if_neg hv] at h
    obtain ⟨q, hq, e⟩ := ih h
    exact ⟨q, by simp [hq], e⟩
 refine aER Tryz.func136 rfl Tryz.ntmps136 fun w0 h0 k hro => ?_
 obtain ⟨n1, eb⟩ := hro.get _ (List.mem_cons_self ..)
 obtain ⟨n2, em⟩ := hro.get _ (List.mem_cons_of_mem _ (List.mem_cons_self ..))
 have q1 := nmne n1
 have q2 := nmne n2
 unfold madeS
 cases hb : lookB x.v bs with
 | none =>
  have hg : getM x.v (bsE bs) = none := by rw [getM_bs, hb]; rfl
  dsimp only
  repeat' (first | refine aQ fun K hK => ?_ | ((first | refine aK fun R hR => ?_ | refine aD mixed fun R hR => ?_); simp only [go_sem, eb, em, q1, q2, hg, Option.isSome_none, AV.toD, Option.getD_none]) | ((first | (refine hR _ ?_; clear hR R) | refine aZ rfl ?_); try refine aP ?_) | ((repeat (fail_if_success refine hK _ ?_); clear hK K); refine hK _ ?_; clear hK K) | refine aT ?_ | refine aF ?_ | refine aB ?_ | refine aN ?_ | fail)
  (first | refine ret_pure ?_ ?_ ?_ | refine ret_ro ?_ ?_ ?_); focus exact (okA Tryz.ntmps136 Tryz.results136)
  rotate_left; focus exact frA
  simp only [resA, resV, Tryz.results136, go_sem]
  all_goals try exact coA
  exact .t2 (co_tm' rfl) (.dat rfl)
 | some u =>
  have hg : getM x.v (bsE bs) = some (tmDV u) := by rw [getM_bs, hb]; rfl
  obtain ⟨p, hp, hu⟩ := hin bs u hb
  have hus : u.size ≤ 4000000 := by rw [← hu]; exact hbs p hp
  dsimp only
  cases hv : decide (x.v > 0) with
  | false =>
   rw [if_neg (by simpa using hv)]
   repeat' (first | refine aQ fun K hK => ?_ | ((first | refine aK fun R hR => ?_ | refine aD mixed fun R hR => ?_); simp only [go_sem, eb, em, q1, q2, hg, hv, Option.isSome_some]) | ((first | (refine hR _ ?_; clear hR R) | refine aZ rfl ?_); try refine aP ?_) | ((repeat (fail_if_success refine hK _ ?_); clear hK K); refine hK _ ?_; clear hK K) | refine aT ?_ | refine aF ?_ | refine aB ?_ | refine aN ?_ | fail)
   (first | refine ret_pure ?_ ?_ ?_ | refine ret_ro ?_ ?_ ?_); focus exact (okA Tryz.ntmps136 Tryz.results136)
   rotate_left; focus exact frA
   simp only [resA, resV, Tryz.results136, go_sem]
   all_goals try exact coA
   exact .t2 (co_tm' rfl) (.dat rfl)
  | true =>
   rw [if_pos (by simpa using hv)]
   repeat' (first | refine aQ fun K hK => ?_ | ((first | refine aK fun R hR => ?_ | refine aD mixed fun R hR => ?_); simp only [go_sem, eb, em, q1, q2, hg, hv, Option.isSome_some]) | ((first | (refine hR _ ?_; clear hR R) | refine aZ rfl ?_); try refine aP ?_) | ((repeat (fail_if_success refine hK _ ?_); clear hK K); refine hK _ ?_; clear hK K) | refine aT ?_ | refine aF ?_ | refine aB ?_ | ((first | refine CallK.pure (enter26) (copied_tri u hus) ?_ ?_ | refine CallD.pure (enter26) (copied_tri u hus) ?_ ?_); (focus exact aC); simp only [go_sem, eb, em, q1, q2, hg, hv, Option.isSome_some]) | refine aN ?_ | fail)
   (first | refine ret_pure ?_ ?_ ?_ | refine ret_ro ?_ ?_ ?_); focus exact (okA Tryz.ntmps136 Tryz.results136)
   rotate_left; focus exact frA
   simp only [resA, resV, Tryz.results136, go_sem]
   all_goals try exact coA
   all_goals exact .t2 (co_tm' rfl) (.dat rfl)
set_option maxRecDepth 20000 in
theorem made_tri (mm : Nm) (bs : Bs) (hbs : ∀ p ∈ bs, p.2.size ≤ 4000000) (t : Tm) (ht : t.size ≤ 4000000) : Tri Tryz.prog 122 [.map mm, .d (tmDV t)] (rdE [(mm, .map (bsE bs))] (.d (tmDV (mapM (madeS bs) t)))) := by
 refine aER Tryz.func122 rfl Tryz.ntmps122 fun w0 h0 k hro => ?_
 obtain ⟨n2, em⟩ := hro.get _ (List.mem_cons_self ..)
 have q2 := nmne n2
 have h := mapped_tri 136 [.ptr (k, 0) 0] (bsO (k, 0) mm bs) (madeS bs) (enter136) t ht (fun x _ => made1_tri (k, 0) mm bs hbs x)
 repeat' (first | refine aQ fun K hK => ?_ | ((first | refine aK fun R hR => ?_ | refine aD mixed fun R hR => ?_); simp only [go_sem, em, q2]) | ((first | (refine hR _ ?_; clear hR R) | refine aZ rfl ?_); try refine aP ?_) | ((repeat (fail_if_success refine hK _ ?_); clear hK K); refine hK _ ?_; clear hK K) | refine aT ?_ | refine aF ?_ | refine aB ?_ | ((first | refine CallK.look (enter66) (h) ?_ (roBs (k := k + 1) (Nat.lt_succ_self k) (Nat.lt_succ_of_lt n2) (by simp only [go_sem, q2]) (by simp only [go_sem, em, q2])) (Fr.rfl' _ _) ?_ | refine CallD.look (enter66) (h) ?_ (roBs (k := k + 1) (Nat.lt_succ_self k) (Nat.lt_succ_of_lt n2) (by simp only [go_sem, q2]) (by simp only [go_sem, em, q2])) (Fr.rfl' _ _) (by first | assumption | exact List.cons_ne_nil _ _) ?_); (focus exact aC); simp only [go_sem, em, q2]) | refine aN ?_ | fail)
 (first | refine ret_pure ?_ ?_ ?_ | refine ret_ro ?_ ?_ ?_); focus exact (okA Tryz.ntmps122 Tryz.results122)
 rotate_left; focus exact frA
 simp only [resA, resV, Tryz.results122, go_sem]
 all_goals try exact coA
 all_goals exact co_tm' rfl
def bdDV (p : Int × Tm) : DV := .st [iD p.1, iD p.2.v, iD p.2.f, .sl (p.2.us.map tmDV)]
@[go_sem] theorem bdDV_cells (p : Int × Tm) : (bdDV p).cells = [iD p.1, iD p.2.v, iD p.2.f, .sl (p.2.us.map tmDV)] := (Eq.trans rfl (Eq.refl _))
end Go.Proofs.YtmeekpinkfpnhabGreat
namespace Go.Proofs.YtmeekpinkfpnhabGreat
abbrev tsz (t : Tm) : Nat := (parts t).length
theorem tsz_pos (t : Tm) : 0 < tsz t := by rw [tsz, parts_eq, List.length_append]; simp
theorem tsz_mem {u : Tm} : ∀ {us : List Tm}, u ∈ us → tsz u ≤ (partsL us).length
 | x :: xs, h => by
  rw [partsL, List.length_append]
  rcases List.mem_cons.1 h with rfl | h
  ·simp [tsz]
  ·have := tsz_mem h; omega
theorem tsz_lt {u t : Tm} (h : u ∈ t.us) : tsz u < tsz t := by
 have := tsz_mem h
 rw [tsz, tsz, parts_eq t, List.length_append]; simp; exact Nat.lt_succ_of_le this
def lexG (g : Tm → Tm → Bool) : List Tm → List Tm → Bool
 | a :: l, b :: m => if same a b then lexG g l m else g a b
 | _, _ => false
theorem lexG_congr {g g' : Tm → Tm → Bool} : ∀ {l m : List Tm}, (∀ a ∈ l, ∀ b ∈ m, g a b = g' a b) → lexG g l m = lexG g' l m
 | [], _, _ => by cases ‹List Tm› <;> rfl
 | _ :: _, [], _ => rfl
 | a :: l, b :: m, h => by
  rw [lexG, lexG, h a (by simp) b (by simp), lexG_congr fun x hx y hy => h x (by simp [hx]) y (by simp [hy])]
def gtStep (g : Tm → Tm → Bool) (s t : Tm) : Bool :=
 if s.v > 0 then false
 else if s.us.any (fun a => same a t || g a t) then true
 else if t.v > 0 ∨ s.f < t.f ∨ t.us.any (fun b => !g s b) = true then false
 else if s.f > t.f then true
 else lexG g s.us t.us
theorem gtStep_congr {g g' : Tm → Tm → Bool} {s t : Tm} (h1 : ∀ a ∈ s.us, g a t = g' a t) (h2 : ∀ b ∈ t.us, g s b = g' s b) (h3 : ∀ a ∈ s.us, ∀ b ∈ t.us, g a b = g' a b) : gtStep g s t = gtStep g' s t := by
 have e1 : s.us.any (fun a => same a t || g a t) = s.us.any (fun a => same a t || g' a t) := by
  rw [Bool.eq_iff_iff, List.any_eq_true, List.any_eq_true]
  exact ⟨fun ⟨a, ha, h⟩ => ⟨a, ha, by rw [← h1 a ha]; exact h⟩, fun ⟨a, ha, h⟩ => ⟨a, ha, by rw [h1 a ha]; exact h⟩⟩
 have e2 : t.us.any (fun b => !g s b) = t.us.any (fun b => !g' s b) := by
  rw [Bool.eq_iff_iff, List.any_eq_true, List.any_eq_true]
  exact ⟨fun ⟨a, ha, h⟩ => ⟨a, ha, by rw [← h2 a ha]; exact h⟩, fun ⟨a, ha, h⟩ => ⟨a, ha, by rw [h2 a ha]; exact h⟩⟩
 unfold gtStep
 rw [e1, e2, lexG_congr h3]
def gtF : Nat → Tm → Tm → Bool
 | 0, _, _ => false
 | n + 1, s, t => gtStep (gtF n) s t
theorem gtF_enough : ∀ (n m : Nat) (s t : Tm), tsz s + tsz t ≤ n → tsz s + tsz t ≤ m → gtF n s t = gtF m s t
 | 0, _, s, t, h, _ => by have := tsz_pos s; omega
 | _ + 1, 0, s, t, _, h => by have := tsz_pos s; omega
 | n + 1, m + 1, s, t, h, h' => by
  rw [gtF, gtF]
  refine gtStep_congr (fun a ha => ?_) (fun b hb => ?_) (fun a ha b hb => ?_)
  ·have := tsz_lt ha; exact gtF_enough n m _ _ (by omega) (by omega)
  ·have := tsz_lt hb; exact gtF_enough n m _ _ (by omega) (by omega)
  ·have := tsz_lt ha; have := tsz_lt hb; exact gtF_enough n m _ _ (by omega) (by omega)
def gt (s t : Tm) : Bool := gtF (tsz s + tsz t) s t
theorem gt_eq (s t : Tm) : gt s t = gtStep gt s t := by
 unfold gt
 obtain ⟨n, hn⟩ : ∃ n, tsz s + tsz t = n + 1 := ⟨tsz s + tsz t - 1, by have := tsz_pos s; omega⟩
 rw [hn, gtF]
 refine gtStep_congr (fun a ha => ?_) (fun b hb => ?_) (fun a ha b hb => ?_)
 ·have := tsz_lt ha; exact gtF_enough _ _ _ _ (by omega) (by omega)
 ·have := tsz_lt hb; exact gtF_enough _ _ _ _ (by omega) (by omega)
 ·have := tsz_lt ha; have := tsz_lt hb; exact gtF_enough _ _ _ _ (by omega) (by omega)
def WellN (L : List (Tm × List Int)) (i : Nat) : Prop := ∀ p, L[i]? = some p → p.2.length = p.1.us.length ∧ ∀ (m : Nat) (u : Tm), p.1.us[m]? = some u → ∃ j : Nat, p.2[m]? = some (j : Int) ∧ j < i ∧ (L[j]?).map (·.1) = some u
theorem WellN.more {L M : List (Tm × List Int)} {i : Nat} (hi : i < L.length) (h : WellN L i) : WellN (L ++ M) i := by
 intro p hp
 rw [List.getElem?_append_left hi] at hp
 obtain ⟨h1, h2⟩ := h p hp
 refine ⟨h1, fun m u hu => ?_⟩
 obtain ⟨j, h3, h4, h5⟩ := h2 m u hu
 exact ⟨j, h3, h4, by rw [List.getElem?_append_left (by omega)]; exact h5⟩
theorem pn_last (t : Tm) (n : Nat) : (pn t n)[tsz t - 1]? = some (t, idxs t.us n) := by
 have : tsz t - 1 = (pnL t.us n).length := by rw [pnL_len, tsz, parts_eq, List.length_append]; simp
 rw [this, pn_eq, List.getElem?_append_right (Nat.le_refl _)]
 simp
theorem idxs_at (M : List (Tm × List Int)) : ∀ (us : List Tm) (pre : List (Tm × List Int)) (m : Nat) (u : Tm), us[m]? = some u → ∃ j : Nat, (idxs us pre.length)[m]? = some (j : Int) ∧ j < pre.length + (pnL us pre.length).length ∧ ((pre ++ pnL us pre.length ++ M)[j]?).map (·.1) = some u
 | [], _, m, _, h => by simp at h
 | x :: xs, pre, 0, u, h => by
  simp at h
  subst h
  have hp := tsz_pos x
  refine ⟨pre.length + tsz x - 1, ?_, ?_, ?_⟩
  ·simp [idxs, tsz]; unfold tsz at hp; omega
  ·rw [pnL, List.length_append, pn_len]; unfold tsz at *; omega
  ·rw [pnL, List.append_assoc, List.getElem?_append_right (by omega), List.append_assoc, List.getElem?_append_left (by rw [pn_len]; unfold tsz at *; omega)]
   rw [show pre.length + tsz x - 1 - pre.length = tsz x - 1 by omega, pn_last]
   rfl
 | x :: xs, pre, m + 1, u, h => by
  have h' : xs[m]? = some u := by simpa using h
  obtain ⟨j, h1, h2, h3⟩ := idxs_at M xs (pre ++ pn x pre.length) m u h'
  have e : (pre ++ pn x pre.length).length = pre.length + (parts x).length := by rw [List.length_append, pn_len]
  rw [e] at h1 h2 h3
  refine ⟨j, by simpa [idxs] using h1, by rw [pnL, List.length_append, pn_len]; omega, ?_⟩
  rw [pnL, ← List.append_assoc]
  exact h3
mutual
theorem pn_well : ∀ (t : Tm) (pre : List (Tm × List Int)) (i : Nat), pre.length ≤ i → i < pre.length + tsz t → WellN (pre ++ pn t pre.length) i
 | .mk v f us, pre, i, h1, h2 => by
  rw [tsz, parts, List.length_append] at h2
  simp only [List.length_singleton] at h2
  rw [pn, ← List.append_assoc]
  by_cases hi : i < pre.length + (partsL us).length
  ·exact (pnL_well us pre i h1 hi).more (by rw [List.length_append, pnL_len]; exact hi)
  ·have he : i = (pre ++ pnL us pre.length).length := by rw [List.length_append, pnL_len]; omega
   intro p hp
   rw [he, List.getElem?_append_right (Nat.le_refl _), Nat.sub_self] at hp
   simp at hp
   subst hp
   refine ⟨by simp [idxs_len, Tm.us], fun m u hu => ?_⟩
   obtain ⟨j, g1, g2, g3⟩ := idxs_at [(Tm.mk v f us, idxs us pre.length)] us pre m u hu
   exact ⟨j, g1, by rw [he, List.length_append]; exact g2, g3⟩
theorem pnL_well : ∀ (us : List Tm) (pre : List (Tm × List Int)) (i : Nat), pre.length ≤ i → i < pre.length + (partsL us).length → WellN (pre ++ pnL us pre.length) i
 | [], pre, i, h1, h2 => by simp [partsL] at h2; omega
 | x :: xs, pre, i, h1, h2 => by
  rw [partsL, List.length_append] at h2
  rw [pnL, ← List.append_assoc]
  have e : (pre ++ pn x pre.length).length = pre.length + (parts x).length := by rw [List.length_append, pn_len]
  by_cases hi : i < pre.length + (parts x).length
  ·exact (pn_well x pre i h1 hi).more (by rw [e]; exact hi)
  ·have := pnL_well xs (pre ++ pn x pre.length) i (by omega) (by omega)
   rw [e] at this
   exact this
end
theorem pn_well0 (t : Tm) (i : Nat) (h : i < (pn t 0).length) : WellN (pn t 0) i := by
 rw [pn_len] at h
 simpa using pn_well t [] i (Nat.zero_le _) (by simpa [tsz] using h)
theorem count_size : (∀ (t : Tm) (most : Int), count t most ≤ t.size) := by
 suffices h : ∀ t : Tm, ∀ most : Int, count t most ≤ t.size from h
 intro t
 refine Tm.rec (motive_1 := fun t => ∀ most : Int, count t most ≤ t.size) (motive_2 := fun us => ∀ n most : Int, countL us n most ≤ n + Tm.size.sizes us) ?_ ?_ ?_ t
 ·intro v f us ih most
  rw [count, Tm.size]
  have := ih 1 most
  omega
 ·intro n most; rw [countL, Tm.size.sizes]; omega
 ·intro x xs h1 h2 n most
  rw [countL, Tm.size.sizes]
  split
  ·omega
  ·have := h1 (most - n)
   have := h2 (n + count x (most - n)) most
   omega
theorem count_cap {t : Tm} : count t 120 ≤ 120 ↔ t.size ≤ 120 := by
 constructor
 ·intro h
  have := count_parts t 120 (by omega) h
  rw [parts_len] at this
  omega
 ·intro h
  have := count_size t 120
  omega
theorem count_eq_size {t : Tm} (h : t.size ≤ 120) : count t 120 = t.size := by
 have := count_parts t 120 (by omega) (count_cap.2 h)
 rw [parts_len] at this
 omega
def apOne (bs : Bs) (x : Tm) : Int := if x.v > 0 then (match lookB x.v bs with | some u => count u 120 | none => 1) else 1
def apS (bs : Bs) : List Tm → Int
 | [] => 0
 | x :: l => apOne bs x + apS bs l
theorem apOne_pos (bs : Bs) (x : Tm) : 1 ≤ apOne bs x ∧ apOne bs x ≤ 121 := by
 unfold apOne
 split
 ·cases lookB x.v bs with
  | none => simp
  | some u => have := count_le u 120 (by omega); simp only; omega
 ·omega
theorem apS_append (bs : Bs) (a b : List Tm) : apS bs (a ++ b) = apS bs a + apS bs b := by
 induction a with
 | nil => simp [apS]
 | cons x a ih => rw [List.cons_append, apS, apS, ih]; omega
theorem apS_len (bs : Bs) (l : List Tm) : (l.length : Int) ≤ apS bs l ∧ apS bs l ≤ 121 * l.length := by
 induction l with
 | nil => simp [apS]
 | cons x l ih => have := apOne_pos bs x; rw [apS, List.length_cons]; omega
mutual
theorem apS_pre (bs : Bs) : ∀ t : Tm, apS bs (pre t) = apS bs (parts t)
 | .mk v f us => by rw [pre, parts, apS, apS_append, apS_preL bs us, apS, apS]; omega
theorem apS_preL (bs : Bs) : ∀ us : List Tm, apS bs (preL us) = apS bs (partsL us)
 | [] => rfl
 | x :: xs => by rw [preL, partsL, apS_append, apS_append, apS_pre bs x, apS_preL bs xs]
end
mutual
theorem apS_size (bs : Bs) : ∀ t : Tm, Good t → apS bs (parts t) ≤ (applyR bs t).size ∧ (apS bs (parts t) ≤ 120 → apS bs (parts t) = (applyR bs t).size)
 | .mk v f us, h => by
  obtain ⟨h1, h2⟩ := h.at
  rw [parts, apS_append, applyR]
  by_cases hv : v > 0
  ·have := h2 hv; subst this
   rw [if_pos hv]
   cases hl : lookB v bs with
   | none =>
    have e : apOne bs (.mk v f []) = 1 := by simp [apOne, Tm.v, hv, hl]
    simp only [partsL, apS, e]
    simp [Tm.size, Tm.size.sizes]
   | some u =>
    have e : apOne bs (.mk v f []) = count u 120 := by simp [apOne, Tm.v, hv, hl]
    have := count_size u 120
    simp only [partsL, apS, e]
    refine ⟨by omega, fun h3 => ?_⟩
    have := count_eq_size (count_cap.1 (show count u 120 ≤ 120 by omega))
    omega
  ·rw [if_neg hv]
   obtain ⟨k1, k2⟩ := apS_sizeL bs us fun u hu => h.kid (t := .mk v f us) hu
   simp only [apS, apOne, Tm.v, if_neg hv, Tm.size]
   have := apS_len bs (partsL us)
   constructor
   ·omega
   ·intro h3; have := k2 (by omega); omega
theorem apS_sizeL (bs : Bs) : ∀ us : List Tm, (∀ u ∈ us, Good u) → apS bs (partsL us) ≤ Tm.size.sizes (applyRL bs us) ∧ (apS bs (partsL us) ≤ 120 → apS bs (partsL us) = Tm.size.sizes (applyRL bs us))
 | [], _ => ⟨by simp [partsL, apS, applyRL, Tm.size.sizes], fun _ => by simp [partsL, apS, applyRL, Tm.size.sizes]⟩
 | x :: xs, h => by
  obtain ⟨k1, k2⟩ := apS_size bs x (h x (by simp))
  obtain ⟨k3, k4⟩ := apS_sizeL bs xs fun u hu => h u (by simp [hu])
  have := apS_len bs (partsL xs)
  have := apS_len bs (parts x)
  rw [partsL, apS_append, applyRL, Tm.size.sizes]
  constructor
  ·omega
  ·intro h3
   have := k2 (by omega)
   have := k4 (by omega)
   omega
end
theorem apS_cap {bs : Bs} {t : Tm} (h : Good t) : apS bs (parts t) ≤ 120 ↔ (applyR bs t).size ≤ 120 := by
 obtain ⟨h1, h2⟩ := apS_size bs t h
 constructor
 ·intro h3; have := h2 h3; omega
 ·intro h3; omega
theorem form_part {g : List Int} {t x : Tm} (h : form g t = 0) (hx : x ∈ parts t) : form g x = 0 := by
 rw [← formAll_parts] at h ⊢
 have h1 := formAll_mem h
 have sub : ∀ y ∈ parts x, y ∈ parts t := by
  revert hx
  refine Tm.ind (P := fun t => x ∈ parts t → ∀ y ∈ parts x, y ∈ parts t) (fun t ih hx y hy => ?_) t
  rw [parts_eq, List.mem_append] at hx
  rcases hx with hx | hx
  ·obtain ⟨u, hu, hx⟩ := partsL_mem hx
   exact parts_kid hu (ih u hu hx y hy)
  ·rw [← List.mem_singleton.1 hx]; exact hy
 have all : ∀ l : List Tm, (∀ y ∈ l, formOne g y.v y.f y.us.length = 0) → formAll g l = 0 := by
  intro l
  induction l with
  | nil => intro _; rfl
  | cons y l ih => intro hl; rw [formAll, if_neg (by simp [hl y (by simp)])]; exact ih fun z hz => hl z (by simp [hz])
 exact all _ fun y hy => h1 y (sub y hy)
theorem formL_iff {g : List Int} : ∀ {l : List Tm}, formL g l = 0 ↔ ∀ y ∈ l, form g y = 0
 | [] => by simp [formL]
 | y :: l => by
  rw [formL]
  by_cases hy : form g y = 0
  ·rw [if_neg (by simp [hy]), formL_iff]; simp [hy]
  ·rw [if_pos hy]; simp [hy]
theorem form_sub {g : List Int} {σ : Int → Tm} : ∀ t : Tm, form g t = 0 → (∀ x ∈ parts t, x.v > 0 → form g (σ x.v) = 0) → form g (sub σ t) = 0 := by
 refine Tm.ind fun t ih ht hs => ?_
 rw [sub_eq]
 by_cases hv : t.v > 0
 ·rw [if_pos hv]; exact hs t (parts_self t) hv
 ·rw [if_neg hv, form]
  rw [form_eq] at ht
  by_cases hl : formL g t.us = 0
  ·rw [if_neg (by simp [hl])] at ht
   have h1 := formL_iff.1 hl
   have h3 : formL g (subL σ t.us) = 0 := formL_iff.2 fun y hy => by
    rw [subL_map] at hy
    obtain ⟨u, hu, rfl⟩ := List.mem_map.1 hy
    exact ih u hu (h1 u hu) fun x hx hxv => hs x (parts_kid hu hx) hxv
   rw [if_neg (by simp [h3]), subL_map, List.length_map]; exact ht
  ·rw [if_pos hl] at ht; exact absurd ht hl
theorem lookB_mem {v : Int} {u : Tm} : ∀ {b : Bs}, lookB v b = some u → ∃ p ∈ b, p.1 = v ∧ p.2 = u
 | p :: b, h => by
  rw [lookB] at h
  by_cases hv : v = p.1
  ·rw [if_pos hv] at h; cases h; exact ⟨p, by simp, hv.symm, rfl⟩
  ·rw [if_neg hv] at h
   obtain ⟨q, hq, h1⟩ := lookB_mem h
   exact ⟨q, by simp [hq], h1⟩
theorem formV {g : List Int} {t x : Tm} (h : form g t = 0) (hx : x ∈ parts t) (hv : x.v > 0) : form g (vt x.v) = 0 := by
 rw [← formAll_parts] at h
 have := formAll_mem h x hx
 unfold formOne at this
 rw [if_pos (by omega)] at this
 split at this
 ·cases this
 ·simp [form, formL, formOne]; omega
end Go.Proofs.YtmeekpinkfpnhabGreat
