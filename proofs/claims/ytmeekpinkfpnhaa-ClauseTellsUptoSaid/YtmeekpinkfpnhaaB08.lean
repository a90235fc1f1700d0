/- Terms mapped, bindings put in, clauses tidied: what is plain. No program in sight. term.Mapped with any function that looks at objects; term.Copied. slices.EqualFunc of terms, with a function that changes objects. Maps: what is worked out of them. subst.Meet. subst.Made. superposeref.BoundTo. -/
import Derived.Test.YtmeekpinkfpnhaaB07
set_option linter.unusedSimpArgs false
set_option linter.unusedSectionVars false
set_option linter.unusedVariables false
set_option linter.unnecessarySimpa false
set_option linter.all false
namespace Go.Proofs.Ytmeekpinkfpnhaa

mutual
/-- A term with each part made what a function says, if it says so. -/
def mapM (step : Tm → Tm × Bool) : Tm → Tm
  | .mk v f us => if (step (.mk v f us)).2 = true then (step (.mk v f us)).1 else .mk v f (mapL step us)
def mapL (step : Tm → Tm × Bool) : List Tm → List Tm
  | [] => []
  | x :: xs => mapM step x :: mapL step xs
end
theorem mapM_eq (step : Tm → Tm × Bool) (t : Tm) : mapM step t = if (step t).2 = true then (step t).1 else .mk t.v t.f (mapL step t.us) := by cases t; rw [mapM]; rfl
theorem mapL_map (step : Tm → Tm × Bool) (us : List Tm) : mapL step us = us.map (mapM step) := by
  induction us with
  | nil => rfl
  | cons x xs ih => rw [mapL, ih, List.map_cons]
theorem mapL_take {step : Tm → Tm × Bool} {us : List Tm} {i : Nat} (hi : i < us.length) : mapL step (us.take (i + 1)) = mapL step (us.take i) ++ [mapM step us[i]] := by
  rw [mapL_map, mapL_map, List.take_succ_eq_append_getElem hi, List.map_append]; rfl
theorem mapL_len (step : Tm → Tm × Bool) (us : List Tm) : (mapL step us).length = us.length := by rw [mapL_map, List.length_map]
def copyS (t : Tm) : Tm × Bool := (t, false)
mutual
theorem copy_id : ∀ t : Tm, mapM copyS t = t
  | .mk v f us => by rw [mapM]; simp only [copyS, Bool.false_eq_true, if_false]; rw [copyL_id us]
theorem copyL_id : ∀ us : List Tm, mapL copyS us = us
  | [] => rfl
  | x :: xs => by rw [mapL, copy_id x, copyL_id xs]
end
/-- What a part is made by bindings; is it? -/
def madeS (bs : Bs) (x : Tm) : Tm × Bool := match lookB x.v bs with
  | some u => if x.v > 0 then (u, true) else (x, false)
  | none => (x, false)
mutual
/-- superposeref.ApplyOf -/
def applyR (bs : Bs) : Tm → Tm
  | .mk v f us => if v > 0 then (match lookB v bs with | some u => u | none => .mk v f us) else .mk 0 f (applyRL bs us)
def applyRL (bs : Bs) : List Tm → List Tm
  | [] => []
  | x :: xs => applyR bs x :: applyRL bs xs
end
theorem applyR_eq (bs : Bs) (t : Tm) : applyR bs t = if t.v > 0 then (match lookB t.v bs with | some u => u | none => t) else .mk 0 t.f (applyRL bs t.us) := by cases t; rw [applyR]; rfl
theorem applyRL_map (bs : Bs) (us : List Tm) : applyRL bs us = us.map (applyR bs) := by
  induction us with
  | nil => rfl
  | cons x xs ih => rw [applyRL, ih, List.map_cons]
/-- A term in which each part's variable is none or a right one, and variables have no arguments. -/
def Good (t : Tm) : Prop := ∀ x ∈ parts t, 0 ≤ x.v ∧ (x.v > 0 → x.us = [])
theorem Good.at {v f : Int} {us : List Tm} (h : Good (.mk v f us)) : 0 ≤ v ∧ (v > 0 → us = []) := h (.mk v f us) (by rw [parts]; simp)
theorem Good.kid {t u : Tm} (h : Good t) (hu : u ∈ t.us) : Good u := by
  intro x hx
  refine h x ?_
  rw [parts_eq]
  refine List.mem_append_left _ ?_
  cases t with
  | mk v f us =>
    simp only [Tm.us] at hu ⊢
    clear h
    induction us with
    | nil => cases hu
    | cons y ys ih =>
      rw [partsL, List.mem_append]
      rcases List.mem_cons.1 hu with rfl | hu
      · exact .inl hx
      · exact .inr (ih hu)
theorem own_good {g : List Int} {t : Tm} (h : own g t = 0) : Good t := fun x hx => ⟨own_v h hx, own_bare h x hx⟩
mutual
theorem made_apply (bs : Bs) : ∀ t : Tm, Good t → mapM (madeS bs) t = applyR bs t
  | .mk v f us, h => by
    obtain ⟨h1, h2⟩ := h.at
    rw [mapM, applyR]
    by_cases hv : v > 0
    · rw [if_pos hv]
      have := h2 hv; subst this
      cases hl : lookB v bs with
      | some u => simp [madeS, Tm.v, hl, hv]
      | none => simp [madeS, Tm.v, hl, mapL]
    · rw [if_neg hv, if_neg (by simp only [madeS, Tm.v]; cases lookB v bs <;> simp [hv])]
      obtain rfl : v = 0 := by omega
      rw [madeL_apply bs us fun u hu => h.kid (t := .mk 0 f us) hu]
theorem madeL_apply (bs : Bs) : ∀ us : List Tm, (∀ u ∈ us, Good u) → mapL (madeS bs) us = applyRL bs us
  | [], _ => rfl
  | x :: xs, h => by rw [mapL, applyRL, made_apply bs x (h x (by simp)), madeL_apply bs xs fun u hu => h u (by simp [hu])]
end
def mapLt (f : Tm → Tm) (l : Lt) : Lt := ⟨l.y, f l.a, f l.b⟩
theorem mapLt_same {f g : Tm → Tm} {c : List Lt} (h : ∀ l ∈ c, f l.a = g l.a ∧ f l.b = g l.b) : c.map (mapLt f) = c.map (mapLt g) := by
  refine List.map_congr_left fun l hl => ?_
  unfold mapLt; rw [(h l hl).1, (h l hl).2]
/-- clause.Neat: what is kept. -/
def keepG : List Lt → List Lt → List Lt
  | o, [] => o
  | o, l :: c => if dropB o l = true then keepG o c else keepG (o ++ [l]) c
/-- superposeref.TidyOf: what is kept. -/
def keepR : List Lt → List Lt → List Lt
  | _, [] => []
  | p, l :: c => if dropB p l = true then keepR (p ++ [l]) c else l :: keepR (p ++ [l]) c
theorem sidesB_iff (a b : Lt) : sidesB a b = true ↔ (a.a = b.a ∧ a.b = b.b) ∨ (a.a = b.b ∧ a.b = b.a) := by
  unfold sidesB
  rw [Bool.or_eq_true, Bool.and_eq_true, Bool.and_eq_true, same_iff, same_iff, same_iff, same_iff]
theorem sidesB_trans {a b c : Lt} (h1 : sidesB a b = true) (h2 : sidesB b c = true) : sidesB a c = true := by
  rw [sidesB_iff] at *
  rcases h1 with ⟨h1, h3⟩ | ⟨h1, h3⟩ <;> rcases h2 with ⟨h2, h4⟩ | ⟨h2, h4⟩ <;> simp [h1, h2, h3, h4]
theorem dropB_snoc (o : List Lt) (l x : Lt) : dropB (o ++ [l]) x = (dropB o x || (l.y == x.y && sidesB l x)) := by
  unfold dropB; rw [List.any_append]; simp [Bool.or_assoc]
theorem dropB_dropped {p : List Lt} {l x : Lt} (h : dropB p l = true) : dropB (p ++ [l]) x = dropB p x := by
  rw [dropB_snoc]
  cases hq : (l.y == x.y && sidesB l x) with
  | false => rw [Bool.or_false]
  | true =>
    rw [Bool.or_true]
    rw [Bool.and_eq_true, beq_iff_eq] at hq
    obtain ⟨hy, hs⟩ := hq
    symm
    unfold dropB at h ⊢
    rw [Bool.or_eq_true] at h ⊢
    rcases h with h | h
    · left
      rw [Bool.and_eq_true, same_iff] at h ⊢
      rw [← hy]
      refine ⟨h.1, ?_⟩
      rw [sidesB_iff] at hs
      rcases hs with ⟨h1, h2⟩ | ⟨h1, h2⟩
      · rw [← h1, ← h2]; exact h.2
      · rw [← h1, ← h2]; exact h.2.symm
    · right
      rw [List.any_eq_true] at h ⊢
      obtain ⟨z, hz, h⟩ := h
      rw [Bool.and_eq_true, beq_iff_eq] at h
      refine ⟨z, hz, ?_⟩
      rw [Bool.and_eq_true, beq_iff_eq]
      exact ⟨h.1.trans hy, sidesB_trans h.2 hs⟩
theorem keep_eq : ∀ (c o p : List Lt), (∀ x, dropB o x = dropB p x) → keepG o c = o ++ keepR p c
  | [], o, p, _ => by rw [keepG, keepR, List.append_nil]
  | l :: c, o, p, h => by
    rw [keepG, keepR, h l]
    by_cases hd : dropB p l = true
    · rw [if_pos hd, if_pos hd]
      exact keep_eq c o _ fun x => by rw [h x, dropB_dropped hd]
    · rw [if_neg hd, if_neg hd, keep_eq c (o ++ [l]) (p ++ [l]) (fun x => by rw [dropB_snoc, dropB_snoc, h x])]
      simp
theorem keepR_mem : ∀ {c p : List Lt} {x : Lt}, x ∈ keepR p c → x ∈ c
  | l :: c, p, x, h => by
    rw [keepR] at h
    split at h
    · exact List.mem_cons_of_mem _ (keepR_mem h)
    · rcases List.mem_cons.1 h with rfl | h
      · exact List.mem_cons_self
      · exact List.mem_cons_of_mem _ (keepR_mem h)
theorem keepR_len : ∀ (c p : List Lt), (keepR p c).length ≤ c.length
  | [], _ => Nat.le_refl _
  | l :: c, p => by
    rw [keepR]
    split
    · have := keepR_len c (p ++ [l]); simp; omega
    · have := keepR_len c (p ++ [l]); simp; omega
/-- Variables numbered anew. -/
def numBs : List Int → Nat → Bs
  | [], _ => []
  | v :: vs, i => (v, .mk ((i : Int) + 1) 0 []) :: numBs vs (i + 1)
theorem numBs_len : ∀ (vs : List Int) (i : Nat), (numBs vs i).length = vs.length
  | [], _ => rfl
  | v :: vs, i => by rw [numBs, List.length_cons, numBs_len vs, List.length_cons]
theorem numBs_append : ∀ (a b : List Int) (i : Nat), numBs (a ++ b) i = numBs a i ++ numBs b (i + a.length)
  | [], b, i => by simp [numBs]
  | v :: a, b, i => by rw [List.cons_append, numBs, numBs, numBs_append a b]; simp [Nat.add_assoc, Nat.add_comm 1]
theorem numBs_mem : ∀ {vs : List Int} {i : Nat} {p : Int × Tm}, p ∈ numBs vs i → p.1 ∈ vs ∧ p.2.us = [] ∧ p.2.v > 0 ∧ p.2.f = 0
  | v :: vs, i, p, h => by
    rw [numBs] at h
    rcases List.mem_cons.1 h with rfl | h
    · exact ⟨by simp, rfl, by simp only [Tm.v]; omega, rfl⟩
    · obtain ⟨h1, h2⟩ := numBs_mem h
      exact ⟨by simp [h1], h2⟩
/-- clause.Neat -/
def neatG (c : List Lt) : List Lt := (keepG [] c).map (mapLt (mapM (madeS (numBs (addVs [] ((termsOf (keepG [] c)).flatMap pre)) 0))))
/-- superposeref.TidyOf -/
def tidyR (c : List Lt) : List Lt := (keepR [] c).map (mapLt (applyR (numBs (firstVars (termsOf (keepR [] c))) 0)))
theorem keep_nil (c : List Lt) : keepG [] c = keepR [] c := by rw [keep_eq c [] [] fun _ => rfl, List.nil_append]
theorem termsOf_mem {c : List Lt} {t : Tm} (h : t ∈ termsOf c) : ∃ l ∈ c, t = l.a ∨ t = l.b := by
  obtain ⟨l, hl, h⟩ := List.mem_flatMap.1 h
  exact ⟨l, hl, by simpa using h⟩
theorem neat_tidy {c : List Lt} (h : ∀ l ∈ c, Good l.a ∧ Good l.b) : neatG c = tidyR c := by
  have hk : ∀ l ∈ keepR [] c, Good l.a ∧ Good l.b := fun l hl => h l (keepR_mem hl)
  have hb : ∀ t ∈ termsOf (keepR [] c), Bare t := fun t ht x hx => by
    obtain ⟨l, hl, rfl | rfl⟩ := termsOf_mem ht
    · exact ((hk l hl).1 x hx).2
    · exact ((hk l hl).2 x hx).2
  unfold neatG tidyR
  rw [keep_nil, stands_eq hb]
  exact mapLt_same fun l hl => ⟨made_apply _ _ (hk l hl).1, made_apply _ _ (hk l hl).2⟩
end Go.Proofs.Ytmeekpinkfpnhaa

namespace Go.Proofs.Ytmeekpinkfpnhaa
open Go.RowKit
set_option linter.unusedSimpArgs false
set_option linter.unusedSectionVars false

theorem co_tm' {k : Nat} {ren : Ren} {t : Tm} {a : AV} (h : a.toD? = some (.sl (t.us.map tmDV))) : Co k ren (.st [iA t.v, iA t.f, a]) (.d (tmDV t)) :=
  .dat (by simp only [AV.toD?, allD, h]; rw [tmDV_eq]; rfl)
section
variable (g : FuncId) (caps : List AV) (ro : List (Nm × Ob)) (step : Tm → Tm × Bool) (hg : enterOk Try.prog g)
def MapSpec (t : Tm) : Prop := t.size ≤ 4000000 → (∀ x ∈ pre t, Tri Try.prog g ([.d (tmDV x)] ++ caps) (rdE ro (.tup [.d (tmDV (step x).1), bA (step x).2]))) → Tri Try.prog 128 [.d (tmDV t), .fn (.func g) [] caps] (rdE ro (.d (tmDV (mapM step t))))
include hg
set_option maxRecDepth 20000 in
theorem mapped_step (t : Tm) (ih : ∀ u ∈ t.us, MapSpec g caps ro step u) : MapSpec g caps ro step t := by
  intro hsz hdo
  have hlen := t.len_lt
  have hd0 := hdo t (by rw [pre_eq]; simp)
  rw [mapM_eq]
  refine tri_enter_ro Try.func128 rfl Try.ntmps128 (by simp only [List.length_cons, List.length_nil]; omega) fun w0 h0 k hro => ?_
  cases h1 : (step t).2 with
  | true =>
    rw [h1] at hd0
    generalize (step t).1 = u at *
    simp only [if_true]
    repeat' (first
      | refine awp_seq_k fun K hK => ?_
      | ((first | refine awp_region_k (by kernel_rfl) fun R hR => ?_ | refine awp_draw mixed (by kernel_rfl) (by kernel_rfl) fun R hR => ?_); simp only [go_sem])
      | ((first | (refine hR _ ?_; clear hR R) | refine awp_skip ?_ | refine awp_exit ?_ | refine awp_ret ?_); try simp only [thenA, inBlockA, reduceIte, reduceCtorEq, Nat.reduceEqDiff, if_false, if_true])
      | ((first | refine hK _ ?_ | (clear hK K; first | refine hK _ ?_ | (clear hK K; first | refine hK _ ?_ | (clear hK K; first | refine hK _ ?_ | (clear hK K; refine hK _ ?_))))); clear hK K)
      | refine awp_true rfl rfl ?_
      | refine awp_false rfl rfl ?_
      | refine awp_block ?_
      | ((first | refine CallK.vlook rfl (hg) (hd0) ?_ (by assumption) (by repeat (first | exact Fr.rfl' _ _ | assumption | refine Fr.updk ?_ (by omega) _)) ?_ | refine CallD.vlook rfl (hg) (hd0) ?_ (by assumption) (by repeat (first | exact Fr.rfl' _ _ | assumption | refine Fr.updk ?_ (by omega) _)) (by first | assumption | exact List.cons_ne_nil _ _) ?_); (focus first | ((repeat (first | exact trivial | refine ⟨(by first | exact Or.inl rfl | exact Or.inr rfl), ?_⟩)); done) | (simp only [coL, AV.dat, true_or, or_true, AV.d.injEq, go_sem]; done)); simp only [go_sem])
      | refine And.intro (by first | omega | exact trivial | rfl | assumption | (apply map_sz; intro a; simp only [go_sem]; done) | ((and_intros <;> first | omega | exact trivial | rfl | assumption | (apply map_sz; intro a; simp only [go_sem]; done) | fail); done) | fail) ?_
      | fail)
    first | refine ret_pure (by simp only [Try.results128, resOkL, resOk, Try.ntmps128, List.toList_toArray]; first | decide | (simp only [go_sem]; done) | (simp only [go_sem]; and_intros <;> first | omega | rfl | decide)) ?_ (by repeat (first | exact Fr.rfl' _ _ | assumption | refine Fr.updk ?_ (by omega) _)) | refine ret_ro (by simp only [Try.results128, resOkL, resOk, Try.ntmps128, List.toList_toArray]; first | decide | (simp only [go_sem]; done) | (simp only [go_sem]; and_intros <;> first | omega | rfl | decide)) ?_ (by repeat (first | exact Fr.rfl' _ _ | assumption | refine Fr.updk ?_ (by omega) _))
    simp only [resA, resV, Try.results128, go_sem]
    all_goals try (first | exact Co.t2 (.dat rfl) (.dat rfl) | exact Co.t3 (.dat rfl) (.dat rfl) (.dat rfl))
    exact co_tm' rfl
  | false =>
    rw [h1] at hd0
    generalize (step t).1 = u at *
    simp only [Bool.false_eq_true, if_false]
    repeat' (first
      | refine awp_ghost (ghost_nil (i := 7) (e := 27) rfl) ?_
      | refine awp_seq_k fun K hK => ?_
      | ((first | refine awp_region_k (by kernel_rfl) fun R hR => ?_ | refine awp_draw mixed (by kernel_rfl) (by kernel_rfl) fun R hR => ?_); simp only [go_sem])
      | ((first | (refine hR _ ?_; clear hR R) | refine awp_skip ?_ | refine awp_exit ?_ | refine awp_ret ?_); try simp only [thenA, inBlockA, reduceIte, reduceCtorEq, Nat.reduceEqDiff, if_false, if_true])
      | ((first | refine hK _ ?_ | (clear hK K; first | refine hK _ ?_ | (clear hK K; first | refine hK _ ?_ | (clear hK K; first | refine hK _ ?_ | (clear hK K; refine hK _ ?_))))); clear hK K)
      | refine awp_true rfl rfl ?_
      | refine awp_false rfl rfl ?_
      | refine awp_block ?_
      | ((first | refine CallK.vlook rfl (hg) (hd0) ?_ (by assumption) (by repeat (first | exact Fr.rfl' _ _ | assumption | refine Fr.updk ?_ (by omega) _)) ?_ | refine CallD.vlook rfl (hg) (hd0) ?_ (by assumption) (by repeat (first | exact Fr.rfl' _ _ | assumption | refine Fr.updk ?_ (by omega) _)) (by first | assumption | exact List.cons_ne_nil _ _) ?_); (focus first | ((repeat (first | exact trivial | refine ⟨(by first | exact Or.inl rfl | exact Or.inr rfl), ?_⟩)); done) | (simp only [coL, AV.dat, true_or, or_true, AV.d.injEq, go_sem]; done)); simp only [go_sem])
      | refine And.intro (by first | omega | exact trivial | rfl | assumption | (apply map_sz; intro a; simp only [go_sem]; done) | ((and_intros <;> first | omega | exact trivial | rfl | assumption | (apply map_sz; intro a; simp only [go_sem]; done) | fail); done) | fail) ?_
      | fail)
    refine awp_loop (fun σ => ∃ i : Nat, σ.t 1 = .fn (.func g) [] caps ∧ σ.t 2 = .ptr (k, 0) 0 ∧ σ.t 4 = .ptr (k, 1) 0 ∧ σ.t 7 = .own (k + 1 + 1 + 1 + 1, 0) ((mapL step (t.us.take i)).map tmDV) ∧ σ.t 19 = .d (.sl (t.us.map tmDV)) ∧ σ.t 20 = iA t.us.length ∧ σ.t 21 = iA i ∧
      σ.h (k, 0) = some (.cells 27 [iA t.v, iA t.f, .d (.sl (t.us.map tmDV))]) ∧ σ.h (k, 1) = some (.cells 27 [iA 0, iA 0, .nil]) ∧ σ.h (k + 1 + 1 + 1 + 1, 0) = some (.perm 27 (mapL step (t.us.take i)).length) ∧ Fr k h0 σ.h ∧ k + 1 + 1 + 1 + 1 < σ.k ∧ i ≤ t.us.length) (fun σ => t.us.length - (intOf' (σ.t 21)).toNat) ?_ ?_
    · refine ⟨0, ?_⟩
      simp only [go_sem, List.take_zero, mapL]
      and_intros; all_goals try (first | rfl | omega | assumption | ((repeat (first | exact Fr.rfl' _ _ | assumption | refine Fr.updk ?_ (by omega) _)); done))
    · rintro σ ⟨i, s1, s2, s4, s7, s19, s20, s21, sh, sh', sp, hF, hk, hi⟩
      have hne := ltne (show k < σ.k by omega)
      have hne2 := ltne hk
      have hml := mapL_len step (t.us.take i)
      rw [List.length_take] at hml
      rcases Nat.lt_or_ge i t.us.length with hlt | hge
      · have hz : (i : Int) < (t.us.length : Int) := by omega
        have e1 : (t.us.map tmDV).getD i default = tmDV t.us[i] := nth_map tmDV hlt _
        have hs := Tm.size_at hlt
        have h2 := ih _ (List.getElem_mem hlt) (by omega) (fun x hx => hdo x (by rw [pre_eq]; exact List.mem_cons_of_mem _ (preL_mem (List.getElem_mem hlt) hx)))
        have etk : (mapL step (t.us.take i)).map tmDV ++ [tmDV (mapM step t.us[i])] = (mapL step (t.us.take (i + 1))).map tmDV := by rw [mapL_take hlt]; simp
        repeat' (first
          | refine awp_seq_k fun K hK => ?_
          | ((first | refine awp_region_k (by kernel_rfl) fun R hR => ?_ | refine awp_draw mixed (by kernel_rfl) (by kernel_rfl) fun R hR => ?_); simp only [go_sem, s1, s2, s4, s7, s19, s20, s21, sh, sh', sp, hz, e1, hne, hne2, List.length_map, Int.toNat_natCast])
          | ((first | (refine hR _ ?_; clear hR R) | refine awp_skip ?_ | refine awp_exit ?_ | refine awp_ret ?_); try simp only [thenA, inBlockA, reduceIte, reduceCtorEq, Nat.reduceEqDiff, if_false, if_true])
          | ((first | refine hK _ ?_ | (clear hK K; first | refine hK _ ?_ | (clear hK K; first | refine hK _ ?_ | (clear hK K; first | refine hK _ ?_ | (clear hK K; refine hK _ ?_))))); clear hK K)
          | refine awp_true rfl rfl ?_
          | refine awp_false rfl rfl ?_
          | refine awp_block ?_
          | ((first | refine CallK.look (enter128) (h2) ?_ (by assumption) (by repeat (first | exact Fr.rfl' _ _ | assumption | refine Fr.updk ?_ (by omega) _)) ?_ | refine CallD.look (enter128) (h2) ?_ (by assumption) (by repeat (first | exact Fr.rfl' _ _ | assumption | refine Fr.updk ?_ (by omega) _)) (by first | assumption | exact List.cons_ne_nil _ _) ?_); (focus first | ((repeat (first | exact trivial | refine ⟨(by first | exact Or.inl rfl | exact Or.inr rfl), ?_⟩)); done) | (simp only [coL, AV.dat, true_or, or_true, AV.d.injEq, go_sem]; done)); simp only [go_sem, s1, s2, s4, s7, s19, s20, s21, sh, sh', sp, hz, e1, hne, hne2, List.length_map, Int.toNat_natCast])
          | refine And.intro (by first | omega | exact trivial | rfl | assumption | (apply map_sz; intro a; simp only [go_sem]; done) | ((and_intros <;> first | omega | exact trivial | rfl | assumption | (apply map_sz; intro a; simp only [go_sem]; done) | fail); done) | fail) ?_
          | fail)
        refine ⟨⟨i + 1, ?_⟩, ?_⟩
        rotate_left
        · simp only [go_sem, s1, s2, s4, s7, s19, s20, s21, sh, sh', sp, hne, hne2, etk, List.length_map]; omega
        simp only [go_sem, s1, s2, s4, s7, s19, s20, s21, sh, sh', sp, hne, hne2, etk, List.length_map]
        and_intros; all_goals try (first | rfl | omega | assumption | ((repeat (first | exact Fr.rfl' _ _ | assumption | refine Fr.updk ?_ (by omega) _)); done))
      · have hz : ¬ ((i : Int) < (t.us.length : Int)) := by omega
        obtain rfl : i = t.us.length := by omega
        rw [List.take_length] at s7 sp
        repeat' (first
          | refine awp_seq_k fun K hK => ?_
          | ((first | refine awp_region_k (by kernel_rfl) fun R hR => ?_ | refine awp_draw mixed (by kernel_rfl) (by kernel_rfl) fun R hR => ?_); simp only [go_sem, s1, s2, s4, s7, s20, s21, sh, sh', sp, hz, hne, hne2])
          | ((first | (refine hR _ ?_; clear hR R) | refine awp_skip ?_ | refine awp_exit ?_ | refine awp_ret ?_); try simp only [thenA, inBlockA, reduceIte, reduceCtorEq, Nat.reduceEqDiff, if_false, if_true])
          | ((first | refine hK _ ?_ | (clear hK K; first | refine hK _ ?_ | (clear hK K; first | refine hK _ ?_ | (clear hK K; first | refine hK _ ?_ | (clear hK K; refine hK _ ?_))))); clear hK K)
          | refine awp_true rfl rfl ?_
          | refine awp_false rfl rfl ?_
          | refine awp_block ?_
          | refine And.intro (by first | omega | exact trivial | rfl | assumption | (apply map_sz; intro a; simp only [go_sem]; done) | ((and_intros <;> first | omega | exact trivial | rfl | assumption | (apply map_sz; intro a; simp only [go_sem]; done) | fail); done) | fail) ?_
          | fail)
        first | refine ret_pure (by simp only [Try.results128, resOkL, resOk, Try.ntmps128, List.toList_toArray]; first | decide | (simp only [go_sem, s4, hne, hne2]; done) | (simp only [go_sem, s4, hne, hne2]; and_intros <;> first | omega | rfl | decide)) ?_ (by repeat (first | exact Fr.rfl' _ _ | assumption | refine Fr.updk ?_ (by omega) _)) | refine ret_ro (by simp only [Try.results128, resOkL, resOk, Try.ntmps128, List.toList_toArray]; first | decide | (simp only [go_sem, s4, hne, hne2]; done) | (simp only [go_sem, s4, hne, hne2]; and_intros <;> first | omega | rfl | decide)) ?_ (by repeat (first | exact Fr.rfl' _ _ | assumption | refine Fr.updk ?_ (by omega) _))
        simp only [resA, resV, Try.results128, go_sem, s4, hne, hne2]
        all_goals try (first | exact Co.t2 (.dat rfl) (.dat rfl) | exact Co.t3 (.dat rfl) (.dat rfl) (.dat rfl))
        exact co_tm rfl
theorem mapped_tri : ∀ t : Tm, MapSpec g caps ro step t := Tm.ind (mapped_step g caps ro step hg)
end
set_option maxRecDepth 20000 in
theorem copied1_tri (t : Tm) : Tri Try.prog 129 [.d (tmDV t)] (rdE [] (.tup [.d (tmDV t), bA false])) := by
  refine tri_enter_ro Try.func129 rfl Try.ntmps129 (by simp only [List.length_cons, List.length_nil]; omega) fun w0 h0 k hro => ?_
  repeat' (first
    | refine awp_seq_k fun K hK => ?_
    | ((first | refine awp_region_k (by kernel_rfl) fun R hR => ?_ | refine awp_draw mixed (by kernel_rfl) (by kernel_rfl) fun R hR => ?_); simp only [go_sem])
    | ((first | (refine hR _ ?_; clear hR R) | refine awp_skip ?_ | refine awp_exit ?_ | refine awp_ret ?_); try simp only [thenA, inBlockA, reduceIte, reduceCtorEq, Nat.reduceEqDiff, if_false, if_true])
    | ((first | refine hK _ ?_ | (clear hK K; first | refine hK _ ?_ | (clear hK K; first | refine hK _ ?_ | (clear hK K; first | refine hK _ ?_ | (clear hK K; refine hK _ ?_))))); clear hK K)
    | refine awp_true rfl rfl ?_
    | refine awp_false rfl rfl ?_
    | refine awp_block ?_
    | refine And.intro (by first | omega | exact trivial | rfl | assumption | (apply map_sz; intro a; simp only [go_sem]; done) | ((and_intros <;> first | omega | exact trivial | rfl | assumption | (apply map_sz; intro a; simp only [go_sem]; done) | fail); done) | fail) ?_
    | fail)
  first | refine ret_pure (by simp only [Try.results129, resOkL, resOk, Try.ntmps129, List.toList_toArray]; first | decide | (simp only [go_sem]; done) | (simp only [go_sem]; and_intros <;> first | omega | rfl | decide)) ?_ (by repeat (first | exact Fr.rfl' _ _ | assumption | refine Fr.updk ?_ (by omega) _)) | refine ret_ro (by simp only [Try.results129, resOkL, resOk, Try.ntmps129, List.toList_toArray]; first | decide | (simp only [go_sem]; done) | (simp only [go_sem]; and_intros <;> first | omega | rfl | decide)) ?_ (by repeat (first | exact Fr.rfl' _ _ | assumption | refine Fr.updk ?_ (by omega) _))
  simp only [resA, resV, Try.results129, go_sem]
  all_goals try (first | exact Co.t2 (.dat rfl) (.dat rfl) | exact Co.t3 (.dat rfl) (.dat rfl) (.dat rfl))
  exact .t2 (co_tm' rfl) (.dat rfl)
set_option maxRecDepth 20000 in
theorem copied_tri (t : Tm) (ht : t.size ≤ 4000000) : Tri Try.prog 98 [.d (tmDV t)] (pure' (.d (tmDV t))) := by
  have h := mapped_tri 129 [] [] copyS (enter129) t ht (fun x _ => copied1_tri x)
  rw [copy_id, rdE_nil] at h
  refine tri_enter Try.func98 rfl Try.ntmps98 (by simp only [List.length_cons, List.length_nil]; omega) fun w0 h0 k hrd hwr => ?_
  repeat' (first
    | refine awp_seq_k fun K hK => ?_
    | ((first | refine awp_region_k (by kernel_rfl) fun R hR => ?_ | refine awp_draw mixed (by kernel_rfl) (by kernel_rfl) fun R hR => ?_); simp only [go_sem])
    | ((first | (refine hR _ ?_; clear hR R) | refine awp_skip ?_ | refine awp_exit ?_ | refine awp_ret ?_); try simp only [thenA, inBlockA, reduceIte, reduceCtorEq, Nat.reduceEqDiff, if_false, if_true])
    | ((first | refine hK _ ?_ | (clear hK K; first | refine hK _ ?_ | (clear hK K; first | refine hK _ ?_ | (clear hK K; first | refine hK _ ?_ | (clear hK K; refine hK _ ?_))))); clear hK K)
    | refine awp_true rfl rfl ?_
    | refine awp_false rfl rfl ?_
    | refine awp_block ?_
    | ((first | refine CallK.pure (enter128) (h) ?_ ?_ | refine CallD.pure (enter128) (h) ?_ ?_); (focus first | ((repeat (first | exact trivial | refine ⟨(by first | exact Or.inl rfl | exact Or.inr rfl), ?_⟩)); done) | (simp only [coL, AV.dat, true_or, or_true, AV.d.injEq, go_sem]; done)); simp only [go_sem])
    | refine And.intro (by first | omega | exact trivial | rfl | assumption | (apply map_sz; intro a; simp only [go_sem]; done) | ((and_intros <;> first | omega | exact trivial | rfl | assumption | (apply map_sz; intro a; simp only [go_sem]; done) | fail); done) | fail) ?_
    | fail)
  first | refine ret_pure (by simp only [Try.results98, resOkL, resOk, Try.ntmps98, List.toList_toArray]; first | decide | (simp only [go_sem]; done) | (simp only [go_sem]; and_intros <;> first | omega | rfl | decide)) ?_ (by repeat (first | exact Fr.rfl' _ _ | assumption | refine Fr.updk ?_ (by omega) _)) | refine ret_ro (by simp only [Try.results98, resOkL, resOk, Try.ntmps98, List.toList_toArray]; first | decide | (simp only [go_sem]; done) | (simp only [go_sem]; and_intros <;> first | omega | rfl | decide)) ?_ (by repeat (first | exact Fr.rfl' _ _ | assumption | refine Fr.updk ?_ (by omega) _))
  simp only [resA, resV, Try.results98, go_sem]
  all_goals try (first | exact Co.t2 (.dat rfl) (.dat rfl) | exact Co.t3 (.dat rfl) (.dat rfl) (.dat rfl))
  exact co_tm' rfl
end Go.Proofs.Ytmeekpinkfpnhaa

namespace Go.Proofs.Ytmeekpinkfpnhaa
open Go.RowKit
set_option linter.unusedSimpArgs false
set_option linter.unusedSectionVars false

/-- Lists compared, element by element, till one pair is not alike. -/
def eqS {S : Type} (step : Tm → Tm → S → Bool × S) : List Tm → List Tm → S → Bool × S
  | x :: xs, y :: ys, s => if (step x y s).1 = true then eqS step xs ys (step x y s).2 else (false, (step x y s).2)
  | _, _, s => (true, s)
theorem eqS_go {S : Type} {step : Tm → Tm → S → Bool × S} {xs ys : List Tm} {i : Nat} (hi : i < xs.length) (hi' : i < ys.length) {s : S} (h : (step xs[i] ys[i] s).1 = true) : eqS step (xs.drop i) (ys.drop i) s = eqS step (xs.drop (i + 1)) (ys.drop (i + 1)) (step xs[i] ys[i] s).2 := by
  rw [List.drop_eq_getElem_cons hi, List.drop_eq_getElem_cons hi', eqS, if_pos h]
theorem eqS_stop {S : Type} {step : Tm → Tm → S → Bool × S} {xs ys : List Tm} {i : Nat} (hi : i < xs.length) (hi' : i < ys.length) {s : S} (h : (step xs[i] ys[i] s).1 = false) : eqS step (xs.drop i) (ys.drop i) s = (false, (step xs[i] ys[i] s).2) := by
  rw [List.drop_eq_getElem_cons hi, List.drop_eq_getElem_cons hi', eqS, if_neg (by rw [h]; simp)]
section
variable {S : Type} (O : S → Nm → Ob) (N : List Nm) (g : FuncId) (caps : List AV) (step : Tm → Tm → S → Bool × S) (hN : ∀ s (k : Nat), (∀ n ∈ N, n.1 < k) → Cl k N (O s)) (hg : enterOk Try.prog g)
include hN hg
set_option maxHeartbeats 1000000 in
set_option maxRecDepth 20000 in
theorem equalF_tri (xs ys : List Tm) (hl : xs.length ≤ 4000000) (hdo : ∀ x ∈ xs, ∀ y ∈ ys, ∀ s, Tri Try.prog g ([.d (tmDV x), .d (tmDV y)] ++ caps) (stE N (O s) (O (step x y s).2) (bA (step x y s).1))) (s : S) (r : Bool × S) (hr : r = if xs.length = ys.length then eqS step xs ys s else (false, s)) :
    Tri Try.prog 138 [.d (.sl (xs.map tmDV)), .d (.sl (ys.map tmDV)), .fn (.func g) [] caps] (stE N (O s) (O r.2) (bA r.1)) := by
  refine tri_enter_st Try.func138 rfl Try.ntmps138 (by simp only [List.length_cons, List.length_nil]; omega) fun w0 h0 k hag => ?_
  have hlt0 : ∀ n ∈ N, n.1 < k := fun n hn => (hag.get n hn).1
  cases h1 : ((xs.length : Int) != (ys.length : Int)) with
  | true =>
    rw [if_neg (by simp at h1; omega)] at hr
    subst hr
    have hcl := hN s k hlt0
    repeat' (first
      | refine awp_seq_k fun K hK => ?_
      | ((first | refine awp_region_k (by kernel_rfl) fun R hR => ?_ | refine awp_draw mixed (by kernel_rfl) (by kernel_rfl) fun R hR => ?_); simp only [go_sem, h1])
      | ((first | (refine hR _ ?_; clear hR R) | refine awp_skip ?_ | refine awp_exit ?_ | refine awp_ret ?_); try simp only [thenA, inBlockA, reduceIte, reduceCtorEq, Nat.reduceEqDiff, if_false, if_true])
      | ((first | refine hK _ ?_ | (clear hK K; first | refine hK _ ?_ | (clear hK K; first | refine hK _ ?_ | (clear hK K; first | refine hK _ ?_ | (clear hK K; refine hK _ ?_))))); clear hK K)
      | refine awp_true rfl rfl ?_
      | refine awp_false rfl rfl ?_
      | refine awp_block ?_
      | refine And.intro (by first | omega | exact trivial | rfl | assumption | (apply map_sz; intro a; simp only [go_sem]; done) | ((and_intros <;> first | omega | exact trivial | rfl | assumption | (apply map_sz; intro a; simp only [go_sem]; done) | fail); done) | fail) ?_
      | fail)
    refine ret_st (by simp only [Try.results138, resOkL, resOk, Try.ntmps138, List.toList_toArray]; first | decide | (simp only [go_sem]; done) | (simp only [go_sem]; and_intros <;> first | omega | rfl | decide)) ?_ (by repeat (first | assumption | exact Ag.stN (by assumption) _ _ | refine Ag.updk ?_ (by omega) _)) (by repeat (first | exact FrN.rfl' _ _ _ | assumption | refine FrN.updk ?_ (by omega) _ | refine FrN.stH ?_ _)) (by assumption)
    simp only [resA, resV, Try.results138, go_sem]
    all_goals try (first | exact .dat rfl | exact Co.t2 (.dat rfl) (.dat rfl) | exact Co.t3 (.dat rfl) (.dat rfl) (.dat rfl))
  | false =>
    have hll : xs.length = ys.length := by simp at h1; omega
    rw [if_pos hll] at hr
    repeat' (first
      | refine awp_seq_k fun K hK => ?_
      | ((first | refine awp_region_k (by kernel_rfl) fun R hR => ?_ | refine awp_draw mixed (by kernel_rfl) (by kernel_rfl) fun R hR => ?_); simp only [go_sem, h1])
      | ((first | (refine hR _ ?_; clear hR R) | refine awp_skip ?_ | refine awp_exit ?_ | refine awp_ret ?_); try simp only [thenA, inBlockA, reduceIte, reduceCtorEq, Nat.reduceEqDiff, if_false, if_true])
      | ((first | refine hK _ ?_ | (clear hK K; first | refine hK _ ?_ | (clear hK K; first | refine hK _ ?_ | (clear hK K; first | refine hK _ ?_ | (clear hK K; refine hK _ ?_))))); clear hK K)
      | refine awp_true rfl rfl ?_
      | refine awp_false rfl rfl ?_
      | refine awp_block ?_
      | refine And.intro (by first | omega | exact trivial | rfl | assumption | (apply map_sz; intro a; simp only [go_sem]; done) | ((and_intros <;> first | omega | exact trivial | rfl | assumption | (apply map_sz; intro a; simp only [go_sem]; done) | fail); done) | fail) ?_
      | fail)
    refine awp_loop (fun σ => ∃ (i : Nat) (si : S), σ.t 1 = .d (.sl (ys.map tmDV)) ∧ σ.t 2 = .fn (.func g) [] caps ∧ σ.t 15 = .d (.sl (xs.map tmDV)) ∧ σ.t 16 = iA xs.length ∧ σ.t 17 = iA i ∧ Ag k N (O si) σ.h ∧ FrN k N h0 σ.h ∧ k < σ.k ∧ i ≤ xs.length ∧ eqS step (xs.drop i) (ys.drop i) si = r) (fun σ => xs.length - (intOf' (σ.t 17)).toNat) ?_ ?_
    · refine ⟨0, s, ?_⟩
      simp only [go_sem, List.drop_zero]
      and_intros; all_goals try (first | rfl | omega | assumption | ((repeat (first | exact Fr.rfl' _ _ | assumption | refine Fr.updk ?_ (by omega) _)); done))
      all_goals first | exact hr.symm | exact FrN.rfl' _ _ _
    · rintro σ ⟨i, si, s1, s2, s15, s16, s17, hA, hF, hk, hi, hv⟩
      rcases Nat.lt_or_ge i xs.length with hlt | hge
      · have hlt' : i < ys.length := by omega
        have hz : (i : Int) < (xs.length : Int) := by omega
        have hz' : (i : Int) < (ys.length : Int) := by omega
        have e1 : (xs.map tmDV).getD i default = tmDV xs[i] := nth_map tmDV hlt _
        have e2 : (ys.map tmDV).getD i default = tmDV ys[i] := nth_map tmDV hlt' _
        have hN1 := notN hag (k' := σ.k + 1) (by omega)
        have hN2 := notN hag (k' := σ.k + 1 + 1) (by omega)
        have hT := hdo _ (List.getElem_mem hlt) _ (List.getElem_mem hlt') si
        have hcl := hN (step xs[i] ys[i] si).2 k hlt0
        cases h2 : (step xs[i] ys[i] si).1 with
        | true =>
          rw [h2] at hT
          rw [eqS_go hlt hlt' h2] at hv
          repeat' (first
            | refine awp_seq_k fun K hK => ?_
            | ((first | refine awp_region_k (by kernel_rfl) fun R hR => ?_ | refine awp_draw mixed (by kernel_rfl) (by kernel_rfl) fun R hR => ?_); simp only [go_sem, s1, s2, s15, s16, s17, hz, hz', e1, e2, hN1, hN2, Int.toNat_natCast])
            | ((first | (refine hR _ ?_; clear hR R) | refine awp_skip ?_ | refine awp_exit ?_ | refine awp_ret ?_); try simp only [thenA, inBlockA, reduceIte, reduceCtorEq, Nat.reduceEqDiff, if_false, if_true])
            | ((first | refine hK _ ?_ | (clear hK K; first | refine hK _ ?_ | (clear hK K; first | refine hK _ ?_ | (clear hK K; first | refine hK _ ?_ | (clear hK K; refine hK _ ?_))))); clear hK K)
            | refine awp_true rfl rfl ?_
            | refine awp_false rfl rfl ?_
            | refine awp_block ?_
            | ((first | refine CallK.vchg rfl (hg) (hT) ?_ (by assumption) (by repeat (first | exact Fr.rfl' _ _ | assumption | refine Fr.updk ?_ (by omega) _)) ?_ | refine CallD.vchg rfl (hg) (hT) ?_ (by assumption) (by repeat (first | exact Fr.rfl' _ _ | assumption | refine Fr.updk ?_ (by omega) _)) (by assumption) ?_); (focus first | ((repeat (first | exact trivial | refine ⟨(by first | exact Or.inl rfl | exact Or.inr rfl), ?_⟩)); done) | (simp only [coL, AV.dat, true_or, or_true, AV.d.injEq, go_sem]; done)); simp only [go_sem, s1, s2, s15, s16, s17, hz, hz', e1, e2, hN1, hN2, Int.toNat_natCast])
            | refine And.intro (by first | omega | exact trivial | rfl | assumption | (apply map_sz; intro a; simp only [go_sem]; done) | ((and_intros <;> first | omega | exact trivial | rfl | assumption | (apply map_sz; intro a; simp only [go_sem]; done) | fail); done) | fail) ?_
            | fail)
          refine ⟨⟨i + 1, (step xs[i] ys[i] si).2, ?_⟩, ?_⟩
          · simp only [go_sem, s1, s2, s15, s16, s17]
            and_intros; all_goals try (first | rfl | omega | assumption | ((repeat (first | exact Fr.rfl' _ _ | assumption | refine Fr.updk ?_ (by omega) _)); done))
            · exact (by repeat (first | assumption | exact Ag.stN (by assumption) _ _ | refine Ag.updk ?_ (by omega) _))
            · exact (by repeat (first | exact FrN.rfl' _ _ _ | assumption | refine FrN.updk ?_ (by omega) _ | refine FrN.stH ?_ _))
          · simp only [go_sem, s17]; omega
        | false =>
          rw [h2] at hT
          rw [eqS_stop hlt hlt' h2] at hv
          subst hv
          dsimp only
          repeat' (first
            | refine awp_seq_k fun K hK => ?_
            | ((first | refine awp_region_k (by kernel_rfl) fun R hR => ?_ | refine awp_draw mixed (by kernel_rfl) (by kernel_rfl) fun R hR => ?_); simp only [go_sem, s1, s2, s15, s16, s17, hz, hz', e1, e2, hN1, hN2, Int.toNat_natCast])
            | ((first | (refine hR _ ?_; clear hR R) | refine awp_skip ?_ | refine awp_exit ?_ | refine awp_ret ?_); try simp only [thenA, inBlockA, reduceIte, reduceCtorEq, Nat.reduceEqDiff, if_false, if_true])
            | ((first | refine hK _ ?_ | (clear hK K; first | refine hK _ ?_ | (clear hK K; first | refine hK _ ?_ | (clear hK K; first | refine hK _ ?_ | (clear hK K; refine hK _ ?_))))); clear hK K)
            | refine awp_true rfl rfl ?_
            | refine awp_false rfl rfl ?_
            | refine awp_block ?_
            | ((first | refine CallK.vchg rfl (hg) (hT) ?_ (by assumption) (by repeat (first | exact Fr.rfl' _ _ | assumption | refine Fr.updk ?_ (by omega) _)) ?_ | refine CallD.vchg rfl (hg) (hT) ?_ (by assumption) (by repeat (first | exact Fr.rfl' _ _ | assumption | refine Fr.updk ?_ (by omega) _)) (by assumption) ?_); (focus first | ((repeat (first | exact trivial | refine ⟨(by first | exact Or.inl rfl | exact Or.inr rfl), ?_⟩)); done) | (simp only [coL, AV.dat, true_or, or_true, AV.d.injEq, go_sem]; done)); simp only [go_sem, s1, s2, s15, s16, s17, hz, hz', e1, e2, hN1, hN2, Int.toNat_natCast])
            | refine And.intro (by first | omega | exact trivial | rfl | assumption | (apply map_sz; intro a; simp only [go_sem]; done) | ((and_intros <;> first | omega | exact trivial | rfl | assumption | (apply map_sz; intro a; simp only [go_sem]; done) | fail); done) | fail) ?_
            | fail)
          refine ret_st (by simp only [Try.results138, resOkL, resOk, Try.ntmps138, List.toList_toArray]; first | decide | (simp only [go_sem]; done) | (simp only [go_sem]; and_intros <;> first | omega | rfl | decide)) ?_ (by repeat (first | assumption | exact Ag.stN (by assumption) _ _ | refine Ag.updk ?_ (by omega) _)) (by repeat (first | exact FrN.rfl' _ _ _ | assumption | refine FrN.updk ?_ (by omega) _ | refine FrN.stH ?_ _)) (by assumption)
          simp only [resA, resV, Try.results138, go_sem]
          all_goals try (first | exact .dat rfl | exact Co.t2 (.dat rfl) (.dat rfl) | exact Co.t3 (.dat rfl) (.dat rfl) (.dat rfl))
      · have hz : ¬ ((i : Int) < (xs.length : Int)) := by omega
        have hv' : r = (true, si) := by rw [← hv, List.drop_eq_nil_of_le hge]; rfl
        have hcl := hN si k hlt0
        repeat' (first
          | refine awp_seq_k fun K hK => ?_
          | ((first | refine awp_region_k (by kernel_rfl) fun R hR => ?_ | refine awp_draw mixed (by kernel_rfl) (by kernel_rfl) fun R hR => ?_); simp only [go_sem, s16, s17, hz])
          | ((first | (refine hR _ ?_; clear hR R) | refine awp_skip ?_ | refine awp_exit ?_ | refine awp_ret ?_); try simp only [thenA, inBlockA, reduceIte, reduceCtorEq, Nat.reduceEqDiff, if_false, if_true])
          | ((first | refine hK _ ?_ | (clear hK K; first | refine hK _ ?_ | (clear hK K; first | refine hK _ ?_ | (clear hK K; first | refine hK _ ?_ | (clear hK K; refine hK _ ?_))))); clear hK K)
          | refine awp_true rfl rfl ?_
          | refine awp_false rfl rfl ?_
          | refine awp_block ?_
          | refine And.intro (by first | omega | exact trivial | rfl | assumption | (apply map_sz; intro a; simp only [go_sem]; done) | ((and_intros <;> first | omega | exact trivial | rfl | assumption | (apply map_sz; intro a; simp only [go_sem]; done) | fail); done) | fail) ?_
          | fail)
        rw [hv']
        dsimp only
        refine ret_st (by simp only [Try.results138, resOkL, resOk, Try.ntmps138, List.toList_toArray]; first | decide | (simp only [go_sem]; done) | (simp only [go_sem]; and_intros <;> first | omega | rfl | decide)) ?_ (by repeat (first | assumption | exact Ag.stN (by assumption) _ _ | refine Ag.updk ?_ (by omega) _)) (by repeat (first | exact FrN.rfl' _ _ _ | assumption | refine FrN.updk ?_ (by omega) _ | refine FrN.stH ?_ _)) (by assumption)
        simp only [resA, resV, Try.results138, go_sem]
        all_goals try (first | exact .dat rfl | exact Co.t2 (.dat rfl) (.dat rfl) | exact Co.t3 (.dat rfl) (.dat rfl) (.dat rfl))
end
theorem meetL_eqS (xs ys : List Tm) (b : Bs) : meetL xs ys b = eqS meet xs ys b := by
  induction xs generalizing ys b with
  | nil => cases ys <;> rfl
  | cons x xs ih =>
    cases ys with
    | nil => rfl
    | cons y ys => rw [meetL, eqS, ih]
end Go.Proofs.Ytmeekpinkfpnhaa

namespace Go.Proofs.Ytmeekpinkfpnhaa
open Go.RowKit

attribute [go_sem] effLook okLook effPut okPut askM mapEs isMapO isNilM isI64
@[go_sem] theorem mapTii : mapT Try.prog 104 = some 3 := by kernel_rfl
@[go_sem] theorem zeroDi : zeroD Try.prog 3 = .d (.v (.int .i64 0)) := by kernel_rfl
theorem getM_put (k k' : Int) (x : DV) : ∀ es : List (Int × DV), getM k' (putM k x es) = if k' = k then some x else getM k' es
  | [] => by
    unfold putM
    simp only [getM]
  | p :: m => by
    unfold putM
    by_cases h : k = p.1
    · rw [if_pos h]
      simp only [getM]
      by_cases h2 : k' = k
      · rw [if_pos h2, if_pos h2]
      · rw [if_neg h2, if_neg h2, if_neg (by rw [← h]; exact h2)]
    · rw [if_neg h]
      simp only [getM]
      rw [getM_put k k' x m]
      by_cases h2 : k' = p.1
      · rw [if_pos h2, if_pos h2, if_neg (by rintro rfl; exact h h2)]
      · rw [if_neg h2, if_neg h2]
end Go.Proofs.Ytmeekpinkfpnhaa

namespace Go.Proofs.Ytmeekpinkfpnhaa
open Go.RowKit
set_option linter.unusedSimpArgs false
set_option linter.unusedSectionVars false

@[go_sem] theorem mapTit : mapT Try.prog 142 = some 27 := by kernel_rfl
@[go_sem] theorem zeroDt : zeroD Try.prog 27 = .st [.d (.v (.int .i64 0)), .d (.v (.int .i64 0)), .nil] := by kernel_rfl
/-- Bindings as a map's entries. -/
def bsE (b : Bs) : List (Int × DV) := b.map fun p => (p.1, tmDV p.2)
theorem getM_bs (v : Int) (b : Bs) : getM v (bsE b) = (lookB v b).map tmDV := by
  induction b with
  | nil => rfl
  | cons p b ih =>
    simp only [bsE, List.map_cons, getM, lookB] at ih ⊢
    by_cases h : v = p.1
    · rw [if_pos h, if_pos h]; rfl
    · rw [if_neg h, if_neg h]; exact ih
theorem putM_bs {v : Int} {b : Bs} (h : lookB v b = none) (t : Tm) : putM v (tmDV t) (bsE b) = bsE (b ++ [(v, t)]) := by
  induction b with
  | nil => rfl
  | cons p b ih =>
    rw [lookB] at h
    by_cases hv : v = p.1
    · rw [if_pos hv] at h; cases h
    · rw [if_neg hv] at h
      have := ih h
      simp only [bsE, List.map_cons, List.cons_append, putM] at this ⊢
      rw [if_neg hv, this]
def mtO (b : Bs) (_ : Nm) : Ob := .map (bsE b)
/-- The box of a map, and the map. -/
def mtO2 (bx : Nm) (mm : Nm) (b : Bs) (x : Nm) : Ob := if x = bx then .cells 142 [.map mm] else .map (bsE b)
theorem mtO_cl (mm : Nm) (b : Bs) (k : Nat) : Cl k [mm] (mtO b) := by
  intro n _ x hx; simp [mtO, Ob.names] at hx
theorem mtO2_cl (bx mm : Nm) (b : Bs) (k : Nat) (h : ∀ n ∈ [bx, mm], n.1 < k) : Cl k [bx, mm] (mtO2 bx mm b) := by
  intro n _ x hx
  unfold mtO2 at hx
  split at hx
  · simp [Ob.names, namesL, AV.names] at hx; rw [hx]; exact h mm (by simp)
  · simp [Ob.names] at hx
def MeetSpec (p : Tm) : Prop := ∀ (t : Tm) (mm : Nm) (b : Bs), Tri Try.prog 141 [.map mm, .d (tmDV p), .d (tmDV t)] (stE [mm] (mtO b) (mtO (meet p t b).2) (bA (meet p t b).1))
set_option maxRecDepth 20000 in
theorem meet1_tri {p : Tm} (ih : MeetSpec p) (t : Tm) {bx mm : Nm} (hbm : bx ≠ mm) (b : Bs) : Tri Try.prog 158 [.d (tmDV p), .d (tmDV t), .ptr bx 0] (stE [bx, mm] (mtO2 bx mm b) (mtO2 bx mm (meet p t b).2) (bA (meet p t b).1)) := by
  refine tri_enter_st Try.func158 rfl Try.ntmps158 (by simp only [List.length_cons, List.length_nil]; omega) fun w0 h0 k hag => ?_
  obtain ⟨hb, eb⟩ := hag.get bx (by simp)
  obtain ⟨hm, em⟩ := hag.get mm (by simp)
  have e1 : mtO2 bx mm b bx = .cells 142 [.map mm] := by simp [mtO2]
  have e2 : mtO2 bx mm b mm = .map (bsE b) := by simp [mtO2, Ne.symm hbm]
  rw [e1] at eb
  rw [e2] at em
  have nb := nmne hb
  have hA : Ag k [mm] (mtO b) h0 := ⟨fun n hn => by simp at hn; subst hn; exact ⟨hm, em⟩⟩
  repeat' (first
    | refine awp_seq_k fun K hK => ?_
    | ((first | refine awp_region_k (by kernel_rfl) fun R hR => ?_ | refine awp_draw mixed (by kernel_rfl) (by kernel_rfl) fun R hR => ?_); simp only [go_sem, eb, nb])
    | ((first | (refine hR _ ?_; clear hR R) | refine awp_skip ?_ | refine awp_exit ?_ | refine awp_ret ?_); try simp only [thenA, inBlockA, reduceIte, reduceCtorEq, Nat.reduceEqDiff, if_false, if_true])
    | ((first | refine hK _ ?_ | (clear hK K; first | refine hK _ ?_ | (clear hK K; first | refine hK _ ?_ | (clear hK K; first | refine hK _ ?_ | (clear hK K; refine hK _ ?_))))); clear hK K)
    | refine awp_true rfl rfl ?_
    | refine awp_false rfl rfl ?_
    | refine awp_block ?_
    | ((first | refine CallK.chg (enter141) (ih t mm b) ?_ (by assumption) (by repeat (first | exact Fr.rfl' _ _ | assumption | refine Fr.updk ?_ (by omega) _)) ?_ | refine CallD.chg (enter141) (ih t mm b) ?_ (by assumption) (by repeat (first | exact Fr.rfl' _ _ | assumption | refine Fr.updk ?_ (by omega) _)) (by assumption) ?_); (focus first | ((repeat (first | exact trivial | refine ⟨(by first | exact Or.inl rfl | exact Or.inr rfl), ?_⟩)); done) | (simp only [coL, AV.dat, true_or, or_true, AV.d.injEq, go_sem]; done)); simp only [go_sem, eb, nb])
    | refine And.intro (by first | omega | exact trivial | rfl | assumption | (apply map_sz; intro a; simp only [go_sem]; done) | ((and_intros <;> first | omega | exact trivial | rfl | assumption | (apply map_sz; intro a; simp only [go_sem]; done) | fail); done) | fail) ?_
    | fail)
  refine ret_st (by simp only [Try.results158, resOkL, resOk, Try.ntmps158, List.toList_toArray]; first | decide | (simp only [go_sem]; done) | (simp only [go_sem]; and_intros <;> first | omega | rfl | decide)) (by simp only [resA, resV, Try.results158, go_sem]; first | exact .dat rfl | exact Co.t2 (.dat rfl) (.dat rfl) | exact Co.t3 (.dat rfl) (.dat rfl) (.dat rfl)) ?_ ?_ ?_
  · refine ⟨fun n hn => ⟨(hag.get n hn).1, ?_⟩⟩
    simp only [List.mem_cons, List.not_mem_nil, or_false] at hn
    rcases hn with h | h
    · rw [h]
      have e3 : mtO2 bx mm (meet p t b).2 bx = .cells 142 [.map mm] := by simp [mtO2]
      rw [e3]
      simp only [go_sem, nb, eb, hbm]
    · rw [h]
      have e3 : mtO2 bx mm (meet p t b).2 mm = .map (bsE (meet p t b).2) := by simp [mtO2, Ne.symm hbm]
      rw [e3]
      simp only [go_sem, mtO]
  · intro x hx hxn
    have hxm : x ∉ [mm] := fun h => hxn (by simp at h; simp [h])
    show stH _ _ _ x = _
    rw [stH_get, if_neg hxm]
    exact ((by repeat (first | exact FrN.rfl' _ _ _ | assumption | refine FrN.updk ?_ (by omega) _ | refine FrN.stH ?_ _)) : FrN k [bx, mm] h0 _) x hx hxn
  · exact mtO2_cl bx mm _ k fun n hn => (hag.get n hn).1
set_option maxHeartbeats 2000000 in
set_option maxRecDepth 20000 in
theorem meet_step (p : Tm) (hp : p.us.length ≤ 4000000) (ih : ∀ u ∈ p.us, MeetSpec u) : MeetSpec p := by
  intro t mm b
  rw [meet_eq]
  refine tri_enter_st Try.func141 rfl Try.ntmps141 (by simp only [List.length_cons, List.length_nil]; omega) fun w0 h0 k hag => ?_
  obtain ⟨hm, em⟩ := hag.get mm (by simp)
  have em : h0 mm = some (.map (bsE b)) := em
  have nm := nmne hm
  cases hv : decide (p.v > 0) with
  | true =>
    have hv' : p.v > 0 := by simpa using hv
    rw [if_pos hv']
    cases hb : lookB p.v b with
    | some u =>
      have hg : getM p.v (bsE b) = some (tmDV u) := by rw [getM_bs, hb]; rfl
      have hcl := mtO_cl mm b k
      dsimp only
      repeat' (first
        | refine awp_seq_k fun K hK => ?_
        | ((first | refine awp_region_k (by kernel_rfl) fun R hR => ?_ | refine awp_draw mixed (by kernel_rfl) (by kernel_rfl) fun R hR => ?_); simp only [go_sem, em, nm, hv, hg, Option.isSome_some])
        | ((first | (refine hR _ ?_; clear hR R) | refine awp_skip ?_ | refine awp_exit ?_ | refine awp_ret ?_); try simp only [thenA, inBlockA, reduceIte, reduceCtorEq, Nat.reduceEqDiff, if_false, if_true])
        | ((first | refine hK _ ?_ | (clear hK K; first | refine hK _ ?_ | (clear hK K; first | refine hK _ ?_ | (clear hK K; first | refine hK _ ?_ | (clear hK K; refine hK _ ?_))))); clear hK K)
        | refine awp_true rfl rfl ?_
        | refine awp_false rfl rfl ?_
        | refine awp_block ?_
        | ((first | refine CallK.pure (enter116) (same_tri u t) ?_ ?_ | refine CallD.pure (enter116) (same_tri u t) ?_ ?_); (focus first | ((repeat (first | exact trivial | refine ⟨(by first | exact Or.inl rfl | exact Or.inr rfl), ?_⟩)); done) | (simp only [coL, AV.dat, true_or, or_true, AV.d.injEq, go_sem]; done)); simp only [go_sem, em, nm, hv, hg, Option.isSome_some])
        | refine And.intro (by first | omega | exact trivial | rfl | assumption | (apply map_sz; intro a; simp only [go_sem]; done) | ((and_intros <;> first | omega | exact trivial | rfl | assumption | (apply map_sz; intro a; simp only [go_sem]; done) | fail); done) | fail) ?_
        | fail)
      refine ret_st (by simp only [Try.results141, resOkL, resOk, Try.ntmps141, List.toList_toArray]; first | decide | (simp only [go_sem]; done) | (simp only [go_sem]; and_intros <;> first | omega | rfl | decide)) ?_ (by repeat (first | assumption | exact Ag.stN (by assumption) _ _ | refine Ag.updk ?_ (by omega) _)) (by repeat (first | exact FrN.rfl' _ _ _ | assumption | refine FrN.updk ?_ (by omega) _ | refine FrN.stH ?_ _)) (by assumption)
      simp only [resA, resV, Try.results141, go_sem]
      all_goals try (first | exact .dat rfl | exact Co.t2 (.dat rfl) (.dat rfl) | exact Co.t3 (.dat rfl) (.dat rfl) (.dat rfl))
    | none =>
      have hg : getM p.v (bsE b) = none := by rw [getM_bs, hb]; rfl
      have hpm := putM_bs hb t
      have hcl := mtO_cl mm (b ++ [(p.v, t)]) k
      dsimp only
      repeat' (first
        | refine awp_seq_k fun K hK => ?_
        | ((first | refine awp_region_k (by kernel_rfl) fun R hR => ?_ | refine awp_draw mixed (by kernel_rfl) (by kernel_rfl) fun R hR => ?_); simp only [go_sem, em, nm, hv, hg, hpm, Option.isSome_none, AV.toD, Option.getD_none])
        | ((first | (refine hR _ ?_; clear hR R) | refine awp_skip ?_ | refine awp_exit ?_ | refine awp_ret ?_); try simp only [thenA, inBlockA, reduceIte, reduceCtorEq, Nat.reduceEqDiff, if_false, if_true])
        | ((first | refine hK _ ?_ | (clear hK K; first | refine hK _ ?_ | (clear hK K; first | refine hK _ ?_ | (clear hK K; first | refine hK _ ?_ | (clear hK K; refine hK _ ?_))))); clear hK K)
        | refine awp_true rfl rfl ?_
        | refine awp_false rfl rfl ?_
        | refine awp_block ?_
        | refine And.intro (by first | omega | exact trivial | rfl | assumption | (apply map_sz; intro a; simp only [go_sem]; done) | ((and_intros <;> first | omega | exact trivial | rfl | assumption | (apply map_sz; intro a; simp only [go_sem]; done) | fail); done) | fail) ?_
        | fail)
      refine ret_st (by simp only [Try.results141, resOkL, resOk, Try.ntmps141, List.toList_toArray]; first | decide | (simp only [go_sem]; done) | (simp only [go_sem]; and_intros <;> first | omega | rfl | decide)) (by simp only [resA, resV, Try.results141, go_sem]; first | exact .dat rfl | exact Co.t2 (.dat rfl) (.dat rfl) | exact Co.t3 (.dat rfl) (.dat rfl) (.dat rfl)) ?_ ?_ ?_
      · refine ⟨fun n hn => ⟨(hag.get n hn).1, ?_⟩⟩
        simp only [List.mem_cons, List.not_mem_nil, or_false] at hn
        subst hn
        simp only [go_sem, nm, mtO]
      · refine FrN.updn (by repeat (first | exact FrN.rfl' _ _ _ | assumption | refine FrN.updk ?_ (by omega) _ | refine FrN.stH ?_ _)) (by simp) _
      · exact hcl
  | false =>
    have hv' : ¬ p.v > 0 := by simpa using hv
    rw [if_neg hv']
    cases h1 : t.v == 0 with
    | false =>
      have hcl := mtO_cl mm b k
      rw [if_neg (by intro h; simp at h1; exact h1 h.1)]
      repeat' (first
        | refine awp_seq_k fun K hK => ?_
        | ((first | refine awp_region_k (by kernel_rfl) fun R hR => ?_ | refine awp_draw mixed (by kernel_rfl) (by kernel_rfl) fun R hR => ?_); simp only [go_sem, em, nm, hv, h1])
        | ((first | (refine hR _ ?_; clear hR R) | refine awp_skip ?_ | refine awp_exit ?_ | refine awp_ret ?_); try simp only [thenA, inBlockA, reduceIte, reduceCtorEq, Nat.reduceEqDiff, if_false, if_true])
        | ((first | refine hK _ ?_ | (clear hK K; first | refine hK _ ?_ | (clear hK K; first | refine hK _ ?_ | (clear hK K; first | refine hK _ ?_ | (clear hK K; refine hK _ ?_))))); clear hK K)
        | refine awp_true rfl rfl ?_
        | refine awp_false rfl rfl ?_
        | refine awp_block ?_
        | refine And.intro (by first | omega | exact trivial | rfl | assumption | (apply map_sz; intro a; simp only [go_sem]; done) | ((and_intros <;> first | omega | exact trivial | rfl | assumption | (apply map_sz; intro a; simp only [go_sem]; done) | fail); done) | fail) ?_
        | fail)
      refine ret_st (by simp only [Try.results141, resOkL, resOk, Try.ntmps141, List.toList_toArray]; first | decide | (simp only [go_sem]; done) | (simp only [go_sem]; and_intros <;> first | omega | rfl | decide)) ?_ (by repeat (first | assumption | exact Ag.stN (by assumption) _ _ | refine Ag.updk ?_ (by omega) _)) (by repeat (first | exact FrN.rfl' _ _ _ | assumption | refine FrN.updk ?_ (by omega) _ | refine FrN.stH ?_ _)) (by assumption)
      simp only [resA, resV, Try.results141, go_sem]
      all_goals try (first | exact .dat rfl | exact Co.t2 (.dat rfl) (.dat rfl) | exact Co.t3 (.dat rfl) (.dat rfl) (.dat rfl))
    | true =>
      cases h2 : p.f == t.f with
      | false =>
        have hcl := mtO_cl mm b k
        rw [if_neg (by intro h; simp at h2; exact h2 h.2.1)]
        repeat' (first
          | refine awp_seq_k fun K hK => ?_
          | ((first | refine awp_region_k (by kernel_rfl) fun R hR => ?_ | refine awp_draw mixed (by kernel_rfl) (by kernel_rfl) fun R hR => ?_); simp only [go_sem, em, nm, hv, h1, h2])
          | ((first | (refine hR _ ?_; clear hR R) | refine awp_skip ?_ | refine awp_exit ?_ | refine awp_ret ?_); try simp only [thenA, inBlockA, reduceIte, reduceCtorEq, Nat.reduceEqDiff, if_false, if_true])
          | ((first | refine hK _ ?_ | (clear hK K; first | refine hK _ ?_ | (clear hK K; first | refine hK _ ?_ | (clear hK K; first | refine hK _ ?_ | (clear hK K; refine hK _ ?_))))); clear hK K)
          | refine awp_true rfl rfl ?_
          | refine awp_false rfl rfl ?_
          | refine awp_block ?_
          | refine And.intro (by first | omega | exact trivial | rfl | assumption | (apply map_sz; intro a; simp only [go_sem]; done) | ((and_intros <;> first | omega | exact trivial | rfl | assumption | (apply map_sz; intro a; simp only [go_sem]; done) | fail); done) | fail) ?_
          | fail)
        refine ret_st (by simp only [Try.results141, resOkL, resOk, Try.ntmps141, List.toList_toArray]; first | decide | (simp only [go_sem]; done) | (simp only [go_sem]; and_intros <;> first | omega | rfl | decide)) ?_ (by repeat (first | assumption | exact Ag.stN (by assumption) _ _ | refine Ag.updk ?_ (by omega) _)) (by repeat (first | exact FrN.rfl' _ _ _ | assumption | refine FrN.updk ?_ (by omega) _ | refine FrN.stH ?_ _)) (by assumption)
        simp only [resA, resV, Try.results141, go_sem]
        all_goals try (first | exact .dat rfl | exact Co.t2 (.dat rfl) (.dat rfl) | exact Co.t3 (.dat rfl) (.dat rfl) (.dat rfl))
      | true =>
        have hm2 : mm ≠ (k, 0) := fun e => by rw [e] at hm; simp at hm
        obtain ⟨r, hr⟩ : ∃ r : Bool × Bs, r = if p.us.length = t.us.length then eqS meet p.us t.us b else (false, b) := ⟨_, rfl⟩
        have hr' : (if t.v = 0 ∧ p.f = t.f ∧ p.us.length = t.us.length then meetL p.us t.us b else (false, b)) = r := by
          rw [hr, ← meetL_eqS]
          by_cases h3 : p.us.length = t.us.length
          · rw [if_pos h3, if_pos ⟨by simpa using h1, by simpa using h2, h3⟩]
          · rw [if_neg h3, if_neg (fun h => h3 h.2.2)]
        rw [hr']
        have he := equalF_tri (mtO2 (k, 0) mm) [(k, 0), mm] 158 [.ptr (k, 0) 0] meet (mtO2_cl (k, 0) mm) (enter158) p.us t.us hp (fun x hx y _ s => meet1_tri (ih x hx) y (Ne.symm hm2) s) b r hr
        have hcl := mtO_cl mm r.2 k
        have hA2 : ∀ h : Heap, h (k, 0) = some (.cells 142 [.map mm]) → h mm = some (.map (bsE b)) → Ag (k + 1) [(k, 0), mm] (mtO2 (k, 0) mm b) h := fun h e1 e2 => ⟨fun n hn => by
          simp only [List.mem_cons, List.not_mem_nil, or_false] at hn
          rcases hn with h3 | h3
          · rw [h3]; exact ⟨Nat.lt_succ_self k, by rw [e1]; simp [mtO2]⟩
          · rw [h3]; exact ⟨Nat.lt_succ_of_lt hm, by rw [e2]; simp [mtO2, hm2]⟩⟩
        repeat' (first
          | refine awp_seq_k fun K hK => ?_
          | ((first | refine awp_region_k (by kernel_rfl) fun R hR => ?_ | refine awp_draw mixed (by kernel_rfl) (by kernel_rfl) fun R hR => ?_); simp only [go_sem, em, nm, hv, h1, h2])
          | ((first | (refine hR _ ?_; clear hR R) | refine awp_skip ?_ | refine awp_exit ?_ | refine awp_ret ?_); try simp only [thenA, inBlockA, reduceIte, reduceCtorEq, Nat.reduceEqDiff, if_false, if_true])
          | ((first | refine hK _ ?_ | (clear hK K; first | refine hK _ ?_ | (clear hK K; first | refine hK _ ?_ | (clear hK K; first | refine hK _ ?_ | (clear hK K; refine hK _ ?_))))); clear hK K)
          | refine awp_true rfl rfl ?_
          | refine awp_false rfl rfl ?_
          | refine awp_block ?_
          | ((first | refine CallK.chg (enter138) (he) ?_ (hA2 _ (by simp only [go_sem, nm]) (by simp only [go_sem, em, nm])) (Fr.rfl' _ _) ?_ | refine CallD.chg (enter138) (he) ?_ (hA2 _ (by simp only [go_sem, nm]) (by simp only [go_sem, em, nm])) (Fr.rfl' _ _) (by first | assumption | exact List.cons_ne_nil _ _) ?_); (focus first | ((repeat (first | exact trivial | refine ⟨(by first | exact Or.inl rfl | exact Or.inr rfl), ?_⟩)); done) | (simp only [coL, AV.dat, true_or, or_true, AV.d.injEq, go_sem]; done)); simp only [go_sem, em, nm, hv, h1, h2])
          | refine And.intro (by first | omega | exact trivial | rfl | assumption | (apply map_sz; intro a; simp only [go_sem]; done) | ((and_intros <;> first | omega | exact trivial | rfl | assumption | (apply map_sz; intro a; simp only [go_sem]; done) | fail); done) | fail) ?_
          | fail)
        refine ret_st (by simp only [Try.results141, resOkL, resOk, Try.ntmps141, List.toList_toArray]; first | decide | (simp only [go_sem]; done) | (simp only [go_sem]; and_intros <;> first | omega | rfl | decide)) (by simp only [resA, resV, Try.results141, go_sem]; first | exact .dat rfl | exact Co.t2 (.dat rfl) (.dat rfl) | exact Co.t3 (.dat rfl) (.dat rfl) (.dat rfl)) ?_ ?_ ?_
        · refine ⟨fun n hn => ⟨(hag.get n hn).1, ?_⟩⟩
          simp only [List.mem_cons, List.not_mem_nil, or_false] at hn
          subst hn
          have e3 : mtO2 (k, 0) n r.2 n = .map (bsE r.2) := by simp [mtO2, hm2]
          simp only [go_sem, mtO, e3]
        · intro x hx hxn
          have hxm : x ∉ [(k, 0), mm] := fun h => by
            simp at h hxn
            rcases h with h | h
            · rw [h] at hx; simp at hx
            · exact hxn h
          show stH _ _ _ x = _
          rw [stH_get, if_neg hxm]
          exact ((by repeat (first | exact FrN.rfl' _ _ _ | assumption | refine FrN.updk ?_ (by omega) _ | refine FrN.stH ?_ _)) : FrN k [mm] h0 _) x hx hxn
        · exact hcl
end Go.Proofs.Ytmeekpinkfpnhaa

namespace Go.Proofs.Ytmeekpinkfpnhaa
open Go.RowKit
set_option linter.unusedSimpArgs false
set_option linter.unusedSectionVars false

/-- A box with a map of terms, and the map. -/
abbrev bsO (b mm : Nm) (bs : Bs) : List (Nm × Ob) := [(b, .cells 142 [.map mm]), (mm, .map (bsE bs))]
theorem roBs {b mm : Nm} {bs : Bs} {k : Nat} {h : Heap} (h1 : b.1 < k) (h2 : mm.1 < k) (e1 : h b = some (.cells 142 [.map mm])) (e2 : h mm = some (.map (bsE bs))) : RoOK k (bsO b mm bs) h := ⟨fun x hx => by
  simp only [bsO, List.mem_cons, List.not_mem_nil, or_false] at hx
  rcases hx with rfl | rfl
  · exact ⟨h1, e1⟩
  · exact ⟨h2, e2⟩⟩
set_option maxHeartbeats 1000000 in
set_option maxRecDepth 20000 in
theorem made1_tri (b mm : Nm) (bs : Bs) (hbs : ∀ p ∈ bs, p.2.size ≤ 4000000) (x : Tm) : Tri Try.prog 139 [.d (tmDV x), .ptr b 0] (rdE (bsO b mm bs) (.tup [.d (tmDV (madeS bs x).1), bA (madeS bs x).2])) := by
  have hin : ∀ (bs : Bs) (u : Tm), lookB x.v bs = some u → ∃ p ∈ bs, p.2 = u := by
    intro bs u h
    induction bs with
    | nil => cases h
    | cons p bs ih =>
      rw [lookB] at h
      by_cases hv : x.v = p.1
      · rw [if_pos hv] at h; cases h; exact ⟨p, by simp, rfl⟩
      · rw [if_neg hv] at h
        obtain ⟨q, hq, e⟩ := ih h
        exact ⟨q, by simp [hq], e⟩
  refine tri_enter_ro Try.func139 rfl Try.ntmps139 (by simp only [List.length_cons, List.length_nil]; omega) fun w0 h0 k hro => ?_
  obtain ⟨n1, eb⟩ := hro.get _ (List.mem_cons_self ..)
  obtain ⟨n2, em⟩ := hro.get _ (List.mem_cons_of_mem _ (List.mem_cons_self ..))
  have q1 := nmne n1
  have q2 := nmne n2
  unfold madeS
  cases hb : lookB x.v bs with
  | none =>
    have hg : getM x.v (bsE bs) = none := by rw [getM_bs, hb]; rfl
    dsimp only
    repeat' (first
      | refine awp_seq_k fun K hK => ?_
      | ((first | refine awp_region_k (by kernel_rfl) fun R hR => ?_ | refine awp_draw mixed (by kernel_rfl) (by kernel_rfl) fun R hR => ?_); simp only [go_sem, eb, em, q1, q2, hg, Option.isSome_none, AV.toD, Option.getD_none])
      | ((first | (refine hR _ ?_; clear hR R) | refine awp_skip ?_ | refine awp_exit ?_ | refine awp_ret ?_); try simp only [thenA, inBlockA, reduceIte, reduceCtorEq, Nat.reduceEqDiff, if_false, if_true])
      | ((first | refine hK _ ?_ | (clear hK K; first | refine hK _ ?_ | (clear hK K; first | refine hK _ ?_ | (clear hK K; first | refine hK _ ?_ | (clear hK K; refine hK _ ?_))))); clear hK K)
      | refine awp_true rfl rfl ?_
      | refine awp_false rfl rfl ?_
      | refine awp_block ?_
      | refine And.intro (by first | omega | exact trivial | rfl | assumption | (apply map_sz; intro a; simp only [go_sem]; done) | ((and_intros <;> first | omega | exact trivial | rfl | assumption | (apply map_sz; intro a; simp only [go_sem]; done) | fail); done) | fail) ?_
      | fail)
    first | refine ret_pure (by simp only [Try.results139, resOkL, resOk, Try.ntmps139, List.toList_toArray]; first | decide | (simp only [go_sem]; done) | (simp only [go_sem]; and_intros <;> first | omega | rfl | decide)) ?_ (by repeat (first | exact Fr.rfl' _ _ | assumption | refine Fr.updk ?_ (by omega) _)) | refine ret_ro (by simp only [Try.results139, resOkL, resOk, Try.ntmps139, List.toList_toArray]; first | decide | (simp only [go_sem]; done) | (simp only [go_sem]; and_intros <;> first | omega | rfl | decide)) ?_ (by repeat (first | exact Fr.rfl' _ _ | assumption | refine Fr.updk ?_ (by omega) _))
    simp only [resA, resV, Try.results139, go_sem]
    all_goals try (first | exact Co.t2 (.dat rfl) (.dat rfl) | exact Co.t3 (.dat rfl) (.dat rfl) (.dat rfl))
    exact .t2 (co_tm' rfl) (.dat rfl)
  | some u =>
    have hg : getM x.v (bsE bs) = some (tmDV u) := by rw [getM_bs, hb]; rfl
    obtain ⟨p, hp, hu⟩ := hin bs u hb
    have hus : u.size ≤ 4000000 := by rw [← hu]; exact hbs p hp
    dsimp only
    cases hv : decide (x.v > 0) with
    | false =>
      rw [if_neg (by simpa using hv)]
      repeat' (first
        | refine awp_seq_k fun K hK => ?_
        | ((first | refine awp_region_k (by kernel_rfl) fun R hR => ?_ | refine awp_draw mixed (by kernel_rfl) (by kernel_rfl) fun R hR => ?_); simp only [go_sem, eb, em, q1, q2, hg, hv, Option.isSome_some])
        | ((first | (refine hR _ ?_; clear hR R) | refine awp_skip ?_ | refine awp_exit ?_ | refine awp_ret ?_); try simp only [thenA, inBlockA, reduceIte, reduceCtorEq, Nat.reduceEqDiff, if_false, if_true])
        | ((first | refine hK _ ?_ | (clear hK K; first | refine hK _ ?_ | (clear hK K; first | refine hK _ ?_ | (clear hK K; first | refine hK _ ?_ | (clear hK K; refine hK _ ?_))))); clear hK K)
        | refine awp_true rfl rfl ?_
        | refine awp_false rfl rfl ?_
        | refine awp_block ?_
        | refine And.intro (by first | omega | exact trivial | rfl | assumption | (apply map_sz; intro a; simp only [go_sem]; done) | ((and_intros <;> first | omega | exact trivial | rfl | assumption | (apply map_sz; intro a; simp only [go_sem]; done) | fail); done) | fail) ?_
        | fail)
      first | refine ret_pure (by simp only [Try.results139, resOkL, resOk, Try.ntmps139, List.toList_toArray]; first | decide | (simp only [go_sem]; done) | (simp only [go_sem]; and_intros <;> first | omega | rfl | decide)) ?_ (by repeat (first | exact Fr.rfl' _ _ | assumption | refine Fr.updk ?_ (by omega) _)) | refine ret_ro (by simp only [Try.results139, resOkL, resOk, Try.ntmps139, List.toList_toArray]; first | decide | (simp only [go_sem]; done) | (simp only [go_sem]; and_intros <;> first | omega | rfl | decide)) ?_ (by repeat (first | exact Fr.rfl' _ _ | assumption | refine Fr.updk ?_ (by omega) _))
      simp only [resA, resV, Try.results139, go_sem]
      all_goals try (first | exact Co.t2 (.dat rfl) (.dat rfl) | exact Co.t3 (.dat rfl) (.dat rfl) (.dat rfl))
      exact .t2 (co_tm' rfl) (.dat rfl)
    | true =>
      rw [if_pos (by simpa using hv)]
      repeat' (first
        | refine awp_seq_k fun K hK => ?_
        | ((first | refine awp_region_k (by kernel_rfl) fun R hR => ?_ | refine awp_draw mixed (by kernel_rfl) (by kernel_rfl) fun R hR => ?_); simp only [go_sem, eb, em, q1, q2, hg, hv, Option.isSome_some])
        | ((first | (refine hR _ ?_; clear hR R) | refine awp_skip ?_ | refine awp_exit ?_ | refine awp_ret ?_); try simp only [thenA, inBlockA, reduceIte, reduceCtorEq, Nat.reduceEqDiff, if_false, if_true])
        | ((first | refine hK _ ?_ | (clear hK K; first | refine hK _ ?_ | (clear hK K; first | refine hK _ ?_ | (clear hK K; first | refine hK _ ?_ | (clear hK K; refine hK _ ?_))))); clear hK K)
        | refine awp_true rfl rfl ?_
        | refine awp_false rfl rfl ?_
        | refine awp_block ?_
        | ((first | refine CallK.pure (enter98) (copied_tri u hus) ?_ ?_ | refine CallD.pure (enter98) (copied_tri u hus) ?_ ?_); (focus first | ((repeat (first | exact trivial | refine ⟨(by first | exact Or.inl rfl | exact Or.inr rfl), ?_⟩)); done) | (simp only [coL, AV.dat, true_or, or_true, AV.d.injEq, go_sem]; done)); simp only [go_sem, eb, em, q1, q2, hg, hv, Option.isSome_some])
        | refine And.intro (by first | omega | exact trivial | rfl | assumption | (apply map_sz; intro a; simp only [go_sem]; done) | ((and_intros <;> first | omega | exact trivial | rfl | assumption | (apply map_sz; intro a; simp only [go_sem]; done) | fail); done) | fail) ?_
        | fail)
      first | refine ret_pure (by simp only [Try.results139, resOkL, resOk, Try.ntmps139, List.toList_toArray]; first | decide | (simp only [go_sem]; done) | (simp only [go_sem]; and_intros <;> first | omega | rfl | decide)) ?_ (by repeat (first | exact Fr.rfl' _ _ | assumption | refine Fr.updk ?_ (by omega) _)) | refine ret_ro (by simp only [Try.results139, resOkL, resOk, Try.ntmps139, List.toList_toArray]; first | decide | (simp only [go_sem]; done) | (simp only [go_sem]; and_intros <;> first | omega | rfl | decide)) ?_ (by repeat (first | exact Fr.rfl' _ _ | assumption | refine Fr.updk ?_ (by omega) _))
      simp only [resA, resV, Try.results139, go_sem]
      all_goals try (first | exact Co.t2 (.dat rfl) (.dat rfl) | exact Co.t3 (.dat rfl) (.dat rfl) (.dat rfl))
      all_goals exact .t2 (co_tm' rfl) (.dat rfl)
set_option maxRecDepth 20000 in
theorem made_tri (mm : Nm) (bs : Bs) (hbs : ∀ p ∈ bs, p.2.size ≤ 4000000) (t : Tm) (ht : t.size ≤ 4000000) : Tri Try.prog 121 [.map mm, .d (tmDV t)] (rdE [(mm, .map (bsE bs))] (.d (tmDV (mapM (madeS bs) t)))) := by
  refine tri_enter_ro Try.func121 rfl Try.ntmps121 (by simp only [List.length_cons, List.length_nil]; omega) fun w0 h0 k hro => ?_
  obtain ⟨n2, em⟩ := hro.get _ (List.mem_cons_self ..)
  have q2 := nmne n2
  have h := mapped_tri 139 [.ptr (k, 0) 0] (bsO (k, 0) mm bs) (madeS bs) (enter139) t ht (fun x _ => made1_tri (k, 0) mm bs hbs x)
  repeat' (first
    | refine awp_seq_k fun K hK => ?_
    | ((first | refine awp_region_k (by kernel_rfl) fun R hR => ?_ | refine awp_draw mixed (by kernel_rfl) (by kernel_rfl) fun R hR => ?_); simp only [go_sem, em, q2])
    | ((first | (refine hR _ ?_; clear hR R) | refine awp_skip ?_ | refine awp_exit ?_ | refine awp_ret ?_); try simp only [thenA, inBlockA, reduceIte, reduceCtorEq, Nat.reduceEqDiff, if_false, if_true])
    | ((first | refine hK _ ?_ | (clear hK K; first | refine hK _ ?_ | (clear hK K; first | refine hK _ ?_ | (clear hK K; first | refine hK _ ?_ | (clear hK K; refine hK _ ?_))))); clear hK K)
    | refine awp_true rfl rfl ?_
    | refine awp_false rfl rfl ?_
    | refine awp_block ?_
    | ((first | refine CallK.look (enter128) (h) ?_ (roBs (k := k + 1) (Nat.lt_succ_self k) (Nat.lt_succ_of_lt n2) (by simp only [go_sem, q2]) (by simp only [go_sem, em, q2])) (Fr.rfl' _ _) ?_ | refine CallD.look (enter128) (h) ?_ (roBs (k := k + 1) (Nat.lt_succ_self k) (Nat.lt_succ_of_lt n2) (by simp only [go_sem, q2]) (by simp only [go_sem, em, q2])) (Fr.rfl' _ _) (by first | assumption | exact List.cons_ne_nil _ _) ?_); (focus first | ((repeat (first | exact trivial | refine ⟨(by first | exact Or.inl rfl | exact Or.inr rfl), ?_⟩)); done) | (simp only [coL, AV.dat, true_or, or_true, AV.d.injEq, go_sem]; done)); simp only [go_sem, em, q2])
    | refine And.intro (by first | omega | exact trivial | rfl | assumption | (apply map_sz; intro a; simp only [go_sem]; done) | ((and_intros <;> first | omega | exact trivial | rfl | assumption | (apply map_sz; intro a; simp only [go_sem]; done) | fail); done) | fail) ?_
    | fail)
  first | refine ret_pure (by simp only [Try.results121, resOkL, resOk, Try.ntmps121, List.toList_toArray]; first | decide | (simp only [go_sem]; done) | (simp only [go_sem]; and_intros <;> first | omega | rfl | decide)) ?_ (by repeat (first | exact Fr.rfl' _ _ | assumption | refine Fr.updk ?_ (by omega) _)) | refine ret_ro (by simp only [Try.results121, resOkL, resOk, Try.ntmps121, List.toList_toArray]; first | decide | (simp only [go_sem]; done) | (simp only [go_sem]; and_intros <;> first | omega | rfl | decide)) ?_ (by repeat (first | exact Fr.rfl' _ _ | assumption | refine Fr.updk ?_ (by omega) _))
  simp only [resA, resV, Try.results121, go_sem]
  all_goals try (first | exact Co.t2 (.dat rfl) (.dat rfl) | exact Co.t3 (.dat rfl) (.dat rfl) (.dat rfl))
  all_goals exact co_tm' rfl
end Go.Proofs.Ytmeekpinkfpnhaa

namespace Go.Proofs.Ytmeekpinkfpnhaa
open Go.RowKit
set_option linter.unusedSimpArgs false
set_option linter.unusedSectionVars false

def bdDV (p : Int × Tm) : DV := .st [iD p.1, iD p.2.v, iD p.2.f, .sl (p.2.us.map tmDV)]
@[go_sem] theorem bdDV_cells (p : Int × Tm) : (bdDV p).cells = [iD p.1, iD p.2.v, iD p.2.f, .sl (p.2.us.map tmDV)] := (Eq.trans rfl (Eq.refl _))
theorem bdDV_mk (v : Int) (t : Tm) : DV.st [iD v, iD t.v, iD t.f, .sl (t.us.map tmDV)] = bdDV (v, t) := rfl
abbrev bsDV (b : Bs) : DV := .sl (b.map bdDV)
set_option maxRecDepth 20000 in
theorem boundTo_tri (b : Bs) (hb : b.length ≤ 4000000) (v : Int) : Tri Try.prog 125 [.d (bsDV b), iA v] (pure' (iA (idxB v b 0))) := by
  refine tri_enter Try.func125 rfl Try.ntmps125 (by simp only [List.length_cons, List.length_nil]; omega) fun w0 h0 k hrd hwr => ?_
  repeat' (first
    | refine awp_seq_k fun K hK => ?_
    | ((first | refine awp_region_k (by kernel_rfl) fun R hR => ?_ | refine awp_draw mixed (by kernel_rfl) (by kernel_rfl) fun R hR => ?_); simp only [go_sem])
    | ((first | (refine hR _ ?_; clear hR R) | refine awp_skip ?_ | refine awp_exit ?_ | refine awp_ret ?_); try simp only [thenA, inBlockA, reduceIte, reduceCtorEq, Nat.reduceEqDiff, if_false, if_true])
    | ((first | refine hK _ ?_ | (clear hK K; first | refine hK _ ?_ | (clear hK K; first | refine hK _ ?_ | (clear hK K; first | refine hK _ ?_ | (clear hK K; refine hK _ ?_))))); clear hK K)
    | refine awp_true rfl rfl ?_
    | refine awp_false rfl rfl ?_
    | refine awp_block ?_
    | refine And.intro (by first | omega | exact trivial | rfl | assumption | (apply map_sz; intro a; simp only [go_sem]; done) | ((and_intros <;> first | omega | exact trivial | rfl | assumption | (apply map_sz; intro a; simp only [go_sem]; done) | fail); done) | fail) ?_
    | fail)
  refine awp_loop (fun σ => ∃ i : Nat, σ.t 0 = .d (bsDV b) ∧ σ.t 1 = iA v ∧ σ.t 5 = iA i ∧ σ.h = h0 ∧ i ≤ b.length ∧ idxB v (b.drop i) i = idxB v b 0) (fun σ => b.length - (intOf' (σ.t 5)).toNat) ?_ ?_
  · refine ⟨0, ?_⟩
    simp only [go_sem, List.drop_zero]
    and_intros; all_goals try (first | rfl | omega | assumption | ((repeat (first | exact Fr.rfl' _ _ | assumption | refine Fr.updk ?_ (by omega) _)); done))
  · rintro σ ⟨i, s0, s1, s5, sh, hi, hv⟩
    have hfr : Fr k h0 σ.h := by rw [sh]; exact Fr.rfl' _ _
    rcases Nat.lt_or_ge i b.length with hlt | hge
    · have hz : (i : Int) < (b.length : Int) := by omega
      have e1 : (b.map bdDV).getD i default = bdDV b[i] := nth_map bdDV hlt _
      rw [idxB_at hlt] at hv
      cases hc : b[i].1 == v with
      | true =>
        rw [if_pos (by simpa using hc)] at hv
        repeat' (first
          | refine awp_seq_k fun K hK => ?_
          | ((first | refine awp_region_k (by kernel_rfl) fun R hR => ?_ | refine awp_draw mixed (by kernel_rfl) (by kernel_rfl) fun R hR => ?_); simp only [go_sem, s0, s1, s5, hz, e1, hc, Int.toNat_natCast])
          | ((first | (refine hR _ ?_; clear hR R) | refine awp_skip ?_ | refine awp_exit ?_ | refine awp_ret ?_); try simp only [thenA, inBlockA, reduceIte, reduceCtorEq, Nat.reduceEqDiff, if_false, if_true])
          | ((first | refine hK _ ?_ | (clear hK K; first | refine hK _ ?_ | (clear hK K; first | refine hK _ ?_ | (clear hK K; first | refine hK _ ?_ | (clear hK K; refine hK _ ?_))))); clear hK K)
          | refine awp_true rfl rfl ?_
          | refine awp_false rfl rfl ?_
          | refine awp_block ?_
          | refine And.intro (by first | omega | exact trivial | rfl | assumption | (apply map_sz; intro a; simp only [go_sem]; done) | ((and_intros <;> first | omega | exact trivial | rfl | assumption | (apply map_sz; intro a; simp only [go_sem]; done) | fail); done) | fail) ?_
          | fail)
        first | refine ret_pure (by simp only [Try.results125, resOkL, resOk, Try.ntmps125, List.toList_toArray]; first | decide | (simp only [go_sem]; done) | (simp only [go_sem]; and_intros <;> first | omega | rfl | decide)) ?_ (by repeat (first | exact Fr.rfl' _ _ | assumption | refine Fr.updk ?_ (by omega) _)) | refine ret_ro (by simp only [Try.results125, resOkL, resOk, Try.ntmps125, List.toList_toArray]; first | decide | (simp only [go_sem]; done) | (simp only [go_sem]; and_intros <;> first | omega | rfl | decide)) ?_ (by repeat (first | exact Fr.rfl' _ _ | assumption | refine Fr.updk ?_ (by omega) _))
        simp only [resA, resV, Try.results125, go_sem]
        all_goals try (first | exact Co.t2 (.dat rfl) (.dat rfl) | exact Co.t3 (.dat rfl) (.dat rfl) (.dat rfl))
        exact co_i hv
      | false =>
        rw [if_neg (by simpa using hc)] at hv
        repeat' (first
          | refine awp_seq_k fun K hK => ?_
          | ((first | refine awp_region_k (by kernel_rfl) fun R hR => ?_ | refine awp_draw mixed (by kernel_rfl) (by kernel_rfl) fun R hR => ?_); simp only [go_sem, s0, s1, s5, hz, e1, hc, Int.toNat_natCast])
          | ((first | (refine hR _ ?_; clear hR R) | refine awp_skip ?_ | refine awp_exit ?_ | refine awp_ret ?_); try simp only [thenA, inBlockA, reduceIte, reduceCtorEq, Nat.reduceEqDiff, if_false, if_true])
          | ((first | refine hK _ ?_ | (clear hK K; first | refine hK _ ?_ | (clear hK K; first | refine hK _ ?_ | (clear hK K; first | refine hK _ ?_ | (clear hK K; refine hK _ ?_))))); clear hK K)
          | refine awp_true rfl rfl ?_
          | refine awp_false rfl rfl ?_
          | refine awp_block ?_
          | refine And.intro (by first | omega | exact trivial | rfl | assumption | (apply map_sz; intro a; simp only [go_sem]; done) | ((and_intros <;> first | omega | exact trivial | rfl | assumption | (apply map_sz; intro a; simp only [go_sem]; done) | fail); done) | fail) ?_
          | fail)
        refine ⟨⟨i + 1, ?_⟩, ?_⟩
        rotate_left
        · simp only [go_sem, s0, s1, s5, sh]; omega
        simp only [go_sem, s0, s1, s5, sh]
        and_intros; all_goals try (first | rfl | omega | assumption | ((repeat (first | exact Fr.rfl' _ _ | assumption | refine Fr.updk ?_ (by omega) _)); done))
    · have hz : ¬ ((i : Int) < (b.length : Int)) := by omega
      rw [List.drop_eq_nil_of_le hge, idxB] at hv
      repeat' (first
        | refine awp_seq_k fun K hK => ?_
        | ((first | refine awp_region_k (by kernel_rfl) fun R hR => ?_ | refine awp_draw mixed (by kernel_rfl) (by kernel_rfl) fun R hR => ?_); simp only [go_sem, s0, s1, s5, hz])
        | ((first | (refine hR _ ?_; clear hR R) | refine awp_skip ?_ | refine awp_exit ?_ | refine awp_ret ?_); try simp only [thenA, inBlockA, reduceIte, reduceCtorEq, Nat.reduceEqDiff, if_false, if_true])
        | ((first | refine hK _ ?_ | (clear hK K; first | refine hK _ ?_ | (clear hK K; first | refine hK _ ?_ | (clear hK K; first | refine hK _ ?_ | (clear hK K; refine hK _ ?_))))); clear hK K)
        | refine awp_true rfl rfl ?_
        | refine awp_false rfl rfl ?_
        | refine awp_block ?_
        | refine And.intro (by first | omega | exact trivial | rfl | assumption | (apply map_sz; intro a; simp only [go_sem]; done) | ((and_intros <;> first | omega | exact trivial | rfl | assumption | (apply map_sz; intro a; simp only [go_sem]; done) | fail); done) | fail) ?_
        | fail)
      first | refine ret_pure (by simp only [Try.results125, resOkL, resOk, Try.ntmps125, List.toList_toArray]; first | decide | (simp only [go_sem]; done) | (simp only [go_sem]; and_intros <;> first | omega | rfl | decide)) ?_ (by repeat (first | exact Fr.rfl' _ _ | assumption | refine Fr.updk ?_ (by omega) _)) | refine ret_ro (by simp only [Try.results125, resOkL, resOk, Try.ntmps125, List.toList_toArray]; first | decide | (simp only [go_sem]; done) | (simp only [go_sem]; and_intros <;> first | omega | rfl | decide)) ?_ (by repeat (first | exact Fr.rfl' _ _ | assumption | refine Fr.updk ?_ (by omega) _))
      simp only [resA, resV, Try.results125, go_sem]
      all_goals try (first | exact Co.t2 (.dat rfl) (.dat rfl) | exact Co.t3 (.dat rfl) (.dat rfl) (.dat rfl))
      exact co_i hv
def GrowSpec (p : Tm) : Prop := ∀ (t : Tm) (b : Bs), b.length + p.size ≤ 4000000 → Tri Try.prog 94 [.d (bsDV b), .d (tmDV p), .d (tmDV t)] (pure' (.tup [.d (bsDV (grow p t b).2), bA (grow p t b).1]))
set_option maxHeartbeats 2000000 in
set_option maxRecDepth 20000 in
theorem grow_step (p : Tm) (ih : ∀ u ∈ p.us, GrowSpec u) : GrowSpec p := by
  intro t b hsz
  have hps := p.len_lt
  rw [grow_eq]
  refine tri_enter Try.func94 rfl Try.ntmps94 (by simp only [List.length_cons, List.length_nil]; omega) fun w0 h0 k hrd hwr => ?_
  cases hv : decide (p.v > 0) with
  | true =>
    have hv' : p.v > 0 := by simpa using hv
    rw [if_pos hv']
    have hbt := boundTo_tri b (by omega) p.v
    rcases idxB_look p.v b 0 with ⟨h1, h2⟩ | ⟨j, hj, h1, h2⟩
    · rw [h1] at hbt
      rw [h2]
      dsimp only
      have hap : b.map bdDV ++ [bdDV (p.v, t)] = (b ++ [(p.v, t)]).map bdDV := by simp
      repeat' (first
        | refine awp_seq_k fun K hK => ?_
        | ((first | refine awp_region_k (by kernel_rfl) fun R hR => ?_ | refine awp_draw mixed (by kernel_rfl) (by kernel_rfl) fun R hR => ?_); simp only [go_sem, hv, bdDV_mk, hap, Nat.reduceBEq])
        | ((first | (refine hR _ ?_; clear hR R) | refine awp_skip ?_ | refine awp_exit ?_ | refine awp_ret ?_); try simp only [thenA, inBlockA, reduceIte, reduceCtorEq, Nat.reduceEqDiff, if_false, if_true])
        | ((first | refine hK _ ?_ | (clear hK K; first | refine hK _ ?_ | (clear hK K; first | refine hK _ ?_ | (clear hK K; first | refine hK _ ?_ | (clear hK K; refine hK _ ?_))))); clear hK K)
        | refine awp_true rfl rfl ?_
        | refine awp_false rfl rfl ?_
        | refine awp_block ?_
        | ((first | refine CallK.pure (enter125) (hbt) ?_ ?_ | refine CallD.pure (enter125) (hbt) ?_ ?_); (focus first | ((repeat (first | exact trivial | refine ⟨(by first | exact Or.inl rfl | exact Or.inr rfl), ?_⟩)); done) | (simp only [coL, AV.dat, true_or, or_true, AV.d.injEq, go_sem]; done)); simp only [go_sem, hv, bdDV_mk, hap, Nat.reduceBEq])
        | refine And.intro (by first | omega | exact trivial | rfl | assumption | (apply map_sz; intro a; simp only [go_sem]; done) | ((and_intros <;> first | omega | exact trivial | rfl | assumption | (apply map_sz; intro a; simp only [go_sem]; done) | fail); done) | fail) ?_
        | fail)
      first | refine ret_pure (by simp only [Try.results94, resOkL, resOk, Try.ntmps94, List.toList_toArray]; first | decide | (simp only [go_sem, hap]; done) | (simp only [go_sem, hap]; and_intros <;> first | omega | rfl | decide)) ?_ (by repeat (first | exact Fr.rfl' _ _ | assumption | refine Fr.updk ?_ (by omega) _)) | refine ret_ro (by simp only [Try.results94, resOkL, resOk, Try.ntmps94, List.toList_toArray]; first | decide | (simp only [go_sem, hap]; done) | (simp only [go_sem, hap]; and_intros <;> first | omega | rfl | decide)) ?_ (by repeat (first | exact Fr.rfl' _ _ | assumption | refine Fr.updk ?_ (by omega) _))
      simp only [resA, resV, Try.results94, go_sem, hap]
      all_goals try (first | exact Co.t2 (.dat rfl) (.dat rfl) | exact Co.t3 (.dat rfl) (.dat rfl) (.dat rfl))
    · rw [h1] at hbt
      rw [h2]
      dsimp only
      have hj0 : (((0 + j : Nat) : Int)) = (j : Int) := by omega
      rw [hj0] at hbt
      have hjn : decide ((j : Int) ≥ 0) = true := by simp
      have hz : (j : Int) < (b.length : Int) := by omega
      have e1 : (b.map bdDV).getD j default = bdDV b[j] := nth_map bdDV hj _
      repeat' (first
        | refine awp_seq_k fun K hK => ?_
        | ((first | refine awp_region_k (by kernel_rfl) fun R hR => ?_ | refine awp_draw mixed (by kernel_rfl) (by kernel_rfl) fun R hR => ?_); simp only [go_sem, hv, hjn, hz, e1, Nat.reduceBEq, Int.toNat_natCast])
        | ((first | (refine hR _ ?_; clear hR R) | refine awp_skip ?_ | refine awp_exit ?_ | refine awp_ret ?_); try simp only [thenA, inBlockA, reduceIte, reduceCtorEq, Nat.reduceEqDiff, if_false, if_true])
        | ((first | refine hK _ ?_ | (clear hK K; first | refine hK _ ?_ | (clear hK K; first | refine hK _ ?_ | (clear hK K; first | refine hK _ ?_ | (clear hK K; refine hK _ ?_))))); clear hK K)
        | refine awp_true rfl rfl ?_
        | refine awp_false rfl rfl ?_
        | refine awp_block ?_
        | ((first | refine CallK.pure (enter125) (hbt) ?_ ?_ | refine CallD.pure (enter125) (hbt) ?_ ?_); (focus first | ((repeat (first | exact trivial | refine ⟨(by first | exact Or.inl rfl | exact Or.inr rfl), ?_⟩)); done) | (simp only [coL, AV.dat, true_or, or_true, AV.d.injEq, go_sem]; done)); simp only [go_sem, hv, hjn, hz, e1, Nat.reduceBEq, Int.toNat_natCast])
        | ((first | refine CallK.pure (enter47) (sameR_tri b[j].2 t) ?_ ?_ | refine CallD.pure (enter47) (sameR_tri b[j].2 t) ?_ ?_); (focus first | ((repeat (first | exact trivial | refine ⟨(by first | exact Or.inl rfl | exact Or.inr rfl), ?_⟩)); done) | (simp only [coL, AV.dat, true_or, or_true, AV.d.injEq, go_sem]; done)); simp only [go_sem, hv, hjn, hz, e1, Nat.reduceBEq, Int.toNat_natCast])
        | refine And.intro (by first | omega | exact trivial | rfl | assumption | (apply map_sz; intro a; simp only [go_sem]; done) | ((and_intros <;> first | omega | exact trivial | rfl | assumption | (apply map_sz; intro a; simp only [go_sem]; done) | fail); done) | fail) ?_
        | fail)
      first | refine ret_pure (by simp only [Try.results94, resOkL, resOk, Try.ntmps94, List.toList_toArray]; first | decide | (simp only [go_sem]; done) | (simp only [go_sem]; and_intros <;> first | omega | rfl | decide)) ?_ (by repeat (first | exact Fr.rfl' _ _ | assumption | refine Fr.updk ?_ (by omega) _)) | refine ret_ro (by simp only [Try.results94, resOkL, resOk, Try.ntmps94, List.toList_toArray]; first | decide | (simp only [go_sem]; done) | (simp only [go_sem]; and_intros <;> first | omega | rfl | decide)) ?_ (by repeat (first | exact Fr.rfl' _ _ | assumption | refine Fr.updk ?_ (by omega) _))
      simp only [resA, resV, Try.results94, go_sem]
      all_goals try (first | exact Co.t2 (.dat rfl) (.dat rfl) | exact Co.t3 (.dat rfl) (.dat rfl) (.dat rfl))
  | false =>
    have hv' : ¬ p.v > 0 := by simpa using hv
    rw [if_neg hv']
    cases h1 : decide (t.v > 0) with
    | true =>
      rw [if_pos (.inl (by simpa using h1))]
      repeat' (first
        | refine awp_seq_k fun K hK => ?_
        | ((first | refine awp_region_k (by kernel_rfl) fun R hR => ?_ | refine awp_draw mixed (by kernel_rfl) (by kernel_rfl) fun R hR => ?_); simp only [go_sem, hv, h1])
        | ((first | (refine hR _ ?_; clear hR R) | refine awp_skip ?_ | refine awp_exit ?_ | refine awp_ret ?_); try simp only [thenA, inBlockA, reduceIte, reduceCtorEq, Nat.reduceEqDiff, if_false, if_true])
        | ((first | refine hK _ ?_ | (clear hK K; first | refine hK _ ?_ | (clear hK K; first | refine hK _ ?_ | (clear hK K; first | refine hK _ ?_ | (clear hK K; refine hK _ ?_))))); clear hK K)
        | refine awp_true rfl rfl ?_
        | refine awp_false rfl rfl ?_
        | refine awp_block ?_
        | refine And.intro (by first | omega | exact trivial | rfl | assumption | (apply map_sz; intro a; simp only [go_sem]; done) | ((and_intros <;> first | omega | exact trivial | rfl | assumption | (apply map_sz; intro a; simp only [go_sem]; done) | fail); done) | fail) ?_
        | fail)
      first | refine ret_pure (by simp only [Try.results94, resOkL, resOk, Try.ntmps94, List.toList_toArray]; first | decide | (simp only [go_sem]; done) | (simp only [go_sem]; and_intros <;> first | omega | rfl | decide)) ?_ (by repeat (first | exact Fr.rfl' _ _ | assumption | refine Fr.updk ?_ (by omega) _)) | refine ret_ro (by simp only [Try.results94, resOkL, resOk, Try.ntmps94, List.toList_toArray]; first | decide | (simp only [go_sem]; done) | (simp only [go_sem]; and_intros <;> first | omega | rfl | decide)) ?_ (by repeat (first | exact Fr.rfl' _ _ | assumption | refine Fr.updk ?_ (by omega) _))
      simp only [resA, resV, Try.results94, go_sem]
      all_goals try (first | exact Co.t2 (.dat rfl) (.dat rfl) | exact Co.t3 (.dat rfl) (.dat rfl) (.dat rfl))
    | false =>
      cases h2 : (p.f != t.f) with
      | true =>
        rw [if_pos (.inr (.inl (by simpa using h2)))]
        repeat' (first
          | refine awp_seq_k fun K hK => ?_
          | ((first | refine awp_region_k (by kernel_rfl) fun R hR => ?_ | refine awp_draw mixed (by kernel_rfl) (by kernel_rfl) fun R hR => ?_); simp only [go_sem, hv, h1, h2])
          | ((first | (refine hR _ ?_; clear hR R) | refine awp_skip ?_ | refine awp_exit ?_ | refine awp_ret ?_); try simp only [thenA, inBlockA, reduceIte, reduceCtorEq, Nat.reduceEqDiff, if_false, if_true])
          | ((first | refine hK _ ?_ | (clear hK K; first | refine hK _ ?_ | (clear hK K; first | refine hK _ ?_ | (clear hK K; first | refine hK _ ?_ | (clear hK K; refine hK _ ?_))))); clear hK K)
          | refine awp_true rfl rfl ?_
          | refine awp_false rfl rfl ?_
          | refine awp_block ?_
          | refine And.intro (by first | omega | exact trivial | rfl | assumption | (apply map_sz; intro a; simp only [go_sem]; done) | ((and_intros <;> first | omega | exact trivial | rfl | assumption | (apply map_sz; intro a; simp only [go_sem]; done) | fail); done) | fail) ?_
          | fail)
        first | refine ret_pure (by simp only [Try.results94, resOkL, resOk, Try.ntmps94, List.toList_toArray]; first | decide | (simp only [go_sem]; done) | (simp only [go_sem]; and_intros <;> first | omega | rfl | decide)) ?_ (by repeat (first | exact Fr.rfl' _ _ | assumption | refine Fr.updk ?_ (by omega) _)) | refine ret_ro (by simp only [Try.results94, resOkL, resOk, Try.ntmps94, List.toList_toArray]; first | decide | (simp only [go_sem]; done) | (simp only [go_sem]; and_intros <;> first | omega | rfl | decide)) ?_ (by repeat (first | exact Fr.rfl' _ _ | assumption | refine Fr.updk ?_ (by omega) _))
        simp only [resA, resV, Try.results94, go_sem]
        all_goals try (first | exact Co.t2 (.dat rfl) (.dat rfl) | exact Co.t3 (.dat rfl) (.dat rfl) (.dat rfl))
      | false =>
        cases h3 : ((p.us.length : Int) != (t.us.length : Int)) with
        | true =>
          rw [if_pos (.inr (.inr (by simp at h3; omega)))]
          repeat' (first
            | refine awp_seq_k fun K hK => ?_
            | ((first | refine awp_region_k (by kernel_rfl) fun R hR => ?_ | refine awp_draw mixed (by kernel_rfl) (by kernel_rfl) fun R hR => ?_); simp only [go_sem, hv, h1, h2, h3])
            | ((first | (refine hR _ ?_; clear hR R) | refine awp_skip ?_ | refine awp_exit ?_ | refine awp_ret ?_); try simp only [thenA, inBlockA, reduceIte, reduceCtorEq, Nat.reduceEqDiff, if_false, if_true])
            | ((first | refine hK _ ?_ | (clear hK K; first | refine hK _ ?_ | (clear hK K; first | refine hK _ ?_ | (clear hK K; first | refine hK _ ?_ | (clear hK K; refine hK _ ?_))))); clear hK K)
            | refine awp_true rfl rfl ?_
            | refine awp_false rfl rfl ?_
            | refine awp_block ?_
            | refine And.intro (by first | omega | exact trivial | rfl | assumption | (apply map_sz; intro a; simp only [go_sem]; done) | ((and_intros <;> first | omega | exact trivial | rfl | assumption | (apply map_sz; intro a; simp only [go_sem]; done) | fail); done) | fail) ?_
            | fail)
          first | refine ret_pure (by simp only [Try.results94, resOkL, resOk, Try.ntmps94, List.toList_toArray]; first | decide | (simp only [go_sem]; done) | (simp only [go_sem]; and_intros <;> first | omega | rfl | decide)) ?_ (by repeat (first | exact Fr.rfl' _ _ | assumption | refine Fr.updk ?_ (by omega) _)) | refine ret_ro (by simp only [Try.results94, resOkL, resOk, Try.ntmps94, List.toList_toArray]; first | decide | (simp only [go_sem]; done) | (simp only [go_sem]; and_intros <;> first | omega | rfl | decide)) ?_ (by repeat (first | exact Fr.rfl' _ _ | assumption | refine Fr.updk ?_ (by omega) _))
          simp only [resA, resV, Try.results94, go_sem]
          all_goals try (first | exact Co.t2 (.dat rfl) (.dat rfl) | exact Co.t3 (.dat rfl) (.dat rfl) (.dat rfl))
        | false =>
          have hll : p.us.length = t.us.length := by simp at h3; omega
          rw [if_neg (by simp at h1 h2; omega)]
          have hsz2 := p.size_eq
          repeat' (first
            | refine awp_seq_k fun K hK => ?_
            | ((first | refine awp_region_k (by kernel_rfl) fun R hR => ?_ | refine awp_draw mixed (by kernel_rfl) (by kernel_rfl) fun R hR => ?_); simp only [go_sem, hv, h1, h2, h3])
            | ((first | (refine hR _ ?_; clear hR R) | refine awp_skip ?_ | refine awp_exit ?_ | refine awp_ret ?_); try simp only [thenA, inBlockA, reduceIte, reduceCtorEq, Nat.reduceEqDiff, if_false, if_true])
            | ((first | refine hK _ ?_ | (clear hK K; first | refine hK _ ?_ | (clear hK K; first | refine hK _ ?_ | (clear hK K; first | refine hK _ ?_ | (clear hK K; refine hK _ ?_))))); clear hK K)
            | refine awp_true rfl rfl ?_
            | refine awp_false rfl rfl ?_
            | refine awp_block ?_
            | refine And.intro (by first | omega | exact trivial | rfl | assumption | (apply map_sz; intro a; simp only [go_sem]; done) | ((and_intros <;> first | omega | exact trivial | rfl | assumption | (apply map_sz; intro a; simp only [go_sem]; done) | fail); done) | fail) ?_
            | fail)
          refine awp_loop (fun σ => ∃ (i : Nat) (bi : Bs), σ.t 0 = .d (bsDV bi) ∧ σ.t 4 = .ptr (k, 0) 0 ∧ σ.t 5 = .ptr (k, 1) 0 ∧ σ.t 9 = iA i ∧ σ.h (k, 0) = some (.cells 27 [iA p.v, iA p.f, .d (.sl (p.us.map tmDV))]) ∧ σ.h (k, 1) = some (.cells 27 [iA t.v, iA t.f, .d (.sl (t.us.map tmDV))]) ∧ Fr k h0 σ.h ∧ k < σ.k ∧ i ≤ p.us.length ∧ bi.length + Tm.size.sizes (p.us.drop i) ≤ b.length + Tm.size.sizes p.us ∧ growL (p.us.drop i) (t.us.drop i) bi = growL p.us t.us b) (fun σ => p.us.length - (intOf' (σ.t 9)).toNat) ?_ ?_
          · refine ⟨0, b, ?_⟩
            simp only [go_sem, List.drop_zero]
            and_intros; all_goals try (first | rfl | omega | assumption | ((repeat (first | exact Fr.rfl' _ _ | assumption | refine Fr.updk ?_ (by omega) _)); done))
          · rintro σ ⟨i, bi, s0, s4, s5, s9, sh, sh', hF, hk, hi, hbi, hg⟩
            have hne := ltne hk
            rcases Nat.lt_or_ge i p.us.length with hlt | hge
            · have hlt' : i < t.us.length := by omega
              have hz : (i : Int) < (p.us.length : Int) := by omega
              have hz' : (i : Int) < (t.us.length : Int) := by omega
              have e1 : (p.us.map tmDV).getD i default = tmDV p.us[i] := nth_map tmDV hlt _
              have e2 : (t.us.map tmDV).getD i default = tmDV t.us[i] := nth_map tmDV hlt' _
              rw [List.drop_eq_getElem_cons hlt, Tm.size.sizes] at hbi
              have hT := ih _ (List.getElem_mem hlt) t.us[i] bi (by omega)
              have hgl := grow_len p.us[i] t.us[i] bi
              rw [growL_at hlt hlt'] at hg
              cases h4 : (grow p.us[i] t.us[i] bi).1 with
              | true =>
                rw [h4] at hT
                rw [h4, if_pos rfl] at hg
                repeat' (first
                  | refine awp_seq_k fun K hK => ?_
                  | ((first | refine awp_region_k (by kernel_rfl) fun R hR => ?_ | refine awp_draw mixed (by kernel_rfl) (by kernel_rfl) fun R hR => ?_); simp only [go_sem, s0, s4, s5, s9, sh, sh', hz, hz', e1, e2, hne, Int.toNat_natCast])
                  | ((first | (refine hR _ ?_; clear hR R) | refine awp_skip ?_ | refine awp_exit ?_ | refine awp_ret ?_); try simp only [thenA, inBlockA, reduceIte, reduceCtorEq, Nat.reduceEqDiff, if_false, if_true])
                  | ((first | refine hK _ ?_ | (clear hK K; first | refine hK _ ?_ | (clear hK K; first | refine hK _ ?_ | (clear hK K; first | refine hK _ ?_ | (clear hK K; refine hK _ ?_))))); clear hK K)
                  | refine awp_true rfl rfl ?_
                  | refine awp_false rfl rfl ?_
                  | refine awp_block ?_
                  | ((first | refine CallK.pure (enter94) (hT) ?_ ?_ | refine CallD.pure (enter94) (hT) ?_ ?_); (focus first | ((repeat (first | exact trivial | refine ⟨(by first | exact Or.inl rfl | exact Or.inr rfl), ?_⟩)); done) | (simp only [coL, AV.dat, true_or, or_true, AV.d.injEq, go_sem]; done)); simp only [go_sem, s0, s4, s5, s9, sh, sh', hz, hz', e1, e2, hne, Int.toNat_natCast])
                  | refine And.intro (by first | omega | exact trivial | rfl | assumption | (apply map_sz; intro a; simp only [go_sem]; done) | ((and_intros <;> first | omega | exact trivial | rfl | assumption | (apply map_sz; intro a; simp only [go_sem]; done) | fail); done) | fail) ?_
                  | fail)
                refine ⟨⟨i + 1, (grow p.us[i] t.us[i] bi).2, ?_⟩, ?_⟩
                rotate_left
                · simp only [go_sem, s0, s4, s5, s9, sh, sh', hne]; omega
                simp only [go_sem, s0, s4, s5, s9, sh, sh', hne]
                and_intros; all_goals try (first | rfl | omega | assumption | ((repeat (first | exact Fr.rfl' _ _ | assumption | refine Fr.updk ?_ (by omega) _)); done))
              | false =>
                rw [h4] at hT
                rw [h4] at hg
                simp only [Bool.false_eq_true, if_false] at hg
                repeat' (first
                  | refine awp_seq_k fun K hK => ?_
                  | ((first | refine awp_region_k (by kernel_rfl) fun R hR => ?_ | refine awp_draw mixed (by kernel_rfl) (by kernel_rfl) fun R hR => ?_); simp only [go_sem, s0, s4, s5, s9, sh, sh', hz, hz', e1, e2, hne, Int.toNat_natCast])
                  | ((first | (refine hR _ ?_; clear hR R) | refine awp_skip ?_ | refine awp_exit ?_ | refine awp_ret ?_); try simp only [thenA, inBlockA, reduceIte, reduceCtorEq, Nat.reduceEqDiff, if_false, if_true])
                  | ((first | refine hK _ ?_ | (clear hK K; first | refine hK _ ?_ | (clear hK K; first | refine hK _ ?_ | (clear hK K; first | refine hK _ ?_ | (clear hK K; refine hK _ ?_))))); clear hK K)
                  | refine awp_true rfl rfl ?_
                  | refine awp_false rfl rfl ?_
                  | refine awp_block ?_
                  | ((first | refine CallK.pure (enter94) (hT) ?_ ?_ | refine CallD.pure (enter94) (hT) ?_ ?_); (focus first | ((repeat (first | exact trivial | refine ⟨(by first | exact Or.inl rfl | exact Or.inr rfl), ?_⟩)); done) | (simp only [coL, AV.dat, true_or, or_true, AV.d.injEq, go_sem]; done)); simp only [go_sem, s0, s4, s5, s9, sh, sh', hz, hz', e1, e2, hne, Int.toNat_natCast])
                  | refine And.intro (by first | omega | exact trivial | rfl | assumption | (apply map_sz; intro a; simp only [go_sem]; done) | ((and_intros <;> first | omega | exact trivial | rfl | assumption | (apply map_sz; intro a; simp only [go_sem]; done) | fail); done) | fail) ?_
                  | fail)
                rw [← hg]
                first | refine ret_pure (by simp only [Try.results94, resOkL, resOk, Try.ntmps94, List.toList_toArray]; first | decide | (simp only [go_sem, s0]; done) | (simp only [go_sem, s0]; and_intros <;> first | omega | rfl | decide)) ?_ (by repeat (first | exact Fr.rfl' _ _ | assumption | refine Fr.updk ?_ (by omega) _)) | refine ret_ro (by simp only [Try.results94, resOkL, resOk, Try.ntmps94, List.toList_toArray]; first | decide | (simp only [go_sem, s0]; done) | (simp only [go_sem, s0]; and_intros <;> first | omega | rfl | decide)) ?_ (by repeat (first | exact Fr.rfl' _ _ | assumption | refine Fr.updk ?_ (by omega) _))
                simp only [resA, resV, Try.results94, go_sem, s0]
                all_goals try (first | exact Co.t2 (.dat rfl) (.dat rfl) | exact Co.t3 (.dat rfl) (.dat rfl) (.dat rfl))
            · have hz : ¬ ((i : Int) < (p.us.length : Int)) := by omega
              have hg' : growL p.us t.us b = (true, bi) := by
                rw [← hg, List.drop_eq_nil_of_le hge]
                cases t.us.drop i <;> rfl
              repeat' (first
                | refine awp_seq_k fun K hK => ?_
                | ((first | refine awp_region_k (by kernel_rfl) fun R hR => ?_ | refine awp_draw mixed (by kernel_rfl) (by kernel_rfl) fun R hR => ?_); simp only [go_sem, s0, s4, s9, sh, hz, hne])
                | ((first | (refine hR _ ?_; clear hR R) | refine awp_skip ?_ | refine awp_exit ?_ | refine awp_ret ?_); try simp only [thenA, inBlockA, reduceIte, reduceCtorEq, Nat.reduceEqDiff, if_false, if_true])
                | ((first | refine hK _ ?_ | (clear hK K; first | refine hK _ ?_ | (clear hK K; first | refine hK _ ?_ | (clear hK K; first | refine hK _ ?_ | (clear hK K; refine hK _ ?_))))); clear hK K)
                | refine awp_true rfl rfl ?_
                | refine awp_false rfl rfl ?_
                | refine awp_block ?_
                | refine And.intro (by first | omega | exact trivial | rfl | assumption | (apply map_sz; intro a; simp only [go_sem]; done) | ((and_intros <;> first | omega | exact trivial | rfl | assumption | (apply map_sz; intro a; simp only [go_sem]; done) | fail); done) | fail) ?_
                | fail)
              rw [hg']
              first | refine ret_pure (by simp only [Try.results94, resOkL, resOk, Try.ntmps94, List.toList_toArray]; first | decide | (simp only [go_sem, s0]; done) | (simp only [go_sem, s0]; and_intros <;> first | omega | rfl | decide)) ?_ (by repeat (first | exact Fr.rfl' _ _ | assumption | refine Fr.updk ?_ (by omega) _)) | refine ret_ro (by simp only [Try.results94, resOkL, resOk, Try.ntmps94, List.toList_toArray]; first | decide | (simp only [go_sem, s0]; done) | (simp only [go_sem, s0]; and_intros <;> first | omega | rfl | decide)) ?_ (by repeat (first | exact Fr.rfl' _ _ | assumption | refine Fr.updk ?_ (by omega) _))
              simp only [resA, resV, Try.results94, go_sem, s0]
              all_goals try (first | exact Co.t2 (.dat rfl) (.dat rfl) | exact Co.t3 (.dat rfl) (.dat rfl) (.dat rfl))
theorem grow_tri : ∀ p : Tm, GrowSpec p := Tm.ind grow_step
set_option maxRecDepth 20000 in
theorem turned_tri (l : Lt) : Tri Try.prog 93 [.d (ltDV l)] (pure' (.d (ltDV ⟨l.y, l.b, l.a⟩))) := by
  refine tri_enter Try.func93 rfl Try.ntmps93 (by simp only [List.length_cons, List.length_nil]; omega) fun w0 h0 k hrd hwr => ?_
  repeat' (first
    | refine awp_seq_k fun K hK => ?_
    | ((first | refine awp_region_k (by kernel_rfl) fun R hR => ?_ | refine awp_draw mixed (by kernel_rfl) (by kernel_rfl) fun R hR => ?_); simp only [go_sem])
    | ((first | (refine hR _ ?_; clear hR R) | refine awp_skip ?_ | refine awp_exit ?_ | refine awp_ret ?_); try simp only [thenA, inBlockA, reduceIte, reduceCtorEq, Nat.reduceEqDiff, if_false, if_true])
    | ((first | refine hK _ ?_ | (clear hK K; first | refine hK _ ?_ | (clear hK K; first | refine hK _ ?_ | (clear hK K; first | refine hK _ ?_ | (clear hK K; refine hK _ ?_))))); clear hK K)
    | refine awp_true rfl rfl ?_
    | refine awp_false rfl rfl ?_
    | refine awp_block ?_
    | refine And.intro (by first | omega | exact trivial | rfl | assumption | (apply map_sz; intro a; simp only [go_sem]; done) | ((and_intros <;> first | omega | exact trivial | rfl | assumption | (apply map_sz; intro a; simp only [go_sem]; done) | fail); done) | fail) ?_
    | fail)
  first | refine ret_pure (by simp only [Try.results93, resOkL, resOk, Try.ntmps93, List.toList_toArray]; first | decide | (simp only [go_sem]; done) | (simp only [go_sem]; and_intros <;> first | omega | rfl | decide)) ?_ (by repeat (first | exact Fr.rfl' _ _ | assumption | refine Fr.updk ?_ (by omega) _)) | refine ret_ro (by simp only [Try.results93, resOkL, resOk, Try.ntmps93, List.toList_toArray]; first | decide | (simp only [go_sem]; done) | (simp only [go_sem]; and_intros <;> first | omega | rfl | decide)) ?_ (by repeat (first | exact Fr.rfl' _ _ | assumption | refine Fr.updk ?_ (by omega) _))
  simp only [resA, resV, Try.results93, go_sem]
  all_goals try (first | exact Co.t2 (.dat rfl) (.dat rfl) | exact Co.t3 (.dat rfl) (.dat rfl) (.dat rfl))
  exact .dat rfl
end Go.Proofs.Ytmeekpinkfpnhaa
