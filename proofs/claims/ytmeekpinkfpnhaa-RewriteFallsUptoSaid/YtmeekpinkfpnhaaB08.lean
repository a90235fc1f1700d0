/- Rewriting: what is plain. No program in sight. rewrite.found. FRSTH subst.Made. superposeref.BoundTo. superposeref.PartsOf. -/
import Derived.Test.YtmeekpinkfpnhaaB05
import Derived.Test.YtmeekpinkfpnhaaB06
import Derived.Test.YtmeekpinkfpnhaaB07
set_option linter.unusedSimpArgs false
set_option linter.unusedSectionVars false
set_option linter.unusedVariables false
set_option linter.unnecessarySimpa false
set_option linter.all false
namespace Go.Proofs.Ytmeekpinkfpnhaa
/-! ### how great a term is that is made -/
theorem count_size : (∀ (t : Tm) (most : Int), count t most ≤ t.size) := by
  suffices h : ∀ t : Tm, ∀ most : Int, count t most ≤ t.size from h
  intro t
  refine Tm.rec (motive_1 := fun t => ∀ most : Int, count t most ≤ t.size) (motive_2 := fun us => ∀ n most : Int, countL us n most ≤ n + Tm.size.sizes us) ?_ ?_ ?_ t
  · intro v f us ih most
    rw [count, Tm.size]
    have := ih 1 most
    omega
  · intro n most; rw [countL, Tm.size.sizes]; omega
  · intro x xs h1 h2 n most
    rw [countL, Tm.size.sizes]
    split
    · omega
    · have := h1 (most - n)
      have := h2 (n + count x (most - n)) most
      omega
theorem count_cap {t : Tm} : count t 120 ≤ 120 ↔ t.size ≤ 120 := by
  constructor
  · intro h
    have := count_parts t 120 (by omega) h
    rw [parts_len] at this
    omega
  · intro h
    have := count_size t 120
    omega
theorem count_eq_size {t : Tm} (h : t.size ≤ 120) : count t 120 = t.size := by
  have := count_parts t 120 (by omega) (count_cap.2 h)
  rw [parts_len] at this
  omega
def apOne (bs : Bs) (x : Tm) : Int := if x.v > 0 then (match lookB x.v bs with | some u => count u 120 | none => 1) else 1
def apS (bs : Bs) : List Tm → Int
  | [] => 0
  | x :: l => apOne bs x + apS bs l
theorem apOne_pos (bs : Bs) (x : Tm) : 1 ≤ apOne bs x ∧ apOne bs x ≤ 121 := by
  unfold apOne
  split
  · cases lookB x.v bs with
    | none => simp
    | some u => have := count_le u 120 (by omega); simp only; omega
  · omega
theorem apS_append (bs : Bs) (a b : List Tm) : apS bs (a ++ b) = apS bs a + apS bs b := by
  induction a with
  | nil => simp [apS]
  | cons x a ih => rw [List.cons_append, apS, apS, ih]; omega
theorem apS_len (bs : Bs) (l : List Tm) : (l.length : Int) ≤ apS bs l ∧ apS bs l ≤ 121 * l.length := by
  induction l with
  | nil => simp [apS]
  | cons x l ih => have := apOne_pos bs x; rw [apS, List.length_cons]; omega
mutual
theorem apS_pre (bs : Bs) : ∀ t : Tm, apS bs (pre t) = apS bs (parts t)
  | .mk v f us => by rw [pre, parts, apS, apS_append, apS_preL bs us, apS, apS]; omega
theorem apS_preL (bs : Bs) : ∀ us : List Tm, apS bs (preL us) = apS bs (partsL us)
  | [] => rfl
  | x :: xs => by rw [preL, partsL, apS_append, apS_append, apS_pre bs x, apS_preL bs xs]
end
mutual
theorem apS_size (bs : Bs) : ∀ t : Tm, Good t → apS bs (parts t) ≤ (applyR bs t).size ∧ (apS bs (parts t) ≤ 120 → apS bs (parts t) = (applyR bs t).size)
  | .mk v f us, h => by
    obtain ⟨h1, h2⟩ := h.at
    rw [parts, apS_append, applyR]
    by_cases hv : v > 0
    · have := h2 hv; subst this
      rw [if_pos hv]
      cases hl : lookB v bs with
      | none =>
        have e : apOne bs (.mk v f []) = 1 := by simp [apOne, Tm.v, hv, hl]
        simp only [partsL, apS, e]
        simp [Tm.size, Tm.size.sizes]
      | some u =>
        have e : apOne bs (.mk v f []) = count u 120 := by simp [apOne, Tm.v, hv, hl]
        have := count_size u 120
        simp only [partsL, apS, e]
        refine ⟨by omega, fun h3 => ?_⟩
        have := count_eq_size (count_cap.1 (show count u 120 ≤ 120 by omega))
        omega
    · rw [if_neg hv]
      obtain ⟨k1, k2⟩ := apS_sizeL bs us fun u hu => h.kid (t := .mk v f us) hu
      simp only [apS, apOne, Tm.v, if_neg hv, Tm.size]
      have := apS_len bs (partsL us)
      constructor
      · omega
      · intro h3; have := k2 (by omega); omega
theorem apS_sizeL (bs : Bs) : ∀ us : List Tm, (∀ u ∈ us, Good u) → apS bs (partsL us) ≤ Tm.size.sizes (applyRL bs us) ∧ (apS bs (partsL us) ≤ 120 → apS bs (partsL us) = Tm.size.sizes (applyRL bs us))
  | [], _ => ⟨by simp [partsL, apS, applyRL, Tm.size.sizes], fun _ => by simp [partsL, apS, applyRL, Tm.size.sizes]⟩
  | x :: xs, h => by
    obtain ⟨k1, k2⟩ := apS_size bs x (h x (by simp))
    obtain ⟨k3, k4⟩ := apS_sizeL bs xs fun u hu => h u (by simp [hu])
    have := apS_len bs (partsL xs)
    have := apS_len bs (parts x)
    rw [partsL, apS_append, applyRL, Tm.size.sizes]
    constructor
    · omega
    · intro h3
      have := k2 (by omega)
      have := k4 (by omega)
      omega
end
theorem apS_cap {bs : Bs} {t : Tm} (h : Good t) : apS bs (parts t) ≤ 120 ↔ (applyR bs t).size ≤ 120 := by
  obtain ⟨h1, h2⟩ := apS_size bs t h
  constructor
  · intro h3; have := h2 h3; omega
  · intro h3; omega
/-! ### the first place at which a rule matches -/
structure Rl where
  l : Tm
  r : Tm
def ruleG : List Rl → Tm → Option (Rl × Bs)
  | [], _ => none
  | r :: rs, t => if (meet r.l t []).1 = true then some (r, (meet r.l t []).2) else ruleG rs t
def ruleR : List Rl → Tm → Option (Rl × Bs)
  | [], _ => none
  | r :: rs, t => if (grow r.l t []).1 = true then some (r, (grow r.l t []).2) else ruleR rs t
theorem rule_eq {t : Tm} (h : ∀ x ∈ parts t, 0 ≤ x.v) : ∀ rs : List Rl, ruleG rs t = ruleR rs t
  | [] => rfl
  | r :: rs => by
    obtain ⟨h1, h2⟩ := meet_grow r.l t [] h
    rw [ruleG, ruleR, ← h1, rule_eq h rs]
    by_cases hc : (meet r.l t []).1 = true
    · rw [if_pos hc, if_pos hc, h2 hc]
    · rw [if_neg hc, if_neg hc]
mutual
def foundG (rs : List Rl) : Tm → List Int → Option (List Int × Rl × Bs)
  | .mk v f us, pl => match foundL rs us 0 pl with
    | some q => some q
    | none => (ruleG rs (.mk v f us)).map fun q => (pl, q.1, q.2)
def foundL (rs : List Rl) : List Tm → Nat → List Int → Option (List Int × Rl × Bs)
  | [], _, _ => none
  | x :: xs, i, pl => match foundG rs x (pl ++ [(i : Int)]) with
    | some q => some q
    | none => foundL rs xs (i + 1) pl
end
theorem foundG_eq (rs : List Rl) (t : Tm) (pl : List Int) : foundG rs t pl = match foundL rs t.us 0 pl with | some q => some q | none => (ruleG rs t).map fun q => (pl, q.1, q.2) := by cases t; rw [foundG]; rfl
def findQ (rs : List Rl) : List (List Int × Tm) → Option (List Int × Rl × Bs)
  | [] => none
  | q :: l => match ruleG rs q.2 with
    | some w => some (q.1, w.1, w.2)
    | none => findQ rs l
theorem findQ_append (rs : List Rl) (a b : List (List Int × Tm)) : findQ rs (a ++ b) = match findQ rs a with | some q => some q | none => findQ rs b := by
  induction a with
  | nil => rfl
  | cons q a ih =>
    rw [List.cons_append, findQ, findQ, ih]
    cases ruleG rs q.2 <;> rfl
mutual
theorem found_find (rs : List Rl) : ∀ (t : Tm) (pl : List Int), foundG rs t pl = findQ rs ((plP t).map fun q => (pl ++ q.1, q.2))
  | .mk v f us, pl => by
    rw [foundG, plP, List.map_append, findQ_append, ← found_findL rs us 0 pl]
    cases foundL rs us 0 pl with
    | some q => rfl
    | none =>
      simp only [List.map_cons, List.map_nil, findQ, List.append_nil]
      cases ruleG rs (Tm.mk v f us) <;> rfl
theorem found_findL (rs : List Rl) : ∀ (us : List Tm) (i : Nat) (pl : List Int), foundL rs us i pl = findQ rs ((plPL us i).map fun q => (pl ++ q.1, q.2))
  | [], _, _ => rfl
  | x :: xs, i, pl => by
    rw [foundL, plPL, List.map_append, findQ_append, ← found_findL rs xs (i + 1) pl, found_find rs x, List.map_map]
    have e : (fun q : List Int × Tm => (pl ++ q.1, q.2)) ∘ (fun q : List Int × Tm => ((i : Int) :: q.1, q.2)) = fun q : List Int × Tm => (pl ++ [(i : Int)] ++ q.1, q.2) := by
      funext q; simp
    rw [e]
end
theorem found_nil (rs : List Rl) (t : Tm) : foundG rs t [] = findQ rs (plP t) := by
  rw [found_find]; simp
theorem ruleG_some {rs : List Rl} {t : Tm} {r : Rl} {b : Bs} (h : ruleG rs t = some (r, b)) : r ∈ rs ∧ (meet r.l t []).1 = true ∧ b = (meet r.l t []).2 := by
  induction rs with
  | nil => cases h
  | cons x rs ih =>
    rw [ruleG] at h
    by_cases hc : (meet x.l t []).1 = true
    · rw [if_pos hc] at h; cases h; exact ⟨by simp, hc, rfl⟩
    · rw [if_neg hc] at h
      obtain ⟨h1, h2⟩ := ih h
      exact ⟨by simp [h1], h2⟩
theorem findQ_some {rs : List Rl} {l : List (List Int × Tm)} {p : List Int} {r : Rl} {b : Bs} (h : findQ rs l = some (p, r, b)) : ∃ x, (p, x) ∈ l ∧ ruleG rs x = some (r, b) := by
  induction l with
  | nil => cases h
  | cons q l ih =>
    rw [findQ] at h
    cases hq : ruleG rs q.2 with
    | some w =>
      rw [hq] at h
      cases h
      exact ⟨q.2, by simp, hq⟩
    | none =>
      rw [hq] at h
      obtain ⟨x, h1, h2⟩ := ih h
      exact ⟨x, by simp [h1], h2⟩
/-! ### steps -/
def stepG (rs : List Rl) (t : Tm) : Tm × Bool × Int := match foundG rs t [] with
  | none => (t, false, 0)
  | some (p, r, b) => if apS b (pre r.r) > 120 then (tm0, false, 2) else if count (layG t p (mapM (madeS b) r.r)) 120 > 120 then (tm0, false, 2) else (layG t p (mapM (madeS b) r.r), true, 0)
def stepL (rs : List Rl) (t : Tm) : List (List Int × Tm) → Tm × Bool × Int
  | [] => (t, false, 0)
  | q :: l => match ruleR rs q.2 with
    | none => stepL rs t l
    | some (r, b) => if apS b (parts r.r) > 120 then (tm0, false, 2) else if count (putG t q.1 (applyR b r.r)) 120 > 120 then (tm0, false, 2) else (putG t q.1 (applyR b r.r), true, 0)
theorem step_eq {rs : List Rl} {t : Tm} (ht : Good t) (hr : ∀ r ∈ rs, Good r.r) : stepL rs t (plP t) = stepG rs t := by
  have key : ∀ l : List (List Int × Tm), (∀ q ∈ l, atG t q.1 = some q.2) → stepL rs t l = match findQ rs l with
      | none => (t, false, 0)
      | some (p, r, b) => if apS b (pre r.r) > 120 then (tm0, false, 2) else if count (layG t p (mapM (madeS b) r.r)) 120 > 120 then (tm0, false, 2) else (layG t p (mapM (madeS b) r.r), true, 0) := by
    intro l
    induction l with
    | nil => intro _; rfl
    | cons q l ih =>
      intro h
      have hq := h q (by simp)
      have hnn : ∀ x ∈ parts q.2, 0 ≤ x.v := fun x hx => (ht x (at_parts _ _ _ hq x hx)).1
      rw [stepL, findQ, ← rule_eq hnn]
      cases hg : ruleG rs q.2 with
      | none => exact ih fun x hx => h x (by simp [hx])
      | some w =>
        obtain ⟨r, b⟩ := w
        simp only
        have hrr := hr r (ruleG_some hg).1
        rw [put_lay _ t _ _ ht hq, apS_pre, made_apply b _ hrr]
  rw [key (plP t) fun q hq => plP_at t q hq]
  unfold stepG
  rw [found_nil]
def normG (rs : List Rl) : Nat → Tm → Int → Tm × Int × Int
  | k, t, n => if (stepG rs t).2.2 ≠ 0 then (tm0, 0, (stepG rs t).2.2) else if (stepG rs t).2.1 = false then (t, n, 0) else match k with
    | 0 => (tm0, 0, 2)
    | k + 1 => normG rs k (stepG rs t).1 (n + 1)
/-! ### rules checked -/
def rlL (g : List Int) : List Rl → Int
  | [] => 0
  | x :: l => if own g x.l ≠ 0 then own g x.l else if own g x.r ≠ 0 then own g x.r else if gt x.l x.r = false then 4 else rlL g l
def rlOk (g : List Int) (l : List Rl) : Int := if sigOk g ≠ 0 then sigOk g else if l.length > 20 then 2 else rlL g l
theorem rlL_all {g : List Int} : ∀ {l : List Rl}, rlL g l = 0 → ∀ r ∈ l, own g r.l = 0 ∧ own g r.r = 0 ∧ Gt r.l r.r
  | x :: l, h, r, hr => by
    rw [rlL] at h
    by_cases h1 : own g x.l = 0
    · by_cases h2 : own g x.r = 0
      · rw [if_neg (by simp [h1]), if_neg (by simp [h2])] at h
        cases h3 : gt x.l x.r with
        | false => rw [h3, if_pos rfl] at h; cases h
        | true =>
          rw [h3, if_neg (by simp)] at h
          rcases List.mem_cons.1 hr with rfl | hr
          · exact ⟨h1, h2, h3⟩
          · exact rlL_all h r hr
      · rw [if_neg (by simp [h1]), if_pos h2] at h; exact absurd h h2
    · rw [if_pos h1] at h; exact absurd h h1
theorem rlOk_all {g : List Int} {l : List Rl} (h : rlOk g l = 0) : sigOk g = 0 ∧ l.length ≤ 20 ∧ ∀ r ∈ l, own g r.l = 0 ∧ own g r.r = 0 ∧ Gt r.l r.r := by
  unfold rlOk at h
  by_cases hs : sigOk g = 0
  · rw [if_neg (by simp [hs])] at h
    by_cases h2 : l.length > 20
    · rw [if_pos h2] at h; cases h
    · rw [if_neg h2] at h; exact ⟨hs, by omega, rlL_all h⟩
  · rw [if_pos hs] at h; exact absurd h hs
/-! ### E3: each step makes a lesser term -/
theorem gt_lay : ∀ (p : List Int) (t u x : Tm), Good t → atG t p = some x → Gt x u → Gt t (layG t p u)
  | [], t, u, x, _, h, hg => by rw [atG] at h; cases h; exact hg
  | i :: p, t, u, x, ht, h, hg => by
    obtain ⟨n, hn, rfl, k⟩ := atG_some h
    have h1 := gt_lay p t.us[n] u x (ht.kid (List.getElem_mem hn)) k hg
    have h0 := ht t (parts_self t)
    have hv : t.v = 0 := by
      rcases Int.lt_or_le 0 t.v with h1 | h1
      · have := h0.2 h1; rw [this] at hn; exact absurd hn (Nat.not_lt_zero _)
      · omega
    rw [layG, Int.toNat_natCast, getD_at hn, hv, set_cut hn]
    have := h1.mono t.f (t.us.take n) (t.us.drop (n + 1))
    rw [← us_cut hn, ← hv, Tm.eta] at this
    rw [hv] at this; exact this
theorem form_part {g : List Int} {t x : Tm} (h : form g t = 0) (hx : x ∈ parts t) : form g x = 0 := by
  rw [← formAll_parts] at h ⊢
  have h1 := formAll_mem h
  have sub : ∀ y ∈ parts x, y ∈ parts t := by
    revert hx
    refine Tm.ind (P := fun t => x ∈ parts t → ∀ y ∈ parts x, y ∈ parts t) (fun t ih hx y hy => ?_) t
    rw [parts_eq, List.mem_append] at hx
    rcases hx with hx | hx
    · obtain ⟨u, hu, hx⟩ := partsL_mem hx
      exact parts_kid hu (ih u hu hx y hy)
    · rw [← List.mem_singleton.1 hx]; exact hy
  have all : ∀ l : List Tm, (∀ y ∈ l, formOne g y.v y.f y.us.length = 0) → formAll g l = 0 := by
    intro l
    induction l with
    | nil => intro _; rfl
    | cons y l ih => intro hl; rw [formAll, if_neg (by simp [hl y (by simp)])]; exact ih fun z hz => hl z (by simp [hz])
  exact all _ fun y hy => h1 y (sub y hy)
theorem formL_iff {g : List Int} : ∀ {l : List Tm}, formL g l = 0 ↔ ∀ y ∈ l, form g y = 0
  | [] => by simp [formL]
  | y :: l => by
    rw [formL]
    by_cases hy : form g y = 0
    · rw [if_neg (by simp [hy]), formL_iff]; simp [hy]
    · rw [if_pos hy]; simp [hy]
theorem form_sub {g : List Int} {σ : Int → Tm} : ∀ t : Tm, form g t = 0 → (∀ x ∈ parts t, x.v > 0 → form g (σ x.v) = 0) → form g (sub σ t) = 0 := by
  refine Tm.ind fun t ih ht hs => ?_
  rw [sub_eq]
  by_cases hv : t.v > 0
  · rw [if_pos hv]; exact hs t (parts_self t) hv
  · rw [if_neg hv, form]
    rw [form_eq] at ht
    by_cases hl : formL g t.us = 0
    · rw [if_neg (by simp [hl])] at ht
      have h1 := formL_iff.1 hl
      have h3 : formL g (subL σ t.us) = 0 := formL_iff.2 fun y hy => by
        rw [subL_map] at hy
        obtain ⟨u, hu, rfl⟩ := List.mem_map.1 hy
        exact ih u hu (h1 u hu) fun x hx hxv => hs x (parts_kid hu hx) hxv
      rw [if_neg (by simp [h3]), subL_map, List.length_map]; exact ht
    · rw [if_pos hl] at ht; exact absurd ht hl
mutual
theorem meet_mem : ∀ (p t : Tm) (b : Bs) (q : Int × Tm), q ∈ (meet p t b).2 → q ∈ b ∨ q.2 ∈ parts t
  | .mk v f us, t, b, q, h => by
    rw [meet] at h
    by_cases hv : v > 0
    · rw [if_pos hv] at h
      cases hb : lookB v b with
      | some u => rw [hb] at h; exact .inl h
      | none =>
        rw [hb] at h
        rcases List.mem_append.1 h with h | h
        · exact .inl h
        · rw [List.mem_singleton.1 h]; exact .inr (parts_self t)
    · rw [if_neg hv] at h
      split at h
      · rcases meetL_mem us t.us b q h with h | h
        · exact .inl h
        · right; rw [parts_eq]; exact List.mem_append_left _ h
      · exact .inl h
theorem meetL_mem : ∀ (xs ys : List Tm) (b : Bs) (q : Int × Tm), q ∈ (meetL xs ys b).2 → q ∈ b ∨ q.2 ∈ partsL ys
  | [], ys, b, q, h => by rw [meetL] at h; exact .inl h; intro x xs y ys h1; cases h1
  | x :: xs, [], b, q, h => by rw [meetL] at h; exact .inl h; intro x xs y ys _ h1; cases h1
  | x :: xs, y :: ys, b, q, h => by
    rw [meetL] at h
    rw [partsL]
    split at h
    · rcases meetL_mem xs ys _ q h with h | h
      · rcases meet_mem x y b q h with h | h
        · exact .inl h
        · exact .inr (List.mem_append_left _ h)
      · exact .inr (List.mem_append_right _ h)
    · rcases meet_mem x y b q h with h | h
      · exact .inl h
      · exact .inr (List.mem_append_left _ h)
end
theorem lookB_mem {v : Int} {u : Tm} : ∀ {b : Bs}, lookB v b = some u → ∃ p ∈ b, p.1 = v ∧ p.2 = u
  | p :: b, h => by
    rw [lookB] at h
    by_cases hv : v = p.1
    · rw [if_pos hv] at h; cases h; exact ⟨p, by simp, hv.symm, rfl⟩
    · rw [if_neg hv] at h
      obtain ⟨q, hq, h1⟩ := lookB_mem h
      exact ⟨q, by simp [hq], h1⟩
theorem formV {g : List Int} {t x : Tm} (h : form g t = 0) (hx : x ∈ parts t) (hv : x.v > 0) : form g (vt x.v) = 0 := by
  rw [← formAll_parts] at h
  have := formAll_mem h x hx
  unfold formOne at this
  rw [if_pos (by omega)] at this
  split at this
  · cases this
  · simp [form, formL, formOne]; omega
theorem step_ok {g : List Int} {rs : List Rl} {t : Tm} (ht : own g t = 0) (hr : ∀ r ∈ rs, own g r.l = 0 ∧ own g r.r = 0 ∧ Gt r.l r.r) (he : (stepG rs t).2.2 = 0) :
    own g (stepG rs t).1 = 0 ∧ ((stepG rs t).2.1 = true → Gt t (stepG rs t).1) ∧ ((stepG rs t).2.1 = false → (stepG rs t).1 = t) := by
  unfold stepG at he ⊢
  cases hf : foundG rs t [] with
  | none => exact ⟨ht, fun h => absurd h Bool.false_ne_true, fun _ => rfl⟩
  | some w =>
    obtain ⟨p, r, b⟩ := w
    rw [hf] at he
    simp only at he ⊢
    by_cases h1 : apS b (pre r.r) > 120
    · rw [if_pos h1] at he; cases he
    · rw [if_neg h1] at he ⊢
      by_cases h2 : count (layG t p (mapM (madeS b) r.r)) 120 > 120
      · rw [if_pos h2] at he; cases he
      · rw [if_neg h2]
        rw [found_nil] at hf
        obtain ⟨x, hx, hrx⟩ := findQ_some hf
        have hat := plP_at t (p, x) hx
        simp only at hat
        obtain ⟨hrm, m1, m2⟩ := ruleG_some hrx
        obtain ⟨o1, o2, og⟩ := hr r hrm
        have hpl := own_pure o1
        have hpr := own_pure o2
        obtain ⟨_, hs⟩ := meet_sound (σ := sbOf b) r.l x [] hpl.nn m1 (by rw [← m2]; exact sbOf_ext b)
        have hmade : mapM (madeS b) r.r = sub (sbOf b) r.r := by rw [made_apply b _ hpr.good, applyR_sub b _ hpr]
        have hgt : Gt x (mapM (madeS b) r.r) := by rw [hmade, ← hs]; exact og.sub _
        have hform : form g (mapM (madeS b) r.r) = 0 := by
          rw [hmade]
          refine form_sub r.r (own_form o2).1 fun y hy hv => ?_
          unfold sbOf
          cases hl : lookB y.v b with
          | none => exact formV (own_form o2).1 hy hv
          | some u =>
            obtain ⟨q, hq, _, rfl⟩ := lookB_mem hl
            rw [m2] at hq
            rcases meet_mem _ _ _ _ hq with h | h
            · cases h
            · exact form_part (own_form ht).1 (at_parts p t x hat _ h)
        refine ⟨?_, fun _ => gt_lay p t _ x (own_good ht) hat hgt, fun h => absurd h.symm Bool.false_ne_true⟩
        unfold own
        rw [if_neg h2]
        exact lay_form g p t _ x hat (own_form ht).1 hform
theorem norm_ok {g : List Int} {rs : List Rl} (hr : ∀ r ∈ rs, own g r.l = 0 ∧ own g r.r = 0 ∧ Gt r.l r.r) : ∀ (k : Nat) (t : Tm) (n : Int), own g t = 0 → (normG rs k t n).2.2 = 0 →
    own g (normG rs k t n).1 = 0 ∧ stepG rs (normG rs k t n).1 = ((normG rs k t n).1, false, 0) ∧ ((stepG rs t).2.1 = true → n < (normG rs k t n).2.1) ∧ ((stepG rs t).2.1 = false → n = (normG rs k t n).2.1) ∧ n ≤ (normG rs k t n).2.1 := by
  intro k
  induction k with
  | zero =>
    intro t n ho he
    rw [normG] at he ⊢
    by_cases h1 : (stepG rs t).2.2 = 0
    · obtain ⟨s1, s2, s3⟩ := step_ok ho hr h1
      rw [if_neg (by simp [h1])] at he ⊢
      cases h2 : (stepG rs t).2.1 with
      | false =>
        rw [if_pos rfl]
        refine ⟨ho, ?_, fun h => absurd h Bool.false_ne_true, fun _ => rfl, Int.le_refl _⟩
        have := s3 h2
        simp only
        rw [← h1, ← h2]
        have e : stepG rs t = ((stepG rs t).1, (stepG rs t).2.1, (stepG rs t).2.2) := rfl
        rw [e, this]
      | true => rw [h2] at he; simp at he
    · rw [if_pos h1] at he; exact absurd he h1
  | succ k ih =>
    intro t n ho he
    rw [normG] at he ⊢
    by_cases h1 : (stepG rs t).2.2 = 0
    · obtain ⟨s1, s2, s3⟩ := step_ok ho hr h1
      rw [if_neg (by simp [h1])] at he ⊢
      cases h2 : (stepG rs t).2.1 with
      | false =>
        rw [if_pos rfl]
        refine ⟨ho, ?_, fun h => absurd h Bool.false_ne_true, fun _ => rfl, Int.le_refl _⟩
        have := s3 h2
        simp only
        rw [← h1, ← h2]
        have e : stepG rs t = ((stepG rs t).1, (stepG rs t).2.1, (stepG rs t).2.2) := rfl
        rw [e, this]
      | true =>
        rw [h2] at he
        simp only [Bool.true_eq_false, if_false] at he ⊢
        obtain ⟨i1, i2, _, _, i5⟩ := ih _ (n + 1) s1 he
        exact ⟨i1, i2, fun _ => by omega, fun h => h.elim, by omega⟩
    · rw [if_pos h1] at he; exact absurd he h1
end Go.Proofs.Ytmeekpinkfpnhaa
namespace Go.Proofs.Ytmeekpinkfpnhaa
open Go.RowKit
def rlDV (r : Rl) : DV := .st [iD r.l.v, iD r.l.f, .sl (r.l.us.map tmDV), iD r.r.v, iD r.r.f, .sl (r.r.us.map tmDV)]
@[go_sem] theorem rlDV_cells (r : Rl) : (rlDV r).cells = [iD r.l.v, iD r.l.f, .sl (r.l.us.map tmDV), iD r.r.v, iD r.r.f, .sl (r.r.us.map tmDV)] := (Eq.trans rfl (Eq.refl _))
@[go_sem] theorem rlDV_fold (r : Rl) : DV.st [iD r.l.v, iD r.l.f, .sl (r.l.us.map tmDV), iD r.r.v, iD r.r.f, .sl (r.r.us.map tmDV)] = rlDV r := (Eq.trans rfl (Eq.refl _))
abbrev rlsDV (rs : List Rl) : DV := .sl (rs.map rlDV)
def mapE (n' : Nm) (es : List (Int × DV)) (v : AV) : Eff := ⟨v, [(n', none)], [(n', some (.map es))]⟩
attribute [go_sem] mapE
theorem ret_mapE {P : Program} {fn : Func} {n' q : Nm} {es : List (Int × DV)} {v val : AV} {h0 : Heap} {k : Nat} {s : St} (h1 : resOkL P fn.ntmps s fn.results.toList) (h2 : resA P s fn.results.toList = v) (hco : Co k (some (n', q)) v val) (hq : k ≤ q.1) (hn' : n'.1 < k) (h0' : h0 n' = none)
    (hp : s.h q = some (.map es)) (hfr : Fr k h0 s.h) : RetOK P fn (mapE n' es val) h0 k s := by
  have e1 : (mapE n' es val).ap h0 n' = some (.map es) := by simp [mapE, Eff.ap, upd]
  refine ⟨h1, some (n', q), ?_, fun x hx hxn => ?_, ?_, ?_⟩
  · rw [h2]; exact hco
  · have hxn := hxn _ rfl
    simp only at hxn
    simp [mapE, Eff.ap, upd, hxn, hfr x hx]
  · rintro y hy
    cases hy
    exact ⟨hn', hq, h0', ⟨_, by simp only [mapE]; exact List.mem_cons_self .., rfl⟩, _, e1, hp, rfl⟩
  · intro x hx ob ho y hy
    simp only [mapE, List.mem_cons, List.not_mem_nil, or_false] at hx
    subst hx
    cases ho; cases hy
def fndE (n' : Nm) : Option (List Int × Rl × Bs) → Eff
  | none => pure' (.tup [.d (.sl []), .d (rlDV ⟨tm0, tm0⟩), .d (.v (.map none)), bA false])
  | some (p, r, b) => mapE n' (bsE b) (.tup [.d (.sl (p.map iD)), .d (rlDV r), .map n', bA true])
theorem co_rl {k : Nat} {ren : Ren} {r : Rl} : Co k ren (.st [iA r.l.v, iA r.l.f, .d (.sl (r.l.us.map tmDV)), iA r.r.v, iA r.r.f, .d (.sl (r.r.us.map tmDV))]) (.d (rlDV r)) := .dat rfl
theorem ruleG_at {rs : List Rl} {t : Tm} {i : Nat} (hi : i < rs.length) : ruleG (rs.drop i) t = if (meet rs[i].l t []).1 = true then some (rs[i], (meet rs[i].l t []).2) else ruleG (rs.drop (i + 1)) t := by
  rw [List.drop_eq_getElem_cons hi, ruleG]
theorem foundL_at {rs : List Rl} {us : List Tm} {i : Nat} (hi : i < us.length) (pl : List Int) : foundL rs (us.drop i) i pl = match foundG rs us[i] (pl ++ [(i : Int)]) with | some q => some q | none => foundL rs (us.drop (i + 1)) (i + 1) pl := by
  rw [List.drop_eq_getElem_cons hi, foundL]
  all_goals (cases foundG rs us[i] (pl ++ [(i : Int)]) <;> rfl)
section
variable (rs : List Rl) (hrl : rs.length ≤ 4000000) (hrs : ∀ r ∈ rs, r.l.size ≤ 4000000)
def FndSpec (t : Tm) : Prop := ∀ pl : List Int, pl.length + t.size ≤ 4000000 → ∀ n', Tri Try.prog 126 [.d (rlsDV rs), .d (tmDV t), .d (.sl (pl.map iD))] (fndE n' (foundG rs t pl))
include hrl hrs
set_option maxHeartbeats 4000000 in
set_option maxRecDepth 20000 in
theorem found_step (t : Tm) (ih : ∀ u ∈ t.us, FndSpec rs u) : FndSpec rs t := by
  intro pl hsz n'
  have hlen := t.len_lt
  obtain ⟨F, hF⟩ : ∃ F, F = foundG rs t pl := ⟨_, rfl⟩
  have hG := foundG_eq rs t pl
  rw [← hF] at hG ⊢
  have hz3 : ([] : List Tm).map tmDV = [] := rfl
  refine tri_enter Try.func126 rfl Try.ntmps126 (by simp only [List.length_cons, List.length_nil]; omega) fun w0 h0 k hrd hwr => ?_
  have hn' : F ≠ none → n'.1 < k ∧ h0 n' = none := fun hne => by
    cases F with
    | none => exact absurd rfl hne
    | some q => exact ⟨hwr (n', some (.map (bsE q.2.2))) (by simp [fndE, mapE]), hrd (n', none) (by simp [fndE, mapE])⟩
  clear hrd hwr
  repeat' (first | refine awp_seq_k fun K hK => ?_ | ((first | refine awp_region_k (by kernel_rfl) fun R hR => ?_ | refine awp_draw mixed (by kernel_rfl) (by kernel_rfl) fun R hR => ?_); simp only [go_sem]) | ((first | (refine hR _ ?_; clear hR R) | refine awp_skip ?_ | refine awp_exit ?_ | refine awp_ret ?_); try simp only [thenA, inBlockA, reduceIte, reduceCtorEq, Nat.reduceEqDiff, if_false, if_true]) | ((first | refine hK _ ?_ | (clear hK K; first | refine hK _ ?_ | (clear hK K; first | refine hK _ ?_ | (clear hK K; first | refine hK _ ?_ | (clear hK K; refine hK _ ?_))))); clear hK K) | refine awp_true rfl rfl ?_ | refine awp_false rfl rfl ?_ | refine awp_block ?_ | refine And.intro (by first | ((repeat' first | omega | exact trivial | rfl | assumption | (intro a e; subst e; rfl) | exact map_sz fun a => (by simp only [go_sem]) | refine And.intro ?_ ?_); done) | fail) ?_ | fail)
  refine awp_loop (fun σ => ∃ i : Nat, σ.t 0 = .d (rlsDV rs) ∧ σ.t 2 = .d (.sl (pl.map iD)) ∧ σ.t 4 = .ptr (k, 0) 0 ∧ σ.t 7 = .ptr (k, 2) 0 ∧ σ.t 20 = .d (.sl (t.us.map tmDV)) ∧ σ.t 21 = iA t.us.length ∧ σ.t 22 = iA i ∧
    σ.h (k, 0) = some (.cells 27 [iA t.v, iA t.f, .d (.sl (t.us.map tmDV))]) ∧ σ.h (k, 2) = some (.cells 125 [iA 0, iA 0, .nil, iA 0, iA 0, .nil]) ∧ Fr k h0 σ.h ∧ k < σ.k ∧ i ≤ t.us.length ∧ foundL rs (t.us.drop i) i pl = foundL rs t.us 0 pl) (fun σ => t.us.length - (intOf' (σ.t 22)).toNat) ?_ ?_
  · refine ⟨0, ?_⟩
    simp only [go_sem, List.drop_zero]
    and_intros; all_goals try (first | rfl | omega | assumption | ((repeat (first | exact Fr.rfl' _ _ | assumption | refine Fr.updk ?_ (by omega) _)); done))
  · rintro σ ⟨i, s0, s2, s4, s7, s20, s21, s22, sh, sh2, hFr, hk, hi, hv⟩
    have hne := ltne hk
    rcases Nat.lt_or_ge i t.us.length with hlt | hge
    · have hz : (i : Int) < (t.us.length : Int) := by omega
      have e1 : (t.us.map tmDV).getD i default = tmDV t.us[i] := nth_map tmDV hlt _
      have hs := Tm.size_at hlt
      have epl : (pl ++ [(i : Int)]).map iD = pl.map iD ++ [iD i] := by simp
      have h2 := ih _ (List.getElem_mem hlt) (pl ++ [(i : Int)]) (by rw [List.length_append, List.length_singleton]; omega) (σ.k + 1 + 1, 8)
      rw [foundL_at hlt] at hv
      refine awp_new fun hnew => ?_
      have hnn := hnew.at
      cases hq : foundG rs t.us[i] (pl ++ [(i : Int)]) with
      | none =>
        rw [hq] at h2 hv
        simp only at hv
        rw [epl, fndE] at h2
        repeat' (first | refine awp_seq_k fun K hK => ?_ | ((first | refine awp_region_k (by kernel_rfl) fun R hR => ?_ | refine awp_draw mixed (by kernel_rfl) (by kernel_rfl) fun R hR => ?_); simp only [go_sem, s0, s2, s4, s7, s20, s21, s22, sh, sh2, hz, e1, epl, hne, hnn, List.length_map, Int.toNat_natCast]) | ((first | (refine hR _ ?_; clear hR R) | refine awp_skip ?_ | refine awp_exit ?_ | refine awp_ret ?_); try simp only [thenA, inBlockA, reduceIte, reduceCtorEq, Nat.reduceEqDiff, if_false, if_true]) | ((first | refine hK _ ?_ | (clear hK K; first | refine hK _ ?_ | (clear hK K; first | refine hK _ ?_ | (clear hK K; first | refine hK _ ?_ | (clear hK K; refine hK _ ?_))))); clear hK K) | refine awp_true rfl rfl ?_ | refine awp_false rfl rfl ?_ | refine awp_block ?_ | ((first | refine CallK.pure (enter126) (h2) ?_ ?_ | refine CallD.pure (enter126) (h2) ?_ ?_); (focus first | ((repeat (first | exact trivial | refine ⟨(by first | exact Or.inl rfl | exact Or.inr rfl), ?_⟩)); done) | (simp only [coL, AV.dat, true_or, or_true, AV.d.injEq, go_sem]; done)); simp only [go_sem, s0, s2, s4, s7, s20, s21, s22, sh, sh2, hz, e1, epl, hne, hnn, List.length_map, Int.toNat_natCast]) | refine And.intro (by first | ((repeat' first | omega | exact trivial | rfl | assumption | (intro a e; subst e; rfl) | exact map_sz fun a => (by simp only [go_sem]) | refine And.intro ?_ ?_); done) | fail) ?_ | fail)
        refine ⟨⟨i + 1, ?_⟩, ?_⟩
        rotate_left
        · simp only [go_sem, s0, s2, s4, s7, s20, s21, s22, sh, sh2, hne]; omega
        simp only [go_sem, s0, s2, s4, s7, s20, s21, s22, sh, sh2, hne]
        and_intros; all_goals try (first | rfl | omega | assumption | ((repeat (first | exact Fr.rfl' _ _ | assumption | refine Fr.updk ?_ (by omega) _)); done))
      | some q =>
        obtain ⟨p, r, b⟩ := q
        rw [hq] at h2 hv
        simp only at hv
        rw [epl, fndE] at h2
        rw [← hv] at hG
        simp only at hG
        subst hG
        obtain ⟨n1, n2⟩ := hn' (by simp)
        repeat' (first | refine awp_seq_k fun K hK => ?_ | ((first | refine awp_region_k (by kernel_rfl) fun R hR => ?_ | refine awp_draw mixed (by kernel_rfl) (by kernel_rfl) fun R hR => ?_); simp only [go_sem, s0, s2, s4, s7, s20, s21, s22, sh, sh2, hz, e1, epl, hne, hnn, List.length_map, Int.toNat_natCast]) | ((first | (refine hR _ ?_; clear hR R) | refine awp_skip ?_ | refine awp_exit ?_ | refine awp_ret ?_); try simp only [thenA, inBlockA, reduceIte, reduceCtorEq, Nat.reduceEqDiff, if_false, if_true]) | ((first | refine hK _ ?_ | (clear hK K; first | refine hK _ ?_ | (clear hK K; first | refine hK _ ?_ | (clear hK K; first | refine hK _ ?_ | (clear hK K; refine hK _ ?_))))); clear hK K) | refine awp_true rfl rfl ?_ | refine awp_false rfl rfl ?_ | refine awp_block ?_ | ((first | refine CallK.eff (enter126) (h2) ?_ ?_ ?_ ?_ | refine CallD.eff (enter126) (h2) ?_ ?_ ?_ ?_); (focus first | ((repeat (first | exact trivial | refine ⟨(by first | exact Or.inl rfl | exact Or.inr rfl), ?_⟩)); done) | (simp only [coL, AV.dat, true_or, or_true, AV.d.injEq, go_sem]; done)); (focus (simp only [go_sem, s0, s2, s4, s7, s20, s21, s22, sh, sh2, hz, e1, epl, hne, hnn, List.length_map, Int.toNat_natCast]; done)); (focus (simp only [go_sem, s0, s2, s4, s7, s20, s21, s22, sh, sh2, hz, e1, epl, hne, hnn, List.length_map, Int.toNat_natCast]; done)); simp only [go_sem, s0, s2, s4, s7, s20, s21, s22, sh, sh2, hz, e1, epl, hne, hnn, List.length_map, Int.toNat_natCast]) | refine And.intro (by first | ((repeat' first | omega | exact trivial | rfl | assumption | (intro a e; subst e; rfl) | exact map_sz fun a => (by simp only [go_sem]) | refine And.intro ?_ ?_); done) | fail) ?_ | fail)
        refine ret_mapE (q := (σ.k + 1 + 1, 8)) (by simp only [Try.results126, resOkL, resOk, Try.ntmps126, List.toList_toArray]; first | decide | (simp only [go_sem, s7]; done) | (simp only [go_sem, s7]; and_intros <;> first | omega | rfl | decide)) (by simp only [resA, resV, Try.results126, go_sem, s7]; rfl) (Co.t4 (.dat rfl) (.dat rfl) (.map rfl) (.dat rfl)) (by simp only; omega) n1 n2 ?_ ?_
        · simp only [go_sem, hne]
        · exact (by repeat (first | exact Fr.rfl' _ _ | assumption | refine Fr.updk ?_ (by omega) _ | refine Fr.stH ?_ _ (by intro n hn; simp only [List.mem_cons, List.not_mem_nil, or_false] at hn; subst hn; simp only; omega)))
    · have hz : ¬ ((i : Int) < (t.us.length : Int)) := by omega
      rw [List.drop_eq_nil_of_le hge, foundL] at hv
      rw [← hv] at hG
      simp only at hG
      repeat' (first | refine awp_seq_k fun K hK => ?_ | ((first | refine awp_region_k (by kernel_rfl) fun R hR => ?_ | refine awp_draw mixed (by kernel_rfl) (by kernel_rfl) fun R hR => ?_); simp only [go_sem, s0, s2, s4, s7, s20, s21, s22, sh, sh2, hz, hne, List.length_map]) | ((first | (refine hR _ ?_; clear hR R) | refine awp_skip ?_ | refine awp_exit ?_ | refine awp_ret ?_); try simp only [thenA, inBlockA, reduceIte, reduceCtorEq, Nat.reduceEqDiff, if_false, if_true]) | ((first | refine hK _ ?_ | (clear hK K; first | refine hK _ ?_ | (clear hK K; first | refine hK _ ?_ | (clear hK K; first | refine hK _ ?_ | (clear hK K; refine hK _ ?_))))); clear hK K) | refine awp_true rfl rfl ?_ | refine awp_false rfl rfl ?_ | refine awp_block ?_ | refine And.intro (by first | ((repeat' first | omega | exact trivial | rfl | assumption | (intro a e; subst e; rfl) | exact map_sz fun a => (by simp only [go_sem]) | refine And.intro ?_ ?_); done) | fail) ?_ | fail)
      refine awp_loop (fun τ => ∃ j : Nat, τ.t 2 = .d (.sl (pl.map iD)) ∧ τ.t 4 = .ptr (k, 0) 0 ∧ τ.t 7 = .ptr (k, 2) 0 ∧ τ.t 46 = .d (rlsDV rs) ∧ τ.t 47 = iA rs.length ∧ τ.t 48 = iA j ∧
        τ.h (k, 0) = some (.cells 27 [iA t.v, iA t.f, .d (.sl (t.us.map tmDV))]) ∧ τ.h (k, 2) = some (.cells 125 [iA 0, iA 0, .nil, iA 0, iA 0, .nil]) ∧ Fr k h0 τ.h ∧ k < τ.k ∧ j ≤ rs.length ∧ (ruleG (rs.drop j) t).map (fun q => (pl, q.1, q.2)) = F) (fun τ => rs.length - (intOf' (τ.t 48)).toNat) ?_ ?_
      · refine ⟨0, ?_⟩
        simp only [go_sem, s2, s4, s7, sh, sh2, hne, List.drop_zero]
        and_intros; all_goals try (first | rfl | omega | assumption | ((repeat (first | exact Fr.rfl' _ _ | assumption | refine Fr.updk ?_ (by omega) _)); done))
        exact hG.symm
      · clear s0 s2 s4 s7 s20 s21 s22 sh sh2 hne hFr hk hv hz
        rintro τ ⟨j, u2, u4, u7, u46, u47, u48, uh, uh2, uF, uk, uj, uv⟩
        have hne := ltne uk
        rcases Nat.lt_or_ge j rs.length with jlt | jge
        · have jz : (j : Int) < (rs.length : Int) := by omega
          have e2 : (rs.map rlDV).getD j default = rlDV rs[j] := nth_map rlDV jlt _
          rw [ruleG_at jlt] at uv
          have m1 := meet_tri rs[j].l (hrs _ (List.getElem_mem jlt)) t (τ.k + 1 + 1, 0) []
          refine awp_new fun hnew => ?_
          have hnn := hnew.at
          cases hq : (meet rs[j].l t []).1 with
          | false =>
            rw [hq] at m1
            rw [if_neg (by simp [hq])] at uv
            repeat' (first | refine awp_seq_k fun K hK => ?_ | ((first | refine awp_region_k (by kernel_rfl) fun R hR => ?_ | refine awp_draw mixed (by kernel_rfl) (by kernel_rfl) fun R hR => ?_); simp only [go_sem, u2, u4, u7, u46, u47, u48, uh, uh2, jz, e2, hne, hnn, Int.toNat_natCast]) | ((first | (refine hR _ ?_; clear hR R) | refine awp_skip ?_ | refine awp_exit ?_ | refine awp_ret ?_); try simp only [thenA, inBlockA, reduceIte, reduceCtorEq, Nat.reduceEqDiff, if_false, if_true]) | ((first | refine hK _ ?_ | (clear hK K; first | refine hK _ ?_ | (clear hK K; first | refine hK _ ?_ | (clear hK K; first | refine hK _ ?_ | (clear hK K; refine hK _ ?_))))); clear hK K) | refine awp_true rfl rfl ?_ | refine awp_false rfl rfl ?_ | refine awp_block ?_ | ((first | refine CallK.chg (enter141) (m1) ?_ (agM _ (by simp only [go_sem, bsE, List.map_nil])) (Fr.rfl' _ _) ?_ | refine CallD.chg (enter141) (m1) ?_ (agM _ (by simp only [go_sem, bsE, List.map_nil])) (Fr.rfl' _ _) (by first | assumption | exact List.cons_ne_nil _ _) ?_); (focus first | ((repeat (first | exact trivial | refine ⟨(by first | exact Or.inl rfl | exact Or.inr rfl), ?_⟩)); done) | (simp only [coL, AV.dat, true_or, or_true, AV.d.injEq, go_sem]; done)); simp only [go_sem, u2, u4, u7, u46, u47, u48, uh, uh2, jz, e2, hne, hnn, Int.toNat_natCast]) | refine And.intro (by first | ((repeat' first | omega | exact trivial | rfl | assumption | (intro a e; subst e; rfl) | exact map_sz fun a => (by simp only [go_sem]) | refine And.intro ?_ ?_); done) | fail) ?_ | fail)
            refine ⟨⟨j + 1, ?_⟩, ?_⟩
            rotate_left
            · simp only [go_sem, u2, u4, u7, u46, u47, u48, uh, uh2, hne]; omega
            simp only [go_sem, u2, u4, u7, u46, u47, u48, uh, uh2, hne]
            and_intros; all_goals try (first | rfl | omega | assumption | ((repeat (first | exact Fr.rfl' _ _ | assumption | refine Fr.updk ?_ (by omega) _)); done))
            exact (by repeat (first | exact Fr.rfl' _ _ | assumption | refine Fr.updk ?_ (by omega) _ | refine Fr.stH ?_ _ (by intro n hn; simp only [List.mem_cons, List.not_mem_nil, or_false] at hn; subst hn; simp only; omega)))
          | true =>
            rw [hq] at m1
            rw [if_pos hq] at uv
            simp only [Option.map_some] at uv
            subst uv
            obtain ⟨n1, n2⟩ := hn' (by simp)
            rw [fndE]
            repeat' (first | refine awp_seq_k fun K hK => ?_ | ((first | refine awp_region_k (by kernel_rfl) fun R hR => ?_ | refine awp_draw mixed (by kernel_rfl) (by kernel_rfl) fun R hR => ?_); simp only [go_sem, u2, u4, u7, u46, u47, u48, uh, uh2, jz, e2, hne, hnn, Int.toNat_natCast]) | ((first | (refine hR _ ?_; clear hR R) | refine awp_skip ?_ | refine awp_exit ?_ | refine awp_ret ?_); try simp only [thenA, inBlockA, reduceIte, reduceCtorEq, Nat.reduceEqDiff, if_false, if_true]) | ((first | refine hK _ ?_ | (clear hK K; first | refine hK _ ?_ | (clear hK K; first | refine hK _ ?_ | (clear hK K; first | refine hK _ ?_ | (clear hK K; refine hK _ ?_))))); clear hK K) | refine awp_true rfl rfl ?_ | refine awp_false rfl rfl ?_ | refine awp_block ?_ | ((first | refine CallK.chg (enter141) (m1) ?_ (agM _ (by simp only [go_sem, bsE, List.map_nil])) (Fr.rfl' _ _) ?_ | refine CallD.chg (enter141) (m1) ?_ (agM _ (by simp only [go_sem, bsE, List.map_nil])) (Fr.rfl' _ _) (by first | assumption | exact List.cons_ne_nil _ _) ?_); (focus first | ((repeat (first | exact trivial | refine ⟨(by first | exact Or.inl rfl | exact Or.inr rfl), ?_⟩)); done) | (simp only [coL, AV.dat, true_or, or_true, AV.d.injEq, go_sem]; done)); simp only [go_sem, u2, u4, u7, u46, u47, u48, uh, uh2, jz, e2, hne, hnn, Int.toNat_natCast]) | refine And.intro (by first | ((repeat' first | omega | exact trivial | rfl | assumption | (intro a e; subst e; rfl) | exact map_sz fun a => (by simp only [go_sem]) | refine And.intro ?_ ?_); done) | fail) ?_ | fail)
            refine ret_mapE (q := (τ.k + 1 + 1, 0)) (by simp only [Try.results126, resOkL, resOk, Try.ntmps126, List.toList_toArray]; first | decide | (simp only [go_sem, u7]; done) | (simp only [go_sem, u7]; and_intros <;> first | omega | rfl | decide)) (by simp only [resA, resV, Try.results126, go_sem, u7]; rfl) (Co.t4 (.dat rfl) (.dat rfl) (.map rfl) (.dat rfl)) (by simp only; omega) n1 n2 ?_ ?_
            · simp only [go_sem, hne, mtO]
            · exact (by repeat (first | exact Fr.rfl' _ _ | assumption | refine Fr.updk ?_ (by omega) _ | refine Fr.stH ?_ _ (by intro n hn; simp only [List.mem_cons, List.not_mem_nil, or_false] at hn; subst hn; simp only; omega)))
        · have jz : ¬ ((j : Int) < (rs.length : Int)) := by omega
          rw [List.drop_eq_nil_of_le jge, ruleG] at uv
          simp only [Option.map_none] at uv
          subst uv
          repeat' (first | refine awp_seq_k fun K hK => ?_ | ((first | refine awp_region_k (by kernel_rfl) fun R hR => ?_ | refine awp_draw mixed (by kernel_rfl) (by kernel_rfl) fun R hR => ?_); simp only [go_sem, u2, u4, u7, u46, u47, u48, uh, uh2, jz, hne]) | ((first | (refine hR _ ?_; clear hR R) | refine awp_skip ?_ | refine awp_exit ?_ | refine awp_ret ?_); try simp only [thenA, inBlockA, reduceIte, reduceCtorEq, Nat.reduceEqDiff, if_false, if_true]) | ((first | refine hK _ ?_ | (clear hK K; first | refine hK _ ?_ | (clear hK K; first | refine hK _ ?_ | (clear hK K; first | refine hK _ ?_ | (clear hK K; refine hK _ ?_))))); clear hK K) | refine awp_true rfl rfl ?_ | refine awp_false rfl rfl ?_ | refine awp_block ?_ | refine And.intro (by first | ((repeat' first | omega | exact trivial | rfl | assumption | (intro a e; subst e; rfl) | exact map_sz fun a => (by simp only [go_sem]) | refine And.intro ?_ ?_); done) | fail) ?_ | fail)
          rw [fndE]
          (first | refine ret_pure ?_ ?_ ?_ | refine ret_ro ?_ ?_ ?_); focus exact (by simp only [Try.results126, resOkL, resOk, Try.ntmps126, List.toList_toArray]; first | decide | (simp only [go_sem, u7, hne]; done) | (simp only [go_sem, u7, hne]; and_intros <;> first | omega | rfl | decide))
          rotate_left; focus exact (by repeat (first | exact Fr.rfl' _ _ | assumption | refine Fr.updk ?_ (by omega) _ | refine Fr.stH ?_ _ (by intro n hn; simp only [List.mem_cons, List.not_mem_nil, or_false] at hn; subst hn; simp only; omega)))
          simp only [resA, resV, Try.results126, go_sem, u7, hne]
          all_goals try (first | exact Co.t2 (.dat rfl) (.dat rfl) | exact Co.t3 (.dat rfl) (.dat rfl) (.dat rfl))
          all_goals exact Co.t4 (.dat rfl) (.dat rfl) (.dat rfl) (.dat rfl)
theorem found_tri : ∀ t : Tm, FndSpec rs t := Tm.ind (found_step rs hrl hrs)
end
end Go.Proofs.Ytmeekpinkfpnhaa
namespace Go.Proofs.Ytmeekpinkfpnhaa
open Go.RowKit
abbrev bsO (b mm : Nm) (bs : Bs) : List (Nm × Ob) := [(b, .cells 142 [.map mm]), (mm, .map (bsE bs))]
theorem roBs {b mm : Nm} {bs : Bs} {k : Nat} {h : Heap} (h1 : b.1 < k) (h2 : mm.1 < k) (e1 : h b = some (.cells 142 [.map mm])) (e2 : h mm = some (.map (bsE bs))) : RoOK k (bsO b mm bs) h := ⟨fun x hx => by
  simp only [bsO, List.mem_cons, List.not_mem_nil, or_false] at hx
  rcases hx with rfl | rfl
  · exact ⟨h1, e1⟩
  · exact ⟨h2, e2⟩⟩
set_option maxHeartbeats 1000000 in
set_option maxRecDepth 20000 in
theorem made1_tri (b mm : Nm) (bs : Bs) (hbs : ∀ p ∈ bs, p.2.size ≤ 4000000) (x : Tm) : Tri Try.prog 139 [.d (tmDV x), .ptr b 0] (rdE (bsO b mm bs) (.tup [.d (tmDV (madeS bs x).1), bA (madeS bs x).2])) := by
  have hin : ∀ (bs : Bs) (u : Tm), lookB x.v bs = some u → ∃ p ∈ bs, p.2 = u := by
    intro bs u h
    induction bs with
    | nil => cases h
    | cons p bs ih =>
      rw [lookB] at h
      by_cases hv : x.v = p.1
      · rw [if_pos hv] at h; cases h; exact ⟨p, by simp, rfl⟩
      · rw [if_neg hv] at h
        obtain ⟨q, hq, e⟩ := ih h
        exact ⟨q, by simp [hq], e⟩
  refine tri_enter_ro Try.func139 rfl Try.ntmps139 (by simp only [List.length_cons, List.length_nil]; omega) fun w0 h0 k hro => ?_
  obtain ⟨n1, eb⟩ := hro.get _ (List.mem_cons_self ..)
  obtain ⟨n2, em⟩ := hro.get _ (List.mem_cons_of_mem _ (List.mem_cons_self ..))
  have q1 := nmne n1
  have q2 := nmne n2
  unfold madeS
  cases hb : lookB x.v bs with
  | none =>
    have hg : getM x.v (bsE bs) = none := by rw [getM_bs, hb]; rfl
    dsimp only
    repeat' (first | refine awp_seq_k fun K hK => ?_ | ((first | refine awp_region_k (by kernel_rfl) fun R hR => ?_ | refine awp_draw mixed (by kernel_rfl) (by kernel_rfl) fun R hR => ?_); simp only [go_sem, eb, em, q1, q2, hg, Option.isSome_none, AV.toD, Option.getD_none]) | ((first | (refine hR _ ?_; clear hR R) | refine awp_skip ?_ | refine awp_exit ?_ | refine awp_ret ?_); try simp only [thenA, inBlockA, reduceIte, reduceCtorEq, Nat.reduceEqDiff, if_false, if_true]) | ((first | refine hK _ ?_ | (clear hK K; first | refine hK _ ?_ | (clear hK K; first | refine hK _ ?_ | (clear hK K; first | refine hK _ ?_ | (clear hK K; refine hK _ ?_))))); clear hK K) | refine awp_true rfl rfl ?_ | refine awp_false rfl rfl ?_ | refine awp_block ?_ | refine And.intro (by first | ((repeat' first | omega | exact trivial | rfl | assumption | (intro a e; subst e; rfl) | exact map_sz fun a => (by simp only [go_sem]) | refine And.intro ?_ ?_); done) | fail) ?_ | fail)
    (first | refine ret_pure ?_ ?_ ?_ | refine ret_ro ?_ ?_ ?_); focus exact (by simp only [Try.results139, resOkL, resOk, Try.ntmps139, List.toList_toArray]; first | decide | (simp only [go_sem]; done) | (simp only [go_sem]; and_intros <;> first | omega | rfl | decide))
    rotate_left; focus exact (by repeat (first | exact Fr.rfl' _ _ | assumption | refine Fr.updk ?_ (by omega) _))
    simp only [resA, resV, Try.results139, go_sem]
    all_goals try (first | exact Co.t2 (.dat rfl) (.dat rfl) | exact Co.t3 (.dat rfl) (.dat rfl) (.dat rfl))
    exact .t2 (co_tm' rfl) (.dat rfl)
  | some u =>
    have hg : getM x.v (bsE bs) = some (tmDV u) := by rw [getM_bs, hb]; rfl
    obtain ⟨p, hp, hu⟩ := hin bs u hb
    have hus : u.size ≤ 4000000 := by rw [← hu]; exact hbs p hp
    dsimp only
    cases hv : decide (x.v > 0) with
    | false =>
      rw [if_neg (by simpa using hv)]
      repeat' (first | refine awp_seq_k fun K hK => ?_ | ((first | refine awp_region_k (by kernel_rfl) fun R hR => ?_ | refine awp_draw mixed (by kernel_rfl) (by kernel_rfl) fun R hR => ?_); simp only [go_sem, eb, em, q1, q2, hg, hv, Option.isSome_some]) | ((first | (refine hR _ ?_; clear hR R) | refine awp_skip ?_ | refine awp_exit ?_ | refine awp_ret ?_); try simp only [thenA, inBlockA, reduceIte, reduceCtorEq, Nat.reduceEqDiff, if_false, if_true]) | ((first | refine hK _ ?_ | (clear hK K; first | refine hK _ ?_ | (clear hK K; first | refine hK _ ?_ | (clear hK K; first | refine hK _ ?_ | (clear hK K; refine hK _ ?_))))); clear hK K) | refine awp_true rfl rfl ?_ | refine awp_false rfl rfl ?_ | refine awp_block ?_ | refine And.intro (by first | ((repeat' first | omega | exact trivial | rfl | assumption | (intro a e; subst e; rfl) | exact map_sz fun a => (by simp only [go_sem]) | refine And.intro ?_ ?_); done) | fail) ?_ | fail)
      (first | refine ret_pure ?_ ?_ ?_ | refine ret_ro ?_ ?_ ?_); focus exact (by simp only [Try.results139, resOkL, resOk, Try.ntmps139, List.toList_toArray]; first | decide | (simp only [go_sem]; done) | (simp only [go_sem]; and_intros <;> first | omega | rfl | decide))
      rotate_left; focus exact (by repeat (first | exact Fr.rfl' _ _ | assumption | refine Fr.updk ?_ (by omega) _))
      simp only [resA, resV, Try.results139, go_sem]
      all_goals try (first | exact Co.t2 (.dat rfl) (.dat rfl) | exact Co.t3 (.dat rfl) (.dat rfl) (.dat rfl))
      exact .t2 (co_tm' rfl) (.dat rfl)
    | true =>
      rw [if_pos (by simpa using hv)]
      repeat' (first | refine awp_seq_k fun K hK => ?_ | ((first | refine awp_region_k (by kernel_rfl) fun R hR => ?_ | refine awp_draw mixed (by kernel_rfl) (by kernel_rfl) fun R hR => ?_); simp only [go_sem, eb, em, q1, q2, hg, hv, Option.isSome_some]) | ((first | (refine hR _ ?_; clear hR R) | refine awp_skip ?_ | refine awp_exit ?_ | refine awp_ret ?_); try simp only [thenA, inBlockA, reduceIte, reduceCtorEq, Nat.reduceEqDiff, if_false, if_true]) | ((first | refine hK _ ?_ | (clear hK K; first | refine hK _ ?_ | (clear hK K; first | refine hK _ ?_ | (clear hK K; first | refine hK _ ?_ | (clear hK K; refine hK _ ?_))))); clear hK K) | refine awp_true rfl rfl ?_ | refine awp_false rfl rfl ?_ | refine awp_block ?_ | ((first | refine CallK.pure (enter98) (copied_tri u hus) ?_ ?_ | refine CallD.pure (enter98) (copied_tri u hus) ?_ ?_); (focus first | ((repeat (first | exact trivial | refine ⟨(by first | exact Or.inl rfl | exact Or.inr rfl), ?_⟩)); done) | (simp only [coL, AV.dat, true_or, or_true, AV.d.injEq, go_sem]; done)); simp only [go_sem, eb, em, q1, q2, hg, hv, Option.isSome_some]) | refine And.intro (by first | ((repeat' first | omega | exact trivial | rfl | assumption | (intro a e; subst e; rfl) | exact map_sz fun a => (by simp only [go_sem]) | refine And.intro ?_ ?_); done) | fail) ?_ | fail)
      (first | refine ret_pure ?_ ?_ ?_ | refine ret_ro ?_ ?_ ?_); focus exact (by simp only [Try.results139, resOkL, resOk, Try.ntmps139, List.toList_toArray]; first | decide | (simp only [go_sem]; done) | (simp only [go_sem]; and_intros <;> first | omega | rfl | decide))
      rotate_left; focus exact (by repeat (first | exact Fr.rfl' _ _ | assumption | refine Fr.updk ?_ (by omega) _))
      simp only [resA, resV, Try.results139, go_sem]
      all_goals try (first | exact Co.t2 (.dat rfl) (.dat rfl) | exact Co.t3 (.dat rfl) (.dat rfl) (.dat rfl))
      all_goals exact .t2 (co_tm' rfl) (.dat rfl)
set_option maxRecDepth 20000 in
theorem made_tri (mm : Nm) (bs : Bs) (hbs : ∀ p ∈ bs, p.2.size ≤ 4000000) (t : Tm) (ht : t.size ≤ 4000000) : Tri Try.prog 121 [.map mm, .d (tmDV t)] (rdE [(mm, .map (bsE bs))] (.d (tmDV (mapM (madeS bs) t)))) := by
  refine tri_enter_ro Try.func121 rfl Try.ntmps121 (by simp only [List.length_cons, List.length_nil]; omega) fun w0 h0 k hro => ?_
  obtain ⟨n2, em⟩ := hro.get _ (List.mem_cons_self ..)
  have q2 := nmne n2
  have h := mapped_tri 139 [.ptr (k, 0) 0] (bsO (k, 0) mm bs) (madeS bs) (enter139) t ht (fun x _ => made1_tri (k, 0) mm bs hbs x)
  repeat' (first | refine awp_seq_k fun K hK => ?_ | ((first | refine awp_region_k (by kernel_rfl) fun R hR => ?_ | refine awp_draw mixed (by kernel_rfl) (by kernel_rfl) fun R hR => ?_); simp only [go_sem, em, q2]) | ((first | (refine hR _ ?_; clear hR R) | refine awp_skip ?_ | refine awp_exit ?_ | refine awp_ret ?_); try simp only [thenA, inBlockA, reduceIte, reduceCtorEq, Nat.reduceEqDiff, if_false, if_true]) | ((first | refine hK _ ?_ | (clear hK K; first | refine hK _ ?_ | (clear hK K; first | refine hK _ ?_ | (clear hK K; first | refine hK _ ?_ | (clear hK K; refine hK _ ?_))))); clear hK K) | refine awp_true rfl rfl ?_ | refine awp_false rfl rfl ?_ | refine awp_block ?_ | ((first | refine CallK.look (enter128) (h) ?_ (roBs (k := k + 1) (Nat.lt_succ_self k) (Nat.lt_succ_of_lt n2) (by simp only [go_sem, q2]) (by simp only [go_sem, em, q2])) (Fr.rfl' _ _) ?_ | refine CallD.look (enter128) (h) ?_ (roBs (k := k + 1) (Nat.lt_succ_self k) (Nat.lt_succ_of_lt n2) (by simp only [go_sem, q2]) (by simp only [go_sem, em, q2])) (Fr.rfl' _ _) (by first | assumption | exact List.cons_ne_nil _ _) ?_); (focus first | ((repeat (first | exact trivial | refine ⟨(by first | exact Or.inl rfl | exact Or.inr rfl), ?_⟩)); done) | (simp only [coL, AV.dat, true_or, or_true, AV.d.injEq, go_sem]; done)); simp only [go_sem, em, q2]) | refine And.intro (by first | ((repeat' first | omega | exact trivial | rfl | assumption | (intro a e; subst e; rfl) | exact map_sz fun a => (by simp only [go_sem]) | refine And.intro ?_ ?_); done) | fail) ?_ | fail)
  (first | refine ret_pure ?_ ?_ ?_ | refine ret_ro ?_ ?_ ?_); focus exact (by simp only [Try.results121, resOkL, resOk, Try.ntmps121, List.toList_toArray]; first | decide | (simp only [go_sem]; done) | (simp only [go_sem]; and_intros <;> first | omega | rfl | decide))
  rotate_left; focus exact (by repeat (first | exact Fr.rfl' _ _ | assumption | refine Fr.updk ?_ (by omega) _))
  simp only [resA, resV, Try.results121, go_sem]
  all_goals try (first | exact Co.t2 (.dat rfl) (.dat rfl) | exact Co.t3 (.dat rfl) (.dat rfl) (.dat rfl))
  all_goals exact co_tm' rfl
end Go.Proofs.Ytmeekpinkfpnhaa
namespace Go.Proofs.Ytmeekpinkfpnhaa
open Go.RowKit
def bdDV (p : Int × Tm) : DV := .st [iD p.1, iD p.2.v, iD p.2.f, .sl (p.2.us.map tmDV)]
@[go_sem] theorem bdDV_cells (p : Int × Tm) : (bdDV p).cells = [iD p.1, iD p.2.v, iD p.2.f, .sl (p.2.us.map tmDV)] := (Eq.trans rfl (Eq.refl _))
theorem bdDV_mk (v : Int) (t : Tm) : DV.st [iD v, iD t.v, iD t.f, .sl (t.us.map tmDV)] = bdDV (v, t) := rfl
abbrev bsDV (b : Bs) : DV := .sl (b.map bdDV)
set_option maxRecDepth 20000 in
theorem boundTo_tri (b : Bs) (hb : b.length ≤ 4000000) (v : Int) : Tri Try.prog 125 [.d (bsDV b), iA v] (pure' (iA (idxB v b 0))) := by
  refine tri_enter Try.func125 rfl Try.ntmps125 (by simp only [List.length_cons, List.length_nil]; omega) fun w0 h0 k hrd hwr => ?_
  repeat' (first | refine awp_seq_k fun K hK => ?_ | ((first | refine awp_region_k (by kernel_rfl) fun R hR => ?_ | refine awp_draw mixed (by kernel_rfl) (by kernel_rfl) fun R hR => ?_); simp only [go_sem]) | ((first | (refine hR _ ?_; clear hR R) | refine awp_skip ?_ | refine awp_exit ?_ | refine awp_ret ?_); try simp only [thenA, inBlockA, reduceIte, reduceCtorEq, Nat.reduceEqDiff, if_false, if_true]) | ((first | refine hK _ ?_ | (clear hK K; first | refine hK _ ?_ | (clear hK K; first | refine hK _ ?_ | (clear hK K; first | refine hK _ ?_ | (clear hK K; refine hK _ ?_))))); clear hK K) | refine awp_true rfl rfl ?_ | refine awp_false rfl rfl ?_ | refine awp_block ?_ | refine And.intro (by first | ((repeat' first | omega | exact trivial | rfl | assumption | (intro a e; subst e; rfl) | exact map_sz fun a => (by simp only [go_sem]) | refine And.intro ?_ ?_); done) | fail) ?_ | fail)
  refine awp_loop (fun σ => ∃ i : Nat, σ.t 0 = .d (bsDV b) ∧ σ.t 1 = iA v ∧ σ.t 5 = iA i ∧ σ.h = h0 ∧ i ≤ b.length ∧ idxB v (b.drop i) i = idxB v b 0) (fun σ => b.length - (intOf' (σ.t 5)).toNat) ?_ ?_
  · refine ⟨0, ?_⟩
    simp only [go_sem, List.drop_zero]
    and_intros; all_goals try (first | rfl | omega | assumption | ((repeat (first | exact Fr.rfl' _ _ | assumption | refine Fr.updk ?_ (by omega) _)); done))
  · rintro σ ⟨i, s0, s1, s5, sh, hi, hv⟩
    have hfr : Fr k h0 σ.h := by rw [sh]; exact Fr.rfl' _ _
    rcases Nat.lt_or_ge i b.length with hlt | hge
    · have hz : (i : Int) < (b.length : Int) := by omega
      have e1 : (b.map bdDV).getD i default = bdDV b[i] := nth_map bdDV hlt _
      rw [idxB_at hlt] at hv
      cases hc : b[i].1 == v with
      | true =>
        rw [if_pos (by simpa using hc)] at hv
        repeat' (first | refine awp_seq_k fun K hK => ?_ | ((first | refine awp_region_k (by kernel_rfl) fun R hR => ?_ | refine awp_draw mixed (by kernel_rfl) (by kernel_rfl) fun R hR => ?_); simp only [go_sem, s0, s1, s5, hz, e1, hc, Int.toNat_natCast]) | ((first | (refine hR _ ?_; clear hR R) | refine awp_skip ?_ | refine awp_exit ?_ | refine awp_ret ?_); try simp only [thenA, inBlockA, reduceIte, reduceCtorEq, Nat.reduceEqDiff, if_false, if_true]) | ((first | refine hK _ ?_ | (clear hK K; first | refine hK _ ?_ | (clear hK K; first | refine hK _ ?_ | (clear hK K; first | refine hK _ ?_ | (clear hK K; refine hK _ ?_))))); clear hK K) | refine awp_true rfl rfl ?_ | refine awp_false rfl rfl ?_ | refine awp_block ?_ | refine And.intro (by first | ((repeat' first | omega | exact trivial | rfl | assumption | (intro a e; subst e; rfl) | exact map_sz fun a => (by simp only [go_sem]) | refine And.intro ?_ ?_); done) | fail) ?_ | fail)
        (first | refine ret_pure ?_ ?_ ?_ | refine ret_ro ?_ ?_ ?_); focus exact (by simp only [Try.results125, resOkL, resOk, Try.ntmps125, List.toList_toArray]; first | decide | (simp only [go_sem]; done) | (simp only [go_sem]; and_intros <;> first | omega | rfl | decide))
        rotate_left; focus exact (by repeat (first | exact Fr.rfl' _ _ | assumption | refine Fr.updk ?_ (by omega) _))
        simp only [resA, resV, Try.results125, go_sem]
        all_goals try (first | exact Co.t2 (.dat rfl) (.dat rfl) | exact Co.t3 (.dat rfl) (.dat rfl) (.dat rfl))
        exact co_i hv
      | false =>
        rw [if_neg (by simpa using hc)] at hv
        repeat' (first | refine awp_seq_k fun K hK => ?_ | ((first | refine awp_region_k (by kernel_rfl) fun R hR => ?_ | refine awp_draw mixed (by kernel_rfl) (by kernel_rfl) fun R hR => ?_); simp only [go_sem, s0, s1, s5, hz, e1, hc, Int.toNat_natCast]) | ((first | (refine hR _ ?_; clear hR R) | refine awp_skip ?_ | refine awp_exit ?_ | refine awp_ret ?_); try simp only [thenA, inBlockA, reduceIte, reduceCtorEq, Nat.reduceEqDiff, if_false, if_true]) | ((first | refine hK _ ?_ | (clear hK K; first | refine hK _ ?_ | (clear hK K; first | refine hK _ ?_ | (clear hK K; first | refine hK _ ?_ | (clear hK K; refine hK _ ?_))))); clear hK K) | refine awp_true rfl rfl ?_ | refine awp_false rfl rfl ?_ | refine awp_block ?_ | refine And.intro (by first | ((repeat' first | omega | exact trivial | rfl | assumption | (intro a e; subst e; rfl) | exact map_sz fun a => (by simp only [go_sem]) | refine And.intro ?_ ?_); done) | fail) ?_ | fail)
        refine ⟨⟨i + 1, ?_⟩, ?_⟩
        rotate_left
        · simp only [go_sem, s0, s1, s5, sh]; omega
        simp only [go_sem, s0, s1, s5, sh]
        and_intros; all_goals try (first | rfl | omega | assumption | ((repeat (first | exact Fr.rfl' _ _ | assumption | refine Fr.updk ?_ (by omega) _)); done))
    · have hz : ¬ ((i : Int) < (b.length : Int)) := by omega
      rw [List.drop_eq_nil_of_le hge, idxB] at hv
      repeat' (first | refine awp_seq_k fun K hK => ?_ | ((first | refine awp_region_k (by kernel_rfl) fun R hR => ?_ | refine awp_draw mixed (by kernel_rfl) (by kernel_rfl) fun R hR => ?_); simp only [go_sem, s0, s1, s5, hz]) | ((first | (refine hR _ ?_; clear hR R) | refine awp_skip ?_ | refine awp_exit ?_ | refine awp_ret ?_); try simp only [thenA, inBlockA, reduceIte, reduceCtorEq, Nat.reduceEqDiff, if_false, if_true]) | ((first | refine hK _ ?_ | (clear hK K; first | refine hK _ ?_ | (clear hK K; first | refine hK _ ?_ | (clear hK K; first | refine hK _ ?_ | (clear hK K; refine hK _ ?_))))); clear hK K) | refine awp_true rfl rfl ?_ | refine awp_false rfl rfl ?_ | refine awp_block ?_ | refine And.intro (by first | ((repeat' first | omega | exact trivial | rfl | assumption | (intro a e; subst e; rfl) | exact map_sz fun a => (by simp only [go_sem]) | refine And.intro ?_ ?_); done) | fail) ?_ | fail)
      (first | refine ret_pure ?_ ?_ ?_ | refine ret_ro ?_ ?_ ?_); focus exact (by simp only [Try.results125, resOkL, resOk, Try.ntmps125, List.toList_toArray]; first | decide | (simp only [go_sem]; done) | (simp only [go_sem]; and_intros <;> first | omega | rfl | decide))
      rotate_left; focus exact (by repeat (first | exact Fr.rfl' _ _ | assumption | refine Fr.updk ?_ (by omega) _))
      simp only [resA, resV, Try.results125, go_sem]
      all_goals try (first | exact Co.t2 (.dat rfl) (.dat rfl) | exact Co.t3 (.dat rfl) (.dat rfl) (.dat rfl))
      exact co_i hv
def GrowSpec (p : Tm) : Prop := ∀ (t : Tm) (b : Bs), b.length + p.size ≤ 4000000 → Tri Try.prog 94 [.d (bsDV b), .d (tmDV p), .d (tmDV t)] (pure' (.tup [.d (bsDV (grow p t b).2), bA (grow p t b).1]))
set_option maxHeartbeats 2000000 in
set_option maxRecDepth 20000 in
theorem grow_step (p : Tm) (ih : ∀ u ∈ p.us, GrowSpec u) : GrowSpec p := by
  intro t b hsz
  have hps := p.len_lt
  rw [grow_eq]
  refine tri_enter Try.func94 rfl Try.ntmps94 (by simp only [List.length_cons, List.length_nil]; omega) fun w0 h0 k hrd hwr => ?_
  cases hv : decide (p.v > 0) with
  | true =>
    have hv' : p.v > 0 := by simpa using hv
    rw [if_pos hv']
    have hbt := boundTo_tri b (by omega) p.v
    rcases idxB_look p.v b 0 with ⟨h1, h2⟩ | ⟨j, hj, h1, h2⟩
    · rw [h1] at hbt
      rw [h2]
      dsimp only
      have hap : b.map bdDV ++ [bdDV (p.v, t)] = (b ++ [(p.v, t)]).map bdDV := by simp
      repeat' (first | refine awp_seq_k fun K hK => ?_ | ((first | refine awp_region_k (by kernel_rfl) fun R hR => ?_ | refine awp_draw mixed (by kernel_rfl) (by kernel_rfl) fun R hR => ?_); simp only [go_sem, hv, bdDV_mk, hap, Nat.reduceBEq]) | ((first | (refine hR _ ?_; clear hR R) | refine awp_skip ?_ | refine awp_exit ?_ | refine awp_ret ?_); try simp only [thenA, inBlockA, reduceIte, reduceCtorEq, Nat.reduceEqDiff, if_false, if_true]) | ((first | refine hK _ ?_ | (clear hK K; first | refine hK _ ?_ | (clear hK K; first | refine hK _ ?_ | (clear hK K; first | refine hK _ ?_ | (clear hK K; refine hK _ ?_))))); clear hK K) | refine awp_true rfl rfl ?_ | refine awp_false rfl rfl ?_ | refine awp_block ?_ | ((first | refine CallK.pure (enter125) (hbt) ?_ ?_ | refine CallD.pure (enter125) (hbt) ?_ ?_); (focus first | ((repeat (first | exact trivial | refine ⟨(by first | exact Or.inl rfl | exact Or.inr rfl), ?_⟩)); done) | (simp only [coL, AV.dat, true_or, or_true, AV.d.injEq, go_sem]; done)); simp only [go_sem, hv, bdDV_mk, hap, Nat.reduceBEq]) | refine And.intro (by first | ((repeat' first | omega | exact trivial | rfl | assumption | (intro a e; subst e; rfl) | exact map_sz fun a => (by simp only [go_sem]) | refine And.intro ?_ ?_); done) | fail) ?_ | fail)
      (first | refine ret_pure ?_ ?_ ?_ | refine ret_ro ?_ ?_ ?_); focus exact (by simp only [Try.results94, resOkL, resOk, Try.ntmps94, List.toList_toArray]; first | decide | (simp only [go_sem, hap]; done) | (simp only [go_sem, hap]; and_intros <;> first | omega | rfl | decide))
      rotate_left; focus exact (by repeat (first | exact Fr.rfl' _ _ | assumption | refine Fr.updk ?_ (by omega) _))
      simp only [resA, resV, Try.results94, go_sem, hap]
      all_goals try (first | exact Co.t2 (.dat rfl) (.dat rfl) | exact Co.t3 (.dat rfl) (.dat rfl) (.dat rfl))
    · rw [h1] at hbt
      rw [h2]
      dsimp only
      have hj0 : (((0 + j : Nat) : Int)) = (j : Int) := by omega
      rw [hj0] at hbt
      have hjn : decide ((j : Int) ≥ 0) = true := by simp
      have hz : (j : Int) < (b.length : Int) := by omega
      have e1 : (b.map bdDV).getD j default = bdDV b[j] := nth_map bdDV hj _
      repeat' (first | refine awp_seq_k fun K hK => ?_ | ((first | refine awp_region_k (by kernel_rfl) fun R hR => ?_ | refine awp_draw mixed (by kernel_rfl) (by kernel_rfl) fun R hR => ?_); simp only [go_sem, hv, hjn, hz, e1, Nat.reduceBEq, Int.toNat_natCast]) | ((first | (refine hR _ ?_; clear hR R) | refine awp_skip ?_ | refine awp_exit ?_ | refine awp_ret ?_); try simp only [thenA, inBlockA, reduceIte, reduceCtorEq, Nat.reduceEqDiff, if_false, if_true]) | ((first | refine hK _ ?_ | (clear hK K; first | refine hK _ ?_ | (clear hK K; first | refine hK _ ?_ | (clear hK K; first | refine hK _ ?_ | (clear hK K; refine hK _ ?_))))); clear hK K) | refine awp_true rfl rfl ?_ | refine awp_false rfl rfl ?_ | refine awp_block ?_ | ((first | refine CallK.pure (enter125) (hbt) ?_ ?_ | refine CallD.pure (enter125) (hbt) ?_ ?_ | refine CallK.pure (enter47) (sameR_tri b[j].2 t) ?_ ?_ | refine CallD.pure (enter47) (sameR_tri b[j].2 t) ?_ ?_); (focus first | ((repeat (first | exact trivial | refine ⟨(by first | exact Or.inl rfl | exact Or.inr rfl), ?_⟩)); done) | (simp only [coL, AV.dat, true_or, or_true, AV.d.injEq, go_sem]; done)); simp only [go_sem, hv, hjn, hz, e1, Nat.reduceBEq, Int.toNat_natCast]) | refine And.intro (by first | ((repeat' first | omega | exact trivial | rfl | assumption | (intro a e; subst e; rfl) | exact map_sz fun a => (by simp only [go_sem]) | refine And.intro ?_ ?_); done) | fail) ?_ | fail)
      (first | refine ret_pure ?_ ?_ ?_ | refine ret_ro ?_ ?_ ?_); focus exact (by simp only [Try.results94, resOkL, resOk, Try.ntmps94, List.toList_toArray]; first | decide | (simp only [go_sem]; done) | (simp only [go_sem]; and_intros <;> first | omega | rfl | decide))
      rotate_left; focus exact (by repeat (first | exact Fr.rfl' _ _ | assumption | refine Fr.updk ?_ (by omega) _))
      simp only [resA, resV, Try.results94, go_sem]
      all_goals try (first | exact Co.t2 (.dat rfl) (.dat rfl) | exact Co.t3 (.dat rfl) (.dat rfl) (.dat rfl))
  | false =>
    have hv' : ¬ p.v > 0 := by simpa using hv
    rw [if_neg hv']
    cases h1 : decide (t.v > 0) with
    | true =>
      rw [if_pos (.inl (by simpa using h1))]
      repeat' (first | refine awp_seq_k fun K hK => ?_ | ((first | refine awp_region_k (by kernel_rfl) fun R hR => ?_ | refine awp_draw mixed (by kernel_rfl) (by kernel_rfl) fun R hR => ?_); simp only [go_sem, hv, h1]) | ((first | (refine hR _ ?_; clear hR R) | refine awp_skip ?_ | refine awp_exit ?_ | refine awp_ret ?_); try simp only [thenA, inBlockA, reduceIte, reduceCtorEq, Nat.reduceEqDiff, if_false, if_true]) | ((first | refine hK _ ?_ | (clear hK K; first | refine hK _ ?_ | (clear hK K; first | refine hK _ ?_ | (clear hK K; first | refine hK _ ?_ | (clear hK K; refine hK _ ?_))))); clear hK K) | refine awp_true rfl rfl ?_ | refine awp_false rfl rfl ?_ | refine awp_block ?_ | refine And.intro (by first | ((repeat' first | omega | exact trivial | rfl | assumption | (intro a e; subst e; rfl) | exact map_sz fun a => (by simp only [go_sem]) | refine And.intro ?_ ?_); done) | fail) ?_ | fail)
      (first | refine ret_pure ?_ ?_ ?_ | refine ret_ro ?_ ?_ ?_); focus exact (by simp only [Try.results94, resOkL, resOk, Try.ntmps94, List.toList_toArray]; first | decide | (simp only [go_sem]; done) | (simp only [go_sem]; and_intros <;> first | omega | rfl | decide))
      rotate_left; focus exact (by repeat (first | exact Fr.rfl' _ _ | assumption | refine Fr.updk ?_ (by omega) _))
      simp only [resA, resV, Try.results94, go_sem]
      all_goals try (first | exact Co.t2 (.dat rfl) (.dat rfl) | exact Co.t3 (.dat rfl) (.dat rfl) (.dat rfl))
    | false =>
      cases h2 : (p.f != t.f) with
      | true =>
        rw [if_pos (.inr (.inl (by simpa using h2)))]
        repeat' (first | refine awp_seq_k fun K hK => ?_ | ((first | refine awp_region_k (by kernel_rfl) fun R hR => ?_ | refine awp_draw mixed (by kernel_rfl) (by kernel_rfl) fun R hR => ?_); simp only [go_sem, hv, h1, h2]) | ((first | (refine hR _ ?_; clear hR R) | refine awp_skip ?_ | refine awp_exit ?_ | refine awp_ret ?_); try simp only [thenA, inBlockA, reduceIte, reduceCtorEq, Nat.reduceEqDiff, if_false, if_true]) | ((first | refine hK _ ?_ | (clear hK K; first | refine hK _ ?_ | (clear hK K; first | refine hK _ ?_ | (clear hK K; first | refine hK _ ?_ | (clear hK K; refine hK _ ?_))))); clear hK K) | refine awp_true rfl rfl ?_ | refine awp_false rfl rfl ?_ | refine awp_block ?_ | refine And.intro (by first | ((repeat' first | omega | exact trivial | rfl | assumption | (intro a e; subst e; rfl) | exact map_sz fun a => (by simp only [go_sem]) | refine And.intro ?_ ?_); done) | fail) ?_ | fail)
        (first | refine ret_pure ?_ ?_ ?_ | refine ret_ro ?_ ?_ ?_); focus exact (by simp only [Try.results94, resOkL, resOk, Try.ntmps94, List.toList_toArray]; first | decide | (simp only [go_sem]; done) | (simp only [go_sem]; and_intros <;> first | omega | rfl | decide))
        rotate_left; focus exact (by repeat (first | exact Fr.rfl' _ _ | assumption | refine Fr.updk ?_ (by omega) _))
        simp only [resA, resV, Try.results94, go_sem]
        all_goals try (first | exact Co.t2 (.dat rfl) (.dat rfl) | exact Co.t3 (.dat rfl) (.dat rfl) (.dat rfl))
      | false =>
        cases h3 : ((p.us.length : Int) != (t.us.length : Int)) with
        | true =>
          rw [if_pos (.inr (.inr (by simp at h3; omega)))]
          repeat' (first | refine awp_seq_k fun K hK => ?_ | ((first | refine awp_region_k (by kernel_rfl) fun R hR => ?_ | refine awp_draw mixed (by kernel_rfl) (by kernel_rfl) fun R hR => ?_); simp only [go_sem, hv, h1, h2, h3]) | ((first | (refine hR _ ?_; clear hR R) | refine awp_skip ?_ | refine awp_exit ?_ | refine awp_ret ?_); try simp only [thenA, inBlockA, reduceIte, reduceCtorEq, Nat.reduceEqDiff, if_false, if_true]) | ((first | refine hK _ ?_ | (clear hK K; first | refine hK _ ?_ | (clear hK K; first | refine hK _ ?_ | (clear hK K; first | refine hK _ ?_ | (clear hK K; refine hK _ ?_))))); clear hK K) | refine awp_true rfl rfl ?_ | refine awp_false rfl rfl ?_ | refine awp_block ?_ | refine And.intro (by first | ((repeat' first | omega | exact trivial | rfl | assumption | (intro a e; subst e; rfl) | exact map_sz fun a => (by simp only [go_sem]) | refine And.intro ?_ ?_); done) | fail) ?_ | fail)
          (first | refine ret_pure ?_ ?_ ?_ | refine ret_ro ?_ ?_ ?_); focus exact (by simp only [Try.results94, resOkL, resOk, Try.ntmps94, List.toList_toArray]; first | decide | (simp only [go_sem]; done) | (simp only [go_sem]; and_intros <;> first | omega | rfl | decide))
          rotate_left; focus exact (by repeat (first | exact Fr.rfl' _ _ | assumption | refine Fr.updk ?_ (by omega) _))
          simp only [resA, resV, Try.results94, go_sem]
          all_goals try (first | exact Co.t2 (.dat rfl) (.dat rfl) | exact Co.t3 (.dat rfl) (.dat rfl) (.dat rfl))
        | false =>
          have hll : p.us.length = t.us.length := by simp at h3; omega
          rw [if_neg (by simp at h1 h2; omega)]
          have hsz2 := p.size_eq
          repeat' (first | refine awp_seq_k fun K hK => ?_ | ((first | refine awp_region_k (by kernel_rfl) fun R hR => ?_ | refine awp_draw mixed (by kernel_rfl) (by kernel_rfl) fun R hR => ?_); simp only [go_sem, hv, h1, h2, h3]) | ((first | (refine hR _ ?_; clear hR R) | refine awp_skip ?_ | refine awp_exit ?_ | refine awp_ret ?_); try simp only [thenA, inBlockA, reduceIte, reduceCtorEq, Nat.reduceEqDiff, if_false, if_true]) | ((first | refine hK _ ?_ | (clear hK K; first | refine hK _ ?_ | (clear hK K; first | refine hK _ ?_ | (clear hK K; first | refine hK _ ?_ | (clear hK K; refine hK _ ?_))))); clear hK K) | refine awp_true rfl rfl ?_ | refine awp_false rfl rfl ?_ | refine awp_block ?_ | refine And.intro (by first | ((repeat' first | omega | exact trivial | rfl | assumption | (intro a e; subst e; rfl) | exact map_sz fun a => (by simp only [go_sem]) | refine And.intro ?_ ?_); done) | fail) ?_ | fail)
          refine awp_loop (fun σ => ∃ (i : Nat) (bi : Bs), σ.t 0 = .d (bsDV bi) ∧ σ.t 4 = .ptr (k, 0) 0 ∧ σ.t 5 = .ptr (k, 1) 0 ∧ σ.t 9 = iA i ∧ σ.h (k, 0) = some (.cells 27 [iA p.v, iA p.f, .d (.sl (p.us.map tmDV))]) ∧ σ.h (k, 1) = some (.cells 27 [iA t.v, iA t.f, .d (.sl (t.us.map tmDV))]) ∧ Fr k h0 σ.h ∧ k < σ.k ∧ i ≤ p.us.length ∧ bi.length + Tm.size.sizes (p.us.drop i) ≤ b.length + Tm.size.sizes p.us ∧ growL (p.us.drop i) (t.us.drop i) bi = growL p.us t.us b) (fun σ => p.us.length - (intOf' (σ.t 9)).toNat) ?_ ?_
          · refine ⟨0, b, ?_⟩
            simp only [go_sem, List.drop_zero]
            and_intros; all_goals try (first | rfl | omega | assumption | ((repeat (first | exact Fr.rfl' _ _ | assumption | refine Fr.updk ?_ (by omega) _)); done))
          · rintro σ ⟨i, bi, s0, s4, s5, s9, sh, sh', hF, hk, hi, hbi, hg⟩
            have hne := ltne hk
            rcases Nat.lt_or_ge i p.us.length with hlt | hge
            · have hlt' : i < t.us.length := by omega
              have hz : (i : Int) < (p.us.length : Int) := by omega
              have hz' : (i : Int) < (t.us.length : Int) := by omega
              have e1 : (p.us.map tmDV).getD i default = tmDV p.us[i] := nth_map tmDV hlt _
              have e2 : (t.us.map tmDV).getD i default = tmDV t.us[i] := nth_map tmDV hlt' _
              rw [List.drop_eq_getElem_cons hlt, Tm.size.sizes] at hbi
              have hT := ih _ (List.getElem_mem hlt) t.us[i] bi (by omega)
              have hgl := grow_len p.us[i] t.us[i] bi
              rw [growL_at hlt hlt'] at hg
              cases h4 : (grow p.us[i] t.us[i] bi).1 with
              | true =>
                rw [h4] at hT
                rw [h4, if_pos rfl] at hg
                repeat' (first | refine awp_seq_k fun K hK => ?_ | ((first | refine awp_region_k (by kernel_rfl) fun R hR => ?_ | refine awp_draw mixed (by kernel_rfl) (by kernel_rfl) fun R hR => ?_); simp only [go_sem, s0, s4, s5, s9, sh, sh', hz, hz', e1, e2, hne, Int.toNat_natCast]) | ((first | (refine hR _ ?_; clear hR R) | refine awp_skip ?_ | refine awp_exit ?_ | refine awp_ret ?_); try simp only [thenA, inBlockA, reduceIte, reduceCtorEq, Nat.reduceEqDiff, if_false, if_true]) | ((first | refine hK _ ?_ | (clear hK K; first | refine hK _ ?_ | (clear hK K; first | refine hK _ ?_ | (clear hK K; first | refine hK _ ?_ | (clear hK K; refine hK _ ?_))))); clear hK K) | refine awp_true rfl rfl ?_ | refine awp_false rfl rfl ?_ | refine awp_block ?_ | ((first | refine CallK.pure (enter94) (hT) ?_ ?_ | refine CallD.pure (enter94) (hT) ?_ ?_); (focus first | ((repeat (first | exact trivial | refine ⟨(by first | exact Or.inl rfl | exact Or.inr rfl), ?_⟩)); done) | (simp only [coL, AV.dat, true_or, or_true, AV.d.injEq, go_sem]; done)); simp only [go_sem, s0, s4, s5, s9, sh, sh', hz, hz', e1, e2, hne, Int.toNat_natCast]) | refine And.intro (by first | ((repeat' first | omega | exact trivial | rfl | assumption | (intro a e; subst e; rfl) | exact map_sz fun a => (by simp only [go_sem]) | refine And.intro ?_ ?_); done) | fail) ?_ | fail)
                refine ⟨⟨i + 1, (grow p.us[i] t.us[i] bi).2, ?_⟩, ?_⟩
                rotate_left
                · simp only [go_sem, s0, s4, s5, s9, sh, sh', hne]; omega
                simp only [go_sem, s0, s4, s5, s9, sh, sh', hne]
                and_intros; all_goals try (first | rfl | omega | assumption | ((repeat (first | exact Fr.rfl' _ _ | assumption | refine Fr.updk ?_ (by omega) _)); done))
              | false =>
                rw [h4] at hT
                rw [h4] at hg
                simp only [Bool.false_eq_true, if_false] at hg
                repeat' (first | refine awp_seq_k fun K hK => ?_ | ((first | refine awp_region_k (by kernel_rfl) fun R hR => ?_ | refine awp_draw mixed (by kernel_rfl) (by kernel_rfl) fun R hR => ?_); simp only [go_sem, s0, s4, s5, s9, sh, sh', hz, hz', e1, e2, hne, Int.toNat_natCast]) | ((first | (refine hR _ ?_; clear hR R) | refine awp_skip ?_ | refine awp_exit ?_ | refine awp_ret ?_); try simp only [thenA, inBlockA, reduceIte, reduceCtorEq, Nat.reduceEqDiff, if_false, if_true]) | ((first | refine hK _ ?_ | (clear hK K; first | refine hK _ ?_ | (clear hK K; first | refine hK _ ?_ | (clear hK K; first | refine hK _ ?_ | (clear hK K; refine hK _ ?_))))); clear hK K) | refine awp_true rfl rfl ?_ | refine awp_false rfl rfl ?_ | refine awp_block ?_ | ((first | refine CallK.pure (enter94) (hT) ?_ ?_ | refine CallD.pure (enter94) (hT) ?_ ?_); (focus first | ((repeat (first | exact trivial | refine ⟨(by first | exact Or.inl rfl | exact Or.inr rfl), ?_⟩)); done) | (simp only [coL, AV.dat, true_or, or_true, AV.d.injEq, go_sem]; done)); simp only [go_sem, s0, s4, s5, s9, sh, sh', hz, hz', e1, e2, hne, Int.toNat_natCast]) | refine And.intro (by first | ((repeat' first | omega | exact trivial | rfl | assumption | (intro a e; subst e; rfl) | exact map_sz fun a => (by simp only [go_sem]) | refine And.intro ?_ ?_); done) | fail) ?_ | fail)
                rw [← hg]
                (first | refine ret_pure ?_ ?_ ?_ | refine ret_ro ?_ ?_ ?_); focus exact (by simp only [Try.results94, resOkL, resOk, Try.ntmps94, List.toList_toArray]; first | decide | (simp only [go_sem, s0]; done) | (simp only [go_sem, s0]; and_intros <;> first | omega | rfl | decide))
                rotate_left; focus exact (by repeat (first | exact Fr.rfl' _ _ | assumption | refine Fr.updk ?_ (by omega) _))
                simp only [resA, resV, Try.results94, go_sem, s0]
                all_goals try (first | exact Co.t2 (.dat rfl) (.dat rfl) | exact Co.t3 (.dat rfl) (.dat rfl) (.dat rfl))
            · have hz : ¬ ((i : Int) < (p.us.length : Int)) := by omega
              have hg' : growL p.us t.us b = (true, bi) := by
                rw [← hg, List.drop_eq_nil_of_le hge]
                cases t.us.drop i <;> rfl
              repeat' (first | refine awp_seq_k fun K hK => ?_ | ((first | refine awp_region_k (by kernel_rfl) fun R hR => ?_ | refine awp_draw mixed (by kernel_rfl) (by kernel_rfl) fun R hR => ?_); simp only [go_sem, s0, s4, s9, sh, hz, hne]) | ((first | (refine hR _ ?_; clear hR R) | refine awp_skip ?_ | refine awp_exit ?_ | refine awp_ret ?_); try simp only [thenA, inBlockA, reduceIte, reduceCtorEq, Nat.reduceEqDiff, if_false, if_true]) | ((first | refine hK _ ?_ | (clear hK K; first | refine hK _ ?_ | (clear hK K; first | refine hK _ ?_ | (clear hK K; first | refine hK _ ?_ | (clear hK K; refine hK _ ?_))))); clear hK K) | refine awp_true rfl rfl ?_ | refine awp_false rfl rfl ?_ | refine awp_block ?_ | refine And.intro (by first | ((repeat' first | omega | exact trivial | rfl | assumption | (intro a e; subst e; rfl) | exact map_sz fun a => (by simp only [go_sem]) | refine And.intro ?_ ?_); done) | fail) ?_ | fail)
              rw [hg']
              (first | refine ret_pure ?_ ?_ ?_ | refine ret_ro ?_ ?_ ?_); focus exact (by simp only [Try.results94, resOkL, resOk, Try.ntmps94, List.toList_toArray]; first | decide | (simp only [go_sem, s0]; done) | (simp only [go_sem, s0]; and_intros <;> first | omega | rfl | decide))
              rotate_left; focus exact (by repeat (first | exact Fr.rfl' _ _ | assumption | refine Fr.updk ?_ (by omega) _))
              simp only [resA, resV, Try.results94, go_sem, s0]
              all_goals try (first | exact Co.t2 (.dat rfl) (.dat rfl) | exact Co.t3 (.dat rfl) (.dat rfl) (.dat rfl))
theorem grow_tri : ∀ p : Tm, GrowSpec p := Tm.ind grow_step
set_option maxRecDepth 20000 in
theorem turned_tri (l : Lt) : Tri Try.prog 93 [.d (ltDV l)] (pure' (.d (ltDV ⟨l.y, l.b, l.a⟩))) := by
  refine tri_enter Try.func93 rfl Try.ntmps93 (by simp only [List.length_cons, List.length_nil]; omega) fun w0 h0 k hrd hwr => ?_
  repeat' (first | refine awp_seq_k fun K hK => ?_ | ((first | refine awp_region_k (by kernel_rfl) fun R hR => ?_ | refine awp_draw mixed (by kernel_rfl) (by kernel_rfl) fun R hR => ?_); simp only [go_sem]) | ((first | (refine hR _ ?_; clear hR R) | refine awp_skip ?_ | refine awp_exit ?_ | refine awp_ret ?_); try simp only [thenA, inBlockA, reduceIte, reduceCtorEq, Nat.reduceEqDiff, if_false, if_true]) | ((first | refine hK _ ?_ | (clear hK K; first | refine hK _ ?_ | (clear hK K; first | refine hK _ ?_ | (clear hK K; first | refine hK _ ?_ | (clear hK K; refine hK _ ?_))))); clear hK K) | refine awp_true rfl rfl ?_ | refine awp_false rfl rfl ?_ | refine awp_block ?_ | refine And.intro (by first | ((repeat' first | omega | exact trivial | rfl | assumption | (intro a e; subst e; rfl) | exact map_sz fun a => (by simp only [go_sem]) | refine And.intro ?_ ?_); done) | fail) ?_ | fail)
  (first | refine ret_pure ?_ ?_ ?_ | refine ret_ro ?_ ?_ ?_); focus exact (by simp only [Try.results93, resOkL, resOk, Try.ntmps93, List.toList_toArray]; first | decide | (simp only [go_sem]; done) | (simp only [go_sem]; and_intros <;> first | omega | rfl | decide))
  rotate_left; focus exact (by repeat (first | exact Fr.rfl' _ _ | assumption | refine Fr.updk ?_ (by omega) _))
  simp only [resA, resV, Try.results93, go_sem]
  all_goals try (first | exact Co.t2 (.dat rfl) (.dat rfl) | exact Co.t3 (.dat rfl) (.dat rfl) (.dat rfl))
  exact .dat rfl
end Go.Proofs.Ytmeekpinkfpnhaa
namespace Go.Proofs.Ytmeekpinkfpnhaa
open Go.RowKit
def PartsSpec' (t : Tm) : Prop := t.fits → ∀ (n : Nm) (l : List Tm), l.length + (parts t).length ≤ 4000000 →
  Tri Try.prog 63 [.own n (l.map tmDV), .d (tmDV t)] (ownEff 27 n (l.map tmDV) ((l ++ parts t).map tmDV))
theorem partsOf_step (t : Tm) (ih : ∀ u ∈ t.us, PartsSpec' u) : PartsSpec' t := by
  intro hft n l hsz
  have hlen := Tm.fits_len hft
  have hp2 := parts_eq t
  have hp3 : (parts t).length = (partsL t.us).length + 1 := by rw [hp2]; simp
  refine tri_enter Try.func63 rfl Try.ntmps63 (by simp only [List.length_cons, List.length_nil]; omega) fun w0 h0 k hrd hwr => ?_
  have hn : h0 n = some (.perm 27 (l.map tmDV).length) := hrd (n, _) (by simp [ownEff])
  have hnk : n.1 < k := hwr (n, _) (by simp only [ownEff, List.mem_cons, List.not_mem_nil, or_false]; rfl)
  have hne := nmne hnk
  rw [List.length_map] at hn
  repeat' (first | refine awp_seq_k fun K hK => ?_ | ((first | refine awp_region_k (by kernel_rfl) fun R hR => ?_ | refine awp_draw mixed (by kernel_rfl) (by kernel_rfl) fun R hR => ?_); simp only [go_sem, hne]) | ((first | (refine hR _ ?_; clear hR R) | refine awp_skip ?_ | refine awp_exit ?_ | refine awp_ret ?_); try simp only [thenA, inBlockA, reduceIte, reduceCtorEq, Nat.reduceEqDiff, if_false, if_true]) | ((first | refine hK _ ?_ | (clear hK K; first | refine hK _ ?_ | (clear hK K; first | refine hK _ ?_ | (clear hK K; first | refine hK _ ?_ | (clear hK K; refine hK _ ?_))))); clear hK K) | refine awp_true rfl rfl ?_ | refine awp_false rfl rfl ?_ | refine awp_block ?_ | refine And.intro (by first | ((repeat' first | omega | exact trivial | rfl | assumption | (intro a e; subst e; rfl) | exact map_sz fun a => (by simp only [go_sem]) | refine And.intro ?_ ?_); done) | fail) ?_ | fail)
  refine awp_loop (fun s => ∃ (i : Nat), s.t 0 = .own n ((l ++ partsL (t.us.take i)).map tmDV) ∧ s.t 3 = .ptr (k, 0) 0 ∧ s.t 5 = iA i ∧ s.h (k, 0) = some (.cells 27 [iA t.v, iA t.f, .d (.sl (t.us.map tmDV))]) ∧
    s.h n = some (.perm 27 (l ++ partsL (t.us.take i)).length) ∧ FrX k n h0 s.h ∧ k < s.k ∧ i ≤ t.us.length) (fun s => t.us.length - (intOf' (s.t 5)).toNat) ?_ ?_
  · refine ⟨0, ?_⟩
    simp only [go_sem, hne, hn, partsL, List.take_zero, List.append_nil]
    and_intros; all_goals try (first | rfl | omega | assumption | ((repeat (first | exact Fr.rfl' _ _ | assumption | refine Fr.updk ?_ (by omega) _)); done))
    exact FrX.updk (FrX.rfl' _ _ _) (by omega) _
  · rintro s ⟨i, s0, s3, s5, sh, sn, hfr, hk, hi⟩
    have hne' := nmne (show n.1 < s.k by omega)
    rcases Nat.lt_or_ge i t.us.length with hlt | hge
    · have e1 := nth_map tmDV hlt default
      have hz : (i : Int) < (t.us.length : Int) := by omega
      have hp := partsL_at hlt
      repeat' (first | refine awp_seq_k fun K hK => ?_ | ((first | refine awp_region_k (by kernel_rfl) fun R hR => ?_ | refine awp_draw mixed (by kernel_rfl) (by kernel_rfl) fun R hR => ?_); simp only [go_sem, s0, s3, s5, sh, sn, e1, hz, hne, hne', Int.toNat_natCast]) | ((first | (refine hR _ ?_; clear hR R) | refine awp_skip ?_ | refine awp_exit ?_ | refine awp_ret ?_); try simp only [thenA, inBlockA, reduceIte, reduceCtorEq, Nat.reduceEqDiff, if_false, if_true]) | ((first | refine hK _ ?_ | (clear hK K; first | refine hK _ ?_ | (clear hK K; first | refine hK _ ?_ | (clear hK K; first | refine hK _ ?_ | (clear hK K; refine hK _ ?_))))); clear hK K) | refine awp_true rfl rfl ?_ | refine awp_false rfl rfl ?_ | refine awp_block ?_ | ((first | refine CallK.eff (enter63) (ih _ (List.getElem_mem hlt) (Tm.fits_at hft hlt) n (l ++ partsL (t.us.take i)) (by rw [List.length_append]; omega)) ?_ ?_ ?_ ?_ | refine CallD.eff (enter63) (ih _ (List.getElem_mem hlt) (Tm.fits_at hft hlt) n (l ++ partsL (t.us.take i)) (by rw [List.length_append]; omega)) ?_ ?_ ?_ ?_); (focus first | ((repeat (first | exact trivial | refine ⟨(by first | exact Or.inl rfl | exact Or.inr rfl), ?_⟩)); done) | (simp only [coL, AV.dat, true_or, or_true, AV.d.injEq, go_sem]; done)); (focus (simp only [go_sem, s0, s3, s5, sh, sn, e1, hz, hne, hne', Int.toNat_natCast]; done)); (focus (simp only [go_sem, s0, s3, s5, sh, sn, e1, hz, hne, hne', Int.toNat_natCast]; done)); simp only [go_sem, s0, s3, s5, sh, sn, e1, hz, hne, hne', Int.toNat_natCast]) | refine And.intro (by first | ((repeat' first | omega | exact trivial | rfl | assumption | (intro a e; subst e; rfl) | exact map_sz fun a => (by simp only [go_sem]) | refine And.intro ?_ ?_); done) | fail) ?_ | fail)
      refine ⟨⟨i + 1, ?_⟩, ?_⟩
      rotate_left
      · simp only [go_sem, s0, s3, s5, sh, sn, hne, hne', partsL_take hlt]; omega
      simp only [go_sem, s0, s3, s5, sh, sn, hne, hne', partsL_take hlt]
      and_intros; all_goals try (first | rfl | omega | assumption | ((repeat (first | exact Fr.rfl' _ _ | assumption | refine Fr.updk ?_ (by omega) _)); done))
      exact FrX.updn hfr _
    · have hz : ¬ ((i : Int) < (t.us.length : Int)) := by omega
      obtain rfl : i = t.us.length := by omega
      have e2 : partsL (List.take t.us.length t.us) = partsL t.us := by rw [List.take_length]
      rw [e2] at s0 sn
      have hl : (l ++ partsL t.us).length ≤ 16777215 := by rw [List.length_append]; omega
      repeat' (first | refine awp_seq_k fun K hK => ?_ | ((first | refine awp_region_k (by kernel_rfl) fun R hR => ?_ | refine awp_draw mixed (by kernel_rfl) (by kernel_rfl) fun R hR => ?_); simp only [go_sem, s0, s3, s5, sh, sn, hz, hne, hne']) | ((first | (refine hR _ ?_; clear hR R) | refine awp_skip ?_ | refine awp_exit ?_ | refine awp_ret ?_); try simp only [thenA, inBlockA, reduceIte, reduceCtorEq, Nat.reduceEqDiff, if_false, if_true]) | ((first | refine hK _ ?_ | (clear hK K; first | refine hK _ ?_ | (clear hK K; first | refine hK _ ?_ | (clear hK K; first | refine hK _ ?_ | (clear hK K; refine hK _ ?_))))); clear hK K) | refine awp_true rfl rfl ?_ | refine awp_false rfl rfl ?_ | refine awp_block ?_ | refine And.intro (by first | ((repeat' first | omega | exact trivial | rfl | assumption | (intro a e; subst e; rfl) | exact map_sz fun a => (by simp only [go_sem]) | refine And.intro ?_ ?_); done) | fail) ?_ | fail)
      refine ret_own (by simp only [Try.results63, resOkL, resOk, Try.ntmps63, List.toList_toArray]; decide) ?_ (by assumption) ?_ ?_
      all_goals simp only [resA, resV, Try.results63, go_sem, hne, hne', e2, hp2]
      · simp
      · simp
      · exact FrX.updn (FrX.updk hfr (by omega) _) _
theorem partsOf_tri (t : Tm) : PartsSpec' t := Tm.ind partsOf_step t
theorem partsOf_new (t : Tm) (hft : t.fits) (hsz : (parts t).length ≤ 4000000) (n' : Nm) : Tri Try.prog 63 [.nil, .d (tmDV t)] (newEff 27 n' ((parts t).map tmDV)) :=
  Tri.grown (pre := []) (fun n => by have := partsOf_tri t hft n [] (by simpa using hsz); simpa using this) n'
theorem partsOf_data (t : Tm) (hft : t.fits) (hsz : (parts t).length ≤ 4000000) : Tri Try.prog 63 [.nil, .d (tmDV t)] (pure' (.d (.sl ((parts t).map tmDV)))) := Tri.data fun n' => partsOf_new t hft hsz n'
end Go.Proofs.Ytmeekpinkfpnhaa
