/- Rewriting: what is plain. No program in sight. rewrite.found. FRSTH subst.size, subst.Raw; superposeref.AppliedSize. superposeref.AtOf, PutOf, PlacesOf; term.Find. Arrays that a call makes: frozen as lists. A call that hands back a new list that may be appended to: as one that hands back a new array. slices.Clone, its list an array that may be written. term.Lay; superposeref.PlacesOf. Maps as lists of keys and values: made, asked, written. -/
import Derived.Test.YtmeekpinkfpnhaaB04
import Derived.Test.YtmeekpinkfpnhaaB05
import Derived.Test.YtmeekpinkfpnhaaB06
import Derived.Test.YtmeekpinkfpnhaaB07
import Derived.Test.YtmeekpinkfpnhaaB08
set_option linter.unusedSimpArgs false
set_option linter.unusedSectionVars false
set_option linter.unusedVariables false
set_option linter.unnecessarySimpa false
set_option linter.all false
namespace Go.Proofs.Ytmeekpinkfpnhaa
/-! ### how great a term is that is made -/
theorem count_size : (∀ (t : Tm) (most : Int), count t most ≤ t.size) := by
  suffices h : ∀ t : Tm, ∀ most : Int, count t most ≤ t.size from h
  intro t
  refine Tm.rec (motive_1 := fun t => ∀ most : Int, count t most ≤ t.size) (motive_2 := fun us => ∀ n most : Int, countL us n most ≤ n + Tm.size.sizes us) ?_ ?_ ?_ t
  · intro v f us ih most
    rw [count, Tm.size]
    have := ih 1 most
    omega
  · intro n most; rw [countL, Tm.size.sizes]; omega
  · intro x xs h1 h2 n most
    rw [countL, Tm.size.sizes]
    split
    · omega
    · have := h1 (most - n)
      have := h2 (n + count x (most - n)) most
      omega
theorem count_cap {t : Tm} : count t 120 ≤ 120 ↔ t.size ≤ 120 := by
  constructor
  · intro h
    have := count_parts t 120 (by omega) h
    rw [parts_len] at this
    omega
  · intro h
    have := count_size t 120
    omega
theorem count_eq_size {t : Tm} (h : t.size ≤ 120) : count t 120 = t.size := by
  have := count_parts t 120 (by omega) (count_cap.2 h)
  rw [parts_len] at this
  omega
def apOne (bs : Bs) (x : Tm) : Int := if x.v > 0 then (match lookB x.v bs with | some u => count u 120 | none => 1) else 1
def apS (bs : Bs) : List Tm → Int
  | [] => 0
  | x :: l => apOne bs x + apS bs l
theorem apOne_pos (bs : Bs) (x : Tm) : 1 ≤ apOne bs x ∧ apOne bs x ≤ 121 := by
  unfold apOne
  split
  · cases lookB x.v bs with
    | none => simp
    | some u => have := count_le u 120 (by omega); simp only; omega
  · omega
theorem apS_append (bs : Bs) (a b : List Tm) : apS bs (a ++ b) = apS bs a + apS bs b := by
  induction a with
  | nil => simp [apS]
  | cons x a ih => rw [List.cons_append, apS, apS, ih]; omega
theorem apS_len (bs : Bs) (l : List Tm) : (l.length : Int) ≤ apS bs l ∧ apS bs l ≤ 121 * l.length := by
  induction l with
  | nil => simp [apS]
  | cons x l ih => have := apOne_pos bs x; rw [apS, List.length_cons]; omega
mutual
theorem apS_pre (bs : Bs) : ∀ t : Tm, apS bs (pre t) = apS bs (parts t)
  | .mk v f us => by rw [pre, parts, apS, apS_append, apS_preL bs us, apS, apS]; omega
theorem apS_preL (bs : Bs) : ∀ us : List Tm, apS bs (preL us) = apS bs (partsL us)
  | [] => rfl
  | x :: xs => by rw [preL, partsL, apS_append, apS_append, apS_pre bs x, apS_preL bs xs]
end
mutual
theorem apS_size (bs : Bs) : ∀ t : Tm, Good t → apS bs (parts t) ≤ (applyR bs t).size ∧ (apS bs (parts t) ≤ 120 → apS bs (parts t) = (applyR bs t).size)
  | .mk v f us, h => by
    obtain ⟨h1, h2⟩ := h.at
    rw [parts, apS_append, applyR]
    by_cases hv : v > 0
    · have := h2 hv; subst this
      rw [if_pos hv]
      cases hl : lookB v bs with
      | none =>
        have e : apOne bs (.mk v f []) = 1 := by simp [apOne, Tm.v, hv, hl]
        simp only [partsL, apS, e]
        simp [Tm.size, Tm.size.sizes]
      | some u =>
        have e : apOne bs (.mk v f []) = count u 120 := by simp [apOne, Tm.v, hv, hl]
        have := count_size u 120
        simp only [partsL, apS, e]
        refine ⟨by omega, fun h3 => ?_⟩
        have := count_eq_size (count_cap.1 (show count u 120 ≤ 120 by omega))
        omega
    · rw [if_neg hv]
      obtain ⟨k1, k2⟩ := apS_sizeL bs us fun u hu => h.kid (t := .mk v f us) hu
      simp only [apS, apOne, Tm.v, if_neg hv, Tm.size]
      have := apS_len bs (partsL us)
      constructor
      · omega
      · intro h3; have := k2 (by omega); omega
theorem apS_sizeL (bs : Bs) : ∀ us : List Tm, (∀ u ∈ us, Good u) → apS bs (partsL us) ≤ Tm.size.sizes (applyRL bs us) ∧ (apS bs (partsL us) ≤ 120 → apS bs (partsL us) = Tm.size.sizes (applyRL bs us))
  | [], _ => ⟨by simp [partsL, apS, applyRL, Tm.size.sizes], fun _ => by simp [partsL, apS, applyRL, Tm.size.sizes]⟩
  | x :: xs, h => by
    obtain ⟨k1, k2⟩ := apS_size bs x (h x (by simp))
    obtain ⟨k3, k4⟩ := apS_sizeL bs xs fun u hu => h u (by simp [hu])
    have := apS_len bs (partsL xs)
    have := apS_len bs (parts x)
    rw [partsL, apS_append, applyRL, Tm.size.sizes]
    constructor
    · omega
    · intro h3
      have := k2 (by omega)
      have := k4 (by omega)
      omega
end
theorem apS_cap {bs : Bs} {t : Tm} (h : Good t) : apS bs (parts t) ≤ 120 ↔ (applyR bs t).size ≤ 120 := by
  obtain ⟨h1, h2⟩ := apS_size bs t h
  constructor
  · intro h3; have := h2 h3; omega
  · intro h3; omega
/-! ### the first place at which a rule matches -/
structure Rl where
  l : Tm
  r : Tm
def ruleG : List Rl → Tm → Option (Rl × Bs)
  | [], _ => none
  | r :: rs, t => if (meet r.l t []).1 = true then some (r, (meet r.l t []).2) else ruleG rs t
def ruleR : List Rl → Tm → Option (Rl × Bs)
  | [], _ => none
  | r :: rs, t => if (grow r.l t []).1 = true then some (r, (grow r.l t []).2) else ruleR rs t
theorem rule_eq {t : Tm} (h : ∀ x ∈ parts t, 0 ≤ x.v) : ∀ rs : List Rl, ruleG rs t = ruleR rs t
  | [] => rfl
  | r :: rs => by
    obtain ⟨h1, h2⟩ := meet_grow r.l t [] h
    rw [ruleG, ruleR, ← h1, rule_eq h rs]
    by_cases hc : (meet r.l t []).1 = true
    · rw [if_pos hc, if_pos hc, h2 hc]
    · rw [if_neg hc, if_neg hc]
mutual
def foundG (rs : List Rl) : Tm → List Int → Option (List Int × Rl × Bs)
  | .mk v f us, pl => match foundL rs us 0 pl with
    | some q => some q
    | none => (ruleG rs (.mk v f us)).map fun q => (pl, q.1, q.2)
def foundL (rs : List Rl) : List Tm → Nat → List Int → Option (List Int × Rl × Bs)
  | [], _, _ => none
  | x :: xs, i, pl => match foundG rs x (pl ++ [(i : Int)]) with
    | some q => some q
    | none => foundL rs xs (i + 1) pl
end
theorem foundG_eq (rs : List Rl) (t : Tm) (pl : List Int) : foundG rs t pl = match foundL rs t.us 0 pl with | some q => some q | none => (ruleG rs t).map fun q => (pl, q.1, q.2) := by cases t; rw [foundG]; rfl
def findQ (rs : List Rl) : List (List Int × Tm) → Option (List Int × Rl × Bs)
  | [] => none
  | q :: l => match ruleG rs q.2 with
    | some w => some (q.1, w.1, w.2)
    | none => findQ rs l
theorem findQ_append (rs : List Rl) (a b : List (List Int × Tm)) : findQ rs (a ++ b) = match findQ rs a with | some q => some q | none => findQ rs b := by
  induction a with
  | nil => rfl
  | cons q a ih =>
    rw [List.cons_append, findQ, findQ, ih]
    cases ruleG rs q.2 <;> rfl
mutual
theorem found_find (rs : List Rl) : ∀ (t : Tm) (pl : List Int), foundG rs t pl = findQ rs ((plP t).map fun q => (pl ++ q.1, q.2))
  | .mk v f us, pl => by
    rw [foundG, plP, List.map_append, findQ_append, ← found_findL rs us 0 pl]
    cases foundL rs us 0 pl with
    | some q => rfl
    | none =>
      simp only [List.map_cons, List.map_nil, findQ, List.append_nil]
      cases ruleG rs (Tm.mk v f us) <;> rfl
theorem found_findL (rs : List Rl) : ∀ (us : List Tm) (i : Nat) (pl : List Int), foundL rs us i pl = findQ rs ((plPL us i).map fun q => (pl ++ q.1, q.2))
  | [], _, _ => rfl
  | x :: xs, i, pl => by
    rw [foundL, plPL, List.map_append, findQ_append, ← found_findL rs xs (i + 1) pl, found_find rs x, List.map_map]
    have e : (fun q : List Int × Tm => (pl ++ q.1, q.2)) ∘ (fun q : List Int × Tm => ((i : Int) :: q.1, q.2)) = fun q : List Int × Tm => (pl ++ [(i : Int)] ++ q.1, q.2) := by
      funext q; simp
    rw [e]
end
theorem found_nil (rs : List Rl) (t : Tm) : foundG rs t [] = findQ rs (plP t) := by
  rw [found_find]; simp
theorem ruleG_some {rs : List Rl} {t : Tm} {r : Rl} {b : Bs} (h : ruleG rs t = some (r, b)) : r ∈ rs ∧ (meet r.l t []).1 = true ∧ b = (meet r.l t []).2 := by
  induction rs with
  | nil => cases h
  | cons x rs ih =>
    rw [ruleG] at h
    by_cases hc : (meet x.l t []).1 = true
    · rw [if_pos hc] at h; cases h; exact ⟨by simp, hc, rfl⟩
    · rw [if_neg hc] at h
      obtain ⟨h1, h2⟩ := ih h
      exact ⟨by simp [h1], h2⟩
theorem findQ_some {rs : List Rl} {l : List (List Int × Tm)} {p : List Int} {r : Rl} {b : Bs} (h : findQ rs l = some (p, r, b)) : ∃ x, (p, x) ∈ l ∧ ruleG rs x = some (r, b) := by
  induction l with
  | nil => cases h
  | cons q l ih =>
    rw [findQ] at h
    cases hq : ruleG rs q.2 with
    | some w =>
      rw [hq] at h
      cases h
      exact ⟨q.2, by simp, hq⟩
    | none =>
      rw [hq] at h
      obtain ⟨x, h1, h2⟩ := ih h
      exact ⟨x, by simp [h1], h2⟩
/-! ### steps -/
def stepG (rs : List Rl) (t : Tm) : Tm × Bool × Int := match foundG rs t [] with
  | none => (t, false, 0)
  | some (p, r, b) => if apS b (pre r.r) > 120 then (tm0, false, 2) else if count (layG t p (mapM (madeS b) r.r)) 120 > 120 then (tm0, false, 2) else (layG t p (mapM (madeS b) r.r), true, 0)
def stepL (rs : List Rl) (t : Tm) : List (List Int × Tm) → Tm × Bool × Int
  | [] => (t, false, 0)
  | q :: l => match ruleR rs q.2 with
    | none => stepL rs t l
    | some (r, b) => if apS b (parts r.r) > 120 then (tm0, false, 2) else if count (putG t q.1 (applyR b r.r)) 120 > 120 then (tm0, false, 2) else (putG t q.1 (applyR b r.r), true, 0)
theorem step_eq {rs : List Rl} {t : Tm} (ht : Good t) (hr : ∀ r ∈ rs, Good r.r) : stepL rs t (plP t) = stepG rs t := by
  have key : ∀ l : List (List Int × Tm), (∀ q ∈ l, atG t q.1 = some q.2) → stepL rs t l = match findQ rs l with
      | none => (t, false, 0)
      | some (p, r, b) => if apS b (pre r.r) > 120 then (tm0, false, 2) else if count (layG t p (mapM (madeS b) r.r)) 120 > 120 then (tm0, false, 2) else (layG t p (mapM (madeS b) r.r), true, 0) := by
    intro l
    induction l with
    | nil => intro _; rfl
    | cons q l ih =>
      intro h
      have hq := h q (by simp)
      have hnn : ∀ x ∈ parts q.2, 0 ≤ x.v := fun x hx => (ht x (at_parts _ _ _ hq x hx)).1
      rw [stepL, findQ, ← rule_eq hnn]
      cases hg : ruleG rs q.2 with
      | none => exact ih fun x hx => h x (by simp [hx])
      | some w =>
        obtain ⟨r, b⟩ := w
        simp only
        have hrr := hr r (ruleG_some hg).1
        rw [put_lay _ t _ _ ht hq, apS_pre, made_apply b _ hrr]
  rw [key (plP t) fun q hq => plP_at t q hq]
  unfold stepG
  rw [found_nil]
def normG (rs : List Rl) : Nat → Tm → Int → Tm × Int × Int
  | k, t, n => if (stepG rs t).2.2 ≠ 0 then (tm0, 0, (stepG rs t).2.2) else if (stepG rs t).2.1 = false then (t, n, 0) else match k with
    | 0 => (tm0, 0, 2)
    | k + 1 => normG rs k (stepG rs t).1 (n + 1)
/-! ### rules checked -/
def rlL (g : List Int) : List Rl → Int
  | [] => 0
  | x :: l => if own g x.l ≠ 0 then own g x.l else if own g x.r ≠ 0 then own g x.r else if gt x.l x.r = false then 4 else rlL g l
def rlOk (g : List Int) (l : List Rl) : Int := if sigOk g ≠ 0 then sigOk g else if l.length > 20 then 2 else rlL g l
theorem rlL_all {g : List Int} : ∀ {l : List Rl}, rlL g l = 0 → ∀ r ∈ l, own g r.l = 0 ∧ own g r.r = 0 ∧ Gt r.l r.r
  | x :: l, h, r, hr => by
    rw [rlL] at h
    by_cases h1 : own g x.l = 0
    · by_cases h2 : own g x.r = 0
      · rw [if_neg (by simp [h1]), if_neg (by simp [h2])] at h
        cases h3 : gt x.l x.r with
        | false => rw [h3, if_pos rfl] at h; cases h
        | true =>
          rw [h3, if_neg (by simp)] at h
          rcases List.mem_cons.1 hr with rfl | hr
          · exact ⟨h1, h2, h3⟩
          · exact rlL_all h r hr
      · rw [if_neg (by simp [h1]), if_pos h2] at h; exact absurd h h2
    · rw [if_pos h1] at h; exact absurd h h1
theorem rlOk_all {g : List Int} {l : List Rl} (h : rlOk g l = 0) : sigOk g = 0 ∧ l.length ≤ 20 ∧ ∀ r ∈ l, own g r.l = 0 ∧ own g r.r = 0 ∧ Gt r.l r.r := by
  unfold rlOk at h
  by_cases hs : sigOk g = 0
  · rw [if_neg (by simp [hs])] at h
    by_cases h2 : l.length > 20
    · rw [if_pos h2] at h; cases h
    · rw [if_neg h2] at h; exact ⟨hs, by omega, rlL_all h⟩
  · rw [if_pos hs] at h; exact absurd h hs
/-! ### E3: each step makes a lesser term -/
theorem gt_lay : ∀ (p : List Int) (t u x : Tm), Good t → atG t p = some x → Gt x u → Gt t (layG t p u)
  | [], t, u, x, _, h, hg => by rw [atG] at h; cases h; exact hg
  | i :: p, t, u, x, ht, h, hg => by
    obtain ⟨n, hn, rfl, k⟩ := atG_some h
    have h1 := gt_lay p t.us[n] u x (ht.kid (List.getElem_mem hn)) k hg
    have h0 := ht t (parts_self t)
    have hv : t.v = 0 := by
      rcases Int.lt_or_le 0 t.v with h1 | h1
      · have := h0.2 h1; rw [this] at hn; exact absurd hn (Nat.not_lt_zero _)
      · omega
    rw [layG, Int.toNat_natCast, getD_at hn, hv, set_cut hn]
    have := h1.mono t.f (t.us.take n) (t.us.drop (n + 1))
    rw [← us_cut hn, ← hv, Tm.eta] at this
    rw [hv] at this; exact this
theorem form_part {g : List Int} {t x : Tm} (h : form g t = 0) (hx : x ∈ parts t) : form g x = 0 := by
  rw [← formAll_parts] at h ⊢
  have h1 := formAll_mem h
  have sub : ∀ y ∈ parts x, y ∈ parts t := by
    revert hx
    refine Tm.ind (P := fun t => x ∈ parts t → ∀ y ∈ parts x, y ∈ parts t) (fun t ih hx y hy => ?_) t
    rw [parts_eq, List.mem_append] at hx
    rcases hx with hx | hx
    · obtain ⟨u, hu, hx⟩ := partsL_mem hx
      exact parts_kid hu (ih u hu hx y hy)
    · rw [← List.mem_singleton.1 hx]; exact hy
  have all : ∀ l : List Tm, (∀ y ∈ l, formOne g y.v y.f y.us.length = 0) → formAll g l = 0 := by
    intro l
    induction l with
    | nil => intro _; rfl
    | cons y l ih => intro hl; rw [formAll, if_neg (by simp [hl y (by simp)])]; exact ih fun z hz => hl z (by simp [hz])
  exact all _ fun y hy => h1 y (sub y hy)
theorem formL_iff {g : List Int} : ∀ {l : List Tm}, formL g l = 0 ↔ ∀ y ∈ l, form g y = 0
  | [] => by simp [formL]
  | y :: l => by
    rw [formL]
    by_cases hy : form g y = 0
    · rw [if_neg (by simp [hy]), formL_iff]; simp [hy]
    · rw [if_pos hy]; simp [hy]
theorem form_sub {g : List Int} {σ : Int → Tm} : ∀ t : Tm, form g t = 0 → (∀ x ∈ parts t, x.v > 0 → form g (σ x.v) = 0) → form g (sub σ t) = 0 := by
  refine Tm.ind fun t ih ht hs => ?_
  rw [sub_eq]
  by_cases hv : t.v > 0
  · rw [if_pos hv]; exact hs t (parts_self t) hv
  · rw [if_neg hv, form]
    rw [form_eq] at ht
    by_cases hl : formL g t.us = 0
    · rw [if_neg (by simp [hl])] at ht
      have h1 := formL_iff.1 hl
      have h3 : formL g (subL σ t.us) = 0 := formL_iff.2 fun y hy => by
        rw [subL_map] at hy
        obtain ⟨u, hu, rfl⟩ := List.mem_map.1 hy
        exact ih u hu (h1 u hu) fun x hx hxv => hs x (parts_kid hu hx) hxv
      rw [if_neg (by simp [h3]), subL_map, List.length_map]; exact ht
    · rw [if_pos hl] at ht; exact absurd ht hl
mutual
theorem meet_mem : ∀ (p t : Tm) (b : Bs) (q : Int × Tm), q ∈ (meet p t b).2 → q ∈ b ∨ q.2 ∈ parts t
  | .mk v f us, t, b, q, h => by
    rw [meet] at h
    by_cases hv : v > 0
    · rw [if_pos hv] at h
      cases hb : lookB v b with
      | some u => rw [hb] at h; exact .inl h
      | none =>
        rw [hb] at h
        rcases List.mem_append.1 h with h | h
        · exact .inl h
        · rw [List.mem_singleton.1 h]; exact .inr (parts_self t)
    · rw [if_neg hv] at h
      split at h
      · rcases meetL_mem us t.us b q h with h | h
        · exact .inl h
        · right; rw [parts_eq]; exact List.mem_append_left _ h
      · exact .inl h
theorem meetL_mem : ∀ (xs ys : List Tm) (b : Bs) (q : Int × Tm), q ∈ (meetL xs ys b).2 → q ∈ b ∨ q.2 ∈ partsL ys
  | [], ys, b, q, h => by rw [meetL] at h; exact .inl h; intro x xs y ys h1; cases h1
  | x :: xs, [], b, q, h => by rw [meetL] at h; exact .inl h; intro x xs y ys _ h1; cases h1
  | x :: xs, y :: ys, b, q, h => by
    rw [meetL] at h
    rw [partsL]
    split at h
    · rcases meetL_mem xs ys _ q h with h | h
      · rcases meet_mem x y b q h with h | h
        · exact .inl h
        · exact .inr (List.mem_append_left _ h)
      · exact .inr (List.mem_append_right _ h)
    · rcases meet_mem x y b q h with h | h
      · exact .inl h
      · exact .inr (List.mem_append_left _ h)
end
theorem lookB_mem {v : Int} {u : Tm} : ∀ {b : Bs}, lookB v b = some u → ∃ p ∈ b, p.1 = v ∧ p.2 = u
  | p :: b, h => by
    rw [lookB] at h
    by_cases hv : v = p.1
    · rw [if_pos hv] at h; cases h; exact ⟨p, by simp, hv.symm, rfl⟩
    · rw [if_neg hv] at h
      obtain ⟨q, hq, h1⟩ := lookB_mem h
      exact ⟨q, by simp [hq], h1⟩
theorem formV {g : List Int} {t x : Tm} (h : form g t = 0) (hx : x ∈ parts t) (hv : x.v > 0) : form g (vt x.v) = 0 := by
  rw [← formAll_parts] at h
  have := formAll_mem h x hx
  unfold formOne at this
  rw [if_pos (by omega)] at this
  split at this
  · cases this
  · simp [form, formL, formOne]; omega
theorem step_ok {g : List Int} {rs : List Rl} {t : Tm} (ht : own g t = 0) (hr : ∀ r ∈ rs, own g r.l = 0 ∧ own g r.r = 0 ∧ Gt r.l r.r) (he : (stepG rs t).2.2 = 0) :
    own g (stepG rs t).1 = 0 ∧ ((stepG rs t).2.1 = true → Gt t (stepG rs t).1) ∧ ((stepG rs t).2.1 = false → (stepG rs t).1 = t) := by
  unfold stepG at he ⊢
  cases hf : foundG rs t [] with
  | none => exact ⟨ht, fun h => absurd h Bool.false_ne_true, fun _ => rfl⟩
  | some w =>
    obtain ⟨p, r, b⟩ := w
    rw [hf] at he
    simp only at he ⊢
    by_cases h1 : apS b (pre r.r) > 120
    · rw [if_pos h1] at he; cases he
    · rw [if_neg h1] at he ⊢
      by_cases h2 : count (layG t p (mapM (madeS b) r.r)) 120 > 120
      · rw [if_pos h2] at he; cases he
      · rw [if_neg h2]
        rw [found_nil] at hf
        obtain ⟨x, hx, hrx⟩ := findQ_some hf
        have hat := plP_at t (p, x) hx
        simp only at hat
        obtain ⟨hrm, m1, m2⟩ := ruleG_some hrx
        obtain ⟨o1, o2, og⟩ := hr r hrm
        have hpl := own_pure o1
        have hpr := own_pure o2
        obtain ⟨_, hs⟩ := meet_sound (σ := sbOf b) r.l x [] hpl.nn m1 (by rw [← m2]; exact sbOf_ext b)
        have hmade : mapM (madeS b) r.r = sub (sbOf b) r.r := by rw [made_apply b _ hpr.good, applyR_sub b _ hpr]
        have hgt : Gt x (mapM (madeS b) r.r) := by rw [hmade, ← hs]; exact og.sub _
        have hform : form g (mapM (madeS b) r.r) = 0 := by
          rw [hmade]
          refine form_sub r.r (own_form o2).1 fun y hy hv => ?_
          unfold sbOf
          cases hl : lookB y.v b with
          | none => exact formV (own_form o2).1 hy hv
          | some u =>
            obtain ⟨q, hq, _, rfl⟩ := lookB_mem hl
            rw [m2] at hq
            rcases meet_mem _ _ _ _ hq with h | h
            · cases h
            · exact form_part (own_form ht).1 (at_parts p t x hat _ h)
        refine ⟨?_, fun _ => gt_lay p t _ x (own_good ht) hat hgt, fun h => absurd h.symm Bool.false_ne_true⟩
        unfold own
        rw [if_neg h2]
        exact lay_form g p t _ x hat (own_form ht).1 hform
theorem norm_ok {g : List Int} {rs : List Rl} (hr : ∀ r ∈ rs, own g r.l = 0 ∧ own g r.r = 0 ∧ Gt r.l r.r) : ∀ (k : Nat) (t : Tm) (n : Int), own g t = 0 → (normG rs k t n).2.2 = 0 →
    own g (normG rs k t n).1 = 0 ∧ stepG rs (normG rs k t n).1 = ((normG rs k t n).1, false, 0) ∧ ((stepG rs t).2.1 = true → n < (normG rs k t n).2.1) ∧ ((stepG rs t).2.1 = false → n = (normG rs k t n).2.1) ∧ n ≤ (normG rs k t n).2.1 := by
  intro k
  induction k with
  | zero =>
    intro t n ho he
    rw [normG] at he ⊢
    by_cases h1 : (stepG rs t).2.2 = 0
    · obtain ⟨s1, s2, s3⟩ := step_ok ho hr h1
      rw [if_neg (by simp [h1])] at he ⊢
      cases h2 : (stepG rs t).2.1 with
      | false =>
        rw [if_pos rfl]
        refine ⟨ho, ?_, fun h => absurd h Bool.false_ne_true, fun _ => rfl, Int.le_refl _⟩
        have := s3 h2
        simp only
        rw [← h1, ← h2]
        have e : stepG rs t = ((stepG rs t).1, (stepG rs t).2.1, (stepG rs t).2.2) := rfl
        rw [e, this]
      | true => rw [h2] at he; simp at he
    · rw [if_pos h1] at he; exact absurd he h1
  | succ k ih =>
    intro t n ho he
    rw [normG] at he ⊢
    by_cases h1 : (stepG rs t).2.2 = 0
    · obtain ⟨s1, s2, s3⟩ := step_ok ho hr h1
      rw [if_neg (by simp [h1])] at he ⊢
      cases h2 : (stepG rs t).2.1 with
      | false =>
        rw [if_pos rfl]
        refine ⟨ho, ?_, fun h => absurd h Bool.false_ne_true, fun _ => rfl, Int.le_refl _⟩
        have := s3 h2
        simp only
        rw [← h1, ← h2]
        have e : stepG rs t = ((stepG rs t).1, (stepG rs t).2.1, (stepG rs t).2.2) := rfl
        rw [e, this]
      | true =>
        rw [h2] at he
        simp only [Bool.true_eq_false, if_false] at he ⊢
        obtain ⟨i1, i2, _, _, i5⟩ := ih _ (n + 1) s1 he
        exact ⟨i1, i2, fun _ => by omega, fun h => h.elim, by omega⟩
    · rw [if_pos h1] at he; exact absurd he h1
end Go.Proofs.Ytmeekpinkfpnhaa
namespace Go.Proofs.Ytmeekpinkfpnhaa
open Go.RowKit
def rlDV (r : Rl) : DV := .st [iD r.l.v, iD r.l.f, .sl (r.l.us.map tmDV), iD r.r.v, iD r.r.f, .sl (r.r.us.map tmDV)]
@[go_sem] theorem rlDV_cells (r : Rl) : (rlDV r).cells = [iD r.l.v, iD r.l.f, .sl (r.l.us.map tmDV), iD r.r.v, iD r.r.f, .sl (r.r.us.map tmDV)] := (Eq.trans rfl (Eq.refl _))
@[go_sem] theorem rlDV_fold (r : Rl) : DV.st [iD r.l.v, iD r.l.f, .sl (r.l.us.map tmDV), iD r.r.v, iD r.r.f, .sl (r.r.us.map tmDV)] = rlDV r := (Eq.trans rfl (Eq.refl _))
abbrev rlsDV (rs : List Rl) : DV := .sl (rs.map rlDV)
def mapE (n' : Nm) (es : List (Int × DV)) (v : AV) : Eff := ⟨v, [(n', none)], [(n', some (.map es))]⟩
attribute [go_sem] mapE
theorem ret_mapE {P : Program} {fn : Func} {n' q : Nm} {es : List (Int × DV)} {v val : AV} {h0 : Heap} {k : Nat} {s : St} (h1 : resOkL P fn.ntmps s fn.results.toList) (h2 : resA P s fn.results.toList = v) (hco : Co k (some (n', q)) v val) (hq : k ≤ q.1) (hn' : n'.1 < k) (h0' : h0 n' = none)
    (hp : s.h q = some (.map es)) (hfr : Fr k h0 s.h) : RetOK P fn (mapE n' es val) h0 k s := by
  have e1 : (mapE n' es val).ap h0 n' = some (.map es) := by simp [mapE, Eff.ap, upd]
  refine ⟨h1, some (n', q), ?_, fun x hx hxn => ?_, ?_, ?_⟩
  · rw [h2]; exact hco
  · have hxn := hxn _ rfl
    simp only at hxn
    simp [mapE, Eff.ap, upd, hxn, hfr x hx]
  · rintro y hy
    cases hy
    exact ⟨hn', hq, h0', ⟨_, by simp only [mapE]; exact List.mem_cons_self .., rfl⟩, _, e1, hp, rfl⟩
  · intro x hx ob ho y hy
    simp only [mapE, List.mem_cons, List.not_mem_nil, or_false] at hx
    subst hx
    cases ho; cases hy
def fndE (n' : Nm) : Option (List Int × Rl × Bs) → Eff
  | none => pure' (.tup [.d (.sl []), .d (rlDV ⟨tm0, tm0⟩), .d (.v (.map none)), bA false])
  | some (p, r, b) => mapE n' (bsE b) (.tup [.d (.sl (p.map iD)), .d (rlDV r), .map n', bA true])
theorem co_rl {k : Nat} {ren : Ren} {r : Rl} : Co k ren (.st [iA r.l.v, iA r.l.f, .d (.sl (r.l.us.map tmDV)), iA r.r.v, iA r.r.f, .d (.sl (r.r.us.map tmDV))]) (.d (rlDV r)) := .dat rfl
theorem ruleG_at {rs : List Rl} {t : Tm} {i : Nat} (hi : i < rs.length) : ruleG (rs.drop i) t = if (meet rs[i].l t []).1 = true then some (rs[i], (meet rs[i].l t []).2) else ruleG (rs.drop (i + 1)) t := by
  rw [List.drop_eq_getElem_cons hi, ruleG]
theorem foundL_at {rs : List Rl} {us : List Tm} {i : Nat} (hi : i < us.length) (pl : List Int) : foundL rs (us.drop i) i pl = match foundG rs us[i] (pl ++ [(i : Int)]) with | some q => some q | none => foundL rs (us.drop (i + 1)) (i + 1) pl := by
  rw [List.drop_eq_getElem_cons hi, foundL]
  all_goals (cases foundG rs us[i] (pl ++ [(i : Int)]) <;> rfl)
section
variable (rs : List Rl) (hrl : rs.length ≤ 4000000) (hrs : ∀ r ∈ rs, r.l.size ≤ 4000000)
def FndSpec (t : Tm) : Prop := ∀ pl : List Int, pl.length + t.size ≤ 4000000 → ∀ n', Tri Try.prog 126 [.d (rlsDV rs), .d (tmDV t), .d (.sl (pl.map iD))] (fndE n' (foundG rs t pl))
include hrl hrs
set_option maxHeartbeats 4000000 in
set_option maxRecDepth 20000 in
theorem found_step (t : Tm) (ih : ∀ u ∈ t.us, FndSpec rs u) : FndSpec rs t := by
  intro pl hsz n'
  have hlen := t.len_lt
  obtain ⟨F, hF⟩ : ∃ F, F = foundG rs t pl := ⟨_, rfl⟩
  have hG := foundG_eq rs t pl
  rw [← hF] at hG ⊢
  have hz3 : ([] : List Tm).map tmDV = [] := rfl
  refine tri_enter Try.func126 rfl Try.ntmps126 (by simp only [List.length_cons, List.length_nil]; omega) fun w0 h0 k hrd hwr => ?_
  have hn' : F ≠ none → n'.1 < k ∧ h0 n' = none := fun hne => by
    cases F with
    | none => exact absurd rfl hne
    | some q => exact ⟨hwr (n', some (.map (bsE q.2.2))) (by simp [fndE, mapE]), hrd (n', none) (by simp [fndE, mapE])⟩
  clear hrd hwr
  repeat' (first | refine awp_seq_k fun K hK => ?_ | ((first | refine awp_region_k (by kernel_rfl) fun R hR => ?_ | refine awp_draw mixed (by kernel_rfl) (by kernel_rfl) fun R hR => ?_); simp only [go_sem]) | ((first | (refine hR _ ?_; clear hR R) | refine awp_skip ?_ | refine awp_exit ?_ | refine awp_ret ?_); try simp only [thenA, inBlockA, reduceIte, reduceCtorEq, Nat.reduceEqDiff, if_false, if_true]) | ((first | refine hK _ ?_ | (clear hK K; first | refine hK _ ?_ | (clear hK K; first | refine hK _ ?_ | (clear hK K; first | refine hK _ ?_ | (clear hK K; refine hK _ ?_))))); clear hK K) | refine awp_true rfl rfl ?_ | refine awp_false rfl rfl ?_ | refine awp_block ?_ | refine And.intro (by first | ((repeat' first | omega | exact trivial | rfl | assumption | (intro a e; subst e; rfl) | exact map_sz fun a => (by simp only [go_sem]) | refine And.intro ?_ ?_); done) | fail) ?_ | fail)
  refine awp_loop (fun σ => ∃ i : Nat, σ.t 0 = .d (rlsDV rs) ∧ σ.t 2 = .d (.sl (pl.map iD)) ∧ σ.t 4 = .ptr (k, 0) 0 ∧ σ.t 7 = .ptr (k, 2) 0 ∧ σ.t 20 = .d (.sl (t.us.map tmDV)) ∧ σ.t 21 = iA t.us.length ∧ σ.t 22 = iA i ∧
    σ.h (k, 0) = some (.cells 27 [iA t.v, iA t.f, .d (.sl (t.us.map tmDV))]) ∧ σ.h (k, 2) = some (.cells 125 [iA 0, iA 0, .nil, iA 0, iA 0, .nil]) ∧ Fr k h0 σ.h ∧ k < σ.k ∧ i ≤ t.us.length ∧ foundL rs (t.us.drop i) i pl = foundL rs t.us 0 pl) (fun σ => t.us.length - (intOf' (σ.t 22)).toNat) ?_ ?_
  · refine ⟨0, ?_⟩
    simp only [go_sem, List.drop_zero]
    and_intros; all_goals try (first | rfl | omega | assumption | ((repeat (first | exact Fr.rfl' _ _ | assumption | refine Fr.updk ?_ (by omega) _)); done))
  · rintro σ ⟨i, s0, s2, s4, s7, s20, s21, s22, sh, sh2, hFr, hk, hi, hv⟩
    have hne := ltne hk
    rcases Nat.lt_or_ge i t.us.length with hlt | hge
    · have hz : (i : Int) < (t.us.length : Int) := by omega
      have e1 : (t.us.map tmDV).getD i default = tmDV t.us[i] := nth_map tmDV hlt _
      have hs := Tm.size_at hlt
      have epl : (pl ++ [(i : Int)]).map iD = pl.map iD ++ [iD i] := by simp
      have h2 := ih _ (List.getElem_mem hlt) (pl ++ [(i : Int)]) (by rw [List.length_append, List.length_singleton]; omega) (σ.k + 1 + 1, 8)
      rw [foundL_at hlt] at hv
      refine awp_new fun hnew => ?_
      have hnn := hnew.at
      cases hq : foundG rs t.us[i] (pl ++ [(i : Int)]) with
      | none =>
        rw [hq] at h2 hv
        simp only at hv
        rw [epl, fndE] at h2
        repeat' (first | refine awp_seq_k fun K hK => ?_ | ((first | refine awp_region_k (by kernel_rfl) fun R hR => ?_ | refine awp_draw mixed (by kernel_rfl) (by kernel_rfl) fun R hR => ?_); simp only [go_sem, s0, s2, s4, s7, s20, s21, s22, sh, sh2, hz, e1, epl, hne, hnn, List.length_map, Int.toNat_natCast]) | ((first | (refine hR _ ?_; clear hR R) | refine awp_skip ?_ | refine awp_exit ?_ | refine awp_ret ?_); try simp only [thenA, inBlockA, reduceIte, reduceCtorEq, Nat.reduceEqDiff, if_false, if_true]) | ((first | refine hK _ ?_ | (clear hK K; first | refine hK _ ?_ | (clear hK K; first | refine hK _ ?_ | (clear hK K; first | refine hK _ ?_ | (clear hK K; refine hK _ ?_))))); clear hK K) | refine awp_true rfl rfl ?_ | refine awp_false rfl rfl ?_ | refine awp_block ?_ | ((first | refine CallK.pure (enter126) (h2) ?_ ?_ | refine CallD.pure (enter126) (h2) ?_ ?_); (focus first | ((repeat (first | exact trivial | refine ⟨(by first | exact Or.inl rfl | exact Or.inr rfl), ?_⟩)); done) | (simp only [coL, AV.dat, true_or, or_true, AV.d.injEq, go_sem]; done)); simp only [go_sem, s0, s2, s4, s7, s20, s21, s22, sh, sh2, hz, e1, epl, hne, hnn, List.length_map, Int.toNat_natCast]) | refine And.intro (by first | ((repeat' first | omega | exact trivial | rfl | assumption | (intro a e; subst e; rfl) | exact map_sz fun a => (by simp only [go_sem]) | refine And.intro ?_ ?_); done) | fail) ?_ | fail)
        refine ⟨⟨i + 1, ?_⟩, ?_⟩
        rotate_left
        · simp only [go_sem, s0, s2, s4, s7, s20, s21, s22, sh, sh2, hne]; omega
        simp only [go_sem, s0, s2, s4, s7, s20, s21, s22, sh, sh2, hne]
        and_intros; all_goals try (first | rfl | omega | assumption | ((repeat (first | exact Fr.rfl' _ _ | assumption | refine Fr.updk ?_ (by omega) _)); done))
      | some q =>
        obtain ⟨p, r, b⟩ := q
        rw [hq] at h2 hv
        simp only at hv
        rw [epl, fndE] at h2
        rw [← hv] at hG
        simp only at hG
        subst hG
        obtain ⟨n1, n2⟩ := hn' (by simp)
        repeat' (first | refine awp_seq_k fun K hK => ?_ | ((first | refine awp_region_k (by kernel_rfl) fun R hR => ?_ | refine awp_draw mixed (by kernel_rfl) (by kernel_rfl) fun R hR => ?_); simp only [go_sem, s0, s2, s4, s7, s20, s21, s22, sh, sh2, hz, e1, epl, hne, hnn, List.length_map, Int.toNat_natCast]) | ((first | (refine hR _ ?_; clear hR R) | refine awp_skip ?_ | refine awp_exit ?_ | refine awp_ret ?_); try simp only [thenA, inBlockA, reduceIte, reduceCtorEq, Nat.reduceEqDiff, if_false, if_true]) | ((first | refine hK _ ?_ | (clear hK K; first | refine hK _ ?_ | (clear hK K; first | refine hK _ ?_ | (clear hK K; first | refine hK _ ?_ | (clear hK K; refine hK _ ?_))))); clear hK K) | refine awp_true rfl rfl ?_ | refine awp_false rfl rfl ?_ | refine awp_block ?_ | ((first | refine CallK.eff (enter126) (h2) ?_ ?_ ?_ ?_ | refine CallD.eff (enter126) (h2) ?_ ?_ ?_ ?_); (focus first | ((repeat (first | exact trivial | refine ⟨(by first | exact Or.inl rfl | exact Or.inr rfl), ?_⟩)); done) | (simp only [coL, AV.dat, true_or, or_true, AV.d.injEq, go_sem]; done)); (focus (simp only [go_sem, s0, s2, s4, s7, s20, s21, s22, sh, sh2, hz, e1, epl, hne, hnn, List.length_map, Int.toNat_natCast]; done)); (focus (simp only [go_sem, s0, s2, s4, s7, s20, s21, s22, sh, sh2, hz, e1, epl, hne, hnn, List.length_map, Int.toNat_natCast]; done)); simp only [go_sem, s0, s2, s4, s7, s20, s21, s22, sh, sh2, hz, e1, epl, hne, hnn, List.length_map, Int.toNat_natCast]) | refine And.intro (by first | ((repeat' first | omega | exact trivial | rfl | assumption | (intro a e; subst e; rfl) | exact map_sz fun a => (by simp only [go_sem]) | refine And.intro ?_ ?_); done) | fail) ?_ | fail)
        refine ret_mapE (q := (σ.k + 1 + 1, 8)) (by simp only [Try.results126, resOkL, resOk, Try.ntmps126, List.toList_toArray]; first | decide | (simp only [go_sem, s7]; done) | (simp only [go_sem, s7]; and_intros <;> first | omega | rfl | decide)) (by simp only [resA, resV, Try.results126, go_sem, s7]; rfl) (Co.t4 (.dat rfl) (.dat rfl) (.map rfl) (.dat rfl)) (by simp only; omega) n1 n2 ?_ ?_
        · simp only [go_sem, hne]
        · exact (by repeat (first | exact Fr.rfl' _ _ | assumption | refine Fr.updk ?_ (by omega) _ | refine Fr.stH ?_ _ (by intro n hn; simp only [List.mem_cons, List.not_mem_nil, or_false] at hn; subst hn; simp only; omega)))
    · have hz : ¬ ((i : Int) < (t.us.length : Int)) := by omega
      rw [List.drop_eq_nil_of_le hge, foundL] at hv
      rw [← hv] at hG
      simp only at hG
      repeat' (first | refine awp_seq_k fun K hK => ?_ | ((first | refine awp_region_k (by kernel_rfl) fun R hR => ?_ | refine awp_draw mixed (by kernel_rfl) (by kernel_rfl) fun R hR => ?_); simp only [go_sem, s0, s2, s4, s7, s20, s21, s22, sh, sh2, hz, hne, List.length_map]) | ((first | (refine hR _ ?_; clear hR R) | refine awp_skip ?_ | refine awp_exit ?_ | refine awp_ret ?_); try simp only [thenA, inBlockA, reduceIte, reduceCtorEq, Nat.reduceEqDiff, if_false, if_true]) | ((first | refine hK _ ?_ | (clear hK K; first | refine hK _ ?_ | (clear hK K; first | refine hK _ ?_ | (clear hK K; first | refine hK _ ?_ | (clear hK K; refine hK _ ?_))))); clear hK K) | refine awp_true rfl rfl ?_ | refine awp_false rfl rfl ?_ | refine awp_block ?_ | refine And.intro (by first | ((repeat' first | omega | exact trivial | rfl | assumption | (intro a e; subst e; rfl) | exact map_sz fun a => (by simp only [go_sem]) | refine And.intro ?_ ?_); done) | fail) ?_ | fail)
      refine awp_loop (fun τ => ∃ j : Nat, τ.t 2 = .d (.sl (pl.map iD)) ∧ τ.t 4 = .ptr (k, 0) 0 ∧ τ.t 7 = .ptr (k, 2) 0 ∧ τ.t 46 = .d (rlsDV rs) ∧ τ.t 47 = iA rs.length ∧ τ.t 48 = iA j ∧
        τ.h (k, 0) = some (.cells 27 [iA t.v, iA t.f, .d (.sl (t.us.map tmDV))]) ∧ τ.h (k, 2) = some (.cells 125 [iA 0, iA 0, .nil, iA 0, iA 0, .nil]) ∧ Fr k h0 τ.h ∧ k < τ.k ∧ j ≤ rs.length ∧ (ruleG (rs.drop j) t).map (fun q => (pl, q.1, q.2)) = F) (fun τ => rs.length - (intOf' (τ.t 48)).toNat) ?_ ?_
      · refine ⟨0, ?_⟩
        simp only [go_sem, s2, s4, s7, sh, sh2, hne, List.drop_zero]
        and_intros; all_goals try (first | rfl | omega | assumption | ((repeat (first | exact Fr.rfl' _ _ | assumption | refine Fr.updk ?_ (by omega) _)); done))
        exact hG.symm
      · clear s0 s2 s4 s7 s20 s21 s22 sh sh2 hne hFr hk hv hz
        rintro τ ⟨j, u2, u4, u7, u46, u47, u48, uh, uh2, uF, uk, uj, uv⟩
        have hne := ltne uk
        rcases Nat.lt_or_ge j rs.length with jlt | jge
        · have jz : (j : Int) < (rs.length : Int) := by omega
          have e2 : (rs.map rlDV).getD j default = rlDV rs[j] := nth_map rlDV jlt _
          rw [ruleG_at jlt] at uv
          have m1 := meet_tri rs[j].l (hrs _ (List.getElem_mem jlt)) t (τ.k + 1 + 1, 0) []
          refine awp_new fun hnew => ?_
          have hnn := hnew.at
          cases hq : (meet rs[j].l t []).1 with
          | false =>
            rw [hq] at m1
            rw [if_neg (by simp [hq])] at uv
            repeat' (first | refine awp_seq_k fun K hK => ?_ | ((first | refine awp_region_k (by kernel_rfl) fun R hR => ?_ | refine awp_draw mixed (by kernel_rfl) (by kernel_rfl) fun R hR => ?_); simp only [go_sem, u2, u4, u7, u46, u47, u48, uh, uh2, jz, e2, hne, hnn, Int.toNat_natCast]) | ((first | (refine hR _ ?_; clear hR R) | refine awp_skip ?_ | refine awp_exit ?_ | refine awp_ret ?_); try simp only [thenA, inBlockA, reduceIte, reduceCtorEq, Nat.reduceEqDiff, if_false, if_true]) | ((first | refine hK _ ?_ | (clear hK K; first | refine hK _ ?_ | (clear hK K; first | refine hK _ ?_ | (clear hK K; first | refine hK _ ?_ | (clear hK K; refine hK _ ?_))))); clear hK K) | refine awp_true rfl rfl ?_ | refine awp_false rfl rfl ?_ | refine awp_block ?_ | ((first | refine CallK.chg (enter141) (m1) ?_ (agM _ (by simp only [go_sem, bsE, List.map_nil])) (Fr.rfl' _ _) ?_ | refine CallD.chg (enter141) (m1) ?_ (agM _ (by simp only [go_sem, bsE, List.map_nil])) (Fr.rfl' _ _) (by first | assumption | exact List.cons_ne_nil _ _) ?_); (focus first | ((repeat (first | exact trivial | refine ⟨(by first | exact Or.inl rfl | exact Or.inr rfl), ?_⟩)); done) | (simp only [coL, AV.dat, true_or, or_true, AV.d.injEq, go_sem]; done)); simp only [go_sem, u2, u4, u7, u46, u47, u48, uh, uh2, jz, e2, hne, hnn, Int.toNat_natCast]) | refine And.intro (by first | ((repeat' first | omega | exact trivial | rfl | assumption | (intro a e; subst e; rfl) | exact map_sz fun a => (by simp only [go_sem]) | refine And.intro ?_ ?_); done) | fail) ?_ | fail)
            refine ⟨⟨j + 1, ?_⟩, ?_⟩
            rotate_left
            · simp only [go_sem, u2, u4, u7, u46, u47, u48, uh, uh2, hne]; omega
            simp only [go_sem, u2, u4, u7, u46, u47, u48, uh, uh2, hne]
            and_intros; all_goals try (first | rfl | omega | assumption | ((repeat (first | exact Fr.rfl' _ _ | assumption | refine Fr.updk ?_ (by omega) _)); done))
            exact (by repeat (first | exact Fr.rfl' _ _ | assumption | refine Fr.updk ?_ (by omega) _ | refine Fr.stH ?_ _ (by intro n hn; simp only [List.mem_cons, List.not_mem_nil, or_false] at hn; subst hn; simp only; omega)))
          | true =>
            rw [hq] at m1
            rw [if_pos hq] at uv
            simp only [Option.map_some] at uv
            subst uv
            obtain ⟨n1, n2⟩ := hn' (by simp)
            rw [fndE]
            repeat' (first | refine awp_seq_k fun K hK => ?_ | ((first | refine awp_region_k (by kernel_rfl) fun R hR => ?_ | refine awp_draw mixed (by kernel_rfl) (by kernel_rfl) fun R hR => ?_); simp only [go_sem, u2, u4, u7, u46, u47, u48, uh, uh2, jz, e2, hne, hnn, Int.toNat_natCast]) | ((first | (refine hR _ ?_; clear hR R) | refine awp_skip ?_ | refine awp_exit ?_ | refine awp_ret ?_); try simp only [thenA, inBlockA, reduceIte, reduceCtorEq, Nat.reduceEqDiff, if_false, if_true]) | ((first | refine hK _ ?_ | (clear hK K; first | refine hK _ ?_ | (clear hK K; first | refine hK _ ?_ | (clear hK K; first | refine hK _ ?_ | (clear hK K; refine hK _ ?_))))); clear hK K) | refine awp_true rfl rfl ?_ | refine awp_false rfl rfl ?_ | refine awp_block ?_ | ((first | refine CallK.chg (enter141) (m1) ?_ (agM _ (by simp only [go_sem, bsE, List.map_nil])) (Fr.rfl' _ _) ?_ | refine CallD.chg (enter141) (m1) ?_ (agM _ (by simp only [go_sem, bsE, List.map_nil])) (Fr.rfl' _ _) (by first | assumption | exact List.cons_ne_nil _ _) ?_); (focus first | ((repeat (first | exact trivial | refine ⟨(by first | exact Or.inl rfl | exact Or.inr rfl), ?_⟩)); done) | (simp only [coL, AV.dat, true_or, or_true, AV.d.injEq, go_sem]; done)); simp only [go_sem, u2, u4, u7, u46, u47, u48, uh, uh2, jz, e2, hne, hnn, Int.toNat_natCast]) | refine And.intro (by first | ((repeat' first | omega | exact trivial | rfl | assumption | (intro a e; subst e; rfl) | exact map_sz fun a => (by simp only [go_sem]) | refine And.intro ?_ ?_); done) | fail) ?_ | fail)
            refine ret_mapE (q := (τ.k + 1 + 1, 0)) (by simp only [Try.results126, resOkL, resOk, Try.ntmps126, List.toList_toArray]; first | decide | (simp only [go_sem, u7]; done) | (simp only [go_sem, u7]; and_intros <;> first | omega | rfl | decide)) (by simp only [resA, resV, Try.results126, go_sem, u7]; rfl) (Co.t4 (.dat rfl) (.dat rfl) (.map rfl) (.dat rfl)) (by simp only; omega) n1 n2 ?_ ?_
            · simp only [go_sem, hne, mtO]
            · exact (by repeat (first | exact Fr.rfl' _ _ | assumption | refine Fr.updk ?_ (by omega) _ | refine Fr.stH ?_ _ (by intro n hn; simp only [List.mem_cons, List.not_mem_nil, or_false] at hn; subst hn; simp only; omega)))
        · have jz : ¬ ((j : Int) < (rs.length : Int)) := by omega
          rw [List.drop_eq_nil_of_le jge, ruleG] at uv
          simp only [Option.map_none] at uv
          subst uv
          repeat' (first | refine awp_seq_k fun K hK => ?_ | ((first | refine awp_region_k (by kernel_rfl) fun R hR => ?_ | refine awp_draw mixed (by kernel_rfl) (by kernel_rfl) fun R hR => ?_); simp only [go_sem, u2, u4, u7, u46, u47, u48, uh, uh2, jz, hne]) | ((first | (refine hR _ ?_; clear hR R) | refine awp_skip ?_ | refine awp_exit ?_ | refine awp_ret ?_); try simp only [thenA, inBlockA, reduceIte, reduceCtorEq, Nat.reduceEqDiff, if_false, if_true]) | ((first | refine hK _ ?_ | (clear hK K; first | refine hK _ ?_ | (clear hK K; first | refine hK _ ?_ | (clear hK K; first | refine hK _ ?_ | (clear hK K; refine hK _ ?_))))); clear hK K) | refine awp_true rfl rfl ?_ | refine awp_false rfl rfl ?_ | refine awp_block ?_ | refine And.intro (by first | ((repeat' first | omega | exact trivial | rfl | assumption | (intro a e; subst e; rfl) | exact map_sz fun a => (by simp only [go_sem]) | refine And.intro ?_ ?_); done) | fail) ?_ | fail)
          rw [fndE]
          (first | refine ret_pure ?_ ?_ ?_ | refine ret_ro ?_ ?_ ?_); focus exact (by simp only [Try.results126, resOkL, resOk, Try.ntmps126, List.toList_toArray]; first | decide | (simp only [go_sem, u7, hne]; done) | (simp only [go_sem, u7, hne]; and_intros <;> first | omega | rfl | decide))
          rotate_left; focus exact (by repeat (first | exact Fr.rfl' _ _ | assumption | refine Fr.updk ?_ (by omega) _ | refine Fr.stH ?_ _ (by intro n hn; simp only [List.mem_cons, List.not_mem_nil, or_false] at hn; subst hn; simp only; omega)))
          simp only [resA, resV, Try.results126, go_sem, u7, hne]
          all_goals try (first | exact Co.t2 (.dat rfl) (.dat rfl) | exact Co.t3 (.dat rfl) (.dat rfl) (.dat rfl))
          all_goals exact Co.t4 (.dat rfl) (.dat rfl) (.dat rfl) (.dat rfl)
theorem found_tri : ∀ t : Tm, FndSpec rs t := Tm.ind (found_step rs hrl hrs)
end
end Go.Proofs.Ytmeekpinkfpnhaa
namespace Go.Proofs.Ytmeekpinkfpnhaa
open Go.RowKit
theorem nf {α : Type} {a b : α} (h : a ≠ b) : ((a = b) = False) ∧ ((b = a) = False) := ⟨eq_false h, eq_false h.symm⟩
/-! ### the walk that counts -/
def szS (bs : Bs) (most : Int) (x : Tm) (n : Int) : Bool × Int := (decide (n + apOne bs x ≤ most), n + apOne bs x)
mutual
theorem walk_sz (bs : Bs) (most : Int) : ∀ (t : Tm) (n : Int), ((walkS (szS bs most) t n).1 = true → (walkS (szS bs most) t n).2 = n + apS bs (pre t) ∧ n + apS bs (pre t) ≤ most) ∧ ((walkS (szS bs most) t n).1 = false → most < (walkS (szS bs most) t n).2 ∧ (walkS (szS bs most) t n).2 ≤ n + apS bs (pre t))
  | .mk v f us, n => by
    rw [walkS, pre, apS]
    have hp := apS_len bs (preL us)
    have e2 : (szS bs most (.mk v f us) n).2 = n + apOne bs (.mk v f us) := rfl
    by_cases h : n + apOne bs (.mk v f us) ≤ most
    · rw [if_pos (show (szS bs most (.mk v f us) n).1 = true by simpa [szS] using h), e2]
      have h1 := walkL_sz bs most us (n + apOne bs (.mk v f us)) h
      rw [← Int.add_assoc]
      exact h1
    · rw [if_neg (show ¬ (szS bs most (.mk v f us) n).1 = true by simpa [szS] using h), e2]
      refine ⟨fun h => absurd h Bool.false_ne_true, fun _ => ?_⟩
      omega
theorem walkL_sz (bs : Bs) (most : Int) : ∀ (us : List Tm) (n : Int), n ≤ most → ((walkL (szS bs most) us n).1 = true → (walkL (szS bs most) us n).2 = n + apS bs (preL us) ∧ n + apS bs (preL us) ≤ most) ∧ ((walkL (szS bs most) us n).1 = false → most < (walkL (szS bs most) us n).2 ∧ (walkL (szS bs most) us n).2 ≤ n + apS bs (preL us))
  | [], n, h => by
    rw [walkL, preL, apS]
    refine ⟨fun _ => ?_, fun h => absurd h.symm Bool.false_ne_true⟩
    omega
  | x :: xs, n, h => by
    rw [walkL, preL, apS_append]
    have hp := apS_len bs (preL xs)
    obtain ⟨h1, h2⟩ := walk_sz bs most x n
    by_cases hc : (walkS (szS bs most) x n).1 = true
    · rw [if_pos hc]
      obtain ⟨h3, h4⟩ := h1 hc
      have h5 := walkL_sz bs most xs (walkS (szS bs most) x n).2 (by omega)
      rw [h3] at h5 ⊢
      rw [← Int.add_assoc]
      exact h5
    · rw [if_neg hc]
      obtain ⟨h3, h4⟩ := h2 (by simpa using hc)
      refine ⟨fun h => absurd h Bool.false_ne_true, fun _ => ?_⟩
      omega
end
theorem walk_cap (bs : Bs) (t : Tm) : (walkS (szS bs 120) t 0).2 > 120 ↔ apS bs (pre t) > 120 := by
  obtain ⟨h1, h2⟩ := walk_sz bs 120 t 0
  cases hc : (walkS (szS bs 120) t 0).1 with
  | true => have := h1 hc; omega
  | false => have := h2 hc; omega
def szO (bb mm bn : Nm) (bs : Bs) (most n : Int) (x : Nm) : Ob := if x = bb then .cells 142 [.map mm] else if x = mm then .map (bsE bs) else if x = bn then .cells 3 [iA n] else .cells 3 [iA most]
section
variable {bb mm bn bm : Nm} (d1 : bb ≠ mm) (d2 : bb ≠ bn) (d3 : bb ≠ bm) (d4 : mm ≠ bn) (d5 : mm ≠ bm) (d6 : bn ≠ bm) (bs : Bs) (most n : Int)
theorem szO_bb : szO bb mm bn bs most n bb = .cells 142 [.map mm] := by simp [szO]
include d1 in
theorem szO_mm : szO bb mm bn bs most n mm = .map (bsE bs) := by simp [szO, d1.symm]
include d2 d4 in
theorem szO_bn : szO bb mm bn bs most n bn = .cells 3 [iA n] := by simp [szO, d2.symm, d4.symm]
include d3 d5 d6 in
theorem szO_bm : szO bb mm bn bs most n bm = .cells 3 [iA most] := by simp [szO, d3.symm, d5.symm, d6.symm]
theorem szO_cl (k : Nat) (h : ∀ n ∈ [bb, mm, bn, bm], n.1 < k) : Cl k [bb, mm, bn, bm] (szO bb mm bn bs most n) := by
  intro x _ y hy
  unfold szO at hy
  split at hy
  · simp [Ob.names, namesL, AV.names] at hy; rw [hy]; exact h mm (by simp)
  · split at hy
    · simp [Ob.names] at hy
    · split at hy <;> simp [Ob.names, namesL, AV.names] at hy
include d1 d2 d3 d4 d5 d6
set_option maxHeartbeats 1000000 in
set_option maxRecDepth 20000 in
theorem size1_tri (hn : 0 ≤ n) (hn2 : n ≤ 1000000000) (pl : List Int) (x : Tm) : Tri Try.prog 159 [.d (.sl (pl.map iD)), .d (tmDV x), .ptr bb 0, .ptr bn 0, .ptr bm 0]
    (stE [bb, mm, bn, bm] (szO bb mm bn bs most n) (szO bb mm bn bs most (n + apOne bs x)) (bA (decide (n + apOne bs x ≤ most)))) := by
  refine tri_enter_st Try.func159 rfl Try.ntmps159 (by simp only [List.length_cons, List.length_nil]; omega) fun w0 h0 k hag => ?_
  obtain ⟨hb, eb⟩ := hag.get bb (by simp)
  obtain ⟨hm, em⟩ := hag.get mm (by simp)
  obtain ⟨hbn, en⟩ := hag.get bn (by simp)
  obtain ⟨hbm, eo⟩ := hag.get bm (by simp)
  rw [szO_bb] at eb
  rw [szO_mm d1] at em
  rw [szO_bn d2 d4] at en
  rw [szO_bm d3 d5 d6] at eo
  have qb := nmne hb
  have qm := nmne hm
  have qn := nmne hbn
  have qo := nmne hbm
  have fin : ∀ h : Heap, h bb = h0 bb → h mm = h0 mm → h bm = h0 bm → h bn = some (.cells 3 [iA (n + apOne bs x)]) → Ag k [bb, mm, bn, bm] (szO bb mm bn bs most (n + apOne bs x)) h := by
    intro h e1 e2 e3 e4
    refine ⟨fun y hy => ⟨(hag.get y hy).1, ?_⟩⟩
    simp only [List.mem_cons, List.not_mem_nil, or_false] at hy
    rcases hy with rfl | rfl | rfl | rfl
    · rw [szO_bb, e1, eb]
    · rw [szO_mm d1, e2, em]
    · rw [szO_bn d2 d4, e4]
    · rw [szO_bm d3 d5 d6, e3, eo]
  cases hl : lookB x.v bs with
  | none =>
    have hg : getM x.v (bsE bs) = none := by rw [getM_bs, hl]; rfl
    have ha : apOne bs x = 1 := by unfold apOne; rw [hl]; simp
    rw [ha] at fin ⊢
    cases hv : decide (x.v > 0) with
    | true =>
      repeat' (first | refine awp_seq_k fun K hK => ?_ | ((first | refine awp_region_k (by kernel_rfl) fun R hR => ?_ | refine awp_draw mixed (by kernel_rfl) (by kernel_rfl) fun R hR => ?_); simp only [go_sem, eb, em, en, eo, qb, qm, qn, qo, nf d1, nf d2, nf d3, nf d4, nf d5, nf d6, hg, hv, Option.isSome_none, AV.toD, Option.getD_none]) | ((first | (refine hR _ ?_; clear hR R) | refine awp_skip ?_ | refine awp_exit ?_ | refine awp_ret ?_); try simp only [thenA, inBlockA, reduceIte, reduceCtorEq, Nat.reduceEqDiff, if_false, if_true]) | ((first | refine hK _ ?_ | (clear hK K; first | refine hK _ ?_ | (clear hK K; first | refine hK _ ?_ | (clear hK K; first | refine hK _ ?_ | (clear hK K; refine hK _ ?_))))); clear hK K) | refine awp_true rfl rfl ?_ | refine awp_false rfl rfl ?_ | refine awp_block ?_ | refine And.intro (by first | ((repeat' first | omega | exact trivial | rfl | assumption | (intro a e; subst e; rfl) | exact map_sz fun a => (by simp only [go_sem]) | refine And.intro ?_ ?_); done) | fail) ?_ | fail)
      refine ret_st (by simp only [Try.results159, resOkL, resOk, Try.ntmps159, List.toList_toArray]; first | decide | (simp only [go_sem]; done) | (simp only [go_sem]; and_intros <;> first | omega | rfl | decide)) (by simp only [resA, resV, Try.results159, go_sem]; first | exact .dat rfl | exact Co.t2 (.dat rfl) (.dat rfl) | exact Co.t3 (.dat rfl) (.dat rfl) (.dat rfl)) ?_ ?_ ?_
      · refine fin _ ?_ ?_ ?_ ?_ <;> simp only [go_sem, qb, qm, qn, qo, nf d1, nf d2, nf d3, nf d4, nf d5, nf d6]
      · refine FrN.updn (by repeat (first | exact FrN.rfl' _ _ _ | assumption | refine FrN.updk ?_ (by omega) _ | refine FrN.stH ?_ _)) (by simp) _
      · exact szO_cl _ _ _ k fun n hn => (hag.get n hn).1
    | false =>
      repeat' (first | refine awp_seq_k fun K hK => ?_ | ((first | refine awp_region_k (by kernel_rfl) fun R hR => ?_ | refine awp_draw mixed (by kernel_rfl) (by kernel_rfl) fun R hR => ?_); simp only [go_sem, eb, em, en, eo, qb, qm, qn, qo, nf d1, nf d2, nf d3, nf d4, nf d5, nf d6, hg, hv, Option.isSome_none, AV.toD, Option.getD_none]) | ((first | (refine hR _ ?_; clear hR R) | refine awp_skip ?_ | refine awp_exit ?_ | refine awp_ret ?_); try simp only [thenA, inBlockA, reduceIte, reduceCtorEq, Nat.reduceEqDiff, if_false, if_true]) | ((first | refine hK _ ?_ | (clear hK K; first | refine hK _ ?_ | (clear hK K; first | refine hK _ ?_ | (clear hK K; first | refine hK _ ?_ | (clear hK K; refine hK _ ?_))))); clear hK K) | refine awp_true rfl rfl ?_ | refine awp_false rfl rfl ?_ | refine awp_block ?_ | refine And.intro (by first | ((repeat' first | omega | exact trivial | rfl | assumption | (intro a e; subst e; rfl) | exact map_sz fun a => (by simp only [go_sem]) | refine And.intro ?_ ?_); done) | fail) ?_ | fail)
      refine ret_st (by simp only [Try.results159, resOkL, resOk, Try.ntmps159, List.toList_toArray]; first | decide | (simp only [go_sem]; done) | (simp only [go_sem]; and_intros <;> first | omega | rfl | decide)) (by simp only [resA, resV, Try.results159, go_sem]; first | exact .dat rfl | exact Co.t2 (.dat rfl) (.dat rfl) | exact Co.t3 (.dat rfl) (.dat rfl) (.dat rfl)) ?_ ?_ ?_
      · refine fin _ ?_ ?_ ?_ ?_ <;> simp only [go_sem, qb, qm, qn, qo, nf d1, nf d2, nf d3, nf d4, nf d5, nf d6]
      · refine FrN.updn (by repeat (first | exact FrN.rfl' _ _ _ | assumption | refine FrN.updk ?_ (by omega) _ | refine FrN.stH ?_ _)) (by simp) _
      · exact szO_cl _ _ _ k fun n hn => (hag.get n hn).1
  | some u =>
    have hg : getM x.v (bsE bs) = some (tmDV u) := by rw [getM_bs, hl]; rfl
    cases hv : decide (x.v > 0) with
    | true =>
      have ha : apOne bs x = count u 120 := by unfold apOne; rw [hl, if_pos (by simpa using hv)]
      have := count_le u 120 (by omega)
      rw [ha] at fin ⊢
      repeat' (first | refine awp_seq_k fun K hK => ?_ | ((first | refine awp_region_k (by kernel_rfl) fun R hR => ?_ | refine awp_draw mixed (by kernel_rfl) (by kernel_rfl) fun R hR => ?_); simp only [go_sem, eb, em, en, eo, qb, qm, qn, qo, nf d1, nf d2, nf d3, nf d4, nf d5, nf d6, hg, hv, Option.isSome_some]) | ((first | (refine hR _ ?_; clear hR R) | refine awp_skip ?_ | refine awp_exit ?_ | refine awp_ret ?_); try simp only [thenA, inBlockA, reduceIte, reduceCtorEq, Nat.reduceEqDiff, if_false, if_true]) | ((first | refine hK _ ?_ | (clear hK K; first | refine hK _ ?_ | (clear hK K; first | refine hK _ ?_ | (clear hK K; first | refine hK _ ?_ | (clear hK K; refine hK _ ?_))))); clear hK K) | refine awp_true rfl rfl ?_ | refine awp_false rfl rfl ?_ | refine awp_block ?_ | ((first | refine CallK.pure (enter102) (count_tri u 120 (by omega) (by omega)) ?_ ?_ | refine CallD.pure (enter102) (count_tri u 120 (by omega) (by omega)) ?_ ?_); (focus first | ((repeat (first | exact trivial | refine ⟨(by first | exact Or.inl rfl | exact Or.inr rfl), ?_⟩)); done) | (simp only [coL, AV.dat, true_or, or_true, AV.d.injEq, go_sem]; done)); simp only [go_sem, eb, em, en, eo, qb, qm, qn, qo, nf d1, nf d2, nf d3, nf d4, nf d5, nf d6, hg, hv, Option.isSome_some]) | refine And.intro (by first | ((repeat' first | omega | exact trivial | rfl | assumption | (intro a e; subst e; rfl) | exact map_sz fun a => (by simp only [go_sem]) | refine And.intro ?_ ?_); done) | fail) ?_ | fail)
      refine ret_st (by simp only [Try.results159, resOkL, resOk, Try.ntmps159, List.toList_toArray]; first | decide | (simp only [go_sem]; done) | (simp only [go_sem]; and_intros <;> first | omega | rfl | decide)) (by simp only [resA, resV, Try.results159, go_sem]; first | exact .dat rfl | exact Co.t2 (.dat rfl) (.dat rfl) | exact Co.t3 (.dat rfl) (.dat rfl) (.dat rfl)) ?_ ?_ ?_
      · refine fin _ ?_ ?_ ?_ ?_ <;> simp only [go_sem, qb, qm, qn, qo, nf d1, nf d2, nf d3, nf d4, nf d5, nf d6]
      · refine FrN.updn (by repeat (first | exact FrN.rfl' _ _ _ | assumption | refine FrN.updk ?_ (by omega) _ | refine FrN.stH ?_ _)) (by simp) _
      · exact szO_cl _ _ _ k fun n hn => (hag.get n hn).1
    | false =>
      have ha : apOne bs x = 1 := by unfold apOne; rw [if_neg (by simpa using hv)]
      rw [ha] at fin ⊢
      repeat' (first | refine awp_seq_k fun K hK => ?_ | ((first | refine awp_region_k (by kernel_rfl) fun R hR => ?_ | refine awp_draw mixed (by kernel_rfl) (by kernel_rfl) fun R hR => ?_); simp only [go_sem, eb, em, en, eo, qb, qm, qn, qo, nf d1, nf d2, nf d3, nf d4, nf d5, nf d6, hg, hv, Option.isSome_some]) | ((first | (refine hR _ ?_; clear hR R) | refine awp_skip ?_ | refine awp_exit ?_ | refine awp_ret ?_); try simp only [thenA, inBlockA, reduceIte, reduceCtorEq, Nat.reduceEqDiff, if_false, if_true]) | ((first | refine hK _ ?_ | (clear hK K; first | refine hK _ ?_ | (clear hK K; first | refine hK _ ?_ | (clear hK K; first | refine hK _ ?_ | (clear hK K; refine hK _ ?_))))); clear hK K) | refine awp_true rfl rfl ?_ | refine awp_false rfl rfl ?_ | refine awp_block ?_ | refine And.intro (by first | ((repeat' first | omega | exact trivial | rfl | assumption | (intro a e; subst e; rfl) | exact map_sz fun a => (by simp only [go_sem]) | refine And.intro ?_ ?_); done) | fail) ?_ | fail)
      refine ret_st (by simp only [Try.results159, resOkL, resOk, Try.ntmps159, List.toList_toArray]; first | decide | (simp only [go_sem]; done) | (simp only [go_sem]; and_intros <;> first | omega | rfl | decide)) (by simp only [resA, resV, Try.results159, go_sem]; first | exact .dat rfl | exact Co.t2 (.dat rfl) (.dat rfl) | exact Co.t3 (.dat rfl) (.dat rfl) (.dat rfl)) ?_ ?_ ?_
      · refine fin _ ?_ ?_ ?_ ?_ <;> simp only [go_sem, qb, qm, qn, qo, nf d1, nf d2, nf d3, nf d4, nf d5, nf d6]
      · refine FrN.updn (by repeat (first | exact FrN.rfl' _ _ _ | assumption | refine FrN.updk ?_ (by omega) _ | refine FrN.stH ?_ _)) (by simp) _
      · exact szO_cl _ _ _ k fun n hn => (hag.get n hn).1
end
set_option maxHeartbeats 1000000 in
set_option maxRecDepth 20000 in
theorem size_tri (mm : Nm) (bs : Bs) (t : Tm) (ht : t.size ≤ 4000000) (most : Int) : Tri Try.prog 142 [.map mm, .d (tmDV t), iA most] (rdE [(mm, .map (bsE bs))] (iA (walkS (szS bs most) t 0).2)) := by
  refine tri_enter_ro Try.func142 rfl Try.ntmps142 (by simp only [List.length_cons, List.length_nil]; omega) fun w0 h0 k hro => ?_
  obtain ⟨n2, em⟩ := hro.get _ (List.mem_cons_self ..)
  have q2 := nmne n2
  dsimp only at n2 em
  have d1 : ((k, 0) : Nm) ≠ mm := fun e => by rw [← e] at n2; simp at n2
  have d2 : ((k, 0) : Nm) ≠ (k + 1, 0) := by simp
  have d3 : ((k, 0) : Nm) ≠ (k, 2) := by simp
  have d4 : mm ≠ (k + 1, 0) := fun e => by rw [e] at n2; simp only at n2; omega
  have d5 : mm ≠ (k, 2) := fun e => by rw [e] at n2; simp at n2
  have d6 : ((k + 1, 0) : Nm) ≠ (k, 2) := by simp
  have hw := walk_tri (szO (k, 0) mm (k + 1, 0) bs most) [(k, 0), mm, (k + 1, 0), (k, 2)] 159 [.ptr (k, 0) 0, .ptr (k + 1, 0) 0, .ptr (k, 2) 0] (szS bs most) (fun n s => 0 ≤ s ∧ s + 121 * n ≤ 1000000000) (fun s k' h => szO_cl bs most s k' h) (enter159) (by simp) t
    (fun x _ n s hs => ⟨by have := apOne_pos bs x; simp only [szS]; omega, fun pl => size1_tri d1 d2 d3 d4 d5 d6 bs most s hs.1 (by omega) pl x⟩) 0 0 (by omega) ht
  generalize walkS (szS bs most) t 0 = r at hw ⊢
  have hA : ∀ h : Heap, h (k, 0) = some (.cells 142 [.map mm]) → h mm = some (.map (bsE bs)) → h (k + 1, 0) = some (.cells 3 [iA 0]) → h (k, 2) = some (.cells 3 [iA most]) → Ag (k + 1 + 1) [(k, 0), mm, (k + 1, 0), (k, 2)] (szO (k, 0) mm (k + 1, 0) bs most 0) h := by
    intro h e1 e2 e3 e4
    refine ⟨fun y hy => ?_⟩
    simp only [List.mem_cons, List.not_mem_nil, or_false] at hy
    rcases hy with h1 | h1 | h1 | h1
    · rw [h1, szO_bb, e1]; exact ⟨by simp only; omega, rfl⟩
    · rw [h1, szO_mm d1, e2]; exact ⟨by omega, rfl⟩
    · rw [h1, szO_bn d2 d4, e3]; exact ⟨by simp only; omega, rfl⟩
    · rw [h1, szO_bm d3 d5 d6, e4]; exact ⟨by simp only; omega, rfl⟩
  have eN := szO_bn d2 d4 bs most r.2
  repeat' (first | refine awp_seq_k fun K hK => ?_ | ((first | refine awp_region_k (by kernel_rfl) fun R hR => ?_ | refine awp_draw mixed (by kernel_rfl) (by kernel_rfl) fun R hR => ?_); simp only [go_sem, em, q2, eN]) | ((first | (refine hR _ ?_; clear hR R) | refine awp_skip ?_ | refine awp_exit ?_ | refine awp_ret ?_); try simp only [thenA, inBlockA, reduceIte, reduceCtorEq, Nat.reduceEqDiff, if_false, if_true]) | ((first | refine hK _ ?_ | (clear hK K; first | refine hK _ ?_ | (clear hK K; first | refine hK _ ?_ | (clear hK K; first | refine hK _ ?_ | (clear hK K; refine hK _ ?_))))); clear hK K) | refine awp_true rfl rfl ?_ | refine awp_false rfl rfl ?_ | refine awp_block ?_ | ((first | refine CallK.chg (enter111) (hw) ?_ (hA _ (by simp only [go_sem, ]) (by simp only [go_sem, em, q2]) (by simp only [go_sem, ]) (by simp only [go_sem, ])) (Fr.rfl' _ _) ?_ | refine CallD.chg (enter111) (hw) ?_ (hA _ (by simp only [go_sem, ]) (by simp only [go_sem, em, q2]) (by simp only [go_sem, ]) (by simp only [go_sem, ])) (Fr.rfl' _ _) (by first | assumption | exact List.cons_ne_nil _ _) ?_); (focus first | ((repeat (first | exact trivial | refine ⟨(by first | exact Or.inl rfl | exact Or.inr rfl), ?_⟩)); done) | (simp only [coL, AV.dat, true_or, or_true, AV.d.injEq, go_sem]; done)); simp only [go_sem, em, q2, eN]) | refine And.intro (by first | ((repeat' first | omega | exact trivial | rfl | assumption | (intro a e; subst e; rfl) | exact map_sz fun a => (by simp only [go_sem]) | refine And.intro ?_ ?_); done) | fail) ?_ | fail)
  (first | refine ret_pure ?_ ?_ ?_ | refine ret_ro ?_ ?_ ?_)
  · exact (by simp only [Try.results142, resOkL, resOk, Try.ntmps142, List.toList_toArray]; first | decide | (simp only [go_sem]; done))
  · simp only [resA, resV, Try.results142, go_sem]
    exact .dat rfl
  · intro x hx
    show stH _ _ _ x = _
    rw [stH_get]
    by_cases hxm : x = mm
    · rw [if_pos (by simp [hxm]), hxm, szO_mm d1, em]
    · rw [if_neg]
      · exact ((by repeat (first | exact Fr.rfl' _ _ | assumption | refine Fr.updk ?_ (by omega) _)) : Fr k h0 _) x hx
      · simp only [List.mem_cons, List.not_mem_nil, or_false]
        rintro (h | h | h | h)
        · rw [h] at hx; simp at hx
        · exact hxm h
        · rw [h] at hx; simp only at hx; omega
        · rw [h] at hx; simp at hx
def rawAns (bs : Bs) (t : Tm) : Tm × Int := if apS bs (pre t) > 120 then (tm0, 2) else (mapM (madeS bs) t, 0)
set_option maxRecDepth 20000 in
theorem raw_tri (mm : Nm) (bs : Bs) (hbs : ∀ p ∈ bs, p.2.size ≤ 4000000) (t : Tm) (ht : t.size ≤ 4000000) : Tri Try.prog 127 [.map mm, .d (tmDV t)] (rdE [(mm, .map (bsE bs))] (.tup [.d (tmDV (rawAns bs t).1), iA (rawAns bs t).2])) := by
  refine tri_enter_ro Try.func127 rfl Try.ntmps127 (by simp only [List.length_cons, List.length_nil]; omega) fun w0 h0 k hro => ?_
  obtain ⟨n2, em⟩ := hro.get _ (List.mem_cons_self ..)
  have q2 := nmne n2
  dsimp only at n2 em
  have hs := size_tri mm bs t ht 120
  have hmd := made_tri mm bs hbs t ht
  have hro' : ∀ (k' : Nat) (h : Heap), mm.1 < k' → h mm = some (.map (bsE bs)) → RoOK k' [(mm, .map (bsE bs))] h := fun k' h h1 e => ⟨fun x hx => by simp only [List.mem_cons, List.not_mem_nil, or_false] at hx; subst hx; exact ⟨h1, e⟩⟩
  unfold rawAns
  cases hc : decide ((walkS (szS bs 120) t 0).2 > 120) with
  | true =>
    rw [if_pos ((walk_cap bs t).1 (by simpa using hc))]
    repeat' (first | refine awp_seq_k fun K hK => ?_ | ((first | refine awp_region_k (by kernel_rfl) fun R hR => ?_ | refine awp_draw mixed (by kernel_rfl) (by kernel_rfl) fun R hR => ?_); simp only [go_sem, em, q2, hc]) | ((first | (refine hR _ ?_; clear hR R) | refine awp_skip ?_ | refine awp_exit ?_ | refine awp_ret ?_); try simp only [thenA, inBlockA, reduceIte, reduceCtorEq, Nat.reduceEqDiff, if_false, if_true]) | ((first | refine hK _ ?_ | (clear hK K; first | refine hK _ ?_ | (clear hK K; first | refine hK _ ?_ | (clear hK K; first | refine hK _ ?_ | (clear hK K; refine hK _ ?_))))); clear hK K) | refine awp_true rfl rfl ?_ | refine awp_false rfl rfl ?_ | refine awp_block ?_ | ((first | refine CallK.look (enter142) (hs) ?_ (hro' (k + 1) _ (by omega) (by simp only [go_sem, em, q2])) (Fr.rfl' _ _) ?_ | refine CallD.look (enter142) (hs) ?_ (hro' (k + 1) _ (by omega) (by simp only [go_sem, em, q2])) (Fr.rfl' _ _) (by first | assumption | exact List.cons_ne_nil _ _) ?_); (focus first | ((repeat (first | exact trivial | refine ⟨(by first | exact Or.inl rfl | exact Or.inr rfl), ?_⟩)); done) | (simp only [coL, AV.dat, true_or, or_true, AV.d.injEq, go_sem]; done)); simp only [go_sem, em, q2, hc]) | refine And.intro (by first | ((repeat' first | omega | exact trivial | rfl | assumption | (intro a e; subst e; rfl) | exact map_sz fun a => (by simp only [go_sem]) | refine And.intro ?_ ?_); done) | fail) ?_ | fail)
    (first | refine ret_pure ?_ ?_ ?_ | refine ret_ro ?_ ?_ ?_); focus exact (by simp only [Try.results127, resOkL, resOk, Try.ntmps127, List.toList_toArray]; first | decide | (simp only [go_sem]; done) | (simp only [go_sem]; and_intros <;> first | omega | rfl | decide))
    rotate_left; focus exact (by repeat (first | exact Fr.rfl' _ _ | assumption | refine Fr.updk ?_ (by omega) _))
    simp only [resA, resV, Try.results127, go_sem]
    all_goals try (first | exact Co.t2 (.dat rfl) (.dat rfl) | exact Co.t3 (.dat rfl) (.dat rfl) (.dat rfl))
    exact .t2 (co_tm rfl) (.dat rfl)
  | false =>
    rw [if_neg (fun h => by have := (walk_cap bs t).2 h; simp at hc; omega)]
    repeat' (first | refine awp_seq_k fun K hK => ?_ | ((first | refine awp_region_k (by kernel_rfl) fun R hR => ?_ | refine awp_draw mixed (by kernel_rfl) (by kernel_rfl) fun R hR => ?_); simp only [go_sem, em, q2, hc]) | ((first | (refine hR _ ?_; clear hR R) | refine awp_skip ?_ | refine awp_exit ?_ | refine awp_ret ?_); try simp only [thenA, inBlockA, reduceIte, reduceCtorEq, Nat.reduceEqDiff, if_false, if_true]) | ((first | refine hK _ ?_ | (clear hK K; first | refine hK _ ?_ | (clear hK K; first | refine hK _ ?_ | (clear hK K; first | refine hK _ ?_ | (clear hK K; refine hK _ ?_))))); clear hK K) | refine awp_true rfl rfl ?_ | refine awp_false rfl rfl ?_ | refine awp_block ?_ | ((first | refine CallK.look (enter142) (hs) ?_ (hro' (k + 1) _ (by omega) (by simp only [go_sem, em, q2])) (Fr.rfl' _ _) ?_ | refine CallD.look (enter142) (hs) ?_ (hro' (k + 1) _ (by omega) (by simp only [go_sem, em, q2])) (Fr.rfl' _ _) (by first | assumption | exact List.cons_ne_nil _ _) ?_ | refine CallK.look (enter121) (hmd) ?_ (hro' (k + 1) _ (by omega) (by simp only [go_sem, em, q2])) (Fr.rfl' _ _) ?_ | refine CallD.look (enter121) (hmd) ?_ (hro' (k + 1) _ (by omega) (by simp only [go_sem, em, q2])) (Fr.rfl' _ _) (by first | assumption | exact List.cons_ne_nil _ _) ?_); (focus first | ((repeat (first | exact trivial | refine ⟨(by first | exact Or.inl rfl | exact Or.inr rfl), ?_⟩)); done) | (simp only [coL, AV.dat, true_or, or_true, AV.d.injEq, go_sem]; done)); simp only [go_sem, em, q2, hc]) | refine And.intro (by first | ((repeat' first | omega | exact trivial | rfl | assumption | (intro a e; subst e; rfl) | exact map_sz fun a => (by simp only [go_sem]) | refine And.intro ?_ ?_); done) | fail) ?_ | fail)
    (first | refine ret_pure ?_ ?_ ?_ | refine ret_ro ?_ ?_ ?_); focus exact (by simp only [Try.results127, resOkL, resOk, Try.ntmps127, List.toList_toArray]; first | decide | (simp only [go_sem]; done) | (simp only [go_sem]; and_intros <;> first | omega | rfl | decide))
    rotate_left; focus exact (by repeat (first | exact Fr.rfl' _ _ | assumption | refine Fr.updk ?_ (by omega) _))
    simp only [resA, resV, Try.results127, go_sem]
    all_goals try (first | exact Co.t2 (.dat rfl) (.dat rfl) | exact Co.t3 (.dat rfl) (.dat rfl) (.dat rfl))
    all_goals exact .t2 (co_tm' rfl) (.dat rfl)
theorem apS_at {bs : Bs} {l : List Tm} {i : Nat} (hi : i < l.length) : apS bs (l.drop i) = apOne bs l[i] + apS bs (l.drop (i + 1)) := by
  rw [List.drop_eq_getElem_cons hi, apS]
set_option maxHeartbeats 1000000 in
set_option maxRecDepth 20000 in
theorem appliedSize_tri (bs : Bs) (hbs : bs.length ≤ 4000000) (t : Tm) (ht : t.size ≤ 4000000) : Tri Try.prog 100 [.d (bsDV bs), .d (tmDV t)] (pure' (iA (apS bs (parts t)))) := by
  have hpl := parts_len t
  have htot := apS_len bs (parts t)
  refine tri_enter Try.func100 rfl Try.ntmps100 (by simp only [List.length_cons, List.length_nil]; omega) fun w0 h0 k hrd hwr => ?_
  repeat' (first | refine awp_seq_k fun K hK => ?_ | ((first | refine awp_region_k (by kernel_rfl) fun R hR => ?_ | refine awp_draw mixed (by kernel_rfl) (by kernel_rfl) fun R hR => ?_); simp only [go_sem]) | ((first | (refine hR _ ?_; clear hR R) | refine awp_skip ?_ | refine awp_exit ?_ | refine awp_ret ?_); try simp only [thenA, inBlockA, reduceIte, reduceCtorEq, Nat.reduceEqDiff, if_false, if_true]) | ((first | refine hK _ ?_ | (clear hK K; first | refine hK _ ?_ | (clear hK K; first | refine hK _ ?_ | (clear hK K; first | refine hK _ ?_ | (clear hK K; refine hK _ ?_))))); clear hK K) | refine awp_true rfl rfl ?_ | refine awp_false rfl rfl ?_ | refine awp_block ?_ | ((first | refine CallK.pure (enter63) (partsOf_data t (by unfold Tm.fits; omega) (by omega)) ?_ ?_ | refine CallD.pure (enter63) (partsOf_data t (by unfold Tm.fits; omega) (by omega)) ?_ ?_); (focus first | ((repeat (first | exact trivial | refine ⟨(by first | exact Or.inl rfl | exact Or.inr rfl), ?_⟩)); done) | (simp only [coL, AV.dat, true_or, or_true, AV.d.injEq, go_sem]; done)); simp only [go_sem]) | refine And.intro (by first | ((repeat' first | omega | exact trivial | rfl | assumption | (intro a e; subst e; rfl) | exact map_sz fun a => (by simp only [go_sem]) | refine And.intro ?_ ?_); done) | fail) ?_ | fail)
  refine awp_loop (fun σ => ∃ (j : Nat) (n : Int), σ.t 0 = .d (bsDV bs) ∧ σ.t 5 = iA n ∧ σ.t 6 = .d (.sl ((parts t).map tmDV)) ∧ σ.t 7 = iA j ∧ Fr k h0 σ.h ∧ k < σ.k ∧ j ≤ (parts t).length ∧ 0 ≤ n ∧ n + apS bs ((parts t).drop j) = apS bs (parts t)) (fun σ => (parts t).length - (intOf' (σ.t 7)).toNat) ?_ ?_
  · refine ⟨0, 0, ?_⟩
    simp only [go_sem, List.drop_zero]
    and_intros; all_goals try (first | rfl | omega | assumption | ((repeat (first | exact Fr.rfl' _ _ | assumption | refine Fr.updk ?_ (by omega) _)); done))
  · rintro σ ⟨j, n, s0, s5, s6, s7, hF, hk, hj, hn, hv⟩
    rcases Nat.lt_or_ge j (parts t).length with hlt | hge
    · have hz : (j : Int) < ((parts t).length : Int) := by omega
      have e1 : ((parts t).map tmDV).getD j default = tmDV (parts t)[j] := nth_map tmDV hlt _
      have hrest := apS_len bs ((parts t).drop (j + 1))
      rw [apS_at hlt] at hv
      generalize (parts t)[j] = x at *
      have hone := apOne_pos bs x
      have hm1 : decide ((-1 : Int) ≥ 0) = false := rfl
      cases hx : decide (x.v > 0) with
      | false =>
        have ha : apOne bs x = 1 := by unfold apOne; rw [if_neg (by simpa using hx)]
        rw [ha] at hv
        repeat' (first | refine awp_seq_k fun K hK => ?_ | ((first | refine awp_region_k (by kernel_rfl) fun R hR => ?_ | refine awp_draw mixed (by kernel_rfl) (by kernel_rfl) fun R hR => ?_); simp only [go_sem, s0, s5, s6, s7, hz, e1, hx, hm1, Int.toNat_natCast]) | ((first | (refine hR _ ?_; clear hR R) | refine awp_skip ?_ | refine awp_exit ?_ | refine awp_ret ?_); try simp only [thenA, inBlockA, reduceIte, reduceCtorEq, Nat.reduceEqDiff, if_false, if_true]) | ((first | refine hK _ ?_ | (clear hK K; first | refine hK _ ?_ | (clear hK K; first | refine hK _ ?_ | (clear hK K; first | refine hK _ ?_ | (clear hK K; refine hK _ ?_))))); clear hK K) | refine awp_true rfl rfl ?_ | refine awp_false rfl rfl ?_ | refine awp_block ?_ | refine And.intro (by first | ((repeat' first | omega | exact trivial | rfl | assumption | (intro a e; subst e; rfl) | exact map_sz fun a => (by simp only [go_sem]) | refine And.intro ?_ ?_); done) | fail) ?_ | fail)
        refine ⟨⟨j + 1, n + 1, ?_⟩, ?_⟩
        rotate_left
        · simp only [go_sem, s0, s5, s6, s7]; omega
        simp only [go_sem, s0, s5, s6, s7]
        and_intros; all_goals try (first | rfl | omega | assumption | ((repeat (first | exact Fr.rfl' _ _ | assumption | refine Fr.updk ?_ (by omega) _)); done))
      | true =>
        have hbt := boundTo_tri bs hbs x.v
        rcases idxB_look x.v bs 0 with ⟨h1, h2⟩ | ⟨i, hi, h1, h2⟩
        · have ha : apOne bs x = 1 := by unfold apOne; rw [if_pos (by simpa using hx), h2]
          rw [ha] at hv
          rw [h1] at hbt
          repeat' (first | refine awp_seq_k fun K hK => ?_ | ((first | refine awp_region_k (by kernel_rfl) fun R hR => ?_ | refine awp_draw mixed (by kernel_rfl) (by kernel_rfl) fun R hR => ?_); simp only [go_sem, s0, s5, s6, s7, hz, e1, hx, hm1, Int.toNat_natCast]) | ((first | (refine hR _ ?_; clear hR R) | refine awp_skip ?_ | refine awp_exit ?_ | refine awp_ret ?_); try simp only [thenA, inBlockA, reduceIte, reduceCtorEq, Nat.reduceEqDiff, if_false, if_true]) | ((first | refine hK _ ?_ | (clear hK K; first | refine hK _ ?_ | (clear hK K; first | refine hK _ ?_ | (clear hK K; first | refine hK _ ?_ | (clear hK K; refine hK _ ?_))))); clear hK K) | refine awp_true rfl rfl ?_ | refine awp_false rfl rfl ?_ | refine awp_block ?_ | ((first | refine CallK.pure (enter125) (hbt) ?_ ?_ | refine CallD.pure (enter125) (hbt) ?_ ?_); (focus first | ((repeat (first | exact trivial | refine ⟨(by first | exact Or.inl rfl | exact Or.inr rfl), ?_⟩)); done) | (simp only [coL, AV.dat, true_or, or_true, AV.d.injEq, go_sem]; done)); simp only [go_sem, s0, s5, s6, s7, hz, e1, hx, hm1, Int.toNat_natCast]) | refine And.intro (by first | ((repeat' first | omega | exact trivial | rfl | assumption | (intro a e; subst e; rfl) | exact map_sz fun a => (by simp only [go_sem]) | refine And.intro ?_ ?_); done) | fail) ?_ | fail)
          refine ⟨⟨j + 1, n + 1, ?_⟩, ?_⟩
          rotate_left
          · simp only [go_sem, s0, s5, s6, s7]; omega
          simp only [go_sem, s0, s5, s6, s7]
          and_intros; all_goals try (first | rfl | omega | assumption | ((repeat (first | exact Fr.rfl' _ _ | assumption | refine Fr.updk ?_ (by omega) _)); done))
        · have ha : apOne bs x = count bs[i].2 120 := by unfold apOne; rw [if_pos (by simpa using hx), h2]
          rw [ha] at hv hone
          rw [h1] at hbt
          have hj0 : (((0 + i : Nat) : Int)) = (i : Int) := by omega
          rw [hj0] at hbt
          have hin : decide ((i : Int) ≥ 0) = true := by simp
          have hiz : (i : Int) < (bs.length : Int) := by omega
          have e2 : (bs.map bdDV).getD i default = bdDV bs[i] := nth_map bdDV hi _
          repeat' (first | refine awp_seq_k fun K hK => ?_ | ((first | refine awp_region_k (by kernel_rfl) fun R hR => ?_ | refine awp_draw mixed (by kernel_rfl) (by kernel_rfl) fun R hR => ?_); simp only [go_sem, s0, s5, s6, s7, hz, e1, hx, hin, hiz, e2, Int.toNat_natCast]) | ((first | (refine hR _ ?_; clear hR R) | refine awp_skip ?_ | refine awp_exit ?_ | refine awp_ret ?_); try simp only [thenA, inBlockA, reduceIte, reduceCtorEq, Nat.reduceEqDiff, if_false, if_true]) | ((first | refine hK _ ?_ | (clear hK K; first | refine hK _ ?_ | (clear hK K; first | refine hK _ ?_ | (clear hK K; first | refine hK _ ?_ | (clear hK K; refine hK _ ?_))))); clear hK K) | refine awp_true rfl rfl ?_ | refine awp_false rfl rfl ?_ | refine awp_block ?_ | ((first | refine CallK.pure (enter125) (hbt) ?_ ?_ | refine CallD.pure (enter125) (hbt) ?_ ?_ | refine CallK.pure (enter50) (sizeOf_tri bs[i].2 120 (by omega) (by omega)) ?_ ?_ | refine CallD.pure (enter50) (sizeOf_tri bs[i].2 120 (by omega) (by omega)) ?_ ?_); (focus first | ((repeat (first | exact trivial | refine ⟨(by first | exact Or.inl rfl | exact Or.inr rfl), ?_⟩)); done) | (simp only [coL, AV.dat, true_or, or_true, AV.d.injEq, go_sem]; done)); simp only [go_sem, s0, s5, s6, s7, hz, e1, hx, hin, hiz, e2, Int.toNat_natCast]) | refine And.intro (by first | ((repeat' first | omega | exact trivial | rfl | assumption | (intro a e; subst e; rfl) | exact map_sz fun a => (by simp only [go_sem]) | refine And.intro ?_ ?_); done) | fail) ?_ | fail)
          refine ⟨⟨j + 1, n + count bs[i].2 120, ?_⟩, ?_⟩
          rotate_left
          · simp only [go_sem, s0, s5, s6, s7]; omega
          simp only [go_sem, s0, s5, s6, s7]
          and_intros; all_goals try (first | rfl | omega | assumption | ((repeat (first | exact Fr.rfl' _ _ | assumption | refine Fr.updk ?_ (by omega) _)); done))
    · have hz : ¬ ((j : Int) < ((parts t).length : Int)) := by omega
      rw [List.drop_eq_nil_of_le hge, apS, Int.add_zero] at hv
      repeat' (first | refine awp_seq_k fun K hK => ?_ | ((first | refine awp_region_k (by kernel_rfl) fun R hR => ?_ | refine awp_draw mixed (by kernel_rfl) (by kernel_rfl) fun R hR => ?_); simp only [go_sem, s0, s5, s6, s7, hz]) | ((first | (refine hR _ ?_; clear hR R) | refine awp_skip ?_ | refine awp_exit ?_ | refine awp_ret ?_); try simp only [thenA, inBlockA, reduceIte, reduceCtorEq, Nat.reduceEqDiff, if_false, if_true]) | ((first | refine hK _ ?_ | (clear hK K; first | refine hK _ ?_ | (clear hK K; first | refine hK _ ?_ | (clear hK K; first | refine hK _ ?_ | (clear hK K; refine hK _ ?_))))); clear hK K) | refine awp_true rfl rfl ?_ | refine awp_false rfl rfl ?_ | refine awp_block ?_ | refine And.intro (by first | ((repeat' first | omega | exact trivial | rfl | assumption | (intro a e; subst e; rfl) | exact map_sz fun a => (by simp only [go_sem]) | refine And.intro ?_ ?_); done) | fail) ?_ | fail)
      (first | refine ret_pure ?_ ?_ ?_ | refine ret_ro ?_ ?_ ?_); focus exact (by simp only [Try.results100, resOkL, resOk, Try.ntmps100, List.toList_toArray]; first | decide | (simp only [go_sem, s5]; done) | (simp only [go_sem, s5]; and_intros <;> first | omega | rfl | decide))
      rotate_left; focus exact (by repeat (first | exact Fr.rfl' _ _ | assumption | refine Fr.updk ?_ (by omega) _))
      simp only [resA, resV, Try.results100, go_sem, s5]
      all_goals try (first | exact Co.t2 (.dat rfl) (.dat rfl) | exact Co.t3 (.dat rfl) (.dat rfl) (.dat rfl))
      all_goals exact co_i hv
end Go.Proofs.Ytmeekpinkfpnhaa
namespace Go.Proofs.Ytmeekpinkfpnhaa
open Go.RowKit
def atA (t : Tm) (p : List Int) : Tm × Bool := match atG t p with | some x => (x, true) | none => (tm0, false)
theorem atA_nil (t : Tm) : atA t [] = (t, true) := rfl
theorem atA_out {t : Tm} {i : Int} {p : List Int} (h : ¬ (0 ≤ i ∧ i < t.us.length)) : atA t (i :: p) = (tm0, false) := by
  unfold atA; rw [atG, if_neg h]
theorem atA_in {t : Tm} {n : Nat} (hn : n < t.us.length) (p : List Int) : atA t ((n : Int) :: p) = atA t.us[n] p := by
  unfold atA; rw [atG_at hn]
set_option maxRecDepth 20000 in
theorem atOf_tri : ∀ (p : List Int) (t : Tm), p.length ≤ 4000000 → t.size ≤ 4000000 → Tri Try.prog 59 [.d (tmDV t), .d (.sl (p.map iD))] (pure' (.tup [.d (tmDV (atA t p).1), bA (atA t p).2]))
  | [], t, _, _ => by
    rw [atA_nil]
    have hz : ((((0 : Nat) : Int)) == 0) = true := rfl
    refine tri_enter Try.func59 rfl Try.ntmps59 (by simp only [List.length_cons, List.length_nil]; omega) fun w0 h0 k hrd hwr => ?_
    repeat' (first | refine awp_seq_k fun K hK => ?_ | ((first | refine awp_region_k (by kernel_rfl) fun R hR => ?_ | refine awp_draw mixed (by kernel_rfl) (by kernel_rfl) fun R hR => ?_); simp only [go_sem, hz]) | ((first | (refine hR _ ?_; clear hR R) | refine awp_skip ?_ | refine awp_exit ?_ | refine awp_ret ?_); try simp only [thenA, inBlockA, reduceIte, reduceCtorEq, Nat.reduceEqDiff, if_false, if_true]) | ((first | refine hK _ ?_ | (clear hK K; first | refine hK _ ?_ | (clear hK K; first | refine hK _ ?_ | (clear hK K; first | refine hK _ ?_ | (clear hK K; refine hK _ ?_))))); clear hK K) | refine awp_true rfl rfl ?_ | refine awp_false rfl rfl ?_ | refine awp_block ?_ | refine And.intro (by first | ((repeat' first | omega | exact trivial | rfl | assumption | (intro a e; subst e; rfl) | exact map_sz fun a => (by simp only [go_sem]) | refine And.intro ?_ ?_); done) | fail) ?_ | fail)
    (first | refine ret_pure ?_ ?_ ?_ | refine ret_ro ?_ ?_ ?_); focus exact (by simp only [Try.results59, resOkL, resOk, Try.ntmps59, List.toList_toArray]; first | decide | (simp only [go_sem]; done) | (simp only [go_sem]; and_intros <;> first | omega | rfl | decide))
    rotate_left; focus exact (by repeat (first | exact Fr.rfl' _ _ | assumption | refine Fr.updk ?_ (by omega) _))
    simp only [resA, resV, Try.results59, go_sem]
    all_goals try (first | exact Co.t2 (.dat rfl) (.dat rfl) | exact Co.t3 (.dat rfl) (.dat rfl) (.dat rfl))
    all_goals exact .t2 (co_tm' rfl) (.dat rfl)
  | i :: p, t, hp, ht => by
    have hlen := t.len_lt
    rw [List.length_cons] at hp
    have hz : ((((p.length + 1 : Nat) : Int)) == 0) = false := by simp; omega
    have htk : (p.map iD).take p.length = p.map iD := List.take_of_length_le (by simp)
    have ht1 : Int.toNat 1 = 1 := rfl
    have ht0 : Int.toNat 0 = 0 := rfl
    have hbt := between_tri i 0 ((t.us.length : Int) - 1)
    refine tri_enter Try.func59 rfl Try.ntmps59 (by simp only [List.length_cons, List.length_nil]; omega) fun w0 h0 k hrd hwr => ?_
    by_cases hc : 0 ≤ i ∧ i < t.us.length
    · obtain ⟨n, hn⟩ : ∃ n : Nat, i = n := ⟨i.toNat, by omega⟩
      subst hn
      have hn : n < t.us.length := by omega
      have hz' : (n : Int) < (t.us.length : Int) := by omega
      have hb : btw n 0 ((t.us.length : Int) - 1) = true := by simp [btw]; omega
      rw [hb] at hbt
      have e1 : (t.us.map tmDV).getD n default = tmDV t.us[n] := nth_map tmDV hn _
      have hs := Tm.size_at hn
      have ih := atOf_tri p t.us[n] (by omega) (by omega)
      rw [atA_in hn]
      repeat' (first | refine awp_seq_k fun K hK => ?_ | ((first | refine awp_region_k (by kernel_rfl) fun R hR => ?_ | refine awp_draw mixed (by kernel_rfl) (by kernel_rfl) fun R hR => ?_); simp only [go_sem, hz, hz', e1, htk, ht1, ht0, List.length_map, Int.toNat_natCast]) | ((first | (refine hR _ ?_; clear hR R) | refine awp_skip ?_ | refine awp_exit ?_ | refine awp_ret ?_); try simp only [thenA, inBlockA, reduceIte, reduceCtorEq, Nat.reduceEqDiff, if_false, if_true]) | ((first | refine hK _ ?_ | (clear hK K; first | refine hK _ ?_ | (clear hK K; first | refine hK _ ?_ | (clear hK K; first | refine hK _ ?_ | (clear hK K; refine hK _ ?_))))); clear hK K) | refine awp_true rfl rfl ?_ | refine awp_false rfl rfl ?_ | refine awp_block ?_ | ((first | refine CallK.pure (enter80) (hbt) ?_ ?_ | refine CallD.pure (enter80) (hbt) ?_ ?_ | refine CallK.pure (enter59) (ih) ?_ ?_ | refine CallD.pure (enter59) (ih) ?_ ?_); (focus first | ((repeat (first | exact trivial | refine ⟨(by first | exact Or.inl rfl | exact Or.inr rfl), ?_⟩)); done) | (simp only [coL, AV.dat, true_or, or_true, AV.d.injEq, go_sem]; done)); simp only [go_sem, hz, hz', e1, htk, ht1, ht0, List.length_map, Int.toNat_natCast]) | refine And.intro (by first | ((repeat' first | omega | exact trivial | rfl | assumption | (intro a e; subst e; rfl) | exact map_sz fun a => (by simp only [go_sem]) | refine And.intro ?_ ?_); done) | fail) ?_ | fail)
      (first | refine ret_pure ?_ ?_ ?_ | refine ret_ro ?_ ?_ ?_); focus exact (by simp only [Try.results59, resOkL, resOk, Try.ntmps59, List.toList_toArray]; first | decide | (simp only [go_sem]; done) | (simp only [go_sem]; and_intros <;> first | omega | rfl | decide))
      rotate_left; focus exact (by repeat (first | exact Fr.rfl' _ _ | assumption | refine Fr.updk ?_ (by omega) _))
      simp only [resA, resV, Try.results59, go_sem]
      all_goals try (first | exact Co.t2 (.dat rfl) (.dat rfl) | exact Co.t3 (.dat rfl) (.dat rfl) (.dat rfl))
      all_goals exact .t2 (co_tm' rfl) (.dat rfl)
    · have hb : btw i 0 ((t.us.length : Int) - 1) = false := by
        cases hq : btw i 0 ((t.us.length : Int) - 1) with
        | false => rfl
        | true => simp [btw] at hq; omega
      rw [hb] at hbt
      rw [atA_out hc]
      repeat' (first | refine awp_seq_k fun K hK => ?_ | ((first | refine awp_region_k (by kernel_rfl) fun R hR => ?_ | refine awp_draw mixed (by kernel_rfl) (by kernel_rfl) fun R hR => ?_); simp only [go_sem, hz, ht0, List.length_map]) | ((first | (refine hR _ ?_; clear hR R) | refine awp_skip ?_ | refine awp_exit ?_ | refine awp_ret ?_); try simp only [thenA, inBlockA, reduceIte, reduceCtorEq, Nat.reduceEqDiff, if_false, if_true]) | ((first | refine hK _ ?_ | (clear hK K; first | refine hK _ ?_ | (clear hK K; first | refine hK _ ?_ | (clear hK K; first | refine hK _ ?_ | (clear hK K; refine hK _ ?_))))); clear hK K) | refine awp_true rfl rfl ?_ | refine awp_false rfl rfl ?_ | refine awp_block ?_ | ((first | refine CallK.pure (enter80) (hbt) ?_ ?_ | refine CallD.pure (enter80) (hbt) ?_ ?_); (focus first | ((repeat (first | exact trivial | refine ⟨(by first | exact Or.inl rfl | exact Or.inr rfl), ?_⟩)); done) | (simp only [coL, AV.dat, true_or, or_true, AV.d.injEq, go_sem]; done)); simp only [go_sem, hz, ht0, List.length_map]) | refine And.intro (by first | ((repeat' first | omega | exact trivial | rfl | assumption | (intro a e; subst e; rfl) | exact map_sz fun a => (by simp only [go_sem]) | refine And.intro ?_ ?_); done) | fail) ?_ | fail)
      (first | refine ret_pure ?_ ?_ ?_ | refine ret_ro ?_ ?_ ?_); focus exact (by simp only [Try.results59, resOkL, resOk, Try.ntmps59, List.toList_toArray]; first | decide | (simp only [go_sem]; done) | (simp only [go_sem]; and_intros <;> first | omega | rfl | decide))
      rotate_left; focus exact (by repeat (first | exact Fr.rfl' _ _ | assumption | refine Fr.updk ?_ (by omega) _))
      simp only [resA, resV, Try.results59, go_sem]
      all_goals try (first | exact Co.t2 (.dat rfl) (.dat rfl) | exact Co.t3 (.dat rfl) (.dat rfl) (.dat rfl))
      all_goals exact .t2 (co_tm rfl) (.dat rfl)
set_option maxHeartbeats 1000000 in
set_option maxRecDepth 20000 in
theorem find_tri (p : List Int) (t : Tm) (hp : p.length ≤ 4000000) (ht : t.size ≤ 4000000) : Tri Try.prog 105 [.d (tmDV t), .d (.sl (p.map iD))] (pure' (.tup [.d (tmDV (atA t p).1), bA (atA t p).2])) := by
  refine tri_enter Try.func105 rfl Try.ntmps105 (by simp only [List.length_cons, List.length_nil]; omega) fun w0 h0 k hrd hwr => ?_
  repeat' (first | refine awp_seq_k fun K hK => ?_ | ((first | refine awp_region_k (by kernel_rfl) fun R hR => ?_ | refine awp_draw mixed (by kernel_rfl) (by kernel_rfl) fun R hR => ?_); simp only [go_sem]) | ((first | (refine hR _ ?_; clear hR R) | refine awp_skip ?_ | refine awp_exit ?_ | refine awp_ret ?_); try simp only [thenA, inBlockA, reduceIte, reduceCtorEq, Nat.reduceEqDiff, if_false, if_true]) | ((first | refine hK _ ?_ | (clear hK K; first | refine hK _ ?_ | (clear hK K; first | refine hK _ ?_ | (clear hK K; first | refine hK _ ?_ | (clear hK K; refine hK _ ?_))))); clear hK K) | refine awp_true rfl rfl ?_ | refine awp_false rfl rfl ?_ | refine awp_block ?_ | refine And.intro (by first | ((repeat' first | omega | exact trivial | rfl | assumption | (intro a e; subst e; rfl) | exact map_sz fun a => (by simp only [go_sem]) | refine And.intro ?_ ?_); done) | fail) ?_ | fail)
  refine awp_loop (fun σ => ∃ (i : Nat) (x : Tm), σ.t 2 = .ptr (k, 0) 0 ∧ σ.t 4 = .ptr (k, 1) 0 ∧ σ.t 8 = .d (.sl (p.map iD)) ∧ σ.t 9 = iA p.length ∧ σ.t 10 = iA i ∧ σ.h (k, 0) = some (.cells 27 [iA x.v, iA x.f, .d (.sl (x.us.map tmDV))]) ∧ σ.h (k, 1) = some (.cells 27 [iA 0, iA 0, .nil]) ∧
    Fr k h0 σ.h ∧ k < σ.k ∧ i ≤ p.length ∧ x.size ≤ 4000000 ∧ atA x (p.drop i) = atA t p) (fun σ => p.length - (intOf' (σ.t 10)).toNat) ?_ ?_
  · refine ⟨0, t, ?_⟩
    simp only [go_sem, List.drop_zero]
    and_intros; all_goals try (first | rfl | omega | assumption | ((repeat (first | exact Fr.rfl' _ _ | assumption | refine Fr.updk ?_ (by omega) _)); done))
  · rintro σ ⟨i, x, s2, s4, s8, s9, s10, sh, sh', hF, hk, hi, hx, hv⟩
    have hne := ltne hk
    rcases Nat.lt_or_ge i p.length with hlt | hge
    · have hz : (i : Int) < (p.length : Int) := by omega
      have e1 : (p.map iD).getD i default = iD p[i] := nth_map iD hlt _
      have hlen := x.len_lt
      rw [List.drop_eq_getElem_cons hlt] at hv
      generalize p[i] = y at *
      by_cases hc : 0 ≤ y ∧ y < x.us.length
      · obtain ⟨n, hn⟩ : ∃ n : Nat, y = n := ⟨y.toNat, by omega⟩
        subst hn
        have hn : n < x.us.length := by omega
        have hz' : (n : Int) < (x.us.length : Int) := by omega
        have c1 : decide ((n : Int) < 0) = false := by simp
        have c2 : decide ((n : Int) ≥ (x.us.length : Int)) = false := by simp; omega
        have e2 : (x.us.map tmDV).getD n default = tmDV x.us[n] := nth_map tmDV hn _
        have hs := Tm.size_at hn
        rw [atA_in hn] at hv
        repeat' (first | refine awp_seq_k fun K hK => ?_ | ((first | refine awp_region_k (by kernel_rfl) fun R hR => ?_ | refine awp_draw mixed (by kernel_rfl) (by kernel_rfl) fun R hR => ?_); simp only [go_sem, s2, s4, s8, s9, s10, sh, sh', hz, hz', e1, e2, c1, c2, hne, List.length_map, Int.toNat_natCast]) | ((first | (refine hR _ ?_; clear hR R) | refine awp_skip ?_ | refine awp_exit ?_ | refine awp_ret ?_); try simp only [thenA, inBlockA, reduceIte, reduceCtorEq, Nat.reduceEqDiff, if_false, if_true]) | ((first | refine hK _ ?_ | (clear hK K; first | refine hK _ ?_ | (clear hK K; first | refine hK _ ?_ | (clear hK K; first | refine hK _ ?_ | (clear hK K; refine hK _ ?_))))); clear hK K) | refine awp_true rfl rfl ?_ | refine awp_false rfl rfl ?_ | refine awp_block ?_ | refine And.intro (by first | ((repeat' first | omega | exact trivial | rfl | assumption | (intro a e; subst e; rfl) | exact map_sz fun a => (by simp only [go_sem]) | refine And.intro ?_ ?_); done) | fail) ?_ | fail)
        refine ⟨⟨i + 1, x.us[n], ?_⟩, ?_⟩
        rotate_left
        · simp only [go_sem, s2, s4, s8, s9, s10, sh, sh', hne]; omega
        simp only [go_sem, s2, s4, s8, s9, s10, sh, sh', hne]
        and_intros; all_goals try (first | rfl | omega | assumption | ((repeat (first | exact Fr.rfl' _ _ | assumption | refine Fr.updk ?_ (by omega) _)); done))
      · rw [atA_out hc] at hv
        rw [← hv]
        cases c1 : decide (y < 0) with
        | true =>
          repeat' (first | refine awp_seq_k fun K hK => ?_ | ((first | refine awp_region_k (by kernel_rfl) fun R hR => ?_ | refine awp_draw mixed (by kernel_rfl) (by kernel_rfl) fun R hR => ?_); simp only [go_sem, s2, s4, s8, s9, s10, sh, sh', hz, e1, c1, hne, List.length_map, Int.toNat_natCast]) | ((first | (refine hR _ ?_; clear hR R) | refine awp_skip ?_ | refine awp_exit ?_ | refine awp_ret ?_); try simp only [thenA, inBlockA, reduceIte, reduceCtorEq, Nat.reduceEqDiff, if_false, if_true]) | ((first | refine hK _ ?_ | (clear hK K; first | refine hK _ ?_ | (clear hK K; first | refine hK _ ?_ | (clear hK K; first | refine hK _ ?_ | (clear hK K; refine hK _ ?_))))); clear hK K) | refine awp_true rfl rfl ?_ | refine awp_false rfl rfl ?_ | refine awp_block ?_ | refine And.intro (by first | ((repeat' first | omega | exact trivial | rfl | assumption | (intro a e; subst e; rfl) | exact map_sz fun a => (by simp only [go_sem]) | refine And.intro ?_ ?_); done) | fail) ?_ | fail)
          (first | refine ret_pure ?_ ?_ ?_ | refine ret_ro ?_ ?_ ?_); focus exact (by simp only [Try.results105, resOkL, resOk, Try.ntmps105, List.toList_toArray]; first | decide | (simp only [go_sem, s4]; done) | (simp only [go_sem, s4]; and_intros <;> first | omega | rfl | decide))
          rotate_left; focus exact (by repeat (first | exact Fr.rfl' _ _ | assumption | refine Fr.updk ?_ (by omega) _))
          simp only [resA, resV, Try.results105, go_sem, s4]
          all_goals try (first | exact Co.t2 (.dat rfl) (.dat rfl) | exact Co.t3 (.dat rfl) (.dat rfl) (.dat rfl))
          all_goals exact .t2 (co_tm rfl) (.dat rfl)
        | false =>
          have c2 : decide (y ≥ (x.us.length : Int)) = true := by simp at c1 ⊢; omega
          repeat' (first | refine awp_seq_k fun K hK => ?_ | ((first | refine awp_region_k (by kernel_rfl) fun R hR => ?_ | refine awp_draw mixed (by kernel_rfl) (by kernel_rfl) fun R hR => ?_); simp only [go_sem, s2, s4, s8, s9, s10, sh, sh', hz, e1, c1, c2, hne, List.length_map, Int.toNat_natCast]) | ((first | (refine hR _ ?_; clear hR R) | refine awp_skip ?_ | refine awp_exit ?_ | refine awp_ret ?_); try simp only [thenA, inBlockA, reduceIte, reduceCtorEq, Nat.reduceEqDiff, if_false, if_true]) | ((first | refine hK _ ?_ | (clear hK K; first | refine hK _ ?_ | (clear hK K; first | refine hK _ ?_ | (clear hK K; first | refine hK _ ?_ | (clear hK K; refine hK _ ?_))))); clear hK K) | refine awp_true rfl rfl ?_ | refine awp_false rfl rfl ?_ | refine awp_block ?_ | refine And.intro (by first | ((repeat' first | omega | exact trivial | rfl | assumption | (intro a e; subst e; rfl) | exact map_sz fun a => (by simp only [go_sem]) | refine And.intro ?_ ?_); done) | fail) ?_ | fail)
          (first | refine ret_pure ?_ ?_ ?_ | refine ret_ro ?_ ?_ ?_); focus exact (by simp only [Try.results105, resOkL, resOk, Try.ntmps105, List.toList_toArray]; first | decide | (simp only [go_sem, s4]; done) | (simp only [go_sem, s4]; and_intros <;> first | omega | rfl | decide))
          rotate_left; focus exact (by repeat (first | exact Fr.rfl' _ _ | assumption | refine Fr.updk ?_ (by omega) _))
          simp only [resA, resV, Try.results105, go_sem, s4]
          all_goals try (first | exact Co.t2 (.dat rfl) (.dat rfl) | exact Co.t3 (.dat rfl) (.dat rfl) (.dat rfl))
          all_goals exact .t2 (co_tm rfl) (.dat rfl)
    · have hz : ¬ ((i : Int) < (p.length : Int)) := by omega
      rw [List.drop_eq_nil_of_le hge, atA_nil] at hv
      repeat' (first | refine awp_seq_k fun K hK => ?_ | ((first | refine awp_region_k (by kernel_rfl) fun R hR => ?_ | refine awp_draw mixed (by kernel_rfl) (by kernel_rfl) fun R hR => ?_); simp only [go_sem, s2, s4, s8, s9, s10, sh, sh', hz, hne]) | ((first | (refine hR _ ?_; clear hR R) | refine awp_skip ?_ | refine awp_exit ?_ | refine awp_ret ?_); try simp only [thenA, inBlockA, reduceIte, reduceCtorEq, Nat.reduceEqDiff, if_false, if_true]) | ((first | refine hK _ ?_ | (clear hK K; first | refine hK _ ?_ | (clear hK K; first | refine hK _ ?_ | (clear hK K; first | refine hK _ ?_ | (clear hK K; refine hK _ ?_))))); clear hK K) | refine awp_true rfl rfl ?_ | refine awp_false rfl rfl ?_ | refine awp_block ?_ | refine And.intro (by first | ((repeat' first | omega | exact trivial | rfl | assumption | (intro a e; subst e; rfl) | exact map_sz fun a => (by simp only [go_sem]) | refine And.intro ?_ ?_); done) | fail) ?_ | fail)
      rw [← hv]
      (first | refine ret_pure ?_ ?_ ?_ | refine ret_ro ?_ ?_ ?_); focus exact (by simp only [Try.results105, resOkL, resOk, Try.ntmps105, List.toList_toArray]; first | decide | (simp only [go_sem, s4]; done) | (simp only [go_sem, s4]; and_intros <;> first | omega | rfl | decide))
      rotate_left; focus exact (by repeat (first | exact Fr.rfl' _ _ | assumption | refine Fr.updk ?_ (by omega) _))
      simp only [resA, resV, Try.results105, go_sem, s4]
      all_goals try (first | exact Co.t2 (.dat rfl) (.dat rfl) | exact Co.t3 (.dat rfl) (.dat rfl) (.dat rfl))
      all_goals exact .t2 (co_tm' rfl) (.dat rfl)
theorem setAt_take {us : List Tm} {n i : Nat} (hi : i < us.length) (y : Tm) : (us.set n y).take (i + 1) = (us.set n y).take i ++ [if n = i then y else us[i]] := by
  rw [List.take_succ_eq_append_getElem (by rw [List.length_set]; exact hi), List.getElem_set]
set_option maxHeartbeats 2000000 in
set_option maxRecDepth 20000 in
theorem putOf_tri : ∀ (p : List Int) (t u x : Tm), atG t p = some x → p.length ≤ 4000000 → t.size ≤ 4000000 → Tri Try.prog 60 [.d (tmDV t), .d (.sl (p.map iD)), .d (tmDV u)] (pure' (.d (tmDV (putG t p u))))
  | [], t, u, x, _, _, _ => by
    have hz : ((((0 : Nat) : Int)) == 0) = true := rfl
    rw [putG]
    refine tri_enter Try.func60 rfl Try.ntmps60 (by simp only [List.length_cons, List.length_nil]; omega) fun w0 h0 k hrd hwr => ?_
    repeat' (first | refine awp_seq_k fun K hK => ?_ | ((first | refine awp_region_k (by kernel_rfl) fun R hR => ?_ | refine awp_draw mixed (by kernel_rfl) (by kernel_rfl) fun R hR => ?_); simp only [go_sem, hz]) | ((first | (refine hR _ ?_; clear hR R) | refine awp_skip ?_ | refine awp_exit ?_ | refine awp_ret ?_); try simp only [thenA, inBlockA, reduceIte, reduceCtorEq, Nat.reduceEqDiff, if_false, if_true]) | ((first | refine hK _ ?_ | (clear hK K; first | refine hK _ ?_ | (clear hK K; first | refine hK _ ?_ | (clear hK K; first | refine hK _ ?_ | (clear hK K; refine hK _ ?_))))); clear hK K) | refine awp_true rfl rfl ?_ | refine awp_false rfl rfl ?_ | refine awp_block ?_ | refine And.intro (by first | ((repeat' first | omega | exact trivial | rfl | assumption | (intro a e; subst e; rfl) | exact map_sz fun a => (by simp only [go_sem]) | refine And.intro ?_ ?_); done) | fail) ?_ | fail)
    (first | refine ret_pure ?_ ?_ ?_ | refine ret_ro ?_ ?_ ?_); focus exact (by simp only [Try.results60, resOkL, resOk, Try.ntmps60, List.toList_toArray]; first | decide | (simp only [go_sem]; done) | (simp only [go_sem]; and_intros <;> first | omega | rfl | decide))
    rotate_left; focus exact (by repeat (first | exact Fr.rfl' _ _ | assumption | refine Fr.updk ?_ (by omega) _))
    simp only [resA, resV, Try.results60, go_sem]
    all_goals try (first | exact Co.t2 (.dat rfl) (.dat rfl) | exact Co.t3 (.dat rfl) (.dat rfl) (.dat rfl))
    all_goals exact co_tm' rfl
  | i :: p, t, u, x, ha, hp, ht => by
    obtain ⟨n, hn, rfl, ha'⟩ := atG_some ha
    have hlen := t.len_lt
    rw [List.length_cons] at hp
    have hs := Tm.size_at hn
    have ih := putOf_tri p t.us[n] u x ha' (by omega) (by omega)
    rw [putG, if_pos (by omega), Int.toNat_natCast, getD_at hn]
    generalize putG t.us[n] p u = y at ih ⊢
    have hz : ((((p.length + 1 : Nat) : Int)) == 0) = false := by simp; omega
    have htk : (p.map iD).take p.length = p.map iD := List.take_of_length_le (by simp)
    have ht1 : Int.toNat 1 = 1 := rfl
    have ht0 : Int.toNat 0 = 0 := rfl
    refine tri_enter Try.func60 rfl Try.ntmps60 (by simp only [List.length_cons, List.length_nil]; omega) fun w0 h0 k hrd hwr => ?_
    repeat' (first | (refine awp_ghost (ghost_boxN (b := (k + 1 + 1, 3)) (e := 27) (e' := 27) (cs := [iA 0, iA t.f, .nil]) 2 ?_ rfl) ?_; (focus (simp only [go_sem, ]; done)); simp only [go_sem]) | refine awp_seq_k fun K hK => ?_ | ((first | refine awp_region_k (by kernel_rfl) fun R hR => ?_ | refine awp_draw mixed (by kernel_rfl) (by kernel_rfl) fun R hR => ?_); simp only [go_sem, hz, List.length_map]) | ((first | (refine hR _ ?_; clear hR R) | refine awp_skip ?_ | refine awp_exit ?_ | refine awp_ret ?_); try simp only [thenA, inBlockA, reduceIte, reduceCtorEq, Nat.reduceEqDiff, if_false, if_true]) | ((first | refine hK _ ?_ | (clear hK K; first | refine hK _ ?_ | (clear hK K; first | refine hK _ ?_ | (clear hK K; first | refine hK _ ?_ | (clear hK K; refine hK _ ?_))))); clear hK K) | refine awp_true rfl rfl ?_ | refine awp_false rfl rfl ?_ | refine awp_block ?_ | refine And.intro (by first | ((repeat' first | omega | exact trivial | rfl | assumption | (intro a e; subst e; rfl) | exact map_sz fun a => (by simp only [go_sem]) | refine And.intro ?_ ?_); done) | fail) ?_ | fail)
    refine awp_loop (fun σ => ∃ i : Nat, σ.t 1 = .d (.sl (((n : Int) :: p).map iD)) ∧ σ.t 3 = .ptr (k, 0) 0 ∧ σ.t 5 = .ptr (k, 1) 0 ∧ σ.t 6 = .ptr (k, 2) 0 ∧ σ.t 7 = .ptr (k + 1 + 1, 3) 0 ∧ σ.t 8 = iA i ∧
      σ.h (k, 0) = some (.cells 27 [iA t.v, iA t.f, .d (.sl (t.us.map tmDV))]) ∧ σ.h (k, 1) = some (.cells 27 [iA u.v, iA u.f, .d (.sl (u.us.map tmDV))]) ∧ σ.h (k, 2) = some (.cells 27 [iA 0, iA 0, .nil]) ∧ σ.h (k + 1 + 1, 3) = some (.cells 27 [iA 0, iA t.f, .own (k + 1 + 1 + 1, 0) (((t.us.set n y).take i).map tmDV)]) ∧
      σ.h (k + 1 + 1 + 1, 0) = some (.perm 27 ((t.us.set n y).take i).length) ∧ Fr k h0 σ.h ∧ k + 1 + 1 + 1 < σ.k ∧ i ≤ t.us.length) (fun σ => t.us.length - (intOf' (σ.t 8)).toNat) ?_ ?_
    · refine ⟨0, ?_⟩
      simp only [go_sem, List.take_zero]
      and_intros; all_goals try (first | rfl | omega | assumption | ((repeat (first | exact Fr.rfl' _ _ | assumption | refine Fr.updk ?_ (by omega) _)); done))
    · rintro σ ⟨i, s1, s3, s5, s6, s7, s8, sh, sh1, sh2, so, sp, hF, hk, hi⟩
      have hne := ltne (show k < σ.k by omega)
      have hne1 := ltne (show k + 1 + 1 < σ.k by omega)
      have hne2 := ltne hk
      have hml : ((t.us.set n y).take i).length = i := by rw [List.length_take, List.length_set]; omega
      rcases Nat.lt_or_ge i t.us.length with hlt | hge
      · have hz2 : (i : Int) < (t.us.length : Int) := by omega
        have e1 : (t.us.map tmDV).getD i default = tmDV t.us[i] := nth_map tmDV hlt _
        have e0 : (((n : Int) :: p).map iD).getD 0 default = iD n := rfl
        have hst := setAt_take (n := n) hlt y
        have hml' : ((t.us.set n y).take (i + 1)).length = i + 1 := by rw [List.length_take, List.length_set]; omega
        cases hc : ((i : Int) == (n : Int)) with
        | true =>
          have hin : n = i := by simp at hc; omega
          subst hin
          rw [if_pos rfl] at hst
          have etk : ((t.us.set n y).take n).map tmDV ++ [tmDV y] = ((t.us.set n y).take (n + 1)).map tmDV := by rw [hst]; simp
          repeat' (first | refine awp_seq_k fun K hK => ?_ | ((first | refine awp_region_k (by kernel_rfl) fun R hR => ?_ | refine awp_draw mixed (by kernel_rfl) (by kernel_rfl) fun R hR => ?_); simp only [go_sem, s1, s3, s5, s6, s7, s8, sh, sh1, sh2, so, sp, hz2, e1, e0, hc, hne, hne1, hne2, hml, htk, ht1, ht0, beq_self_eq_true, List.length_map, Int.toNat_natCast]) | ((first | (refine hR _ ?_; clear hR R) | refine awp_skip ?_ | refine awp_exit ?_ | refine awp_ret ?_); try simp only [thenA, inBlockA, reduceIte, reduceCtorEq, Nat.reduceEqDiff, if_false, if_true]) | ((first | refine hK _ ?_ | (clear hK K; first | refine hK _ ?_ | (clear hK K; first | refine hK _ ?_ | (clear hK K; first | refine hK _ ?_ | (clear hK K; refine hK _ ?_))))); clear hK K) | refine awp_true rfl rfl ?_ | refine awp_false rfl rfl ?_ | refine awp_block ?_ | ((first | refine CallK.pure (enter60) (ih) ?_ ?_ | refine CallD.pure (enter60) (ih) ?_ ?_); (focus first | ((repeat (first | exact trivial | refine ⟨(by first | exact Or.inl rfl | exact Or.inr rfl), ?_⟩)); done) | (simp only [coL, AV.dat, true_or, or_true, AV.d.injEq, go_sem]; done)); simp only [go_sem, s1, s3, s5, s6, s7, s8, sh, sh1, sh2, so, sp, hz2, e1, e0, hc, hne, hne1, hne2, hml, htk, ht1, ht0, beq_self_eq_true, List.length_map, Int.toNat_natCast]) | refine And.intro (by first | ((repeat' first | omega | exact trivial | rfl | assumption | (intro a e; subst e; rfl) | exact map_sz fun a => (by simp only [go_sem]) | refine And.intro ?_ ?_); done) | fail) ?_ | fail)
          refine ⟨⟨n + 1, ?_⟩, ?_⟩
          rotate_left
          · simp only [go_sem, s1, s3, s5, s6, s7, s8, sh, sh1, sh2, so, sp, hne, hne1, hne2, etk, hml, hml', List.length_map]; omega
          simp only [go_sem, s1, s3, s5, s6, s7, s8, sh, sh1, sh2, so, sp, hne, hne1, hne2, etk, hml, hml', List.length_map]
          and_intros; all_goals try (first | rfl | omega | assumption | ((repeat (first | exact Fr.rfl' _ _ | assumption | refine Fr.updk ?_ (by omega) _)); done))
        | false =>
          have hin : n ≠ i := fun e => by subst e; simp at hc
          rw [if_neg hin] at hst
          have etk : ((t.us.set n y).take i).map tmDV ++ [tmDV t.us[i]] = ((t.us.set n y).take (i + 1)).map tmDV := by rw [hst]; simp
          repeat' (first | refine awp_seq_k fun K hK => ?_ | ((first | refine awp_region_k (by kernel_rfl) fun R hR => ?_ | refine awp_draw mixed (by kernel_rfl) (by kernel_rfl) fun R hR => ?_); simp only [go_sem, s1, s3, s5, s6, s7, s8, sh, sh1, sh2, so, sp, hz2, e1, e0, hc, hne, hne1, hne2, hml, ht0, List.length_map, Int.toNat_natCast]) | ((first | (refine hR _ ?_; clear hR R) | refine awp_skip ?_ | refine awp_exit ?_ | refine awp_ret ?_); try simp only [thenA, inBlockA, reduceIte, reduceCtorEq, Nat.reduceEqDiff, if_false, if_true]) | ((first | refine hK _ ?_ | (clear hK K; first | refine hK _ ?_ | (clear hK K; first | refine hK _ ?_ | (clear hK K; first | refine hK _ ?_ | (clear hK K; refine hK _ ?_))))); clear hK K) | refine awp_true rfl rfl ?_ | refine awp_false rfl rfl ?_ | refine awp_block ?_ | refine And.intro (by first | ((repeat' first | omega | exact trivial | rfl | assumption | (intro a e; subst e; rfl) | exact map_sz fun a => (by simp only [go_sem]) | refine And.intro ?_ ?_); done) | fail) ?_ | fail)
          refine ⟨⟨i + 1, ?_⟩, ?_⟩
          rotate_left
          · simp only [go_sem, s1, s3, s5, s6, s7, s8, sh, sh1, sh2, so, sp, hne, hne1, hne2, etk, hml, hml', List.length_map]; omega
          simp only [go_sem, s1, s3, s5, s6, s7, s8, sh, sh1, sh2, so, sp, hne, hne1, hne2, etk, hml, hml', List.length_map]
          and_intros; all_goals try (first | rfl | omega | assumption | ((repeat (first | exact Fr.rfl' _ _ | assumption | refine Fr.updk ?_ (by omega) _)); done))
      · have hz2 : ¬ ((i : Int) < (t.us.length : Int)) := by omega
        obtain rfl : i = t.us.length := by omega
        have hta : (t.us.set n y).take t.us.length = t.us.set n y := List.take_of_length_le (by rw [List.length_set]; omega)
        rw [hta] at so sp
        repeat' (first | refine awp_seq_k fun K hK => ?_ | ((first | refine awp_region_k (by kernel_rfl) fun R hR => ?_ | refine awp_draw mixed (by kernel_rfl) (by kernel_rfl) fun R hR => ?_); simp only [go_sem, s1, s3, s5, s6, s7, s8, sh, sh1, sh2, so, sp, hz2, hne, hne1, hne2]) | ((first | (refine hR _ ?_; clear hR R) | refine awp_skip ?_ | refine awp_exit ?_ | refine awp_ret ?_); try simp only [thenA, inBlockA, reduceIte, reduceCtorEq, Nat.reduceEqDiff, if_false, if_true]) | ((first | refine hK _ ?_ | (clear hK K; first | refine hK _ ?_ | (clear hK K; first | refine hK _ ?_ | (clear hK K; first | refine hK _ ?_ | (clear hK K; refine hK _ ?_))))); clear hK K) | refine awp_true rfl rfl ?_ | refine awp_false rfl rfl ?_ | refine awp_block ?_ | refine And.intro (by first | ((repeat' first | omega | exact trivial | rfl | assumption | (intro a e; subst e; rfl) | exact map_sz fun a => (by simp only [go_sem]) | refine And.intro ?_ ?_); done) | fail) ?_ | fail)
        (first | refine ret_pure ?_ ?_ ?_ | refine ret_ro ?_ ?_ ?_); focus exact (by simp only [Try.results60, resOkL, resOk, Try.ntmps60, List.toList_toArray]; first | decide | (simp only [go_sem, s6, hne, hne1, hne2]; done) | (simp only [go_sem, s6, hne, hne1, hne2]; and_intros <;> first | omega | rfl | decide))
        rotate_left; focus exact (by repeat (first | exact Fr.rfl' _ _ | assumption | refine Fr.updk ?_ (by omega) _))
        simp only [resA, resV, Try.results60, go_sem, s6, hne, hne1, hne2]
        all_goals try (first | exact Co.t2 (.dat rfl) (.dat rfl) | exact Co.t3 (.dat rfl) (.dat rfl) (.dat rfl))
        all_goals exact co_tm rfl
end Go.Proofs.Ytmeekpinkfpnhaa
namespace Go.Proofs.Ytmeekpinkfpnhaa
open Go.RowKit
section
variable {P : Program} {w0 : World} {nn : Nat} {Q : Exit → St → Prop} {s : St}
def flatC (ys : List DV) : List AV := ys.flatMap fun y => y.cells.map AV.d
theorem flatC_len {sz : Nat} : ∀ {ys : List DV}, (∀ y ∈ ys, y.cells.length = sz) → (flatC ys).length = ys.length * sz
  | [], _ => by simp [flatC]
  | y :: ys, h => by
    have h1 := h y (by simp)
    have h2 := flatC_len (ys := ys) fun z hz => h z (List.mem_cons_of_mem _ hz)
    simp only [flatC, List.flatMap_cons, List.length_append, List.length_map, List.length_cons] at h2 ⊢
    rw [h1, h2, Nat.add_mul]; omega
theorem flatC_at {sz : Nat} : ∀ {ys : List DV}, (∀ y ∈ ys, y.cells.length = sz) → ∀ {i j : Nat} {x d : DV}, ys[i]? = some x → x.cells[j]? = some d → (flatC ys)[i * sz + j]? = some (.d d)
  | y :: ys, h, i, j, x, d, hx, hd => by
    have h1 := h y (by simp)
    simp only [flatC, List.flatMap_cons]
    cases i with
    | zero =>
      simp at hx; subst hx
      have hj := (List.getElem?_eq_some_iff.1 hd).1
      rw [Nat.zero_mul, Nat.zero_add, List.getElem?_append_left (by rw [List.length_map]; exact hj), List.getElem?_map, hd]; rfl
    | succ i =>
      have hx : ys[i]? = some x := by simpa using hx
      have h2 := flatC_at (fun z hz => h z (List.mem_cons_of_mem _ hz)) hx hd
      have e : (i + 1) * sz + j = sz + (i * sz + j) := by rw [Nat.add_mul]; omega
      rw [e, List.getElem?_append_right (by rw [List.length_map, h1]; omega), List.length_map, h1]
      rw [show sz + (i * sz + j) - sz = i * sz + j by omega]
      exact h2
theorem R.dat2 {m : Mem} {β : Bl} {x : Value} {d : DV} (h : R m β x (.d d)) : RD m x d := by cases h; assumption
theorem ghost_freeze {i : Nat} {n : Nm} {e : TypeId} {ys : List DV} {len sz : Nat} (hi : s.t i = .arr n 0 len) (hob : s.h n = some (.cells e (flatC ys))) (hl : len = ys.length) (hsz : ∀ y ∈ ys, y.cells.length = sz) : Ghost P w0 nn s ⟨set s.t i (.d (.sl ys)), upd s.h n none, s.k⟩ := by
  intro m β a w h1 h2 h3
  obtain ⟨p, hp, hv, c, c1, c2, c3, c4⟩ := h2.obj n _ hob
  have hlen := flatC_len hsz
  -- what is frozen now
  obtain ⟨f, hf⟩ : ∃ f : Nat → Option Value, ∀ o, f o = if o < ys.length * sz then c[o]? else none := ⟨_, fun _ => rfl⟩
  have hle := Mem.add_le m p.1 f
  have hnew : ∀ o, m.add p.1 f p.1 o = f o := fun o => Mem.add_new _ _ (c4 o)
  refine ⟨m.add p.1 f, β, Nat.le_refl _, ⟨hle, .rfl' β, ⟨h2.ext, fun b o v hm => ?_, h2.dom, fun x q ob hx ho hr => ?_, fun x ob ho => ?_, fun x y q q' ob ob' g1 g2 g3 g4 g5 g6 => ?_⟩, fun j v hj => ?_⟩, fun _ _ h => h⟩
  · by_cases hb : b = p.1
    · subst hb
      rw [hnew, hf] at hm
      split at hm
      · rename_i hlt
        refine ⟨?_, ?_⟩
        · unfold World.cell?
          rw [c1]; exact hm
        · exact (c3 o v _ hm (List.getElem?_eq_getElem (by rw [hlen]; exact hlt))).1
      · cases hm
    · rw [Mem.add_ne _ _ hb] at hm; exact h2.mem b o v hm
  · have hxn : x ≠ n := fun e => by subst e; simp [upd] at ho
    have ho : upd s.h n none x = some ob := ho
    rw [upd_ne _ _ hxn] at ho
    exact h2.new x q ob hx ho hr
  · have hxn : x ≠ n := fun e => by subst e; simp [upd] at ho
    have ho : upd s.h n none x = some ob := ho
    rw [upd_ne _ _ hxn] at ho
    obtain ⟨q, hq, hobk⟩ := h2.obj x ob ho
    refine ⟨q, hq, hobk.keep hle (.rfl' β) fun hr => ⟨rfl, fun o => ?_⟩⟩
    refine Mem.add_ne _ _ (fun e => hxn (h2.inj x n q p ob _ ho hob hq hp hr trivial e)) o
  · have hxn : x ≠ n := fun e => by subst e; simp [upd] at g1
    have hyn : y ≠ n := fun e => by subst e; simp [upd] at g2
    have g1 : upd s.h n none x = some ob := g1
    have g2 : upd s.h n none y = some ob' := g2
    rw [upd_ne _ _ hxn] at g1
    rw [upd_ne _ _ hyn] at g2
    exact h2.inj x y q q' ob ob' g1 g2 g3 g4 g5 g6
  · show R _ _ v (set s.t i _ j)
    unfold set
    split
    · subst_vars
      have := h3 _ v hj
      rw [hi] at this
      generalize hA : AV.arr n 0 ys.length = A at this
      cases this with
      | @arr n' off' len' cap o q hb hver hc hm ho =>
        cases hA
        rw [hp] at hb; cases hb
        refine .d ?_
        by_cases h0 : ys.length = 0
        · have : ys = [] := List.eq_nil_of_length_eq_zero h0
          subst this
          exact .sl (sz := sz) rfl hc hm hsz (fun i j x d hx => by simp at hx) (fun i j x d cv hx => by simp at hx)
        · have ho : o = 0 := by rcases ho with ho | ho; exact absurd ho h0; exact ho
          subst ho
          have cell : ∀ (i j : Nat) (x d : DV), ys[i]? = some x → x.cells[j]? = some d → ∃ cv, m.add p.1 f p.1 (0 + i * sz + j) = some cv ∧ RD (m.add p.1 f) cv d := by
            intro i j x d hx hd
            have h4 := flatC_at hsz hx hd
            have hlt : i * sz + j < ys.length * sz := by rw [← hlen]; exact (List.getElem?_eq_some_iff.1 h4).1
            have hcs : i * sz + j < c.size := by omega
            have h5 := Array.getElem?_eq_getElem hcs
            refine ⟨c[i * sz + j], ?_, ?_⟩
            · rw [Nat.zero_add, hnew, hf, if_pos hlt]; exact h5
            · have hr := (c3 _ _ _ h5 h4).2
              exact hr.dat2.mono hle
          exact .sl (sz := sz) rfl hc hm hsz (fun i j x d hx hd => let ⟨cv, q1, _⟩ := cell i j x d hx hd; ⟨cv, q1⟩) fun i j x d cv hx hd hcv => by
            obtain ⟨cv', q1, q2⟩ := cell i j x d hx hd
            rw [hcv] at q1; cases q1; exact q2
      | _ => cases hA
    · exact (h3 j v hj).mono hle (.rfl' β)
def arrE (e : TypeId) (n' : Nm) (len : Nat) (cs : List AV) : Eff := ⟨.arr n' 0 len, [(n', none)], [(n', some (.cells e cs))]⟩
end
attribute [go_sem] arrE
end Go.Proofs.Ytmeekpinkfpnhaa
namespace Go.Proofs.Ytmeekpinkfpnhaa
open Go.RowKit
section
variable {P : Program} {w0 w w' : World} {h : Heap} {k : Nat} {m : Mem} {β : Bl}
theorem HRel.onto (H : HRel P w0 h k m β w) (hx : Below w.heap.size w w') : HRel P w0 h k m β w' := by
  refine ⟨H.ext.trans (hx.mono H.size), fun b o v hv => ?_, H.dom, H.new, fun n ob ho => ?_, H.inj⟩
  · obtain ⟨h1, h2⟩ := H.mem b o v hv
    exact ⟨(hx.cell (p := ⟨b, o, none⟩) (H.mem_lt hv)).trans h1, h2⟩
  · obtain ⟨p, hp, hob⟩ := H.obj n ob ho
    exact ⟨p, hp, hob.keep (.rfl' m) (.rfl' β) fun hr => ⟨hx.block _ (hob.lt hr), fun _ => rfl⟩⟩
def Flat (d : DV) : Prop := ∀ (m m' : Mem) (x : Value), RD m x d → RD m' x d
theorem Flat.int (n : Int) : Flat (.v (.int .i64 n)) := by
  intro m m' x h
  cases h with
  | v h => exact .v h
theorem Tri.thaw {f : FuncId} {az : List AV} {e : TypeId} {n' : Nm} {ys : List DV} (h : Tri P f az ⟨.own n' ys, [(n', none)], [(n', some (.perm e ys.length))]⟩) (hd : ∀ a ∈ az, ∃ d, a = .d d) (h0 : 0 < ys.length)
    (hsz : ∀ y ∈ ys, y.cells.length = szT P e) (hfl : ∀ y ∈ ys, ∀ d ∈ y.cells, Flat d) : Tri P f az (arrE e n' ys.length (flatC ys)) := by
  intro w0 hh k m β w cargs H hrd hwr hcs hargs
  have hno : hh n' = none := hrd (n', none) (by simp [arrE])
  obtain ⟨hk, hn0⟩ := hwr (n', some (.cells e (flatC ys))) (by simp [arrE])
  have hbn : β n' = none := hn0 hno
  have hk : n'.1 < k := hk
  have HE : HRel P w (fun _ => none) k m (fun _ => none) w := ⟨.refl _ _, H.mem, fun n p hp => (by cases hp), fun n p ob hp => (by cases hp), fun n ob ho => (by cases ho), fun n n' p p' ob ob' ho => (by cases ho)⟩
  refine (h w (fun _ => none) k m (fun _ => none) w cargs HE (fun x hx => ?_) (fun x hx => ?_) hcs (fun i v a hv ha => ?_)).mono ?_
  · simp only [List.mem_cons, List.not_mem_nil, or_false] at hx; subst hx; rfl
  · simp only [List.mem_cons, List.not_mem_nil, or_false] at hx; subst hx; exact ⟨hk, fun _ => rfl⟩
  · obtain ⟨d, rfl⟩ := hd a (List.mem_of_getElem? ha)
    exact .d (hargs i v _ hv ha).dat2
  rintro en w' ⟨v, m', β', rfl, g1, g2, g3, g4, g5⟩
  have hob : (Eff.ap ⟨.own n' ys, [(n', none)], [(n', some (.perm e ys.length))]⟩ (fun _ => none)) n' = some (.perm e ys.length) := by
    simp [Eff.ap, upd]
  generalize Eff.ap ⟨.own n' ys, [(n', none)], [(n', some (.perm e ys.length))]⟩ (fun _ => none) = hx at hob g4
  obtain ⟨p, hp, hver, hcase⟩ := g4.obj n' _ hob
  generalize hA : AV.own n' ys = A at g5
  cases g5 with
  | own hr hb hv hl ha =>
    cases hA
    rw [hp] at hb; cases hb
    rw [hver] at hv; cases hv
    obtain ⟨a, rfl, hb'⟩ := ha rfl
    have ha' : a = some ⟨p.1, 0, none⟩ := hb'.resolve_left (by omega)
    subst ha'
    rcases hcase with ⟨h1, _⟩ | ⟨c, c1, c2, c3, c4⟩
    · omega
    have hnew : w.heap.size ≤ p.1 := g4.new n' p _ hp hob (show ¬ (ys.length = 0 ∧ p.2 = 0) by omega)
    have key : ∀ {x : Value} {xs : List DV}, RD m' x (.sl xs) → ∀ {a : Option Addr} {n cap : Nat}, x = .slice a n cap → cap ≤ maxLen := by
      intro x xs h a n cap e
      cases h with
      | nil => cases e; exact Nat.zero_le _
      | sl hn hc hm => cases e; exact hm
    have hcap : p.2 ≤ maxLen := key hr rfl
    have H1 := H.onto g4.ext
    have hfr : ∀ o, m p.1 o = none := fun o => H.fresh hnew o
    have hlen := flatC_len hsz
    have hdat : ∀ (q : Nat) (v : Value) (a : AV), c[q]? = some v → (flatC ys)[q]? = some a → v.oneCell' = true ∧ R m (updB β n' ⟨p.1, 0, none⟩) v a := by
      intro q v a hq ha
      have hlt : q < ys.length * szT P e := by
        have := (List.getElem?_eq_some_iff.1 ha).1
        rw [hlen] at this; exact this
      have hpos : 0 < szT P e := by
        rcases Nat.eq_zero_or_pos (szT P e) with h | h
        · rw [h] at hlt; omega
        · exact h
      have hi : q / szT P e < ys.length := Nat.div_lt_of_lt_mul (by rw [Nat.mul_comm]; exact hlt)
      have hx := List.getElem?_eq_getElem hi
      have hy := List.getElem_mem hi
      have hj : q % szT P e < (ys[q / szT P e]).cells.length := by rw [hsz _ hy]; exact Nat.mod_lt _ hpos
      have hdd := List.getElem?_eq_getElem hj
      obtain ⟨cv, k1, k2⟩ := hr.cell hsz hx hdd
      have eq : 0 + q / szT P e * szT P e + q % szT P e = q := by
        have := Nat.div_add_mod q (szT P e)
        rw [Nat.mul_comm] at this; omega
      have g3 := flatC_at hsz hx hdd
      rw [Nat.zero_add] at eq
      rw [eq, ha] at g3
      cases g3
      rw [Nat.zero_add, eq] at k1
      obtain ⟨l1, l2⟩ := g4.mem _ _ _ k1
      have l3 : c[q]? = some cv := by simpa [World.cell?, c1] using l1
      rw [hq] at l3; cases l3
      exact ⟨l2, .d (hfl _ hy _ (List.getElem_mem hj) _ _ _ k2)⟩
    refine ⟨_, m, updB β n' ⟨p.1, 0, none⟩, rfl, .rfl' m, updB_le (le_new hbn), fun x hx hx0 => updB_none (fun e => hx _ (by simp [arrE]; rfl) e.symm) hx0, ?_, .arr (p := ⟨p.1, 0, none⟩) (updB_self _ _ _) rfl (by omega) hcap (.inr rfl)⟩
    refine H1.upd1 (le_new hbn) hk H1.ext (.rfl' m) H1.mem ⟨rfl, c, c1, ?_, hdat, hfr⟩ (fun _ => Nat.le_trans H.size hnew) ?_
    · rw [hlen, c2]; exact Nat.mul_le_mul_right _ c3
    · intro x p' ob' _ hx hp' hr'
      have := H.lt hx hp' hr'
      refine ⟨fun _ => ?_, rfl, fun _ => rfl⟩
      show p'.1 ≠ p.1
      omega
  | _ => cases hA
end
end Go.Proofs.Ytmeekpinkfpnhaa
namespace Go.Proofs.Ytmeekpinkfpnhaa
open Go.RowKit
theorem wpList_ran {P : Program} {ops : Array Oper} {rest : List Oper} {o : Oper} {a : Act} {w w' : World} {Q : Exit → Act → World → Prop} (hgd : o.guard = none) (s x : Operand) (t : TypeId)
    (ho : o.op = .call { callee := .builtin .append, args := #[s, x], argTypes := #[t, t] }) {vs vx v : Value} (hs : a.eval s = vs) (hx : a.eval x = vx) (hrun : (Builtin.append_ #[t, t] o.type #[vs, vx]).run P w = .ok v w')
    (k : wpList P ops Q rest (a.put o.dst v) w') : wpList P ops Q (o :: rest) a w :=
  wpList_plain hgd fun _ hK => by
    unfold Oper.wp execOp
    simp only [ho, resolve, invoke, builtin, Sem.run_bind, Sem.run_pure, Result.andThen_ok, List.map_toArray, List.map_cons, List.map_nil, hs, hx, hrun]
    exact hK _ _ k
theorem CallK.arr {P : Program} {ops : Array Oper} {rest : List Oper} {s : St} {K : St → Prop} {tick i : Nat} {dst : Option Tmp} {g : FuncId} {args : Array Operand} {ats : Array TypeId} {ty : TypeId} {pos : String} {after : Array Edge} {guard : Option (Nat × Bool)} {az : List AV} {e : TypeId} {len : Nat} {cs : List AV} (hi : i % 1000 = i) (hent : enterOk P g) (ht : ∀ n', Tri P g az (arrE e n' len cs))
    (hco : coL (args.toList.map s.ev) az) (hrd : s.h (tick, i) = none) (hk : runL P ops tick rest (i + 1) (s.step ⟨dst, .call ⟨.value (.func g), args, ats⟩, ty, pos, after, guard⟩ (arrE e (tick, i) len cs)) K) : CallK P ops tick i ⟨dst, .call ⟨.value (.func g), args, ats⟩, ty, pos, after, guard⟩ rest s K :=
  CallK.eff hent (ht (tick, i)) hco (fun x hx => by simp only [arrE, List.mem_cons, List.not_mem_nil, or_false] at hx; subst hx; exact hrd) (fun x hx => by simp only [arrE, List.mem_cons, List.not_mem_nil, or_false] at hx; subst hx; exact .inr ⟨rfl, hi⟩) hk
set_option maxHeartbeats 1000000 in
set_option maxRecDepth 20000 in
theorem cloneA_terms (l : List (Tm)) (hl : l.length ≤ 4000000) (h0 : 0 < l.length) (n' : Nm) : Tri Try.prog 132 [.d (.sl (l.map tmDV))] (arrE 27 n' l.length (flatC (l.map tmDV))) := by
  intro w0 h k m β w cargs H hrd hwr hsz hargs
  have hno : h n' = none := hrd (n', none) (by simp [arrE])
  obtain ⟨hk, hn0⟩ := hwr (n', some (.cells 27 (flatC (l.map tmDV)))) (by simp [arrE])
  have hbn : β n' = none := hn0 hno
  have hk : n'.1 < k := hk
  obtain ⟨v, rfl⟩ : ∃ v, cargs = #[v] := by
    obtain ⟨l⟩ := cargs
    match l, hsz with
    | [v], _ => exact ⟨v, rfl⟩
  have hv := (hargs 0 v (.d (.sl (l.map tmDV))) (by simp) (by simp)).dat2
  have hszs : ∀ y ∈ l.map tmDV, y.cells.length = 3 := map_sz (by intro a; simp only [go_sem])
  obtain ⟨a, cap, news, rfl, q1, q2, hN, hF, q4⟩ := loaded (P := Try.prog) hv hszs (fun b o v hm => (H.mem b o v hm).2)
  rw [List.length_map] at q1 hF hv ⊢
  have ha : a ≠ none := fun e => by have := q4 e; omega
  obtain ⟨⟨b, o, el⟩, rfl⟩ := Option.ne_none_iff_exists'.1 ha
  have hq := fun (w : World) (a : Option Addr) (n c n' c' : Nat) => Lib.run_eql_slice_nil (P := Try.prog) w 25 _ a n c n' c' Try.underlying25
  have eT : elT Try.prog 25 = 27 := by kernel_rfl
  have eS : szT Try.prog 27 = 3 := by kernel_rfl
  have eB : bytesT Try.prog 27 ≤ 1024 := by decide +kernel
  obtain ⟨i, z, hi, hz0, hzs, hsi, h1, _⟩ := zeroOk_of (P := Try.prog) (t := 27) (by kernel_rfl)
  rw [eS] at hzs
  have hfc : ∀ w' : World, (∀ b o v, m b o = some v → w'.cell? ⟨b, o, none⟩ = some v) → (Builtin.firstCells (szT Try.prog (elT Try.prog 25)) l.length (.slice (some ⟨b, o, el⟩) l.length cap)).run Try.prog w' = .ok news.toArray w' := fun w' h' => by rw [eT, eS]; exact hF w' h'
  have hcell : ∀ b o v, m b o = some v → (w.alloc (.cells #[] 27)).drew.cell? ⟨b, o, none⟩ = some v := fun b o v hv =>
    (World.cell?_alloc_lt w _ ⟨b, o, none⟩ (H.mem_lt hv)).trans (H.mem b o v hv).1
  have hap := run_app_new (P := Try.prog) (w := w.alloc (.cells #[] 27)) (t := 25) (base := some ⟨w.heap.size, 0, none⟩) (sLen := 0) (sCap := 0) (n := l.length) (vx := .slice (some ⟨b, o, el⟩) l.length cap) (olds := []) (news := news) (i := i) (z := z) (by kernel_rfl) (by rw [eT]; exact hi) hz0
    (by simp [Builtin.lenOf]) (hfc _ hcell) (by simp [Builtin.firstCells, loadCells, loadCellsFrom]) (by omega) (by omega) (by rw [eT]; exact eB)
  rw [eT, Nat.zero_add] at hap
  have hge := grownCap_ge (w.alloc (.cells #[] 27)) l.length 0 27
  have hle := grownCap_le_maxLen (w.alloc (.cells #[] 27)) l.length 0 27 (by unfold maxLen; omega)
  generalize grownCap (w.alloc (.cells #[] 27)) l.length 0 27 = nc at hap hge hle
  generalize hC : ([] : List Value).toArray ++ (news.toArray ++ Builtin.zeroCells z.cells (nc - l.length)) = C at hap
  have hlC : l.length * 3 ≤ C.size := by
    rw [← hC]
    simp only [Array.size_append, List.size_toArray, hN.len, List.length_map, List.length_nil]
    omega
  have hCx : ∀ q, q < l.length * 3 → C[q]? = news[q]? := fun q hq => by
    rw [← hC, Array.getElem?_append_right (by simp), Array.getElem?_append_left (by simp [hN.len]; exact hq)]
    simp
  clear hC
  go_enter Try.func132, Try.ntmps132
  go_wp2_with (at_builtin; refine wpList_ran rfl _ _ 25 rfl rfl rfl (hap _) ?_)
  go_wp2
  go_ret
  have H1 := (H.grow (w' := (w.alloc (.cells #[] 27)).drew) (Ext.one w _).draw)
  have hfl := flatC_len hszs
  have esz : ((w.alloc (.cells #[] 27)).drew).heap.size = w.heap.size + 1 := by simp
  have hdat : ∀ (q : Nat) (v : Value) (a : AV), C[q]? = some v → (flatC (l.map tmDV))[q]? = some a → v.oneCell' = true ∧ R m β v a := by
    intro q v a hq ha
    have hlt : q < l.length * 3 := by
      have := (List.getElem?_eq_some_iff.1 ha).1
      rw [hfl, List.length_map] at this; exact this
    have hi : q / 3 < l.length := Nat.div_lt_of_lt_mul (by omega)
    have hx : (l.map tmDV)[q / 3]? = some (tmDV l[q / 3]) := by rw [List.getElem?_map, List.getElem?_eq_getElem hi]; rfl
    have hlen := hszs (tmDV l[q / 3]) (List.mem_map.2 ⟨_, List.getElem_mem hi, rfl⟩)
    have hj : q % 3 < (tmDV l[q / 3]).cells.length := by rw [hlen]; exact Nat.mod_lt _ (by decide)
    have hd := List.getElem?_eq_getElem hj
    obtain ⟨_, cv, g1, g2⟩ := hN.get _ _ _ _ hx hd
    have g3 := flatC_at hszs hx hd
    have eq : q / 3 * 3 + q % 3 = q := by have := Nat.div_add_mod q 3; omega
    rw [eq] at g1 g3
    rw [g3] at ha; cases ha
    rw [hCx q hlt, g1] at hq; cases hq
    exact ⟨hN.one _ (List.mem_of_getElem? g1), .d g2⟩
  have H2 := H1.alloc hbn hk (c := C) (e := 27) (cs := flatC (l.map tmDV)) (by rw [hfl, List.length_map]; exact hlC) hdat
  rw [esz] at H2
  refine ⟨_, rfl, m, .rfl' m, updB β n' ⟨w.heap.size + 1, 0, none⟩, updB_le (le_new hbn), ?_, H2, .arr (p := ⟨w.heap.size + 1, 0, none⟩) (updB_self _ _ _) rfl hge hle (.inr rfl)⟩
  intro a b hx h0
  exact updB_none (fun e => hx e.symm) h0
end Go.Proofs.Ytmeekpinkfpnhaa
namespace Go.Proofs.Ytmeekpinkfpnhaa
open Go.RowKit
theorem setR_app : ∀ (xs pre old post : List AV), old.length = xs.length → setR (pre ++ (old ++ post)) pre.length xs = pre ++ (xs ++ post)
  | [], pre, old, post, h => by
    have : old = [] := List.eq_nil_of_length_eq_zero h
    subst this; rfl
  | x :: xs, pre, o :: old, post, h => by
    rw [setR]
    have e : (pre ++ (o :: old ++ post)).set pre.length x = (pre ++ [x]) ++ (old ++ post) := by
      rw [List.set_append_right _ _ (Nat.le_refl _)]; simp
    have h1 := setR_app xs (pre ++ [x]) old post (by simpa using h)
    rw [e, show pre.length + 1 = (pre ++ [x]).length by simp, h1]; simp
theorem flatC_cut {sz : Nat} {ys : List DV} (h : ∀ y ∈ ys, y.cells.length = sz) {i : Nat} (hi : i < ys.length) : ∃ pre post, pre.length = i * sz ∧ flatC ys = pre ++ (ys[i].cells.map AV.d ++ post) ∧ ∀ y : DV, flatC (ys.set i y) = pre ++ (y.cells.map AV.d ++ post) := by
  refine ⟨flatC (ys.take i), flatC (ys.drop (i + 1)), ?_, ?_, fun y => ?_⟩
  · rw [flatC_len fun y hy => h y (List.mem_of_mem_take hy), List.length_take, Nat.min_eq_left (by omega)]
  · have e : ys = ys.take i ++ ys[i] :: ys.drop (i + 1) := by rw [← List.drop_eq_getElem_cons hi, List.take_append_drop]
    refine (congrArg flatC e).trans ?_
    simp only [flatC, List.flatMap_append, List.flatMap_cons]
  · rw [List.set_eq_take_append_cons_drop, if_pos hi]; simp [flatC]
theorem setR_flat {sz : Nat} {ys : List DV} (h : ∀ y ∈ ys, y.cells.length = sz) {i : Nat} (hi : i < ys.length) {y : DV} (hy : y.cells.length = sz) : setR (flatC ys) (i * sz) (y.cells.map AV.d) = flatC (ys.set i y) := by
  obtain ⟨pre, post, h1, h2, h3⟩ := flatC_cut h hi
  rw [h2, h3, ← h1]
  exact setR_app _ _ _ _ (by rw [List.length_map, List.length_map, h _ (List.getElem_mem hi), hy])
theorem flatC_read {sz : Nat} {ys : List DV} (h : ∀ y ∈ ys, y.cells.length = sz) {i : Nat} (hi : i < ys.length) : ((flatC ys).drop (i * sz)).take sz = ys[i].cells.map AV.d := by
  obtain ⟨pre, post, h1, h2, _⟩ := flatC_cut h hi
  rw [h2, ← h1, List.drop_left, List.take_left' (by rw [List.length_map]; exact h _ (List.getElem_mem hi))]
set_option maxHeartbeats 1000000 in
set_option maxRecDepth 20000 in
theorem lay_tri : ∀ (p : List Int) (t u x : Tm), atG t p = some x → p.length ≤ 4000000 → t.size ≤ 4000000 → Tri Try.prog 106 [.d (tmDV t), .d (.sl (p.map iD)), .d (tmDV u)] (pure' (.d (tmDV (layG t p u))))
  | [], t, u, x, _, _, _ => by
    have hz : ((((0 : Nat) : Int)) == 0) = true := rfl
    rw [layG]
    refine tri_enter Try.func106 rfl Try.ntmps106 (by simp only [List.length_cons, List.length_nil]; omega) fun w0 h0 k hrd hwr => ?_
    repeat' (first | refine awp_seq_k fun K hK => ?_ | ((first | refine awp_region_k (by kernel_rfl) fun R hR => ?_ | refine awp_draw mixed (by kernel_rfl) (by kernel_rfl) fun R hR => ?_); simp only [go_sem, hz]) | ((first | (refine hR _ ?_; clear hR R) | refine awp_skip ?_ | refine awp_exit ?_ | refine awp_ret ?_); try simp only [thenA, inBlockA, reduceIte, reduceCtorEq, Nat.reduceEqDiff, if_false, if_true]) | ((first | refine hK _ ?_ | (clear hK K; first | refine hK _ ?_ | (clear hK K; first | refine hK _ ?_ | (clear hK K; first | refine hK _ ?_ | (clear hK K; refine hK _ ?_))))); clear hK K) | refine awp_true rfl rfl ?_ | refine awp_false rfl rfl ?_ | refine awp_block ?_ | refine And.intro (by first | ((repeat' first | omega | exact trivial | rfl | assumption | (intro a e; subst e; rfl) | exact map_sz fun a => (by simp only [go_sem]) | refine And.intro ?_ ?_); done) | fail) ?_ | fail)
    (first | refine ret_pure ?_ ?_ ?_ | refine ret_ro ?_ ?_ ?_); focus exact (by simp only [Try.results106, resOkL, resOk, Try.ntmps106, List.toList_toArray]; first | decide | (simp only [go_sem]; done) | (simp only [go_sem]; and_intros <;> first | omega | rfl | decide))
    rotate_left; focus exact (by repeat (first | exact Fr.rfl' _ _ | assumption | refine Fr.updk ?_ (by omega) _))
    simp only [resA, resV, Try.results106, go_sem]
    all_goals try (first | exact Co.t2 (.dat rfl) (.dat rfl) | exact Co.t3 (.dat rfl) (.dat rfl) (.dat rfl))
    all_goals exact co_tm' rfl
  | i :: p, t, u, x, ha, hp, ht => by
    obtain ⟨n, hn, rfl, ha'⟩ := atG_some ha
    have hlen := t.len_lt
    rw [List.length_cons] at hp
    have hs := Tm.size_at hn
    have ih := lay_tri p t.us[n] u x ha' (by omega) (by omega)
    rw [layG, Int.toNat_natCast, getD_at hn]
    generalize layG t.us[n] p u = y at ih ⊢
    have hz : ((((p.length + 1 : Nat) : Int)) == 0) = false := by simp; omega
    have htk : (p.map iD).take p.length = p.map iD := List.take_of_length_le (by simp)
    have ht1 : Int.toNat 1 = 1 := rfl
    have ht0 : Int.toNat 0 = 0 := rfl
    have hz2 : (n : Int) < (t.us.length : Int) := by omega
    have hszs : ∀ y ∈ t.us.map tmDV, y.cells.length = 3 := map_sz (by intro a; simp only [go_sem])
    have hn' : n < (t.us.map tmDV).length := by rw [List.length_map]; exact hn
    have aRd := flatC_read hszs hn'
    have aWr := setR_flat hszs hn' (y := tmDV y) (by rw [tmDV_cells]; rfl)
    rw [List.getElem_map, tmDV_cells] at aRd
    rw [tmDV_cells, ← List.map_set] at aWr
    have hfl := flatC_len hszs
    rw [List.length_map] at hfl
    have hb : n * 3 + 3 ≤ t.us.length * 3 := by omega
    simp only [List.map_cons, List.map_nil] at aRd aWr
    have hszs2 : ∀ z ∈ (t.us.set n y).map tmDV, z.cells.length = 3 := map_sz (by intro a; simp only [go_sem])
    have hlen2 : t.us.length = ((t.us.set n y).map tmDV).length := by rw [List.length_map, List.length_set]
    refine tri_enter Try.func106 rfl Try.ntmps106 (by simp only [List.length_cons, List.length_nil]; omega) fun w0 h0 k hrd hwr => ?_
    refine awp_new fun hnew => ?_
    have hnn : NoNew h0 k := hnew
    have hnn := hnn.at
    have hcl := cloneA_terms t.us (by omega) (by omega)
    repeat' (first | (refine CallK.arr rfl (enter132) hcl ?_ ?_ ?_; (focus exact ⟨.inl rfl, trivial⟩); (focus (simp only [go_sem, hnn]; done)); simp only [go_sem, hnn]) | (refine awp_ghost (ghost_freeze (i := 7) (n := (k + 1 + 1, 2)) (e := 27) (ys := (t.us.set n y).map tmDV) (len := t.us.length) (sz := 3) ?_ ?_ hlen2 hszs2) ?_; (focus (simp only [go_sem]; done)); (focus (simp only [go_sem]; done)); simp only [go_sem]) | refine awp_seq_k fun K hK => ?_ | ((first | refine awp_region_k (by kernel_rfl) fun R hR => ?_ | refine awp_draw mixed (by kernel_rfl) (by kernel_rfl) fun R hR => ?_); simp only [go_sem, hz, hz2, hnn, htk, ht1, ht0, hfl, aRd, aWr, hb, beq_self_eq_true, List.length_map, Int.toNat_natCast]) | ((first | (refine hR _ ?_; clear hR R) | refine awp_skip ?_ | refine awp_exit ?_ | refine awp_ret ?_); try simp only [thenA, inBlockA, reduceIte, reduceCtorEq, Nat.reduceEqDiff, if_false, if_true]) | ((first | refine hK _ ?_ | (clear hK K; first | refine hK _ ?_ | (clear hK K; first | refine hK _ ?_ | (clear hK K; first | refine hK _ ?_ | (clear hK K; refine hK _ ?_))))); clear hK K) | refine awp_true rfl rfl ?_ | refine awp_false rfl rfl ?_ | refine awp_block ?_ | ((first | refine CallK.pure (enter106) (ih) ?_ ?_ | refine CallD.pure (enter106) (ih) ?_ ?_); (focus first | ((repeat (first | exact trivial | refine ⟨(by first | exact Or.inl rfl | exact Or.inr rfl), ?_⟩)); done) | (simp only [coL, AV.dat, true_or, or_true, AV.d.injEq, go_sem]; done)); simp only [go_sem, hz, hz2, hnn, htk, ht1, ht0, hfl, aRd, aWr, hb, beq_self_eq_true, List.length_map, Int.toNat_natCast]) | refine And.intro (by first | ((repeat' first | omega | exact trivial | rfl | assumption | (intro a e; subst e; rfl) | exact map_sz fun a => (by simp only [go_sem]) | refine And.intro ?_ ?_); done) | fail) ?_ | fail)
    (first | refine ret_pure ?_ ?_ ?_ | refine ret_ro ?_ ?_ ?_); focus exact (by simp only [Try.results106, resOkL, resOk, Try.ntmps106, List.toList_toArray]; first | decide | (simp only [go_sem]; done) | (simp only [go_sem]; and_intros <;> first | omega | rfl | decide))
    rotate_left; focus exact (by repeat (first | exact Fr.rfl' _ _ | assumption | refine Fr.updk ?_ (by omega) _))
    simp only [resA, resV, Try.results106, go_sem]
    all_goals try (first | exact Co.t2 (.dat rfl) (.dat rfl) | exact Co.t3 (.dat rfl) (.dat rfl) (.dat rfl))
    all_goals exact co_tm rfl
end Go.Proofs.Ytmeekpinkfpnhaa
namespace Go.Proofs.Ytmeekpinkfpnhaa
open Go.RowKit
def firstAt {κ : Type} [DecidableEq κ] (k : κ) : List (κ × Value) → Nat → Option (Nat × Value)
  | [], _ => none
  | (k', v) :: m, i => if k = k' then some (i, v) else firstAt k m (i + 1)
def getAt {κ : Type} [DecidableEq κ] (k : κ) : List (κ × Value) → Option Value
  | [] => none
  | (k', v) :: m => if k = k' then some v else getAt k m
def putAt {κ : Type} [DecidableEq κ] (k : κ) (v : Value) : List (κ × Value) → List (κ × Value)
  | [] => [(k, v)]
  | (k', v') :: m => if k = k' then (k', v) :: m else (k', v') :: putAt k v m
theorem firstAt_get {κ : Type} [DecidableEq κ] (k : κ) : ∀ (m : List (κ × Value)) (i : Nat), (firstAt k m i).map (·.2) = getAt k m
  | [], _ => rfl
  | (k', v) :: m, i => by
    unfold firstAt getAt
    split
    · rfl
    · exact firstAt_get k m (i + 1)
theorem getAt_put {κ : Type} [DecidableEq κ] (k k' : κ) (v : Value) : ∀ (m : List (κ × Value)), getAt k' (putAt k v m) = if k' = k then some v else getAt k' m
  | [] => by
    unfold putAt getAt
    split <;> simp_all [getAt]
  | (k2, v2) :: m => by
    unfold putAt
    by_cases h : k = k2
    · subst h
      rw [if_pos rfl]
      unfold getAt
      split <;> simp_all
    · rw [if_neg h]
      unfold getAt
      rw [getAt_put k k' v m]
      by_cases h2 : k' = k2
      · subst h2; simp [Ne.symm h]
      · simp [h2]
structure KeyOk (P : Program) (kt : TypeId) {κ : Type} [DecidableEq κ] (keyV : κ → Value) : Prop where
  check : ∀ (k : κ) (e : Bool) (w : World), (Instr.checkKey e 10000 kt (keyV k)).run P w = .ok () w
  find : ∀ (k : κ) (es : List MapEntry) (m : List (κ × Value)) (w : World), es.map (fun e => (e.key, e.val)) = m.map (fun p => (keyV p.1, p.2)) → (Instr.findKey kt (keyV k) es).run P w = .ok (firstAt k m 0) w
  bits : ∀ k : κ, Instr.sameBits 10000 (keyV k) (keyV k) = true
set_option maxHeartbeats 1000000 in
theorem keyOk_int {P : Program} {kt : TypeId} (h : P.underlying kt = some (.int .i64)) : KeyOk P kt (fun k : Int => Value.int .i64 k) := by
  refine ⟨fun k e w => ?_, fun k es m w hm => ?_, fun k => ?_⟩
  · have : ∀ d, (Instr.checkKey e (d + 1) kt (.int .i64 k)).run P w = .ok () w := fun d => by simp [Instr.checkKey, run_underlying h]
    obtain ⟨d, hd⟩ : ∃ d, 10000 = d + 1 := ⟨9999, rfl⟩
    rw [hd]; exact this d
  · have hnow : ∀ (es : List MapEntry) (m : List (Int × Value)) (i : Nat), es.map (fun e => (e.key, e.val)) = m.map (fun p => (Value.int .i64 p.1, p.2)) → Instr.findNow (.int .i64) (.int .i64 k) es i = some (firstAt k m i) := by
      intro es
      induction es with
      | nil =>
        intro m i hm
        cases m with
        | nil => rfl
        | cons _ _ => simp at hm
      | cons e es ih =>
        intro m i hm
        cases m with
        | nil => simp at hm
        | cons p m =>
          simp only [List.map_cons, List.cons.injEq, Prod.mk.injEq] at hm
          obtain ⟨⟨h1, h2⟩, h3⟩ := hm
          unfold Instr.findNow firstAt
          rw [h1]
          simp only [Instr.sameNow, if_true]
          by_cases hk : k = p.1
          · have : (k == p.1) = true := by simpa using hk
            rw [this]; simp [h2, hk]
          · have : (k == p.1) = false := by simpa using hk
            rw [this]; simp [hk, ih m (i + 1) h3]
    simp [Instr.findKey, run_underlying h, hnow es m 0 hm]
  · have : ∀ d, Instr.sameBits d (.int .i64 k) (.int .i64 k) = true := fun d => by cases d <;> simp [Instr.sameBits]
    exact this _
set_option maxHeartbeats 1000000 in
theorem keyOk_pair {P : Program} {kt et : TypeId} (h : P.underlying kt = some (.array 2 et)) (h2 : P.underlying et = some (.int .i64)) (hs : (P.info? et).map (·.size) = some 1) :
    KeyOk P kt (fun k : Int × Int => Value.agg #[.int .i64 k.1, .int .i64 k.2]) := by
  have hsz : ∀ w, (sizeOf et).run P w = .ok 1 w := by
    intro w
    obtain ⟨i, hi, hi2⟩ := Option.map_eq_some_iff.1 hs
    simp [sizeOf, typeInfo, hi, hi2]
  have hagg : ∀ w, (isAgg et).run P w = .ok false w := by intro w; simp [isAgg, run_underlying h2]
  refine ⟨fun k e w => ?_, fun k es m w hm => ?_, fun k => ?_⟩
  · have : ∀ d, (Instr.checkKey e (d + 2) kt (.agg #[.int .i64 k.1, .int .i64 k.2])).run P w = .ok () w := fun d => by
      simp [Instr.checkKey, run_underlying h, hsz, part, hagg, run_underlying h2, Std.Legacy.Range.forIn_eq_forIn_range', Std.Legacy.Range.size, List.range', List.forIn_cons]
    obtain ⟨d, hd⟩ : ∃ d, 10000 = d + 2 := ⟨9998, rfl⟩
    rw [hd]; exact this d
  · have heq : ∀ (a b : Int × Int) w, (Op.equal kt (.agg #[.int .i64 a.1, .int .i64 a.2]) (.agg #[.int .i64 b.1, .int .i64 b.2])).run P w = .ok (decide (a = b)) w := by
      intro a b w
      have : ∀ d, (Op.equalIn (d + 2) kt (.agg #[.int .i64 a.1, .int .i64 a.2]) (.agg #[.int .i64 b.1, .int .i64 b.2])).run P w = .ok (decide (a = b)) w := fun d => by
        obtain ⟨a1, a2⟩ := a
        obtain ⟨b1, b2⟩ := b
        by_cases h3 : a1 = b1 <;> by_cases h4 : a2 = b2 <;>
        simp [Op.equalIn, run_underlying h, hsz, part, hagg, run_underlying h2, Std.Legacy.Range.forIn_eq_forIn_range', Std.Legacy.Range.size, List.range', List.forIn_cons, h3, h4]
      obtain ⟨d, hd⟩ : ∃ d, Op.maxDepth = d + 2 := ⟨9998, rfl⟩
      unfold Op.equal
      rw [hd]; exact this d
    have hask : ∀ (es : List MapEntry) (m : List ((Int × Int) × Value)) (i : Nat), es.map (fun e => (e.key, e.val)) = m.map (fun p => (Value.agg #[.int .i64 p.1.1, .int .i64 p.1.2], p.2)) →
        (Instr.findAsking kt (.agg #[.int .i64 k.1, .int .i64 k.2]) es i).run P w = .ok (firstAt k m i) w := by
      intro es
      induction es with
      | nil =>
        intro m i hm
        cases m with
        | nil => rfl
        | cons _ _ => simp at hm
      | cons e es ih =>
        intro m i hm
        cases m with
        | nil => simp at hm
        | cons p m =>
          simp only [List.map_cons, List.cons.injEq, Prod.mk.injEq] at hm
          obtain ⟨⟨h5, h6⟩, h7⟩ := hm
          unfold Instr.findAsking firstAt
          rw [h5]
          simp only [Sem.run_bind, heq, Result.andThen_ok]
          by_cases hk : k = p.1
          · rw [decide_eq_true hk, if_pos hk]; simp [h6]
          · rw [decide_eq_false hk, if_neg hk]; simp [ih m (i + 1) h7]
    cases es with
    | nil =>
      cases m with
      | nil => simp [Instr.findKey, run_underlying h, Instr.findNow, firstAt]
      | cons _ _ => simp at hm
    | cons e es =>
      have h0 := hask (e :: es) m 0 hm
      cases m with
      | nil => simp at hm
      | cons p m =>
        simp only [List.map_cons, List.cons.injEq, Prod.mk.injEq] at hm
        simp [Instr.findKey, run_underlying h, Instr.findNow, hm.1.1, Instr.sameNow, h0]
  · have : ∀ d, Instr.sameBits (d + 1) (.agg #[.int .i64 k.1, .int .i64 k.2]) (.agg #[.int .i64 k.1, .int .i64 k.2]) = true := fun d => by cases d <;> simp [Instr.sameBits]
    obtain ⟨d, hd⟩ : ∃ d, 10000 = d + 1 := ⟨9999, rfl⟩
    rw [hd]; exact this d
section
variable {κ : Type} [DecidableEq κ] {keyV : κ → Value} {P : Program} {kt et T : TypeId} {w w' : World} {b : Nat} {m : List (κ × Value)}
def MapV (keyV : κ → Value) (w : World) (b : Nat) (m : List (κ × Value)) : Prop :=
  ∃ es clock, w.heap[b]? = some (.map es clock) ∧ es.toList.map (fun e => (e.key, e.val)) = m.map (fun p => (keyV p.1, p.2))
theorem MapV.made (keyV : κ → Value) (w : World) : MapV keyV (w.alloc (.map #[] 0)) w.heap.size [] := ⟨#[], 0, heap_alloc_new w _, rfl⟩
theorem MapV.lt (h : MapV keyV w b m) : b < w.heap.size := by
  obtain ⟨es, clock, hb, _⟩ := h
  exact (Array.getElem?_eq_some_iff.1 hb).1
theorem MapV.ext (h : MapV keyV w b m) (hx : Ext w w') : MapV keyV w' b m := by
  have hl := h.lt
  obtain ⟨es, clock, hb, hm⟩ := h
  exact ⟨es, clock, (hx.block b hl).trans hb, hm⟩
theorem MapV.grown {r : Option Nat} (h : MapV keyV w b m) (hg : w.grownBy w' r) (hr : some b ≠ r) : MapV keyV w' b m := by
  have hl := h.lt
  obtain ⟨es, clock, hb, hm⟩ := h
  exact ⟨es, clock, (hg.block b hl hr).trans hb, hm⟩
theorem MapV.get (h : MapV keyV w b m) (K : KeyOk P kt keyV) (hT : P.underlying T = some (.map kt et)) {z : Value} (hz : (zeroValue et).run P w = .ok z w) (k : κ) :
    (Instr.lookup T (.map (some b)) (keyV k) false).run P w = .ok ((getAt k m).getD z) w := by
  obtain ⟨es, clock, hb, hm⟩ := h
  have hf := K.find k es.toList m w hm
  have hg := firstAt_get k m 0
  have hgo : (getObj b).run P w = .ok (.map es clock) w := by simp [getObj, Sem.run, hb]
  simp only [Instr.lookup, Sem.run_bind, run_underlying hT, Result.andThen_ok, Sem.run_pure, hgo, K.check, hf]
  cases hq : firstAt k m 0 with
  | none => rw [hq] at hg; simp [← hg, hz]
  | some p => rw [hq] at hg; simp [← hg]
end
end Go.Proofs.Ytmeekpinkfpnhaa
