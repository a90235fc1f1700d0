/- The order of terms: what holds of it. No program in sight. Rewriting: what is plain. No program in sight. Bindings that are right. No program in sight. superposeref.CheckBindings, subst.Of. subst.Made. superposeref.PartsOf. subst.size, subst.Raw; superposeref.AppliedSize. -/
import Derived.Test.YtmeekpinkfpnhabB05
import Derived.Test.YtmeekpinkfpnhabB06
import Derived.Test.YtmeekpinkfpnhabB07
import Derived.Test.YtmeekpinkfpnhabB08
import Derived.Test.YtmeekpinkfpnhabB10
set_option linter.unusedSimpArgs false
set_option linter.unusedSectionVars false
set_option linter.unusedVariables false
set_option linter.unnecessarySimpa false
set_option linter.all false
namespace Go.Proofs.Ytmeekpinkfpnhab
abbrev Gt (s t : Tm) : Prop := gt s t = true
theorem gt_iff (s t : Tm) : Gt s t ↔ s.v ≤ 0 ∧ ((∃ a ∈ s.us, a = t ∨ Gt a t) ∨ (t.v ≤ 0 ∧ t.f ≤ s.f ∧ (∀ b ∈ t.us, Gt s b) ∧ (t.f < s.f ∨ lexG gt s.us t.us = true))) := by
  unfold Gt
  rw [gt_eq, gtStep]
  by_cases h1 : s.v > 0
  · rw [if_pos h1]
    constructor
    · intro h; cases h
    · rintro ⟨h, _⟩; omega
  · rw [if_neg h1]
    by_cases h2 : s.us.any (fun a => same a t || gt a t) = true
    · rw [if_pos h2]
      rw [List.any_eq_true] at h2
      obtain ⟨a, ha, h2⟩ := h2
      rw [Bool.or_eq_true, same_iff] at h2
      exact ⟨fun _ => ⟨by omega, .inl ⟨a, ha, h2⟩⟩, fun _ => rfl⟩
    · rw [if_neg h2]
      have h2' : ¬ ∃ a ∈ s.us, a = t ∨ gt a t = true := by
        rintro ⟨a, ha, h⟩
        refine h2 (List.any_eq_true.2 ⟨a, ha, ?_⟩)
        rw [Bool.or_eq_true, same_iff]; exact h
      by_cases h3 : t.v > 0 ∨ s.f < t.f ∨ t.us.any (fun b => !gt s b) = true
      · rw [if_pos h3]
        constructor
        · intro h; cases h
        · rintro ⟨_, h | ⟨h4, h5, h6, _⟩⟩
          · exact absurd h h2'
          · rcases h3 with h3 | h3 | h3
            · omega
            · omega
            · rw [List.any_eq_true] at h3
              obtain ⟨b, hb, h3⟩ := h3
              rw [h6 b hb] at h3; cases h3
      · rw [if_neg h3]
        have h4 : t.v ≤ 0 ∧ t.f ≤ s.f ∧ ∀ b ∈ t.us, gt s b = true := by
          refine ⟨by omega, by omega, fun b hb => ?_⟩
          cases hh : gt s b with
          | true => rfl
          | false => exact absurd (.inr (.inr (List.any_eq_true.2 ⟨b, hb, by rw [hh]; rfl⟩))) h3
        by_cases h5 : s.f > t.f
        · rw [if_pos h5]
          exact ⟨fun _ => ⟨by omega, .inr ⟨h4.1, h4.2.1, h4.2.2, .inl h5⟩⟩, fun _ => rfl⟩
        · rw [if_neg h5]
          constructor
          · intro h; exact ⟨by omega, .inr ⟨h4.1, h4.2.1, h4.2.2, .inr h⟩⟩
          · rintro ⟨_, h | ⟨_, _, _, h | h⟩⟩
            · exact absurd h h2'
            · omega
            · exact h
theorem gt_arg {s a : Tm} (hv : s.v ≤ 0) (ha : a ∈ s.us) : Gt s a := (gt_iff s a).2 ⟨hv, .inl ⟨a, ha, .inl rfl⟩⟩
theorem gt_thru {s a t : Tm} (hv : s.v ≤ 0) (ha : a ∈ s.us) (h : Gt a t) : Gt s t := (gt_iff s t).2 ⟨hv, .inl ⟨a, ha, .inr h⟩⟩
theorem gt_sub {t b : Tm} (hv : t.v ≤ 0) (hb : b ∈ t.us) : ∀ s : Tm, Gt s t → Gt s b := by
  refine Tm.ind fun s ih h => ?_
  obtain ⟨h1, h2⟩ := (gt_iff s t).1 h
  rcases h2 with ⟨a, ha, h2 | h2⟩ | ⟨_, _, h3, _⟩
  · subst h2; exact gt_thru h1 ha (gt_arg hv hb)
  · exact gt_thru h1 ha (ih a ha h2)
  · exact h3 b hb
theorem lexG_self (g : Tm → Tm → Bool) : ∀ l : List Tm, lexG g l l = false
  | [] => rfl
  | a :: l => by rw [lexG, if_pos (same_rfl a), lexG_self g l]
theorem gt_irr : ∀ s : Tm, ¬ Gt s s := by
  refine Tm.ind fun s ih h => ?_
  obtain ⟨h1, h2⟩ := (gt_iff s s).1 h
  rcases h2 with ⟨a, ha, h2 | h2⟩ | ⟨_, _, _, h3 | h3⟩
  · have := tsz_lt ha
    rw [h2] at this; omega
  · exact ih a ha (gt_sub h1 ha a h2)
  · omega
  · rw [lexG_self] at h3; cases h3
theorem gt_ne {s t : Tm} (h : Gt s t) : s ≠ t := fun e => by subst e; exact gt_irr s h
theorem lexG_trans : ∀ (l m n : List Tm), (∀ a ∈ l, ∀ b ∈ m, ∀ c ∈ n, Gt a b → Gt b c → Gt a c) → lexG gt l m = true → lexG gt m n = true → lexG gt l n = true
  | a :: l, b :: m, c :: n, hT, h1, h2 => by
    rw [lexG] at h1 h2 ⊢
    by_cases e1 : a = b
    · subst e1
      rw [if_pos (same_rfl a)] at h1
      by_cases e2 : a = c
      · subst e2
        rw [if_pos (same_rfl a)] at h2 ⊢
        exact lexG_trans l m n (fun x hx y hy z hz => hT x (by simp [hx]) y (by simp [hy]) z (by simp [hz])) h1 h2
      · rw [if_neg (by rw [same_iff]; exact e2)] at h2 ⊢
        exact h2
    · rw [if_neg (by rw [same_iff]; exact e1)] at h1
      by_cases e2 : b = c
      · subst e2
        rw [if_neg (by rw [same_iff]; exact e1)]; exact h1
      · rw [if_neg (by rw [same_iff]; exact e2)] at h2
        have h3 := hT a (by simp) b (by simp) c (by simp) h1 h2
        rw [if_neg (by rw [same_iff]; exact gt_ne h3)]; exact h3
  | [], _, _, _, h1, _ => by simp [lexG] at h1
  | _ :: _, [], _, _, h1, _ => by simp [lexG] at h1
  | _ :: _, _ :: _, [], _, _, h2 => by simp [lexG] at h2
theorem gt_trans : ∀ (n : Nat) (s t u : Tm), tsz s + tsz t + tsz u ≤ n → Gt s t → Gt t u → Gt s u
  | 0, s, _, _, h, _, _ => by have := tsz_pos s; omega
  | n + 1, s, t, u, hn, h1, h2 => by
    obtain ⟨hv, h3⟩ := (gt_iff s t).1 h1
    rcases h3 with ⟨a, ha, h3 | h3⟩ | ⟨h4, h5, h6, h7⟩
    · subst h3; exact gt_thru hv ha h2
    · have := tsz_lt ha
      exact gt_thru hv ha (gt_trans n a t u (by omega) h3 h2)
    · obtain ⟨_, k3⟩ := (gt_iff t u).1 h2
      rcases k3 with ⟨b, hb, k3 | k3⟩ | ⟨k4, k5, k6, k7⟩
      · subst k3; exact h6 b hb
      · have := tsz_lt hb
        exact gt_trans n s b u (by omega) (h6 b hb) k3
      · refine (gt_iff s u).2 ⟨hv, .inr ⟨k4, by omega, fun c hc => ?_, ?_⟩⟩
        · have := tsz_lt hc
          exact gt_trans n s t c (by omega) h1 (k6 c hc)
        · rcases h7 with h7 | h7
          · left; omega
          · rcases k7 with k7 | k7
            · left; omega
            · right
              refine lexG_trans _ _ _ (fun a ha b hb c hc q1 q2 => ?_) h7 k7
              have := tsz_lt ha
              have := tsz_lt hb
              have := tsz_lt hc
              exact gt_trans n a b c (by omega) q1 q2
theorem Gt.trans {s t u : Tm} (h1 : Gt s t) (h2 : Gt t u) : Gt s u := gt_trans _ s t u (Nat.le_refl _) h1 h2
theorem Gt.asymm {s t : Tm} (h : Gt s t) : ¬ Gt t s := fun h2 => gt_irr s (h.trans h2)
theorem lexG_sub {σ : Int → Tm} : ∀ (l m : List Tm), (∀ a ∈ l, ∀ b ∈ m, Gt a b → Gt (sub σ a) (sub σ b)) → lexG gt l m = true → lexG gt (subL σ l) (subL σ m) = true
  | a :: l, b :: m, hS, h => by
    rw [lexG] at h
    rw [subL, subL, lexG]
    by_cases e1 : a = b
    · subst e1
      rw [if_pos (same_rfl a)] at h
      rw [if_pos (same_rfl _)]
      exact lexG_sub l m (fun x hx y hy => hS x (by simp [hx]) y (by simp [hy])) h
    · rw [if_neg (by rw [same_iff]; exact e1)] at h
      have := hS a (by simp) b (by simp) h
      rw [if_neg (by rw [same_iff]; exact gt_ne this)]; exact this
  | [], _, _, h1 => by simp [lexG] at h1
  | _ :: _, [], _, h1 => by simp [lexG] at h1
theorem gt_stable (σ : Int → Tm) : ∀ (n : Nat) (s t : Tm), tsz s + tsz t ≤ n → Gt s t → Gt (sub σ s) (sub σ t)
  | 0, s, _, h, _ => by have := tsz_pos s; omega
  | n + 1, s, t, hn, h => by
    obtain ⟨hv, h3⟩ := (gt_iff s t).1 h
    have es : sub σ s = .mk s.v s.f (subL σ s.us) := by rw [sub_eq, if_neg (by omega)]
    rw [es]
    rcases h3 with ⟨a, ha, h3⟩ | ⟨h4, h5, h6, h7⟩
    · have ha' : sub σ a ∈ (Tm.mk s.v s.f (subL σ s.us)).us := by
        show _ ∈ subL σ s.us
        rw [subL_map]; exact List.mem_map.2 ⟨a, ha, rfl⟩
      rcases h3 with h3 | h3
      · subst h3; exact gt_arg hv ha'
      · have := tsz_lt ha
        exact gt_thru hv ha' (gt_stable σ n a t (by omega) h3)
    · have et : sub σ t = .mk t.v t.f (subL σ t.us) := by rw [sub_eq, if_neg (by omega)]
      rw [et]
      refine (gt_iff _ _).2 ⟨hv, .inr ⟨h4, h5, fun b hb => ?_, ?_⟩⟩
      · have hb : b ∈ subL σ t.us := hb
        rw [subL_map] at hb
        obtain ⟨c, hc, rfl⟩ := List.mem_map.1 hb
        have := tsz_lt hc
        rw [← es]
        exact gt_stable σ n s c (by omega) (h6 c hc)
      · rcases h7 with h7 | h7
        · exact .inl h7
        · right
          refine lexG_sub _ _ (fun a ha b hb hab => ?_) h7
          have := tsz_lt ha
          have := tsz_lt hb
          exact gt_stable σ n a b (by omega) hab
theorem Gt.sub {s t : Tm} (h : Gt s t) (σ : Int → Tm) : Gt (sub σ s) (sub σ t) := gt_stable σ _ s t (Nat.le_refl _) h
theorem lexG_at : ∀ (l : List Tm) {s s' : Tm} (r : List Tm), Gt s s' → lexG gt (l ++ s :: r) (l ++ s' :: r) = true
  | [], s, s', r, h => by
    rw [List.nil_append, List.nil_append, lexG, if_neg (by rw [same_iff]; exact gt_ne h)]; exact h
  | a :: l, s, s', r, h => by
    rw [List.cons_append, List.cons_append, lexG, if_pos (same_rfl a)]
    exact lexG_at l r h
theorem Gt.mono {s s' : Tm} (h : Gt s s') (f : Int) (l r : List Tm) : Gt (.mk 0 f (l ++ s :: r)) (.mk 0 f (l ++ s' :: r)) := by
  have hz : (Tm.mk 0 f (l ++ s :: r)).v ≤ 0 := Int.le_refl 0
  refine (gt_iff _ _).2 ⟨hz, .inr ⟨Int.le_refl 0, Int.le_refl f, fun b hb => ?_, .inr (lexG_at l r h)⟩⟩
  have hb : b ∈ l ++ s' :: r := hb
  rw [List.mem_append, List.mem_cons] at hb
  rcases hb with hb | rfl | hb
  · exact gt_arg hz (List.mem_append.2 (.inl hb))
  · exact gt_thru hz (a := s) (List.mem_append.2 (.inr (by simp))) h
  · exact gt_arg hz (List.mem_append.2 (.inr (by simp [hb])))
def Gnd (ar : Int → Nat) (t : Tm) : Prop := ∀ x ∈ parts t, x.v = 0 ∧ x.us.length = ar x.f
theorem Gnd.kid {ar : Int → Nat} {t u : Tm} (h : Gnd ar t) (hu : u ∈ t.us) : Gnd ar u := fun x hx => h x (parts_kid hu hx)
theorem lexG_total : ∀ (l m : List Tm), l.length = m.length → (∀ a ∈ l, ∀ b ∈ m, a = b ∨ Gt a b ∨ Gt b a) → l = m ∨ lexG gt l m = true ∨ lexG gt m l = true
  | [], [], _, _ => .inl rfl
  | a :: l, b :: m, hl, h => by
    rcases Classical.em (a = b) with e | e
    · subst e
      rw [lexG, lexG, if_pos (same_rfl a), if_pos (same_rfl a)]
      rcases lexG_total l m (by simpa using hl) (fun x hx y hy => h x (by simp [hx]) y (by simp [hy])) with h1 | h1
      · rw [h1]; exact .inl rfl
      · exact .inr h1
    · right
      rw [lexG, lexG, if_neg (by rw [same_iff]; exact e), if_neg (by rw [same_iff]; exact fun e' => e e'.symm)]
      rcases h a (by simp) b (by simp) with h1 | h1
      · exact absurd h1 e
      · exact h1
theorem gt_total {ar : Int → Nat} : ∀ (n : Nat) (s t : Tm), tsz s + tsz t ≤ n → Gnd ar s → Gnd ar t → s = t ∨ Gt s t ∨ Gt t s
  | 0, s, _, h, _, _ => by have := tsz_pos s; omega
  | n + 1, s, t, hn, hs, ht => by
    obtain ⟨s1, s2⟩ := hs s (parts_self s)
    obtain ⟨t1, t2⟩ := ht t (parts_self t)
    by_cases c1 : ∃ a ∈ s.us, a = t ∨ Gt a t
    · exact .inr (.inl ((gt_iff s t).2 ⟨by omega, .inl c1⟩))
    by_cases c2 : ∃ b ∈ t.us, b = s ∨ Gt b s
    · exact .inr (.inr ((gt_iff t s).2 ⟨by omega, .inl c2⟩))
    have d1 : ∀ a ∈ s.us, Gt t a := fun a ha => by
      have := tsz_lt ha
      rcases gt_total n a t (by omega) (hs.kid ha) ht with h | h | h
      · exact absurd ⟨a, ha, .inl h⟩ c1
      · exact absurd ⟨a, ha, .inr h⟩ c1
      · exact h
    have d2 : ∀ b ∈ t.us, Gt s b := fun b hb => by
      have := tsz_lt hb
      rcases gt_total n b s (by omega) (ht.kid hb) hs with h | h | h
      · exact absurd ⟨b, hb, .inl h⟩ c2
      · exact absurd ⟨b, hb, .inr h⟩ c2
      · exact h
    rcases Int.lt_trichotomy s.f t.f with h | h | h
    · exact .inr (.inr ((gt_iff t s).2 ⟨by omega, .inr ⟨by omega, by omega, d1, .inl h⟩⟩))
    · rcases lexG_total s.us t.us (by rw [s2, t2, h]) (fun a ha b hb => by
        have := tsz_lt ha
        have := tsz_lt hb
        exact gt_total n a b (by omega) (hs.kid ha) (ht.kid hb)) with h1 | h1 | h1
      · left; rw [← Tm.eta s, ← Tm.eta t, h1, h, s1, t1]
      · exact .inr (.inl ((gt_iff s t).2 ⟨by omega, .inr ⟨by omega, by omega, d2, .inr h1⟩⟩))
      · exact .inr (.inr ((gt_iff t s).2 ⟨by omega, .inr ⟨by omega, by omega, d1, .inr h1⟩⟩))
    · exact .inr (.inl ((gt_iff s t).2 ⟨by omega, .inr ⟨by omega, by omega, d2, .inl h⟩⟩))
end Go.Proofs.Ytmeekpinkfpnhab
namespace Go.Proofs.Ytmeekpinkfpnhab
/-! ### how great a term is that is made -/
theorem count_size : (∀ (t : Tm) (most : Int), count t most ≤ t.size) := by
  suffices h : ∀ t : Tm, ∀ most : Int, count t most ≤ t.size from h
  intro t
  refine Tm.rec (motive_1 := fun t => ∀ most : Int, count t most ≤ t.size) (motive_2 := fun us => ∀ n most : Int, countL us n most ≤ n + Tm.size.sizes us) ?_ ?_ ?_ t
  · intro v f us ih most
    rw [count, Tm.size]
    have := ih 1 most
    omega
  · intro n most; rw [countL, Tm.size.sizes]; omega
  · intro x xs h1 h2 n most
    rw [countL, Tm.size.sizes]
    split
    · omega
    · have := h1 (most - n)
      have := h2 (n + count x (most - n)) most
      omega
theorem count_cap {t : Tm} : count t 120 ≤ 120 ↔ t.size ≤ 120 := by
  constructor
  · intro h
    have := count_parts t 120 (by omega) h
    rw [parts_len] at this
    omega
  · intro h
    have := count_size t 120
    omega
theorem count_eq_size {t : Tm} (h : t.size ≤ 120) : count t 120 = t.size := by
  have := count_parts t 120 (by omega) (count_cap.2 h)
  rw [parts_len] at this
  omega
def apOne (bs : Bs) (x : Tm) : Int := if x.v > 0 then (match lookB x.v bs with | some u => count u 120 | none => 1) else 1
def apS (bs : Bs) : List Tm → Int
  | [] => 0
  | x :: l => apOne bs x + apS bs l
theorem apOne_pos (bs : Bs) (x : Tm) : 1 ≤ apOne bs x ∧ apOne bs x ≤ 121 := by
  unfold apOne
  split
  · cases lookB x.v bs with
    | none => simp
    | some u => have := count_le u 120 (by omega); simp only; omega
  · omega
theorem apS_append (bs : Bs) (a b : List Tm) : apS bs (a ++ b) = apS bs a + apS bs b := by
  induction a with
  | nil => simp [apS]
  | cons x a ih => rw [List.cons_append, apS, apS, ih]; omega
theorem apS_len (bs : Bs) (l : List Tm) : (l.length : Int) ≤ apS bs l ∧ apS bs l ≤ 121 * l.length := by
  induction l with
  | nil => simp [apS]
  | cons x l ih => have := apOne_pos bs x; rw [apS, List.length_cons]; omega
mutual
theorem apS_pre (bs : Bs) : ∀ t : Tm, apS bs (pre t) = apS bs (parts t)
  | .mk v f us => by rw [pre, parts, apS, apS_append, apS_preL bs us, apS, apS]; omega
theorem apS_preL (bs : Bs) : ∀ us : List Tm, apS bs (preL us) = apS bs (partsL us)
  | [] => rfl
  | x :: xs => by rw [preL, partsL, apS_append, apS_append, apS_pre bs x, apS_preL bs xs]
end
mutual
theorem apS_size (bs : Bs) : ∀ t : Tm, Good t → apS bs (parts t) ≤ (applyR bs t).size ∧ (apS bs (parts t) ≤ 120 → apS bs (parts t) = (applyR bs t).size)
  | .mk v f us, h => by
    obtain ⟨h1, h2⟩ := h.at
    rw [parts, apS_append, applyR]
    by_cases hv : v > 0
    · have := h2 hv; subst this
      rw [if_pos hv]
      cases hl : lookB v bs with
      | none =>
        have e : apOne bs (.mk v f []) = 1 := by simp [apOne, Tm.v, hv, hl]
        simp only [partsL, apS, e]
        simp [Tm.size, Tm.size.sizes]
      | some u =>
        have e : apOne bs (.mk v f []) = count u 120 := by simp [apOne, Tm.v, hv, hl]
        have := count_size u 120
        simp only [partsL, apS, e]
        refine ⟨by omega, fun h3 => ?_⟩
        have := count_eq_size (count_cap.1 (show count u 120 ≤ 120 by omega))
        omega
    · rw [if_neg hv]
      obtain ⟨k1, k2⟩ := apS_sizeL bs us fun u hu => h.kid (t := .mk v f us) hu
      simp only [apS, apOne, Tm.v, if_neg hv, Tm.size]
      have := apS_len bs (partsL us)
      constructor
      · omega
      · intro h3; have := k2 (by omega); omega
theorem apS_sizeL (bs : Bs) : ∀ us : List Tm, (∀ u ∈ us, Good u) → apS bs (partsL us) ≤ Tm.size.sizes (applyRL bs us) ∧ (apS bs (partsL us) ≤ 120 → apS bs (partsL us) = Tm.size.sizes (applyRL bs us))
  | [], _ => ⟨by simp [partsL, apS, applyRL, Tm.size.sizes], fun _ => by simp [partsL, apS, applyRL, Tm.size.sizes]⟩
  | x :: xs, h => by
    obtain ⟨k1, k2⟩ := apS_size bs x (h x (by simp))
    obtain ⟨k3, k4⟩ := apS_sizeL bs xs fun u hu => h u (by simp [hu])
    have := apS_len bs (partsL xs)
    have := apS_len bs (parts x)
    rw [partsL, apS_append, applyRL, Tm.size.sizes]
    constructor
    · omega
    · intro h3
      have := k2 (by omega)
      have := k4 (by omega)
      omega
end
theorem apS_cap {bs : Bs} {t : Tm} (h : Good t) : apS bs (parts t) ≤ 120 ↔ (applyR bs t).size ≤ 120 := by
  obtain ⟨h1, h2⟩ := apS_size bs t h
  constructor
  · intro h3; have := h2 h3; omega
  · intro h3; omega
/-! ### the first place at which a rule matches -/
structure Rl where
  l : Tm
  r : Tm
def ruleG : List Rl → Tm → Option (Rl × Bs)
  | [], _ => none
  | r :: rs, t => if (meet r.l t []).1 = true then some (r, (meet r.l t []).2) else ruleG rs t
def ruleR : List Rl → Tm → Option (Rl × Bs)
  | [], _ => none
  | r :: rs, t => if (grow r.l t []).1 = true then some (r, (grow r.l t []).2) else ruleR rs t
theorem rule_eq {t : Tm} (h : ∀ x ∈ parts t, 0 ≤ x.v) : ∀ rs : List Rl, ruleG rs t = ruleR rs t
  | [] => rfl
  | r :: rs => by
    obtain ⟨h1, h2⟩ := meet_grow r.l t [] h
    rw [ruleG, ruleR, ← h1, rule_eq h rs]
    by_cases hc : (meet r.l t []).1 = true
    · rw [if_pos hc, if_pos hc, h2 hc]
    · rw [if_neg hc, if_neg hc]
mutual
def foundG (rs : List Rl) : Tm → List Int → Option (List Int × Rl × Bs)
  | .mk v f us, pl => match foundL rs us 0 pl with
    | some q => some q
    | none => (ruleG rs (.mk v f us)).map fun q => (pl, q.1, q.2)
def foundL (rs : List Rl) : List Tm → Nat → List Int → Option (List Int × Rl × Bs)
  | [], _, _ => none
  | x :: xs, i, pl => match foundG rs x (pl ++ [(i : Int)]) with
    | some q => some q
    | none => foundL rs xs (i + 1) pl
end
theorem foundG_eq (rs : List Rl) (t : Tm) (pl : List Int) : foundG rs t pl = match foundL rs t.us 0 pl with | some q => some q | none => (ruleG rs t).map fun q => (pl, q.1, q.2) := by cases t; rw [foundG]; rfl
def findQ (rs : List Rl) : List (List Int × Tm) → Option (List Int × Rl × Bs)
  | [] => none
  | q :: l => match ruleG rs q.2 with
    | some w => some (q.1, w.1, w.2)
    | none => findQ rs l
theorem findQ_append (rs : List Rl) (a b : List (List Int × Tm)) : findQ rs (a ++ b) = match findQ rs a with | some q => some q | none => findQ rs b := by
  induction a with
  | nil => rfl
  | cons q a ih =>
    rw [List.cons_append, findQ, findQ, ih]
    cases ruleG rs q.2 <;> rfl
mutual
theorem found_find (rs : List Rl) : ∀ (t : Tm) (pl : List Int), foundG rs t pl = findQ rs ((plP t).map fun q => (pl ++ q.1, q.2))
  | .mk v f us, pl => by
    rw [foundG, plP, List.map_append, findQ_append, ← found_findL rs us 0 pl]
    cases foundL rs us 0 pl with
    | some q => rfl
    | none =>
      simp only [List.map_cons, List.map_nil, findQ, List.append_nil]
      cases ruleG rs (Tm.mk v f us) <;> rfl
theorem found_findL (rs : List Rl) : ∀ (us : List Tm) (i : Nat) (pl : List Int), foundL rs us i pl = findQ rs ((plPL us i).map fun q => (pl ++ q.1, q.2))
  | [], _, _ => rfl
  | x :: xs, i, pl => by
    rw [foundL, plPL, List.map_append, findQ_append, ← found_findL rs xs (i + 1) pl, found_find rs x, List.map_map]
    have e : (fun q : List Int × Tm => (pl ++ q.1, q.2)) ∘ (fun q : List Int × Tm => ((i : Int) :: q.1, q.2)) = fun q : List Int × Tm => (pl ++ [(i : Int)] ++ q.1, q.2) := by
      funext q; simp
    rw [e]
end
theorem found_nil (rs : List Rl) (t : Tm) : foundG rs t [] = findQ rs (plP t) := by
  rw [found_find]; simp
theorem ruleG_some {rs : List Rl} {t : Tm} {r : Rl} {b : Bs} (h : ruleG rs t = some (r, b)) : r ∈ rs ∧ (meet r.l t []).1 = true ∧ b = (meet r.l t []).2 := by
  induction rs with
  | nil => cases h
  | cons x rs ih =>
    rw [ruleG] at h
    by_cases hc : (meet x.l t []).1 = true
    · rw [if_pos hc] at h; cases h; exact ⟨by simp, hc, rfl⟩
    · rw [if_neg hc] at h
      obtain ⟨h1, h2⟩ := ih h
      exact ⟨by simp [h1], h2⟩
theorem findQ_some {rs : List Rl} {l : List (List Int × Tm)} {p : List Int} {r : Rl} {b : Bs} (h : findQ rs l = some (p, r, b)) : ∃ x, (p, x) ∈ l ∧ ruleG rs x = some (r, b) := by
  induction l with
  | nil => cases h
  | cons q l ih =>
    rw [findQ] at h
    cases hq : ruleG rs q.2 with
    | some w =>
      rw [hq] at h
      cases h
      exact ⟨q.2, by simp, hq⟩
    | none =>
      rw [hq] at h
      obtain ⟨x, h1, h2⟩ := ih h
      exact ⟨x, by simp [h1], h2⟩
/-! ### steps -/
def stepG (rs : List Rl) (t : Tm) : Tm × Bool × Int := match foundG rs t [] with
  | none => (t, false, 0)
  | some (p, r, b) => if apS b (pre r.r) > 120 then (tm0, false, 2) else if count (layG t p (mapM (madeS b) r.r)) 120 > 120 then (tm0, false, 2) else (layG t p (mapM (madeS b) r.r), true, 0)
def stepL (rs : List Rl) (t : Tm) : List (List Int × Tm) → Tm × Bool × Int
  | [] => (t, false, 0)
  | q :: l => match ruleR rs q.2 with
    | none => stepL rs t l
    | some (r, b) => if apS b (parts r.r) > 120 then (tm0, false, 2) else if count (putG t q.1 (applyR b r.r)) 120 > 120 then (tm0, false, 2) else (putG t q.1 (applyR b r.r), true, 0)
theorem step_eq {rs : List Rl} {t : Tm} (ht : Good t) (hr : ∀ r ∈ rs, Good r.r) : stepL rs t (plP t) = stepG rs t := by
  have key : ∀ l : List (List Int × Tm), (∀ q ∈ l, atG t q.1 = some q.2) → stepL rs t l = match findQ rs l with
      | none => (t, false, 0)
      | some (p, r, b) => if apS b (pre r.r) > 120 then (tm0, false, 2) else if count (layG t p (mapM (madeS b) r.r)) 120 > 120 then (tm0, false, 2) else (layG t p (mapM (madeS b) r.r), true, 0) := by
    intro l
    induction l with
    | nil => intro _; rfl
    | cons q l ih =>
      intro h
      have hq := h q (by simp)
      have hnn : ∀ x ∈ parts q.2, 0 ≤ x.v := fun x hx => (ht x (at_parts _ _ _ hq x hx)).1
      rw [stepL, findQ, ← rule_eq hnn]
      cases hg : ruleG rs q.2 with
      | none => exact ih fun x hx => h x (by simp [hx])
      | some w =>
        obtain ⟨r, b⟩ := w
        simp only
        have hrr := hr r (ruleG_some hg).1
        rw [put_lay _ t _ _ ht hq, apS_pre, made_apply b _ hrr]
  rw [key (plP t) fun q hq => plP_at t q hq]
  unfold stepG
  rw [found_nil]
def normG (rs : List Rl) : Nat → Tm → Int → Tm × Int × Int
  | k, t, n => if (stepG rs t).2.2 ≠ 0 then (tm0, 0, (stepG rs t).2.2) else if (stepG rs t).2.1 = false then (t, n, 0) else match k with
    | 0 => (tm0, 0, 2)
    | k + 1 => normG rs k (stepG rs t).1 (n + 1)
/-! ### rules checked -/
def rlL (g : List Int) : List Rl → Int
  | [] => 0
  | x :: l => if own g x.l ≠ 0 then own g x.l else if own g x.r ≠ 0 then own g x.r else if gt x.l x.r = false then 4 else rlL g l
def rlOk (g : List Int) (l : List Rl) : Int := if sigOk g ≠ 0 then sigOk g else if l.length > 20 then 2 else rlL g l
theorem rlL_all {g : List Int} : ∀ {l : List Rl}, rlL g l = 0 → ∀ r ∈ l, own g r.l = 0 ∧ own g r.r = 0 ∧ Gt r.l r.r
  | x :: l, h, r, hr => by
    rw [rlL] at h
    by_cases h1 : own g x.l = 0
    · by_cases h2 : own g x.r = 0
      · rw [if_neg (by simp [h1]), if_neg (by simp [h2])] at h
        cases h3 : gt x.l x.r with
        | false => rw [h3, if_pos rfl] at h; cases h
        | true =>
          rw [h3, if_neg (by simp)] at h
          rcases List.mem_cons.1 hr with rfl | hr
          · exact ⟨h1, h2, h3⟩
          · exact rlL_all h r hr
      · rw [if_neg (by simp [h1]), if_pos h2] at h; exact absurd h h2
    · rw [if_pos h1] at h; exact absurd h h1
theorem rlOk_all {g : List Int} {l : List Rl} (h : rlOk g l = 0) : sigOk g = 0 ∧ l.length ≤ 20 ∧ ∀ r ∈ l, own g r.l = 0 ∧ own g r.r = 0 ∧ Gt r.l r.r := by
  unfold rlOk at h
  by_cases hs : sigOk g = 0
  · rw [if_neg (by simp [hs])] at h
    by_cases h2 : l.length > 20
    · rw [if_pos h2] at h; cases h
    · rw [if_neg h2] at h; exact ⟨hs, by omega, rlL_all h⟩
  · rw [if_pos hs] at h; exact absurd h hs
/-! ### E3: each step makes a lesser term -/
theorem gt_lay : ∀ (p : List Int) (t u x : Tm), Good t → atG t p = some x → Gt x u → Gt t (layG t p u)
  | [], t, u, x, _, h, hg => by rw [atG] at h; cases h; exact hg
  | i :: p, t, u, x, ht, h, hg => by
    obtain ⟨n, hn, rfl, k⟩ := atG_some h
    have h1 := gt_lay p t.us[n] u x (ht.kid (List.getElem_mem hn)) k hg
    have h0 := ht t (parts_self t)
    have hv : t.v = 0 := by
      rcases Int.lt_or_le 0 t.v with h1 | h1
      · have := h0.2 h1; rw [this] at hn; exact absurd hn (Nat.not_lt_zero _)
      · omega
    rw [layG, Int.toNat_natCast, getD_at hn, hv, set_cut hn]
    have := h1.mono t.f (t.us.take n) (t.us.drop (n + 1))
    rw [← us_cut hn, ← hv, Tm.eta] at this
    rw [hv] at this; exact this
theorem form_part {g : List Int} {t x : Tm} (h : form g t = 0) (hx : x ∈ parts t) : form g x = 0 := by
  rw [← formAll_parts] at h ⊢
  have h1 := formAll_mem h
  have sub : ∀ y ∈ parts x, y ∈ parts t := by
    revert hx
    refine Tm.ind (P := fun t => x ∈ parts t → ∀ y ∈ parts x, y ∈ parts t) (fun t ih hx y hy => ?_) t
    rw [parts_eq, List.mem_append] at hx
    rcases hx with hx | hx
    · obtain ⟨u, hu, hx⟩ := partsL_mem hx
      exact parts_kid hu (ih u hu hx y hy)
    · rw [← List.mem_singleton.1 hx]; exact hy
  have all : ∀ l : List Tm, (∀ y ∈ l, formOne g y.v y.f y.us.length = 0) → formAll g l = 0 := by
    intro l
    induction l with
    | nil => intro _; rfl
    | cons y l ih => intro hl; rw [formAll, if_neg (by simp [hl y (by simp)])]; exact ih fun z hz => hl z (by simp [hz])
  exact all _ fun y hy => h1 y (sub y hy)
theorem formL_iff {g : List Int} : ∀ {l : List Tm}, formL g l = 0 ↔ ∀ y ∈ l, form g y = 0
  | [] => by simp [formL]
  | y :: l => by
    rw [formL]
    by_cases hy : form g y = 0
    · rw [if_neg (by simp [hy]), formL_iff]; simp [hy]
    · rw [if_pos hy]; simp [hy]
theorem form_sub {g : List Int} {σ : Int → Tm} : ∀ t : Tm, form g t = 0 → (∀ x ∈ parts t, x.v > 0 → form g (σ x.v) = 0) → form g (sub σ t) = 0 := by
  refine Tm.ind fun t ih ht hs => ?_
  rw [sub_eq]
  by_cases hv : t.v > 0
  · rw [if_pos hv]; exact hs t (parts_self t) hv
  · rw [if_neg hv, form]
    rw [form_eq] at ht
    by_cases hl : formL g t.us = 0
    · rw [if_neg (by simp [hl])] at ht
      have h1 := formL_iff.1 hl
      have h3 : formL g (subL σ t.us) = 0 := formL_iff.2 fun y hy => by
        rw [subL_map] at hy
        obtain ⟨u, hu, rfl⟩ := List.mem_map.1 hy
        exact ih u hu (h1 u hu) fun x hx hxv => hs x (parts_kid hu hx) hxv
      rw [if_neg (by simp [h3]), subL_map, List.length_map]; exact ht
    · rw [if_pos hl] at ht; exact absurd ht hl
mutual
theorem meet_mem : ∀ (p t : Tm) (b : Bs) (q : Int × Tm), q ∈ (meet p t b).2 → q ∈ b ∨ q.2 ∈ parts t
  | .mk v f us, t, b, q, h => by
    rw [meet] at h
    by_cases hv : v > 0
    · rw [if_pos hv] at h
      cases hb : lookB v b with
      | some u => rw [hb] at h; exact .inl h
      | none =>
        rw [hb] at h
        rcases List.mem_append.1 h with h | h
        · exact .inl h
        · rw [List.mem_singleton.1 h]; exact .inr (parts_self t)
    · rw [if_neg hv] at h
      split at h
      · rcases meetL_mem us t.us b q h with h | h
        · exact .inl h
        · right; rw [parts_eq]; exact List.mem_append_left _ h
      · exact .inl h
theorem meetL_mem : ∀ (xs ys : List Tm) (b : Bs) (q : Int × Tm), q ∈ (meetL xs ys b).2 → q ∈ b ∨ q.2 ∈ partsL ys
  | [], ys, b, q, h => by rw [meetL] at h; exact .inl h; intro x xs y ys h1; cases h1
  | x :: xs, [], b, q, h => by rw [meetL] at h; exact .inl h; intro x xs y ys _ h1; cases h1
  | x :: xs, y :: ys, b, q, h => by
    rw [meetL] at h
    rw [partsL]
    split at h
    · rcases meetL_mem xs ys _ q h with h | h
      · rcases meet_mem x y b q h with h | h
        · exact .inl h
        · exact .inr (List.mem_append_left _ h)
      · exact .inr (List.mem_append_right _ h)
    · rcases meet_mem x y b q h with h | h
      · exact .inl h
      · exact .inr (List.mem_append_left _ h)
end
theorem lookB_mem {v : Int} {u : Tm} : ∀ {b : Bs}, lookB v b = some u → ∃ p ∈ b, p.1 = v ∧ p.2 = u
  | p :: b, h => by
    rw [lookB] at h
    by_cases hv : v = p.1
    · rw [if_pos hv] at h; cases h; exact ⟨p, by simp, hv.symm, rfl⟩
    · rw [if_neg hv] at h
      obtain ⟨q, hq, h1⟩ := lookB_mem h
      exact ⟨q, by simp [hq], h1⟩
theorem formV {g : List Int} {t x : Tm} (h : form g t = 0) (hx : x ∈ parts t) (hv : x.v > 0) : form g (vt x.v) = 0 := by
  rw [← formAll_parts] at h
  have := formAll_mem h x hx
  unfold formOne at this
  rw [if_pos (by omega)] at this
  split at this
  · cases this
  · simp [form, formL, formOne]; omega
theorem step_ok {g : List Int} {rs : List Rl} {t : Tm} (ht : own g t = 0) (hr : ∀ r ∈ rs, own g r.l = 0 ∧ own g r.r = 0 ∧ Gt r.l r.r) (he : (stepG rs t).2.2 = 0) :
    own g (stepG rs t).1 = 0 ∧ ((stepG rs t).2.1 = true → Gt t (stepG rs t).1) ∧ ((stepG rs t).2.1 = false → (stepG rs t).1 = t) := by
  unfold stepG at he ⊢
  cases hf : foundG rs t [] with
  | none => exact ⟨ht, fun h => absurd h Bool.false_ne_true, fun _ => rfl⟩
  | some w =>
    obtain ⟨p, r, b⟩ := w
    rw [hf] at he
    simp only at he ⊢
    by_cases h1 : apS b (pre r.r) > 120
    · rw [if_pos h1] at he; cases he
    · rw [if_neg h1] at he ⊢
      by_cases h2 : count (layG t p (mapM (madeS b) r.r)) 120 > 120
      · rw [if_pos h2] at he; cases he
      · rw [if_neg h2]
        rw [found_nil] at hf
        obtain ⟨x, hx, hrx⟩ := findQ_some hf
        have hat := plP_at t (p, x) hx
        simp only at hat
        obtain ⟨hrm, m1, m2⟩ := ruleG_some hrx
        obtain ⟨o1, o2, og⟩ := hr r hrm
        have hpl := own_pure o1
        have hpr := own_pure o2
        obtain ⟨_, hs⟩ := meet_sound (σ := sbOf b) r.l x [] hpl.nn m1 (by rw [← m2]; exact sbOf_ext b)
        have hmade : mapM (madeS b) r.r = sub (sbOf b) r.r := by rw [made_apply b _ hpr.good, applyR_sub b _ hpr]
        have hgt : Gt x (mapM (madeS b) r.r) := by rw [hmade, ← hs]; exact og.sub _
        have hform : form g (mapM (madeS b) r.r) = 0 := by
          rw [hmade]
          refine form_sub r.r (own_form o2).1 fun y hy hv => ?_
          unfold sbOf
          cases hl : lookB y.v b with
          | none => exact formV (own_form o2).1 hy hv
          | some u =>
            obtain ⟨q, hq, _, rfl⟩ := lookB_mem hl
            rw [m2] at hq
            rcases meet_mem _ _ _ _ hq with h | h
            · cases h
            · exact form_part (own_form ht).1 (at_parts p t x hat _ h)
        refine ⟨?_, fun _ => gt_lay p t _ x (own_good ht) hat hgt, fun h => absurd h.symm Bool.false_ne_true⟩
        unfold own
        rw [if_neg h2]
        exact lay_form g p t _ x hat (own_form ht).1 hform
theorem norm_ok {g : List Int} {rs : List Rl} (hr : ∀ r ∈ rs, own g r.l = 0 ∧ own g r.r = 0 ∧ Gt r.l r.r) : ∀ (k : Nat) (t : Tm) (n : Int), own g t = 0 → (normG rs k t n).2.2 = 0 →
    own g (normG rs k t n).1 = 0 ∧ stepG rs (normG rs k t n).1 = ((normG rs k t n).1, false, 0) ∧ ((stepG rs t).2.1 = true → n < (normG rs k t n).2.1) ∧ ((stepG rs t).2.1 = false → n = (normG rs k t n).2.1) ∧ n ≤ (normG rs k t n).2.1 := by
  intro k
  induction k with
  | zero =>
    intro t n ho he
    rw [normG] at he ⊢
    by_cases h1 : (stepG rs t).2.2 = 0
    · obtain ⟨s1, s2, s3⟩ := step_ok ho hr h1
      rw [if_neg (by simp [h1])] at he ⊢
      cases h2 : (stepG rs t).2.1 with
      | false =>
        rw [if_pos rfl]
        refine ⟨ho, ?_, fun h => absurd h Bool.false_ne_true, fun _ => rfl, Int.le_refl _⟩
        have := s3 h2
        simp only
        rw [← h1, ← h2]
        have e : stepG rs t = ((stepG rs t).1, (stepG rs t).2.1, (stepG rs t).2.2) := rfl
        rw [e, this]
      | true => rw [h2] at he; simp at he
    · rw [if_pos h1] at he; exact absurd he h1
  | succ k ih =>
    intro t n ho he
    rw [normG] at he ⊢
    by_cases h1 : (stepG rs t).2.2 = 0
    · obtain ⟨s1, s2, s3⟩ := step_ok ho hr h1
      rw [if_neg (by simp [h1])] at he ⊢
      cases h2 : (stepG rs t).2.1 with
      | false =>
        rw [if_pos rfl]
        refine ⟨ho, ?_, fun h => absurd h Bool.false_ne_true, fun _ => rfl, Int.le_refl _⟩
        have := s3 h2
        simp only
        rw [← h1, ← h2]
        have e : stepG rs t = ((stepG rs t).1, (stepG rs t).2.1, (stepG rs t).2.2) := rfl
        rw [e, this]
      | true =>
        rw [h2] at he
        simp only [Bool.true_eq_false, if_false] at he ⊢
        obtain ⟨i1, i2, _, _, i5⟩ := ih _ (n + 1) s1 he
        exact ⟨i1, i2, fun _ => by omega, fun h => h.elim, by omega⟩
    · rw [if_pos h1] at he; exact absurd he h1
end Go.Proofs.Ytmeekpinkfpnhab
namespace Go.Proofs.Ytmeekpinkfpnhab
def bAt (g : List Int) (prev : Option Int) (p : Int × Tm) : Int :=
  if p.1 < 1 ∨ p.1 > 1000 then 3 else if (match prev with | some v => decide (p.1 ≤ v) | none => false) = true then 4 else own g p.2
def bOkL (g : List Int) : Option Int → Bs → Int
  | _, [] => 0
  | prev, p :: b => if bAt g prev p ≠ 0 then bAt g prev p else bOkL g (some p.1) b
def prevOf (b : Bs) (i : Nat) : Option Int := if i = 0 then none else some (b.getD (i - 1) (0, .mk 0 0 [])).1
theorem bOkL_at {g : List Int} {b : Bs} {i : Nat} (hi : i < b.length) : bOkL g (prevOf b i) (b.drop i) = if bAt g (prevOf b i) b[i] ≠ 0 then bAt g (prevOf b i) b[i] else bOkL g (prevOf b (i + 1)) (b.drop (i + 1)) := by
  have e : prevOf b (i + 1) = some b[i].1 := by
    unfold prevOf
    rw [if_neg (by omega), Nat.add_sub_cancel, List.getD_eq_getElem?_getD, List.getElem?_eq_getElem hi, Option.getD_some]
  rw [List.drop_eq_getElem_cons hi, bOkL, e]
def bOk (g : List Int) (b : Bs) : Int := if sigOk g ≠ 0 then sigOk g else bOkL g none b
theorem bOkL_zero {g : List Int} : ∀ {b : Bs} {prev : Option Int}, bOkL g prev b = 0 → (∀ p ∈ b, own g p.2 = 0) ∧ (∀ v, prev = some v → ∀ p ∈ b, v < p.1) ∧ (b.map (·.1)).Nodup
  | [], _, _ => ⟨by simp, by simp, by simp⟩
  | q :: b, prev, h => by
    rw [bOkL] at h
    by_cases h0 : bAt g prev q = 0
    · rw [if_neg (by simp [h0])] at h
      obtain ⟨h1, h2, h3⟩ := bOkL_zero h
      have h2 := h2 _ rfl
      unfold bAt at h0
      by_cases ha : q.1 < 1 ∨ q.1 > 1000
      · rw [if_pos ha] at h0; simp at h0
      · rw [if_neg ha] at h0
        have hprev : ∀ v, prev = some v → v < q.1 := fun v hv => by
          subst hv
          by_cases hb : q.1 ≤ v
          · rw [if_pos (by simpa using hb)] at h0; simp at h0
          · omega
        have hown : own g q.2 = 0 := by
          generalize (match prev with | some v => decide (q.1 ≤ v) | none => false) = c at h0
          cases c with
          | true => simp at h0
          | false => simpa using h0
        refine ⟨fun p hp => ?_, fun v hv p hp => ?_, ?_⟩
        · rcases List.mem_cons.1 hp with rfl | hp
          · exact hown
          · exact h1 p hp
        · rcases List.mem_cons.1 hp with rfl | hp
          · exact hprev v hv
          · have := h2 p hp; have := hprev v hv; omega
        · rw [List.map_cons, List.nodup_cons]
          refine ⟨fun hm => ?_, h3⟩
          obtain ⟨p, hp, e⟩ := List.mem_map.1 hm
          have := h2 p hp; omega
    · rw [if_pos h0] at h; exact absurd h h0
theorem lookB_not {v : Int} {b : Bs} (h : v ∉ b.map (·.1)) : lookB v b = none := by
  induction b with
  | nil => rfl
  | cons p b ih =>
    rw [lookB, if_neg (fun e => h (by simp [e]))]
    exact ih fun hm => h (by simp only [List.map_cons, List.mem_cons]; exact .inr hm)
theorem look_take {b : Bs} (hnd : (b.map (·.1)).Nodup) {i : Nat} (hi : i < b.length) : lookB b[i].1 (b.take i) = none := by
  refine lookB_not fun hm => ?_
  rw [List.map_take] at hm
  obtain ⟨j, hj, e⟩ := List.mem_iff_getElem.1 hm
  rw [List.length_take, List.length_map] at hj
  rw [List.getElem_take, List.getElem_map] at e
  have := List.pairwise_iff_getElem.1 hnd j i (by rw [List.length_map]; omega) (by rw [List.length_map]; omega) (by omega)
  rw [List.getElem_map, List.getElem_map] at this
  exact this e
end Go.Proofs.Ytmeekpinkfpnhab
namespace Go.Proofs.Ytmeekpinkfpnhab
open Go.RowKit
theorem prev_zero (b : Bs) : prevOf b 0 = none := rfl
theorem prev_succ (b : Bs) {i : Nat} (h : 0 < i) (h2 : i - 1 < b.length) : prevOf b i = some (b[i - 1]).1 := by
  unfold prevOf; rw [if_neg (by omega), List.getD_eq_getElem?_getD, List.getElem?_eq_getElem h2, Option.getD_some]
set_option maxHeartbeats 2000000 in
set_option maxRecDepth 20000 in
theorem checkB_tri (g : List Int) (b : Bs) (hb : b.length ≤ 4000000) : Tri Try.prog 9 [.d (sgDV g), .d (bsDV b)] (pure' (iA (bOk g b))) := by
  refine tri_enter Try.func9 rfl Try.ntmps9 (by simp only [List.length_cons, List.length_nil]; omega) fun w0 h0 k hrd hwr => ?_
  repeat' (first | refine awp_seq_k fun K hK => ?_ | ((first | refine awp_region_k (by kernel_rfl) fun R hR => ?_ | refine awp_draw mixed (by kernel_rfl) (by kernel_rfl) fun R hR => ?_); simp only [go_sem]) | ((first | (refine hR _ ?_; clear hR R) | refine awp_skip ?_ | refine awp_exit ?_ | refine awp_ret ?_); try simp only [thenA, inBlockA, reduceIte, reduceCtorEq, Nat.reduceEqDiff, if_false, if_true]) | ((first | refine hK _ ?_ | (clear hK K; first | refine hK _ ?_ | (clear hK K; first | refine hK _ ?_ | (clear hK K; first | refine hK _ ?_ | (clear hK K; refine hK _ ?_))))); clear hK K) | refine awp_true rfl rfl ?_ | refine awp_false rfl rfl ?_ | refine awp_block ?_ | ((first | refine CallK.pure (enter35) (checkSig_tri (g := g)) ?_ ?_ | refine CallD.pure (enter35) (checkSig_tri (g := g)) ?_ ?_); (focus first | ((repeat (first | exact trivial | refine ⟨(by first | exact Or.inl rfl | exact Or.inr rfl), ?_⟩)); done) | (simp only [coL, AV.dat, true_or, or_true, AV.d.injEq, go_sem]; done)); simp only [go_sem]) | refine And.intro (by first | ((repeat' first | omega | exact trivial | rfl | assumption | (intro a e; subst e; rfl) | exact map_sz fun a => (by simp only [go_sem]) | refine And.intro ?_ ?_); done) | fail) ?_ | fail)
  refine awp_loop (fun σ => ∃ (i : Nat) (e : Int), σ.t 1 = .d (bsDV b) ∧ σ.t 2 = .ptr (k, 0) 0 ∧ σ.t 5 = iA e ∧ σ.t 6 = iA i ∧ σ.h (k, 0) = some (.cells 24 [.d (.sl (g.map iD))]) ∧ Fr k h0 σ.h ∧ k < σ.k ∧ i ≤ b.length ∧ (if e ≠ 0 then e else bOkL g (prevOf b i) (b.drop i)) = bOk g b) (fun σ => b.length - (intOf' (σ.t 6)).toNat) ?_ ?_
  · refine ⟨0, sigOk g, ?_⟩
    simp only [go_sem, List.drop_zero]
    and_intros; all_goals try (first | rfl | omega | assumption | ((repeat (first | exact Fr.rfl' _ _ | assumption | refine Fr.updk ?_ (by omega) _)); done))
  · rintro σ ⟨i, e, s1, s2, s5, s6, sh, hF, hk, hi, hv⟩
    have hne := ltne hk
    cases he : (e == 0) with
    | false =>
      have he' : e ≠ 0 := by simpa using he
      rw [if_pos he'] at hv
      obtain ⟨z, hz⟩ : ∃ z, decide ((i : Int) < (b.length : Int)) = z := ⟨_, rfl⟩
      cases z with
      | true =>
        repeat' (first | refine awp_seq_k fun K hK => ?_ | ((first | refine awp_region_k (by kernel_rfl) fun R hR => ?_ | refine awp_draw mixed (by kernel_rfl) (by kernel_rfl) fun R hR => ?_); simp only [go_sem, s1, s2, s5, s6, he, hz]) | ((first | (refine hR _ ?_; clear hR R) | refine awp_skip ?_ | refine awp_exit ?_ | refine awp_ret ?_); try simp only [thenA, inBlockA, reduceIte, reduceCtorEq, Nat.reduceEqDiff, if_false, if_true]) | ((first | refine hK _ ?_ | (clear hK K; first | refine hK _ ?_ | (clear hK K; first | refine hK _ ?_ | (clear hK K; first | refine hK _ ?_ | (clear hK K; refine hK _ ?_))))); clear hK K) | refine awp_true rfl rfl ?_ | refine awp_false rfl rfl ?_ | refine awp_block ?_ | refine And.intro (by first | ((repeat' first | omega | exact trivial | rfl | assumption | (intro a e; subst e; rfl) | exact map_sz fun a => (by simp only [go_sem]) | refine And.intro ?_ ?_); done) | fail) ?_ | fail)
        (first | refine ret_pure ?_ ?_ ?_ | refine ret_ro ?_ ?_ ?_); focus exact (by simp only [Try.results9, resOkL, resOk, Try.ntmps9, List.toList_toArray]; first | decide | (simp only [go_sem]; done) | (simp only [go_sem]; and_intros <;> first | omega | rfl | decide))
        rotate_left; focus exact (by repeat (first | exact Fr.rfl' _ _ | assumption | refine Fr.updk ?_ (by omega) _))
        simp only [resA, resV, Try.results9, go_sem]
        all_goals try (first | exact Co.t2 (.dat rfl) (.dat rfl) | exact Co.t3 (.dat rfl) (.dat rfl) (.dat rfl))
        all_goals exact co_i hv
      | false =>
        repeat' (first | refine awp_seq_k fun K hK => ?_ | ((first | refine awp_region_k (by kernel_rfl) fun R hR => ?_ | refine awp_draw mixed (by kernel_rfl) (by kernel_rfl) fun R hR => ?_); simp only [go_sem, s1, s2, s5, s6, he, hz]) | ((first | (refine hR _ ?_; clear hR R) | refine awp_skip ?_ | refine awp_exit ?_ | refine awp_ret ?_); try simp only [thenA, inBlockA, reduceIte, reduceCtorEq, Nat.reduceEqDiff, if_false, if_true]) | ((first | refine hK _ ?_ | (clear hK K; first | refine hK _ ?_ | (clear hK K; first | refine hK _ ?_ | (clear hK K; first | refine hK _ ?_ | (clear hK K; refine hK _ ?_))))); clear hK K) | refine awp_true rfl rfl ?_ | refine awp_false rfl rfl ?_ | refine awp_block ?_ | refine And.intro (by first | ((repeat' first | omega | exact trivial | rfl | assumption | (intro a e; subst e; rfl) | exact map_sz fun a => (by simp only [go_sem]) | refine And.intro ?_ ?_); done) | fail) ?_ | fail)
        (first | refine ret_pure ?_ ?_ ?_ | refine ret_ro ?_ ?_ ?_); focus exact (by simp only [Try.results9, resOkL, resOk, Try.ntmps9, List.toList_toArray]; first | decide | (simp only [go_sem]; done) | (simp only [go_sem]; and_intros <;> first | omega | rfl | decide))
        rotate_left; focus exact (by repeat (first | exact Fr.rfl' _ _ | assumption | refine Fr.updk ?_ (by omega) _))
        simp only [resA, resV, Try.results9, go_sem]
        all_goals try (first | exact Co.t2 (.dat rfl) (.dat rfl) | exact Co.t3 (.dat rfl) (.dat rfl) (.dat rfl))
        all_goals exact co_i hv
    | true =>
      obtain rfl : e = 0 := by simpa using he
      rw [if_neg (by simp)] at hv
      rcases Nat.lt_or_ge i b.length with hlt | hge
      · have hz : (i : Int) < (b.length : Int) := by omega
        have e1 : (b.map bdDV).getD i default = bdDV b[i] := nth_map bdDV hlt _
        rw [bOkL_at hlt] at hv
        unfold bAt at hv
        by_cases hr : b[i].1 < 1 ∨ b[i].1 > 1000
        · have hbt : btw b[i].1 1 1000 = false := by unfold btw; simp; omega
          rw [if_pos hr, if_pos (by simp)] at hv
          repeat' (first | refine awp_seq_k fun K hK => ?_ | ((first | refine awp_region_k (by kernel_rfl) fun R hR => ?_ | refine awp_draw mixed (by kernel_rfl) (by kernel_rfl) fun R hR => ?_); simp only [go_sem, s1, s2, s5, s6, sh, hz, e1, hne, hbt, Int.toNat_natCast, beq_self_eq_true]) | ((first | (refine hR _ ?_; clear hR R) | refine awp_skip ?_ | refine awp_exit ?_ | refine awp_ret ?_); try simp only [thenA, inBlockA, reduceIte, reduceCtorEq, Nat.reduceEqDiff, if_false, if_true]) | ((first | refine hK _ ?_ | (clear hK K; first | refine hK _ ?_ | (clear hK K; first | refine hK _ ?_ | (clear hK K; first | refine hK _ ?_ | (clear hK K; refine hK _ ?_))))); clear hK K) | refine awp_true rfl rfl ?_ | refine awp_false rfl rfl ?_ | refine awp_block ?_ | ((first | refine CallK.pure (enter36) (between_tri b[i].1 1 1000) ?_ ?_ | refine CallD.pure (enter36) (between_tri b[i].1 1 1000) ?_ ?_); (focus first | ((repeat (first | exact trivial | refine ⟨(by first | exact Or.inl rfl | exact Or.inr rfl), ?_⟩)); done) | (simp only [coL, AV.dat, true_or, or_true, AV.d.injEq, go_sem]; done)); simp only [go_sem, s1, s2, s5, s6, sh, hz, e1, hne, hbt, Int.toNat_natCast, beq_self_eq_true]) | refine And.intro (by first | ((repeat' first | omega | exact trivial | rfl | assumption | (intro a e; subst e; rfl) | exact map_sz fun a => (by simp only [go_sem]) | refine And.intro ?_ ?_); done) | fail) ?_ | fail)
          (first | refine ret_pure ?_ ?_ ?_ | refine ret_ro ?_ ?_ ?_); focus exact (by simp only [Try.results9, resOkL, resOk, Try.ntmps9, List.toList_toArray]; first | decide | (simp only [go_sem]; done) | (simp only [go_sem]; and_intros <;> first | omega | rfl | decide))
          rotate_left; focus exact (by repeat (first | exact Fr.rfl' _ _ | assumption | refine Fr.updk ?_ (by omega) _))
          simp only [resA, resV, Try.results9, go_sem]
          all_goals try (first | exact Co.t2 (.dat rfl) (.dat rfl) | exact Co.t3 (.dat rfl) (.dat rfl) (.dat rfl))
          all_goals exact co_i hv
        · have hbt : btw b[i].1 1 1000 = true := by unfold btw; simp; omega
          rw [if_neg hr] at hv
          have hT := checkTerm_tri (g := g) (t := b[i].2)
          by_cases h0i : i = 0
          · subst h0i
            rw [prev_zero] at hv
            simp only [Bool.false_eq_true, if_false] at hv
            repeat' (first | refine awp_seq_k fun K hK => ?_ | ((first | refine awp_region_k (by kernel_rfl) fun R hR => ?_ | refine awp_draw mixed (by kernel_rfl) (by kernel_rfl) fun R hR => ?_); simp only [go_sem, s1, s2, s5, s6, sh, hz, e1, hne, hbt, Int.toNat_natCast, Int.toNat_zero, beq_self_eq_true]) | ((first | (refine hR _ ?_; clear hR R) | refine awp_skip ?_ | refine awp_exit ?_ | refine awp_ret ?_); try simp only [thenA, inBlockA, reduceIte, reduceCtorEq, Nat.reduceEqDiff, if_false, if_true]) | ((first | refine hK _ ?_ | (clear hK K; first | refine hK _ ?_ | (clear hK K; first | refine hK _ ?_ | (clear hK K; first | refine hK _ ?_ | (clear hK K; refine hK _ ?_))))); clear hK K) | refine awp_true rfl rfl ?_ | refine awp_false rfl rfl ?_ | refine awp_block ?_ | ((first | refine CallK.pure (enter36) (between_tri b[0].1 1 1000) ?_ ?_ | refine CallD.pure (enter36) (between_tri b[0].1 1 1000) ?_ ?_ | refine CallK.pure (enter10) (hT) ?_ ?_ | refine CallD.pure (enter10) (hT) ?_ ?_); (focus first | ((repeat (first | exact trivial | refine ⟨(by first | exact Or.inl rfl | exact Or.inr rfl), ?_⟩)); done) | (simp only [coL, AV.dat, true_or, or_true, AV.d.injEq, go_sem]; done)); simp only [go_sem, s1, s2, s5, s6, sh, hz, e1, hne, hbt, Int.toNat_natCast, Int.toNat_zero, beq_self_eq_true]) | refine And.intro (by first | ((repeat' first | omega | exact trivial | rfl | assumption | (intro a e; subst e; rfl) | exact map_sz fun a => (by simp only [go_sem]) | refine And.intro ?_ ?_); done) | fail) ?_ | fail)
            refine ⟨⟨0 + 1, own g b[0].2, ?_⟩, ?_⟩
            rotate_left
            · simp only [go_sem, s1, s2, s6, sh, hne]; omega
            simp only [go_sem, s1, s2, s6, sh, hne]
            and_intros; all_goals try (first | rfl | omega | assumption | ((repeat (first | exact Fr.rfl' _ _ | assumption | refine Fr.updk ?_ (by omega) _)); done))
          · obtain ⟨i', rfl⟩ : ∃ i', i = i' + 1 := ⟨i - 1, by omega⟩
            have hs : ((i' + 1 : Nat) : Int) - 1 = (i' : Int) := by omega
            have hz0 : ((i' + 1 : Nat) : Int) > 0 := by omega
            have hz1 : (i' : Int) < (b.length : Int) := by omega
            have e2 : (b.map bdDV).getD i' default = bdDV b[i'] := nth_map bdDV (by omega) _
            rw [prev_succ b (by omega) (by omega)] at hv
            have e3 : i' + 1 - 1 = i' := rfl
            simp only [e3] at hv
            cases hc : decide (b[i' + 1].1 ≤ b[i'].1) with
            | true =>
              rw [hc] at hv
              rw [if_pos rfl, if_pos (by simp)] at hv
              repeat' (first | refine awp_seq_k fun K hK => ?_ | ((first | refine awp_region_k (by kernel_rfl) fun R hR => ?_ | refine awp_draw mixed (by kernel_rfl) (by kernel_rfl) fun R hR => ?_); simp only [go_sem, s1, s2, s5, s6, sh, hz, hz0, hz1, hs, e1, e2, hc, hne, hbt, Int.toNat_natCast, beq_self_eq_true]) | ((first | (refine hR _ ?_; clear hR R) | refine awp_skip ?_ | refine awp_exit ?_ | refine awp_ret ?_); try simp only [thenA, inBlockA, reduceIte, reduceCtorEq, Nat.reduceEqDiff, if_false, if_true]) | ((first | refine hK _ ?_ | (clear hK K; first | refine hK _ ?_ | (clear hK K; first | refine hK _ ?_ | (clear hK K; first | refine hK _ ?_ | (clear hK K; refine hK _ ?_))))); clear hK K) | refine awp_true rfl rfl ?_ | refine awp_false rfl rfl ?_ | refine awp_block ?_ | ((first | refine CallK.pure (enter36) (between_tri b[i' + 1].1 1 1000) ?_ ?_ | refine CallD.pure (enter36) (between_tri b[i' + 1].1 1 1000) ?_ ?_); (focus first | ((repeat (first | exact trivial | refine ⟨(by first | exact Or.inl rfl | exact Or.inr rfl), ?_⟩)); done) | (simp only [coL, AV.dat, true_or, or_true, AV.d.injEq, go_sem]; done)); simp only [go_sem, s1, s2, s5, s6, sh, hz, hz0, hz1, hs, e1, e2, hc, hne, hbt, Int.toNat_natCast, beq_self_eq_true]) | refine And.intro (by first | ((repeat' first | omega | exact trivial | rfl | assumption | (intro a e; subst e; rfl) | exact map_sz fun a => (by simp only [go_sem]) | refine And.intro ?_ ?_); done) | fail) ?_ | fail)
              (first | refine ret_pure ?_ ?_ ?_ | refine ret_ro ?_ ?_ ?_); focus exact (by simp only [Try.results9, resOkL, resOk, Try.ntmps9, List.toList_toArray]; first | decide | (simp only [go_sem]; done) | (simp only [go_sem]; and_intros <;> first | omega | rfl | decide))
              rotate_left; focus exact (by repeat (first | exact Fr.rfl' _ _ | assumption | refine Fr.updk ?_ (by omega) _))
              simp only [resA, resV, Try.results9, go_sem]
              all_goals try (first | exact Co.t2 (.dat rfl) (.dat rfl) | exact Co.t3 (.dat rfl) (.dat rfl) (.dat rfl))
              all_goals exact co_i hv
            | false =>
              rw [hc] at hv
              simp only [Bool.false_eq_true, if_false] at hv
              repeat' (first | refine awp_seq_k fun K hK => ?_ | ((first | refine awp_region_k (by kernel_rfl) fun R hR => ?_ | refine awp_draw mixed (by kernel_rfl) (by kernel_rfl) fun R hR => ?_); simp only [go_sem, s1, s2, s5, s6, sh, hz, hz0, hz1, hs, e1, e2, hc, hne, hbt, Int.toNat_natCast, beq_self_eq_true]) | ((first | (refine hR _ ?_; clear hR R) | refine awp_skip ?_ | refine awp_exit ?_ | refine awp_ret ?_); try simp only [thenA, inBlockA, reduceIte, reduceCtorEq, Nat.reduceEqDiff, if_false, if_true]) | ((first | refine hK _ ?_ | (clear hK K; first | refine hK _ ?_ | (clear hK K; first | refine hK _ ?_ | (clear hK K; first | refine hK _ ?_ | (clear hK K; refine hK _ ?_))))); clear hK K) | refine awp_true rfl rfl ?_ | refine awp_false rfl rfl ?_ | refine awp_block ?_ | ((first | refine CallK.pure (enter36) (between_tri b[i' + 1].1 1 1000) ?_ ?_ | refine CallD.pure (enter36) (between_tri b[i' + 1].1 1 1000) ?_ ?_ | refine CallK.pure (enter10) (hT) ?_ ?_ | refine CallD.pure (enter10) (hT) ?_ ?_); (focus first | ((repeat (first | exact trivial | refine ⟨(by first | exact Or.inl rfl | exact Or.inr rfl), ?_⟩)); done) | (simp only [coL, AV.dat, true_or, or_true, AV.d.injEq, go_sem]; done)); simp only [go_sem, s1, s2, s5, s6, sh, hz, hz0, hz1, hs, e1, e2, hc, hne, hbt, Int.toNat_natCast, beq_self_eq_true]) | refine And.intro (by first | ((repeat' first | omega | exact trivial | rfl | assumption | (intro a e; subst e; rfl) | exact map_sz fun a => (by simp only [go_sem]) | refine And.intro ?_ ?_); done) | fail) ?_ | fail)
              refine ⟨⟨i' + 1 + 1, own g b[i' + 1].2, ?_⟩, ?_⟩
              rotate_left
              · simp only [go_sem, s1, s2, s6, sh, hne]; omega
              simp only [go_sem, s1, s2, s6, sh, hne]
              and_intros; all_goals try (first | rfl | omega | assumption | ((repeat (first | exact Fr.rfl' _ _ | assumption | refine Fr.updk ?_ (by omega) _)); done))
      · have hz : ¬ ((i : Int) < (b.length : Int)) := by omega
        rw [List.drop_eq_nil_of_le hge, bOkL] at hv
        repeat' (first | refine awp_seq_k fun K hK => ?_ | ((first | refine awp_region_k (by kernel_rfl) fun R hR => ?_ | refine awp_draw mixed (by kernel_rfl) (by kernel_rfl) fun R hR => ?_); simp only [go_sem, s1, s2, s5, s6, hz]) | ((first | (refine hR _ ?_; clear hR R) | refine awp_skip ?_ | refine awp_exit ?_ | refine awp_ret ?_); try simp only [thenA, inBlockA, reduceIte, reduceCtorEq, Nat.reduceEqDiff, if_false, if_true]) | ((first | refine hK _ ?_ | (clear hK K; first | refine hK _ ?_ | (clear hK K; first | refine hK _ ?_ | (clear hK K; first | refine hK _ ?_ | (clear hK K; refine hK _ ?_))))); clear hK K) | refine awp_true rfl rfl ?_ | refine awp_false rfl rfl ?_ | refine awp_block ?_ | refine And.intro (by first | ((repeat' first | omega | exact trivial | rfl | assumption | (intro a e; subst e; rfl) | exact map_sz fun a => (by simp only [go_sem]) | refine And.intro ?_ ?_); done) | fail) ?_ | fail)
        (first | refine ret_pure ?_ ?_ ?_ | refine ret_ro ?_ ?_ ?_); focus exact (by simp only [Try.results9, resOkL, resOk, Try.ntmps9, List.toList_toArray]; first | decide | (simp only [go_sem]; done) | (simp only [go_sem]; and_intros <;> first | omega | rfl | decide))
        rotate_left; focus exact (by repeat (first | exact Fr.rfl' _ _ | assumption | refine Fr.updk ?_ (by omega) _))
        simp only [resA, resV, Try.results9, go_sem]
        all_goals try (first | exact Co.t2 (.dat rfl) (.dat rfl) | exact Co.t3 (.dat rfl) (.dat rfl) (.dat rfl))
        all_goals exact co_i hv
end Go.Proofs.Ytmeekpinkfpnhab
namespace Go.Proofs.Ytmeekpinkfpnhab
open Go.RowKit
abbrev bsO (b mm : Nm) (bs : Bs) : List (Nm × Ob) := [(b, .cells 71 [.map mm]), (mm, .map (bsE bs))]
theorem roBs {b mm : Nm} {bs : Bs} {k : Nat} {h : Heap} (h1 : b.1 < k) (h2 : mm.1 < k) (e1 : h b = some (.cells 71 [.map mm])) (e2 : h mm = some (.map (bsE bs))) : RoOK k (bsO b mm bs) h := ⟨fun x hx => by
  simp only [bsO, List.mem_cons, List.not_mem_nil, or_false] at hx
  rcases hx with rfl | rfl
  · exact ⟨h1, e1⟩
  · exact ⟨h2, e2⟩⟩
set_option maxHeartbeats 1000000 in
set_option maxRecDepth 20000 in
theorem made1_tri (b mm : Nm) (bs : Bs) (hbs : ∀ p ∈ bs, p.2.size ≤ 4000000) (x : Tm) : Tri Try.prog 104 [.d (tmDV x), .ptr b 0] (rdE (bsO b mm bs) (.tup [.d (tmDV (madeS bs x).1), bA (madeS bs x).2])) := by
  have hin : ∀ (bs : Bs) (u : Tm), lookB x.v bs = some u → ∃ p ∈ bs, p.2 = u := by
    intro bs u h
    induction bs with
    | nil => cases h
    | cons p bs ih =>
      rw [lookB] at h
      by_cases hv : x.v = p.1
      · rw [if_pos hv] at h; cases h; exact ⟨p, by simp, rfl⟩
      · rw [if_neg hv] at h
        obtain ⟨q, hq, e⟩ := ih h
        exact ⟨q, by simp [hq], e⟩
  refine tri_enter_ro Try.func104 rfl Try.ntmps104 (by simp only [List.length_cons, List.length_nil]; omega) fun w0 h0 k hro => ?_
  obtain ⟨n1, eb⟩ := hro.get _ (List.mem_cons_self ..)
  obtain ⟨n2, em⟩ := hro.get _ (List.mem_cons_of_mem _ (List.mem_cons_self ..))
  have q1 := nmne n1
  have q2 := nmne n2
  unfold madeS
  cases hb : lookB x.v bs with
  | none =>
    have hg : getM x.v (bsE bs) = none := by rw [getM_bs, hb]; rfl
    dsimp only
    repeat' (first | refine awp_seq_k fun K hK => ?_ | ((first | refine awp_region_k (by kernel_rfl) fun R hR => ?_ | refine awp_draw mixed (by kernel_rfl) (by kernel_rfl) fun R hR => ?_); simp only [go_sem, eb, em, q1, q2, hg, Option.isSome_none, AV.toD, Option.getD_none]) | ((first | (refine hR _ ?_; clear hR R) | refine awp_skip ?_ | refine awp_exit ?_ | refine awp_ret ?_); try simp only [thenA, inBlockA, reduceIte, reduceCtorEq, Nat.reduceEqDiff, if_false, if_true]) | ((first | refine hK _ ?_ | (clear hK K; first | refine hK _ ?_ | (clear hK K; first | refine hK _ ?_ | (clear hK K; first | refine hK _ ?_ | (clear hK K; refine hK _ ?_))))); clear hK K) | refine awp_true rfl rfl ?_ | refine awp_false rfl rfl ?_ | refine awp_block ?_ | refine And.intro (by first | ((repeat' first | omega | exact trivial | rfl | assumption | (intro a e; subst e; rfl) | exact map_sz fun a => (by simp only [go_sem]) | refine And.intro ?_ ?_); done) | fail) ?_ | fail)
    (first | refine ret_pure ?_ ?_ ?_ | refine ret_ro ?_ ?_ ?_); focus exact (by simp only [Try.results104, resOkL, resOk, Try.ntmps104, List.toList_toArray]; first | decide | (simp only [go_sem]; done) | (simp only [go_sem]; and_intros <;> first | omega | rfl | decide))
    rotate_left; focus exact (by repeat (first | exact Fr.rfl' _ _ | assumption | refine Fr.updk ?_ (by omega) _))
    simp only [resA, resV, Try.results104, go_sem]
    all_goals try (first | exact Co.t2 (.dat rfl) (.dat rfl) | exact Co.t3 (.dat rfl) (.dat rfl) (.dat rfl))
    exact .t2 (co_tm' rfl) (.dat rfl)
  | some u =>
    have hg : getM x.v (bsE bs) = some (tmDV u) := by rw [getM_bs, hb]; rfl
    obtain ⟨p, hp, hu⟩ := hin bs u hb
    have hus : u.size ≤ 4000000 := by rw [← hu]; exact hbs p hp
    dsimp only
    cases hv : decide (x.v > 0) with
    | false =>
      rw [if_neg (by simpa using hv)]
      repeat' (first | refine awp_seq_k fun K hK => ?_ | ((first | refine awp_region_k (by kernel_rfl) fun R hR => ?_ | refine awp_draw mixed (by kernel_rfl) (by kernel_rfl) fun R hR => ?_); simp only [go_sem, eb, em, q1, q2, hg, hv, Option.isSome_some]) | ((first | (refine hR _ ?_; clear hR R) | refine awp_skip ?_ | refine awp_exit ?_ | refine awp_ret ?_); try simp only [thenA, inBlockA, reduceIte, reduceCtorEq, Nat.reduceEqDiff, if_false, if_true]) | ((first | refine hK _ ?_ | (clear hK K; first | refine hK _ ?_ | (clear hK K; first | refine hK _ ?_ | (clear hK K; first | refine hK _ ?_ | (clear hK K; refine hK _ ?_))))); clear hK K) | refine awp_true rfl rfl ?_ | refine awp_false rfl rfl ?_ | refine awp_block ?_ | refine And.intro (by first | ((repeat' first | omega | exact trivial | rfl | assumption | (intro a e; subst e; rfl) | exact map_sz fun a => (by simp only [go_sem]) | refine And.intro ?_ ?_); done) | fail) ?_ | fail)
      (first | refine ret_pure ?_ ?_ ?_ | refine ret_ro ?_ ?_ ?_); focus exact (by simp only [Try.results104, resOkL, resOk, Try.ntmps104, List.toList_toArray]; first | decide | (simp only [go_sem]; done) | (simp only [go_sem]; and_intros <;> first | omega | rfl | decide))
      rotate_left; focus exact (by repeat (first | exact Fr.rfl' _ _ | assumption | refine Fr.updk ?_ (by omega) _))
      simp only [resA, resV, Try.results104, go_sem]
      all_goals try (first | exact Co.t2 (.dat rfl) (.dat rfl) | exact Co.t3 (.dat rfl) (.dat rfl) (.dat rfl))
      exact .t2 (co_tm' rfl) (.dat rfl)
    | true =>
      rw [if_pos (by simpa using hv)]
      repeat' (first | refine awp_seq_k fun K hK => ?_ | ((first | refine awp_region_k (by kernel_rfl) fun R hR => ?_ | refine awp_draw mixed (by kernel_rfl) (by kernel_rfl) fun R hR => ?_); simp only [go_sem, eb, em, q1, q2, hg, hv, Option.isSome_some]) | ((first | (refine hR _ ?_; clear hR R) | refine awp_skip ?_ | refine awp_exit ?_ | refine awp_ret ?_); try simp only [thenA, inBlockA, reduceIte, reduceCtorEq, Nat.reduceEqDiff, if_false, if_true]) | ((first | refine hK _ ?_ | (clear hK K; first | refine hK _ ?_ | (clear hK K; first | refine hK _ ?_ | (clear hK K; first | refine hK _ ?_ | (clear hK K; refine hK _ ?_))))); clear hK K) | refine awp_true rfl rfl ?_ | refine awp_false rfl rfl ?_ | refine awp_block ?_ | ((first | refine CallK.pure (enter56) (copied_tri u hus) ?_ ?_ | refine CallD.pure (enter56) (copied_tri u hus) ?_ ?_); (focus first | ((repeat (first | exact trivial | refine ⟨(by first | exact Or.inl rfl | exact Or.inr rfl), ?_⟩)); done) | (simp only [coL, AV.dat, true_or, or_true, AV.d.injEq, go_sem]; done)); simp only [go_sem, eb, em, q1, q2, hg, hv, Option.isSome_some]) | refine And.intro (by first | ((repeat' first | omega | exact trivial | rfl | assumption | (intro a e; subst e; rfl) | exact map_sz fun a => (by simp only [go_sem]) | refine And.intro ?_ ?_); done) | fail) ?_ | fail)
      (first | refine ret_pure ?_ ?_ ?_ | refine ret_ro ?_ ?_ ?_); focus exact (by simp only [Try.results104, resOkL, resOk, Try.ntmps104, List.toList_toArray]; first | decide | (simp only [go_sem]; done) | (simp only [go_sem]; and_intros <;> first | omega | rfl | decide))
      rotate_left; focus exact (by repeat (first | exact Fr.rfl' _ _ | assumption | refine Fr.updk ?_ (by omega) _))
      simp only [resA, resV, Try.results104, go_sem]
      all_goals try (first | exact Co.t2 (.dat rfl) (.dat rfl) | exact Co.t3 (.dat rfl) (.dat rfl) (.dat rfl))
      all_goals exact .t2 (co_tm' rfl) (.dat rfl)
set_option maxRecDepth 20000 in
theorem made_tri (mm : Nm) (bs : Bs) (hbs : ∀ p ∈ bs, p.2.size ≤ 4000000) (t : Tm) (ht : t.size ≤ 4000000) : Tri Try.prog 72 [.map mm, .d (tmDV t)] (rdE [(mm, .map (bsE bs))] (.d (tmDV (mapM (madeS bs) t)))) := by
  refine tri_enter_ro Try.func72 rfl Try.ntmps72 (by simp only [List.length_cons, List.length_nil]; omega) fun w0 h0 k hro => ?_
  obtain ⟨n2, em⟩ := hro.get _ (List.mem_cons_self ..)
  have q2 := nmne n2
  have h := mapped_tri 104 [.ptr (k, 0) 0] (bsO (k, 0) mm bs) (madeS bs) (enter104) t ht (fun x _ => made1_tri (k, 0) mm bs hbs x)
  repeat' (first | refine awp_seq_k fun K hK => ?_ | ((first | refine awp_region_k (by kernel_rfl) fun R hR => ?_ | refine awp_draw mixed (by kernel_rfl) (by kernel_rfl) fun R hR => ?_); simp only [go_sem, em, q2]) | ((first | (refine hR _ ?_; clear hR R) | refine awp_skip ?_ | refine awp_exit ?_ | refine awp_ret ?_); try simp only [thenA, inBlockA, reduceIte, reduceCtorEq, Nat.reduceEqDiff, if_false, if_true]) | ((first | refine hK _ ?_ | (clear hK K; first | refine hK _ ?_ | (clear hK K; first | refine hK _ ?_ | (clear hK K; first | refine hK _ ?_ | (clear hK K; refine hK _ ?_))))); clear hK K) | refine awp_true rfl rfl ?_ | refine awp_false rfl rfl ?_ | refine awp_block ?_ | ((first | refine CallK.look (enter94) (h) ?_ (roBs (k := k + 1) (Nat.lt_succ_self k) (Nat.lt_succ_of_lt n2) (by simp only [go_sem, q2]) (by simp only [go_sem, em, q2])) (Fr.rfl' _ _) ?_ | refine CallD.look (enter94) (h) ?_ (roBs (k := k + 1) (Nat.lt_succ_self k) (Nat.lt_succ_of_lt n2) (by simp only [go_sem, q2]) (by simp only [go_sem, em, q2])) (Fr.rfl' _ _) (by first | assumption | exact List.cons_ne_nil _ _) ?_); (focus first | ((repeat (first | exact trivial | refine ⟨(by first | exact Or.inl rfl | exact Or.inr rfl), ?_⟩)); done) | (simp only [coL, AV.dat, true_or, or_true, AV.d.injEq, go_sem]; done)); simp only [go_sem, em, q2]) | refine And.intro (by first | ((repeat' first | omega | exact trivial | rfl | assumption | (intro a e; subst e; rfl) | exact map_sz fun a => (by simp only [go_sem]) | refine And.intro ?_ ?_); done) | fail) ?_ | fail)
  (first | refine ret_pure ?_ ?_ ?_ | refine ret_ro ?_ ?_ ?_); focus exact (by simp only [Try.results72, resOkL, resOk, Try.ntmps72, List.toList_toArray]; first | decide | (simp only [go_sem]; done) | (simp only [go_sem]; and_intros <;> first | omega | rfl | decide))
  rotate_left; focus exact (by repeat (first | exact Fr.rfl' _ _ | assumption | refine Fr.updk ?_ (by omega) _))
  simp only [resA, resV, Try.results72, go_sem]
  all_goals try (first | exact Co.t2 (.dat rfl) (.dat rfl) | exact Co.t3 (.dat rfl) (.dat rfl) (.dat rfl))
  all_goals exact co_tm' rfl
end Go.Proofs.Ytmeekpinkfpnhab
namespace Go.Proofs.Ytmeekpinkfpnhab
open Go.RowKit
def PartsSpec' (t : Tm) : Prop := t.fits → ∀ (n : Nm) (l : List Tm), l.length + (parts t).length ≤ 4000000 →
  Tri Try.prog 38 [.own n (l.map tmDV), .d (tmDV t)] (ownEff 28 n (l.map tmDV) ((l ++ parts t).map tmDV))
theorem partsOf_step (t : Tm) (ih : ∀ u ∈ t.us, PartsSpec' u) : PartsSpec' t := by
  intro hft n l hsz
  have hlen := Tm.fits_len hft
  have hp2 := parts_eq t
  have hp3 : (parts t).length = (partsL t.us).length + 1 := by rw [hp2]; simp
  refine tri_enter Try.func38 rfl Try.ntmps38 (by simp only [List.length_cons, List.length_nil]; omega) fun w0 h0 k hrd hwr => ?_
  have hn : h0 n = some (.perm 28 (l.map tmDV).length) := hrd (n, _) (by simp [ownEff])
  have hnk : n.1 < k := hwr (n, _) (by simp only [ownEff, List.mem_cons, List.not_mem_nil, or_false]; rfl)
  have hne := nmne hnk
  rw [List.length_map] at hn
  repeat' (first | refine awp_seq_k fun K hK => ?_ | ((first | refine awp_region_k (by kernel_rfl) fun R hR => ?_ | refine awp_draw mixed (by kernel_rfl) (by kernel_rfl) fun R hR => ?_); simp only [go_sem, hne]) | ((first | (refine hR _ ?_; clear hR R) | refine awp_skip ?_ | refine awp_exit ?_ | refine awp_ret ?_); try simp only [thenA, inBlockA, reduceIte, reduceCtorEq, Nat.reduceEqDiff, if_false, if_true]) | ((first | refine hK _ ?_ | (clear hK K; first | refine hK _ ?_ | (clear hK K; first | refine hK _ ?_ | (clear hK K; first | refine hK _ ?_ | (clear hK K; refine hK _ ?_))))); clear hK K) | refine awp_true rfl rfl ?_ | refine awp_false rfl rfl ?_ | refine awp_block ?_ | refine And.intro (by first | ((repeat' first | omega | exact trivial | rfl | assumption | (intro a e; subst e; rfl) | exact map_sz fun a => (by simp only [go_sem]) | refine And.intro ?_ ?_); done) | fail) ?_ | fail)
  refine awp_loop (fun s => ∃ (i : Nat), s.t 0 = .own n ((l ++ partsL (t.us.take i)).map tmDV) ∧ s.t 3 = .ptr (k, 0) 0 ∧ s.t 5 = iA i ∧ s.h (k, 0) = some (.cells 28 [iA t.v, iA t.f, .d (.sl (t.us.map tmDV))]) ∧
    s.h n = some (.perm 28 (l ++ partsL (t.us.take i)).length) ∧ FrX k n h0 s.h ∧ k < s.k ∧ i ≤ t.us.length) (fun s => t.us.length - (intOf' (s.t 5)).toNat) ?_ ?_
  · refine ⟨0, ?_⟩
    simp only [go_sem, hne, hn, partsL, List.take_zero, List.append_nil]
    and_intros; all_goals try (first | rfl | omega | assumption | ((repeat (first | exact Fr.rfl' _ _ | assumption | refine Fr.updk ?_ (by omega) _)); done))
    exact FrX.updk (FrX.rfl' _ _ _) (by omega) _
  · rintro s ⟨i, s0, s3, s5, sh, sn, hfr, hk, hi⟩
    have hne' := nmne (show n.1 < s.k by omega)
    rcases Nat.lt_or_ge i t.us.length with hlt | hge
    · have e1 := nth_map tmDV hlt default
      have hz : (i : Int) < (t.us.length : Int) := by omega
      have hp := partsL_at hlt
      repeat' (first | refine awp_seq_k fun K hK => ?_ | ((first | refine awp_region_k (by kernel_rfl) fun R hR => ?_ | refine awp_draw mixed (by kernel_rfl) (by kernel_rfl) fun R hR => ?_); simp only [go_sem, s0, s3, s5, sh, sn, e1, hz, hne, hne', Int.toNat_natCast]) | ((first | (refine hR _ ?_; clear hR R) | refine awp_skip ?_ | refine awp_exit ?_ | refine awp_ret ?_); try simp only [thenA, inBlockA, reduceIte, reduceCtorEq, Nat.reduceEqDiff, if_false, if_true]) | ((first | refine hK _ ?_ | (clear hK K; first | refine hK _ ?_ | (clear hK K; first | refine hK _ ?_ | (clear hK K; first | refine hK _ ?_ | (clear hK K; refine hK _ ?_))))); clear hK K) | refine awp_true rfl rfl ?_ | refine awp_false rfl rfl ?_ | refine awp_block ?_ | ((first | refine CallK.eff (enter38) (ih _ (List.getElem_mem hlt) (Tm.fits_at hft hlt) n (l ++ partsL (t.us.take i)) (by rw [List.length_append]; omega)) ?_ ?_ ?_ ?_ | refine CallD.eff (enter38) (ih _ (List.getElem_mem hlt) (Tm.fits_at hft hlt) n (l ++ partsL (t.us.take i)) (by rw [List.length_append]; omega)) ?_ ?_ ?_ ?_); (focus first | ((repeat (first | exact trivial | refine ⟨(by first | exact Or.inl rfl | exact Or.inr rfl), ?_⟩)); done) | (simp only [coL, AV.dat, true_or, or_true, AV.d.injEq, go_sem]; done)); (focus (simp only [go_sem, s0, s3, s5, sh, sn, e1, hz, hne, hne', Int.toNat_natCast]; done)); (focus (simp only [go_sem, s0, s3, s5, sh, sn, e1, hz, hne, hne', Int.toNat_natCast]; done)); simp only [go_sem, s0, s3, s5, sh, sn, e1, hz, hne, hne', Int.toNat_natCast]) | refine And.intro (by first | ((repeat' first | omega | exact trivial | rfl | assumption | (intro a e; subst e; rfl) | exact map_sz fun a => (by simp only [go_sem]) | refine And.intro ?_ ?_); done) | fail) ?_ | fail)
      refine ⟨⟨i + 1, ?_⟩, ?_⟩
      rotate_left
      · simp only [go_sem, s0, s3, s5, sh, sn, hne, hne', partsL_take hlt]; omega
      simp only [go_sem, s0, s3, s5, sh, sn, hne, hne', partsL_take hlt]
      and_intros; all_goals try (first | rfl | omega | assumption | ((repeat (first | exact Fr.rfl' _ _ | assumption | refine Fr.updk ?_ (by omega) _)); done))
      exact FrX.updn hfr _
    · have hz : ¬ ((i : Int) < (t.us.length : Int)) := by omega
      obtain rfl : i = t.us.length := by omega
      have e2 : partsL (List.take t.us.length t.us) = partsL t.us := by rw [List.take_length]
      rw [e2] at s0 sn
      have hl : (l ++ partsL t.us).length ≤ 16777215 := by rw [List.length_append]; omega
      repeat' (first | refine awp_seq_k fun K hK => ?_ | ((first | refine awp_region_k (by kernel_rfl) fun R hR => ?_ | refine awp_draw mixed (by kernel_rfl) (by kernel_rfl) fun R hR => ?_); simp only [go_sem, s0, s3, s5, sh, sn, hz, hne, hne']) | ((first | (refine hR _ ?_; clear hR R) | refine awp_skip ?_ | refine awp_exit ?_ | refine awp_ret ?_); try simp only [thenA, inBlockA, reduceIte, reduceCtorEq, Nat.reduceEqDiff, if_false, if_true]) | ((first | refine hK _ ?_ | (clear hK K; first | refine hK _ ?_ | (clear hK K; first | refine hK _ ?_ | (clear hK K; first | refine hK _ ?_ | (clear hK K; refine hK _ ?_))))); clear hK K) | refine awp_true rfl rfl ?_ | refine awp_false rfl rfl ?_ | refine awp_block ?_ | refine And.intro (by first | ((repeat' first | omega | exact trivial | rfl | assumption | (intro a e; subst e; rfl) | exact map_sz fun a => (by simp only [go_sem]) | refine And.intro ?_ ?_); done) | fail) ?_ | fail)
      refine ret_own (by simp only [Try.results38, resOkL, resOk, Try.ntmps38, List.toList_toArray]; decide) ?_ (by assumption) ?_ ?_
      all_goals simp only [resA, resV, Try.results38, go_sem, hne, hne', e2, hp2]
      · simp
      · simp
      · exact FrX.updn (FrX.updk hfr (by omega) _) _
theorem partsOf_tri (t : Tm) : PartsSpec' t := Tm.ind partsOf_step t
theorem partsOf_new (t : Tm) (hft : t.fits) (hsz : (parts t).length ≤ 4000000) (n' : Nm) : Tri Try.prog 38 [.nil, .d (tmDV t)] (newEff 28 n' ((parts t).map tmDV)) :=
  Tri.grown (pre := []) (fun n => by have := partsOf_tri t hft n [] (by simpa using hsz); simpa using this) n'
theorem partsOf_data (t : Tm) (hft : t.fits) (hsz : (parts t).length ≤ 4000000) : Tri Try.prog 38 [.nil, .d (tmDV t)] (pure' (.d (.sl ((parts t).map tmDV)))) := Tri.data fun n' => partsOf_new t hft hsz n'
end Go.Proofs.Ytmeekpinkfpnhab
namespace Go.Proofs.Ytmeekpinkfpnhab
open Go.RowKit
theorem nf {α : Type} {a b : α} (h : a ≠ b) : ((a = b) = False) ∧ ((b = a) = False) := ⟨eq_false h, eq_false h.symm⟩
/-! ### the walk that counts -/
def szS (bs : Bs) (most : Int) (x : Tm) (n : Int) : Bool × Int := (decide (n + apOne bs x ≤ most), n + apOne bs x)
mutual
theorem walk_sz (bs : Bs) (most : Int) : ∀ (t : Tm) (n : Int), ((walkS (szS bs most) t n).1 = true → (walkS (szS bs most) t n).2 = n + apS bs (pre t) ∧ n + apS bs (pre t) ≤ most) ∧ ((walkS (szS bs most) t n).1 = false → most < (walkS (szS bs most) t n).2 ∧ (walkS (szS bs most) t n).2 ≤ n + apS bs (pre t))
  | .mk v f us, n => by
    rw [walkS, pre, apS]
    have hp := apS_len bs (preL us)
    have e2 : (szS bs most (.mk v f us) n).2 = n + apOne bs (.mk v f us) := rfl
    by_cases h : n + apOne bs (.mk v f us) ≤ most
    · rw [if_pos (show (szS bs most (.mk v f us) n).1 = true by simpa [szS] using h), e2]
      have h1 := walkL_sz bs most us (n + apOne bs (.mk v f us)) h
      rw [← Int.add_assoc]
      exact h1
    · rw [if_neg (show ¬ (szS bs most (.mk v f us) n).1 = true by simpa [szS] using h), e2]
      refine ⟨fun h => absurd h Bool.false_ne_true, fun _ => ?_⟩
      omega
theorem walkL_sz (bs : Bs) (most : Int) : ∀ (us : List Tm) (n : Int), n ≤ most → ((walkL (szS bs most) us n).1 = true → (walkL (szS bs most) us n).2 = n + apS bs (preL us) ∧ n + apS bs (preL us) ≤ most) ∧ ((walkL (szS bs most) us n).1 = false → most < (walkL (szS bs most) us n).2 ∧ (walkL (szS bs most) us n).2 ≤ n + apS bs (preL us))
  | [], n, h => by
    rw [walkL, preL, apS]
    refine ⟨fun _ => ?_, fun h => absurd h.symm Bool.false_ne_true⟩
    omega
  | x :: xs, n, h => by
    rw [walkL, preL, apS_append]
    have hp := apS_len bs (preL xs)
    obtain ⟨h1, h2⟩ := walk_sz bs most x n
    by_cases hc : (walkS (szS bs most) x n).1 = true
    · rw [if_pos hc]
      obtain ⟨h3, h4⟩ := h1 hc
      have h5 := walkL_sz bs most xs (walkS (szS bs most) x n).2 (by omega)
      rw [h3] at h5 ⊢
      rw [← Int.add_assoc]
      exact h5
    · rw [if_neg hc]
      obtain ⟨h3, h4⟩ := h2 (by simpa using hc)
      refine ⟨fun h => absurd h Bool.false_ne_true, fun _ => ?_⟩
      omega
end
theorem walk_cap (bs : Bs) (t : Tm) : (walkS (szS bs 120) t 0).2 > 120 ↔ apS bs (pre t) > 120 := by
  obtain ⟨h1, h2⟩ := walk_sz bs 120 t 0
  cases hc : (walkS (szS bs 120) t 0).1 with
  | true => have := h1 hc; omega
  | false => have := h2 hc; omega
def szO (bb mm bn : Nm) (bs : Bs) (most n : Int) (x : Nm) : Ob := if x = bb then .cells 71 [.map mm] else if x = mm then .map (bsE bs) else if x = bn then .cells 3 [iA n] else .cells 3 [iA most]
section
variable {bb mm bn bm : Nm} (d1 : bb ≠ mm) (d2 : bb ≠ bn) (d3 : bb ≠ bm) (d4 : mm ≠ bn) (d5 : mm ≠ bm) (d6 : bn ≠ bm) (bs : Bs) (most n : Int)
theorem szO_bb : szO bb mm bn bs most n bb = .cells 71 [.map mm] := by simp [szO]
include d1 in
theorem szO_mm : szO bb mm bn bs most n mm = .map (bsE bs) := by simp [szO, d1.symm]
include d2 d4 in
theorem szO_bn : szO bb mm bn bs most n bn = .cells 3 [iA n] := by simp [szO, d2.symm, d4.symm]
include d3 d5 d6 in
theorem szO_bm : szO bb mm bn bs most n bm = .cells 3 [iA most] := by simp [szO, d3.symm, d5.symm, d6.symm]
theorem szO_cl (k : Nat) (h : ∀ n ∈ [bb, mm, bn, bm], n.1 < k) : Cl k [bb, mm, bn, bm] (szO bb mm bn bs most n) := by
  intro x _ y hy
  unfold szO at hy
  split at hy
  · simp [Ob.names, namesL, AV.names] at hy; rw [hy]; exact h mm (by simp)
  · split at hy
    · simp [Ob.names] at hy
    · split at hy <;> simp [Ob.names, namesL, AV.names] at hy
include d1 d2 d3 d4 d5 d6
set_option maxHeartbeats 1000000 in
set_option maxRecDepth 20000 in
theorem size1_tri (hn : 0 ≤ n) (hn2 : n ≤ 1000000000) (pl : List Int) (x : Tm) : Tri Try.prog 103 [.d (.sl (pl.map iD)), .d (tmDV x), .ptr bb 0, .ptr bn 0, .ptr bm 0]
    (stE [bb, mm, bn, bm] (szO bb mm bn bs most n) (szO bb mm bn bs most (n + apOne bs x)) (bA (decide (n + apOne bs x ≤ most)))) := by
  refine tri_enter_st Try.func103 rfl Try.ntmps103 (by simp only [List.length_cons, List.length_nil]; omega) fun w0 h0 k hag => ?_
  obtain ⟨hb, eb⟩ := hag.get bb (by simp)
  obtain ⟨hm, em⟩ := hag.get mm (by simp)
  obtain ⟨hbn, en⟩ := hag.get bn (by simp)
  obtain ⟨hbm, eo⟩ := hag.get bm (by simp)
  rw [szO_bb] at eb
  rw [szO_mm d1] at em
  rw [szO_bn d2 d4] at en
  rw [szO_bm d3 d5 d6] at eo
  have qb := nmne hb
  have qm := nmne hm
  have qn := nmne hbn
  have qo := nmne hbm
  have fin : ∀ h : Heap, h bb = h0 bb → h mm = h0 mm → h bm = h0 bm → h bn = some (.cells 3 [iA (n + apOne bs x)]) → Ag k [bb, mm, bn, bm] (szO bb mm bn bs most (n + apOne bs x)) h := by
    intro h e1 e2 e3 e4
    refine ⟨fun y hy => ⟨(hag.get y hy).1, ?_⟩⟩
    simp only [List.mem_cons, List.not_mem_nil, or_false] at hy
    rcases hy with rfl | rfl | rfl | rfl
    · rw [szO_bb, e1, eb]
    · rw [szO_mm d1, e2, em]
    · rw [szO_bn d2 d4, e4]
    · rw [szO_bm d3 d5 d6, e3, eo]
  cases hl : lookB x.v bs with
  | none =>
    have hg : getM x.v (bsE bs) = none := by rw [getM_bs, hl]; rfl
    have ha : apOne bs x = 1 := by unfold apOne; rw [hl]; simp
    rw [ha] at fin ⊢
    cases hv : decide (x.v > 0) with
    | true =>
      repeat' (first | refine awp_seq_k fun K hK => ?_ | ((first | refine awp_region_k (by kernel_rfl) fun R hR => ?_ | refine awp_draw mixed (by kernel_rfl) (by kernel_rfl) fun R hR => ?_); simp only [go_sem, eb, em, en, eo, qb, qm, qn, qo, nf d1, nf d2, nf d3, nf d4, nf d5, nf d6, hg, hv, Option.isSome_none, AV.toD, Option.getD_none]) | ((first | (refine hR _ ?_; clear hR R) | refine awp_skip ?_ | refine awp_exit ?_ | refine awp_ret ?_); try simp only [thenA, inBlockA, reduceIte, reduceCtorEq, Nat.reduceEqDiff, if_false, if_true]) | ((first | refine hK _ ?_ | (clear hK K; first | refine hK _ ?_ | (clear hK K; first | refine hK _ ?_ | (clear hK K; first | refine hK _ ?_ | (clear hK K; refine hK _ ?_))))); clear hK K) | refine awp_true rfl rfl ?_ | refine awp_false rfl rfl ?_ | refine awp_block ?_ | refine And.intro (by first | ((repeat' first | omega | exact trivial | rfl | assumption | (intro a e; subst e; rfl) | exact map_sz fun a => (by simp only [go_sem]) | refine And.intro ?_ ?_); done) | fail) ?_ | fail)
      refine ret_st (by simp only [Try.results103, resOkL, resOk, Try.ntmps103, List.toList_toArray]; first | decide | (simp only [go_sem]; done) | (simp only [go_sem]; and_intros <;> first | omega | rfl | decide)) (by simp only [resA, resV, Try.results103, go_sem]; first | exact .dat rfl | exact Co.t2 (.dat rfl) (.dat rfl) | exact Co.t3 (.dat rfl) (.dat rfl) (.dat rfl)) ?_ ?_ ?_
      · refine fin _ ?_ ?_ ?_ ?_ <;> simp only [go_sem, qb, qm, qn, qo, nf d1, nf d2, nf d3, nf d4, nf d5, nf d6]
      · refine FrN.updn (by repeat (first | exact FrN.rfl' _ _ _ | assumption | refine FrN.updk ?_ (by omega) _ | refine FrN.stH ?_ _)) (by simp) _
      · exact szO_cl _ _ _ k fun n hn => (hag.get n hn).1
    | false =>
      repeat' (first | refine awp_seq_k fun K hK => ?_ | ((first | refine awp_region_k (by kernel_rfl) fun R hR => ?_ | refine awp_draw mixed (by kernel_rfl) (by kernel_rfl) fun R hR => ?_); simp only [go_sem, eb, em, en, eo, qb, qm, qn, qo, nf d1, nf d2, nf d3, nf d4, nf d5, nf d6, hg, hv, Option.isSome_none, AV.toD, Option.getD_none]) | ((first | (refine hR _ ?_; clear hR R) | refine awp_skip ?_ | refine awp_exit ?_ | refine awp_ret ?_); try simp only [thenA, inBlockA, reduceIte, reduceCtorEq, Nat.reduceEqDiff, if_false, if_true]) | ((first | refine hK _ ?_ | (clear hK K; first | refine hK _ ?_ | (clear hK K; first | refine hK _ ?_ | (clear hK K; first | refine hK _ ?_ | (clear hK K; refine hK _ ?_))))); clear hK K) | refine awp_true rfl rfl ?_ | refine awp_false rfl rfl ?_ | refine awp_block ?_ | refine And.intro (by first | ((repeat' first | omega | exact trivial | rfl | assumption | (intro a e; subst e; rfl) | exact map_sz fun a => (by simp only [go_sem]) | refine And.intro ?_ ?_); done) | fail) ?_ | fail)
      refine ret_st (by simp only [Try.results103, resOkL, resOk, Try.ntmps103, List.toList_toArray]; first | decide | (simp only [go_sem]; done) | (simp only [go_sem]; and_intros <;> first | omega | rfl | decide)) (by simp only [resA, resV, Try.results103, go_sem]; first | exact .dat rfl | exact Co.t2 (.dat rfl) (.dat rfl) | exact Co.t3 (.dat rfl) (.dat rfl) (.dat rfl)) ?_ ?_ ?_
      · refine fin _ ?_ ?_ ?_ ?_ <;> simp only [go_sem, qb, qm, qn, qo, nf d1, nf d2, nf d3, nf d4, nf d5, nf d6]
      · refine FrN.updn (by repeat (first | exact FrN.rfl' _ _ _ | assumption | refine FrN.updk ?_ (by omega) _ | refine FrN.stH ?_ _)) (by simp) _
      · exact szO_cl _ _ _ k fun n hn => (hag.get n hn).1
  | some u =>
    have hg : getM x.v (bsE bs) = some (tmDV u) := by rw [getM_bs, hl]; rfl
    cases hv : decide (x.v > 0) with
    | true =>
      have ha : apOne bs x = count u 120 := by unfold apOne; rw [hl, if_pos (by simpa using hv)]
      have := count_le u 120 (by omega)
      rw [ha] at fin ⊢
      repeat' (first | refine awp_seq_k fun K hK => ?_ | ((first | refine awp_region_k (by kernel_rfl) fun R hR => ?_ | refine awp_draw mixed (by kernel_rfl) (by kernel_rfl) fun R hR => ?_); simp only [go_sem, eb, em, en, eo, qb, qm, qn, qo, nf d1, nf d2, nf d3, nf d4, nf d5, nf d6, hg, hv, Option.isSome_some]) | ((first | (refine hR _ ?_; clear hR R) | refine awp_skip ?_ | refine awp_exit ?_ | refine awp_ret ?_); try simp only [thenA, inBlockA, reduceIte, reduceCtorEq, Nat.reduceEqDiff, if_false, if_true]) | ((first | refine hK _ ?_ | (clear hK K; first | refine hK _ ?_ | (clear hK K; first | refine hK _ ?_ | (clear hK K; first | refine hK _ ?_ | (clear hK K; refine hK _ ?_))))); clear hK K) | refine awp_true rfl rfl ?_ | refine awp_false rfl rfl ?_ | refine awp_block ?_ | ((first | refine CallK.pure (enter69) (count_tri u 120 (by omega) (by omega)) ?_ ?_ | refine CallD.pure (enter69) (count_tri u 120 (by omega) (by omega)) ?_ ?_); (focus first | ((repeat (first | exact trivial | refine ⟨(by first | exact Or.inl rfl | exact Or.inr rfl), ?_⟩)); done) | (simp only [coL, AV.dat, true_or, or_true, AV.d.injEq, go_sem]; done)); simp only [go_sem, eb, em, en, eo, qb, qm, qn, qo, nf d1, nf d2, nf d3, nf d4, nf d5, nf d6, hg, hv, Option.isSome_some]) | refine And.intro (by first | ((repeat' first | omega | exact trivial | rfl | assumption | (intro a e; subst e; rfl) | exact map_sz fun a => (by simp only [go_sem]) | refine And.intro ?_ ?_); done) | fail) ?_ | fail)
      refine ret_st (by simp only [Try.results103, resOkL, resOk, Try.ntmps103, List.toList_toArray]; first | decide | (simp only [go_sem]; done) | (simp only [go_sem]; and_intros <;> first | omega | rfl | decide)) (by simp only [resA, resV, Try.results103, go_sem]; first | exact .dat rfl | exact Co.t2 (.dat rfl) (.dat rfl) | exact Co.t3 (.dat rfl) (.dat rfl) (.dat rfl)) ?_ ?_ ?_
      · refine fin _ ?_ ?_ ?_ ?_ <;> simp only [go_sem, qb, qm, qn, qo, nf d1, nf d2, nf d3, nf d4, nf d5, nf d6]
      · refine FrN.updn (by repeat (first | exact FrN.rfl' _ _ _ | assumption | refine FrN.updk ?_ (by omega) _ | refine FrN.stH ?_ _)) (by simp) _
      · exact szO_cl _ _ _ k fun n hn => (hag.get n hn).1
    | false =>
      have ha : apOne bs x = 1 := by unfold apOne; rw [if_neg (by simpa using hv)]
      rw [ha] at fin ⊢
      repeat' (first | refine awp_seq_k fun K hK => ?_ | ((first | refine awp_region_k (by kernel_rfl) fun R hR => ?_ | refine awp_draw mixed (by kernel_rfl) (by kernel_rfl) fun R hR => ?_); simp only [go_sem, eb, em, en, eo, qb, qm, qn, qo, nf d1, nf d2, nf d3, nf d4, nf d5, nf d6, hg, hv, Option.isSome_some]) | ((first | (refine hR _ ?_; clear hR R) | refine awp_skip ?_ | refine awp_exit ?_ | refine awp_ret ?_); try simp only [thenA, inBlockA, reduceIte, reduceCtorEq, Nat.reduceEqDiff, if_false, if_true]) | ((first | refine hK _ ?_ | (clear hK K; first | refine hK _ ?_ | (clear hK K; first | refine hK _ ?_ | (clear hK K; first | refine hK _ ?_ | (clear hK K; refine hK _ ?_))))); clear hK K) | refine awp_true rfl rfl ?_ | refine awp_false rfl rfl ?_ | refine awp_block ?_ | refine And.intro (by first | ((repeat' first | omega | exact trivial | rfl | assumption | (intro a e; subst e; rfl) | exact map_sz fun a => (by simp only [go_sem]) | refine And.intro ?_ ?_); done) | fail) ?_ | fail)
      refine ret_st (by simp only [Try.results103, resOkL, resOk, Try.ntmps103, List.toList_toArray]; first | decide | (simp only [go_sem]; done) | (simp only [go_sem]; and_intros <;> first | omega | rfl | decide)) (by simp only [resA, resV, Try.results103, go_sem]; first | exact .dat rfl | exact Co.t2 (.dat rfl) (.dat rfl) | exact Co.t3 (.dat rfl) (.dat rfl) (.dat rfl)) ?_ ?_ ?_
      · refine fin _ ?_ ?_ ?_ ?_ <;> simp only [go_sem, qb, qm, qn, qo, nf d1, nf d2, nf d3, nf d4, nf d5, nf d6]
      · refine FrN.updn (by repeat (first | exact FrN.rfl' _ _ _ | assumption | refine FrN.updk ?_ (by omega) _ | refine FrN.stH ?_ _)) (by simp) _
      · exact szO_cl _ _ _ k fun n hn => (hag.get n hn).1
end
set_option maxHeartbeats 1000000 in
set_option maxRecDepth 20000 in
theorem size_tri (mm : Nm) (bs : Bs) (t : Tm) (ht : t.size ≤ 4000000) (most : Int) : Tri Try.prog 71 [.map mm, .d (tmDV t), iA most] (rdE [(mm, .map (bsE bs))] (iA (walkS (szS bs most) t 0).2)) := by
  refine tri_enter_ro Try.func71 rfl Try.ntmps71 (by simp only [List.length_cons, List.length_nil]; omega) fun w0 h0 k hro => ?_
  obtain ⟨n2, em⟩ := hro.get _ (List.mem_cons_self ..)
  have q2 := nmne n2
  dsimp only at n2 em
  have d1 : ((k, 0) : Nm) ≠ mm := fun e => by rw [← e] at n2; simp at n2
  have d2 : ((k, 0) : Nm) ≠ (k + 1, 0) := by simp
  have d3 : ((k, 0) : Nm) ≠ (k, 2) := by simp
  have d4 : mm ≠ (k + 1, 0) := fun e => by rw [e] at n2; simp only at n2; omega
  have d5 : mm ≠ (k, 2) := fun e => by rw [e] at n2; simp at n2
  have d6 : ((k + 1, 0) : Nm) ≠ (k, 2) := by simp
  have hw := walk_tri (szO (k, 0) mm (k + 1, 0) bs most) [(k, 0), mm, (k + 1, 0), (k, 2)] 103 [.ptr (k, 0) 0, .ptr (k + 1, 0) 0, .ptr (k, 2) 0] (szS bs most) (fun n s => 0 ≤ s ∧ s + 121 * n ≤ 1000000000) (fun s k' h => szO_cl bs most s k' h) (enter103) (by simp) t
    (fun x _ n s hs => ⟨by have := apOne_pos bs x; simp only [szS]; omega, fun pl => size1_tri d1 d2 d3 d4 d5 d6 bs most s hs.1 (by omega) pl x⟩) 0 0 (by omega) ht
  generalize walkS (szS bs most) t 0 = r at hw ⊢
  have hA : ∀ h : Heap, h (k, 0) = some (.cells 71 [.map mm]) → h mm = some (.map (bsE bs)) → h (k + 1, 0) = some (.cells 3 [iA 0]) → h (k, 2) = some (.cells 3 [iA most]) → Ag (k + 1 + 1) [(k, 0), mm, (k + 1, 0), (k, 2)] (szO (k, 0) mm (k + 1, 0) bs most 0) h := by
    intro h e1 e2 e3 e4
    refine ⟨fun y hy => ?_⟩
    simp only [List.mem_cons, List.not_mem_nil, or_false] at hy
    rcases hy with h1 | h1 | h1 | h1
    · rw [h1, szO_bb, e1]; exact ⟨by simp only; omega, rfl⟩
    · rw [h1, szO_mm d1, e2]; exact ⟨by omega, rfl⟩
    · rw [h1, szO_bn d2 d4, e3]; exact ⟨by simp only; omega, rfl⟩
    · rw [h1, szO_bm d3 d5 d6, e4]; exact ⟨by simp only; omega, rfl⟩
  have eN := szO_bn d2 d4 bs most r.2
  repeat' (first | refine awp_seq_k fun K hK => ?_ | ((first | refine awp_region_k (by kernel_rfl) fun R hR => ?_ | refine awp_draw mixed (by kernel_rfl) (by kernel_rfl) fun R hR => ?_); simp only [go_sem, em, q2, eN]) | ((first | (refine hR _ ?_; clear hR R) | refine awp_skip ?_ | refine awp_exit ?_ | refine awp_ret ?_); try simp only [thenA, inBlockA, reduceIte, reduceCtorEq, Nat.reduceEqDiff, if_false, if_true]) | ((first | refine hK _ ?_ | (clear hK K; first | refine hK _ ?_ | (clear hK K; first | refine hK _ ?_ | (clear hK K; first | refine hK _ ?_ | (clear hK K; refine hK _ ?_))))); clear hK K) | refine awp_true rfl rfl ?_ | refine awp_false rfl rfl ?_ | refine awp_block ?_ | ((first | refine CallK.chg (enter96) (hw) ?_ (hA _ (by simp only [go_sem, ]) (by simp only [go_sem, em, q2]) (by simp only [go_sem, ]) (by simp only [go_sem, ])) (Fr.rfl' _ _) ?_ | refine CallD.chg (enter96) (hw) ?_ (hA _ (by simp only [go_sem, ]) (by simp only [go_sem, em, q2]) (by simp only [go_sem, ]) (by simp only [go_sem, ])) (Fr.rfl' _ _) (by first | assumption | exact List.cons_ne_nil _ _) ?_); (focus first | ((repeat (first | exact trivial | refine ⟨(by first | exact Or.inl rfl | exact Or.inr rfl), ?_⟩)); done) | (simp only [coL, AV.dat, true_or, or_true, AV.d.injEq, go_sem]; done)); simp only [go_sem, em, q2, eN]) | refine And.intro (by first | ((repeat' first | omega | exact trivial | rfl | assumption | (intro a e; subst e; rfl) | exact map_sz fun a => (by simp only [go_sem]) | refine And.intro ?_ ?_); done) | fail) ?_ | fail)
  (first | refine ret_pure ?_ ?_ ?_ | refine ret_ro ?_ ?_ ?_)
  · exact (by simp only [Try.results71, resOkL, resOk, Try.ntmps71, List.toList_toArray]; first | decide | (simp only [go_sem]; done))
  · simp only [resA, resV, Try.results71, go_sem]
    exact .dat rfl
  · intro x hx
    show stH _ _ _ x = _
    rw [stH_get]
    by_cases hxm : x = mm
    · rw [if_pos (by simp [hxm]), hxm, szO_mm d1, em]
    · rw [if_neg]
      · exact ((by repeat (first | exact Fr.rfl' _ _ | assumption | refine Fr.updk ?_ (by omega) _)) : Fr k h0 _) x hx
      · simp only [List.mem_cons, List.not_mem_nil, or_false]
        rintro (h | h | h | h)
        · rw [h] at hx; simp at hx
        · exact hxm h
        · rw [h] at hx; simp only at hx; omega
        · rw [h] at hx; simp at hx
def rawAns (bs : Bs) (t : Tm) : Tm × Int := if apS bs (pre t) > 120 then (tm0, 2) else (mapM (madeS bs) t, 0)
set_option maxRecDepth 20000 in
theorem raw_tri (mm : Nm) (bs : Bs) (hbs : ∀ p ∈ bs, p.2.size ≤ 4000000) (t : Tm) (ht : t.size ≤ 4000000) : Tri Try.prog 33 [.map mm, .d (tmDV t)] (rdE [(mm, .map (bsE bs))] (.tup [.d (tmDV (rawAns bs t).1), iA (rawAns bs t).2])) := by
  refine tri_enter_ro Try.func33 rfl Try.ntmps33 (by simp only [List.length_cons, List.length_nil]; omega) fun w0 h0 k hro => ?_
  obtain ⟨n2, em⟩ := hro.get _ (List.mem_cons_self ..)
  have q2 := nmne n2
  dsimp only at n2 em
  have hs := size_tri mm bs t ht 120
  have hmd := made_tri mm bs hbs t ht
  have hro' : ∀ (k' : Nat) (h : Heap), mm.1 < k' → h mm = some (.map (bsE bs)) → RoOK k' [(mm, .map (bsE bs))] h := fun k' h h1 e => ⟨fun x hx => by simp only [List.mem_cons, List.not_mem_nil, or_false] at hx; subst hx; exact ⟨h1, e⟩⟩
  unfold rawAns
  cases hc : decide ((walkS (szS bs 120) t 0).2 > 120) with
  | true =>
    rw [if_pos ((walk_cap bs t).1 (by simpa using hc))]
    repeat' (first | refine awp_seq_k fun K hK => ?_ | ((first | refine awp_region_k (by kernel_rfl) fun R hR => ?_ | refine awp_draw mixed (by kernel_rfl) (by kernel_rfl) fun R hR => ?_); simp only [go_sem, em, q2, hc]) | ((first | (refine hR _ ?_; clear hR R) | refine awp_skip ?_ | refine awp_exit ?_ | refine awp_ret ?_); try simp only [thenA, inBlockA, reduceIte, reduceCtorEq, Nat.reduceEqDiff, if_false, if_true]) | ((first | refine hK _ ?_ | (clear hK K; first | refine hK _ ?_ | (clear hK K; first | refine hK _ ?_ | (clear hK K; first | refine hK _ ?_ | (clear hK K; refine hK _ ?_))))); clear hK K) | refine awp_true rfl rfl ?_ | refine awp_false rfl rfl ?_ | refine awp_block ?_ | ((first | refine CallK.look (enter71) (hs) ?_ (hro' (k + 1) _ (by omega) (by simp only [go_sem, em, q2])) (Fr.rfl' _ _) ?_ | refine CallD.look (enter71) (hs) ?_ (hro' (k + 1) _ (by omega) (by simp only [go_sem, em, q2])) (Fr.rfl' _ _) (by first | assumption | exact List.cons_ne_nil _ _) ?_); (focus first | ((repeat (first | exact trivial | refine ⟨(by first | exact Or.inl rfl | exact Or.inr rfl), ?_⟩)); done) | (simp only [coL, AV.dat, true_or, or_true, AV.d.injEq, go_sem]; done)); simp only [go_sem, em, q2, hc]) | refine And.intro (by first | ((repeat' first | omega | exact trivial | rfl | assumption | (intro a e; subst e; rfl) | exact map_sz fun a => (by simp only [go_sem]) | refine And.intro ?_ ?_); done) | fail) ?_ | fail)
    (first | refine ret_pure ?_ ?_ ?_ | refine ret_ro ?_ ?_ ?_); focus exact (by simp only [Try.results33, resOkL, resOk, Try.ntmps33, List.toList_toArray]; first | decide | (simp only [go_sem]; done) | (simp only [go_sem]; and_intros <;> first | omega | rfl | decide))
    rotate_left; focus exact (by repeat (first | exact Fr.rfl' _ _ | assumption | refine Fr.updk ?_ (by omega) _))
    simp only [resA, resV, Try.results33, go_sem]
    all_goals try (first | exact Co.t2 (.dat rfl) (.dat rfl) | exact Co.t3 (.dat rfl) (.dat rfl) (.dat rfl))
    exact .t2 (co_tm rfl) (.dat rfl)
  | false =>
    rw [if_neg (fun h => by have := (walk_cap bs t).2 h; simp at hc; omega)]
    repeat' (first | refine awp_seq_k fun K hK => ?_ | ((first | refine awp_region_k (by kernel_rfl) fun R hR => ?_ | refine awp_draw mixed (by kernel_rfl) (by kernel_rfl) fun R hR => ?_); simp only [go_sem, em, q2, hc]) | ((first | (refine hR _ ?_; clear hR R) | refine awp_skip ?_ | refine awp_exit ?_ | refine awp_ret ?_); try simp only [thenA, inBlockA, reduceIte, reduceCtorEq, Nat.reduceEqDiff, if_false, if_true]) | ((first | refine hK _ ?_ | (clear hK K; first | refine hK _ ?_ | (clear hK K; first | refine hK _ ?_ | (clear hK K; first | refine hK _ ?_ | (clear hK K; refine hK _ ?_))))); clear hK K) | refine awp_true rfl rfl ?_ | refine awp_false rfl rfl ?_ | refine awp_block ?_ | ((first | refine CallK.look (enter71) (hs) ?_ (hro' (k + 1) _ (by omega) (by simp only [go_sem, em, q2])) (Fr.rfl' _ _) ?_ | refine CallD.look (enter71) (hs) ?_ (hro' (k + 1) _ (by omega) (by simp only [go_sem, em, q2])) (Fr.rfl' _ _) (by first | assumption | exact List.cons_ne_nil _ _) ?_ | refine CallK.look (enter72) (hmd) ?_ (hro' (k + 1) _ (by omega) (by simp only [go_sem, em, q2])) (Fr.rfl' _ _) ?_ | refine CallD.look (enter72) (hmd) ?_ (hro' (k + 1) _ (by omega) (by simp only [go_sem, em, q2])) (Fr.rfl' _ _) (by first | assumption | exact List.cons_ne_nil _ _) ?_); (focus first | ((repeat (first | exact trivial | refine ⟨(by first | exact Or.inl rfl | exact Or.inr rfl), ?_⟩)); done) | (simp only [coL, AV.dat, true_or, or_true, AV.d.injEq, go_sem]; done)); simp only [go_sem, em, q2, hc]) | refine And.intro (by first | ((repeat' first | omega | exact trivial | rfl | assumption | (intro a e; subst e; rfl) | exact map_sz fun a => (by simp only [go_sem]) | refine And.intro ?_ ?_); done) | fail) ?_ | fail)
    (first | refine ret_pure ?_ ?_ ?_ | refine ret_ro ?_ ?_ ?_); focus exact (by simp only [Try.results33, resOkL, resOk, Try.ntmps33, List.toList_toArray]; first | decide | (simp only [go_sem]; done) | (simp only [go_sem]; and_intros <;> first | omega | rfl | decide))
    rotate_left; focus exact (by repeat (first | exact Fr.rfl' _ _ | assumption | refine Fr.updk ?_ (by omega) _))
    simp only [resA, resV, Try.results33, go_sem]
    all_goals try (first | exact Co.t2 (.dat rfl) (.dat rfl) | exact Co.t3 (.dat rfl) (.dat rfl) (.dat rfl))
    all_goals exact .t2 (co_tm' rfl) (.dat rfl)
theorem apS_at {bs : Bs} {l : List Tm} {i : Nat} (hi : i < l.length) : apS bs (l.drop i) = apOne bs l[i] + apS bs (l.drop (i + 1)) := by
  rw [List.drop_eq_getElem_cons hi, apS]
set_option maxHeartbeats 1000000 in
set_option maxRecDepth 20000 in
theorem appliedSize_tri (bs : Bs) (hbs : bs.length ≤ 4000000) (t : Tm) (ht : t.size ≤ 4000000) : Tri Try.prog 11 [.d (bsDV bs), .d (tmDV t)] (pure' (iA (apS bs (parts t)))) := by
  have hpl := parts_len t
  have htot := apS_len bs (parts t)
  refine tri_enter Try.func11 rfl Try.ntmps11 (by simp only [List.length_cons, List.length_nil]; omega) fun w0 h0 k hrd hwr => ?_
  repeat' (first | refine awp_seq_k fun K hK => ?_ | ((first | refine awp_region_k (by kernel_rfl) fun R hR => ?_ | refine awp_draw mixed (by kernel_rfl) (by kernel_rfl) fun R hR => ?_); simp only [go_sem]) | ((first | (refine hR _ ?_; clear hR R) | refine awp_skip ?_ | refine awp_exit ?_ | refine awp_ret ?_); try simp only [thenA, inBlockA, reduceIte, reduceCtorEq, Nat.reduceEqDiff, if_false, if_true]) | ((first | refine hK _ ?_ | (clear hK K; first | refine hK _ ?_ | (clear hK K; first | refine hK _ ?_ | (clear hK K; first | refine hK _ ?_ | (clear hK K; refine hK _ ?_))))); clear hK K) | refine awp_true rfl rfl ?_ | refine awp_false rfl rfl ?_ | refine awp_block ?_ | ((first | refine CallK.pure (enter38) (partsOf_data t (by unfold Tm.fits; omega) (by omega)) ?_ ?_ | refine CallD.pure (enter38) (partsOf_data t (by unfold Tm.fits; omega) (by omega)) ?_ ?_); (focus first | ((repeat (first | exact trivial | refine ⟨(by first | exact Or.inl rfl | exact Or.inr rfl), ?_⟩)); done) | (simp only [coL, AV.dat, true_or, or_true, AV.d.injEq, go_sem]; done)); simp only [go_sem]) | refine And.intro (by first | ((repeat' first | omega | exact trivial | rfl | assumption | (intro a e; subst e; rfl) | exact map_sz fun a => (by simp only [go_sem]) | refine And.intro ?_ ?_); done) | fail) ?_ | fail)
  refine awp_loop (fun σ => ∃ (j : Nat) (n : Int), σ.t 0 = .d (bsDV bs) ∧ σ.t 5 = iA n ∧ σ.t 6 = .d (.sl ((parts t).map tmDV)) ∧ σ.t 7 = iA j ∧ Fr k h0 σ.h ∧ k < σ.k ∧ j ≤ (parts t).length ∧ 0 ≤ n ∧ n + apS bs ((parts t).drop j) = apS bs (parts t)) (fun σ => (parts t).length - (intOf' (σ.t 7)).toNat) ?_ ?_
  · refine ⟨0, 0, ?_⟩
    simp only [go_sem, List.drop_zero]
    and_intros; all_goals try (first | rfl | omega | assumption | ((repeat (first | exact Fr.rfl' _ _ | assumption | refine Fr.updk ?_ (by omega) _)); done))
  · rintro σ ⟨j, n, s0, s5, s6, s7, hF, hk, hj, hn, hv⟩
    rcases Nat.lt_or_ge j (parts t).length with hlt | hge
    · have hz : (j : Int) < ((parts t).length : Int) := by omega
      have e1 : ((parts t).map tmDV).getD j default = tmDV (parts t)[j] := nth_map tmDV hlt _
      have hrest := apS_len bs ((parts t).drop (j + 1))
      rw [apS_at hlt] at hv
      generalize (parts t)[j] = x at *
      have hone := apOne_pos bs x
      have hm1 : decide ((-1 : Int) ≥ 0) = false := rfl
      cases hx : decide (x.v > 0) with
      | false =>
        have ha : apOne bs x = 1 := by unfold apOne; rw [if_neg (by simpa using hx)]
        rw [ha] at hv
        repeat' (first | refine awp_seq_k fun K hK => ?_ | ((first | refine awp_region_k (by kernel_rfl) fun R hR => ?_ | refine awp_draw mixed (by kernel_rfl) (by kernel_rfl) fun R hR => ?_); simp only [go_sem, s0, s5, s6, s7, hz, e1, hx, hm1, Int.toNat_natCast]) | ((first | (refine hR _ ?_; clear hR R) | refine awp_skip ?_ | refine awp_exit ?_ | refine awp_ret ?_); try simp only [thenA, inBlockA, reduceIte, reduceCtorEq, Nat.reduceEqDiff, if_false, if_true]) | ((first | refine hK _ ?_ | (clear hK K; first | refine hK _ ?_ | (clear hK K; first | refine hK _ ?_ | (clear hK K; first | refine hK _ ?_ | (clear hK K; refine hK _ ?_))))); clear hK K) | refine awp_true rfl rfl ?_ | refine awp_false rfl rfl ?_ | refine awp_block ?_ | refine And.intro (by first | ((repeat' first | omega | exact trivial | rfl | assumption | (intro a e; subst e; rfl) | exact map_sz fun a => (by simp only [go_sem]) | refine And.intro ?_ ?_); done) | fail) ?_ | fail)
        refine ⟨⟨j + 1, n + 1, ?_⟩, ?_⟩
        rotate_left
        · simp only [go_sem, s0, s5, s6, s7]; omega
        simp only [go_sem, s0, s5, s6, s7]
        and_intros; all_goals try (first | rfl | omega | assumption | ((repeat (first | exact Fr.rfl' _ _ | assumption | refine Fr.updk ?_ (by omega) _)); done))
      | true =>
        have hbt := boundTo_tri bs hbs x.v
        rcases idxB_look x.v bs 0 with ⟨h1, h2⟩ | ⟨i, hi, h1, h2⟩
        · have ha : apOne bs x = 1 := by unfold apOne; rw [if_pos (by simpa using hx), h2]
          rw [ha] at hv
          rw [h1] at hbt
          repeat' (first | refine awp_seq_k fun K hK => ?_ | ((first | refine awp_region_k (by kernel_rfl) fun R hR => ?_ | refine awp_draw mixed (by kernel_rfl) (by kernel_rfl) fun R hR => ?_); simp only [go_sem, s0, s5, s6, s7, hz, e1, hx, hm1, Int.toNat_natCast]) | ((first | (refine hR _ ?_; clear hR R) | refine awp_skip ?_ | refine awp_exit ?_ | refine awp_ret ?_); try simp only [thenA, inBlockA, reduceIte, reduceCtorEq, Nat.reduceEqDiff, if_false, if_true]) | ((first | refine hK _ ?_ | (clear hK K; first | refine hK _ ?_ | (clear hK K; first | refine hK _ ?_ | (clear hK K; first | refine hK _ ?_ | (clear hK K; refine hK _ ?_))))); clear hK K) | refine awp_true rfl rfl ?_ | refine awp_false rfl rfl ?_ | refine awp_block ?_ | ((first | refine CallK.pure (enter39) (hbt) ?_ ?_ | refine CallD.pure (enter39) (hbt) ?_ ?_); (focus first | ((repeat (first | exact trivial | refine ⟨(by first | exact Or.inl rfl | exact Or.inr rfl), ?_⟩)); done) | (simp only [coL, AV.dat, true_or, or_true, AV.d.injEq, go_sem]; done)); simp only [go_sem, s0, s5, s6, s7, hz, e1, hx, hm1, Int.toNat_natCast]) | refine And.intro (by first | ((repeat' first | omega | exact trivial | rfl | assumption | (intro a e; subst e; rfl) | exact map_sz fun a => (by simp only [go_sem]) | refine And.intro ?_ ?_); done) | fail) ?_ | fail)
          refine ⟨⟨j + 1, n + 1, ?_⟩, ?_⟩
          rotate_left
          · simp only [go_sem, s0, s5, s6, s7]; omega
          simp only [go_sem, s0, s5, s6, s7]
          and_intros; all_goals try (first | rfl | omega | assumption | ((repeat (first | exact Fr.rfl' _ _ | assumption | refine Fr.updk ?_ (by omega) _)); done))
        · have ha : apOne bs x = count bs[i].2 120 := by unfold apOne; rw [if_pos (by simpa using hx), h2]
          rw [ha] at hv hone
          rw [h1] at hbt
          have hj0 : (((0 + i : Nat) : Int)) = (i : Int) := by omega
          rw [hj0] at hbt
          have hin : decide ((i : Int) ≥ 0) = true := by simp
          have hiz : (i : Int) < (bs.length : Int) := by omega
          have e2 : (bs.map bdDV).getD i default = bdDV bs[i] := nth_map bdDV hi _
          repeat' (first | refine awp_seq_k fun K hK => ?_ | ((first | refine awp_region_k (by kernel_rfl) fun R hR => ?_ | refine awp_draw mixed (by kernel_rfl) (by kernel_rfl) fun R hR => ?_); simp only [go_sem, s0, s5, s6, s7, hz, e1, hx, hin, hiz, e2, Int.toNat_natCast]) | ((first | (refine hR _ ?_; clear hR R) | refine awp_skip ?_ | refine awp_exit ?_ | refine awp_ret ?_); try simp only [thenA, inBlockA, reduceIte, reduceCtorEq, Nat.reduceEqDiff, if_false, if_true]) | ((first | refine hK _ ?_ | (clear hK K; first | refine hK _ ?_ | (clear hK K; first | refine hK _ ?_ | (clear hK K; first | refine hK _ ?_ | (clear hK K; refine hK _ ?_))))); clear hK K) | refine awp_true rfl rfl ?_ | refine awp_false rfl rfl ?_ | refine awp_block ?_ | ((first | refine CallK.pure (enter39) (hbt) ?_ ?_ | refine CallD.pure (enter39) (hbt) ?_ ?_ | refine CallK.pure (enter37) (sizeOf_tri bs[i].2 120 (by omega) (by omega)) ?_ ?_ | refine CallD.pure (enter37) (sizeOf_tri bs[i].2 120 (by omega) (by omega)) ?_ ?_); (focus first | ((repeat (first | exact trivial | refine ⟨(by first | exact Or.inl rfl | exact Or.inr rfl), ?_⟩)); done) | (simp only [coL, AV.dat, true_or, or_true, AV.d.injEq, go_sem]; done)); simp only [go_sem, s0, s5, s6, s7, hz, e1, hx, hin, hiz, e2, Int.toNat_natCast]) | refine And.intro (by first | ((repeat' first | omega | exact trivial | rfl | assumption | (intro a e; subst e; rfl) | exact map_sz fun a => (by simp only [go_sem]) | refine And.intro ?_ ?_); done) | fail) ?_ | fail)
          refine ⟨⟨j + 1, n + count bs[i].2 120, ?_⟩, ?_⟩
          rotate_left
          · simp only [go_sem, s0, s5, s6, s7]; omega
          simp only [go_sem, s0, s5, s6, s7]
          and_intros; all_goals try (first | rfl | omega | assumption | ((repeat (first | exact Fr.rfl' _ _ | assumption | refine Fr.updk ?_ (by omega) _)); done))
    · have hz : ¬ ((j : Int) < ((parts t).length : Int)) := by omega
      rw [List.drop_eq_nil_of_le hge, apS, Int.add_zero] at hv
      repeat' (first | refine awp_seq_k fun K hK => ?_ | ((first | refine awp_region_k (by kernel_rfl) fun R hR => ?_ | refine awp_draw mixed (by kernel_rfl) (by kernel_rfl) fun R hR => ?_); simp only [go_sem, s0, s5, s6, s7, hz]) | ((first | (refine hR _ ?_; clear hR R) | refine awp_skip ?_ | refine awp_exit ?_ | refine awp_ret ?_); try simp only [thenA, inBlockA, reduceIte, reduceCtorEq, Nat.reduceEqDiff, if_false, if_true]) | ((first | refine hK _ ?_ | (clear hK K; first | refine hK _ ?_ | (clear hK K; first | refine hK _ ?_ | (clear hK K; first | refine hK _ ?_ | (clear hK K; refine hK _ ?_))))); clear hK K) | refine awp_true rfl rfl ?_ | refine awp_false rfl rfl ?_ | refine awp_block ?_ | refine And.intro (by first | ((repeat' first | omega | exact trivial | rfl | assumption | (intro a e; subst e; rfl) | exact map_sz fun a => (by simp only [go_sem]) | refine And.intro ?_ ?_); done) | fail) ?_ | fail)
      (first | refine ret_pure ?_ ?_ ?_ | refine ret_ro ?_ ?_ ?_); focus exact (by simp only [Try.results11, resOkL, resOk, Try.ntmps11, List.toList_toArray]; first | decide | (simp only [go_sem, s5]; done) | (simp only [go_sem, s5]; and_intros <;> first | omega | rfl | decide))
      rotate_left; focus exact (by repeat (first | exact Fr.rfl' _ _ | assumption | refine Fr.updk ?_ (by omega) _))
      simp only [resA, resV, Try.results11, go_sem, s5]
      all_goals try (first | exact Co.t2 (.dat rfl) (.dat rfl) | exact Co.t3 (.dat rfl) (.dat rfl) (.dat rfl))
      all_goals exact co_i hv
end Go.Proofs.Ytmeekpinkfpnhab
