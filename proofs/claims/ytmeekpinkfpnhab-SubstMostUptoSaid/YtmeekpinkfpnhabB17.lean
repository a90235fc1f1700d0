/- The unifier: circles, and what leads where. No program in sight. The unifier: it ends; more fuel changes nothing; what binding does. No program in sight. The unifier: it answers right, and it ends. No program in sight. The unifier: it ends. No program in sight. Unifier and matcher: what their bindings are. No program in sight. What Match, Unify and Apply answer together. -/
import Derived.Test.YtmeekpinkfpnhabB08
import Derived.Test.YtmeekpinkfpnhabB11
import Derived.Test.YtmeekpinkfpnhabB12
import Derived.Test.YtmeekpinkfpnhabB16
set_option linter.unusedSimpArgs false
set_option linter.unusedSectionVars false
set_option linter.unusedVariables false
set_option linter.unnecessarySimpa false
set_option linter.all false
namespace Go.Proofs.Ytmeekpinkfpnhab
/-! ### lists with keys -/
theorem lookA_put {α : Type} (k w : Int) (x : α) : ∀ l : List (Int × α), lookA w (putA k x l) = if w = k then some x else lookA w l
  | [] => by rw [putA, lookA]; simp only [lookA]
  | p :: l => by
    rw [putA]
    by_cases h : k = p.1
    · rw [if_pos h, lookA, lookA]
      by_cases h2 : w = k
      · rw [if_pos h2, if_pos h2]
      · rw [if_neg h2, if_neg h2, if_neg (by rw [← h]; exact h2)]
    · rw [if_neg h, lookA, lookA, lookA_put k w x l]
      by_cases h2 : w = k
      · subst h2; rw [if_neg h, if_pos rfl, if_pos rfl]
      · rw [if_neg h2, if_neg h2]
theorem lookB_put (k w : Int) (x : Tm) (b : Bs) : lookB w (putA k x b) = if w = k then some x else lookB w b := by rw [lookB_A, lookB_A, lookA_put]
theorem putA_keys {α : Type} (k : Int) (x : α) : ∀ l : List (Int × α), ∀ v, v ∈ (putA k x l).map (·.1) ↔ v = k ∨ v ∈ l.map (·.1)
  | [], v => by simp [putA]
  | p :: l, v => by
    rw [putA]
    by_cases h : k = p.1
    · rw [if_pos h, List.map_cons, List.map_cons, List.mem_cons, List.mem_cons, h]; simp only []
      constructor
      · rintro (h1 | h1)
        · exact .inl h1
        · exact .inr (.inr h1)
      · rintro (h1 | h1 | h1)
        · exact .inl h1
        · exact .inl h1
        · exact .inr h1
    · rw [if_neg h, List.map_cons, List.map_cons, List.mem_cons, List.mem_cons, putA_keys k x l v]
      constructor
      · rintro (h1 | h1 | h1)
        · exact .inr (.inl h1)
        · exact .inl h1
        · exact .inr (.inr h1)
      · rintro (h1 | h1 | h1)
        · exact .inr (.inl h1)
        · exact .inl h1
        · exact .inr (.inr h1)
theorem putA_nodup {α : Type} (k : Int) (x : α) : ∀ l : List (Int × α), (l.map (·.1)).Nodup → ((putA k x l).map (·.1)).Nodup
  | [], _ => by simp [putA]
  | p :: l, hn => by
    rw [putA]
    rw [List.map_cons, List.nodup_cons] at hn
    by_cases h : k = p.1
    · rw [if_pos h, List.map_cons, List.nodup_cons]; simp only [h]; exact hn
    · rw [if_neg h, List.map_cons, List.nodup_cons, putA_keys]
      refine ⟨?_, putA_nodup k x l hn.2⟩
      rintro (h1 | h1)
      · exact h h1.symm
      · exact hn.1 h1
theorem putA_mem {α : Type} {k : Int} {x : α} {q : Int × α} : ∀ {l : List (Int × α)}, q ∈ putA k x l → q = (k, x) ∨ q ∈ l
  | [], h => by simpa [putA] using h
  | p :: l, h => by
    rw [putA] at h
    by_cases hk : k = p.1
    · rw [if_pos hk] at h
      rcases List.mem_cons.1 h with h | h
      · exact .inl h
      · exact .inr (List.mem_cons_of_mem _ h)
    · rw [if_neg hk] at h
      rcases List.mem_cons.1 h with h | h
      · exact .inr (by rw [h]; simp)
      · rcases putA_mem h with h | h
        · exact .inl h
        · exact .inr (List.mem_cons_of_mem _ h)
theorem lookB_of {b : Bs} (hn : (b.map (·.1)).Nodup) {p : Int × Tm} (hp : p ∈ b) : lookB p.1 b = some p.2 := by
  induction b with
  | nil => cases hp
  | cons q b ih =>
    rw [List.map_cons, List.nodup_cons] at hn
    rw [lookB]
    rcases List.mem_cons.1 hp with rfl | hp
    · rw [if_pos rfl]
    · rw [if_neg (fun e => hn.1 (by rw [← e]; exact List.mem_map_of_mem hp)), ih hn.2 hp]
/-! ### how deep a term is, its variables as deep as given -/
mutual
def dep (rk : Int → Nat) : Tm → Nat
  | .mk v _ us => if v > 0 then rk v else depL rk us + 1
def depL (rk : Int → Nat) : List Tm → Nat
  | [] => 0
  | x :: xs => max (dep rk x) (depL rk xs)
end
theorem dep_eq (rk : Int → Nat) (t : Tm) : dep rk t = if t.v > 0 then rk t.v else depL rk t.us + 1 := by cases t; rw [dep]; rfl
theorem depL_mem {rk : Int → Nat} : ∀ {us : List Tm} {u : Tm}, u ∈ us → dep rk u ≤ depL rk us
  | x :: xs, u, h => by
    rw [depL]
    rcases List.mem_cons.1 h with rfl | h
    · omega
    · have := depL_mem (rk := rk) h; omega
theorem depL_le {rk : Int → Nat} {n : Nat} : ∀ {us : List Tm}, (∀ u ∈ us, dep rk u ≤ n) → depL rk us ≤ n
  | [], _ => by rw [depL]; omega
  | x :: xs, h => by
    have h1 := h x (by simp)
    have h2 := depL_le (us := xs) fun u hu => h u (by simp [hu])
    rw [depL]; omega
theorem dep_parts {rk : Int → Nat} : ∀ t : Tm, Pure t → ∀ x ∈ parts t, dep rk x ≤ dep rk t := by
  refine Tm.ind fun t ih hp x hx => ?_
  rw [parts_eq, List.mem_append, List.mem_singleton] at hx
  rcases hx with hx | rfl
  · obtain ⟨u, hu, hx⟩ := partsL_mem hx
    have h1 := ih u hu (hp.kid hu) x hx
    have h2 := depL_mem (rk := rk) hu
    rw [dep_eq rk t]
    by_cases hv : t.v > 0
    · have := (hp t (parts_self t)).2 hv
      rw [this] at hu; cases hu
    · rw [if_neg hv]; omega
  · omega
theorem dep_more {rk rk' : Int → Nat} {m : Nat} : ∀ t : Tm, (∀ x ∈ parts t, x.v > 0 → rk' x.v ≤ rk x.v + m) → dep rk' t ≤ dep rk t + m := by
  refine Tm.ind fun t ih h => ?_
  rw [dep_eq, dep_eq]
  by_cases hv : t.v > 0
  · rw [if_pos hv, if_pos hv]; exact h t (parts_self t) hv
  · rw [if_neg hv, if_neg hv]
    have := depL_le (rk := rk') (n := depL rk t.us + m) (us := t.us) fun u hu => by
      have h1 := ih u hu fun x hx => h x (parts_kid hu hx)
      have h2 := depL_mem (rk := rk) hu
      omega
    omega
def Rk (rk : Int → Nat) (b : Bs) : Prop := ∀ v y, lookB v b = some y → dep rk y < rk v
/-! ### leads -/
abbrev InM (w : Int) (met : List (Int × Bool)) : Prop := lookA w met = some true
theorem inM_put {w k : Int} {met : List (Int × Bool)} : InM w (putA k true met) ↔ w = k ∨ InM w met := by
  unfold InM
  rw [lookA_put]
  by_cases h : w = k <;> simp [h]
def VarsIn (v : Int) (met : List (Int × Bool)) (t : Tm) : Prop := ∀ x ∈ parts t, x.v > 0 → x.v ≠ v ∧ InM x.v met
theorem VarsIn.mono {v : Int} {met met' : List (Int × Bool)} {t : Tm} (h : VarsIn v met t) (hm : ∀ w, InM w met → InM w met') : VarsIn v met' t := fun x hx hv => ⟨(h x hx hv).1, hm _ (h x hx hv).2⟩
def Closed (b : Bs) (v : Int) (met met' : List (Int × Bool)) : Prop := (∀ w, InM w met → InM w met') ∧ ∀ w, InM w met' → InM w met ∨ (w ≠ v ∧ ∀ y, lookB w b = some y → VarsIn v met' y)
theorem Closed.refl (b : Bs) (v : Int) (met : List (Int × Bool)) : Closed b v met met := ⟨fun _ h => h, fun _ h => .inl h⟩
theorem Closed.trans {b : Bs} {v : Int} {m1 m2 m3 : List (Int × Bool)} (h1 : Closed b v m1 m2) (h2 : Closed b v m2 m3) : Closed b v m1 m3 := by
  refine ⟨fun w h => h2.1 w (h1.1 w h), fun w h => ?_⟩
  rcases h2.2 w h with h | h
  · rcases h1.2 w h with h | ⟨h3, h4⟩
    · exact .inl h
    · exact .inr ⟨h3, fun y hy => (h4 y hy).mono h2.1⟩
  · exact .inr h
section
variable (b : Bs) (v : Int) (hb : ∀ w y, lookB w b = some y → Pure y)
include hb
theorem leads_no : ∀ (n : Nat) (t : Tm) (met met' : List (Int × Bool)), Pure t → leadsF n b v t met = some (false, met') → VarsIn v met' t ∧ Closed b v met met'
  | 0, _, _, _, _, h => by rw [leadsF] at h; cases h
  | n + 1, t, met, met', hp, h => by
    rw [leadsF] at h
    by_cases h0 : t.v = 0
    · rw [if_pos h0] at h
      have key : ∀ (us : List Tm) (m1 : List (Int × Bool)), (∀ u ∈ us, Pure u) → anyO (leadsF n b v) us m1 = some (false, met') → (∀ u ∈ us, VarsIn v met' u) ∧ Closed b v m1 met' := by
        intro us
        induction us with
        | nil =>
          intro m1 _ h
          rw [anyO] at h
          injection h with h; injection h with _ h; subst h
          exact ⟨by simp, .refl ..⟩
        | cons u us ih =>
          intro m1 hp h
          rw [anyO] at h
          cases hs : leadsF n b v u m1 with
          | none => rw [hs] at h; cases h
          | some q =>
            obtain ⟨c, m2⟩ := q
            rw [hs] at h
            cases c with
            | true => simp at h
            | false =>
              simp only at h
              obtain ⟨h1, h2⟩ := leads_no n u m1 m2 (hp u (by simp)) hs
              obtain ⟨h3, h4⟩ := ih m2 (fun w hw => hp w (by simp [hw])) h
              refine ⟨fun w hw => ?_, h2.trans h4⟩
              rcases List.mem_cons.1 hw with rfl | hw
              · exact h1.mono h4.1
              · exact h3 w hw
      obtain ⟨h1, h2⟩ := key t.us met (fun u hu => hp.kid hu) h
      refine ⟨fun x hx hv => ?_, h2⟩
      rw [parts_eq, List.mem_append, List.mem_singleton] at hx
      rcases hx with hx | rfl
      · obtain ⟨u, hu, hx⟩ := partsL_mem hx
        exact h1 u hu x hx hv
      · omega
    · rw [if_neg h0] at h
      have hpos : t.v > 0 := by have := (hp t (parts_self t)).1; omega
      have et := (hp t (parts_self t)).2 hpos
      have eparts : ∀ x ∈ parts t, x = t := fun x hx => by
        rw [et, parts_eq] at hx
        simp only [Tm.us, partsL, List.nil_append, List.mem_singleton] at hx
        rw [hx, ← et]
      by_cases h1 : t.v = v
      · rw [if_pos h1] at h; simp at h
      · rw [if_neg h1] at h
        by_cases h2 : lookA t.v met = some true
        · rw [if_pos h2] at h
          injection h with h; injection h with _ h; subst h
          exact ⟨fun x hx _ => by rw [eparts x hx]; exact ⟨h1, h2⟩, .refl ..⟩
        · rw [if_neg h2] at h
          cases hl : lookB t.v b with
          | none =>
            rw [hl] at h
            simp only at h
            injection h with h; injection h with _ h; subst h
            refine ⟨fun x hx _ => by rw [eparts x hx]; exact ⟨h1, inM_put.2 (.inl rfl)⟩, fun w h => inM_put.2 (.inr h), fun w hw => ?_⟩
            rcases inM_put.1 hw with rfl | hw
            · exact .inr ⟨h1, fun y hy => by rw [hl] at hy; cases hy⟩
            · exact .inl hw
          | some x =>
            rw [hl] at h
            simp only at h
            obtain ⟨h3, h4⟩ := leads_no n x _ met' (hb _ _ hl) h
            refine ⟨fun z hz _ => by rw [eparts z hz]; exact ⟨h1, h4.1 _ (inM_put.2 (.inl rfl))⟩, fun w h => h4.1 _ (inM_put.2 (.inr h)), fun w hw => ?_⟩
            rcases h4.2 w hw with hw | hw
            · rcases inM_put.1 hw with rfl | hw
              · exact .inr ⟨h1, fun y hy => by rw [hl] at hy; cases hy; exact h3⟩
              · exact .inl hw
            · exact .inr hw
theorem leads_yes {θ : Int → Tm} (hθ : ∀ w y, w ≠ v → lookB w b = some y → θ w = sub θ y) : ∀ (n : Nat) (t : Tm) (met met' : List (Int × Bool)), Pure t → leadsF n b v t met = some (true, met') → (θ v).size ≤ (sub θ t).size ∧ (t.v = 0 → (θ v).size < (sub θ t).size)
  | 0, _, _, _, _, h => by rw [leadsF] at h; cases h
  | n + 1, t, met, met', hp, h => by
    rw [leadsF] at h
    by_cases h0 : t.v = 0
    · rw [if_pos h0] at h
      have key : ∀ (us : List Tm) (m1 : List (Int × Bool)), (∀ u ∈ us, Pure u) → anyO (leadsF n b v) us m1 = some (true, met') → (θ v).size ≤ Tm.size.sizes (subL θ us) := by
        intro us
        induction us with
        | nil =>
          intro m1 _ h
          rw [anyO] at h
          injection h with h; injection h with h _; cases h
        | cons u us ih =>
          intro m1 hp h
          rw [anyO] at h
          rw [subL, Tm.size.sizes]
          cases hs : leadsF n b v u m1 with
          | none => rw [hs] at h; cases h
          | some q =>
            obtain ⟨c, m2⟩ := q
            rw [hs] at h
            cases c with
            | true =>
              have := (leads_yes hθ n u m1 m2 (hp u (by simp)) hs).1
              omega
            | false =>
              simp only at h
              have := ih m2 (fun w hw => hp w (by simp [hw])) h
              omega
      have := key t.us met (fun u hu => hp.kid hu) h
      rw [sub_eq, if_neg (by omega), Tm.size]
      omega
    · rw [if_neg h0] at h
      have hpos : t.v > 0 := by have := (hp t (parts_self t)).1; omega
      refine ⟨?_, fun e => absurd e h0⟩
      rw [sub_eq, if_pos hpos]
      by_cases h1 : t.v = v
      · rw [h1]; omega
      · rw [if_neg h1] at h
        by_cases h2 : lookA t.v met = some true
        · rw [if_pos h2] at h; simp at h
        · rw [if_neg h2] at h
          cases hl : lookB t.v b with
          | none => rw [hl] at h; simp at h
          | some x =>
            rw [hl] at h
            simp only at h
            rw [hθ _ _ h1 hl]
            exact (leads_yes hθ n x _ met' (hb _ _ hl) h).1
end
end Go.Proofs.Ytmeekpinkfpnhab
namespace Go.Proofs.Ytmeekpinkfpnhab
/-! ### leads ends -/
def unm (met : List (Int × Bool)) : List Int → Nat
  | [] => 0
  | k :: ks => (if InM k met then 0 else 1) + unm met ks
theorem unm_mono {m1 m2 : List (Int × Bool)} (h : ∀ w, InM w m1 → InM w m2) : ∀ ks : List Int, unm m2 ks ≤ unm m1 ks
  | [] => Nat.le_refl _
  | k :: ks => by
    have := unm_mono h ks
    rw [unm, unm]
    by_cases h1 : InM k m1
    · rw [if_pos h1, if_pos (h k h1)]; omega
    · rw [if_neg h1]; split <;> omega
theorem unm_put {k : Int} {met : List (Int × Bool)} (hn : ¬ InM k met) : ∀ {ks : List Int}, k ∈ ks → unm (putA k true met) ks + 1 ≤ unm met ks
  | x :: ks, h => by
    rw [unm, unm]
    by_cases hx : x = k
    · subst hx
      have := unm_mono (m1 := met) (m2 := putA x true met) (fun w h => inM_put.2 (.inr h)) ks
      rw [if_pos (inM_put.2 (.inl rfl)), if_neg hn]; omega
    · have h1 : k ∈ ks := by
        rcases List.mem_cons.1 h with e | h
        · exact absurd e.symm hx
        · exact h
      have := unm_put hn h1
      by_cases h2 : InM x met
      · rw [if_pos h2, if_pos (inM_put.2 (.inr h2))]; omega
      · rw [if_neg h2]; split <;> omega
theorem Tm.size_pos (t : Tm) : 0 < t.size := by obtain ⟨v, f, us⟩ := t; rw [Tm.size]; omega
theorem Tm.size_kid {t u : Tm} (h : u ∈ t.us) : u.size < t.size := by
  obtain ⟨v, f, us⟩ := t
  simp only [Tm.us] at h
  rw [Tm.size]
  have : ∀ (us : List Tm), u ∈ us → u.size ≤ Tm.size.sizes us := by
    intro us
    induction us with
    | nil => intro h; cases h
    | cons x xs ih =>
      intro h
      rw [Tm.size.sizes]
      rcases List.mem_cons.1 h with rfl | h
      · omega
      · have := ih h; omega
  have := this us h
  omega
theorem lookB_keys {b : Bs} {v : Int} {y : Tm} (h : lookB v b = some y) : v ∈ b.map (·.1) := by
  obtain ⟨p, hp, h1, _⟩ := lookB_mem h
  rw [← h1]; exact List.mem_map_of_mem hp
theorem leads_has (b : Bs) (v : Int) (S : Nat) (hb : ∀ w y, lookB w b = some y → Pure y ∧ y.size ≤ S) : ∀ (n : Nat) (t : Tm) (met : List (Int × Bool)), Pure t → unm met (b.map (·.1)) * (S + 1) + t.size ≤ n → ∃ r, leadsF n b v t met = some r
  | 0, t, _, _, h => by have := t.size_pos; omega
  | n + 1, t, met, hp, h => by
    rw [leadsF]
    by_cases h0 : t.v = 0
    · rw [if_pos h0]
      have key : ∀ (us : List Tm) (m1 : List (Int × Bool)), (∀ u ∈ us, Pure u ∧ u.size < t.size) → unm m1 (b.map (·.1)) ≤ unm met (b.map (·.1)) → ∃ r, anyO (leadsF n b v) us m1 = some r := by
        intro us
        induction us with
        | nil => intro m1 _ _; exact ⟨_, rfl⟩
        | cons u us ih =>
          intro m1 hu hm
          obtain ⟨h1, h2⟩ := hu u (by simp)
          have h3 := Nat.mul_le_mul_right (S + 1) hm
          obtain ⟨⟨c, m2⟩, hr⟩ := leads_has b v S hb n u m1 h1 (by omega)
          rw [anyO, hr]
          cases c with
          | true => exact ⟨_, rfl⟩
          | false =>
            have h4 := (leads_no b v (fun w y h => (hb w y h).1) n u m1 m2 h1 hr).2.1
            exact ih m2 (fun w hw => hu w (by simp [hw])) (Nat.le_trans (unm_mono h4 _) hm)
      exact key t.us met (fun u hu => ⟨hp.kid hu, Tm.size_kid hu⟩) (Nat.le_refl _)
    · rw [if_neg h0]
      by_cases h1 : t.v = v
      · rw [if_pos h1]; exact ⟨_, rfl⟩
      · rw [if_neg h1]
        by_cases h2 : lookA t.v met = some true
        · rw [if_pos h2]; exact ⟨_, rfl⟩
        · rw [if_neg h2]
          cases hl : lookB t.v b with
          | none => exact ⟨_, rfl⟩
          | some x =>
            obtain ⟨h3, h4⟩ := hb _ _ hl
            have h5 := Nat.mul_le_mul_right (S + 1) (unm_put h2 (lookB_keys hl))
            rw [Nat.add_mul] at h5
            have := t.size_pos
            exact leads_has b v S hb n x _ h3 (by omega)
theorem lookB_bound (b : Bs) : ∃ S, ∀ w y, lookB w b = some y → y.size ≤ S := by
  induction b with
  | nil => exact ⟨0, fun w y h => by cases h⟩
  | cons p b ih =>
    obtain ⟨S, hS⟩ := ih
    refine ⟨max S p.2.size, fun w y h => ?_⟩
    rw [lookB] at h
    by_cases hw : w = p.1
    · rw [if_pos hw] at h; cases h; omega
    · rw [if_neg hw] at h; have := hS w y h; omega
/-! ### more fuel -/
theorem anyO_mono {S : Type} {f g : Tm → S → Option (Bool × S)} (h : ∀ u s r, f u s = some r → g u s = some r) : ∀ (us : List Tm) (s : S) (r : Bool × S), anyO f us s = some r → anyO g us s = some r
  | [], _, _, e => e
  | u :: us, s, r, e => by
    rw [anyO] at e ⊢
    cases hf : f u s with
    | none => rw [hf] at e; cases e
    | some q =>
      rw [hf] at e
      rw [h u s q hf]
      obtain ⟨c, s'⟩ := q
      cases c with
      | true => exact e
      | false => exact anyO_mono h us s' r e
theorem eqO_mono {S : Type} {f g : Tm → Tm → S → Option (Bool × S)} (h : ∀ u v s r, f u v s = some r → g u v s = some r) : ∀ (us vs : List Tm) (s : S) (r : Bool × S), eqO f us vs s = some r → eqO g us vs s = some r
  | [], _, _, _, e => by simpa [eqO] using e
  | _ :: _, [], _, _, e => by simpa [eqO] using e
  | u :: us, v :: vs, s, r, e => by
    rw [eqO] at e ⊢
    cases hf : f u v s with
    | none => rw [hf] at e; cases e
    | some q =>
      rw [hf] at e
      rw [h u v s q hf]
      obtain ⟨c, s'⟩ := q
      cases c with
      | true => exact eqO_mono h us vs s' r e
      | false => exact e
theorem leads_succ (b : Bs) (v : Int) : ∀ (n : Nat) (t : Tm) (met : List (Int × Bool)) (r), leadsF n b v t met = some r → leadsF (n + 1) b v t met = some r
  | 0, _, _, _, h => by rw [leadsF] at h; cases h
  | n + 1, t, met, r, h => by
    rw [leadsF] at h ⊢
    by_cases h0 : t.v = 0
    · rw [if_pos h0] at h ⊢
      exact anyO_mono (leads_succ b v n) _ _ _ h
    · rw [if_neg h0] at h ⊢
      by_cases h1 : t.v = v
      · rw [if_pos h1] at h ⊢; exact h
      · rw [if_neg h1] at h ⊢
        by_cases h2 : lookA t.v met = some true
        · rw [if_pos h2] at h ⊢; exact h
        · rw [if_neg h2] at h ⊢
          cases hl : lookB t.v b with
          | none => rw [hl] at h; exact h
          | some x => rw [hl] at h; exact leads_succ b v n x _ r h
theorem bind_succ {n : Nat} {b : Bs} {v : Int} {t : Tm} {q : Bool × Bs} (h : bindF n b v t = some q) : bindF (n + 1) b v t = some q := by
  unfold bindF at h ⊢
  cases hl : leadsF n (putA v t b) v t [] with
  | none => rw [hl] at h; cases h
  | some r => rw [hl] at h; rw [leads_succ _ _ _ _ _ _ hl]; exact h
theorem root_succ (b : Bs) : ∀ (n : Nat) (t a : Tm), rootF n b t = some a → rootF (n + 1) b t = some a
  | 0, _, _, h => by rw [rootF] at h; cases h
  | n + 1, t, a, h => by
    rw [rootF] at h ⊢
    by_cases hv : t.v > 0
    · rw [if_pos hv] at h ⊢
      cases hl : lookB t.v b with
      | none => rw [hl] at h; exact h
      | some x =>
        rw [hl] at h
        simp only at h ⊢
        by_cases hx : x.v = 0
        · rw [if_pos hx] at h ⊢; exact h
        · rw [if_neg hx] at h ⊢; exact root_succ b n x a h
    · rw [if_neg hv] at h ⊢; exact h
theorem oneV_mono {f g : Bs → Tm → Tm → Option (Bool × Bs)} (hfg : ∀ b x y q, f b x y = some q → g b x y = some q) {n : Nat} {b : Bs} {a c : Tm} {q : Bool × Bs} (h : oneV f n b a c = some q) : oneV g (n + 1) b a c = some q := by
  unfold oneV at h ⊢
  by_cases hc : c.v = 0
  · rw [if_pos hc] at h ⊢
    cases hl : lookB a.v b with
    | none => rw [hl] at h; exact bind_succ h
    | some x => rw [hl] at h; exact hfg _ _ _ _ h
  · rw [if_neg hc] at h ⊢
    by_cases he : a.v = c.v
    · rw [if_pos he] at h ⊢; exact h
    · rw [if_neg he] at h ⊢
      cases h1 : lookB a.v b with
      | none =>
        cases h2 : lookB c.v b with
        | none => rw [h1, h2] at h; exact bind_succ h
        | some y => rw [h1, h2] at h; exact bind_succ h
      | some x =>
        cases h2 : lookB c.v b with
        | none => rw [h1, h2] at h; exact bind_succ h
        | some y =>
          rw [h1, h2] at h
          simp only at h ⊢
          cases hb : bindF n b c.v a with
          | none => rw [hb] at h; cases h
          | some r =>
            rw [hb] at h
            rw [bind_succ hb]
            obtain ⟨k, b'⟩ := r
            cases k with
            | false => exact h
            | true => exact hfg _ _ _ _ h
theorem one_succ : ∀ (n : Nat) (b : Bs) (x y : Tm) (q : Bool × Bs), oneF n b x y = some q → oneF (n + 1) b x y = some q
  | 0, _, _, _, _, h => by rw [oneF] at h; cases h
  | n + 1, b, x, y, q, h => by
    rw [oneF] at h ⊢
    cases ha : rootF n b x with
    | none => rw [ha] at h; cases h
    | some a =>
      cases hc : rootF n b y with
      | none => rw [ha, hc] at h; cases h
      | some c =>
        rw [ha, hc] at h
        rw [root_succ b n x a ha, root_succ b n y c hc]
        simp only at h ⊢
        by_cases h0 : a.v = 0 ∧ c.v = 0
        · rw [if_pos h0] at h ⊢
          by_cases h1 : a.f = c.f
          · rw [if_pos h1] at h ⊢
            by_cases h2 : a.us.length = c.us.length
            · rw [if_pos h2] at h ⊢
              exact eqO_mono (fun u v s r e => one_succ n s u v r e) _ _ _ _ h
            · rw [if_neg h2] at h ⊢; exact h
          · rw [if_neg h1] at h ⊢; exact h
        · rw [if_neg h0] at h ⊢
          by_cases h1 : a.v = 0
          · rw [if_pos h1] at h ⊢; exact oneV_mono (one_succ n) h
          · rw [if_neg h1] at h ⊢; exact oneV_mono (one_succ n) h
theorem one_more {n m : Nat} (hm : n ≤ m) {b : Bs} {x y : Tm} {q : Bool × Bs} (h : oneF n b x y = some q) : oneF m b x y = some q := by
  induction hm with
  | refl => exact h
  | step _ ih => exact one_succ _ _ _ _ _ ih
theorem root_more {n m : Nat} (hm : n ≤ m) {b : Bs} {x a : Tm} (h : rootF n b x = some a) : rootF m b x = some a := by
  induction hm with
  | refl => exact h
  | step _ ih => exact root_succ _ _ _ _ ih
theorem bind_more {n m : Nat} (hm : n ≤ m) {b : Bs} {v : Int} {t : Tm} {q : Bool × Bs} (h : bindF n b v t = some q) : bindF m b v t = some q := by
  induction hm with
  | refl => exact h
  | step _ ih => exact bind_succ ih
theorem bind_has {b : Bs} (hb : ∀ w y, lookB w b = some y → Pure y) {v : Int} {t : Tm} (ht : Pure t) : ∃ n q, bindF n b v t = some q := by
  obtain ⟨S, hS⟩ := lookB_bound (putA v t b)
  obtain ⟨r, hr⟩ := leads_has (putA v t b) v S (fun w y h => ⟨by
    rw [lookB_put] at h
    by_cases hw : w = v
    · rw [if_pos hw] at h; cases h; exact ht
    · rw [if_neg hw] at h; exact hb w y h, hS w y h⟩) _ t [] ht (Nat.le_refl _)
  exact ⟨_, _, by unfold bindF; rw [hr]; rfl⟩
/-! ### the root -/
theorem root_has {rk : Int → Nat} {b : Bs} (hr : Rk rk b) : ∀ (n : Nat) (t : Tm), dep rk t ≤ n → ∃ a, rootF (n + 1) b t = some a
  | n, t, h => by
    rw [rootF]
    by_cases hv : t.v > 0
    · rw [if_pos hv]
      cases hl : lookB t.v b with
      | none => exact ⟨_, rfl⟩
      | some x =>
        simp only
        by_cases hx : x.v = 0
        · rw [if_pos hx]; exact ⟨_, rfl⟩
        · rw [if_neg hx]
          have h1 := hr _ _ hl
          rw [dep_eq, if_pos hv] at h
          cases n with
          | zero => omega
          | succ n => exact root_has hr n x (by omega)
    · rw [if_neg hv]; exact ⟨_, rfl⟩
def Sat (θ : Int → Tm) (b : Bs) : Prop := ∀ v y, lookB v b = some y → θ v = sub θ y
theorem root_sat {θ : Int → Tm} {b : Bs} (h : Sat θ b) : ∀ (n : Nat) (t a : Tm), rootF n b t = some a → sub θ a = sub θ t
  | 0, _, _, e => by rw [rootF] at e; cases e
  | n + 1, t, a, e => by
    rw [rootF] at e
    by_cases hv : t.v > 0
    · rw [if_pos hv] at e
      cases hl : lookB t.v b with
      | none => rw [hl] at e; cases e; rfl
      | some x =>
        rw [hl] at e
        simp only at e
        by_cases hx : x.v = 0
        · rw [if_pos hx] at e; cases e; rfl
        · rw [if_neg hx] at e
          rw [root_sat h n x a e, sub_eq θ t, if_pos hv, h _ _ hl]
    · rw [if_neg hv] at e; cases e; rfl
theorem root_pool {P : Tm → Prop} {b : Bs} (hb : ∀ v y, lookB v b = some y → P y) : ∀ (n : Nat) (t a : Tm), P t → rootF n b t = some a → P a ∧ (a.v > 0 → t.v > 0) ∧ (a.v > 0 → ∀ x, lookB a.v b = some x → x.v = 0)
  | 0, _, _, _, e => by rw [rootF] at e; cases e
  | n + 1, t, a, ht, e => by
    rw [rootF] at e
    by_cases hv : t.v > 0
    · rw [if_pos hv] at e
      cases hl : lookB t.v b with
      | none => rw [hl] at e; cases e; exact ⟨ht, fun h => h, fun _ x hx => by rw [hl] at hx; cases hx⟩
      | some x =>
        rw [hl] at e
        simp only at e
        by_cases hx : x.v = 0
        · rw [if_pos hx] at e; cases e; exact ⟨ht, fun h => h, fun _ y hy => by rw [hl] at hy; cases hy; exact hx⟩
        · rw [if_neg hx] at e
          obtain ⟨h1, _, h3⟩ := root_pool hb n x a (hb _ _ hl) e
          exact ⟨h1, fun _ => hv, h3⟩
    · rw [if_neg hv] at e; cases e; exact ⟨ht, fun h => h, fun h => absurd h hv⟩
theorem root_dep {rk : Int → Nat} {b : Bs} (hr : Rk rk b) : ∀ (n : Nat) (t a : Tm), rootF n b t = some a → dep rk a ≤ dep rk t
  | 0, _, _, e => by rw [rootF] at e; cases e
  | n + 1, t, a, e => by
    rw [rootF] at e
    by_cases hv : t.v > 0
    · rw [if_pos hv] at e
      cases hl : lookB t.v b with
      | none => rw [hl] at e; cases e; omega
      | some x =>
        rw [hl] at e
        simp only at e
        by_cases hx : x.v = 0
        · rw [if_pos hx] at e; cases e; omega
        · rw [if_neg hx] at e
          have h1 := root_dep hr n x a e
          have h2 := hr _ _ hl
          rw [dep_eq rk t, if_pos hv]; omega
    · rw [if_neg hv] at e; cases e; omega
/-! ### binding -/
structure Inv (P : Tm → Prop) (b : Bs) : Prop where
  nd : (b.map (·.1)).Nodup
  val : ∀ p ∈ b, P p.2 ∧ p.1 > 0 ∧ P (vt p.1)
  rk : ∃ rk, Rk rk b
theorem Inv.look {P : Tm → Prop} {b : Bs} (h : Inv P b) {v : Int} {y : Tm} (hl : lookB v b = some y) : P y := by
  obtain ⟨p, hp, h1, h2⟩ := lookB_mem hl
  rw [← h2]; exact (h.val p hp).1
theorem bind_true {P : Tm → Prop} (hP : ∀ t, P t → Pure t) {b : Bs} (hb : Inv P b) {n : Nat} {v : Int} {t : Tm} (ht : P t) (hv : v > 0) (hv' : P (vt v)) {b' : Bs} (h : bindF n b v t = some (true, b')) : b' = putA v t b ∧ Inv P b' := by
  unfold bindF at h
  cases hl : leadsF n (putA v t b) v t [] with
  | none => rw [hl] at h; cases h
  | some r =>
    obtain ⟨c, met⟩ := r
    rw [hl] at h
    simp only [Option.map_some, Option.some.injEq, Prod.mk.injEq] at h
    obtain ⟨h1, rfl⟩ := h
    have hc : c = false := by cases c with | true => cases h1 | false => rfl
    subst hc
    have hpure : ∀ w y, lookB w (putA v t b) = some y → Pure y := fun w y h => by
      rw [lookB_put] at h
      by_cases hw : w = v
      · rw [if_pos hw] at h; cases h; exact hP _ ht
      · rw [if_neg hw] at h; exact hP _ (hb.look h)
    obtain ⟨h2, h3⟩ := leads_no (putA v t b) v hpure n t [] met (hP _ ht) hl
    have hcl : ∀ w, InM w met → w ≠ v ∧ ∀ y, lookB w (putA v t b) = some y → VarsIn v met y := fun w hw => by
      rcases h3.2 w hw with h | h
      · cases h
      · exact h
    refine ⟨rfl, putA_nodup v t b hb.nd, fun p hp => ?_, ?_⟩
    · rcases putA_mem hp with rfl | hp
      · exact ⟨ht, hv, hv'⟩
      · exact hb.val p hp
    · obtain ⟨rk, hr⟩ := hb.rk
      refine ⟨fun w => if InM w met then rk w else rk w + (dep rk t + 1), fun w y hy => ?_⟩
      have hin : ∀ y, VarsIn v met y → dep (fun w => if InM w met then rk w else rk w + (dep rk t + 1)) y ≤ dep rk y + 0 := fun y hy => dep_more y fun x hx hv => by
        rw [if_pos (hy x hx hv).2]; omega
      have hout : ∀ y, dep (fun w => if InM w met then rk w else rk w + (dep rk t + 1)) y ≤ dep rk y + (dep rk t + 1) := fun y => dep_more y fun x hx hv => by
        split <;> omega
      have hy0 := hy
      rw [lookB_put] at hy
      simp only []
      by_cases hw : w = v
      · rw [if_pos hw] at hy; cases hy
        subst hw
        have h4 := hin t h2
        rw [if_neg (fun h => (hcl _ h).1 rfl)]
        omega
      · rw [if_neg hw] at hy
        have h4 := hr _ _ hy
        by_cases hm : InM w met
        · have h5 := hin y ((hcl w hm).2 y hy0)
          rw [if_pos hm]; omega
        · have h5 := hout y
          rw [if_neg hm]; omega
theorem bind_false {b : Bs} (hb : ∀ w y, lookB w b = some y → Pure y) {n : Nat} {v : Int} {t : Tm} (ht : Pure t) (hc : t.v = 0 ∨ (t.v ≠ v ∧ ∀ x, lookB t.v b = some x → x.v = 0)) {b' : Bs} (h : bindF n b v t = some (false, b')) {θ : Int → Tm} (hθ : ∀ w y, w ≠ v → lookB w b = some y → θ w = sub θ y) : θ v ≠ sub θ t := by
  intro he
  unfold bindF at h
  cases hl : leadsF n (putA v t b) v t [] with
  | none => rw [hl] at h; cases h
  | some r =>
    obtain ⟨c, met⟩ := r
    rw [hl] at h
    simp only [Option.map_some, Option.some.injEq, Prod.mk.injEq] at h
    have hc1 : c = true := by
      cases c with
      | true => rfl
      | false => exact absurd h.1 (by decide)
    subst hc1
    have hpure : ∀ w y, lookB w (putA v t b) = some y → Pure y := fun w y h => by
      rw [lookB_put] at h
      by_cases hw : w = v
      · rw [if_pos hw] at h; cases h; exact ht
      · rw [if_neg hw] at h; exact hb w y h
    have hθ' : ∀ w y, w ≠ v → lookB w (putA v t b) = some y → θ w = sub θ y := fun w y hw h => by
      rw [lookB_put, if_neg hw] at h; exact hθ w y hw h
    by_cases h0 : t.v = 0
    · have := (leads_yes (putA v t b) v hpure hθ' n t [] met ht hl).2 h0
      rw [← he] at this; omega
    · rcases hc with hc | ⟨hc1, hc2⟩
      · exact h0 hc
      · cases n with
        | zero => rw [leadsF] at hl; cases hl
        | succ n =>
          rw [leadsF, if_neg h0, if_neg hc1, if_neg (by simp [lookA]), lookB_put, if_neg hc1] at hl
          cases hx : lookB t.v b with
          | none => rw [hx] at hl; simp at hl
          | some x =>
            rw [hx] at hl
            simp only at hl
            have h1 := (leads_yes (putA v t b) v hpure hθ' n x _ met (hb _ _ hx) hl).2 (hc2 x hx)
            have hpos : t.v > 0 := by have := (ht t (parts_self t)).1; omega
            rw [← hθ _ _ hc1 hx] at h1
            rw [he, sub_eq, if_pos hpos] at h1
            omega
end Go.Proofs.Ytmeekpinkfpnhab
namespace Go.Proofs.Ytmeekpinkfpnhab
/-! ### how much is left to bind -/
def wOne : Option Tm → Nat
  | none => 2
  | some y => if y.v > 0 then 0 else 1
theorem wOne_some (y : Tm) : wOne (some y) ≤ 1 := by unfold wOne; simp only []; split <;> omega
def wSum (b : Bs) : List Int → Nat
  | [] => 0
  | v :: vs => wOne (lookB v b) + wSum b vs
theorem wSum_le {b : Bs} {v : Int} {t : Tm} (h : wOne (some t) ≤ wOne (lookB v b)) : ∀ vs : List Int, wSum (putA v t b) vs ≤ wSum b vs
  | [] => Nat.le_refl _
  | w :: vs => by
    have := wSum_le h vs
    rw [wSum, wSum, lookB_put]
    by_cases hw : w = v
    · rw [if_pos hw, hw]; omega
    · rw [if_neg hw]; omega
theorem wSum_put {b : Bs} {v : Int} {t : Tm} (h : wOne (some t) < wOne (lookB v b)) : ∀ {vs : List Int}, v ∈ vs → wSum (putA v t b) vs < wSum b vs
  | w :: vs, hm => by
    rw [wSum, wSum, lookB_put]
    by_cases hw : w = v
    · have := wSum_le (b := b) (v := v) (t := t) (by omega) vs
      rw [if_pos hw, hw]; omega
    · have hm : v ∈ vs := by
        rcases List.mem_cons.1 hm with e | h
        · exact absurd e.symm hw
        · exact h
      have := wSum_put h hm
      rw [if_neg hw]; omega
section
variable (P : Tm → Prop) (V : List Int)
structure Pool : Prop where
  pure : ∀ t, P t → Pure t
  kid : ∀ t, P t → ∀ u ∈ t.us, P u
  vars : ∀ t, P t → t.v > 0 → t.v ∈ V
def OneOk (b : Bs) (s t : Tm) (q : Bool × Bs) : Prop :=
  (q.1 = true → Inv P q.2 ∧ (∀ θ, Sat θ q.2 ↔ Sat θ b ∧ sub θ s = sub θ t) ∧ (q.2 = b ∨ wSum q.2 V < wSum b V)) ∧ (q.1 = false → ∀ θ, Sat θ b → sub θ s ≠ sub θ t)
variable {P V} (hp : Pool P V)
include hp
theorem OneOk.symm {b : Bs} {s t : Tm} {q : Bool × Bs} (h : OneOk P V b s t q) : OneOk P V b t s q := by
  refine ⟨fun hq => ?_, fun hq θ hs e => h.2 hq θ hs e.symm⟩
  obtain ⟨h1, h2, h3⟩ := h.1 hq
  exact ⟨h1, fun θ => by rw [h2]; exact ⟨fun h => ⟨h.1, h.2.symm⟩, fun h => ⟨h.1, h.2.symm⟩⟩, h3⟩
theorem Pool.vt {t : Tm} (h : P t) (hv : t.v > 0) : t = Go.Proofs.Ytmeekpinkfpnhab.vt t.v := (hp.pure t h t (parts_self t)).2 hv
theorem sub_var {θ : Int → Tm} {t : Tm} (hv : t.v > 0) : sub θ t = θ t.v := by rw [sub_eq, if_pos hv]
omit hp in
theorem sat_put {θ : Int → Tm} {b : Bs} {v : Int} {t : Tm} : Sat θ (putA v t b) ↔ θ v = sub θ t ∧ ∀ w y, w ≠ v → lookB w b = some y → θ w = sub θ y := by
  constructor
  · intro h
    refine ⟨h v t (by rw [lookB_put, if_pos rfl]), fun w y hw hy => h w y (by rw [lookB_put, if_neg hw]; exact hy)⟩
  · rintro ⟨h1, h2⟩ w y hy
    rw [lookB_put] at hy
    by_cases hw : w = v
    · rw [if_pos hw] at hy; cases hy; rw [hw]; exact h1
    · rw [if_neg hw] at hy; exact h2 w y hw hy
omit hp in
theorem sat_new {θ : Int → Tm} {b : Bs} {v : Int} {t : Tm} (hn : lookB v b = none) : Sat θ (putA v t b) ↔ Sat θ b ∧ θ v = sub θ t := by
  rw [sat_put]
  constructor
  · rintro ⟨h1, h2⟩
    exact ⟨fun w y hy => h2 w y (fun e => by rw [e, hn] at hy; cases hy) hy, h1⟩
  · rintro ⟨h1, h2⟩
    exact ⟨h2, fun w y _ hy => h1 w y hy⟩
theorem bind_ok {b : Bs} (hb : Inv P b) {n : Nat} {v : Int} {t : Tm} (hv : v > 0) (hv' : P (Go.Proofs.Ytmeekpinkfpnhab.vt v)) (ht : P t) (hn : lookB v b = none) (hc : t.v = 0 ∨ (t.v ≠ v ∧ ∀ x, lookB t.v b = some x → x.v = 0)) {q : Bool × Bs} (h : bindF n b v t = some q) : OneOk P V b (Go.Proofs.Ytmeekpinkfpnhab.vt v) t q := by
  have ev : ∀ θ, sub θ (Go.Proofs.Ytmeekpinkfpnhab.vt v) = θ v := fun θ => sub_var (t := .mk v 0 []) hp hv
  obtain ⟨c, b'⟩ := q
  refine ⟨fun hq => ?_, fun hq θ hs => ?_⟩
  · simp only at hq; subst hq
    obtain ⟨h1, h2⟩ := bind_true hp.pure hb ht hv hv' h
    refine ⟨h2, fun θ => ?_, .inr ?_⟩
    · simp only [h1]; rw [sat_new hn, ev]
    · simp only [h1]
      refine wSum_put ?_ (hp.vars _ hv' hv)
      rw [hn]; have := wOne_some t; have e : wOne none = 2 := rfl; omega
  · simp only at hq; subst hq
    rw [ev]
    exact bind_false (fun w y h => hp.pure _ (hb.look h)) (hp.pure _ ht) hc h fun w y _ hy => hs w y hy
theorem oneV_ok {one : Bs → Tm → Tm → Option (Bool × Bs)} (hone : ∀ b s t q, Inv P b → P s → P t → one b s t = some q → OneOk P V b s t q) {n : Nat} {b : Bs} (hb : Inv P b) {a c : Tm} (ha : P a) (hc : P c) (hav : a.v > 0)
    (hra : ∀ x, lookB a.v b = some x → x.v = 0) (hrc : c.v > 0 → ∀ x, lookB c.v b = some x → x.v = 0) {q : Bool × Bs} (h : oneV one n b a c = some q) : OneOk P V b a c q := by
  have ea := hp.vt ha hav
  have hPa : P (Go.Proofs.Ytmeekpinkfpnhab.vt a.v) := by rw [← ea]; exact ha
  unfold oneV at h
  by_cases hc0 : c.v = 0
  · rw [if_pos hc0] at h
    cases hl : lookB a.v b with
    | none =>
      rw [hl] at h
      have := bind_ok hp hb hav hPa hc hl (.inl hc0) h
      rw [← ea] at this; exact this
    | some x =>
      rw [hl] at h
      have h1 := hone b x c q hb (hb.look hl) hc h
      have e : ∀ θ, Sat θ b → sub θ x = sub θ a := fun θ hs => by rw [sub_var hp hav]; exact (hs _ _ hl).symm
      refine ⟨fun hq => ?_, fun hq θ hs => by rw [← e θ hs]; exact h1.2 hq θ hs⟩
      obtain ⟨h2, h3, h4⟩ := h1.1 hq
      exact ⟨h2, fun θ => by
        rw [h3]
        constructor
        · rintro ⟨k1, k2⟩; exact ⟨k1, by rw [← e θ k1]; exact k2⟩
        · rintro ⟨k1, k2⟩; exact ⟨k1, by rw [e θ k1]; exact k2⟩, h4⟩
  · rw [if_neg hc0] at h
    have hcv : c.v > 0 := by have := (hp.pure c hc c (parts_self c)).1; omega
    have ec := hp.vt hc hcv
    have hPc : P (Go.Proofs.Ytmeekpinkfpnhab.vt c.v) := by rw [← ec]; exact hc
    by_cases he : a.v = c.v
    · rw [if_pos he] at h
      cases h
      have : a = c := by rw [ea, ec, he]
      subst this
      exact ⟨fun _ => ⟨hb, fun θ => ⟨fun h => ⟨h, rfl⟩, fun h => h.1⟩, .inl rfl⟩, fun h => (by cases h)⟩
    · rw [if_neg he] at h
      cases h1 : lookB a.v b with
      | none =>
        cases h2 : lookB c.v b with
        | none =>
          rw [h1, h2] at h
          simp only at h
          by_cases hg : c.v > a.v
          · rw [if_pos hg, if_neg (by omega)] at h
            change bindF n b c.v (Go.Proofs.Ytmeekpinkfpnhab.vt a.v) = some q at h
            rw [← ea] at h
            have := bind_ok hp hb hcv hPc ha h2 (.inr ⟨he, hra⟩) h
            rw [← ec] at this; exact OneOk.symm hp this
          · rw [if_neg hg, if_pos (by omega)] at h
            change bindF n b a.v (Go.Proofs.Ytmeekpinkfpnhab.vt c.v) = some q at h
            rw [← ec] at h
            have := bind_ok hp hb hav hPa hc h1 (.inr ⟨fun e => he e.symm, hrc hcv⟩) h
            rw [← ea] at this; exact this
        | some y =>
          rw [h1, h2] at h
          simp only at h
          have := bind_ok hp hb hav hPa hc h1 (.inr ⟨fun e => he e.symm, hrc hcv⟩) h
          rw [← ea] at this; exact this
      | some x =>
        cases h2 : lookB c.v b with
        | none =>
          rw [h1, h2] at h
          simp only at h
          have := bind_ok hp hb hcv hPc ha h2 (.inr ⟨he, hra⟩) h
          rw [← ec] at this; exact OneOk.symm hp this
        | some y =>
          rw [h1, h2] at h
          simp only at h
          cases hbd : bindF n b c.v a with
          | none => rw [hbd] at h; cases h
          | some r =>
            rw [hbd] at h
            obtain ⟨k, b'⟩ := r
            cases k with
            | false =>
              simp only at h
              cases h
              refine ⟨fun h => (by cases h), fun _ θ hs => ?_⟩
              have := bind_false (fun w y h => hp.pure _ (hb.look h)) (hp.pure _ ha) (.inr ⟨he, hra⟩) hbd (θ := θ) fun w y _ hy => hs w y hy
              rw [sub_var hp hcv]; exact fun e => this e.symm
            | true =>
              simp only at h
              obtain ⟨k1, k2⟩ := bind_true hp.pure hb ha hcv hPc hbd
              have hw : wSum b' V < wSum b V := by
                rw [k1]
                refine wSum_put ?_ (hp.vars _ hc hcv)
                rw [h2]; unfold wOne; simp only []
                rw [if_pos hav, if_neg (by have := hrc hcv y h2; omega)]; omega
              have k3 := hone b' x y q k2 (hb.look h1) (hb.look h2) h
              have key : ∀ θ, (Sat θ b' ∧ sub θ x = sub θ y) ↔ (Sat θ b ∧ sub θ a = sub θ c) := fun θ => by
                rw [k1, sat_put, sub_var hp hcv, sub_var hp hav]
                constructor
                · rintro ⟨⟨m1, m2⟩, m3⟩
                  have m4 := m2 _ _ he h1
                  refine ⟨fun w z hz => ?_, m1.symm⟩
                  by_cases hw : w = c.v
                  · rw [hw, h2] at hz; cases hz
                    rw [hw, m1, m4, m3]
                  · exact m2 w z hw hz
                · rintro ⟨m1, m2⟩
                  exact ⟨⟨m2.symm, fun w z _ hz => m1 w z hz⟩, by rw [← m1 _ _ h1, ← m1 _ _ h2]; exact m2⟩
              refine ⟨fun hq => ?_, fun hq θ hs e => ?_⟩
              · obtain ⟨m1, m2, m3⟩ := k3.1 hq
                refine ⟨m1, fun θ => by rw [m2, key], .inr ?_⟩
                rcases m3 with m3 | m3
                · rw [m3]; exact hw
                · omega
              · obtain ⟨m1, m2⟩ := (key θ).2 ⟨hs, e⟩
                exact k3.2 hq θ m1 m2
omit hp in
theorem sub_non {θ : Int → Tm} {t : Tm} (h : t.v = 0) : sub θ t = .mk 0 t.f (subL θ t.us) := by rw [sub_eq, if_neg (by omega), h]
theorem one_ok : ∀ (n : Nat) (b : Bs) (s t : Tm) (q : Bool × Bs), Inv P b → P s → P t → oneF n b s t = some q → OneOk P V b s t q
  | 0, _, _, _, _, _, _, _, h => by rw [oneF] at h; cases h
  | n + 1, b, s, t, q, hb, hs, ht, h => by
    rw [oneF] at h
    cases ha : rootF n b s with
    | none => rw [ha] at h; cases h
    | some a =>
      cases hc : rootF n b t with
      | none => rw [ha, hc] at h; cases h
      | some c =>
        rw [ha, hc] at h
        simp only at h
        have hval : ∀ v y, lookB v b = some y → P y := fun v y h => hb.look h
        obtain ⟨pa, _, ra⟩ := root_pool hval n s a hs ha
        obtain ⟨pc, _, rc⟩ := root_pool hval n t c ht hc
        suffices hk : OneOk P V b a c q by
          refine ⟨fun hq => ?_, fun hq θ hsat e => ?_⟩
          · obtain ⟨h1, h2, h3⟩ := hk.1 hq
            refine ⟨h1, fun θ => ?_, h3⟩
            rw [h2]
            constructor
            · rintro ⟨k1, k2⟩; exact ⟨k1, by rw [← root_sat k1 n s a ha, ← root_sat k1 n t c hc]; exact k2⟩
            · rintro ⟨k1, k2⟩; exact ⟨k1, by rw [root_sat k1 n s a ha, root_sat k1 n t c hc]; exact k2⟩
          · exact hk.2 hq θ hsat (by rw [root_sat hsat n s a ha, root_sat hsat n t c hc]; exact e)
        by_cases h0 : a.v = 0 ∧ c.v = 0
        · rw [if_pos h0] at h
          by_cases h1 : a.f = c.f
          · rw [if_pos h1] at h
            by_cases h2 : a.us.length = c.us.length
            · rw [if_pos h2] at h
              have key : ∀ (xs ys : List Tm) (b : Bs), xs.length = ys.length → Inv P b → (∀ u ∈ xs, P u) → (∀ u ∈ ys, P u) → eqO (fun x y s => oneF n s x y) xs ys b = some q →
                  (q.1 = true → Inv P q.2 ∧ (∀ θ, Sat θ q.2 ↔ Sat θ b ∧ subL θ xs = subL θ ys) ∧ (q.2 = b ∨ wSum q.2 V < wSum b V)) ∧ (q.1 = false → ∀ θ, Sat θ b → subL θ xs ≠ subL θ ys) := by
                intro xs
                induction xs with
                | nil =>
                  intro ys b hl hb _ _ h
                  cases ys with
                  | cons => cases hl
                  | nil =>
                    simp only [eqO, Option.some.injEq] at h
                    subst h
                    exact ⟨fun _ => ⟨hb, fun θ => ⟨fun h => ⟨h, rfl⟩, fun h => h.1⟩, .inl rfl⟩, fun h => (by cases h)⟩
                | cons x xs ih =>
                  intro ys b hl hb hx hy h
                  cases ys with
                  | nil => cases hl
                  | cons y ys =>
                    rw [eqO] at h
                    cases ho : oneF n b x y with
                    | none => rw [ho] at h; cases h
                    | some r =>
                      rw [ho] at h
                      have hr := one_ok n b x y r hb (hx x (by simp)) (hy y (by simp)) ho
                      obtain ⟨k, b'⟩ := r
                      cases k with
                      | false =>
                        simp only at h
                        cases h
                        refine ⟨fun h => (by cases h), fun _ θ hs e => ?_⟩
                        rw [subL, subL] at e
                        injection e with e1 e2
                        exact hr.2 rfl θ hs e1
                      | true =>
                        simp only at h
                        obtain ⟨k1, k2, k3⟩ := hr.1 rfl
                        simp only at k1 k2 k3
                        obtain ⟨m1, m2⟩ := ih ys b' (by simpa using hl) k1 (fun u hu => hx u (by simp [hu])) (fun u hu => hy u (by simp [hu])) h
                        refine ⟨fun hq => ?_, fun hq θ hs e => ?_⟩
                        · obtain ⟨j1, j2, j3⟩ := m1 hq
                          refine ⟨j1, fun θ => ?_, ?_⟩
                          · rw [j2, k2, subL, subL]
                            constructor
                            · rintro ⟨⟨i1, i2⟩, i3⟩; exact ⟨i1, by rw [i2, i3]⟩
                            · rintro ⟨i1, i2⟩
                              injection i2 with i2 i3
                              exact ⟨⟨i1, i2⟩, i3⟩
                          · rcases j3 with j3 | j3
                            · rcases k3 with k3 | k3
                              · exact .inl (j3.trans k3)
                              · exact .inr (by rw [j3]; exact k3)
                            · rcases k3 with k3 | k3
                              · exact .inr (by rw [← k3]; exact j3)
                              · exact .inr (by omega)
                        · rw [subL, subL] at e
                          injection e with e1 e2
                          exact m2 hq θ ((k2 θ).2 ⟨hs, e1⟩) e2
              obtain ⟨k1, k2⟩ := key a.us c.us b h2 hb (hp.kid a pa) (hp.kid c pc) h
              refine ⟨fun hq => ?_, fun hq θ hs e => ?_⟩
              · obtain ⟨j1, j2, j3⟩ := k1 hq
                refine ⟨j1, fun θ => ?_, j3⟩
                rw [j2, sub_non h0.1, sub_non h0.2]
                constructor
                · rintro ⟨i1, i2⟩; exact ⟨i1, by rw [i2, h1]⟩
                · rintro ⟨i1, i2⟩
                  injection i2 with _ _ i2
                  exact ⟨i1, i2⟩
              · rw [sub_non h0.1, sub_non h0.2] at e
                injection e with _ _ e
                exact k2 hq θ hs e
            · rw [if_neg h2] at h
              cases h
              refine ⟨fun h => (by cases h), fun _ θ hs e => h2 ?_⟩
              rw [sub_non h0.1, sub_non h0.2] at e
              injection e with _ _ e
              have := congrArg List.length e
              rw [subL_map, subL_map, List.length_map, List.length_map] at this
              exact this
          · rw [if_neg h1] at h
            cases h
            refine ⟨fun h => (by cases h), fun _ θ hs e => h1 ?_⟩
            rw [sub_non h0.1, sub_non h0.2] at e
            injection e
        · rw [if_neg h0] at h
          by_cases h1 : a.v = 0
          · rw [if_pos h1] at h
            have hcv : c.v > 0 := by
              have := (hp.pure c pc c (parts_self c)).1
              rcases Classical.em (c.v = 0) with h2 | h2
              · exact absurd ⟨h1, h2⟩ h0
              · omega
            exact OneOk.symm hp (oneV_ok hp (one_ok n) hb pc pa hcv (rc hcv) ra h)
          · rw [if_neg h1] at h
            have hav : a.v > 0 := by have := (hp.pure a pa a (parts_self a)).1; omega
            exact oneV_ok hp (one_ok n) hb pa pc hav (ra hav) rc h
end
end Go.Proofs.Ytmeekpinkfpnhab
namespace Go.Proofs.Ytmeekpinkfpnhab
def nv (t : Tm) : Nat := if t.v > 0 then 1 else 0
def Has (b : Bs) (s t : Tm) : Prop := ∃ n q, oneF n b s t = some q
theorem Has.more {b : Bs} {s t : Tm} (h : Has b s t) (m : Nat) : ∃ n q, m ≤ n ∧ oneF n b s t = some q := by
  obtain ⟨n, q, h⟩ := h
  exact ⟨max n m, q, by omega, one_more (by omega) h⟩
section
variable {P : Tm → Prop} {V : List Int} (hp : Pool P V)
include hp
theorem one_step (b : Bs) (rk : Int → Nat) (s t : Tm) (hb : Inv P b) (hr : Rk rk b) (hs : P s) (ht : P t)
    (IH : ∀ b' rk' s' t', Inv P b' → Rk rk' b' → P s' → P t' → (wSum b' V < wSum b V ∨ (b' = b ∧ rk' = rk ∧ (dep rk s' + dep rk t' < dep rk s + dep rk t ∨ (dep rk s' + dep rk t' ≤ dep rk s + dep rk t ∧ nv s' + nv t' < nv s + nv t)))) → Has b' s' t') : Has b s t := by
  obtain ⟨a, ha⟩ := root_has hr _ s (Nat.le_refl _)
  obtain ⟨c, hc⟩ := root_has hr _ t (Nat.le_refl _)
  have hval : ∀ v y, lookB v b = some y → P y := fun v y h => hb.look h
  obtain ⟨pa, va, ra⟩ := root_pool hval _ s a hs ha
  obtain ⟨pc, vc, rc⟩ := root_pool hval _ t c ht hc
  have da := root_dep hr _ s a ha
  have dc := root_dep hr _ t c hc
  generalize dep rk s + 1 = n1 at ha
  generalize dep rk t + 1 = n2 at hc
  -- what is left: the step after the roots
  suffices hk : ∃ n q, n1 ≤ n ∧ n2 ≤ n ∧ (if a.v = 0 ∧ c.v = 0 then
        if a.f = c.f then (if a.us.length = c.us.length then eqO (fun x y s => oneF n s x y) a.us c.us b else some (false, b)) else some (false, b)
      else if a.v = 0 then oneV (oneF n) n b c a else oneV (oneF n) n b a c) = some q by
    obtain ⟨n, q, h1, h2, h3⟩ := hk
    refine ⟨n + 1, q, ?_⟩
    rw [oneF, root_more h1 ha, root_more h2 hc]
    exact h3
  have hvar : ∀ a c : Tm, P a → P c → a.v > 0 → (∀ x, lookB a.v b = some x → x.v = 0) → (c.v > 0 → ∀ x, lookB c.v b = some x → x.v = 0) → dep rk a + dep rk c ≤ dep rk s + dep rk t → (c.v = 0 → 0 < nv s + nv t) → ∃ n q, n1 ≤ n ∧ n2 ≤ n ∧ oneV (oneF n) n b a c = some q := by
    intro a c pa pc hav ra rc hd hn
    have hbnd : ∀ v t, P t → ∃ n q, n1 ≤ n ∧ n2 ≤ n ∧ bindF n b v t = some q := fun v t ht => by
      obtain ⟨n, q, h⟩ := bind_has (b := b) (fun w y h => hp.pure _ (hb.look h)) (v := v) (hp.pure _ ht)
      exact ⟨max n (max n1 n2), q, by omega, by omega, bind_more (by omega) h⟩
    unfold oneV
    by_cases hc0 : c.v = 0
    · cases hl : lookB a.v b with
      | none =>
        obtain ⟨n, q, h1, h2, h3⟩ := hbnd a.v c pc
        exact ⟨n, q, h1, h2, by rw [if_pos hc0]; exact h3⟩
      | some x =>
        have hx := hr _ _ hl
        have hxv := ra x hl
        have h := IH b rk x c hb hr (hb.look hl) pc (.inr ⟨rfl, rfl, .inl (by rw [dep_eq rk a, if_pos hav] at hd; omega)⟩)
        obtain ⟨n, q, h1, h2⟩ := h.more (max n1 n2)
        exact ⟨n, q, by omega, by omega, by rw [if_pos hc0]; exact h2⟩
    · have hcv : c.v > 0 := by have := (hp.pure c pc c (parts_self c)).1; omega
      by_cases he : a.v = c.v
      · exact ⟨max n1 n2, (true, b), by omega, by omega, by rw [if_neg hc0, if_pos he]⟩
      · cases h1 : lookB a.v b with
        | none =>
          cases h2 : lookB c.v b with
          | none =>
            have ea : Tm.mk a.v 0 [] = a := (hp.vt pa hav).symm
            have ec : Tm.mk c.v 0 [] = c := (hp.vt pc hcv).symm
            have hm : P (.mk (if c.v < a.v then c.v else a.v) 0 []) := by
              split
              · rw [ec]; exact pc
              · rw [ea]; exact pa
            obtain ⟨n, q, k1, k2, k3⟩ := hbnd (if c.v > a.v then c.v else a.v) _ hm
            exact ⟨n, q, k1, k2, by rw [if_neg hc0, if_neg he]; exact k3⟩
          | some y =>
            obtain ⟨n, q, k1, k2, k3⟩ := hbnd a.v c pc
            exact ⟨n, q, k1, k2, by rw [if_neg hc0, if_neg he]; exact k3⟩
        | some x =>
          cases h2 : lookB c.v b with
          | none =>
            obtain ⟨n, q, k1, k2, k3⟩ := hbnd c.v a pa
            exact ⟨n, q, k1, k2, by rw [if_neg hc0, if_neg he]; exact k3⟩
          | some y =>
            obtain ⟨n, q, k1, k2, k3⟩ := hbnd c.v a pa
            obtain ⟨k, b'⟩ := q
            cases k with
            | false => exact ⟨n, (false, b'), k1, k2, by rw [if_neg hc0, if_neg he]; simp only [k3]⟩
            | true =>
              have ec := hp.vt pc hcv
              obtain ⟨j1, j2⟩ := bind_true hp.pure hb pa hcv (by rw [← ec]; exact pc) k3
              obtain ⟨rk', hr'⟩ := j2.rk
              have hw : wSum b' V < wSum b V := by
                rw [j1]
                refine wSum_put ?_ (hp.vars _ pc hcv)
                rw [h2]; unfold wOne; simp only []
                rw [if_pos hav, if_neg (by have := rc hcv y h2; omega)]; omega
              have h := IH b' rk' x y j2 hr' (hb.look h1) (hb.look h2) (.inl hw)
              obtain ⟨m, q, i1, i2⟩ := h.more n
              refine ⟨m, q, by omega, by omega, ?_⟩
              rw [if_neg hc0, if_neg he]
              simp only [bind_more i1 k3]
              exact i2
  by_cases h0 : a.v = 0 ∧ c.v = 0
  · by_cases h1 : a.f = c.f
    · by_cases h2 : a.us.length = c.us.length
      · have key : ∀ (xs ys : List Tm) (b' : Bs), (b' = b ∨ wSum b' V < wSum b V) → Inv P b' → (∀ u ∈ xs, P u ∧ dep rk u < dep rk a) → (∀ u ∈ ys, P u ∧ dep rk u < dep rk c) → ∃ n q, n1 ≤ n ∧ n2 ≤ n ∧ eqO (fun x y s => oneF n s x y) xs ys b' = some q := by
          intro xs
          induction xs with
          | nil => intro ys b' _ _ _ _; exact ⟨max n1 n2, (true, b'), by omega, by omega, by simp only [eqO]⟩
          | cons x xs ih =>
            intro ys b' hb1 hb2 hx hy
            cases ys with
            | nil => exact ⟨max n1 n2, (true, b'), by omega, by omega, by simp only [eqO]⟩
            | cons y ys =>
              obtain ⟨x1, x2⟩ := hx x (by simp)
              obtain ⟨y1, y2⟩ := hy y (by simp)
              have h : Has b' x y := by
                rcases hb1 with e | hw
                · subst e
                  exact IH b' rk x y hb hr x1 y1 (.inr ⟨rfl, rfl, .inl (by omega)⟩)
                · obtain ⟨rk', hr'⟩ := hb2.rk
                  exact IH b' rk' x y hb2 hr' x1 y1 (.inl hw)
              obtain ⟨n, ⟨k, b2⟩, m1⟩ := h
              have hok := one_ok hp n b' x y _ hb2 x1 y1 m1
              cases k with
              | false => exact ⟨max n (max n1 n2), (false, b2), by omega, by omega, by rw [eqO, one_more (by omega) m1]⟩
              | true =>
                obtain ⟨k1, _, k3⟩ := hok.1 rfl
                simp only at k1 k3
                obtain ⟨m, q, i1, i2, i3⟩ := ih ys b2 (by
                  rcases k3 with k3 | k3
                  · rw [k3]; exact hb1
                  · rcases hb1 with e | hw
                    · exact .inr (by rw [← e]; exact k3)
                    · exact .inr (by omega)) k1 (fun u hu => hx u (by simp [hu])) (fun u hu => hy u (by simp [hu]))
                refine ⟨max m n, q, by omega, by omega, ?_⟩
                rw [eqO, one_more (by omega) m1]
                exact eqO_mono (fun u v s r e => one_more (by omega) e) _ _ _ _ i3
        obtain ⟨n, q, k1, k2, k3⟩ := key a.us c.us b (.inl rfl) hb (fun u hu => ⟨hp.kid a pa u hu, by
          have := depL_mem (rk := rk) hu; rw [dep_eq rk a, if_neg (by omega)]; omega⟩) (fun u hu => ⟨hp.kid c pc u hu, by
          have := depL_mem (rk := rk) hu; rw [dep_eq rk c, if_neg (by omega)]; omega⟩)
        exact ⟨n, q, k1, k2, by rw [if_pos h0, if_pos h1, if_pos h2]; exact k3⟩
      · exact ⟨max n1 n2, _, by omega, by omega, by rw [if_pos h0, if_pos h1, if_neg h2]⟩
    · exact ⟨max n1 n2, _, by omega, by omega, by rw [if_pos h0, if_neg h1]⟩
  · by_cases h1 : a.v = 0
    · have hcv : c.v > 0 := by
        have := (hp.pure c pc c (parts_self c)).1
        rcases Classical.em (c.v = 0) with h2 | h2
        · exact absurd ⟨h1, h2⟩ h0
        · omega
      obtain ⟨n, q, k1, k2, k3⟩ := hvar c a pc pa hcv (rc hcv) ra (by omega) (fun _ => by unfold nv; rw [if_pos (vc hcv)]; omega)
      exact ⟨n, q, k1, k2, by rw [if_neg h0, if_pos h1]; exact k3⟩
    · have hav : a.v > 0 := by have := (hp.pure a pa a (parts_self a)).1; omega
      obtain ⟨n, q, k1, k2, k3⟩ := hvar a c pa pc hav (ra hav) rc (by omega) (fun _ => by unfold nv; rw [if_pos (va hav)]; omega)
      exact ⟨n, q, k1, k2, by rw [if_neg h0, if_neg h1]; exact k3⟩
theorem one_has (b : Bs) (rk : Int → Nat) (s t : Tm) (hb : Inv P b) (hr : Rk rk b) (hs : P s) (ht : P t) : Has b s t :=
  one_step hp b rk s t hb hr hs ht fun b' rk' s' t' h1 h2 h3 h4 h5 => one_has b' rk' s' t' h1 h2 h3 h4
termination_by (wSum b V, dep rk s + dep rk t, nv s + nv t)
decreasing_by
  rcases h5 with h | ⟨rfl, rfl, h | ⟨h, h'⟩⟩
  · exact .left _ _ h
  · exact .right _ (.left _ _ h)
  · rcases Nat.lt_or_eq_of_le h with h | h
    · exact .right _ (.left _ _ h)
    · rw [h]; exact .right _ (.right _ h')
end
/-! ### all that is bound put in -/
def full (rk : Int → Nat) (b : Bs) (v : Int) : Tm := thruT (rk v + 1) b (vt v)
theorem mapM_sub {step : Tm → Tm × Bool} {τ : Int → Tm} : ∀ t : Tm, Pure t → (∀ x ∈ parts t, if x.v > 0 then (if (step x).2 = true then (step x).1 else x) = τ x.v else (step x).2 = false) → mapM step t = sub τ t := by
  refine Tm.ind fun t ih hp h => ?_
  have h1 := h t (parts_self t)
  rw [mapM_eq, sub_eq]
  by_cases hv : t.v > 0
  · rw [if_pos hv] at h1 ⊢
    rw [← h1]
    by_cases hs : (step t).2 = true
    · rw [if_pos hs, if_pos hs]
    · rw [if_neg hs, if_neg hs]
      have e := (hp t (parts_self t)).2 hv
      have eu : t.us = [] := by rw [e]; rfl
      rw [eu, mapL]
      conv => rhs; rw [← Tm.eta t, eu]
  · rw [if_neg hv] at h1 ⊢
    rw [if_neg (by rw [h1]; decide), mapL_map, subL_map]
    congr 1
    exact List.map_congr_left fun u hu => ih u hu (hp.kid hu) fun x hx => h x (parts_kid hu hx)
section
variable {rk : Int → Nat} {b : Bs} (hr : Rk rk b) (hb : ∀ v y, lookB v b = some y → Pure y)
include hr hb
theorem full_free {v : Int} (hv : v > 0) (h : lookB v b = none) : full rk b v = vt v := by
  unfold full
  rw [thruT, mapM_eq]
  unfold thruS
  simp only [v_mk, h]
  rw [if_neg (by decide)]
  rfl
theorem full_bound {v : Int} (hv : v > 0) {y : Tm} (h : lookB v b = some y) : full rk b v = thruT (rk v) b y := by
  unfold full
  rw [thruT, mapM_eq]
  unfold thruS
  simp only [v_mk, h, hv, if_true]
theorem thru_full : ∀ (n : Nat) (t : Tm), Pure t → dep rk t ≤ n → thruT (n + 1) b t = sub (full rk b) t := by
  intro n
  induction n using Nat.strongRecOn with
  | _ n ih =>
    intro t ht hd
    rw [thruT]
    refine mapM_sub t ht fun x hx => ?_
    have hxp := ht x hx
    have hxd := dep_parts (rk := rk) t ht x hx
    by_cases hv : x.v > 0
    · rw [if_pos hv]
      rw [dep_eq rk x, if_pos hv] at hxd
      unfold thruS
      cases hl : lookB x.v b with
      | none =>
        simp only
        rw [if_neg (by decide), full_free hr hb hv hl]
        exact hxp.2 hv
      | some y =>
        simp only
        rw [if_pos hv]
        simp only [if_true]
        rw [full_bound hr hb hv hl]
        have h1 := hr _ _ hl
        have hy := hb _ _ hl
        obtain ⟨m, rfl⟩ : ∃ m, n = m + 1 := ⟨n - 1, by omega⟩
        obtain ⟨r, hrr⟩ : ∃ r, rk x.v = r + 1 := ⟨rk x.v - 1, by omega⟩
        rw [hrr, ih m (by omega) y hy (by omega), ih r (by omega) y hy (by omega)]
    · rw [if_neg hv]
      unfold thruS
      cases hl : lookB x.v b with
      | none => rfl
      | some y => simp only; rw [if_neg hv]
theorem full_sat (hk : ∀ v y, lookB v b = some y → v > 0) : Sat (full rk b) b := fun v y h => by
  have h1 := hr _ _ h
  obtain ⟨r, hrr⟩ : ∃ r, rk v = r + 1 := ⟨rk v - 1, by omega⟩
  rw [full_bound hr hb (hk v y h) h, hrr, thru_full hr hb r y (hb _ _ h) (by omega)]
theorem full_most (hk : ∀ v y, lookB v b = some y → v > 0) {θ : Int → Tm} (hs : Sat θ b) : ∀ (n : Nat) (t : Tm), Pure t → dep rk t ≤ n → sub θ (sub (full rk b) t) = sub θ t := by
  intro n
  induction n using Nat.strongRecOn with
  | _ n ih =>
    intro t ht hd
    rw [sub_sub]
    refine sub_congr t fun x hx hv => ?_
    have hxd := dep_parts (rk := rk) t ht x hx
    rw [dep_eq rk x, if_pos hv] at hxd
    cases hl : lookB x.v b with
    | none => rw [full_free hr hb hv hl, sub_eq, if_pos (by simpa only [v_mk] using hv)]; rfl
    | some y =>
      have h1 := hr _ _ hl
      rw [full_sat hr hb hk _ _ hl, ih (dep rk y) (by omega) y (hb _ _ hl) (Nat.le_refl _), hs _ _ hl]
theorem thruOk_dep : ∀ (n : Nat) (t : Tm), Pure t → dep rk t ≤ n → thruOk (n + 1) b t = true := by
  intro n
  induction n using Nat.strongRecOn with
  | _ n ih =>
    intro t ht hd
    rw [thruOk, List.all_eq_true]
    intro x hx
    cases hl : lookB x.v b with
    | none => rfl
    | some y =>
      simp only
      by_cases hv : x.v > 0
      · have hx' : x ∈ parts t := by
          have := pre_filter t (fun z hz hv => by rw [(ht z hz).2 hv]; rfl)
          have h2 : x ∈ (pre t).filter (fun x => decide (x.v > 0)) := List.mem_filter.2 ⟨hx, by simpa using hv⟩
          rw [this] at h2
          exact (List.mem_filter.1 h2).1
        have hxd := dep_parts (rk := rk) t ht x hx'
        rw [dep_eq rk x, if_pos hv] at hxd
        have h1 := hr _ _ hl
        obtain ⟨m, rfl⟩ : ∃ m, n = m + 1 := ⟨n - 1, by omega⟩
        rw [ih m (by omega) y (hb _ _ hl) (by omega)]; simp
      · simp [hv]
/-! ### sizes -/
def sizT (rk : Int → Nat) (b : Bs) (t : Tm) : Int := if (sub (full rk b) t).size > 1000 then 1000 else (sub (full rk b) t).size
def KnG (rk : Int → Nat) (b : Bs) (kn : List (Int × Int)) : Prop := ∀ v s, v > 0 → lookA v kn = some s → s = sizT rk b (vt v)
theorem size_has (hk : ∀ v y, lookB v b = some y → v > 0) : ∀ (n : Nat) (t : Tm) (kn : List (Int × Int)), Pure t → dep rk t ≤ n → KnG rk b kn → ∃ kn', sizeF (n + 1) b t kn = some (sizT rk b t, kn') ∧ KnG rk b kn' := by
  intro n
  induction n using Nat.strongRecOn with
  | _ n ih =>
    intro t kn ht hd hkn
    rw [sizeF]
    by_cases hv : t.v > 0
    · rw [if_pos hv]
      have et := (ht t (parts_self t)).2 hv
      cases hl : lookB t.v b with
      | none =>
        refine ⟨kn, ?_, hkn⟩
        simp only
        unfold sizT
        rw [sub_eq, if_pos hv, full_free hr hb hv hl]
        rfl
      | some x =>
        simp only
        cases hs : lookA t.v kn with
        | some s =>
          refine ⟨kn, ?_, hkn⟩
          simp only
          rw [hkn _ _ hv hs]
          rw [← et]
        | none =>
          simp only
          have h1 := hr _ _ hl
          rw [dep_eq rk t, if_pos hv] at hd
          obtain ⟨m, rfl⟩ : ∃ m, n = m + 1 := ⟨n - 1, by omega⟩
          obtain ⟨kn', h2, h3⟩ := ih m (by omega) x kn (hb _ _ hl) (by omega) hkn
          have e : sizT rk b x = sizT rk b t := by
            unfold sizT
            rw [sub_eq _ t, if_pos hv, full_sat hr hb hk _ _ hl]
          rw [h2]
          refine ⟨putA t.v (sizT rk b x) kn', by rw [e]; simp only [Option.map_some, e], fun v s hv' h => ?_⟩
          rw [lookA_put] at h
          by_cases hvt : v = t.v
          · rw [if_pos hvt] at h
            cases h
            rw [hvt, e, ← et]
          · rw [if_neg hvt] at h; exact h3 v s hv' h
    · rw [if_neg hv]
      rw [dep_eq rk t, if_neg hv] at hd
      obtain ⟨m, rfl⟩ : ∃ m, n = m + 1 := ⟨n - 1, by omega⟩
      have key : ∀ (us : List Tm) (a : Nat) (kn : List (Int × Int)), (∀ u ∈ us, Pure u ∧ dep rk u ≤ m) → KnG rk b kn → ∃ kn', sizeL (sizeF (m + 1) b) us (if (a : Int) > 1000 then 1000 else a) kn = some (if ((a + Tm.size.sizes (subL (full rk b) us) : Nat) : Int) > 1000 then 1000 else ((a + Tm.size.sizes (subL (full rk b) us) : Nat) : Int), kn') ∧ KnG rk b kn' := by
        intro us
        induction us with
        | nil => intro a kn _ h; exact ⟨kn, by simp [sizeL, subL, Tm.size.sizes], h⟩
        | cons u us ihu =>
          intro a kn hu h
          obtain ⟨u1, u2⟩ := hu u (by simp)
          obtain ⟨kn1, h1, h2⟩ := ih m (by omega) u kn u1 u2 h
          obtain ⟨kn2, h3, h4⟩ := ihu (a + (sub (full rk b) u).size) kn1 (fun w hw => hu w (by simp [hw])) h2
          refine ⟨kn2, ?_, h4⟩
          rw [sizeL, h1]
          simp only
          have e : (if 1000 < (if (a : Int) > 1000 then 1000 else (a : Int)) + sizT rk b u then (1000 : Int) else (if (a : Int) > 1000 then 1000 else (a : Int)) + sizT rk b u) = if ((a + (sub (full rk b) u).size : Nat) : Int) > 1000 then 1000 else ((a + (sub (full rk b) u).size : Nat) : Int) := by
            unfold sizT
            split <;> split <;> split <;> (try split) <;> omega
          rw [e, h3, subL, Tm.size.sizes, Nat.add_assoc]
      obtain ⟨kn', h1, h2⟩ := key t.us 1 kn (fun u hu => ⟨ht.kid hu, by have := depL_mem (rk := rk) hu; omega⟩) hkn
      refine ⟨kn', ?_, h2⟩
      have e : sizT rk b t = if ((1 + Tm.size.sizes (subL (full rk b) t.us) : Nat) : Int) > 1000 then 1000 else ((1 + Tm.size.sizes (subL (full rk b) t.us) : Nat) : Int) := by
        unfold sizT
        rw [sub_eq, if_neg hv, Tm.size]
        by_cases h : 1 + Tm.size.sizes (subL (full rk b) t.us) > 1000
        · rw [if_pos h, if_pos (by omega)]
        · rw [if_neg h, if_neg (by omega)]
      rw [e]
      exact h1
end
end Go.Proofs.Ytmeekpinkfpnhab
namespace Go.Proofs.Ytmeekpinkfpnhab
theorem part_size : ∀ t : Tm, ∀ x ∈ parts t, x.size ≤ t.size := by
  refine Tm.ind fun t ih x hx => ?_
  rw [parts_eq, List.mem_append, List.mem_singleton] at hx
  rcases hx with hx | rfl
  · obtain ⟨u, hu, hx⟩ := partsL_mem hx
    have h1 := ih u hu x hx
    have h2 := Tm.size_kid hu
    omega
  · omega
theorem own_mk {g : List Int} {t : Tm} (h1 : form g t = 0) (h2 : t.size ≤ 120) : own g t = 0 := by
  unfold own
  rw [if_neg (by have := count_cap.2 h2; omega)]; exact h1
theorem own_sz {g : List Int} {t : Tm} (h : own g t = 0) : t.size ≤ 120 := count_cap.1 (own_form h).2
theorem own_piece {g : List Int} {t x : Tm} (h : own g t = 0) (hx : x ∈ parts t) : own g x = 0 :=
  own_mk (form_part (own_form h).1 hx) (by have := part_size t x hx; have := own_sz h; omega)
theorem own_var {g : List Int} {t x : Tm} (h : own g t = 0) (hx : x ∈ parts t) (hv : x.v > 0) : own g (vt x.v) = 0 :=
  own_mk (formV (own_form h).1 hx hv) (by simp [Tm.size, Tm.size.sizes])
theorem own_le {g : List Int} {t : Tm} (h : own g t = 0) (hv : t.v > 0) : t.v ≤ 1000 := by
  have h1 := own_each h (parts_self t)
  unfold formOne at h1
  rw [if_pos (by omega)] at h1
  by_cases h2 : t.v < 1 ∨ t.v > 1000
  · rw [if_pos h2] at h1; cases h1
  · omega
def vAll : List Int := (List.range 1001).map fun i : Nat => (i : Int)
theorem own_pool (g : List Int) : Pool (fun t => own g t = 0) vAll where
  pure _ h := own_pure h
  kid t h u hu := own_piece h (parts_kid hu (parts_self u))
  vars t h hv := by
    have := own_le h hv
    exact List.mem_map.2 ⟨t.v.toNat, List.mem_range.2 (by omega), by omega⟩
theorem deps_max (rk : Int → Nat) (b : Bs) : ∃ D, ∀ p ∈ b, dep rk p.2 ≤ D := by
  induction b with
  | nil => exact ⟨0, by simp⟩
  | cons p b ih =>
    obtain ⟨D, hD⟩ := ih
    refine ⟨max D (dep rk p.2), fun q hq => ?_⟩
    rcases List.mem_cons.1 hq with rfl | hq
    · omega
    · have := hD q hq; omega
structure Uni (g : List Int) (s t : Tm) (n : Nat) (b : Bs) (rk : Int → Nat) : Prop where
  one : oneF (n + 1) [] s t = some (true, b)
  inv : Inv (fun t => own g t = 0) b
  hrk : Rk rk b
  sat : ∀ θ, Sat θ b ↔ sub θ s = sub θ t
  ds : dep rk s ≤ n
  db : ∀ p ∈ b, dep rk p.2 ≤ n
theorem unify_plain {g : List Int} {s t : Tm} (hs : own g s = 0) (ht : own g t = 0) : (∃ n b', oneF n [] s t = some (false, b') ∧ ∀ θ, sub θ s ≠ sub θ t) ∨ ∃ n b rk, Uni g s t n b rk := by
  have hi : Inv (fun t => own g t = 0) [] := ⟨by simp, by simp, fun _ => 0, fun v y h => by cases h⟩
  obtain ⟨n, ⟨k, b⟩, h⟩ := one_has (own_pool g) [] (fun _ => 0) s t hi (fun v y h => by cases h) hs ht
  have hok := one_ok (own_pool g) n [] s t _ hi hs ht h
  have hsat : ∀ θ, Sat θ [] := fun θ v y h => by cases h
  cases k with
  | false => exact .inl ⟨n, b, h, fun θ => hok.2 rfl θ (hsat θ)⟩
  | true =>
    obtain ⟨h1, h2, _⟩ := hok.1 rfl
    obtain ⟨rk, hr⟩ := h1.rk
    obtain ⟨D, hD⟩ := deps_max rk b
    refine .inr ⟨max n (max D (dep rk s)), b, rk, one_more (by omega) h, h1, hr, fun θ => ?_, by omega, fun p hp => by have := hD p hp; omega⟩
    rw [h2]
    exact ⟨fun h => h.2, fun h => ⟨hsat θ, h⟩⟩
def uniB (n : Nat) (b : Bs) : Bs := sortB (b.map fun p => (p.1, thruT (n + 1) b p.2))
theorem sortB_mem {b : Bs} {p : Int × Tm} : p ∈ sortB b ↔ p ∈ b := (List.mergeSort_perm b _).mem_iff
theorem sortB_nodup {b : Bs} (h : (b.map (·.1)).Nodup) : ((sortB b).map (·.1)).Nodup := (((List.mergeSort_perm b fun p q : Int × Tm => decide (p.1 ≤ q.1)).map (·.1)).nodup_iff).2 h
theorem lookB_sort {b : Bs} (h : (b.map (·.1)).Nodup) (v : Int) : lookB v (sortB b) = lookB v b := by
  cases hl : lookB v b with
  | some y =>
    obtain ⟨p, hp, h1, h2⟩ := lookB_mem hl
    rw [← h1, ← h2]
    exact lookB_of (sortB_nodup h) (sortB_mem.2 hp)
  | none =>
    refine lookB_not fun hm => ?_
    obtain ⟨p, hp, h1⟩ := List.mem_map.1 hm
    have := lookB_of h (sortB_mem.1 hp)
    rw [h1, hl] at this; cases this
theorem sortB_rises {b : Bs} (h : (b.map (·.1)).Nodup) : (sortB b).Pairwise fun p q => p.1 < q.1 := by
  have s1 : (sortB b).Pairwise fun p q => decide (p.1 ≤ q.1) = true := List.pairwise_mergeSort (le := fun p q : Int × Tm => decide (p.1 ≤ q.1)) (fun a b c h1 h2 => by simp at h1 h2 ⊢; omega) (fun a b => by simp; omega) b
  have s2 := sortB_nodup h
  rw [List.Nodup, List.pairwise_map] at s2
  have := s1.and s2
  exact this.imp fun ⟨h1, h2⟩ => by simp at h1; omega
theorem bOkL_mk {g : List Int} : ∀ {b : Bs} {prev : Option Int}, (∀ p ∈ b, own g p.2 = 0 ∧ 1 ≤ p.1 ∧ p.1 ≤ 1000) → (∀ v, prev = some v → ∀ p ∈ b, v < p.1) → b.Pairwise (fun p q => p.1 < q.1) → bOkL g prev b = 0
  | [], _, _, _, _ => by rw [bOkL]
  | q :: b, prev, h1, h2, h3 => by
    obtain ⟨o1, o2, o3⟩ := h1 q (by simp)
    rw [List.pairwise_cons] at h3
    have e : bAt g prev q = 0 := by
      unfold bAt
      rw [if_neg (by omega)]
      cases prev with
      | none => simpa using o1
      | some v => have := h2 v rfl q (by simp); simp only; rw [if_neg (by simp; omega)]; exact o1
    rw [bOkL, if_neg (by simp [e])]
    exact bOkL_mk (fun p hp => h1 p (by simp [hp])) (fun v hv p hp => by cases hv; exact h3.1 p hp) h3.2
theorem bOk_sort {g : List Int} {b : Bs} (hg : sigOk g = 0) (hn : (b.map (·.1)).Nodup) (h : ∀ p ∈ b, own g p.2 = 0 ∧ 1 ≤ p.1 ∧ p.1 ≤ 1000) : bOk g (sortB b) = 0 := by
  unfold bOk
  rw [if_neg (by simp [hg])]
  exact bOkL_mk (fun p hp => h p (sortB_mem.1 hp)) (fun v hv => by cases hv) (sortB_rises hn)
theorem sub_sbOf {b b' : Bs} (h : ∀ v, v > 0 → lookB v b = lookB v b') (t : Tm) : sub (sbOf b) t = sub (sbOf b') t := sub_congr t fun x _ hv => by unfold sbOf; rw [h x.v hv]
section
variable {g : List Int} {s t : Tm} {n : Nat} {b : Bs} {rk : Int → Nat} (U : Uni g s t n b rk)
include U
theorem Uni.pure {v : Int} {y : Tm} (h : lookB v b = some y) : Pure y := own_pure (U.inv.look h)
theorem Uni.pos {v : Int} {y : Tm} (h : lookB v b = some y) : v > 0 := by
  obtain ⟨p, hp, h1, _⟩ := lookB_mem h
  rw [← h1]; exact (U.inv.val p hp).2.1
theorem Uni.keys {p : Int × Tm} (hp : p ∈ b) : 1 ≤ p.1 ∧ p.1 ≤ 1000 := by
  obtain ⟨_, h1, h2⟩ := U.inv.val p hp
  have := own_le h2 h1
  exact ⟨by omega, this⟩
theorem Uni.thru {p : Int × Tm} (hp : p ∈ b) : thruT (n + 1) b p.2 = sub (full rk b) p.2 := thru_full U.hrk (fun _ _ h => U.pure h) n p.2 (own_pure (U.inv.val p hp).1) (U.db p hp)
theorem Uni.ok {p : Int × Tm} (hp : p ∈ b) : thruOk (n + 1) b p.2 = true := thruOk_dep U.hrk (fun _ _ h => U.pure h) n p.2 (own_pure (U.inv.val p hp).1) (U.db p hp)
theorem Uni.nd' : ((b.map fun p => (p.1, thruT (n + 1) b p.2)).map (·.1)).Nodup := by
  have := U.inv.nd
  rw [List.map_map]; exact this
theorem Uni.sb {t : Tm} : sub (sbOf (uniB n b)) t = sub (full rk b) t := by
  refine sub_congr t fun x _ hv => ?_
  unfold sbOf uniB
  rw [lookB_sort U.nd']
  cases hl : lookB x.v b with
  | none =>
    rw [full_free U.hrk (fun _ _ h => U.pure h) hv hl, lookB_not]
    · rfl
    · intro hm
      obtain ⟨q, hq, h1⟩ := List.mem_map.1 hm
      obtain ⟨p, hp, rfl⟩ := List.mem_map.1 hq
      have := lookB_of U.inv.nd hp
      simp only at h1
      rw [h1, hl] at this; cases this
  | some y =>
    obtain ⟨p, hp, h1, h2⟩ := lookB_mem hl
    have h3 : lookB x.v (b.map fun p => (p.1, thruT (n + 1) b p.2)) = some (thruT (n + 1) b p.2) := by
      have := lookB_of U.nd' (p := (p.1, thruT (n + 1) b p.2)) (List.mem_map.2 ⟨p, hp, rfl⟩)
      rw [← h1]; exact this
    rw [h3, U.thru hp, full_sat U.hrk (fun _ _ h => U.pure h) (fun _ _ h => U.pos h) _ _ hl, h2]
    rfl
theorem Uni.same : sub (full rk b) s = sub (full rk b) t := (U.sat _).1 (full_sat U.hrk (fun _ _ h => U.pure h) (fun _ _ h => U.pos h))
theorem Uni.most {θ : Int → Tm} (h : sub θ s = sub θ t) (x : Tm) (hx : Pure x) : sub θ (sub (full rk b) x) = sub θ x := full_most U.hrk (fun _ _ h => U.pure h) (fun _ _ h => U.pos h) ((U.sat θ).2 h) _ x hx (Nat.le_refl _)
theorem Uni.fm {x : Tm} (hx : form g x = 0) (hp : Pure x) : form g (sub (full rk b) x) = 0 := by
  have key : ∀ (m : Nat) (x : Tm), form g x = 0 → Pure x → dep rk x ≤ m → form g (sub (full rk b) x) = 0 := by
    intro m
    induction m using Nat.strongRecOn with
    | _ m ih =>
      intro x hx hp hd
      refine form_sub x hx fun z hz hv => ?_
      have hzd := dep_parts (rk := rk) x hp z hz
      rw [dep_eq rk z, if_pos hv] at hzd
      cases hl : lookB z.v b with
      | none => rw [full_free U.hrk (fun _ _ h => U.pure h) hv hl]; exact formV hx hz hv
      | some y =>
        have h1 := U.hrk _ _ hl
        rw [full_sat U.hrk (fun _ _ h => U.pure h) (fun _ _ h => U.pos h) _ _ hl]
        exact ih (dep rk y) (by omega) y (own_form (U.inv.look hl)).1 (U.pure hl) (Nat.le_refl _)
  exact key _ x hx hp (Nat.le_refl _)
theorem Uni.bok (hg : sigOk g = 0) (hz : ∀ p ∈ b, (sub (full rk b) p.2).size ≤ 120) : bOk g (uniB n b) = 0 := by
  refine bOk_sort hg U.nd' fun q hq => ?_
  obtain ⟨p, hp, rfl⟩ := List.mem_map.1 hq
  simp only
  rw [U.thru hp]
  have h1 := (U.inv.val p hp).1
  exact ⟨own_mk (U.fm (own_form h1).1 (own_pure h1)) (hz p hp), U.keys hp⟩
end
theorem size_le {rk : Int → Nat} {b : Bs} {t : Tm} : sizT rk b t ≤ 120 ↔ (sub (full rk b) t).size ≤ 120 := by
  unfold sizT; split <;> omega
/-! ### what is matched -/
theorem put_nodup {b : Bs} {v : Int} {t : Tm} (h : (b.map (·.1)).Nodup) (hn : lookB v b = none) : ((b ++ [(v, t)]).map (·.1)).Nodup := by
  rw [List.map_append, List.nodup_append]
  refine ⟨h, by simp, fun a ha c hc e => ?_⟩
  simp at hc
  subst hc; subst e
  obtain ⟨p, hp, h1⟩ := List.mem_map.1 ha
  have := lookB_of h hp
  rw [h1, hn] at this; cases this
mutual
theorem meet_keys : ∀ (p t : Tm) (b : Bs), (b.map (·.1)).Nodup → ((meet p t b).2.map (·.1)).Nodup ∧ ∀ q ∈ (meet p t b).2, q ∈ b ∨ ∃ x ∈ parts p, x.v > 0 ∧ q.1 = x.v
  | .mk v f us, t, b, h => by
    rw [meet]
    by_cases hv : v > 0
    · rw [if_pos hv]
      cases hb : lookB v b with
      | some u => exact ⟨h, fun q hq => .inl hq⟩
      | none =>
        refine ⟨put_nodup h hb, fun q hq => ?_⟩
        rcases List.mem_append.1 hq with hq | hq
        · exact .inl hq
        · rw [List.mem_singleton.1 hq]
          exact .inr ⟨_, parts_self _, hv, rfl⟩
    · rw [if_neg hv]
      split
      · obtain ⟨h1, h2⟩ := meetL_keys us t.us b h
        refine ⟨h1, fun q hq => ?_⟩
        rcases h2 q hq with h3 | ⟨x, hx, h3⟩
        · exact .inl h3
        · exact .inr ⟨x, by rw [parts]; exact List.mem_append_left _ hx, h3⟩
      · exact ⟨h, fun q hq => .inl hq⟩
theorem meetL_keys : ∀ (xs ys : List Tm) (b : Bs), (b.map (·.1)).Nodup → ((meetL xs ys b).2.map (·.1)).Nodup ∧ ∀ q ∈ (meetL xs ys b).2, q ∈ b ∨ ∃ x ∈ partsL xs, x.v > 0 ∧ q.1 = x.v
  | [], ys, b, h => by rw [meetL]; exact ⟨h, fun q hq => .inl hq⟩; intro x xs y ys h1; cases h1
  | x :: xs, [], b, h => by rw [meetL]; exact ⟨h, fun q hq => .inl hq⟩; intro x xs y ys _ h1; cases h1
  | x :: xs, y :: ys, b, h => by
    rw [meetL]
    obtain ⟨h1, h2⟩ := meet_keys x y b h
    split
    · obtain ⟨h3, h4⟩ := meetL_keys xs ys _ h1
      refine ⟨h3, fun q hq => ?_⟩
      rcases h4 q hq with h5 | ⟨z, hz, h5⟩
      · rcases h2 q h5 with h6 | ⟨z, hz, h6⟩
        · exact .inl h6
        · exact .inr ⟨z, by rw [partsL]; exact List.mem_append_left _ hz, h6⟩
      · exact .inr ⟨z, by rw [partsL]; exact List.mem_append_right _ hz, h5⟩
    · refine ⟨h1, fun q hq => ?_⟩
      rcases h2 q hq with h6 | ⟨z, hz, h6⟩
      · exact .inl h6
      · exact .inr ⟨z, by rw [partsL]; exact List.mem_append_left _ hz, h6⟩
end
theorem match_plain {g : List Int} {s t : Tm} (hg : sigOk g = 0) (hs : own g s = 0) (ht : own g t = 0) {m : Bs} (h : meet s t [] = (true, m)) : (m.map (·.1)).Nodup ∧ (∀ p ∈ m, 1 ≤ p.1 ∧ p.1 ≤ 1000) ∧ (∀ p ∈ m, own g p.2 = 0) ∧ bOk g (sortB m) = 0 ∧ sub (sbOf (sortB m)) s = t := by
  have e : (meet s t []).2 = m := by rw [h]
  obtain ⟨h1, h2⟩ := meet_keys s t [] (by simp)
  rw [e] at h1 h2
  have h3 : ∀ p ∈ m, 1 ≤ p.1 ∧ p.1 ≤ 1000 := fun p hp => by
    rcases h2 p hp with h | ⟨x, hx, hv, h⟩
    · cases h
    · have := own_le (own_piece hs hx) hv; omega
  have h4 : ∀ p ∈ m, own g p.2 = 0 := fun p hp => by
    rcases meet_mem s t [] p (by rw [e]; exact hp) with h | h
    · cases h
    · exact own_piece ht h
  refine ⟨h1, h3, h4, bOk_sort hg h1 fun p hp => ⟨h4 p hp, h3 p hp⟩, ?_⟩
  rw [sub_sbOf (fun v _ => lookB_sort h1 v)]
  exact (meet_sound s t [] (own_pure hs).nn (by rw [h]) (by rw [e]; exact sbOf_ext m)).2
theorem applied_plain {g : List Int} {b : Bs} {t : Tm} (ht : own g t = 0) : (apS b (parts t) > 120 ↔ (sub (sbOf b) t).size > 120) ∧ applyR b t = sub (sbOf b) t := by
  have e := applyR_sub b t (own_pure ht)
  refine ⟨?_, e⟩
  have := apS_cap (bs := b) (own_good ht)
  rw [e] at this
  omega
end Go.Proofs.Ytmeekpinkfpnhab
namespace Go.Proofs.Ytmeekpinkfpnhab
open Go.RowKit
theorem ans_ok {g : List Int} {b : Bs} {t : Tm} (hk : bOk g b = 0) (ht : own g t = 0) : applyAns g b t = if (sub (sbOf b) t).size > 120 then (tm0, 2) else (sub (sbOf b) t, 0) := by
  unfold applyAns
  rw [if_neg (by simp [hk]), if_neg (by simp [ht])]
  unfold rawAns
  obtain ⟨h1, h2⟩ := applied_plain (b := b) ht
  rw [apS_pre, made_apply b t (own_good ht), h2]
  by_cases h : (sub (sbOf b) t).size > 120
  · rw [if_pos h, if_pos (h1.2 h)]
  · rw [if_neg h, if_neg (fun e => h (h1.1 e))]
theorem ans_zero {g : List Int} {b : Bs} {t : Tm} (ht : own g t = 0) (h : (applyAns g b t).2 = 0) : bOk g b = 0 ∧ (applyAns g b t).1 = sub (sbOf b) t ∧ (sub (sbOf b) t).size ≤ 120 := by
  by_cases hk : bOk g b = 0
  · rw [ans_ok hk ht] at h ⊢
    by_cases h2 : (sub (sbOf b) t).size > 120
    · rw [if_pos h2] at h; simp at h
    · rw [if_neg h2]; exact ⟨hk, rfl, by omega⟩
  · unfold applyAns at h
    rw [if_pos hk] at h; exact absurd h hk
theorem few_keys {b : Bs} (hn : (b.map (·.1)).Nodup) (h : ∀ p ∈ b, 1 ≤ p.1 ∧ p.1 ≤ 1000) : b.length ≤ 1000 := by
  have := nodup_le 1000 (b.map (·.1)) hn fun v hv => by
    obtain ⟨p, hp, rfl⟩ := List.mem_map.1 hv
    exact h p hp
  rwa [List.length_map] at this
section
variable {g : List Int} {s t : Tm} (he : allOk g [s, t] = 0) (hg : sigOk g = 0) (hs : own g s = 0) (ht : own g t = 0)
include he hg hs ht
theorem match_both : Tri Try.prog 15 [.d (sgDV g), .d (tmDV s), .d (tmDV t)] (pure' (.tup [.d (.sl []), bA false, iA 0])) ∨
    ∃ m : Bs, Tri Try.prog 15 [.d (sgDV g), .d (tmDV s), .d (tmDV t)] (pure' (.tup [.d (bsDV m), bA true, iA 0])) ∧ Tri Try.prog 8 [.d (sgDV g), .d (bsDV m), .d (tmDV s)] (pure' (.tup [.d (tmDV t), iA 0])) := by
  have h1 := own_sz hs
  have h2 := own_sz ht
  cases hm : meet s t [] with
  | mk k m =>
    cases k with
    | false => exact .inl (matchF_tri g s t he (by omega) (by rw [hm]))
    | true =>
      obtain ⟨m1, m2, m3, m4, m5⟩ := match_plain hg hs ht hm
      have hl := few_keys m1 m2
      refine .inr ⟨sortB m, matchT_tri g s t he (by omega) m hm (by omega) m1 (fun p hp => by have := m2 p hp; omega) (fun p hp => by have := own_sz (m3 p hp); omega), ?_⟩
      have v := sapply_tri g (sortB m) s (by rw [sortB_len]; omega)
      rw [ans_ok m4 hs, m5, if_neg (by omega)] at v
      exact v
theorem unify_all : (Tri Try.prog 16 [.d (sgDV g), .d (tmDV s), .d (tmDV t)] (pure' (.tup [.d (.sl []), bA false, iA 0])) ∧ ∀ θ, sub θ s ≠ sub θ t) ∨
    Tri Try.prog 16 [.d (sgDV g), .d (tmDV s), .d (tmDV t)] (pure' (.tup [.d (.sl []), bA false, iA 2])) ∨
    ∃ (u : Bs) (p : Tm), Tri Try.prog 16 [.d (sgDV g), .d (tmDV s), .d (tmDV t)] (pure' (.tup [.d (bsDV u), bA true, iA 0])) ∧ Tri Try.prog 8 [.d (sgDV g), .d (bsDV u), .d (tmDV s)] (pure' (.tup [.d (tmDV p), iA 0])) ∧
      Tri Try.prog 8 [.d (sgDV g), .d (bsDV u), .d (tmDV t)] (pure' (.tup [.d (tmDV p), iA 0])) ∧ own g p = 0 ∧ ∀ θ, sub θ s = sub θ t → sub θ p = sub θ s := by
  rcases unify_plain hs ht with ⟨n, b, h1, h2⟩ | ⟨n, b, rk, U⟩
  · exact .inl ⟨unifyF_tri g s t he 0 (bothF_tri n s t b h1), h2⟩
  · have hpure : ∀ v y, lookB v b = some y → Pure y := fun v y h => U.pure h
    have hpos : ∀ v y, lookB v b = some y → v > 0 := fun v y h => U.pos h
    have hl := few_keys U.inv.nd fun p hp => U.keys hp
    have hsz : ∀ x, Pure x → dep rk x ≤ n → ∀ kn, (KnG rk b kn ∧ KnOk kn) → ∃ kn', (KnG rk b kn' ∧ KnOk kn') ∧ sizeF (n + 1) b x kn = some (sizT rk b x, kn') := fun x hx hd kn hk => by
      obtain ⟨kn', k1, k2⟩ := size_has U.hrk hpure hpos n x kn hx hd hk.1
      exact ⟨kn', ⟨k2, (sizeF_bd b (n + 1) x kn _ hk.2 k1).2⟩, k1⟩
    have hK0 : KnG rk b [] ∧ KnOk [] := ⟨fun v s _ h => (by cases h), fun p hp => (by cases hp)⟩
    have hKb : ∀ kn, (KnG rk b kn ∧ KnOk kn) → KnOk kn := fun kn h => h.2
    have hbp : ∀ p ∈ b, Pure p.2 := fun p hp => own_pure (U.inv.val p hp).1
    cases hgr : greatB (sizT rk b) s b with
    | true =>
      exact .inr (.inl (unifyF_tri g s t he 2 (bothM_tri (n + 1) s t b U.one (by omega) (sizT rk b) (fun kn => KnG rk b kn ∧ KnOk kn) hK0 hKb (hsz s (own_pure hs) U.ds) (fun p hp => hsz p.2 (hbp p hp) (U.db p hp)) hgr)))
    | false =>
      have hz : (sub (full rk b) s).size ≤ 120 ∧ ∀ p ∈ b, (sub (full rk b) p.2).size ≤ 120 := by
        unfold greatB at hgr
        rw [Bool.or_eq_false_iff, List.any_eq_false] at hgr
        refine ⟨size_le.1 (by have := hgr.1; simp at this; omega), fun p hp => size_le.1 (by have := hgr.2 p hp; simp at this; omega)⟩
      have hB : ∀ n', Tri Try.prog 46 [.d (tmDV s), .d (tmDV t)] (bagE n' (bsE (thruB (n + 1) b)) (.tup [.map n', bA true, iA 0])) := fun n' =>
        bothT_tri (n + 1) s t b U.one (by omega) (sizT rk b) (fun kn => KnG rk b kn ∧ KnOk kn) hK0 hKb (hsz s (own_pure hs) U.ds) (fun p hp => hsz p.2 (hbp p hp) (U.db p hp)) U.inv.nd (fun p hp => by have := own_sz (U.inv.val p hp).1; omega) (n + 1) (fun p hp => U.ok hp) hgr n'
      have hu := unifyT_tri g s t he (thruB (n + 1) b) (by unfold thruB; rw [List.length_map]; omega) U.nd'
        (fun q hq => by obtain ⟨p, hp, rfl⟩ := List.mem_map.1 hq; have := U.keys hp; simp only; omega)
        (fun q hq => by obtain ⟨p, hp, rfl⟩ := List.mem_map.1 hq; simp only; rw [U.thru hp]; have := hz.2 p hp; omega) hB
      have hk := U.bok hg hz.2
      have hlen : (uniB n b).length ≤ 4000000 := by unfold uniB; rw [sortB_len, List.length_map]; omega
      have a1 := sapply_tri g (uniB n b) s hlen
      have a2 := sapply_tri g (uniB n b) t hlen
      rw [ans_ok hk hs, U.sb, if_neg (by have := hz.1; omega)] at a1
      rw [ans_ok hk ht, U.sb, ← U.same, if_neg (by have := hz.1; omega)] at a2
      exact .inr (.inr ⟨uniB n b, sub (full rk b) s, hu, a1, a2, own_mk (U.fm (own_form hs).1 (own_pure hs)) hz.1, fun θ h => U.most h s (own_pure hs)⟩)
end
end Go.Proofs.Ytmeekpinkfpnhab
