/- Models: what is plain. No program in sight. Values of terms in models: what is plain. No program in sight. Clauses in models: what is plain. No program in sight. clause.Neat, clause.Tidy. superposeref.FirstVars. -/
import Derived.Test.YtmeekpinkfpnhaaB05
import Derived.Test.YtmeekpinkfpnhaaB08
import Derived.Test.YtmeekpinkfpnhaaB09
set_option linter.unusedSimpArgs false
set_option linter.unusedSectionVars false
set_option linter.unusedVariables false
set_option linter.unnecessarySimpa false
set_option linter.all false
namespace Go.Proofs.Ytmeekpinkfpnhaa
theorem pw3 {n : Int} (h1 : 1 ≤ n) (h3 : n ≤ 3) : ∀ i : Nat, 1 ≤ n ^ i ∧ n ^ i ≤ 3 ^ i
  | 0 => by simp
  | i + 1 => by
    obtain ⟨h4, h5⟩ := pw3 h1 h3 i
    rw [Int.pow_succ, Int.pow_succ]
    have : n = 1 ∨ n = 2 ∨ n = 3 := by omega
    rcases this with rfl | rfl | rfl <;> omega
theorem pw_le {n : Int} (h1 : 1 ≤ n) (h3 : n ≤ 3) {i : Nat} (hi : i ≤ 8) : 1 ≤ n ^ i ∧ n ^ i ≤ 6561 := by
  obtain ⟨h4, h5⟩ := pw3 h1 h3 i
  refine ⟨h4, Int.le_trans h5 ?_⟩
  have : i = 0 ∨ i = 1 ∨ i = 2 ∨ i = 3 ∨ i = 4 ∨ i = 5 ∨ i = 6 ∨ i = 7 ∨ i = 8 := by omega
  rcases this with rfl | rfl | rfl | rfl | rfl | rfl | rfl | rfl | rfl <;> decide
def rowsBad (sz : Int) : List Int → List (List Int) → Bool
  | n :: g, r :: tb => ((r.length : Int) != sz ^ n.toNat) || rowsBad sz g tb
  | _, _ => false
theorem rowsBad_at {sz : Int} {g : List Int} {tb : List (List Int)} {i : Nat} (hi : i < g.length) (hi' : i < tb.length) : rowsBad sz (g.drop i) (tb.drop i) = (((tb[i].length : Int) != sz ^ g[i].toNat) || rowsBad sz (g.drop (i + 1)) (tb.drop (i + 1))) := by
  rw [List.drop_eq_getElem_cons hi, List.drop_eq_getElem_cons hi', rowsBad]
theorem rowsBad_end {sz : Int} {g : List Int} {tb : List (List Int)} {i : Nat} (hi' : tb.length ≤ i) : rowsBad sz (g.drop i) (tb.drop i) = false := by
  rw [List.drop_eq_nil_of_le hi']
  cases g.drop i <;> rfl
def outOf (sz n : Int) : Bool := decide (n < 0) || decide (n ≥ sz)
def mdOk (g : List Int) (sz : Int) (tb : List (List Int)) : Int :=
  if sigOk g ≠ 0 then sigOk g else if sz < 1 ∨ sz > 3 then 3 else if tb.length ≠ g.length then 1 else if rowsBad sz g tb = true then 1 else if (tb.any fun r => r.any (outOf sz)) = true then 5 else 0
theorem sig_each {g : List Int} (h : sigOk g = 0) : ∀ n ∈ g, 0 ≤ n ∧ n ≤ 3 := by
  unfold sigOk at h
  split at h
  · cases h
  · split at h
    · cases h
    · rename_i hn
      intro n hn'
      have : ¬ ((n < 0 || n > 3) = true) := fun hc => hn (List.any_eq_true.2 ⟨n, hn', by simpa using hc⟩)
      simp at this
      omega
theorem sig_len {g : List Int} (h : sigOk g = 0) : g.length ≤ 12 := by
  unfold sigOk at h
  split at h
  · cases h
  · omega
theorem rowsBad_all {sz : Int} : ∀ {g : List Int} {tb : List (List Int)}, rowsBad sz g tb = false → ∀ (i : Nat) (h : i < g.length) (h' : i < tb.length), (tb[i].length : Int) = sz ^ g[i].toNat
  | n :: g, r :: tb, h, i, hi, hi' => by
    rw [rowsBad, Bool.or_eq_false_iff] at h
    cases i with
    | zero => simpa using h.1
    | succ i => simpa using rowsBad_all h.2 i (by simpa using hi) (by simpa using hi')
theorem mdOk_all {g : List Int} {sz : Int} {tb : List (List Int)} (h : mdOk g sz tb = 0) : sigOk g = 0 ∧ 1 ≤ sz ∧ sz ≤ 3 ∧ tb.length = g.length ∧ rowsBad sz g tb = false ∧ ∀ r ∈ tb, ∀ n ∈ r, 0 ≤ n ∧ n < sz := by
  unfold mdOk at h
  by_cases h1 : sigOk g = 0
  · rw [if_neg (by simp [h1])] at h
    by_cases h2 : sz < 1 ∨ sz > 3
    · rw [if_pos h2] at h; cases h
    · rw [if_neg h2] at h
      by_cases h3 : tb.length = g.length
      · rw [if_neg (by simp [h3])] at h
        cases h4 : rowsBad sz g tb with
        | true => rw [h4] at h; simp at h
        | false =>
          rw [h4] at h
          simp only [Bool.false_eq_true, if_false] at h
          cases h5 : tb.any fun r => r.any (outOf sz) with
          | true => rw [h5] at h; simp at h
          | false =>
            refine ⟨h1, by omega, by omega, h3, rfl, fun r hr n hn => ?_⟩
            have h6 := List.any_eq_false.1 h5 r hr
            simp only [Bool.not_eq_true] at h6
            have h7 := List.any_eq_false.1 h6 n hn
            simp [outOf] at h7
            omega
      · rw [if_pos (by simpa using h3)] at h; cases h
  · rw [if_pos (by simpa using h1)] at h; exact absurd h h1
end Go.Proofs.Ytmeekpinkfpnhaa
namespace Go.Proofs.Ytmeekpinkfpnhaa
mutual
def valM (sz : Int) (tb : List (List Int)) (vs : Int → Int) : Tm → Int
  | .mk v f us => if v > 0 then vs v else (tb.getD f.toNat []).getD (valL sz tb vs us 0).toNat 0
def valL (sz : Int) (tb : List (List Int)) (vs : Int → Int) : List Tm → Int → Int
  | [], a => a
  | x :: xs, a => valL sz tb vs xs (a * sz + valM sz tb vs x)
end
theorem valM_eq (sz : Int) (tb : List (List Int)) (vs : Int → Int) (t : Tm) : valM sz tb vs t = if t.v > 0 then vs t.v else (tb.getD t.f.toNat []).getD (valL sz tb vs t.us 0).toNat 0 := by cases t; rw [valM]; rfl
theorem valL_at {sz : Int} {tb : List (List Int)} {vs : Int → Int} {us : List Tm} {i : Nat} (hi : i < us.length) (a : Int) : valL sz tb vs (us.drop i) a = valL sz tb vs (us.drop (i + 1)) (a * sz + valM sz tb vs us[i]) := by
  rw [List.drop_eq_getElem_cons hi, valL]
theorem valL_take {sz : Int} {tb : List (List Int)} {vs : Int → Int} : ∀ {us : List Tm} {i : Nat} (hi : i < us.length) (a : Int), valL sz tb vs (us.take (i + 1)) a = valL sz tb vs (us.take i) a * sz + valM sz tb vs us[i]
  | x :: xs, 0, _, a => by simp [valL]
  | x :: xs, i + 1, hi, a => by
    rw [List.take_succ_cons, List.take_succ_cons, valL, valL]
    exact valL_take (by simpa using hi) _
def Fine (g : List Int) (sz : Int) (vs : Int → Int) (l : List Tm) : Prop := ∀ x ∈ l, formOne g x.v x.f x.us.length = 0 ∧ (x.v > 0 → 0 ≤ vs x.v ∧ vs x.v < sz)
section
variable {g : List Int} {sz : Int} {tb : List (List Int)} {vs : Int → Int} (hm : mdOk g sz tb = 0)
include hm
theorem md_row {f : Int} (h0 : 0 ≤ f) (h1 : f < g.length) : ∃ h : f.toNat < tb.length, (tb[f.toNat].length : Int) = sz ^ (g.getD f.toNat 0).toNat ∧ ∀ n ∈ tb[f.toNat], 0 ≤ n ∧ n < sz := by
  obtain ⟨h2, h3, h4, h5, h6, h7⟩ := mdOk_all hm
  have h : f.toNat < g.length := by omega
  refine ⟨by omega, ?_, h7 _ (List.getElem_mem _)⟩
  rw [rowsBad_all h6 f.toNat h (by omega), getD_at h]
mutual
theorem valM_ok : ∀ t : Tm, Fine g sz vs (parts t) → 0 ≤ valM sz tb vs t ∧ valM sz tb vs t < sz
  | .mk v f us, hf => by
    have h0 := hf (.mk v f us) (by rw [parts]; simp)
    simp only [Tm.v, Tm.f, Tm.us] at h0
    obtain ⟨h1, h2⟩ := h0
    rw [valM]
    by_cases hv : v > 0
    · rw [if_pos hv]; exact h2 hv
    · rw [if_neg hv]
      have hL := valL_ok us 0 0 (fun x hx => hf x (by rw [parts]; exact List.mem_append_left _ hx)) (by omega) (by simp)
      have hv0 := formOne_v h1
      unfold formOne at h1
      rw [if_neg (by omega)] at h1
      split at h1
      · cases h1
      · split at h1
        · cases h1
        · rename_i h3 h4
          simp only [Nat.zero_add] at hL
          obtain ⟨h5, h6, h7⟩ := md_row hm (f := f) (by omega) (by omega)
          rw [getD_at h5]
          have h8 : (g.getD f.toNat 0).toNat = us.length := by have h4 := Decidable.not_not.1 h4; omega
          rw [h8] at h6
          have h9 : (valL sz tb vs us 0).toNat < tb[f.toNat].length := by omega
          rw [getD_at h9]
          exact h7 _ (List.getElem_mem _)
theorem valL_ok : ∀ (us : List Tm) (a : Int) (j : Nat), Fine g sz vs (partsL us) → 0 ≤ a → a < sz ^ j → 0 ≤ valL sz tb vs us a ∧ valL sz tb vs us a < sz ^ (j + us.length)
  | [], a, j, _, h0, h1 => by rw [valL]; exact ⟨h0, by simpa using h1⟩
  | x :: xs, a, j, hf, h0, h1 => by
    have hx := valM_ok x fun y hy => hf y (by rw [partsL]; exact List.mem_append_left _ hy)
    obtain ⟨_, h3, h4, _⟩ := mdOk_all hm
    rw [valL]
    have := valL_ok xs (a * sz + valM sz tb vs x) (j + 1) (fun y hy => hf y (by rw [partsL]; exact List.mem_append_right _ hy))
      (by have : sz = 1 ∨ sz = 2 ∨ sz = 3 := by omega
          rcases this with rfl | rfl | rfl <;> omega)
      (by rw [Int.pow_succ]
          generalize sz ^ j = p at *
          have : sz = 1 ∨ sz = 2 ∨ sz = 3 := by omega
          rcases this with rfl | rfl | rfl <;> omega)
    rw [List.length_cons, show j + (xs.length + 1) = j + 1 + xs.length by omega]
    exact this
end
end
mutual
theorem valM_congr {sz : Int} {tb : List (List Int)} {vs vs' : Int → Int} : ∀ t : Tm, (∀ x ∈ parts t, x.v > 0 → vs x.v = vs' x.v) → valM sz tb vs t = valM sz tb vs' t
  | .mk v f us, h => by
    rw [valM, valM]
    by_cases hv : v > 0
    · rw [if_pos hv, if_pos hv]; exact h (.mk v f us) (by rw [parts]; simp) hv
    · rw [if_neg hv, if_neg hv, valL_congr us 0 fun x hx => h x (by rw [parts]; exact List.mem_append_left _ hx)]
theorem valL_congr {sz : Int} {tb : List (List Int)} {vs vs' : Int → Int} : ∀ (us : List Tm) (a : Int), (∀ x ∈ partsL us, x.v > 0 → vs x.v = vs' x.v) → valL sz tb vs us a = valL sz tb vs' us a
  | [], a, _ => rfl
  | x :: xs, a, h => by
    rw [valL, valL, valM_congr x fun y hy => h y (by rw [partsL]; exact List.mem_append_left _ hy)]
    exact valL_congr xs _ fun y hy => h y (by rw [partsL]; exact List.mem_append_right _ hy)
end
theorem parts_sub {t u : Tm} (hu : u ∈ t.us) : ∀ x ∈ parts u, x ∈ parts t := fun x hx => by
  rw [parts_eq]
  refine List.mem_append_left _ ?_
  obtain ⟨i, hi, rfl⟩ := List.mem_iff_getElem.1 hu
  have h := partsL_take hi
  have h2 : partsL t.us = partsL (t.us.take (i + 1)) ++ partsL (t.us.drop (i + 1)) := by rw [← partsL_append, List.take_append_drop]
  rw [h2, h]
  exact List.mem_append_left _ (List.mem_append_right _ hx)
theorem Fine.take {g : List Int} {sz : Int} {vs : Int → Int} {t : Tm} (h : Fine g sz vs (parts t)) (i : Nat) : Fine g sz vs (partsL (t.us.take i)) := fun x hx => h x (by
  rw [parts_eq]
  refine List.mem_append_left _ ?_
  have h2 : partsL t.us = partsL (t.us.take i) ++ partsL (t.us.drop i) := by rw [← partsL_append, List.take_append_drop]
  rw [h2]; exact List.mem_append_left _ hx)
end Go.Proofs.Ytmeekpinkfpnhaa
namespace Go.Proofs.Ytmeekpinkfpnhaa
def dig (sz : Int) : List Int → Int → Int → Int
  | [], _, _ => 0
  | x :: l, n, v => if v = x then n.tmod sz else dig sz l (n.tdiv sz) v
def litIn (sz : Int) (tb : List (List Int)) (vs : Int → Int) (l : Lt) : Bool := (valM sz tb vs l.a == valM sz tb vs l.b) == l.y
def holdsF (sz : Int) (tb : List (List Int)) (c : List Lt) (names : List Int) (N n : Nat) : Bool := ((List.range N).drop n).all fun i => c.any (litIn sz tb (dig sz names i))
def holdsC (sz : Int) (tb : List (List Int)) (c : List Lt) : Bool := holdsF sz tb c (firstVars (termsOf c)) (sz ^ (firstVars (termsOf c)).length).toNat 0
theorem holdsF_at {sz : Int} {tb : List (List Int)} {c : List Lt} {names : List Int} {N n : Nat} (hn : n < N) : holdsF sz tb c names N n = (c.any (litIn sz tb (dig sz names n)) && holdsF sz tb c names N (n + 1)) := by
  have h : n < (List.range N).length := by simpa using hn
  unfold holdsF
  rw [List.drop_eq_getElem_cons h, List.all_cons, List.getElem_range]
theorem holdsF_end {sz : Int} {tb : List (List Int)} {c : List Lt} {names : List Int} {N n : Nat} (hn : N ≤ n) : holdsF sz tb c names N n = true := by
  unfold holdsF
  rw [List.drop_eq_nil_of_le (by simpa using hn)]; rfl
theorem tmod_in {n sz : Int} (h0 : 0 ≤ n) (h1 : 1 ≤ sz) : 0 ≤ n.tmod sz ∧ n.tmod sz < sz := ⟨Int.tmod_nonneg _ h0, Int.tmod_lt_of_pos _ (by omega)⟩
theorem tdiv_in {n sz : Int} (h0 : 0 ≤ n) (h1 : 1 ≤ sz) : 0 ≤ n.tdiv sz ∧ n.tdiv sz ≤ n := ⟨Int.tdiv_nonneg h0 (by omega), by
  rw [Int.tdiv_eq_ediv_of_nonneg h0]
  exact Int.ediv_le_self _ h0⟩
theorem dig_in {sz : Int} (h1 : 1 ≤ sz) : ∀ (l : List Int) (n v : Int), 0 ≤ n → v ∈ l → 0 ≤ dig sz l n v ∧ dig sz l n v < sz
  | x :: l, n, v, h0, hv => by
    rw [dig]
    by_cases h : v = x
    · rw [if_pos h]; exact tmod_in h0 h1
    · rw [if_neg h]
      exact dig_in h1 l _ v (tdiv_in h0 h1).1 (by rcases List.mem_cons.1 hv with h2 | h2; exact absurd h2 h; exact h2)
theorem fine_lit {g : List Int} {sz : Int} {c : List Lt} {n : Int} (h1 : 1 ≤ sz) (hn : 0 ≤ n) (hc : ∀ l ∈ c, own g l.a = 0 ∧ own g l.b = 0) {l : Lt} (hl : l ∈ c) :
    (Fine g sz (dig sz (firstVars (termsOf c)) n) (parts l.a) ∧ ∀ x ∈ parts l.a, x.v > 0 → x.v ∈ firstVars (termsOf c)) ∧ (Fine g sz (dig sz (firstVars (termsOf c)) n) (parts l.b) ∧ ∀ x ∈ parts l.b, x.v > 0 → x.v ∈ firstVars (termsOf c)) := by
  have key : ∀ t, t ∈ termsOf c → own g t = 0 → Fine g sz (dig sz (firstVars (termsOf c)) n) (parts t) ∧ ∀ x ∈ parts t, x.v > 0 → x.v ∈ firstVars (termsOf c) := by
    intro t ht ho
    have hk : ∀ x ∈ parts t, x.v > 0 → x.v ∈ firstVars (termsOf c) := fun x hx hv => addVs_has (List.mem_flatMap.2 ⟨t, ht, hx⟩) hv
    exact ⟨fun x hx => ⟨own_each ho hx, fun hv => dig_in h1 _ _ _ hn (hk x hx hv)⟩, hk⟩
  exact ⟨key _ (List.mem_flatMap.2 ⟨l, hl, by simp⟩) (hc l hl).1, key _ (List.mem_flatMap.2 ⟨l, hl, by simp⟩) (hc l hl).2⟩
theorem own_vmax {g : List Int} {t : Tm} (ho : own g t = 0) {x : Tm} (hx : x ∈ parts t) (hv : x.v > 0) : x.v ≤ 1000 := by
  have h1 := own_each ho hx
  unfold formOne at h1
  rw [if_pos (by omega)] at h1
  split at h1
  · cases h1
  · omega
theorem termsOf_own {g : List Int} {c : List Lt} (hc : ∀ l ∈ c, own g l.a = 0 ∧ own g l.b = 0) : ∀ t ∈ termsOf c, own g t = 0 := by
  intro t ht
  obtain ⟨l, hl, h⟩ := List.mem_flatMap.1 ht
  simp at h
  rcases h with rfl | rfl
  · exact (hc l hl).1
  · exact (hc l hl).2
theorem names_in {g : List Int} {c : List Lt} (hc : ∀ l ∈ c, own g l.a = 0 ∧ own g l.b = 0) : ∀ v ∈ firstVars (termsOf c), 1 ≤ v ∧ v ≤ 1000 := by
  intro v hv
  rcases addVs_mem hv with h | ⟨x, hx, rfl, h2⟩
  · simp at h
  · obtain ⟨t, ht, hx⟩ := List.mem_flatMap.1 hx
    exact ⟨by omega, own_vmax (termsOf_own hc t ht) hx h2⟩
theorem flat_len (l : List Tm) : (l.flatMap parts).length = Tm.size.sizes l := by
  induction l with
  | nil => rfl
  | cons x xs ih => rw [List.flatMap_cons, List.length_append, ih, Tm.size.sizes, parts_len]
theorem firstVars_len (l : List Tm) : (firstVars l).length ≤ Tm.size.sizes l := by
  have h1 := addVs_len (l.flatMap parts) []
  rw [flat_len] at h1
  simpa [firstVars] using h1
theorem clsOk_one {g : List Int} {c : List Lt} (h : clsOk g [c] = 0) : c.length ≤ 8 ∧ ∀ l ∈ c, own g l.a = 0 ∧ own g l.b = 0 := clOk_all ((clsOk_all h).2.2 c (by simp))
theorem stands_cl {g : List Int} {c : List Lt} (hc : ∀ l ∈ c, own g l.a = 0 ∧ own g l.b = 0) : addVs [] ((termsOf c).flatMap pre) = firstVars (termsOf c) := stands_eq (fun t ht => own_bare (termsOf_own hc t ht)) []
theorem termsOf_size {g : List Int} {c : List Lt} (hc : ∀ l ∈ c, own g l.a = 0 ∧ own g l.b = 0) : Tm.size.sizes (termsOf c) ≤ 240 * c.length := by
  induction c with
  | nil => simp [termsOf, Tm.size.sizes]
  | cons l c ih =>
    have h1 := hc l (by simp)
    have h2 := own_parts h1.1
    have h3 := own_parts h1.2
    have h4 := ih fun x hx => hc x (by simp [hx])
    rw [parts_len] at h2 h3
    have : termsOf (l :: c) = l.a :: l.b :: termsOf c := rfl
    rw [this, Tm.size.sizes, Tm.size.sizes, List.length_cons]
    omega
end Go.Proofs.Ytmeekpinkfpnhaa
namespace Go.Proofs.Ytmeekpinkfpnhaa
open Go.RowKit
structure Small (c : List Lt) : Prop where
  len : c.length ≤ 1000
  a : ∀ l ∈ c, l.a.size ≤ 1000
  b : ∀ l ∈ c, l.b.size ≤ 1000
theorem Small.tail {l : Lt} {c : List Lt} (h : Small (l :: c)) : Small c := ⟨by have := h.len; simp at this; omega, fun x hx => h.a x (by simp [hx]), fun x hx => h.b x (by simp [hx])⟩
theorem small_sizes : ∀ c : List Lt, (∀ l ∈ c, l.a.size ≤ 1000 ∧ l.b.size ≤ 1000) → Tm.size.sizes (termsOf c) ≤ 2000 * c.length
  | [], _ => by simp [termsOf, Tm.size.sizes]
  | l :: c, h => by
    have h1 := h l (by simp)
    have h4 := small_sizes c fun x hx => h x (by simp [hx])
    have : termsOf (l :: c) = l.a :: l.b :: termsOf c := rfl
    rw [this, Tm.size.sizes, Tm.size.sizes, List.length_cons]
    omega
theorem Small.sub {c d : List Lt} (h : Small c) (hl : d.length ≤ c.length) (hm : ∀ l ∈ d, l ∈ c) : Small d := ⟨by have := h.len; omega, fun l hl => h.a l (hm l hl), fun l hl => h.b l (hm l hl)⟩
theorem Small.keep {c : List Lt} (h : Small c) : Small (keepG [] c) := by
  rw [keep_nil]; exact h.sub (keepR_len c []) fun l hl => keepR_mem hl
theorem Small.sizes {c : List Lt} (h : Small c) : Tm.size.sizes (termsOf c) ≤ 4000000 := by
  have := small_sizes c fun l hl => ⟨h.a l hl, h.b l hl⟩
  have := h.len
  omega
theorem Small.vars {c : List Lt} (h : Small c) : (addVs [] ((termsOf c).flatMap pre)).length ≤ 4000000 := by
  have h1 := addVs_len ((termsOf c).flatMap pre) []
  rw [← preL_flat, preL_len] at h1
  have := h.sizes
  rw [← preL_flat]
  simp at h1; omega
theorem keepG_at {o c : List Lt} {i : Nat} (hi : i < c.length) : keepG o (c.drop i) = if dropB o c[i] = true then keepG o (c.drop (i + 1)) else keepG (o ++ [c[i]]) (c.drop (i + 1)) := by
  rw [List.drop_eq_getElem_cons hi, keepG]
theorem lookB_none {v : Int} : ∀ {b : Bs}, (∀ p ∈ b, p.1 ≠ v) → lookB v b = none
  | [], _ => rfl
  | p :: b, h => by
    rw [lookB, if_neg (fun e => h p (by simp) e.symm)]
    exact lookB_none fun q hq => h q (by simp [hq])
theorem num_take {V : List Int} {i : Nat} (hi : i < V.length) : numBs (V.take (i + 1)) 0 = numBs (V.take i) 0 ++ [(V[i], .mk ((i : Int) + 1) 0 [])] := by
  rw [List.take_succ_eq_append_getElem hi, numBs_append, List.length_take, Nat.min_eq_left (by omega)]
  simp [numBs]
theorem num_none {V : List Int} (hn : V.Nodup) {i : Nat} (hi : i < V.length) : lookB V[i] (numBs (V.take i) 0) = none := by
  refine lookB_none fun p hp e => ?_
  have := (numBs_mem hp).1
  rw [e] at this
  obtain ⟨j, hj, h2⟩ := List.getElem_of_mem this
  rw [List.length_take] at hj
  rw [List.getElem_take] at h2
  have := (List.getElem_inj hn).1 h2
  omega
theorem tm_leaf (v f : Int) : DV.st [iD v, iD f, .sl []] = tmDV (.mk v f []) := by rw [tmDV_eq]; rfl
set_option maxHeartbeats 4000000 in
set_option maxRecDepth 20000 in
theorem neat_tri (c : List Lt) (hc : Small c) : Tri Try.prog 88 [.d (clDV c)] (pure' (.d (clDV (neatG c)))) := by
  have hcl := hc.len
  refine tri_enter Try.func88 rfl Try.ntmps88 (by simp only [List.length_cons, List.length_nil]; omega) fun w0 h0 k hrd hwr => ?_
  repeat' (first | refine awp_ghost (ghost_nil (i := 3) (e := 107) rfl) ?_ | refine awp_seq_k fun K hK => ?_ | ((first | refine awp_region_k (by kernel_rfl) fun R hR => ?_ | refine awp_draw mixed (by kernel_rfl) (by kernel_rfl) fun R hR => ?_); simp only [go_sem]) | ((first | (refine hR _ ?_; clear hR R) | refine awp_skip ?_ | refine awp_exit ?_ | refine awp_ret ?_); try simp only [thenA, inBlockA, reduceIte, reduceCtorEq, Nat.reduceEqDiff, if_false, if_true]) | ((first | refine hK _ ?_ | (clear hK K; first | refine hK _ ?_ | (clear hK K; first | refine hK _ ?_ | (clear hK K; first | refine hK _ ?_ | (clear hK K; refine hK _ ?_))))); clear hK K) | refine awp_true rfl rfl ?_ | refine awp_false rfl rfl ?_ | refine awp_block ?_ | refine And.intro (by first | ((repeat' first | omega | exact trivial | rfl | assumption | (intro a e; subst e; rfl) | exact map_sz fun a => (by simp only [go_sem]) | refine And.intro ?_ ?_); done) | fail) ?_ | fail)
  refine awp_loop (fun σ => ∃ (i : Nat) (o : List Lt), σ.t 3 = .own (k + 1 + 1, 0) (o.map ltDV) ∧ σ.t 9 = .d (clDV c) ∧ σ.t 10 = iA c.length ∧ σ.t 11 = iA i ∧
    σ.h (k + 1 + 1, 0) = some (.perm 107 o.length) ∧ Fr k h0 σ.h ∧ k + 1 + 1 < σ.k ∧ i ≤ c.length ∧ o.length ≤ i ∧ keepG o (c.drop i) = keepG [] c) (fun σ => c.length - (intOf' (σ.t 11)).toNat) ?_ ?_
  · refine ⟨0, [], ?_⟩
    simp only [go_sem, List.drop_zero, List.map_nil]
    and_intros; all_goals try (first | rfl | omega | assumption | ((repeat (first | exact Fr.rfl' _ _ | assumption | refine Fr.updk ?_ (by omega) _)); done))
  · rintro σ ⟨i, o, s3, s9, s10, s11, sh, hF, hk, hi, ho, hv⟩
    have hne2 := ltne hk
    rcases Nat.lt_or_ge i c.length with hlt | hge
    · have hz : (i : Int) < (c.length : Int) := by omega
      have e1 : (c.map ltDV).getD i default = ltDV c[i] := nth_map ltDV hlt _
      have etk : o.map ltDV ++ [ltDV c[i]] = (o ++ [c[i]]).map ltDV := by simp
      rw [keepG_at hlt] at hv
      have hcf := containsF_lits o (by omega) 117 (enter117) [.ptr (σ.k + 1, 2) 0] (ltO (σ.k + 1, 2) c[i]) (fun x => x.y == c[i].y && sidesB x c[i]) (fun x _ => neat1_tri (σ.k + 1, 2) c[i] x)
      cases hy : c[i].y with
      | false =>
        cases hs : same c[i].a c[i].b with
        | true =>
          have hd : dropB o c[i] = true := by unfold dropB; rw [hy, hs]; rfl
          rw [if_pos hd] at hv
          repeat' (first | refine awp_seq_k fun K hK => ?_ | ((first | refine awp_region_k (by kernel_rfl) fun R hR => ?_ | refine awp_draw mixed (by kernel_rfl) (by kernel_rfl) fun R hR => ?_); simp only [go_sem, s3, s9, s10, s11, sh, hz, e1, hne2, hy, hs, List.length_map, Int.toNat_natCast]) | ((first | (refine hR _ ?_; clear hR R) | refine awp_skip ?_ | refine awp_exit ?_ | refine awp_ret ?_); try simp only [thenA, inBlockA, reduceIte, reduceCtorEq, Nat.reduceEqDiff, if_false, if_true]) | ((first | refine hK _ ?_ | (clear hK K; first | refine hK _ ?_ | (clear hK K; first | refine hK _ ?_ | (clear hK K; first | refine hK _ ?_ | (clear hK K; refine hK _ ?_))))); clear hK K) | refine awp_true rfl rfl ?_ | refine awp_false rfl rfl ?_ | refine awp_block ?_ | ((first | refine CallK.pure (enter116) (same_tri c[i].a c[i].b) ?_ ?_ | refine CallD.pure (enter116) (same_tri c[i].a c[i].b) ?_ ?_); (focus first | ((repeat (first | exact trivial | refine ⟨(by first | exact Or.inl rfl | exact Or.inr rfl), ?_⟩)); done) | (simp only [coL, AV.dat, true_or, or_true, AV.d.injEq, go_sem]; done)); simp only [go_sem, s3, s9, s10, s11, sh, hz, e1, hne2, hy, hs, List.length_map, Int.toNat_natCast]) | refine And.intro (by first | ((repeat' first | omega | exact trivial | rfl | assumption | (intro a e; subst e; rfl) | exact map_sz fun a => (by simp only [go_sem]) | refine And.intro ?_ ?_); done) | fail) ?_ | fail)
          refine ⟨⟨i + 1, o, ?_⟩, ?_⟩
          rotate_left
          · simp only [go_sem, s3, s9, s10, s11, sh, hne2, List.length_map]; omega
          simp only [go_sem, s3, s9, s10, s11, sh, hne2, List.length_map]
          and_intros; all_goals try (first | rfl | omega | assumption | ((repeat (first | exact Fr.rfl' _ _ | assumption | refine Fr.updk ?_ (by omega) _)); done))
        | false =>
          have hd : dropB o c[i] = o.any fun x => x.y == c[i].y && sidesB x c[i] := by unfold dropB; rw [hs, Bool.and_false, Bool.false_or]
          rw [hd] at hv
          cases hq : o.any fun x => x.y == c[i].y && sidesB x c[i] with
          | true =>
            rw [hq] at hcf hv
            rw [if_pos rfl] at hv
            repeat' (first | refine awp_seq_k fun K hK => ?_ | ((first | refine awp_region_k (by kernel_rfl) fun R hR => ?_ | refine awp_draw mixed (by kernel_rfl) (by kernel_rfl) fun R hR => ?_); simp only [go_sem, s3, s9, s10, s11, sh, hz, e1, hne2, hy, hs, List.length_map, Int.toNat_natCast]) | ((first | (refine hR _ ?_; clear hR R) | refine awp_skip ?_ | refine awp_exit ?_ | refine awp_ret ?_); try simp only [thenA, inBlockA, reduceIte, reduceCtorEq, Nat.reduceEqDiff, if_false, if_true]) | ((first | refine hK _ ?_ | (clear hK K; first | refine hK _ ?_ | (clear hK K; first | refine hK _ ?_ | (clear hK K; first | refine hK _ ?_ | (clear hK K; refine hK _ ?_))))); clear hK K) | refine awp_true rfl rfl ?_ | refine awp_false rfl rfl ?_ | refine awp_block ?_ | ((first | refine CallK.pure (enter116) (same_tri c[i].a c[i].b) ?_ ?_ | refine CallD.pure (enter116) (same_tri c[i].a c[i].b) ?_ ?_ | refine CallK.look (enter78) (hcf) ?_ (roLt (k := σ.k + 1 + 1) (Nat.lt_succ_self _) (by simp only [go_sem, ltC, hy])) (Fr.rfl' _ _) ?_ | refine CallD.look (enter78) (hcf) ?_ (roLt (k := σ.k + 1 + 1) (Nat.lt_succ_self _) (by simp only [go_sem, ltC, hy])) (Fr.rfl' _ _) (by first | assumption | exact List.cons_ne_nil _ _) ?_); (focus first | ((repeat (first | exact trivial | refine ⟨(by first | exact Or.inl rfl | exact Or.inr rfl), ?_⟩)); done) | (simp only [coL, AV.dat, true_or, or_true, AV.d.injEq, go_sem]; done)); simp only [go_sem, s3, s9, s10, s11, sh, hz, e1, hne2, hy, hs, List.length_map, Int.toNat_natCast]) | refine And.intro (by first | ((repeat' first | omega | exact trivial | rfl | assumption | (intro a e; subst e; rfl) | exact map_sz fun a => (by simp only [go_sem]) | refine And.intro ?_ ?_); done) | fail) ?_ | fail)
            refine ⟨⟨i + 1, o, ?_⟩, ?_⟩
            rotate_left
            · simp only [go_sem, s3, s9, s10, s11, sh, hne2, List.length_map]; omega
            simp only [go_sem, s3, s9, s10, s11, sh, hne2, List.length_map]
            and_intros; all_goals try (first | rfl | omega | assumption | ((repeat (first | exact Fr.rfl' _ _ | assumption | refine Fr.updk ?_ (by omega) _)); done))
          | false =>
            rw [hq] at hcf hv
            rw [if_neg (by simp)] at hv
            repeat' (first | refine awp_seq_k fun K hK => ?_ | ((first | refine awp_region_k (by kernel_rfl) fun R hR => ?_ | refine awp_draw mixed (by kernel_rfl) (by kernel_rfl) fun R hR => ?_); simp only [go_sem, s3, s9, s10, s11, sh, hz, e1, hne2, hy, hs, List.length_map, Int.toNat_natCast]) | ((first | (refine hR _ ?_; clear hR R) | refine awp_skip ?_ | refine awp_exit ?_ | refine awp_ret ?_); try simp only [thenA, inBlockA, reduceIte, reduceCtorEq, Nat.reduceEqDiff, if_false, if_true]) | ((first | refine hK _ ?_ | (clear hK K; first | refine hK _ ?_ | (clear hK K; first | refine hK _ ?_ | (clear hK K; first | refine hK _ ?_ | (clear hK K; refine hK _ ?_))))); clear hK K) | refine awp_true rfl rfl ?_ | refine awp_false rfl rfl ?_ | refine awp_block ?_ | ((first | refine CallK.pure (enter116) (same_tri c[i].a c[i].b) ?_ ?_ | refine CallD.pure (enter116) (same_tri c[i].a c[i].b) ?_ ?_ | refine CallK.look (enter78) (hcf) ?_ (roLt (k := σ.k + 1 + 1) (Nat.lt_succ_self _) (by simp only [go_sem, ltC, hy])) (Fr.rfl' _ _) ?_ | refine CallD.look (enter78) (hcf) ?_ (roLt (k := σ.k + 1 + 1) (Nat.lt_succ_self _) (by simp only [go_sem, ltC, hy])) (Fr.rfl' _ _) (by first | assumption | exact List.cons_ne_nil _ _) ?_); (focus first | ((repeat (first | exact trivial | refine ⟨(by first | exact Or.inl rfl | exact Or.inr rfl), ?_⟩)); done) | (simp only [coL, AV.dat, true_or, or_true, AV.d.injEq, go_sem]; done)); simp only [go_sem, s3, s9, s10, s11, sh, hz, e1, hne2, hy, hs, List.length_map, Int.toNat_natCast]) | refine And.intro (by first | ((repeat' first | omega | exact trivial | rfl | assumption | (intro a e; subst e; rfl) | exact map_sz fun a => (by simp only [go_sem]) | refine And.intro ?_ ?_); done) | fail) ?_ | fail)
            have ely : DV.st [bD false, iD c[i].a.v, iD c[i].a.f, .sl (c[i].a.us.map tmDV), iD c[i].b.v, iD c[i].b.f, .sl (c[i].b.us.map tmDV)] = ltDV c[i] := by rw [ltDV, hy]
            refine ⟨⟨i + 1, o ++ [c[i]], ?_⟩, ?_⟩
            rotate_left
            · simp only [go_sem, s3, s9, s10, s11, sh, hne2, ely, etk, List.length_map]; omega
            simp only [go_sem, s3, s9, s10, s11, sh, hne2, ely, etk, List.length_map]
            and_intros; all_goals try (first | rfl | omega | assumption | ((repeat (first | exact Fr.rfl' _ _ | assumption | refine Fr.updk ?_ (by omega) _)); done))
            all_goals (simp only [List.length_append, List.length_singleton]; omega)
      | true =>
        have hd : dropB o c[i] = o.any fun x => x.y == c[i].y && sidesB x c[i] := by unfold dropB; rw [hy]; rfl
        rw [hd] at hv
        cases hq : o.any fun x => x.y == c[i].y && sidesB x c[i] with
        | true =>
          rw [hq] at hcf hv
          rw [if_pos rfl] at hv
          repeat' (first | refine awp_seq_k fun K hK => ?_ | ((first | refine awp_region_k (by kernel_rfl) fun R hR => ?_ | refine awp_draw mixed (by kernel_rfl) (by kernel_rfl) fun R hR => ?_); simp only [go_sem, s3, s9, s10, s11, sh, hz, e1, hne2, hy, List.length_map, Int.toNat_natCast]) | ((first | (refine hR _ ?_; clear hR R) | refine awp_skip ?_ | refine awp_exit ?_ | refine awp_ret ?_); try simp only [thenA, inBlockA, reduceIte, reduceCtorEq, Nat.reduceEqDiff, if_false, if_true]) | ((first | refine hK _ ?_ | (clear hK K; first | refine hK _ ?_ | (clear hK K; first | refine hK _ ?_ | (clear hK K; first | refine hK _ ?_ | (clear hK K; refine hK _ ?_))))); clear hK K) | refine awp_true rfl rfl ?_ | refine awp_false rfl rfl ?_ | refine awp_block ?_ | ((first | refine CallK.look (enter78) (hcf) ?_ (roLt (k := σ.k + 1 + 1) (Nat.lt_succ_self _) (by simp only [go_sem, ltC, hy])) (Fr.rfl' _ _) ?_ | refine CallD.look (enter78) (hcf) ?_ (roLt (k := σ.k + 1 + 1) (Nat.lt_succ_self _) (by simp only [go_sem, ltC, hy])) (Fr.rfl' _ _) (by first | assumption | exact List.cons_ne_nil _ _) ?_); (focus first | ((repeat (first | exact trivial | refine ⟨(by first | exact Or.inl rfl | exact Or.inr rfl), ?_⟩)); done) | (simp only [coL, AV.dat, true_or, or_true, AV.d.injEq, go_sem]; done)); simp only [go_sem, s3, s9, s10, s11, sh, hz, e1, hne2, hy, List.length_map, Int.toNat_natCast]) | refine And.intro (by first | ((repeat' first | omega | exact trivial | rfl | assumption | (intro a e; subst e; rfl) | exact map_sz fun a => (by simp only [go_sem]) | refine And.intro ?_ ?_); done) | fail) ?_ | fail)
          refine ⟨⟨i + 1, o, ?_⟩, ?_⟩
          rotate_left
          · simp only [go_sem, s3, s9, s10, s11, sh, hne2, List.length_map]; omega
          simp only [go_sem, s3, s9, s10, s11, sh, hne2, List.length_map]
          and_intros; all_goals try (first | rfl | omega | assumption | ((repeat (first | exact Fr.rfl' _ _ | assumption | refine Fr.updk ?_ (by omega) _)); done))
        | false =>
          rw [hq] at hcf hv
          rw [if_neg (by simp)] at hv
          repeat' (first | refine awp_seq_k fun K hK => ?_ | ((first | refine awp_region_k (by kernel_rfl) fun R hR => ?_ | refine awp_draw mixed (by kernel_rfl) (by kernel_rfl) fun R hR => ?_); simp only [go_sem, s3, s9, s10, s11, sh, hz, e1, hne2, hy, List.length_map, Int.toNat_natCast]) | ((first | (refine hR _ ?_; clear hR R) | refine awp_skip ?_ | refine awp_exit ?_ | refine awp_ret ?_); try simp only [thenA, inBlockA, reduceIte, reduceCtorEq, Nat.reduceEqDiff, if_false, if_true]) | ((first | refine hK _ ?_ | (clear hK K; first | refine hK _ ?_ | (clear hK K; first | refine hK _ ?_ | (clear hK K; first | refine hK _ ?_ | (clear hK K; refine hK _ ?_))))); clear hK K) | refine awp_true rfl rfl ?_ | refine awp_false rfl rfl ?_ | refine awp_block ?_ | ((first | refine CallK.look (enter78) (hcf) ?_ (roLt (k := σ.k + 1 + 1) (Nat.lt_succ_self _) (by simp only [go_sem, ltC, hy])) (Fr.rfl' _ _) ?_ | refine CallD.look (enter78) (hcf) ?_ (roLt (k := σ.k + 1 + 1) (Nat.lt_succ_self _) (by simp only [go_sem, ltC, hy])) (Fr.rfl' _ _) (by first | assumption | exact List.cons_ne_nil _ _) ?_); (focus first | ((repeat (first | exact trivial | refine ⟨(by first | exact Or.inl rfl | exact Or.inr rfl), ?_⟩)); done) | (simp only [coL, AV.dat, true_or, or_true, AV.d.injEq, go_sem]; done)); simp only [go_sem, s3, s9, s10, s11, sh, hz, e1, hne2, hy, List.length_map, Int.toNat_natCast]) | refine And.intro (by first | ((repeat' first | omega | exact trivial | rfl | assumption | (intro a e; subst e; rfl) | exact map_sz fun a => (by simp only [go_sem]) | refine And.intro ?_ ?_); done) | fail) ?_ | fail)
          have ely : DV.st [bD true, iD c[i].a.v, iD c[i].a.f, .sl (c[i].a.us.map tmDV), iD c[i].b.v, iD c[i].b.f, .sl (c[i].b.us.map tmDV)] = ltDV c[i] := by rw [ltDV, hy]
          refine ⟨⟨i + 1, o ++ [c[i]], ?_⟩, ?_⟩
          rotate_left
          · simp only [go_sem, s3, s9, s10, s11, sh, hne2, ely, etk, List.length_map]; omega
          simp only [go_sem, s3, s9, s10, s11, sh, hne2, ely, etk, List.length_map]
          and_intros; all_goals try (first | rfl | omega | assumption | ((repeat (first | exact Fr.rfl' _ _ | assumption | refine Fr.updk ?_ (by omega) _)); done))
          all_goals (simp only [List.length_append, List.length_singleton]; omega)
    · have hz : ¬ ((i : Int) < (c.length : Int)) := by omega
      rw [List.drop_eq_nil_of_le hge, keepG] at hv
      have hsm := hc.keep
      rw [← hv] at hsm
      have hol := hsm.len
      obtain ⟨V, hV⟩ : ∃ V, V = addVs [] ((termsOf o).flatMap pre) := ⟨_, rfl⟩
      have hst := stands_tri (termsOf o) hsm.sizes
      have hVl : V.length ≤ 4000000 := by rw [hV]; exact hsm.vars
      have hVn : V.Nodup := by rw [hV]; exact addVs_nodup (by simp)
      have hfin : neatG c = o.map (mapLt (mapM (madeS (numBs V 0)))) := by unfold neatG; rw [hV, hv]
      rw [← hV] at hst
      repeat' (first | refine awp_seq_k fun K hK => ?_ | ((first | refine awp_region_k (by kernel_rfl) fun R hR => ?_ | refine awp_draw mixed (by kernel_rfl) (by kernel_rfl) fun R hR => ?_); simp only [go_sem, s3, s9, s10, s11, sh, hz, hne2]) | ((first | (refine hR _ ?_; clear hR R) | refine awp_skip ?_ | refine awp_exit ?_ | refine awp_ret ?_); try simp only [thenA, inBlockA, reduceIte, reduceCtorEq, Nat.reduceEqDiff, if_false, if_true]) | ((first | refine hK _ ?_ | (clear hK K; first | refine hK _ ?_ | (clear hK K; first | refine hK _ ?_ | (clear hK K; first | refine hK _ ?_ | (clear hK K; refine hK _ ?_))))); clear hK K) | refine awp_true rfl rfl ?_ | refine awp_false rfl rfl ?_ | refine awp_block ?_ | ((first | refine CallK.pure (enter75) (terms_tri o (by omega)) ?_ ?_ | refine CallD.pure (enter75) (terms_tri o (by omega)) ?_ ?_ | refine CallK.pure (enter70) (hst) ?_ ?_ | refine CallD.pure (enter70) (hst) ?_ ?_); (focus first | ((repeat (first | exact trivial | refine ⟨(by first | exact Or.inl rfl | exact Or.inr rfl), ?_⟩)); done) | (simp only [coL, AV.dat, true_or, or_true, AV.d.injEq, go_sem]; done)); simp only [go_sem, s3, s9, s10, s11, sh, hz, hne2]) | refine And.intro (by first | ((repeat' first | omega | exact trivial | rfl | assumption | (intro a e; subst e; rfl) | exact map_sz fun a => (by simp only [go_sem]) | refine And.intro ?_ ?_); done) | fail) ?_ | fail)
      refine awp_loop (fun τ => ∃ j : Nat, τ.t 3 = .own (k + 1 + 1, 0) (o.map ltDV) ∧ τ.t 6 = .ptr (σ.k + 1, 1) 0 ∧ τ.t 38 = .d (.sl (V.map iD)) ∧ τ.t 39 = iA V.length ∧ τ.t 40 = iA j ∧
        τ.h (σ.k + 1, 1) = some (.cells 142 [.map (σ.k + 1, 0)]) ∧ τ.h (σ.k + 1, 0) = some (.map (bsE (numBs (V.take j) 0))) ∧ τ.h (k + 1 + 1, 0) = some (.perm 107 o.length) ∧ Fr k h0 τ.h ∧ σ.k + 1 < τ.k ∧ j ≤ V.length) (fun τ => V.length - (intOf' (τ.t 40)).toNat) ?_ ?_
      · refine ⟨0, ?_⟩
        simp only [go_sem, s3, sh, hne2, List.take_zero, numBs]
        and_intros; all_goals try (first | rfl | omega | assumption | ((repeat (first | exact Fr.rfl' _ _ | assumption | refine Fr.updk ?_ (by omega) _)); done))
      · rintro τ ⟨j, u3, u6, u38, u39, u40, uh, um, up, uF, uk, uj⟩
        have r1 := ltne uk
        have r2 := ltne (show k + 1 + 1 < τ.k by omega)
        have r3 := ltne (show k + 1 < σ.k by omega)
        rcases Nat.lt_or_ge j V.length with jlt | jge
        · have jz : (j : Int) < (V.length : Int) := by omega
          have e2 : (V.map iD).getD j default = iD V[j] := nth_map iD jlt _
          have hpm := putM_bs (num_none hVn jlt) (.mk ((j : Int) + 1) 0 [])
          rw [← num_take jlt] at hpm
          repeat' (first | refine awp_seq_k fun K hK => ?_ | ((first | refine awp_region_k (by kernel_rfl) fun R hR => ?_ | refine awp_draw mixed (by kernel_rfl) (by kernel_rfl) fun R hR => ?_); simp only [go_sem, u3, u6, u38, u39, u40, uh, um, up, jz, e2, r1, r2, hpm, tm_leaf, Int.toNat_natCast]) | ((first | (refine hR _ ?_; clear hR R) | refine awp_skip ?_ | refine awp_exit ?_ | refine awp_ret ?_); try simp only [thenA, inBlockA, reduceIte, reduceCtorEq, Nat.reduceEqDiff, if_false, if_true]) | ((first | refine hK _ ?_ | (clear hK K; first | refine hK _ ?_ | (clear hK K; first | refine hK _ ?_ | (clear hK K; first | refine hK _ ?_ | (clear hK K; refine hK _ ?_))))); clear hK K) | refine awp_true rfl rfl ?_ | refine awp_false rfl rfl ?_ | refine awp_block ?_ | refine And.intro (by first | ((repeat' first | omega | exact trivial | rfl | assumption | (intro a e; subst e; rfl) | exact map_sz fun a => (by simp only [go_sem]) | refine And.intro ?_ ?_); done) | fail) ?_ | fail)
          refine ⟨⟨j + 1, ?_⟩, ?_⟩
          rotate_left
          · simp only [go_sem, u3, u6, u38, u39, u40, uh, um, up, r1, r2, r3]; omega
          simp only [go_sem, u3, u6, u38, u39, u40, uh, um, up, r1, r2, r3]
          and_intros; all_goals try (first | rfl | omega | assumption | ((repeat (first | exact Fr.rfl' _ _ | assumption | refine Fr.updk ?_ (by omega) _)); done))
        · have jz : ¬ ((j : Int) < (V.length : Int)) := by omega
          obtain rfl : j = V.length := by omega
          rw [List.take_length] at um
          have hbs : ∀ p ∈ numBs V 0, p.2.size ≤ 4000000 := fun p hp => by
            have := (numBs_mem hp).2.1
            have e := p.2.size_eq
            rw [this] at e
            simp [Tm.size.sizes] at e
            omega
          have hea := each_tri 120 [.ptr (σ.k + 1, 1) 0] (bsO (σ.k + 1, 1) (σ.k + 1, 0) (numBs V 0)) (mapM (madeS (numBs V 0))) (enter120) (by simp) o (by omega) (fun l hl => ⟨neat2_tri _ _ _ hbs l.a (by have := hsm.a l hl; omega), neat2_tri _ _ _ hbs l.b (by have := hsm.b l hl; omega)⟩)
          repeat' (first | refine awp_seq_k fun K hK => ?_ | ((first | refine awp_region_k (by kernel_rfl) fun R hR => ?_ | refine awp_draw mixed (by kernel_rfl) (by kernel_rfl) fun R hR => ?_); simp only [go_sem, u3, u6, u38, u39, u40, uh, um, up, jz, r1, r2]) | ((first | (refine hR _ ?_; clear hR R) | refine awp_skip ?_ | refine awp_exit ?_ | refine awp_ret ?_); try simp only [thenA, inBlockA, reduceIte, reduceCtorEq, Nat.reduceEqDiff, if_false, if_true]) | ((first | refine hK _ ?_ | (clear hK K; first | refine hK _ ?_ | (clear hK K; first | refine hK _ ?_ | (clear hK K; first | refine hK _ ?_ | (clear hK K; refine hK _ ?_))))); clear hK K) | refine awp_true rfl rfl ?_ | refine awp_false rfl rfl ?_ | refine awp_block ?_ | ((first | refine CallK.look (enter119) (hea) ?_ (roBs (k := τ.k) (by show σ.k + 1 < τ.k; omega) (by show σ.k + 1 < τ.k; omega) (by simp only [go_sem, uh]) (by simp only [go_sem, um])) (Fr.rfl' _ _) ?_ | refine CallD.look (enter119) (hea) ?_ (roBs (k := τ.k) (by show σ.k + 1 < τ.k; omega) (by show σ.k + 1 < τ.k; omega) (by simp only [go_sem, uh]) (by simp only [go_sem, um])) (Fr.rfl' _ _) (by first | assumption | exact List.cons_ne_nil _ _) ?_); (focus first | ((repeat (first | exact trivial | refine ⟨(by first | exact Or.inl rfl | exact Or.inr rfl), ?_⟩)); done) | (simp only [coL, AV.dat, true_or, or_true, AV.d.injEq, go_sem]; done)); simp only [go_sem, u3, u6, u38, u39, u40, uh, um, up, jz, r1, r2]) | refine And.intro (by first | ((repeat' first | omega | exact trivial | rfl | assumption | (intro a e; subst e; rfl) | exact map_sz fun a => (by simp only [go_sem]) | refine And.intro ?_ ?_); done) | fail) ?_ | fail)
          rw [hfin]
          (first | refine ret_pure ?_ ?_ ?_ | refine ret_ro ?_ ?_ ?_); focus exact (by simp only [Try.results88, resOkL, resOk, Try.ntmps88, List.toList_toArray]; first | decide | (simp only [go_sem]; done) | (simp only [go_sem]; and_intros <;> first | omega | rfl | decide))
          rotate_left; focus exact (by repeat (first | exact Fr.rfl' _ _ | assumption | refine Fr.updk ?_ (by omega) _))
          simp only [resA, resV, Try.results88, go_sem]
          all_goals try (first | exact Co.t2 (.dat rfl) (.dat rfl) | exact Co.t3 (.dat rfl) (.dat rfl) (.dat rfl))
          all_goals exact .dat rfl
def tidyAns (g : List Int) (c : List Lt) : List Lt × Int := if clsOk g [c] ≠ 0 then ([], clsOk g [c]) else (neatG c, 0)
theorem small_own {g : List Int} {c : List Lt} (h : clsOk g [c] = 0) : Small c := by
  obtain ⟨h1, h2⟩ := clsOk_one h
  refine ⟨by omega, fun l hl => ?_, fun l hl => ?_⟩
  · have := own_parts (h2 l hl).1; rw [parts_len] at this; omega
  · have := own_parts (h2 l hl).2; rw [parts_len] at this; omega
set_option maxRecDepth 20000 in
theorem tidy_tri (g : List Int) (c : List Lt) (hc : c.length ≤ 4000000) : Tri Try.prog 29 [.d (sgDV g), .d (clDV c)] (pure' (.tup [.d (clDV (tidyAns g c).1), iA (tidyAns g c).2])) := by
  refine tri_enter Try.func29 rfl Try.ntmps29 (by simp only [List.length_cons, List.length_nil]; omega) fun w0 h0 k hrd hwr => ?_
  cases ho : clsOk g [c] == 0 with
  | false =>
    have ho' : (clsOk g [c] != 0) = true := by simpa using ho
    have ha : tidyAns g c = ([], clsOk g [c]) := by unfold tidyAns; rw [if_pos (by simpa using ho)]
    repeat' (first | refine awp_seq_k fun K hK => ?_ | ((first | refine awp_region_k (by kernel_rfl) fun R hR => ?_ | refine awp_draw mixed (by kernel_rfl) (by kernel_rfl) fun R hR => ?_); simp only [go_sem, ho']) | ((first | (refine hR _ ?_; clear hR R) | refine awp_skip ?_ | refine awp_exit ?_ | refine awp_ret ?_); try simp only [thenA, inBlockA, reduceIte, reduceCtorEq, Nat.reduceEqDiff, if_false, if_true]) | ((first | refine hK _ ?_ | (clear hK K; first | refine hK _ ?_ | (clear hK K; first | refine hK _ ?_ | (clear hK K; first | refine hK _ ?_ | (clear hK K; refine hK _ ?_))))); clear hK K) | refine awp_true rfl rfl ?_ | refine awp_false rfl rfl ?_ | refine awp_block ?_ | ((first | refine CallK.pure (enter87) (one_tri g c hc) ?_ ?_ | refine CallD.pure (enter87) (one_tri g c hc) ?_ ?_); (focus first | ((repeat (first | exact trivial | refine ⟨(by first | exact Or.inl rfl | exact Or.inr rfl), ?_⟩)); done) | (simp only [coL, AV.dat, true_or, or_true, AV.d.injEq, go_sem]; done)); simp only [go_sem, ho']) | refine And.intro (by first | ((repeat' first | omega | exact trivial | rfl | assumption | (intro a e; subst e; rfl) | exact map_sz fun a => (by simp only [go_sem]) | refine And.intro ?_ ?_); done) | fail) ?_ | fail)
    rw [ha]
    (first | refine ret_pure ?_ ?_ ?_ | refine ret_ro ?_ ?_ ?_); focus exact (by simp only [Try.results29, resOkL, resOk, Try.ntmps29, List.toList_toArray]; first | decide | (simp only [go_sem]; done) | (simp only [go_sem]; and_intros <;> first | omega | rfl | decide))
    rotate_left; focus exact (by repeat (first | exact Fr.rfl' _ _ | assumption | refine Fr.updk ?_ (by omega) _))
    simp only [resA, resV, Try.results29, go_sem]
    all_goals try (first | exact Co.t2 (.dat rfl) (.dat rfl) | exact Co.t3 (.dat rfl) (.dat rfl) (.dat rfl))
  | true =>
    have ho2 : clsOk g [c] = 0 := by simpa using ho
    have ha : tidyAns g c = (neatG c, 0) := by unfold tidyAns; rw [if_neg (by simp [ho2])]
    repeat' (first | refine awp_seq_k fun K hK => ?_ | ((first | refine awp_region_k (by kernel_rfl) fun R hR => ?_ | refine awp_draw mixed (by kernel_rfl) (by kernel_rfl) fun R hR => ?_); simp only [go_sem, ho2, bne_self_eq_false]) | ((first | (refine hR _ ?_; clear hR R) | refine awp_skip ?_ | refine awp_exit ?_ | refine awp_ret ?_); try simp only [thenA, inBlockA, reduceIte, reduceCtorEq, Nat.reduceEqDiff, if_false, if_true]) | ((first | refine hK _ ?_ | (clear hK K; first | refine hK _ ?_ | (clear hK K; first | refine hK _ ?_ | (clear hK K; first | refine hK _ ?_ | (clear hK K; refine hK _ ?_))))); clear hK K) | refine awp_true rfl rfl ?_ | refine awp_false rfl rfl ?_ | refine awp_block ?_ | ((first | refine CallK.pure (enter87) (one_tri g c hc) ?_ ?_ | refine CallD.pure (enter87) (one_tri g c hc) ?_ ?_ | refine CallK.pure (enter88) (neat_tri c (small_own ho2)) ?_ ?_ | refine CallD.pure (enter88) (neat_tri c (small_own ho2)) ?_ ?_); (focus first | ((repeat (first | exact trivial | refine ⟨(by first | exact Or.inl rfl | exact Or.inr rfl), ?_⟩)); done) | (simp only [coL, AV.dat, true_or, or_true, AV.d.injEq, go_sem]; done)); simp only [go_sem, ho2, bne_self_eq_false]) | refine And.intro (by first | ((repeat' first | omega | exact trivial | rfl | assumption | (intro a e; subst e; rfl) | exact map_sz fun a => (by simp only [go_sem]) | refine And.intro ?_ ?_); done) | fail) ?_ | fail)
    rw [ha]
    (first | refine ret_pure ?_ ?_ ?_ | refine ret_ro ?_ ?_ ?_); focus exact (by simp only [Try.results29, resOkL, resOk, Try.ntmps29, List.toList_toArray]; first | decide | (simp only [go_sem]; done) | (simp only [go_sem]; and_intros <;> first | omega | rfl | decide))
    rotate_left; focus exact (by repeat (first | exact Fr.rfl' _ _ | assumption | refine Fr.updk ?_ (by omega) _))
    simp only [resA, resV, Try.results29, go_sem]
    all_goals try (first | exact Co.t2 (.dat rfl) (.dat rfl) | exact Co.t3 (.dat rfl) (.dat rfl) (.dat rfl))
end Go.Proofs.Ytmeekpinkfpnhaa
namespace Go.Proofs.Ytmeekpinkfpnhaa
open Go.RowKit
set_option maxHeartbeats 1000000 in
set_option maxRecDepth 20000 in
theorem firstVars_new (l : List Tm) (hl : Tm.size.sizes l ≤ 4000000) (n' : Nm) : Tri Try.prog 22 [.d (.sl (l.map tmDV))] (newEff 3 n' ((firstVars l).map iD)) := by
  refine tri_enter Try.func22 rfl Try.ntmps22 (by simp only [List.length_cons, List.length_nil]; omega) fun w0 h0 k hrd hwr => ?_
  have hn' : n'.1 < k := hwr _ (List.mem_cons_self ..)
  have h0' : h0 n' = none := hrd _ (List.mem_cons_self ..)
  have hll := Tm.sizes_len l
  repeat' (first | refine awp_ghost (ghost_nil (i := 3) (e := 3) rfl) ?_ | refine awp_seq_k fun K hK => ?_ | ((first | refine awp_region_k (by kernel_rfl) fun R hR => ?_ | refine awp_draw mixed (by kernel_rfl) (by kernel_rfl) fun R hR => ?_); simp only [go_sem]) | ((first | (refine hR _ ?_; clear hR R) | refine awp_skip ?_ | refine awp_exit ?_ | refine awp_ret ?_); try simp only [thenA, inBlockA, reduceIte, reduceCtorEq, Nat.reduceEqDiff, if_false, if_true]) | ((first | refine hK _ ?_ | (clear hK K; first | refine hK _ ?_ | (clear hK K; first | refine hK _ ?_ | (clear hK K; first | refine hK _ ?_ | (clear hK K; refine hK _ ?_))))); clear hK K) | refine awp_true rfl rfl ?_ | refine awp_false rfl rfl ?_ | refine awp_block ?_ | refine And.intro (by first | ((repeat' first | omega | exact trivial | rfl | assumption | (intro a e; subst e; rfl) | exact map_sz fun a => (by simp only [go_sem]) | refine And.intro ?_ ?_); done) | fail) ?_ | fail)
  refine awp_loop (fun σ => ∃ (i : Nat) (o : List Int), σ.t 0 = .d (.sl (l.map tmDV)) ∧ σ.t 3 = .own (k + 1 + 1, 0) (o.map iD) ∧ σ.t 4 = iA i ∧ σ.h (k + 1 + 1, 0) = some (.perm 3 o.length) ∧ Fr k h0 σ.h ∧ k + 1 + 1 < σ.k ∧ i ≤ l.length ∧ o.length + Tm.size.sizes (l.drop i) ≤ 4000000 ∧ addVs o ((l.drop i).flatMap parts) = firstVars l) (fun σ => l.length - (intOf' (σ.t 4)).toNat) ?_ ?_
  · refine ⟨0, [], ?_⟩
    simp only [go_sem, List.drop_zero]
    and_intros; all_goals try (first | rfl | omega | assumption | ((repeat (first | exact Fr.rfl' _ _ | assumption | refine Fr.updk ?_ (by omega) _)); done))
  · rintro σ ⟨i, o, s0, s3, s4, sh, hF, hk, hi, ho, hv⟩
    have hne := ltne hk
    rcases Nat.lt_or_ge i l.length with hlt | hge
    · have hz : (i : Int) < (l.length : Int) := by omega
      have e1 : (l.map tmDV).getD i default = tmDV l[i] := nth_map tmDV hlt _
      rw [List.drop_eq_getElem_cons hlt, List.flatMap_cons, addVs_append] at hv
      rw [List.drop_eq_getElem_cons hlt, Tm.size.sizes] at ho
      have hpl := parts_len l[i]
      repeat' (first | refine awp_seq_k fun K hK => ?_ | ((first | refine awp_region_k (by kernel_rfl) fun R hR => ?_ | refine awp_draw mixed (by kernel_rfl) (by kernel_rfl) fun R hR => ?_); simp only [go_sem, s0, s3, s4, sh, hz, e1, hne, Int.toNat_natCast]) | ((first | (refine hR _ ?_; clear hR R) | refine awp_skip ?_ | refine awp_exit ?_ | refine awp_ret ?_); try simp only [thenA, inBlockA, reduceIte, reduceCtorEq, Nat.reduceEqDiff, if_false, if_true]) | ((first | refine hK _ ?_ | (clear hK K; first | refine hK _ ?_ | (clear hK K; first | refine hK _ ?_ | (clear hK K; first | refine hK _ ?_ | (clear hK K; refine hK _ ?_))))); clear hK K) | refine awp_true rfl rfl ?_ | refine awp_false rfl rfl ?_ | refine awp_block ?_ | ((first | refine CallK.pure (enter63) (partsOf_data l[i] (by unfold Tm.fits; omega) (by omega)) ?_ ?_ | refine CallD.pure (enter63) (partsOf_data l[i] (by unfold Tm.fits; omega) (by omega)) ?_ ?_); (focus first | ((repeat (first | exact trivial | refine ⟨(by first | exact Or.inl rfl | exact Or.inr rfl), ?_⟩)); done) | (simp only [coL, AV.dat, true_or, or_true, AV.d.injEq, go_sem]; done)); simp only [go_sem, s0, s3, s4, sh, hz, e1, hne, Int.toNat_natCast]) | refine And.intro (by first | ((repeat' first | omega | exact trivial | rfl | assumption | (intro a e; subst e; rfl) | exact map_sz fun a => (by simp only [go_sem]) | refine And.intro ?_ ?_); done) | fail) ?_ | fail)
      refine awp_loop (fun τ => ∃ (j : Nat) (q : List Int), τ.t 0 = .d (.sl (l.map tmDV)) ∧ τ.t 3 = .own (k + 1 + 1, 0) (q.map iD) ∧ τ.t 4 = iA i ∧ τ.t 5 = .d (.sl ((parts l[i]).map tmDV)) ∧ τ.t 6 = iA j ∧ τ.h (k + 1 + 1, 0) = some (.perm 3 q.length) ∧ Fr k h0 τ.h ∧ k + 1 + 1 < τ.k ∧ j ≤ (parts l[i]).length ∧ q.length + ((parts l[i]).length - j) ≤ o.length + (parts l[i]).length ∧ addVs q ((parts l[i]).drop j) = addVs o (parts l[i])) (fun τ => (parts l[i]).length - (intOf' (τ.t 6)).toNat) ?_ ?_
      · refine ⟨0, o, ?_⟩
        simp only [go_sem, s0, s3, s4, sh, hne, List.drop_zero]
        and_intros; all_goals try (first | rfl | omega | assumption | ((repeat (first | exact Fr.rfl' _ _ | assumption | refine Fr.updk ?_ (by omega) _)); done))
      · rintro τ ⟨j, q, u0, u3, u4, u5, u6, uh, uF, uk, uj, uo, uv⟩
        have hne' := ltne uk
        rcases Nat.lt_or_ge j (parts l[i]).length with hlt' | hge'
        · have hz' : (j : Int) < ((parts l[i]).length : Int) := by omega
          have e2 : ((parts l[i]).map tmDV).getD j default = tmDV (parts l[i])[j] := nth_map tmDV hlt' _
          rw [List.drop_eq_getElem_cons hlt'] at uv
          generalize (parts l[i])[j] = x at *
          cases hx : decide (x.v > 0) with
          | false =>
            have hadd : addVs q (x :: (parts l[i]).drop (j + 1)) = addVs q ((parts l[i]).drop (j + 1)) := by
              show addVs (addV q x) _ = _
              unfold addV; rw [if_neg (by simp at hx; omega)]
            rw [hadd] at uv
            repeat' (first | refine awp_seq_k fun K hK => ?_ | ((first | refine awp_region_k (by kernel_rfl) fun R hR => ?_ | refine awp_draw mixed (by kernel_rfl) (by kernel_rfl) fun R hR => ?_); simp only [go_sem, u0, u3, u4, u5, u6, uh, hz', e2, hne', hx, Int.toNat_natCast]) | ((first | (refine hR _ ?_; clear hR R) | refine awp_skip ?_ | refine awp_exit ?_ | refine awp_ret ?_); try simp only [thenA, inBlockA, reduceIte, reduceCtorEq, Nat.reduceEqDiff, if_false, if_true]) | ((first | refine hK _ ?_ | (clear hK K; first | refine hK _ ?_ | (clear hK K; first | refine hK _ ?_ | (clear hK K; first | refine hK _ ?_ | (clear hK K; refine hK _ ?_))))); clear hK K) | refine awp_true rfl rfl ?_ | refine awp_false rfl rfl ?_ | refine awp_block ?_ | refine And.intro (by first | ((repeat' first | omega | exact trivial | rfl | assumption | (intro a e; subst e; rfl) | exact map_sz fun a => (by simp only [go_sem]) | refine And.intro ?_ ?_); done) | fail) ?_ | fail)
            refine ⟨⟨j + 1, q, ?_⟩, ?_⟩
            rotate_left
            · simp only [go_sem, u0, u3, u4, u5, u6, uh, hne']; omega
            simp only [go_sem, u0, u3, u4, u5, u6, uh, hne']
            and_intros; all_goals try (first | rfl | omega | assumption | ((repeat (first | exact Fr.rfl' _ _ | assumption | refine Fr.updk ?_ (by omega) _)); done))
          | true =>
            cases hc : q.contains x.v with
            | true =>
              have hadd : addVs q (x :: (parts l[i]).drop (j + 1)) = addVs q ((parts l[i]).drop (j + 1)) := by
                show addVs (addV q x) _ = _
                unfold addV; rw [if_neg]; rintro ⟨_, h⟩; rw [hc] at h; cases h
              rw [hadd] at uv
              repeat' (first | refine awp_seq_k fun K hK => ?_ | ((first | refine awp_region_k (by kernel_rfl) fun R hR => ?_ | refine awp_draw mixed (by kernel_rfl) (by kernel_rfl) fun R hR => ?_); simp only [go_sem, u0, u3, u4, u5, u6, uh, hz', e2, hne', hx, hc, Int.toNat_natCast]) | ((first | (refine hR _ ?_; clear hR R) | refine awp_skip ?_ | refine awp_exit ?_ | refine awp_ret ?_); try simp only [thenA, inBlockA, reduceIte, reduceCtorEq, Nat.reduceEqDiff, if_false, if_true]) | ((first | refine hK _ ?_ | (clear hK K; first | refine hK _ ?_ | (clear hK K; first | refine hK _ ?_ | (clear hK K; first | refine hK _ ?_ | (clear hK K; refine hK _ ?_))))); clear hK K) | refine awp_true rfl rfl ?_ | refine awp_false rfl rfl ?_ | refine awp_block ?_ | ((first | refine CallK.pure (enter82) (has_tri q (by omega) x.v) ?_ ?_ | refine CallD.pure (enter82) (has_tri q (by omega) x.v) ?_ ?_); (focus first | ((repeat (first | exact trivial | refine ⟨(by first | exact Or.inl rfl | exact Or.inr rfl), ?_⟩)); done) | (simp only [coL, AV.dat, true_or, or_true, AV.d.injEq, go_sem]; done)); simp only [go_sem, u0, u3, u4, u5, u6, uh, hz', e2, hne', hx, hc, Int.toNat_natCast]) | refine And.intro (by first | ((repeat' first | omega | exact trivial | rfl | assumption | (intro a e; subst e; rfl) | exact map_sz fun a => (by simp only [go_sem]) | refine And.intro ?_ ?_); done) | fail) ?_ | fail)
              refine ⟨⟨j + 1, q, ?_⟩, ?_⟩
              rotate_left
              · simp only [go_sem, u0, u3, u4, u5, u6, uh, hne']; omega
              simp only [go_sem, u0, u3, u4, u5, u6, uh, hne']
              and_intros; all_goals try (first | rfl | omega | assumption | ((repeat (first | exact Fr.rfl' _ _ | assumption | refine Fr.updk ?_ (by omega) _)); done))
            | false =>
              have hadd : addVs q (x :: (parts l[i]).drop (j + 1)) = addVs (q ++ [x.v]) ((parts l[i]).drop (j + 1)) := by
                show addVs (addV q x) _ = _
                unfold addV; rw [if_pos ⟨by simpa using hx, hc⟩]
              rw [hadd] at uv
              have hq : q.map iD ++ [iD x.v] = (q ++ [x.v]).map iD := by simp
              repeat' (first | refine awp_seq_k fun K hK => ?_ | ((first | refine awp_region_k (by kernel_rfl) fun R hR => ?_ | refine awp_draw mixed (by kernel_rfl) (by kernel_rfl) fun R hR => ?_); simp only [go_sem, u0, u3, u4, u5, u6, uh, hz', e2, hne', hx, hc, List.length_map, Int.toNat_natCast]) | ((first | (refine hR _ ?_; clear hR R) | refine awp_skip ?_ | refine awp_exit ?_ | refine awp_ret ?_); try simp only [thenA, inBlockA, reduceIte, reduceCtorEq, Nat.reduceEqDiff, if_false, if_true]) | ((first | refine hK _ ?_ | (clear hK K; first | refine hK _ ?_ | (clear hK K; first | refine hK _ ?_ | (clear hK K; first | refine hK _ ?_ | (clear hK K; refine hK _ ?_))))); clear hK K) | refine awp_true rfl rfl ?_ | refine awp_false rfl rfl ?_ | refine awp_block ?_ | ((first | refine CallK.pure (enter82) (has_tri q (by omega) x.v) ?_ ?_ | refine CallD.pure (enter82) (has_tri q (by omega) x.v) ?_ ?_); (focus first | ((repeat (first | exact trivial | refine ⟨(by first | exact Or.inl rfl | exact Or.inr rfl), ?_⟩)); done) | (simp only [coL, AV.dat, true_or, or_true, AV.d.injEq, go_sem]; done)); simp only [go_sem, u0, u3, u4, u5, u6, uh, hz', e2, hne', hx, hc, List.length_map, Int.toNat_natCast]) | refine And.intro (by first | ((repeat' first | omega | exact trivial | rfl | assumption | (intro a e; subst e; rfl) | exact map_sz fun a => (by simp only [go_sem]) | refine And.intro ?_ ?_); done) | fail) ?_ | fail)
              refine ⟨⟨j + 1, q ++ [x.v], ?_⟩, ?_⟩
              rotate_left
              · simp only [go_sem, u0, u3, u4, u5, u6, uh, hne', hq, List.length_map]; omega
              simp only [go_sem, u0, u3, u4, u5, u6, uh, hne', hq, List.length_map]
              and_intros; all_goals try (first | rfl | omega | assumption | ((repeat (first | exact Fr.rfl' _ _ | assumption | refine Fr.updk ?_ (by omega) _)); done))
              simp only [List.length_append, List.length_singleton]; omega
        · have hz' : ¬ ((j : Int) < ((parts l[i]).length : Int)) := by omega
          rw [List.drop_eq_nil_of_le hge'] at uv
          have uv' : q = addVs o (parts l[i]) := uv
          rw [← uv'] at hv
          repeat' (first | refine awp_seq_k fun K hK => ?_ | ((first | refine awp_region_k (by kernel_rfl) fun R hR => ?_ | refine awp_draw mixed (by kernel_rfl) (by kernel_rfl) fun R hR => ?_); simp only [go_sem, u0, u3, u4, u5, u6, uh, hz', hne']) | ((first | (refine hR _ ?_; clear hR R) | refine awp_skip ?_ | refine awp_exit ?_ | refine awp_ret ?_); try simp only [thenA, inBlockA, reduceIte, reduceCtorEq, Nat.reduceEqDiff, if_false, if_true]) | ((first | refine hK _ ?_ | (clear hK K; first | refine hK _ ?_ | (clear hK K; first | refine hK _ ?_ | (clear hK K; first | refine hK _ ?_ | (clear hK K; refine hK _ ?_))))); clear hK K) | refine awp_true rfl rfl ?_ | refine awp_false rfl rfl ?_ | refine awp_block ?_ | refine And.intro (by first | ((repeat' first | omega | exact trivial | rfl | assumption | (intro a e; subst e; rfl) | exact map_sz fun a => (by simp only [go_sem]) | refine And.intro ?_ ?_); done) | fail) ?_ | fail)
          refine ⟨⟨i + 1, q, ?_⟩, ?_⟩
          rotate_left
          · simp only [go_sem, u0, u3, u4, uh, hne', s4]; omega
          simp only [go_sem, u0, u3, u4, uh, hne', s4]
          and_intros; all_goals try (first | rfl | omega | assumption | ((repeat (first | exact Fr.rfl' _ _ | assumption | refine Fr.updk ?_ (by omega) _)); done))
    · have hz : ¬ ((i : Int) < (l.length : Int)) := by omega
      rw [List.drop_eq_nil_of_le hge] at hv
      have hv' : o = firstVars l := hv
      subst hv'
      repeat' (first | refine awp_seq_k fun K hK => ?_ | ((first | refine awp_region_k (by kernel_rfl) fun R hR => ?_ | refine awp_draw mixed (by kernel_rfl) (by kernel_rfl) fun R hR => ?_); simp only [go_sem, s0, s3, s4, sh, hz, hne]) | ((first | (refine hR _ ?_; clear hR R) | refine awp_skip ?_ | refine awp_exit ?_ | refine awp_ret ?_); try simp only [thenA, inBlockA, reduceIte, reduceCtorEq, Nat.reduceEqDiff, if_false, if_true]) | ((first | refine hK _ ?_ | (clear hK K; first | refine hK _ ?_ | (clear hK K; first | refine hK _ ?_ | (clear hK K; first | refine hK _ ?_ | (clear hK K; refine hK _ ?_))))); clear hK K) | refine awp_true rfl rfl ?_ | refine awp_false rfl rfl ?_ | refine awp_block ?_ | refine And.intro (by first | ((repeat' first | omega | exact trivial | rfl | assumption | (intro a e; subst e; rfl) | exact map_sz fun a => (by simp only [go_sem]) | refine And.intro ?_ ?_); done) | fail) ?_ | fail)
      refine ret_new (by simp only [Try.results22, resOkL, resOk, Try.ntmps22, List.toList_toArray]; first | decide | (simp only [go_sem, hne, sh]; done) | (simp only [go_sem, hne, sh]; and_intros <;> first | omega | rfl | decide)) (by simp only [resA, resV, Try.results22, go_sem, hne, sh]; try rfl) ?_ hn' h0' ?_ (by repeat (first | exact Fr.rfl' _ _ | assumption | refine Fr.updk ?_ (by omega) _)) <;> simp only [go_sem, List.length_map, hne, sh] <;> first | rfl | omega
theorem firstVars_tri (l : List Tm) (hl : Tm.size.sizes l ≤ 4000000) : Tri Try.prog 22 [.d (.sl (l.map tmDV))] (pure' (.d (.sl ((firstVars l).map iD)))) := Tri.data fun n' => firstVars_new l hl n'
end Go.Proofs.Ytmeekpinkfpnhaa
