/- Values of terms in models: what is plain. No program in sight. Clauses in models: what is plain. No program in sight. clause.Neat, clause.Tidy. superposeref.TidyOf. maps.Clone. -/
import Derived.Test.YtmeekpinkfpnhaaB04
import Derived.Test.YtmeekpinkfpnhaaB06
import Derived.Test.YtmeekpinkfpnhaaB16
import Derived.Test.YtmeekpinkfpnhaaB17
import Derived.Shelf.SlMaps.Clone
set_option linter.unusedSimpArgs false
set_option linter.unusedSectionVars false
set_option linter.unusedVariables false
set_option linter.unnecessarySimpa false
set_option linter.all false
namespace Go.Proofs.Ytmeekpinkfpnhaa
mutual
def valM (sz : Int) (tb : List (List Int)) (vs : Int → Int) : Tm → Int
  | .mk v f us => if v > 0 then vs v else (tb.getD f.toNat []).getD (valL sz tb vs us 0).toNat 0
def valL (sz : Int) (tb : List (List Int)) (vs : Int → Int) : List Tm → Int → Int
  | [], a => a
  | x :: xs, a => valL sz tb vs xs (a * sz + valM sz tb vs x)
end
theorem valM_eq (sz : Int) (tb : List (List Int)) (vs : Int → Int) (t : Tm) : valM sz tb vs t = if t.v > 0 then vs t.v else (tb.getD t.f.toNat []).getD (valL sz tb vs t.us 0).toNat 0 := by cases t; rw [valM]; rfl
theorem valL_at {sz : Int} {tb : List (List Int)} {vs : Int → Int} {us : List Tm} {i : Nat} (hi : i < us.length) (a : Int) : valL sz tb vs (us.drop i) a = valL sz tb vs (us.drop (i + 1)) (a * sz + valM sz tb vs us[i]) := by
  rw [List.drop_eq_getElem_cons hi, valL]
theorem valL_take {sz : Int} {tb : List (List Int)} {vs : Int → Int} : ∀ {us : List Tm} {i : Nat} (hi : i < us.length) (a : Int), valL sz tb vs (us.take (i + 1)) a = valL sz tb vs (us.take i) a * sz + valM sz tb vs us[i]
  | x :: xs, 0, _, a => by simp [valL]
  | x :: xs, i + 1, hi, a => by
    rw [List.take_succ_cons, List.take_succ_cons, valL, valL]
    exact valL_take (by simpa using hi) _
def Fine (g : List Int) (sz : Int) (vs : Int → Int) (l : List Tm) : Prop := ∀ x ∈ l, formOne g x.v x.f x.us.length = 0 ∧ (x.v > 0 → 0 ≤ vs x.v ∧ vs x.v < sz)
section
variable {g : List Int} {sz : Int} {tb : List (List Int)} {vs : Int → Int} (hm : mdOk g sz tb = 0)
include hm
theorem md_row {f : Int} (h0 : 0 ≤ f) (h1 : f < g.length) : ∃ h : f.toNat < tb.length, (tb[f.toNat].length : Int) = sz ^ (g.getD f.toNat 0).toNat ∧ ∀ n ∈ tb[f.toNat], 0 ≤ n ∧ n < sz := by
  obtain ⟨h2, h3, h4, h5, h6, h7⟩ := mdOk_all hm
  have h : f.toNat < g.length := by omega
  refine ⟨by omega, ?_, h7 _ (List.getElem_mem _)⟩
  rw [rowsBad_all h6 f.toNat h (by omega), getD_at h]
mutual
theorem valM_ok : ∀ t : Tm, Fine g sz vs (parts t) → 0 ≤ valM sz tb vs t ∧ valM sz tb vs t < sz
  | .mk v f us, hf => by
    have h0 := hf (.mk v f us) (by rw [parts]; simp)
    simp only [Tm.v, Tm.f, Tm.us] at h0
    obtain ⟨h1, h2⟩ := h0
    rw [valM]
    by_cases hv : v > 0
    · rw [if_pos hv]; exact h2 hv
    · rw [if_neg hv]
      have hL := valL_ok us 0 0 (fun x hx => hf x (by rw [parts]; exact List.mem_append_left _ hx)) (by omega) (by simp)
      have hv0 := formOne_v h1
      unfold formOne at h1
      rw [if_neg (by omega)] at h1
      split at h1
      · cases h1
      · split at h1
        · cases h1
        · rename_i h3 h4
          simp only [Nat.zero_add] at hL
          obtain ⟨h5, h6, h7⟩ := md_row hm (f := f) (by omega) (by omega)
          rw [getD_at h5]
          have h8 : (g.getD f.toNat 0).toNat = us.length := by have h4 := Decidable.not_not.1 h4; omega
          rw [h8] at h6
          have h9 : (valL sz tb vs us 0).toNat < tb[f.toNat].length := by omega
          rw [getD_at h9]
          exact h7 _ (List.getElem_mem _)
theorem valL_ok : ∀ (us : List Tm) (a : Int) (j : Nat), Fine g sz vs (partsL us) → 0 ≤ a → a < sz ^ j → 0 ≤ valL sz tb vs us a ∧ valL sz tb vs us a < sz ^ (j + us.length)
  | [], a, j, _, h0, h1 => by rw [valL]; exact ⟨h0, by simpa using h1⟩
  | x :: xs, a, j, hf, h0, h1 => by
    have hx := valM_ok x fun y hy => hf y (by rw [partsL]; exact List.mem_append_left _ hy)
    obtain ⟨_, h3, h4, _⟩ := mdOk_all hm
    rw [valL]
    have := valL_ok xs (a * sz + valM sz tb vs x) (j + 1) (fun y hy => hf y (by rw [partsL]; exact List.mem_append_right _ hy))
      (by have : sz = 1 ∨ sz = 2 ∨ sz = 3 := by omega
          rcases this with rfl | rfl | rfl <;> omega)
      (by rw [Int.pow_succ]
          generalize sz ^ j = p at *
          have : sz = 1 ∨ sz = 2 ∨ sz = 3 := by omega
          rcases this with rfl | rfl | rfl <;> omega)
    rw [List.length_cons, show j + (xs.length + 1) = j + 1 + xs.length by omega]
    exact this
end
end
mutual
theorem valM_congr {sz : Int} {tb : List (List Int)} {vs vs' : Int → Int} : ∀ t : Tm, (∀ x ∈ parts t, x.v > 0 → vs x.v = vs' x.v) → valM sz tb vs t = valM sz tb vs' t
  | .mk v f us, h => by
    rw [valM, valM]
    by_cases hv : v > 0
    · rw [if_pos hv, if_pos hv]; exact h (.mk v f us) (by rw [parts]; simp) hv
    · rw [if_neg hv, if_neg hv, valL_congr us 0 fun x hx => h x (by rw [parts]; exact List.mem_append_left _ hx)]
theorem valL_congr {sz : Int} {tb : List (List Int)} {vs vs' : Int → Int} : ∀ (us : List Tm) (a : Int), (∀ x ∈ partsL us, x.v > 0 → vs x.v = vs' x.v) → valL sz tb vs us a = valL sz tb vs' us a
  | [], a, _ => rfl
  | x :: xs, a, h => by
    rw [valL, valL, valM_congr x fun y hy => h y (by rw [partsL]; exact List.mem_append_left _ hy)]
    exact valL_congr xs _ fun y hy => h y (by rw [partsL]; exact List.mem_append_right _ hy)
end
theorem parts_sub {t u : Tm} (hu : u ∈ t.us) : ∀ x ∈ parts u, x ∈ parts t := fun x hx => by
  rw [parts_eq]
  refine List.mem_append_left _ ?_
  obtain ⟨i, hi, rfl⟩ := List.mem_iff_getElem.1 hu
  have h := partsL_take hi
  have h2 : partsL t.us = partsL (t.us.take (i + 1)) ++ partsL (t.us.drop (i + 1)) := by rw [← partsL_append, List.take_append_drop]
  rw [h2, h]
  exact List.mem_append_left _ (List.mem_append_right _ hx)
theorem Fine.take {g : List Int} {sz : Int} {vs : Int → Int} {t : Tm} (h : Fine g sz vs (parts t)) (i : Nat) : Fine g sz vs (partsL (t.us.take i)) := fun x hx => h x (by
  rw [parts_eq]
  refine List.mem_append_left _ ?_
  have h2 : partsL t.us = partsL (t.us.take i) ++ partsL (t.us.drop i) := by rw [← partsL_append, List.take_append_drop]
  rw [h2]; exact List.mem_append_left _ hx)
end Go.Proofs.Ytmeekpinkfpnhaa
namespace Go.Proofs.Ytmeekpinkfpnhaa
def dig (sz : Int) : List Int → Int → Int → Int
  | [], _, _ => 0
  | x :: l, n, v => if v = x then n.tmod sz else dig sz l (n.tdiv sz) v
def litIn (sz : Int) (tb : List (List Int)) (vs : Int → Int) (l : Lt) : Bool := (valM sz tb vs l.a == valM sz tb vs l.b) == l.y
def holdsF (sz : Int) (tb : List (List Int)) (c : List Lt) (names : List Int) (N n : Nat) : Bool := ((List.range N).drop n).all fun i => c.any (litIn sz tb (dig sz names i))
def holdsC (sz : Int) (tb : List (List Int)) (c : List Lt) : Bool := holdsF sz tb c (firstVars (termsOf c)) (sz ^ (firstVars (termsOf c)).length).toNat 0
theorem holdsF_at {sz : Int} {tb : List (List Int)} {c : List Lt} {names : List Int} {N n : Nat} (hn : n < N) : holdsF sz tb c names N n = (c.any (litIn sz tb (dig sz names n)) && holdsF sz tb c names N (n + 1)) := by
  have h : n < (List.range N).length := by simpa using hn
  unfold holdsF
  rw [List.drop_eq_getElem_cons h, List.all_cons, List.getElem_range]
theorem holdsF_end {sz : Int} {tb : List (List Int)} {c : List Lt} {names : List Int} {N n : Nat} (hn : N ≤ n) : holdsF sz tb c names N n = true := by
  unfold holdsF
  rw [List.drop_eq_nil_of_le (by simpa using hn)]; rfl
theorem tmod_in {n sz : Int} (h0 : 0 ≤ n) (h1 : 1 ≤ sz) : 0 ≤ n.tmod sz ∧ n.tmod sz < sz := ⟨Int.tmod_nonneg _ h0, Int.tmod_lt_of_pos _ (by omega)⟩
theorem tdiv_in {n sz : Int} (h0 : 0 ≤ n) (h1 : 1 ≤ sz) : 0 ≤ n.tdiv sz ∧ n.tdiv sz ≤ n := ⟨Int.tdiv_nonneg h0 (by omega), by
  rw [Int.tdiv_eq_ediv_of_nonneg h0]
  exact Int.ediv_le_self _ h0⟩
theorem dig_in {sz : Int} (h1 : 1 ≤ sz) : ∀ (l : List Int) (n v : Int), 0 ≤ n → v ∈ l → 0 ≤ dig sz l n v ∧ dig sz l n v < sz
  | x :: l, n, v, h0, hv => by
    rw [dig]
    by_cases h : v = x
    · rw [if_pos h]; exact tmod_in h0 h1
    · rw [if_neg h]
      exact dig_in h1 l _ v (tdiv_in h0 h1).1 (by rcases List.mem_cons.1 hv with h2 | h2; exact absurd h2 h; exact h2)
theorem fine_lit {g : List Int} {sz : Int} {c : List Lt} {n : Int} (h1 : 1 ≤ sz) (hn : 0 ≤ n) (hc : ∀ l ∈ c, own g l.a = 0 ∧ own g l.b = 0) {l : Lt} (hl : l ∈ c) :
    (Fine g sz (dig sz (firstVars (termsOf c)) n) (parts l.a) ∧ ∀ x ∈ parts l.a, x.v > 0 → x.v ∈ firstVars (termsOf c)) ∧ (Fine g sz (dig sz (firstVars (termsOf c)) n) (parts l.b) ∧ ∀ x ∈ parts l.b, x.v > 0 → x.v ∈ firstVars (termsOf c)) := by
  have key : ∀ t, t ∈ termsOf c → own g t = 0 → Fine g sz (dig sz (firstVars (termsOf c)) n) (parts t) ∧ ∀ x ∈ parts t, x.v > 0 → x.v ∈ firstVars (termsOf c) := by
    intro t ht ho
    have hk : ∀ x ∈ parts t, x.v > 0 → x.v ∈ firstVars (termsOf c) := fun x hx hv => addVs_has (List.mem_flatMap.2 ⟨t, ht, hx⟩) hv
    exact ⟨fun x hx => ⟨own_each ho hx, fun hv => dig_in h1 _ _ _ hn (hk x hx hv)⟩, hk⟩
  exact ⟨key _ (List.mem_flatMap.2 ⟨l, hl, by simp⟩) (hc l hl).1, key _ (List.mem_flatMap.2 ⟨l, hl, by simp⟩) (hc l hl).2⟩
theorem own_vmax {g : List Int} {t : Tm} (ho : own g t = 0) {x : Tm} (hx : x ∈ parts t) (hv : x.v > 0) : x.v ≤ 1000 := by
  have h1 := own_each ho hx
  unfold formOne at h1
  rw [if_pos (by omega)] at h1
  split at h1
  · cases h1
  · omega
theorem termsOf_own {g : List Int} {c : List Lt} (hc : ∀ l ∈ c, own g l.a = 0 ∧ own g l.b = 0) : ∀ t ∈ termsOf c, own g t = 0 := by
  intro t ht
  obtain ⟨l, hl, h⟩ := List.mem_flatMap.1 ht
  simp at h
  rcases h with rfl | rfl
  · exact (hc l hl).1
  · exact (hc l hl).2
theorem names_in {g : List Int} {c : List Lt} (hc : ∀ l ∈ c, own g l.a = 0 ∧ own g l.b = 0) : ∀ v ∈ firstVars (termsOf c), 1 ≤ v ∧ v ≤ 1000 := by
  intro v hv
  rcases addVs_mem hv with h | ⟨x, hx, rfl, h2⟩
  · simp at h
  · obtain ⟨t, ht, hx⟩ := List.mem_flatMap.1 hx
    exact ⟨by omega, own_vmax (termsOf_own hc t ht) hx h2⟩
theorem flat_len (l : List Tm) : (l.flatMap parts).length = Tm.size.sizes l := by
  induction l with
  | nil => rfl
  | cons x xs ih => rw [List.flatMap_cons, List.length_append, ih, Tm.size.sizes, parts_len]
theorem firstVars_len (l : List Tm) : (firstVars l).length ≤ Tm.size.sizes l := by
  have h1 := addVs_len (l.flatMap parts) []
  rw [flat_len] at h1
  simpa [firstVars] using h1
theorem clsOk_one {g : List Int} {c : List Lt} (h : clsOk g [c] = 0) : c.length ≤ 8 ∧ ∀ l ∈ c, own g l.a = 0 ∧ own g l.b = 0 := clOk_all ((clsOk_all h).2.2 c (by simp))
theorem stands_cl {g : List Int} {c : List Lt} (hc : ∀ l ∈ c, own g l.a = 0 ∧ own g l.b = 0) : addVs [] ((termsOf c).flatMap pre) = firstVars (termsOf c) := stands_eq (fun t ht => own_bare (termsOf_own hc t ht)) []
theorem termsOf_size {g : List Int} {c : List Lt} (hc : ∀ l ∈ c, own g l.a = 0 ∧ own g l.b = 0) : Tm.size.sizes (termsOf c) ≤ 240 * c.length := by
  induction c with
  | nil => simp [termsOf, Tm.size.sizes]
  | cons l c ih =>
    have h1 := hc l (by simp)
    have h2 := own_parts h1.1
    have h3 := own_parts h1.2
    have h4 := ih fun x hx => hc x (by simp [hx])
    rw [parts_len] at h2 h3
    have : termsOf (l :: c) = l.a :: l.b :: termsOf c := rfl
    rw [this, Tm.size.sizes, Tm.size.sizes, List.length_cons]
    omega
end Go.Proofs.Ytmeekpinkfpnhaa
namespace Go.Proofs.Ytmeekpinkfpnhaa
open Go.RowKit
structure Small (c : List Lt) : Prop where
  len : c.length ≤ 1000
  a : ∀ l ∈ c, l.a.size ≤ 1000
  b : ∀ l ∈ c, l.b.size ≤ 1000
theorem Small.tail {l : Lt} {c : List Lt} (h : Small (l :: c)) : Small c := ⟨by have := h.len; simp at this; omega, fun x hx => h.a x (by simp [hx]), fun x hx => h.b x (by simp [hx])⟩
theorem small_sizes : ∀ c : List Lt, (∀ l ∈ c, l.a.size ≤ 1000 ∧ l.b.size ≤ 1000) → Tm.size.sizes (termsOf c) ≤ 2000 * c.length
  | [], _ => by simp [termsOf, Tm.size.sizes]
  | l :: c, h => by
    have h1 := h l (by simp)
    have h4 := small_sizes c fun x hx => h x (by simp [hx])
    have : termsOf (l :: c) = l.a :: l.b :: termsOf c := rfl
    rw [this, Tm.size.sizes, Tm.size.sizes, List.length_cons]
    omega
theorem Small.sub {c d : List Lt} (h : Small c) (hl : d.length ≤ c.length) (hm : ∀ l ∈ d, l ∈ c) : Small d := ⟨by have := h.len; omega, fun l hl => h.a l (hm l hl), fun l hl => h.b l (hm l hl)⟩
theorem Small.keep {c : List Lt} (h : Small c) : Small (keepG [] c) := by
  rw [keep_nil]; exact h.sub (keepR_len c []) fun l hl => keepR_mem hl
theorem Small.sizes {c : List Lt} (h : Small c) : Tm.size.sizes (termsOf c) ≤ 4000000 := by
  have := small_sizes c fun l hl => ⟨h.a l hl, h.b l hl⟩
  have := h.len
  omega
theorem Small.vars {c : List Lt} (h : Small c) : (addVs [] ((termsOf c).flatMap pre)).length ≤ 4000000 := by
  have h1 := addVs_len ((termsOf c).flatMap pre) []
  rw [← preL_flat, preL_len] at h1
  have := h.sizes
  rw [← preL_flat]
  simp at h1; omega
theorem keepG_at {o c : List Lt} {i : Nat} (hi : i < c.length) : keepG o (c.drop i) = if dropB o c[i] = true then keepG o (c.drop (i + 1)) else keepG (o ++ [c[i]]) (c.drop (i + 1)) := by
  rw [List.drop_eq_getElem_cons hi, keepG]
theorem lookB_none {v : Int} : ∀ {b : Bs}, (∀ p ∈ b, p.1 ≠ v) → lookB v b = none
  | [], _ => rfl
  | p :: b, h => by
    rw [lookB, if_neg (fun e => h p (by simp) e.symm)]
    exact lookB_none fun q hq => h q (by simp [hq])
theorem num_take {V : List Int} {i : Nat} (hi : i < V.length) : numBs (V.take (i + 1)) 0 = numBs (V.take i) 0 ++ [(V[i], .mk ((i : Int) + 1) 0 [])] := by
  rw [List.take_succ_eq_append_getElem hi, numBs_append, List.length_take, Nat.min_eq_left (by omega)]
  simp [numBs]
theorem num_none {V : List Int} (hn : V.Nodup) {i : Nat} (hi : i < V.length) : lookB V[i] (numBs (V.take i) 0) = none := by
  refine lookB_none fun p hp e => ?_
  have := (numBs_mem hp).1
  rw [e] at this
  obtain ⟨j, hj, h2⟩ := List.getElem_of_mem this
  rw [List.length_take] at hj
  rw [List.getElem_take] at h2
  have := (List.getElem_inj hn).1 h2
  omega
theorem tm_leaf (v f : Int) : DV.st [iD v, iD f, .sl []] = tmDV (.mk v f []) := by rw [tmDV_eq]; rfl
set_option maxHeartbeats 4000000 in
set_option maxRecDepth 20000 in
theorem neat_tri (c : List Lt) (hc : Small c) : Tri Try.prog 88 [.d (clDV c)] (pure' (.d (clDV (neatG c)))) := by
  have hcl := hc.len
  refine tri_enter Try.func88 rfl Try.ntmps88 (by simp only [List.length_cons, List.length_nil]; omega) fun w0 h0 k hrd hwr => ?_
  repeat' (first | refine awp_ghost (ghost_nil (i := 3) (e := 107) rfl) ?_ | refine awp_seq_k fun K hK => ?_ | ((first | refine awp_region_k (by kernel_rfl) fun R hR => ?_ | refine awp_draw mixed (by kernel_rfl) (by kernel_rfl) fun R hR => ?_); simp only [go_sem]) | ((first | (refine hR _ ?_; clear hR R) | refine awp_skip ?_ | refine awp_exit ?_ | refine awp_ret ?_); try simp only [thenA, inBlockA, reduceIte, reduceCtorEq, Nat.reduceEqDiff, if_false, if_true]) | ((first | refine hK _ ?_ | (clear hK K; first | refine hK _ ?_ | (clear hK K; first | refine hK _ ?_ | (clear hK K; first | refine hK _ ?_ | (clear hK K; refine hK _ ?_))))); clear hK K) | refine awp_true rfl rfl ?_ | refine awp_false rfl rfl ?_ | refine awp_block ?_ | refine And.intro (by first | ((repeat' first | omega | exact trivial | rfl | assumption | (intro a e; subst e; rfl) | exact map_sz fun a => (by simp only [go_sem]) | refine And.intro ?_ ?_); done) | fail) ?_ | fail)
  refine awp_loop (fun σ => ∃ (i : Nat) (o : List Lt), σ.t 3 = .own (k + 1 + 1, 0) (o.map ltDV) ∧ σ.t 9 = .d (clDV c) ∧ σ.t 10 = iA c.length ∧ σ.t 11 = iA i ∧
    σ.h (k + 1 + 1, 0) = some (.perm 107 o.length) ∧ Fr k h0 σ.h ∧ k + 1 + 1 < σ.k ∧ i ≤ c.length ∧ o.length ≤ i ∧ keepG o (c.drop i) = keepG [] c) (fun σ => c.length - (intOf' (σ.t 11)).toNat) ?_ ?_
  · refine ⟨0, [], ?_⟩
    simp only [go_sem, List.drop_zero, List.map_nil]
    and_intros; all_goals try (first | rfl | omega | assumption | ((repeat (first | exact Fr.rfl' _ _ | assumption | refine Fr.updk ?_ (by omega) _)); done))
  · rintro σ ⟨i, o, s3, s9, s10, s11, sh, hF, hk, hi, ho, hv⟩
    have hne2 := ltne hk
    rcases Nat.lt_or_ge i c.length with hlt | hge
    · have hz : (i : Int) < (c.length : Int) := by omega
      have e1 : (c.map ltDV).getD i default = ltDV c[i] := nth_map ltDV hlt _
      have etk : o.map ltDV ++ [ltDV c[i]] = (o ++ [c[i]]).map ltDV := by simp
      rw [keepG_at hlt] at hv
      have hcf := containsF_lits o (by omega) 117 (enter117) [.ptr (σ.k + 1, 2) 0] (ltO (σ.k + 1, 2) c[i]) (fun x => x.y == c[i].y && sidesB x c[i]) (fun x _ => neat1_tri (σ.k + 1, 2) c[i] x)
      cases hy : c[i].y with
      | false =>
        cases hs : same c[i].a c[i].b with
        | true =>
          have hd : dropB o c[i] = true := by unfold dropB; rw [hy, hs]; rfl
          rw [if_pos hd] at hv
          repeat' (first | refine awp_seq_k fun K hK => ?_ | ((first | refine awp_region_k (by kernel_rfl) fun R hR => ?_ | refine awp_draw mixed (by kernel_rfl) (by kernel_rfl) fun R hR => ?_); simp only [go_sem, s3, s9, s10, s11, sh, hz, e1, hne2, hy, hs, List.length_map, Int.toNat_natCast]) | ((first | (refine hR _ ?_; clear hR R) | refine awp_skip ?_ | refine awp_exit ?_ | refine awp_ret ?_); try simp only [thenA, inBlockA, reduceIte, reduceCtorEq, Nat.reduceEqDiff, if_false, if_true]) | ((first | refine hK _ ?_ | (clear hK K; first | refine hK _ ?_ | (clear hK K; first | refine hK _ ?_ | (clear hK K; first | refine hK _ ?_ | (clear hK K; refine hK _ ?_))))); clear hK K) | refine awp_true rfl rfl ?_ | refine awp_false rfl rfl ?_ | refine awp_block ?_ | ((first | refine CallK.pure (enter116) (same_tri c[i].a c[i].b) ?_ ?_ | refine CallD.pure (enter116) (same_tri c[i].a c[i].b) ?_ ?_); (focus first | ((repeat (first | exact trivial | refine ⟨(by first | exact Or.inl rfl | exact Or.inr rfl), ?_⟩)); done) | (simp only [coL, AV.dat, true_or, or_true, AV.d.injEq, go_sem]; done)); simp only [go_sem, s3, s9, s10, s11, sh, hz, e1, hne2, hy, hs, List.length_map, Int.toNat_natCast]) | refine And.intro (by first | ((repeat' first | omega | exact trivial | rfl | assumption | (intro a e; subst e; rfl) | exact map_sz fun a => (by simp only [go_sem]) | refine And.intro ?_ ?_); done) | fail) ?_ | fail)
          refine ⟨⟨i + 1, o, ?_⟩, ?_⟩
          rotate_left
          · simp only [go_sem, s3, s9, s10, s11, sh, hne2, List.length_map]; omega
          simp only [go_sem, s3, s9, s10, s11, sh, hne2, List.length_map]
          and_intros; all_goals try (first | rfl | omega | assumption | ((repeat (first | exact Fr.rfl' _ _ | assumption | refine Fr.updk ?_ (by omega) _)); done))
        | false =>
          have hd : dropB o c[i] = o.any fun x => x.y == c[i].y && sidesB x c[i] := by unfold dropB; rw [hs, Bool.and_false, Bool.false_or]
          rw [hd] at hv
          cases hq : o.any fun x => x.y == c[i].y && sidesB x c[i] with
          | true =>
            rw [hq] at hcf hv
            rw [if_pos rfl] at hv
            repeat' (first | refine awp_seq_k fun K hK => ?_ | ((first | refine awp_region_k (by kernel_rfl) fun R hR => ?_ | refine awp_draw mixed (by kernel_rfl) (by kernel_rfl) fun R hR => ?_); simp only [go_sem, s3, s9, s10, s11, sh, hz, e1, hne2, hy, hs, List.length_map, Int.toNat_natCast]) | ((first | (refine hR _ ?_; clear hR R) | refine awp_skip ?_ | refine awp_exit ?_ | refine awp_ret ?_); try simp only [thenA, inBlockA, reduceIte, reduceCtorEq, Nat.reduceEqDiff, if_false, if_true]) | ((first | refine hK _ ?_ | (clear hK K; first | refine hK _ ?_ | (clear hK K; first | refine hK _ ?_ | (clear hK K; first | refine hK _ ?_ | (clear hK K; refine hK _ ?_))))); clear hK K) | refine awp_true rfl rfl ?_ | refine awp_false rfl rfl ?_ | refine awp_block ?_ | ((first | refine CallK.pure (enter116) (same_tri c[i].a c[i].b) ?_ ?_ | refine CallD.pure (enter116) (same_tri c[i].a c[i].b) ?_ ?_ | refine CallK.look (enter78) (hcf) ?_ (roLt (k := σ.k + 1 + 1) (Nat.lt_succ_self _) (by simp only [go_sem, ltC, hy])) (Fr.rfl' _ _) ?_ | refine CallD.look (enter78) (hcf) ?_ (roLt (k := σ.k + 1 + 1) (Nat.lt_succ_self _) (by simp only [go_sem, ltC, hy])) (Fr.rfl' _ _) (by first | assumption | exact List.cons_ne_nil _ _) ?_); (focus first | ((repeat (first | exact trivial | refine ⟨(by first | exact Or.inl rfl | exact Or.inr rfl), ?_⟩)); done) | (simp only [coL, AV.dat, true_or, or_true, AV.d.injEq, go_sem]; done)); simp only [go_sem, s3, s9, s10, s11, sh, hz, e1, hne2, hy, hs, List.length_map, Int.toNat_natCast]) | refine And.intro (by first | ((repeat' first | omega | exact trivial | rfl | assumption | (intro a e; subst e; rfl) | exact map_sz fun a => (by simp only [go_sem]) | refine And.intro ?_ ?_); done) | fail) ?_ | fail)
            refine ⟨⟨i + 1, o, ?_⟩, ?_⟩
            rotate_left
            · simp only [go_sem, s3, s9, s10, s11, sh, hne2, List.length_map]; omega
            simp only [go_sem, s3, s9, s10, s11, sh, hne2, List.length_map]
            and_intros; all_goals try (first | rfl | omega | assumption | ((repeat (first | exact Fr.rfl' _ _ | assumption | refine Fr.updk ?_ (by omega) _)); done))
          | false =>
            rw [hq] at hcf hv
            rw [if_neg (by simp)] at hv
            repeat' (first | refine awp_seq_k fun K hK => ?_ | ((first | refine awp_region_k (by kernel_rfl) fun R hR => ?_ | refine awp_draw mixed (by kernel_rfl) (by kernel_rfl) fun R hR => ?_); simp only [go_sem, s3, s9, s10, s11, sh, hz, e1, hne2, hy, hs, List.length_map, Int.toNat_natCast]) | ((first | (refine hR _ ?_; clear hR R) | refine awp_skip ?_ | refine awp_exit ?_ | refine awp_ret ?_); try simp only [thenA, inBlockA, reduceIte, reduceCtorEq, Nat.reduceEqDiff, if_false, if_true]) | ((first | refine hK _ ?_ | (clear hK K; first | refine hK _ ?_ | (clear hK K; first | refine hK _ ?_ | (clear hK K; first | refine hK _ ?_ | (clear hK K; refine hK _ ?_))))); clear hK K) | refine awp_true rfl rfl ?_ | refine awp_false rfl rfl ?_ | refine awp_block ?_ | ((first | refine CallK.pure (enter116) (same_tri c[i].a c[i].b) ?_ ?_ | refine CallD.pure (enter116) (same_tri c[i].a c[i].b) ?_ ?_ | refine CallK.look (enter78) (hcf) ?_ (roLt (k := σ.k + 1 + 1) (Nat.lt_succ_self _) (by simp only [go_sem, ltC, hy])) (Fr.rfl' _ _) ?_ | refine CallD.look (enter78) (hcf) ?_ (roLt (k := σ.k + 1 + 1) (Nat.lt_succ_self _) (by simp only [go_sem, ltC, hy])) (Fr.rfl' _ _) (by first | assumption | exact List.cons_ne_nil _ _) ?_); (focus first | ((repeat (first | exact trivial | refine ⟨(by first | exact Or.inl rfl | exact Or.inr rfl), ?_⟩)); done) | (simp only [coL, AV.dat, true_or, or_true, AV.d.injEq, go_sem]; done)); simp only [go_sem, s3, s9, s10, s11, sh, hz, e1, hne2, hy, hs, List.length_map, Int.toNat_natCast]) | refine And.intro (by first | ((repeat' first | omega | exact trivial | rfl | assumption | (intro a e; subst e; rfl) | exact map_sz fun a => (by simp only [go_sem]) | refine And.intro ?_ ?_); done) | fail) ?_ | fail)
            have ely : DV.st [bD false, iD c[i].a.v, iD c[i].a.f, .sl (c[i].a.us.map tmDV), iD c[i].b.v, iD c[i].b.f, .sl (c[i].b.us.map tmDV)] = ltDV c[i] := by rw [ltDV, hy]
            refine ⟨⟨i + 1, o ++ [c[i]], ?_⟩, ?_⟩
            rotate_left
            · simp only [go_sem, s3, s9, s10, s11, sh, hne2, ely, etk, List.length_map]; omega
            simp only [go_sem, s3, s9, s10, s11, sh, hne2, ely, etk, List.length_map]
            and_intros; all_goals try (first | rfl | omega | assumption | ((repeat (first | exact Fr.rfl' _ _ | assumption | refine Fr.updk ?_ (by omega) _)); done))
            all_goals (simp only [List.length_append, List.length_singleton]; omega)
      | true =>
        have hd : dropB o c[i] = o.any fun x => x.y == c[i].y && sidesB x c[i] := by unfold dropB; rw [hy]; rfl
        rw [hd] at hv
        cases hq : o.any fun x => x.y == c[i].y && sidesB x c[i] with
        | true =>
          rw [hq] at hcf hv
          rw [if_pos rfl] at hv
          repeat' (first | refine awp_seq_k fun K hK => ?_ | ((first | refine awp_region_k (by kernel_rfl) fun R hR => ?_ | refine awp_draw mixed (by kernel_rfl) (by kernel_rfl) fun R hR => ?_); simp only [go_sem, s3, s9, s10, s11, sh, hz, e1, hne2, hy, List.length_map, Int.toNat_natCast]) | ((first | (refine hR _ ?_; clear hR R) | refine awp_skip ?_ | refine awp_exit ?_ | refine awp_ret ?_); try simp only [thenA, inBlockA, reduceIte, reduceCtorEq, Nat.reduceEqDiff, if_false, if_true]) | ((first | refine hK _ ?_ | (clear hK K; first | refine hK _ ?_ | (clear hK K; first | refine hK _ ?_ | (clear hK K; first | refine hK _ ?_ | (clear hK K; refine hK _ ?_))))); clear hK K) | refine awp_true rfl rfl ?_ | refine awp_false rfl rfl ?_ | refine awp_block ?_ | ((first | refine CallK.look (enter78) (hcf) ?_ (roLt (k := σ.k + 1 + 1) (Nat.lt_succ_self _) (by simp only [go_sem, ltC, hy])) (Fr.rfl' _ _) ?_ | refine CallD.look (enter78) (hcf) ?_ (roLt (k := σ.k + 1 + 1) (Nat.lt_succ_self _) (by simp only [go_sem, ltC, hy])) (Fr.rfl' _ _) (by first | assumption | exact List.cons_ne_nil _ _) ?_); (focus first | ((repeat (first | exact trivial | refine ⟨(by first | exact Or.inl rfl | exact Or.inr rfl), ?_⟩)); done) | (simp only [coL, AV.dat, true_or, or_true, AV.d.injEq, go_sem]; done)); simp only [go_sem, s3, s9, s10, s11, sh, hz, e1, hne2, hy, List.length_map, Int.toNat_natCast]) | refine And.intro (by first | ((repeat' first | omega | exact trivial | rfl | assumption | (intro a e; subst e; rfl) | exact map_sz fun a => (by simp only [go_sem]) | refine And.intro ?_ ?_); done) | fail) ?_ | fail)
          refine ⟨⟨i + 1, o, ?_⟩, ?_⟩
          rotate_left
          · simp only [go_sem, s3, s9, s10, s11, sh, hne2, List.length_map]; omega
          simp only [go_sem, s3, s9, s10, s11, sh, hne2, List.length_map]
          and_intros; all_goals try (first | rfl | omega | assumption | ((repeat (first | exact Fr.rfl' _ _ | assumption | refine Fr.updk ?_ (by omega) _)); done))
        | false =>
          rw [hq] at hcf hv
          rw [if_neg (by simp)] at hv
          repeat' (first | refine awp_seq_k fun K hK => ?_ | ((first | refine awp_region_k (by kernel_rfl) fun R hR => ?_ | refine awp_draw mixed (by kernel_rfl) (by kernel_rfl) fun R hR => ?_); simp only [go_sem, s3, s9, s10, s11, sh, hz, e1, hne2, hy, List.length_map, Int.toNat_natCast]) | ((first | (refine hR _ ?_; clear hR R) | refine awp_skip ?_ | refine awp_exit ?_ | refine awp_ret ?_); try simp only [thenA, inBlockA, reduceIte, reduceCtorEq, Nat.reduceEqDiff, if_false, if_true]) | ((first | refine hK _ ?_ | (clear hK K; first | refine hK _ ?_ | (clear hK K; first | refine hK _ ?_ | (clear hK K; first | refine hK _ ?_ | (clear hK K; refine hK _ ?_))))); clear hK K) | refine awp_true rfl rfl ?_ | refine awp_false rfl rfl ?_ | refine awp_block ?_ | ((first | refine CallK.look (enter78) (hcf) ?_ (roLt (k := σ.k + 1 + 1) (Nat.lt_succ_self _) (by simp only [go_sem, ltC, hy])) (Fr.rfl' _ _) ?_ | refine CallD.look (enter78) (hcf) ?_ (roLt (k := σ.k + 1 + 1) (Nat.lt_succ_self _) (by simp only [go_sem, ltC, hy])) (Fr.rfl' _ _) (by first | assumption | exact List.cons_ne_nil _ _) ?_); (focus first | ((repeat (first | exact trivial | refine ⟨(by first | exact Or.inl rfl | exact Or.inr rfl), ?_⟩)); done) | (simp only [coL, AV.dat, true_or, or_true, AV.d.injEq, go_sem]; done)); simp only [go_sem, s3, s9, s10, s11, sh, hz, e1, hne2, hy, List.length_map, Int.toNat_natCast]) | refine And.intro (by first | ((repeat' first | omega | exact trivial | rfl | assumption | (intro a e; subst e; rfl) | exact map_sz fun a => (by simp only [go_sem]) | refine And.intro ?_ ?_); done) | fail) ?_ | fail)
          have ely : DV.st [bD true, iD c[i].a.v, iD c[i].a.f, .sl (c[i].a.us.map tmDV), iD c[i].b.v, iD c[i].b.f, .sl (c[i].b.us.map tmDV)] = ltDV c[i] := by rw [ltDV, hy]
          refine ⟨⟨i + 1, o ++ [c[i]], ?_⟩, ?_⟩
          rotate_left
          · simp only [go_sem, s3, s9, s10, s11, sh, hne2, ely, etk, List.length_map]; omega
          simp only [go_sem, s3, s9, s10, s11, sh, hne2, ely, etk, List.length_map]
          and_intros; all_goals try (first | rfl | omega | assumption | ((repeat (first | exact Fr.rfl' _ _ | assumption | refine Fr.updk ?_ (by omega) _)); done))
          all_goals (simp only [List.length_append, List.length_singleton]; omega)
    · have hz : ¬ ((i : Int) < (c.length : Int)) := by omega
      rw [List.drop_eq_nil_of_le hge, keepG] at hv
      have hsm := hc.keep
      rw [← hv] at hsm
      have hol := hsm.len
      obtain ⟨V, hV⟩ : ∃ V, V = addVs [] ((termsOf o).flatMap pre) := ⟨_, rfl⟩
      have hst := stands_tri (termsOf o) hsm.sizes
      have hVl : V.length ≤ 4000000 := by rw [hV]; exact hsm.vars
      have hVn : V.Nodup := by rw [hV]; exact addVs_nodup (by simp)
      have hfin : neatG c = o.map (mapLt (mapM (madeS (numBs V 0)))) := by unfold neatG; rw [hV, hv]
      rw [← hV] at hst
      repeat' (first | refine awp_seq_k fun K hK => ?_ | ((first | refine awp_region_k (by kernel_rfl) fun R hR => ?_ | refine awp_draw mixed (by kernel_rfl) (by kernel_rfl) fun R hR => ?_); simp only [go_sem, s3, s9, s10, s11, sh, hz, hne2]) | ((first | (refine hR _ ?_; clear hR R) | refine awp_skip ?_ | refine awp_exit ?_ | refine awp_ret ?_); try simp only [thenA, inBlockA, reduceIte, reduceCtorEq, Nat.reduceEqDiff, if_false, if_true]) | ((first | refine hK _ ?_ | (clear hK K; first | refine hK _ ?_ | (clear hK K; first | refine hK _ ?_ | (clear hK K; first | refine hK _ ?_ | (clear hK K; refine hK _ ?_))))); clear hK K) | refine awp_true rfl rfl ?_ | refine awp_false rfl rfl ?_ | refine awp_block ?_ | ((first | refine CallK.pure (enter75) (terms_tri o (by omega)) ?_ ?_ | refine CallD.pure (enter75) (terms_tri o (by omega)) ?_ ?_ | refine CallK.pure (enter70) (hst) ?_ ?_ | refine CallD.pure (enter70) (hst) ?_ ?_); (focus first | ((repeat (first | exact trivial | refine ⟨(by first | exact Or.inl rfl | exact Or.inr rfl), ?_⟩)); done) | (simp only [coL, AV.dat, true_or, or_true, AV.d.injEq, go_sem]; done)); simp only [go_sem, s3, s9, s10, s11, sh, hz, hne2]) | refine And.intro (by first | ((repeat' first | omega | exact trivial | rfl | assumption | (intro a e; subst e; rfl) | exact map_sz fun a => (by simp only [go_sem]) | refine And.intro ?_ ?_); done) | fail) ?_ | fail)
      refine awp_loop (fun τ => ∃ j : Nat, τ.t 3 = .own (k + 1 + 1, 0) (o.map ltDV) ∧ τ.t 6 = .ptr (σ.k + 1, 1) 0 ∧ τ.t 38 = .d (.sl (V.map iD)) ∧ τ.t 39 = iA V.length ∧ τ.t 40 = iA j ∧
        τ.h (σ.k + 1, 1) = some (.cells 142 [.map (σ.k + 1, 0)]) ∧ τ.h (σ.k + 1, 0) = some (.map (bsE (numBs (V.take j) 0))) ∧ τ.h (k + 1 + 1, 0) = some (.perm 107 o.length) ∧ Fr k h0 τ.h ∧ σ.k + 1 < τ.k ∧ j ≤ V.length) (fun τ => V.length - (intOf' (τ.t 40)).toNat) ?_ ?_
      · refine ⟨0, ?_⟩
        simp only [go_sem, s3, sh, hne2, List.take_zero, numBs]
        and_intros; all_goals try (first | rfl | omega | assumption | ((repeat (first | exact Fr.rfl' _ _ | assumption | refine Fr.updk ?_ (by omega) _)); done))
      · rintro τ ⟨j, u3, u6, u38, u39, u40, uh, um, up, uF, uk, uj⟩
        have r1 := ltne uk
        have r2 := ltne (show k + 1 + 1 < τ.k by omega)
        have r3 := ltne (show k + 1 < σ.k by omega)
        rcases Nat.lt_or_ge j V.length with jlt | jge
        · have jz : (j : Int) < (V.length : Int) := by omega
          have e2 : (V.map iD).getD j default = iD V[j] := nth_map iD jlt _
          have hpm := putM_bs (num_none hVn jlt) (.mk ((j : Int) + 1) 0 [])
          rw [← num_take jlt] at hpm
          repeat' (first | refine awp_seq_k fun K hK => ?_ | ((first | refine awp_region_k (by kernel_rfl) fun R hR => ?_ | refine awp_draw mixed (by kernel_rfl) (by kernel_rfl) fun R hR => ?_); simp only [go_sem, u3, u6, u38, u39, u40, uh, um, up, jz, e2, r1, r2, hpm, tm_leaf, Int.toNat_natCast]) | ((first | (refine hR _ ?_; clear hR R) | refine awp_skip ?_ | refine awp_exit ?_ | refine awp_ret ?_); try simp only [thenA, inBlockA, reduceIte, reduceCtorEq, Nat.reduceEqDiff, if_false, if_true]) | ((first | refine hK _ ?_ | (clear hK K; first | refine hK _ ?_ | (clear hK K; first | refine hK _ ?_ | (clear hK K; first | refine hK _ ?_ | (clear hK K; refine hK _ ?_))))); clear hK K) | refine awp_true rfl rfl ?_ | refine awp_false rfl rfl ?_ | refine awp_block ?_ | refine And.intro (by first | ((repeat' first | omega | exact trivial | rfl | assumption | (intro a e; subst e; rfl) | exact map_sz fun a => (by simp only [go_sem]) | refine And.intro ?_ ?_); done) | fail) ?_ | fail)
          refine ⟨⟨j + 1, ?_⟩, ?_⟩
          rotate_left
          · simp only [go_sem, u3, u6, u38, u39, u40, uh, um, up, r1, r2, r3]; omega
          simp only [go_sem, u3, u6, u38, u39, u40, uh, um, up, r1, r2, r3]
          and_intros; all_goals try (first | rfl | omega | assumption | ((repeat (first | exact Fr.rfl' _ _ | assumption | refine Fr.updk ?_ (by omega) _)); done))
        · have jz : ¬ ((j : Int) < (V.length : Int)) := by omega
          obtain rfl : j = V.length := by omega
          rw [List.take_length] at um
          have hbs : ∀ p ∈ numBs V 0, p.2.size ≤ 4000000 := fun p hp => by
            have := (numBs_mem hp).2.1
            have e := p.2.size_eq
            rw [this] at e
            simp [Tm.size.sizes] at e
            omega
          have hea := each_tri 120 [.ptr (σ.k + 1, 1) 0] (bsO (σ.k + 1, 1) (σ.k + 1, 0) (numBs V 0)) (mapM (madeS (numBs V 0))) (enter120) (by simp) o (by omega) (fun l hl => ⟨neat2_tri _ _ _ hbs l.a (by have := hsm.a l hl; omega), neat2_tri _ _ _ hbs l.b (by have := hsm.b l hl; omega)⟩)
          repeat' (first | refine awp_seq_k fun K hK => ?_ | ((first | refine awp_region_k (by kernel_rfl) fun R hR => ?_ | refine awp_draw mixed (by kernel_rfl) (by kernel_rfl) fun R hR => ?_); simp only [go_sem, u3, u6, u38, u39, u40, uh, um, up, jz, r1, r2]) | ((first | (refine hR _ ?_; clear hR R) | refine awp_skip ?_ | refine awp_exit ?_ | refine awp_ret ?_); try simp only [thenA, inBlockA, reduceIte, reduceCtorEq, Nat.reduceEqDiff, if_false, if_true]) | ((first | refine hK _ ?_ | (clear hK K; first | refine hK _ ?_ | (clear hK K; first | refine hK _ ?_ | (clear hK K; first | refine hK _ ?_ | (clear hK K; refine hK _ ?_))))); clear hK K) | refine awp_true rfl rfl ?_ | refine awp_false rfl rfl ?_ | refine awp_block ?_ | ((first | refine CallK.look (enter119) (hea) ?_ (roBs (k := τ.k) (by show σ.k + 1 < τ.k; omega) (by show σ.k + 1 < τ.k; omega) (by simp only [go_sem, uh]) (by simp only [go_sem, um])) (Fr.rfl' _ _) ?_ | refine CallD.look (enter119) (hea) ?_ (roBs (k := τ.k) (by show σ.k + 1 < τ.k; omega) (by show σ.k + 1 < τ.k; omega) (by simp only [go_sem, uh]) (by simp only [go_sem, um])) (Fr.rfl' _ _) (by first | assumption | exact List.cons_ne_nil _ _) ?_); (focus first | ((repeat (first | exact trivial | refine ⟨(by first | exact Or.inl rfl | exact Or.inr rfl), ?_⟩)); done) | (simp only [coL, AV.dat, true_or, or_true, AV.d.injEq, go_sem]; done)); simp only [go_sem, u3, u6, u38, u39, u40, uh, um, up, jz, r1, r2]) | refine And.intro (by first | ((repeat' first | omega | exact trivial | rfl | assumption | (intro a e; subst e; rfl) | exact map_sz fun a => (by simp only [go_sem]) | refine And.intro ?_ ?_); done) | fail) ?_ | fail)
          rw [hfin]
          (first | refine ret_pure ?_ ?_ ?_ | refine ret_ro ?_ ?_ ?_); focus exact (by simp only [Try.results88, resOkL, resOk, Try.ntmps88, List.toList_toArray]; first | decide | (simp only [go_sem]; done) | (simp only [go_sem]; and_intros <;> first | omega | rfl | decide))
          rotate_left; focus exact (by repeat (first | exact Fr.rfl' _ _ | assumption | refine Fr.updk ?_ (by omega) _))
          simp only [resA, resV, Try.results88, go_sem]
          all_goals try (first | exact Co.t2 (.dat rfl) (.dat rfl) | exact Co.t3 (.dat rfl) (.dat rfl) (.dat rfl))
          all_goals exact .dat rfl
def tidyAns (g : List Int) (c : List Lt) : List Lt × Int := if clsOk g [c] ≠ 0 then ([], clsOk g [c]) else (neatG c, 0)
theorem small_own {g : List Int} {c : List Lt} (h : clsOk g [c] = 0) : Small c := by
  obtain ⟨h1, h2⟩ := clsOk_one h
  refine ⟨by omega, fun l hl => ?_, fun l hl => ?_⟩
  · have := own_parts (h2 l hl).1; rw [parts_len] at this; omega
  · have := own_parts (h2 l hl).2; rw [parts_len] at this; omega
set_option maxRecDepth 20000 in
theorem tidy_tri (g : List Int) (c : List Lt) (hc : c.length ≤ 4000000) : Tri Try.prog 29 [.d (sgDV g), .d (clDV c)] (pure' (.tup [.d (clDV (tidyAns g c).1), iA (tidyAns g c).2])) := by
  refine tri_enter Try.func29 rfl Try.ntmps29 (by simp only [List.length_cons, List.length_nil]; omega) fun w0 h0 k hrd hwr => ?_
  cases ho : clsOk g [c] == 0 with
  | false =>
    have ho' : (clsOk g [c] != 0) = true := by simpa using ho
    have ha : tidyAns g c = ([], clsOk g [c]) := by unfold tidyAns; rw [if_pos (by simpa using ho)]
    repeat' (first | refine awp_seq_k fun K hK => ?_ | ((first | refine awp_region_k (by kernel_rfl) fun R hR => ?_ | refine awp_draw mixed (by kernel_rfl) (by kernel_rfl) fun R hR => ?_); simp only [go_sem, ho']) | ((first | (refine hR _ ?_; clear hR R) | refine awp_skip ?_ | refine awp_exit ?_ | refine awp_ret ?_); try simp only [thenA, inBlockA, reduceIte, reduceCtorEq, Nat.reduceEqDiff, if_false, if_true]) | ((first | refine hK _ ?_ | (clear hK K; first | refine hK _ ?_ | (clear hK K; first | refine hK _ ?_ | (clear hK K; first | refine hK _ ?_ | (clear hK K; refine hK _ ?_))))); clear hK K) | refine awp_true rfl rfl ?_ | refine awp_false rfl rfl ?_ | refine awp_block ?_ | ((first | refine CallK.pure (enter87) (one_tri g c hc) ?_ ?_ | refine CallD.pure (enter87) (one_tri g c hc) ?_ ?_); (focus first | ((repeat (first | exact trivial | refine ⟨(by first | exact Or.inl rfl | exact Or.inr rfl), ?_⟩)); done) | (simp only [coL, AV.dat, true_or, or_true, AV.d.injEq, go_sem]; done)); simp only [go_sem, ho']) | refine And.intro (by first | ((repeat' first | omega | exact trivial | rfl | assumption | (intro a e; subst e; rfl) | exact map_sz fun a => (by simp only [go_sem]) | refine And.intro ?_ ?_); done) | fail) ?_ | fail)
    rw [ha]
    (first | refine ret_pure ?_ ?_ ?_ | refine ret_ro ?_ ?_ ?_); focus exact (by simp only [Try.results29, resOkL, resOk, Try.ntmps29, List.toList_toArray]; first | decide | (simp only [go_sem]; done) | (simp only [go_sem]; and_intros <;> first | omega | rfl | decide))
    rotate_left; focus exact (by repeat (first | exact Fr.rfl' _ _ | assumption | refine Fr.updk ?_ (by omega) _))
    simp only [resA, resV, Try.results29, go_sem]
    all_goals try (first | exact Co.t2 (.dat rfl) (.dat rfl) | exact Co.t3 (.dat rfl) (.dat rfl) (.dat rfl))
  | true =>
    have ho2 : clsOk g [c] = 0 := by simpa using ho
    have ha : tidyAns g c = (neatG c, 0) := by unfold tidyAns; rw [if_neg (by simp [ho2])]
    repeat' (first | refine awp_seq_k fun K hK => ?_ | ((first | refine awp_region_k (by kernel_rfl) fun R hR => ?_ | refine awp_draw mixed (by kernel_rfl) (by kernel_rfl) fun R hR => ?_); simp only [go_sem, ho2, bne_self_eq_false]) | ((first | (refine hR _ ?_; clear hR R) | refine awp_skip ?_ | refine awp_exit ?_ | refine awp_ret ?_); try simp only [thenA, inBlockA, reduceIte, reduceCtorEq, Nat.reduceEqDiff, if_false, if_true]) | ((first | refine hK _ ?_ | (clear hK K; first | refine hK _ ?_ | (clear hK K; first | refine hK _ ?_ | (clear hK K; first | refine hK _ ?_ | (clear hK K; refine hK _ ?_))))); clear hK K) | refine awp_true rfl rfl ?_ | refine awp_false rfl rfl ?_ | refine awp_block ?_ | ((first | refine CallK.pure (enter87) (one_tri g c hc) ?_ ?_ | refine CallD.pure (enter87) (one_tri g c hc) ?_ ?_ | refine CallK.pure (enter88) (neat_tri c (small_own ho2)) ?_ ?_ | refine CallD.pure (enter88) (neat_tri c (small_own ho2)) ?_ ?_); (focus first | ((repeat (first | exact trivial | refine ⟨(by first | exact Or.inl rfl | exact Or.inr rfl), ?_⟩)); done) | (simp only [coL, AV.dat, true_or, or_true, AV.d.injEq, go_sem]; done)); simp only [go_sem, ho2, bne_self_eq_false]) | refine And.intro (by first | ((repeat' first | omega | exact trivial | rfl | assumption | (intro a e; subst e; rfl) | exact map_sz fun a => (by simp only [go_sem]) | refine And.intro ?_ ?_); done) | fail) ?_ | fail)
    rw [ha]
    (first | refine ret_pure ?_ ?_ ?_ | refine ret_ro ?_ ?_ ?_); focus exact (by simp only [Try.results29, resOkL, resOk, Try.ntmps29, List.toList_toArray]; first | decide | (simp only [go_sem]; done) | (simp only [go_sem]; and_intros <;> first | omega | rfl | decide))
    rotate_left; focus exact (by repeat (first | exact Fr.rfl' _ _ | assumption | refine Fr.updk ?_ (by omega) _))
    simp only [resA, resV, Try.results29, go_sem]
    all_goals try (first | exact Co.t2 (.dat rfl) (.dat rfl) | exact Co.t3 (.dat rfl) (.dat rfl) (.dat rfl))
end Go.Proofs.Ytmeekpinkfpnhaa
namespace Go.Proofs.Ytmeekpinkfpnhaa
open Go.RowKit
theorem keepR_at {c : List Lt} {i : Nat} (hi : i < c.length) : keepR (c.take i) (c.drop i) = if dropB (c.take i) c[i] = true then keepR (c.take (i + 1)) (c.drop (i + 1)) else c[i] :: keepR (c.take (i + 1)) (c.drop (i + 1)) := by
  rw [List.drop_eq_getElem_cons hi, keepR, List.take_succ_eq_append_getElem hi]
theorem leaf_bd (v i : Int) : DV.st [iD v, iD i, iD 0, .sl []] = bdDV (v, .mk i 0 []) := rfl
theorem Small.keepR {c : List Lt} (h : Small c) : Small (Go.Proofs.Ytmeekpinkfpnhaa.keepR [] c) := by rw [← keep_nil]; exact h.keep
set_option maxHeartbeats 4000000 in
set_option maxRecDepth 20000 in
theorem tidyOf_tri (c : List Lt) (hc : Small c) : Tri Try.prog 32 [.d (clDV c)] (pure' (.d (clDV (tidyR c)))) := by
  have hcl := hc.len
  refine tri_enter Try.func32 rfl Try.ntmps32 (by simp only [List.length_cons, List.length_nil]; omega) fun w0 h0 k hrd hwr => ?_
  repeat' (first | refine awp_ghost (ghost_nil (i := 3) (e := 107) rfl) ?_ | refine awp_seq_k fun K hK => ?_ | ((first | refine awp_region_k (by kernel_rfl) fun R hR => ?_ | refine awp_draw mixed (by kernel_rfl) (by kernel_rfl) fun R hR => ?_); simp only [go_sem]) | ((first | (refine hR _ ?_; clear hR R) | refine awp_skip ?_ | refine awp_exit ?_ | refine awp_ret ?_); try simp only [thenA, inBlockA, reduceIte, reduceCtorEq, Nat.reduceEqDiff, if_false, if_true]) | ((first | refine hK _ ?_ | (clear hK K; first | refine hK _ ?_ | (clear hK K; first | refine hK _ ?_ | (clear hK K; first | refine hK _ ?_ | (clear hK K; refine hK _ ?_))))); clear hK K) | refine awp_true rfl rfl ?_ | refine awp_false rfl rfl ?_ | refine awp_block ?_ | refine And.intro (by first | ((repeat' first | omega | exact trivial | rfl | assumption | (intro a e; subst e; rfl) | exact map_sz fun a => (by simp only [go_sem]) | refine And.intro ?_ ?_); done) | fail) ?_ | fail)
  refine awp_loop (fun σ => ∃ (i : Nat) (o : List Lt), σ.t 0 = .d (clDV c) ∧ σ.t 3 = .own (k + 1 + 1, 0) (o.map ltDV) ∧ σ.t 4 = iA i ∧
    σ.h (k + 1 + 1, 0) = some (.perm 107 o.length) ∧ Fr k h0 σ.h ∧ k + 1 + 1 < σ.k ∧ i ≤ c.length ∧ o.length ≤ i ∧ o ++ keepR (c.take i) (c.drop i) = keepR [] c) (fun σ => c.length - (intOf' (σ.t 4)).toNat) ?_ ?_
  · refine ⟨0, [], ?_⟩
    simp only [go_sem, List.drop_zero, List.take_zero, List.map_nil]
    and_intros; all_goals try (first | rfl | omega | assumption | ((repeat (first | exact Fr.rfl' _ _ | assumption | refine Fr.updk ?_ (by omega) _)); done))
  · rintro σ ⟨i, o, s0, s3, s4, sh, hF, hk, hi, ho, hv⟩
    have hne2 := ltne hk
    rcases Nat.lt_or_ge i c.length with hlt | hge
    · have hz : (i : Int) < (c.length : Int) := by omega
      have e1 : (c.map ltDV).getD i default = ltDV c[i] := nth_map ltDV hlt _
      have etk : o.map ltDV ++ [ltDV c[i]] = (o ++ [c[i]]).map ltDV := by simp
      rw [keepR_at hlt] at hv
      have four : c[i].y = true ∨ (c[i].y = false ∧ same c[i].a c[i].b = true) ∨ (c[i].y = false ∧ same c[i].a c[i].b = false) := by
        cases c[i].y <;> cases same c[i].a c[i].b <;> simp
      rcases four with hy | ⟨hy, hs⟩ | ⟨hy, hs⟩
      · have hd0 : (!c[i].y && same c[i].a c[i].b) = false := by simp [hy]
        repeat' (first | refine awp_seq_k fun K hK => ?_ | ((first | refine awp_region_k (by kernel_rfl) fun R hR => ?_ | refine awp_draw mixed (by kernel_rfl) (by kernel_rfl) fun R hR => ?_); simp only [go_sem, s0, s3, s4, sh, hz, e1, hne2, hy, Int.toNat_natCast]) | ((first | (refine hR _ ?_; clear hR R) | refine awp_skip ?_ | refine awp_exit ?_ | refine awp_ret ?_); try simp only [thenA, inBlockA, reduceIte, reduceCtorEq, Nat.reduceEqDiff, if_false, if_true]) | ((first | refine hK _ ?_ | (clear hK K; first | refine hK _ ?_ | (clear hK K; first | refine hK _ ?_ | (clear hK K; first | refine hK _ ?_ | (clear hK K; refine hK _ ?_))))); clear hK K) | refine awp_true rfl rfl ?_ | refine awp_false rfl rfl ?_ | refine awp_block ?_ | ((first | refine CallK.pure (enter47) (sameR_tri c[i].a c[i].b) ?_ ?_ | refine CallD.pure (enter47) (sameR_tri c[i].a c[i].b) ?_ ?_); (focus first | ((repeat (first | exact trivial | refine ⟨(by first | exact Or.inl rfl | exact Or.inr rfl), ?_⟩)); done) | (simp only [coL, AV.dat, true_or, or_true, AV.d.injEq, go_sem]; done)); simp only [go_sem, s0, s3, s4, sh, hz, e1, hne2, hy, Int.toNat_natCast]) | refine And.intro (by first | ((repeat' first | omega | exact trivial | rfl | assumption | (intro a e; subst e; rfl) | exact map_sz fun a => (by simp only [go_sem]) | refine And.intro ?_ ?_); done) | fail) ?_ | fail)
        refine awp_loop (fun τ => ∃ (j : Nat) (cur : Bool), τ.t 0 = .d (clDV c) ∧ τ.t 3 = .own (k + 1 + 1, 0) (o.map ltDV) ∧ τ.t 4 = iA i ∧ τ.t 5 = bA cur ∧ τ.t 6 = iA j ∧
          τ.h (k + 1 + 1, 0) = some (.perm 107 o.length) ∧ Fr k h0 τ.h ∧ σ.k < τ.k ∧ j ≤ i ∧ (cur || ((c.take i).drop j).any fun x => x.y == c[i].y && sidesB x c[i]) = dropB (c.take i) c[i]) (fun τ => i - (intOf' (τ.t 6)).toNat) ?_ ?_
        · refine ⟨0, false, ?_⟩
          simp only [go_sem, s0, s3, s4, sh, hne2, List.drop_zero]
          and_intros; all_goals try (first | rfl | omega | assumption | ((repeat (first | exact Fr.rfl' _ _ | assumption | refine Fr.updk ?_ (by omega) _)); done))
          unfold dropB; rw [hd0]
          try simp only [Bool.false_or, Bool.true_or]
        · rintro τ ⟨j, cur, u0, u3, u4, u5, u6, uh, uF, uk, uj, uv⟩
          have r2 := ltne (show k + 1 + 1 < τ.k by omega)
          rcases Nat.lt_or_ge j i with jlt | jge
          · have jz : (j : Int) < (i : Int) := by omega
            have jc : j < c.length := by omega
            have jz2 : (j : Int) < (c.length : Int) := by omega
            have e2 : (c.map ltDV).getD j default = ltDV c[j] := nth_map ltDV jc _
            have jt : j < (c.take i).length := by rw [List.length_take]; omega
            rw [List.drop_eq_getElem_cons jt, List.any_cons, List.getElem_take] at uv
            cases cur with
            | true =>
              rw [Bool.true_or] at uv
              repeat' (first | refine awp_seq_k fun K hK => ?_ | ((first | refine awp_region_k (by kernel_rfl) fun R hR => ?_ | refine awp_draw mixed (by kernel_rfl) (by kernel_rfl) fun R hR => ?_); simp only [go_sem, u0, u3, u4, u5, u6, uh, jz, r2, Int.toNat_natCast]) | ((first | (refine hR _ ?_; clear hR R) | refine awp_skip ?_ | refine awp_exit ?_ | refine awp_ret ?_); try simp only [thenA, inBlockA, reduceIte, reduceCtorEq, Nat.reduceEqDiff, if_false, if_true]) | ((first | refine hK _ ?_ | (clear hK K; first | refine hK _ ?_ | (clear hK K; first | refine hK _ ?_ | (clear hK K; first | refine hK _ ?_ | (clear hK K; refine hK _ ?_))))); clear hK K) | refine awp_true rfl rfl ?_ | refine awp_false rfl rfl ?_ | refine awp_block ?_ | refine And.intro (by first | ((repeat' first | omega | exact trivial | rfl | assumption | (intro a e; subst e; rfl) | exact map_sz fun a => (by simp only [go_sem]) | refine And.intro ?_ ?_); done) | fail) ?_ | fail)
              refine ⟨⟨j + 1, true, ?_⟩, ?_⟩
              rotate_left
              · simp only [go_sem, u0, u3, u4, u5, u6, uh, r2]; omega
              simp only [go_sem, u0, u3, u4, u5, u6, uh, r2]
              and_intros; all_goals try (first | rfl | omega | assumption | ((repeat (first | exact Fr.rfl' _ _ | assumption | refine Fr.updk ?_ (by omega) _)); done))
              all_goals (rw [Bool.true_or]; exact uv)
            | false =>
              rw [Bool.false_or] at uv
              cases hyk : (c[j].y == c[i].y) with
              | false =>
                rw [hyk, Bool.false_and, Bool.false_or] at uv
                repeat' (first | refine awp_seq_k fun K hK => ?_ | ((first | refine awp_region_k (by kernel_rfl) fun R hR => ?_ | refine awp_draw mixed (by kernel_rfl) (by kernel_rfl) fun R hR => ?_); simp only [go_sem, u0, u3, u4, u5, u6, uh, hz, jz, jz2, e1, e2, hyk, r2, Int.toNat_natCast]) | ((first | (refine hR _ ?_; clear hR R) | refine awp_skip ?_ | refine awp_exit ?_ | refine awp_ret ?_); try simp only [thenA, inBlockA, reduceIte, reduceCtorEq, Nat.reduceEqDiff, if_false, if_true]) | ((first | refine hK _ ?_ | (clear hK K; first | refine hK _ ?_ | (clear hK K; first | refine hK _ ?_ | (clear hK K; first | refine hK _ ?_ | (clear hK K; refine hK _ ?_))))); clear hK K) | refine awp_true rfl rfl ?_ | refine awp_false rfl rfl ?_ | refine awp_block ?_ | refine And.intro (by first | ((repeat' first | omega | exact trivial | rfl | assumption | (intro a e; subst e; rfl) | exact map_sz fun a => (by simp only [go_sem]) | refine And.intro ?_ ?_); done) | fail) ?_ | fail)
                refine ⟨⟨j + 1, false, ?_⟩, ?_⟩
                rotate_left
                · simp only [go_sem, u0, u3, u4, u5, u6, uh, r2]; omega
                simp only [go_sem, u0, u3, u4, u5, u6, uh, r2]
                and_intros; all_goals try (first | rfl | omega | assumption | ((repeat (first | exact Fr.rfl' _ _ | assumption | refine Fr.updk ?_ (by omega) _)); done))
              | true =>
                rw [hyk, Bool.true_and] at uv
                have hss := sameSides_tri c[j] c[i]
                cases hsk : sidesB c[j] c[i] with
                | false =>
                  rw [hsk] at hss
                  rw [hsk, Bool.false_or] at uv
                  repeat' (first | refine awp_seq_k fun K hK => ?_ | ((first | refine awp_region_k (by kernel_rfl) fun R hR => ?_ | refine awp_draw mixed (by kernel_rfl) (by kernel_rfl) fun R hR => ?_); simp only [go_sem, u0, u3, u4, u5, u6, uh, hz, jz, jz2, e1, e2, hyk, r2, Int.toNat_natCast]) | ((first | (refine hR _ ?_; clear hR R) | refine awp_skip ?_ | refine awp_exit ?_ | refine awp_ret ?_); try simp only [thenA, inBlockA, reduceIte, reduceCtorEq, Nat.reduceEqDiff, if_false, if_true]) | ((first | refine hK _ ?_ | (clear hK K; first | refine hK _ ?_ | (clear hK K; first | refine hK _ ?_ | (clear hK K; first | refine hK _ ?_ | (clear hK K; refine hK _ ?_))))); clear hK K) | refine awp_true rfl rfl ?_ | refine awp_false rfl rfl ?_ | refine awp_block ?_ | ((first | refine CallK.pure (enter91) (hss) ?_ ?_ | refine CallD.pure (enter91) (hss) ?_ ?_); (focus first | ((repeat (first | exact trivial | refine ⟨(by first | exact Or.inl rfl | exact Or.inr rfl), ?_⟩)); done) | (simp only [coL, AV.dat, true_or, or_true, AV.d.injEq, go_sem]; done)); simp only [go_sem, u0, u3, u4, u5, u6, uh, hz, jz, jz2, e1, e2, hyk, r2, Int.toNat_natCast]) | refine And.intro (by first | ((repeat' first | omega | exact trivial | rfl | assumption | (intro a e; subst e; rfl) | exact map_sz fun a => (by simp only [go_sem]) | refine And.intro ?_ ?_); done) | fail) ?_ | fail)
                  refine ⟨⟨j + 1, false, ?_⟩, ?_⟩
                  rotate_left
                  · simp only [go_sem, u0, u3, u4, u5, u6, uh, r2]; omega
                  simp only [go_sem, u0, u3, u4, u5, u6, uh, r2]
                  and_intros; all_goals try (first | rfl | omega | assumption | ((repeat (first | exact Fr.rfl' _ _ | assumption | refine Fr.updk ?_ (by omega) _)); done))
                | true =>
                  rw [hsk] at hss
                  rw [hsk, Bool.true_or] at uv
                  repeat' (first | refine awp_seq_k fun K hK => ?_ | ((first | refine awp_region_k (by kernel_rfl) fun R hR => ?_ | refine awp_draw mixed (by kernel_rfl) (by kernel_rfl) fun R hR => ?_); simp only [go_sem, u0, u3, u4, u5, u6, uh, hz, jz, jz2, e1, e2, hyk, r2, Int.toNat_natCast]) | ((first | (refine hR _ ?_; clear hR R) | refine awp_skip ?_ | refine awp_exit ?_ | refine awp_ret ?_); try simp only [thenA, inBlockA, reduceIte, reduceCtorEq, Nat.reduceEqDiff, if_false, if_true]) | ((first | refine hK _ ?_ | (clear hK K; first | refine hK _ ?_ | (clear hK K; first | refine hK _ ?_ | (clear hK K; first | refine hK _ ?_ | (clear hK K; refine hK _ ?_))))); clear hK K) | refine awp_true rfl rfl ?_ | refine awp_false rfl rfl ?_ | refine awp_block ?_ | ((first | refine CallK.pure (enter91) (hss) ?_ ?_ | refine CallD.pure (enter91) (hss) ?_ ?_); (focus first | ((repeat (first | exact trivial | refine ⟨(by first | exact Or.inl rfl | exact Or.inr rfl), ?_⟩)); done) | (simp only [coL, AV.dat, true_or, or_true, AV.d.injEq, go_sem]; done)); simp only [go_sem, u0, u3, u4, u5, u6, uh, hz, jz, jz2, e1, e2, hyk, r2, Int.toNat_natCast]) | refine And.intro (by first | ((repeat' first | omega | exact trivial | rfl | assumption | (intro a e; subst e; rfl) | exact map_sz fun a => (by simp only [go_sem]) | refine And.intro ?_ ?_); done) | fail) ?_ | fail)
                  refine ⟨⟨j + 1, true, ?_⟩, ?_⟩
                  rotate_left
                  · simp only [go_sem, u0, u3, u4, u5, u6, uh, r2]; omega
                  simp only [go_sem, u0, u3, u4, u5, u6, uh, r2]
                  and_intros; all_goals try (first | rfl | omega | assumption | ((repeat (first | exact Fr.rfl' _ _ | assumption | refine Fr.updk ?_ (by omega) _)); done))
                  all_goals (rw [Bool.true_or]; exact uv)
          · have jz : ¬ ((j : Int) < (i : Int)) := by omega
            obtain rfl : j = i := by omega
            rw [List.drop_eq_nil_of_le (by rw [List.length_take]; omega), List.any_nil, Bool.or_false] at uv
            rw [← uv] at hv
            cases cur with
            | true =>
              rw [if_pos rfl] at hv
              repeat' (first | refine awp_seq_k fun K hK => ?_ | ((first | refine awp_region_k (by kernel_rfl) fun R hR => ?_ | refine awp_draw mixed (by kernel_rfl) (by kernel_rfl) fun R hR => ?_); simp only [go_sem, u0, u3, u4, u5, u6, uh, jz, r2, Int.toNat_natCast]) | ((first | (refine hR _ ?_; clear hR R) | refine awp_skip ?_ | refine awp_exit ?_ | refine awp_ret ?_); try simp only [thenA, inBlockA, reduceIte, reduceCtorEq, Nat.reduceEqDiff, if_false, if_true]) | ((first | refine hK _ ?_ | (clear hK K; first | refine hK _ ?_ | (clear hK K; first | refine hK _ ?_ | (clear hK K; first | refine hK _ ?_ | (clear hK K; refine hK _ ?_))))); clear hK K) | refine awp_true rfl rfl ?_ | refine awp_false rfl rfl ?_ | refine awp_block ?_ | refine And.intro (by first | ((repeat' first | omega | exact trivial | rfl | assumption | (intro a e; subst e; rfl) | exact map_sz fun a => (by simp only [go_sem]) | refine And.intro ?_ ?_); done) | fail) ?_ | fail)
              refine ⟨⟨j + 1, o, ?_⟩, ?_⟩
              rotate_left
              · simp only [go_sem, u0, u3, u4, u5, u6, uh, r2, s4]; omega
              simp only [go_sem, u0, u3, u4, u5, u6, uh, r2, s4]
              and_intros; all_goals try (first | rfl | omega | assumption | ((repeat (first | exact Fr.rfl' _ _ | assumption | refine Fr.updk ?_ (by omega) _)); done))
            | false =>
              rw [if_neg (by simp)] at hv
              repeat' (first | refine awp_seq_k fun K hK => ?_ | ((first | refine awp_region_k (by kernel_rfl) fun R hR => ?_ | refine awp_draw mixed (by kernel_rfl) (by kernel_rfl) fun R hR => ?_); simp only [go_sem, u0, u3, u4, u5, u6, uh, hz, jz, e1, r2, List.length_map, Int.toNat_natCast]) | ((first | (refine hR _ ?_; clear hR R) | refine awp_skip ?_ | refine awp_exit ?_ | refine awp_ret ?_); try simp only [thenA, inBlockA, reduceIte, reduceCtorEq, Nat.reduceEqDiff, if_false, if_true]) | ((first | refine hK _ ?_ | (clear hK K; first | refine hK _ ?_ | (clear hK K; first | refine hK _ ?_ | (clear hK K; first | refine hK _ ?_ | (clear hK K; refine hK _ ?_))))); clear hK K) | refine awp_true rfl rfl ?_ | refine awp_false rfl rfl ?_ | refine awp_block ?_ | refine And.intro (by first | ((repeat' first | omega | exact trivial | rfl | assumption | (intro a e; subst e; rfl) | exact map_sz fun a => (by simp only [go_sem]) | refine And.intro ?_ ?_); done) | fail) ?_ | fail)
              refine ⟨⟨j + 1, o ++ [c[j]], ?_⟩, ?_⟩
              rotate_left
              · simp only [go_sem, u0, u3, u4, u5, u6, uh, r2, s4, etk, List.length_map, List.append_assoc, List.cons_append, List.nil_append]; omega
              simp only [go_sem, u0, u3, u4, u5, u6, uh, r2, s4, etk, List.length_map, List.append_assoc, List.cons_append, List.nil_append]
              and_intros; all_goals try (first | rfl | omega | assumption | ((repeat (first | exact Fr.rfl' _ _ | assumption | refine Fr.updk ?_ (by omega) _)); done))
              all_goals (simp only [List.length_append, List.length_singleton]; omega)
      · have hd0 : (!c[i].y && same c[i].a c[i].b) = true := by simp [hy, hs]
        repeat' (first | refine awp_seq_k fun K hK => ?_ | ((first | refine awp_region_k (by kernel_rfl) fun R hR => ?_ | refine awp_draw mixed (by kernel_rfl) (by kernel_rfl) fun R hR => ?_); simp only [go_sem, s0, s3, s4, sh, hz, e1, hne2, hy, hs, Int.toNat_natCast]) | ((first | (refine hR _ ?_; clear hR R) | refine awp_skip ?_ | refine awp_exit ?_ | refine awp_ret ?_); try simp only [thenA, inBlockA, reduceIte, reduceCtorEq, Nat.reduceEqDiff, if_false, if_true]) | ((first | refine hK _ ?_ | (clear hK K; first | refine hK _ ?_ | (clear hK K; first | refine hK _ ?_ | (clear hK K; first | refine hK _ ?_ | (clear hK K; refine hK _ ?_))))); clear hK K) | refine awp_true rfl rfl ?_ | refine awp_false rfl rfl ?_ | refine awp_block ?_ | ((first | refine CallK.pure (enter47) (sameR_tri c[i].a c[i].b) ?_ ?_ | refine CallD.pure (enter47) (sameR_tri c[i].a c[i].b) ?_ ?_); (focus first | ((repeat (first | exact trivial | refine ⟨(by first | exact Or.inl rfl | exact Or.inr rfl), ?_⟩)); done) | (simp only [coL, AV.dat, true_or, or_true, AV.d.injEq, go_sem]; done)); simp only [go_sem, s0, s3, s4, sh, hz, e1, hne2, hy, hs, Int.toNat_natCast]) | refine And.intro (by first | ((repeat' first | omega | exact trivial | rfl | assumption | (intro a e; subst e; rfl) | exact map_sz fun a => (by simp only [go_sem]) | refine And.intro ?_ ?_); done) | fail) ?_ | fail)
        refine awp_loop (fun τ => ∃ (j : Nat) (cur : Bool), τ.t 0 = .d (clDV c) ∧ τ.t 3 = .own (k + 1 + 1, 0) (o.map ltDV) ∧ τ.t 4 = iA i ∧ τ.t 5 = bA cur ∧ τ.t 6 = iA j ∧
          τ.h (k + 1 + 1, 0) = some (.perm 107 o.length) ∧ Fr k h0 τ.h ∧ σ.k < τ.k ∧ j ≤ i ∧ (cur || ((c.take i).drop j).any fun x => x.y == c[i].y && sidesB x c[i]) = dropB (c.take i) c[i]) (fun τ => i - (intOf' (τ.t 6)).toNat) ?_ ?_
        · refine ⟨0, true, ?_⟩
          simp only [go_sem, s0, s3, s4, sh, hne2, List.drop_zero]
          and_intros; all_goals try (first | rfl | omega | assumption | ((repeat (first | exact Fr.rfl' _ _ | assumption | refine Fr.updk ?_ (by omega) _)); done))
          unfold dropB; rw [hd0]
          try simp only [Bool.false_or, Bool.true_or]
        · rintro τ ⟨j, cur, u0, u3, u4, u5, u6, uh, uF, uk, uj, uv⟩
          have r2 := ltne (show k + 1 + 1 < τ.k by omega)
          rcases Nat.lt_or_ge j i with jlt | jge
          · have jz : (j : Int) < (i : Int) := by omega
            have jc : j < c.length := by omega
            have jz2 : (j : Int) < (c.length : Int) := by omega
            have e2 : (c.map ltDV).getD j default = ltDV c[j] := nth_map ltDV jc _
            have jt : j < (c.take i).length := by rw [List.length_take]; omega
            rw [List.drop_eq_getElem_cons jt, List.any_cons, List.getElem_take] at uv
            cases cur with
            | true =>
              rw [Bool.true_or] at uv
              repeat' (first | refine awp_seq_k fun K hK => ?_ | ((first | refine awp_region_k (by kernel_rfl) fun R hR => ?_ | refine awp_draw mixed (by kernel_rfl) (by kernel_rfl) fun R hR => ?_); simp only [go_sem, u0, u3, u4, u5, u6, uh, jz, r2, Int.toNat_natCast]) | ((first | (refine hR _ ?_; clear hR R) | refine awp_skip ?_ | refine awp_exit ?_ | refine awp_ret ?_); try simp only [thenA, inBlockA, reduceIte, reduceCtorEq, Nat.reduceEqDiff, if_false, if_true]) | ((first | refine hK _ ?_ | (clear hK K; first | refine hK _ ?_ | (clear hK K; first | refine hK _ ?_ | (clear hK K; first | refine hK _ ?_ | (clear hK K; refine hK _ ?_))))); clear hK K) | refine awp_true rfl rfl ?_ | refine awp_false rfl rfl ?_ | refine awp_block ?_ | refine And.intro (by first | ((repeat' first | omega | exact trivial | rfl | assumption | (intro a e; subst e; rfl) | exact map_sz fun a => (by simp only [go_sem]) | refine And.intro ?_ ?_); done) | fail) ?_ | fail)
              refine ⟨⟨j + 1, true, ?_⟩, ?_⟩
              rotate_left
              · simp only [go_sem, u0, u3, u4, u5, u6, uh, r2]; omega
              simp only [go_sem, u0, u3, u4, u5, u6, uh, r2]
              and_intros; all_goals try (first | rfl | omega | assumption | ((repeat (first | exact Fr.rfl' _ _ | assumption | refine Fr.updk ?_ (by omega) _)); done))
              all_goals (rw [Bool.true_or]; exact uv)
            | false =>
              rw [Bool.false_or] at uv
              cases hyk : (c[j].y == c[i].y) with
              | false =>
                rw [hyk, Bool.false_and, Bool.false_or] at uv
                repeat' (first | refine awp_seq_k fun K hK => ?_ | ((first | refine awp_region_k (by kernel_rfl) fun R hR => ?_ | refine awp_draw mixed (by kernel_rfl) (by kernel_rfl) fun R hR => ?_); simp only [go_sem, u0, u3, u4, u5, u6, uh, hz, jz, jz2, e1, e2, hyk, r2, Int.toNat_natCast]) | ((first | (refine hR _ ?_; clear hR R) | refine awp_skip ?_ | refine awp_exit ?_ | refine awp_ret ?_); try simp only [thenA, inBlockA, reduceIte, reduceCtorEq, Nat.reduceEqDiff, if_false, if_true]) | ((first | refine hK _ ?_ | (clear hK K; first | refine hK _ ?_ | (clear hK K; first | refine hK _ ?_ | (clear hK K; first | refine hK _ ?_ | (clear hK K; refine hK _ ?_))))); clear hK K) | refine awp_true rfl rfl ?_ | refine awp_false rfl rfl ?_ | refine awp_block ?_ | refine And.intro (by first | ((repeat' first | omega | exact trivial | rfl | assumption | (intro a e; subst e; rfl) | exact map_sz fun a => (by simp only [go_sem]) | refine And.intro ?_ ?_); done) | fail) ?_ | fail)
                refine ⟨⟨j + 1, false, ?_⟩, ?_⟩
                rotate_left
                · simp only [go_sem, u0, u3, u4, u5, u6, uh, r2]; omega
                simp only [go_sem, u0, u3, u4, u5, u6, uh, r2]
                and_intros; all_goals try (first | rfl | omega | assumption | ((repeat (first | exact Fr.rfl' _ _ | assumption | refine Fr.updk ?_ (by omega) _)); done))
              | true =>
                rw [hyk, Bool.true_and] at uv
                have hss := sameSides_tri c[j] c[i]
                cases hsk : sidesB c[j] c[i] with
                | false =>
                  rw [hsk] at hss
                  rw [hsk, Bool.false_or] at uv
                  repeat' (first | refine awp_seq_k fun K hK => ?_ | ((first | refine awp_region_k (by kernel_rfl) fun R hR => ?_ | refine awp_draw mixed (by kernel_rfl) (by kernel_rfl) fun R hR => ?_); simp only [go_sem, u0, u3, u4, u5, u6, uh, hz, jz, jz2, e1, e2, hyk, r2, Int.toNat_natCast]) | ((first | (refine hR _ ?_; clear hR R) | refine awp_skip ?_ | refine awp_exit ?_ | refine awp_ret ?_); try simp only [thenA, inBlockA, reduceIte, reduceCtorEq, Nat.reduceEqDiff, if_false, if_true]) | ((first | refine hK _ ?_ | (clear hK K; first | refine hK _ ?_ | (clear hK K; first | refine hK _ ?_ | (clear hK K; first | refine hK _ ?_ | (clear hK K; refine hK _ ?_))))); clear hK K) | refine awp_true rfl rfl ?_ | refine awp_false rfl rfl ?_ | refine awp_block ?_ | ((first | refine CallK.pure (enter91) (hss) ?_ ?_ | refine CallD.pure (enter91) (hss) ?_ ?_); (focus first | ((repeat (first | exact trivial | refine ⟨(by first | exact Or.inl rfl | exact Or.inr rfl), ?_⟩)); done) | (simp only [coL, AV.dat, true_or, or_true, AV.d.injEq, go_sem]; done)); simp only [go_sem, u0, u3, u4, u5, u6, uh, hz, jz, jz2, e1, e2, hyk, r2, Int.toNat_natCast]) | refine And.intro (by first | ((repeat' first | omega | exact trivial | rfl | assumption | (intro a e; subst e; rfl) | exact map_sz fun a => (by simp only [go_sem]) | refine And.intro ?_ ?_); done) | fail) ?_ | fail)
                  refine ⟨⟨j + 1, false, ?_⟩, ?_⟩
                  rotate_left
                  · simp only [go_sem, u0, u3, u4, u5, u6, uh, r2]; omega
                  simp only [go_sem, u0, u3, u4, u5, u6, uh, r2]
                  and_intros; all_goals try (first | rfl | omega | assumption | ((repeat (first | exact Fr.rfl' _ _ | assumption | refine Fr.updk ?_ (by omega) _)); done))
                | true =>
                  rw [hsk] at hss
                  rw [hsk, Bool.true_or] at uv
                  repeat' (first | refine awp_seq_k fun K hK => ?_ | ((first | refine awp_region_k (by kernel_rfl) fun R hR => ?_ | refine awp_draw mixed (by kernel_rfl) (by kernel_rfl) fun R hR => ?_); simp only [go_sem, u0, u3, u4, u5, u6, uh, hz, jz, jz2, e1, e2, hyk, r2, Int.toNat_natCast]) | ((first | (refine hR _ ?_; clear hR R) | refine awp_skip ?_ | refine awp_exit ?_ | refine awp_ret ?_); try simp only [thenA, inBlockA, reduceIte, reduceCtorEq, Nat.reduceEqDiff, if_false, if_true]) | ((first | refine hK _ ?_ | (clear hK K; first | refine hK _ ?_ | (clear hK K; first | refine hK _ ?_ | (clear hK K; first | refine hK _ ?_ | (clear hK K; refine hK _ ?_))))); clear hK K) | refine awp_true rfl rfl ?_ | refine awp_false rfl rfl ?_ | refine awp_block ?_ | ((first | refine CallK.pure (enter91) (hss) ?_ ?_ | refine CallD.pure (enter91) (hss) ?_ ?_); (focus first | ((repeat (first | exact trivial | refine ⟨(by first | exact Or.inl rfl | exact Or.inr rfl), ?_⟩)); done) | (simp only [coL, AV.dat, true_or, or_true, AV.d.injEq, go_sem]; done)); simp only [go_sem, u0, u3, u4, u5, u6, uh, hz, jz, jz2, e1, e2, hyk, r2, Int.toNat_natCast]) | refine And.intro (by first | ((repeat' first | omega | exact trivial | rfl | assumption | (intro a e; subst e; rfl) | exact map_sz fun a => (by simp only [go_sem]) | refine And.intro ?_ ?_); done) | fail) ?_ | fail)
                  refine ⟨⟨j + 1, true, ?_⟩, ?_⟩
                  rotate_left
                  · simp only [go_sem, u0, u3, u4, u5, u6, uh, r2]; omega
                  simp only [go_sem, u0, u3, u4, u5, u6, uh, r2]
                  and_intros; all_goals try (first | rfl | omega | assumption | ((repeat (first | exact Fr.rfl' _ _ | assumption | refine Fr.updk ?_ (by omega) _)); done))
                  all_goals (rw [Bool.true_or]; exact uv)
          · have jz : ¬ ((j : Int) < (i : Int)) := by omega
            obtain rfl : j = i := by omega
            rw [List.drop_eq_nil_of_le (by rw [List.length_take]; omega), List.any_nil, Bool.or_false] at uv
            rw [← uv] at hv
            cases cur with
            | true =>
              rw [if_pos rfl] at hv
              repeat' (first | refine awp_seq_k fun K hK => ?_ | ((first | refine awp_region_k (by kernel_rfl) fun R hR => ?_ | refine awp_draw mixed (by kernel_rfl) (by kernel_rfl) fun R hR => ?_); simp only [go_sem, u0, u3, u4, u5, u6, uh, jz, r2, Int.toNat_natCast]) | ((first | (refine hR _ ?_; clear hR R) | refine awp_skip ?_ | refine awp_exit ?_ | refine awp_ret ?_); try simp only [thenA, inBlockA, reduceIte, reduceCtorEq, Nat.reduceEqDiff, if_false, if_true]) | ((first | refine hK _ ?_ | (clear hK K; first | refine hK _ ?_ | (clear hK K; first | refine hK _ ?_ | (clear hK K; first | refine hK _ ?_ | (clear hK K; refine hK _ ?_))))); clear hK K) | refine awp_true rfl rfl ?_ | refine awp_false rfl rfl ?_ | refine awp_block ?_ | refine And.intro (by first | ((repeat' first | omega | exact trivial | rfl | assumption | (intro a e; subst e; rfl) | exact map_sz fun a => (by simp only [go_sem]) | refine And.intro ?_ ?_); done) | fail) ?_ | fail)
              refine ⟨⟨j + 1, o, ?_⟩, ?_⟩
              rotate_left
              · simp only [go_sem, u0, u3, u4, u5, u6, uh, r2, s4]; omega
              simp only [go_sem, u0, u3, u4, u5, u6, uh, r2, s4]
              and_intros; all_goals try (first | rfl | omega | assumption | ((repeat (first | exact Fr.rfl' _ _ | assumption | refine Fr.updk ?_ (by omega) _)); done))
            | false =>
              rw [if_neg (by simp)] at hv
              repeat' (first | refine awp_seq_k fun K hK => ?_ | ((first | refine awp_region_k (by kernel_rfl) fun R hR => ?_ | refine awp_draw mixed (by kernel_rfl) (by kernel_rfl) fun R hR => ?_); simp only [go_sem, u0, u3, u4, u5, u6, uh, hz, jz, e1, r2, List.length_map, Int.toNat_natCast]) | ((first | (refine hR _ ?_; clear hR R) | refine awp_skip ?_ | refine awp_exit ?_ | refine awp_ret ?_); try simp only [thenA, inBlockA, reduceIte, reduceCtorEq, Nat.reduceEqDiff, if_false, if_true]) | ((first | refine hK _ ?_ | (clear hK K; first | refine hK _ ?_ | (clear hK K; first | refine hK _ ?_ | (clear hK K; first | refine hK _ ?_ | (clear hK K; refine hK _ ?_))))); clear hK K) | refine awp_true rfl rfl ?_ | refine awp_false rfl rfl ?_ | refine awp_block ?_ | refine And.intro (by first | ((repeat' first | omega | exact trivial | rfl | assumption | (intro a e; subst e; rfl) | exact map_sz fun a => (by simp only [go_sem]) | refine And.intro ?_ ?_); done) | fail) ?_ | fail)
              refine ⟨⟨j + 1, o ++ [c[j]], ?_⟩, ?_⟩
              rotate_left
              · simp only [go_sem, u0, u3, u4, u5, u6, uh, r2, s4, etk, List.length_map, List.append_assoc, List.cons_append, List.nil_append]; omega
              simp only [go_sem, u0, u3, u4, u5, u6, uh, r2, s4, etk, List.length_map, List.append_assoc, List.cons_append, List.nil_append]
              and_intros; all_goals try (first | rfl | omega | assumption | ((repeat (first | exact Fr.rfl' _ _ | assumption | refine Fr.updk ?_ (by omega) _)); done))
              all_goals (simp only [List.length_append, List.length_singleton]; omega)
      · have hd0 : (!c[i].y && same c[i].a c[i].b) = false := by simp [hy, hs]
        repeat' (first | refine awp_seq_k fun K hK => ?_ | ((first | refine awp_region_k (by kernel_rfl) fun R hR => ?_ | refine awp_draw mixed (by kernel_rfl) (by kernel_rfl) fun R hR => ?_); simp only [go_sem, s0, s3, s4, sh, hz, e1, hne2, hy, hs, Int.toNat_natCast]) | ((first | (refine hR _ ?_; clear hR R) | refine awp_skip ?_ | refine awp_exit ?_ | refine awp_ret ?_); try simp only [thenA, inBlockA, reduceIte, reduceCtorEq, Nat.reduceEqDiff, if_false, if_true]) | ((first | refine hK _ ?_ | (clear hK K; first | refine hK _ ?_ | (clear hK K; first | refine hK _ ?_ | (clear hK K; first | refine hK _ ?_ | (clear hK K; refine hK _ ?_))))); clear hK K) | refine awp_true rfl rfl ?_ | refine awp_false rfl rfl ?_ | refine awp_block ?_ | ((first | refine CallK.pure (enter47) (sameR_tri c[i].a c[i].b) ?_ ?_ | refine CallD.pure (enter47) (sameR_tri c[i].a c[i].b) ?_ ?_); (focus first | ((repeat (first | exact trivial | refine ⟨(by first | exact Or.inl rfl | exact Or.inr rfl), ?_⟩)); done) | (simp only [coL, AV.dat, true_or, or_true, AV.d.injEq, go_sem]; done)); simp only [go_sem, s0, s3, s4, sh, hz, e1, hne2, hy, hs, Int.toNat_natCast]) | refine And.intro (by first | ((repeat' first | omega | exact trivial | rfl | assumption | (intro a e; subst e; rfl) | exact map_sz fun a => (by simp only [go_sem]) | refine And.intro ?_ ?_); done) | fail) ?_ | fail)
        refine awp_loop (fun τ => ∃ (j : Nat) (cur : Bool), τ.t 0 = .d (clDV c) ∧ τ.t 3 = .own (k + 1 + 1, 0) (o.map ltDV) ∧ τ.t 4 = iA i ∧ τ.t 5 = bA cur ∧ τ.t 6 = iA j ∧
          τ.h (k + 1 + 1, 0) = some (.perm 107 o.length) ∧ Fr k h0 τ.h ∧ σ.k < τ.k ∧ j ≤ i ∧ (cur || ((c.take i).drop j).any fun x => x.y == c[i].y && sidesB x c[i]) = dropB (c.take i) c[i]) (fun τ => i - (intOf' (τ.t 6)).toNat) ?_ ?_
        · refine ⟨0, false, ?_⟩
          simp only [go_sem, s0, s3, s4, sh, hne2, List.drop_zero]
          and_intros; all_goals try (first | rfl | omega | assumption | ((repeat (first | exact Fr.rfl' _ _ | assumption | refine Fr.updk ?_ (by omega) _)); done))
          unfold dropB; rw [hd0]
          try simp only [Bool.false_or, Bool.true_or]
        · rintro τ ⟨j, cur, u0, u3, u4, u5, u6, uh, uF, uk, uj, uv⟩
          have r2 := ltne (show k + 1 + 1 < τ.k by omega)
          rcases Nat.lt_or_ge j i with jlt | jge
          · have jz : (j : Int) < (i : Int) := by omega
            have jc : j < c.length := by omega
            have jz2 : (j : Int) < (c.length : Int) := by omega
            have e2 : (c.map ltDV).getD j default = ltDV c[j] := nth_map ltDV jc _
            have jt : j < (c.take i).length := by rw [List.length_take]; omega
            rw [List.drop_eq_getElem_cons jt, List.any_cons, List.getElem_take] at uv
            cases cur with
            | true =>
              rw [Bool.true_or] at uv
              repeat' (first | refine awp_seq_k fun K hK => ?_ | ((first | refine awp_region_k (by kernel_rfl) fun R hR => ?_ | refine awp_draw mixed (by kernel_rfl) (by kernel_rfl) fun R hR => ?_); simp only [go_sem, u0, u3, u4, u5, u6, uh, jz, r2, Int.toNat_natCast]) | ((first | (refine hR _ ?_; clear hR R) | refine awp_skip ?_ | refine awp_exit ?_ | refine awp_ret ?_); try simp only [thenA, inBlockA, reduceIte, reduceCtorEq, Nat.reduceEqDiff, if_false, if_true]) | ((first | refine hK _ ?_ | (clear hK K; first | refine hK _ ?_ | (clear hK K; first | refine hK _ ?_ | (clear hK K; first | refine hK _ ?_ | (clear hK K; refine hK _ ?_))))); clear hK K) | refine awp_true rfl rfl ?_ | refine awp_false rfl rfl ?_ | refine awp_block ?_ | refine And.intro (by first | ((repeat' first | omega | exact trivial | rfl | assumption | (intro a e; subst e; rfl) | exact map_sz fun a => (by simp only [go_sem]) | refine And.intro ?_ ?_); done) | fail) ?_ | fail)
              refine ⟨⟨j + 1, true, ?_⟩, ?_⟩
              rotate_left
              · simp only [go_sem, u0, u3, u4, u5, u6, uh, r2]; omega
              simp only [go_sem, u0, u3, u4, u5, u6, uh, r2]
              and_intros; all_goals try (first | rfl | omega | assumption | ((repeat (first | exact Fr.rfl' _ _ | assumption | refine Fr.updk ?_ (by omega) _)); done))
              all_goals (rw [Bool.true_or]; exact uv)
            | false =>
              rw [Bool.false_or] at uv
              cases hyk : (c[j].y == c[i].y) with
              | false =>
                rw [hyk, Bool.false_and, Bool.false_or] at uv
                repeat' (first | refine awp_seq_k fun K hK => ?_ | ((first | refine awp_region_k (by kernel_rfl) fun R hR => ?_ | refine awp_draw mixed (by kernel_rfl) (by kernel_rfl) fun R hR => ?_); simp only [go_sem, u0, u3, u4, u5, u6, uh, hz, jz, jz2, e1, e2, hyk, r2, Int.toNat_natCast]) | ((first | (refine hR _ ?_; clear hR R) | refine awp_skip ?_ | refine awp_exit ?_ | refine awp_ret ?_); try simp only [thenA, inBlockA, reduceIte, reduceCtorEq, Nat.reduceEqDiff, if_false, if_true]) | ((first | refine hK _ ?_ | (clear hK K; first | refine hK _ ?_ | (clear hK K; first | refine hK _ ?_ | (clear hK K; first | refine hK _ ?_ | (clear hK K; refine hK _ ?_))))); clear hK K) | refine awp_true rfl rfl ?_ | refine awp_false rfl rfl ?_ | refine awp_block ?_ | refine And.intro (by first | ((repeat' first | omega | exact trivial | rfl | assumption | (intro a e; subst e; rfl) | exact map_sz fun a => (by simp only [go_sem]) | refine And.intro ?_ ?_); done) | fail) ?_ | fail)
                refine ⟨⟨j + 1, false, ?_⟩, ?_⟩
                rotate_left
                · simp only [go_sem, u0, u3, u4, u5, u6, uh, r2]; omega
                simp only [go_sem, u0, u3, u4, u5, u6, uh, r2]
                and_intros; all_goals try (first | rfl | omega | assumption | ((repeat (first | exact Fr.rfl' _ _ | assumption | refine Fr.updk ?_ (by omega) _)); done))
              | true =>
                rw [hyk, Bool.true_and] at uv
                have hss := sameSides_tri c[j] c[i]
                cases hsk : sidesB c[j] c[i] with
                | false =>
                  rw [hsk] at hss
                  rw [hsk, Bool.false_or] at uv
                  repeat' (first | refine awp_seq_k fun K hK => ?_ | ((first | refine awp_region_k (by kernel_rfl) fun R hR => ?_ | refine awp_draw mixed (by kernel_rfl) (by kernel_rfl) fun R hR => ?_); simp only [go_sem, u0, u3, u4, u5, u6, uh, hz, jz, jz2, e1, e2, hyk, r2, Int.toNat_natCast]) | ((first | (refine hR _ ?_; clear hR R) | refine awp_skip ?_ | refine awp_exit ?_ | refine awp_ret ?_); try simp only [thenA, inBlockA, reduceIte, reduceCtorEq, Nat.reduceEqDiff, if_false, if_true]) | ((first | refine hK _ ?_ | (clear hK K; first | refine hK _ ?_ | (clear hK K; first | refine hK _ ?_ | (clear hK K; first | refine hK _ ?_ | (clear hK K; refine hK _ ?_))))); clear hK K) | refine awp_true rfl rfl ?_ | refine awp_false rfl rfl ?_ | refine awp_block ?_ | ((first | refine CallK.pure (enter91) (hss) ?_ ?_ | refine CallD.pure (enter91) (hss) ?_ ?_); (focus first | ((repeat (first | exact trivial | refine ⟨(by first | exact Or.inl rfl | exact Or.inr rfl), ?_⟩)); done) | (simp only [coL, AV.dat, true_or, or_true, AV.d.injEq, go_sem]; done)); simp only [go_sem, u0, u3, u4, u5, u6, uh, hz, jz, jz2, e1, e2, hyk, r2, Int.toNat_natCast]) | refine And.intro (by first | ((repeat' first | omega | exact trivial | rfl | assumption | (intro a e; subst e; rfl) | exact map_sz fun a => (by simp only [go_sem]) | refine And.intro ?_ ?_); done) | fail) ?_ | fail)
                  refine ⟨⟨j + 1, false, ?_⟩, ?_⟩
                  rotate_left
                  · simp only [go_sem, u0, u3, u4, u5, u6, uh, r2]; omega
                  simp only [go_sem, u0, u3, u4, u5, u6, uh, r2]
                  and_intros; all_goals try (first | rfl | omega | assumption | ((repeat (first | exact Fr.rfl' _ _ | assumption | refine Fr.updk ?_ (by omega) _)); done))
                | true =>
                  rw [hsk] at hss
                  rw [hsk, Bool.true_or] at uv
                  repeat' (first | refine awp_seq_k fun K hK => ?_ | ((first | refine awp_region_k (by kernel_rfl) fun R hR => ?_ | refine awp_draw mixed (by kernel_rfl) (by kernel_rfl) fun R hR => ?_); simp only [go_sem, u0, u3, u4, u5, u6, uh, hz, jz, jz2, e1, e2, hyk, r2, Int.toNat_natCast]) | ((first | (refine hR _ ?_; clear hR R) | refine awp_skip ?_ | refine awp_exit ?_ | refine awp_ret ?_); try simp only [thenA, inBlockA, reduceIte, reduceCtorEq, Nat.reduceEqDiff, if_false, if_true]) | ((first | refine hK _ ?_ | (clear hK K; first | refine hK _ ?_ | (clear hK K; first | refine hK _ ?_ | (clear hK K; first | refine hK _ ?_ | (clear hK K; refine hK _ ?_))))); clear hK K) | refine awp_true rfl rfl ?_ | refine awp_false rfl rfl ?_ | refine awp_block ?_ | ((first | refine CallK.pure (enter91) (hss) ?_ ?_ | refine CallD.pure (enter91) (hss) ?_ ?_); (focus first | ((repeat (first | exact trivial | refine ⟨(by first | exact Or.inl rfl | exact Or.inr rfl), ?_⟩)); done) | (simp only [coL, AV.dat, true_or, or_true, AV.d.injEq, go_sem]; done)); simp only [go_sem, u0, u3, u4, u5, u6, uh, hz, jz, jz2, e1, e2, hyk, r2, Int.toNat_natCast]) | refine And.intro (by first | ((repeat' first | omega | exact trivial | rfl | assumption | (intro a e; subst e; rfl) | exact map_sz fun a => (by simp only [go_sem]) | refine And.intro ?_ ?_); done) | fail) ?_ | fail)
                  refine ⟨⟨j + 1, true, ?_⟩, ?_⟩
                  rotate_left
                  · simp only [go_sem, u0, u3, u4, u5, u6, uh, r2]; omega
                  simp only [go_sem, u0, u3, u4, u5, u6, uh, r2]
                  and_intros; all_goals try (first | rfl | omega | assumption | ((repeat (first | exact Fr.rfl' _ _ | assumption | refine Fr.updk ?_ (by omega) _)); done))
                  all_goals (rw [Bool.true_or]; exact uv)
          · have jz : ¬ ((j : Int) < (i : Int)) := by omega
            obtain rfl : j = i := by omega
            rw [List.drop_eq_nil_of_le (by rw [List.length_take]; omega), List.any_nil, Bool.or_false] at uv
            rw [← uv] at hv
            cases cur with
            | true =>
              rw [if_pos rfl] at hv
              repeat' (first | refine awp_seq_k fun K hK => ?_ | ((first | refine awp_region_k (by kernel_rfl) fun R hR => ?_ | refine awp_draw mixed (by kernel_rfl) (by kernel_rfl) fun R hR => ?_); simp only [go_sem, u0, u3, u4, u5, u6, uh, jz, r2, Int.toNat_natCast]) | ((first | (refine hR _ ?_; clear hR R) | refine awp_skip ?_ | refine awp_exit ?_ | refine awp_ret ?_); try simp only [thenA, inBlockA, reduceIte, reduceCtorEq, Nat.reduceEqDiff, if_false, if_true]) | ((first | refine hK _ ?_ | (clear hK K; first | refine hK _ ?_ | (clear hK K; first | refine hK _ ?_ | (clear hK K; first | refine hK _ ?_ | (clear hK K; refine hK _ ?_))))); clear hK K) | refine awp_true rfl rfl ?_ | refine awp_false rfl rfl ?_ | refine awp_block ?_ | refine And.intro (by first | ((repeat' first | omega | exact trivial | rfl | assumption | (intro a e; subst e; rfl) | exact map_sz fun a => (by simp only [go_sem]) | refine And.intro ?_ ?_); done) | fail) ?_ | fail)
              refine ⟨⟨j + 1, o, ?_⟩, ?_⟩
              rotate_left
              · simp only [go_sem, u0, u3, u4, u5, u6, uh, r2, s4]; omega
              simp only [go_sem, u0, u3, u4, u5, u6, uh, r2, s4]
              and_intros; all_goals try (first | rfl | omega | assumption | ((repeat (first | exact Fr.rfl' _ _ | assumption | refine Fr.updk ?_ (by omega) _)); done))
            | false =>
              rw [if_neg (by simp)] at hv
              repeat' (first | refine awp_seq_k fun K hK => ?_ | ((first | refine awp_region_k (by kernel_rfl) fun R hR => ?_ | refine awp_draw mixed (by kernel_rfl) (by kernel_rfl) fun R hR => ?_); simp only [go_sem, u0, u3, u4, u5, u6, uh, hz, jz, e1, r2, List.length_map, Int.toNat_natCast]) | ((first | (refine hR _ ?_; clear hR R) | refine awp_skip ?_ | refine awp_exit ?_ | refine awp_ret ?_); try simp only [thenA, inBlockA, reduceIte, reduceCtorEq, Nat.reduceEqDiff, if_false, if_true]) | ((first | refine hK _ ?_ | (clear hK K; first | refine hK _ ?_ | (clear hK K; first | refine hK _ ?_ | (clear hK K; first | refine hK _ ?_ | (clear hK K; refine hK _ ?_))))); clear hK K) | refine awp_true rfl rfl ?_ | refine awp_false rfl rfl ?_ | refine awp_block ?_ | refine And.intro (by first | ((repeat' first | omega | exact trivial | rfl | assumption | (intro a e; subst e; rfl) | exact map_sz fun a => (by simp only [go_sem]) | refine And.intro ?_ ?_); done) | fail) ?_ | fail)
              refine ⟨⟨j + 1, o ++ [c[j]], ?_⟩, ?_⟩
              rotate_left
              · simp only [go_sem, u0, u3, u4, u5, u6, uh, r2, s4, etk, List.length_map, List.append_assoc, List.cons_append, List.nil_append]; omega
              simp only [go_sem, u0, u3, u4, u5, u6, uh, r2, s4, etk, List.length_map, List.append_assoc, List.cons_append, List.nil_append]
              and_intros; all_goals try (first | rfl | omega | assumption | ((repeat (first | exact Fr.rfl' _ _ | assumption | refine Fr.updk ?_ (by omega) _)); done))
              all_goals (simp only [List.length_append, List.length_singleton]; omega)
    · have hz : ¬ ((i : Int) < (c.length : Int)) := by omega
      rw [List.drop_eq_nil_of_le hge, keepR, List.append_nil] at hv
      have hsm := hc.keepR
      rw [← hv] at hsm
      have hol := hsm.len
      obtain ⟨V, hV⟩ : ∃ V, V = firstVars (termsOf o) := ⟨_, rfl⟩
      have hsz := hsm.sizes
      have hst := firstVars_tri (termsOf o) hsz
      have hVl : V.length ≤ 4000000 := by have := firstVars_len (termsOf o); rw [hV]; omega
      have hfin : tidyR c = o.map (mapLt (applyR (numBs V 0))) := by unfold tidyR; rw [hV, hv]
      rw [← hV] at hst
      repeat' (first | refine awp_ghost (ghost_nil (i := 8) (e := 117) rfl) ?_ | refine awp_seq_k fun K hK => ?_ | ((first | refine awp_region_k (by kernel_rfl) fun R hR => ?_ | refine awp_draw mixed (by kernel_rfl) (by kernel_rfl) fun R hR => ?_); simp only [go_sem, s0, s3, s4, sh, hz, hne2]) | ((first | (refine hR _ ?_; clear hR R) | refine awp_skip ?_ | refine awp_exit ?_ | refine awp_ret ?_); try simp only [thenA, inBlockA, reduceIte, reduceCtorEq, Nat.reduceEqDiff, if_false, if_true]) | ((first | refine hK _ ?_ | (clear hK K; first | refine hK _ ?_ | (clear hK K; first | refine hK _ ?_ | (clear hK K; first | refine hK _ ?_ | (clear hK K; refine hK _ ?_))))); clear hK K) | refine awp_true rfl rfl ?_ | refine awp_false rfl rfl ?_ | refine awp_block ?_ | ((first | refine CallK.pure (enter25) (termsOf_tri o (by omega)) ?_ ?_ | refine CallD.pure (enter25) (termsOf_tri o (by omega)) ?_ ?_ | refine CallK.pure (enter22) (hst) ?_ ?_ | refine CallD.pure (enter22) (hst) ?_ ?_); (focus first | ((repeat (first | exact trivial | refine ⟨(by first | exact Or.inl rfl | exact Or.inr rfl), ?_⟩)); done) | (simp only [coL, AV.dat, true_or, or_true, AV.d.injEq, go_sem]; done)); simp only [go_sem, s0, s3, s4, sh, hz, hne2]) | refine And.intro (by first | ((repeat' first | omega | exact trivial | rfl | assumption | (intro a e; subst e; rfl) | exact map_sz fun a => (by simp only [go_sem]) | refine And.intro ?_ ?_); done) | fail) ?_ | fail)
      refine awp_loop (fun τ => ∃ j : Nat, τ.t 3 = .own (k + 1 + 1, 0) (o.map ltDV) ∧ τ.t 7 = .d (.sl (V.map iD)) ∧ τ.t 8 = .own (σ.k + 1 + 1 + 1, 0) ((numBs (V.take j) 0).map bdDV) ∧ τ.t 9 = iA j ∧
        τ.h (σ.k + 1 + 1 + 1, 0) = some (.perm 117 (numBs (V.take j) 0).length) ∧ Fr k h0 τ.h ∧ σ.k + 1 + 1 + 1 < τ.k ∧ j ≤ V.length) (fun τ => V.length - (intOf' (τ.t 9)).toNat) ?_ ?_
      · refine ⟨0, ?_⟩
        simp only [go_sem, s3, sh, hne2, List.take_zero, numBs, List.map_nil]
        and_intros; all_goals try (first | rfl | omega | assumption | ((repeat (first | exact Fr.rfl' _ _ | assumption | refine Fr.updk ?_ (by omega) _)); done))
      · rintro τ ⟨j, u3, u7, u8, u9, uh, uF, uk, uj⟩
        have r1 := ltne uk
        have hnl : (numBs (V.take j) 0).length = j := by rw [numBs_len, List.length_take]; omega
        rcases Nat.lt_or_ge j V.length with jlt | jge
        · have jz : (j : Int) < (V.length : Int) := by omega
          have e2 : (V.map iD).getD j default = iD V[j] := nth_map iD jlt _
          have etk : (numBs (V.take j) 0).map bdDV ++ [bdDV (V[j], .mk ((j : Int) + 1) 0 [])] = (numBs (V.take (j + 1)) 0).map bdDV := by rw [num_take jlt]; simp
          repeat' (first | refine awp_seq_k fun K hK => ?_ | ((first | refine awp_region_k (by kernel_rfl) fun R hR => ?_ | refine awp_draw mixed (by kernel_rfl) (by kernel_rfl) fun R hR => ?_); simp only [go_sem, u3, u7, u8, u9, uh, jz, e2, r1, hnl, leaf_bd, List.length_map, Int.toNat_natCast]) | ((first | (refine hR _ ?_; clear hR R) | refine awp_skip ?_ | refine awp_exit ?_ | refine awp_ret ?_); try simp only [thenA, inBlockA, reduceIte, reduceCtorEq, Nat.reduceEqDiff, if_false, if_true]) | ((first | refine hK _ ?_ | (clear hK K; first | refine hK _ ?_ | (clear hK K; first | refine hK _ ?_ | (clear hK K; first | refine hK _ ?_ | (clear hK K; refine hK _ ?_))))); clear hK K) | refine awp_true rfl rfl ?_ | refine awp_false rfl rfl ?_ | refine awp_block ?_ | refine And.intro (by first | ((repeat' first | omega | exact trivial | rfl | assumption | (intro a e; subst e; rfl) | exact map_sz fun a => (by simp only [go_sem]) | refine And.intro ?_ ?_); done) | fail) ?_ | fail)
          refine ⟨⟨j + 1, ?_⟩, ?_⟩
          rotate_left
          · simp only [go_sem, u3, u7, u8, u9, uh, r1, leaf_bd, etk, hnl, List.length_map]; omega
          simp only [go_sem, u3, u7, u8, u9, uh, r1, leaf_bd, etk, hnl, List.length_map]
          and_intros; all_goals try (first | rfl | omega | assumption | ((repeat (first | exact Fr.rfl' _ _ | assumption | refine Fr.updk ?_ (by omega) _)); done))
        · have jz : ¬ ((j : Int) < (V.length : Int)) := by omega
          obtain rfl : j = V.length := by omega
          rw [List.take_length] at u8 uh
          have hap := applyClause_tri (numBs V 0) (by rw [numBs_len]; omega) o (by omega) (fun l hl => ⟨by have := hsm.a l hl; omega, by have := hsm.b l hl; omega⟩)
          repeat' (first | refine awp_seq_k fun K hK => ?_ | ((first | refine awp_region_k (by kernel_rfl) fun R hR => ?_ | refine awp_draw mixed (by kernel_rfl) (by kernel_rfl) fun R hR => ?_); simp only [go_sem, u3, u7, u8, u9, uh, jz, r1]) | ((first | (refine hR _ ?_; clear hR R) | refine awp_skip ?_ | refine awp_exit ?_ | refine awp_ret ?_); try simp only [thenA, inBlockA, reduceIte, reduceCtorEq, Nat.reduceEqDiff, if_false, if_true]) | ((first | refine hK _ ?_ | (clear hK K; first | refine hK _ ?_ | (clear hK K; first | refine hK _ ?_ | (clear hK K; first | refine hK _ ?_ | (clear hK K; refine hK _ ?_))))); clear hK K) | refine awp_true rfl rfl ?_ | refine awp_false rfl rfl ?_ | refine awp_block ?_ | ((first | refine CallK.pure (enter92) (hap) ?_ ?_ | refine CallD.pure (enter92) (hap) ?_ ?_); (focus first | ((repeat (first | exact trivial | refine ⟨(by first | exact Or.inl rfl | exact Or.inr rfl), ?_⟩)); done) | (simp only [coL, AV.dat, true_or, or_true, AV.d.injEq, go_sem]; done)); simp only [go_sem, u3, u7, u8, u9, uh, jz, r1]) | refine And.intro (by first | ((repeat' first | omega | exact trivial | rfl | assumption | (intro a e; subst e; rfl) | exact map_sz fun a => (by simp only [go_sem]) | refine And.intro ?_ ?_); done) | fail) ?_ | fail)
          rw [hfin]
          (first | refine ret_pure ?_ ?_ ?_ | refine ret_ro ?_ ?_ ?_); focus exact (by simp only [Try.results32, resOkL, resOk, Try.ntmps32, List.toList_toArray]; first | decide | (simp only [go_sem]; done) | (simp only [go_sem]; and_intros <;> first | omega | rfl | decide))
          rotate_left; focus exact (by repeat (first | exact Fr.rfl' _ _ | assumption | refine Fr.updk ?_ (by omega) _))
          simp only [resA, resV, Try.results32, go_sem]
          all_goals try (first | exact Co.t2 (.dat rfl) (.dat rfl) | exact Co.t3 (.dat rfl) (.dat rfl) (.dat rfl))
          all_goals exact .dat rfl
end Go.Proofs.Ytmeekpinkfpnhaa
namespace Go.Proofs.Ytmeekpinkfpnhaa
open Go.RowKit
set_option maxRecDepth 20000 in
set_option maxHeartbeats 2000000 in
theorem clone_any (b : Nat) (es : Array MapEntry) (clock : Nat) (w : World) (hb : w.heap[b]? = some (.map es clock)) :
    Calls Try.prog 140 #[.map (some b)] w fun e w' => e = .returned (.map (some w.heap.size)) ∧ w' = w.alloc (.map es clock) := by
  have hq := fun w => run_eql_map_nil_sl (P := Try.prog) w 142 _ _ (some b) Try.underlying142
  go_enter Try.func140, Try.ntmps140
  go_wp2
  rw [run_callFunc_extern Try.func157 (by kernel_rfl) (by kernel_rfl) (by kernel_rfl) (e := Extern.MapsClone.clone) (by kernel_rfl), run_maps_clone_sl w 142 hb]
  simp only [Result.andThen]
  rw [Oper.upon_value]
  go_wp2
  rw [run_typeAssert_map_sl _ 142 20 _ _ _ Try.underlying142]
  simp only [Result.andThen]
  rw [Oper.upon_value]
  go_wp2
  go_ret
  exact ⟨rfl, rfl⟩
def cloneEff (mm n' : Nm) (es : List (Int × DV)) : Eff := ⟨.map n', [(n', none), (mm, some (.map es))], [(n', some (.map es))]⟩
theorem clone_tri (mm n' : Nm) (es : List (Int × DV)) : Tri Try.prog 140 [.map mm] (cloneEff mm n' es) := by
  intro w0 h k m β w cargs H hrd hwr hsz hargs
  have hm : h mm = some (.map es) := hrd (mm, some (.map es)) (by simp [cloneEff])
  have hno : h n' = none := hrd (n', none) (by simp [cloneEff])
  obtain ⟨hk, hn0⟩ := hwr (n', some (.map es)) (by simp [cloneEff])
  have hbn : β n' = none := hn0 hno
  have hk : n'.1 < k := hk
  obtain ⟨v, rfl⟩ : ∃ v, cargs = #[v] := by
    obtain ⟨l⟩ := cargs
    match l, hsz with
    | [v], _ => exact ⟨v, rfl⟩
  have hv := hargs 0 v (.map mm) (by simp) (by simp)
  cases hv with
  | @map _ p hb hv =>
    obtain ⟨p', hp', _, l, clock, g1, g2, g3⟩ := H.obj mm _ hm
    rw [hb] at hp'; cases hp'
    refine (clone_any p.1 l clock w g1).mono ?_
    rintro e w' ⟨rfl, rfl⟩
    refine ⟨_, m, updB β n' ⟨w.heap.size, 0, none⟩, rfl, .rfl' m, updB_le (le_new hbn), fun x hx h0 => updB_none (fun e => hx (n', _) (by simp only [cloneEff]; exact List.mem_cons_self ..) e.symm) h0, ?_, .map (p := ⟨w.heap.size, 0, none⟩) (updB_self _ _ _) rfl⟩
    refine H.upd1 (le_new hbn) hk (Below.alloc H.ext H.size _) (.rfl' m) (fun b o v hv => ?_) ⟨rfl, l, clock, heap_alloc_new w _, g2, g3⟩ (fun _ => H.size) ?_
    · obtain ⟨h1, h2⟩ := H.mem b o v hv
      exact ⟨(World.cell?_alloc_lt w _ ⟨b, o, none⟩ (H.mem_lt hv)).trans h1, h2⟩
    · intro x p' ob' _ hx hp hr
      have := H.lt hx hp hr
      exact ⟨fun _ => Nat.ne_of_lt this, heap_alloc_old w _ this, fun _ => rfl⟩
attribute [go_sem] cloneEff
theorem CallK.clone {s : St} {tick i : Nat} {dst : Option Tmp} {args : Array Operand} {ats : Array TypeId} {ty : TypeId} {pos : String} {after : Array Edge} {guard : Option (Nat × Bool)} {ops : Array Oper} {rest : List Oper} {K : St → Prop} (mm : Nm) (es : List (Int × DV)) (hi : i % 1000 = i)
    (hco : coL (args.toList.map s.ev) [.map mm]) (hm : s.h mm = some (.map es)) (hrd : s.h (tick, i) = none) (hk : runL Try.prog ops tick rest (i + 1) (s.step ⟨dst, .call ⟨.value (.func 140), args, ats⟩, ty, pos, after, guard⟩ (cloneEff mm (tick, i) es)) K) :
    CallK Try.prog ops tick i ⟨dst, .call ⟨.value (.func 140), args, ats⟩, ty, pos, after, guard⟩ rest s K :=
  CallK.eff (enter140) (clone_tri mm (tick, i) es) hco (fun x hx => by
    simp only [cloneEff, List.mem_cons, List.not_mem_nil, or_false] at hx
    rcases hx with hx | hx
    · rw [hx]; exact hrd
    · rw [hx]; exact hm) (fun x hx => by simp only [cloneEff, List.mem_cons, List.not_mem_nil, or_false] at hx; subst hx; exact .inr ⟨rfl, hi⟩) hk
end Go.Proofs.Ytmeekpinkfpnhaa
