/- Inferences hold: what is plain. -/
import Derived.Test.YtmeekpinkfpnhabGreatP08
import Derived.Test.YtmeekpinkfpnhabGreatP09
set_option linter.all false
namespace Go.Proofs.YtmeekpinkfpnhabGreat
theorem pw3 {n : Int} (h1 : 1 ≤ n) (h3 : n ≤ 3) : ∀ i : Nat, 1 ≤ n ^ i ∧ n ^ i ≤ 3 ^ i
 | 0 => by simp
 | i + 1 => by
  obtain ⟨h4, h5⟩ := pw3 h1 h3 i
  rw [Int.pow_succ, Int.pow_succ]
  have : n = 1 ∨ n = 2 ∨ n = 3 := by omega
  rcases this with rfl | rfl | rfl <;> omega
theorem pw_le {n : Int} (h1 : 1 ≤ n) (h3 : n ≤ 3) {i : Nat} (hi : i ≤ 8) : 1 ≤ n ^ i ∧ n ^ i ≤ 6561 := by
 obtain ⟨h4, h5⟩ := pw3 h1 h3 i
 refine ⟨h4, Int.le_trans h5 ?_⟩
 have : i = 0 ∨ i = 1 ∨ i = 2 ∨ i = 3 ∨ i = 4 ∨ i = 5 ∨ i = 6 ∨ i = 7 ∨ i = 8 := by omega
 rcases this with rfl | rfl | rfl | rfl | rfl | rfl | rfl | rfl | rfl <;> decide
def rowsBad (sz : Int) : List Int → List (List Int) → Bool
 | n :: g, r :: tb => ((r.length : Int) != sz ^ n.toNat) || rowsBad sz g tb
 | _, _ => false
theorem rowsBad_at {sz : Int} {g : List Int} {tb : List (List Int)} {i : Nat} (hi : i < g.length) (hi' : i < tb.length) : rowsBad sz (g.drop i) (tb.drop i) = (((tb[i].length : Int) != sz ^ g[i].toNat) || rowsBad sz (g.drop (i + 1)) (tb.drop (i + 1))) := by
 rw [List.drop_eq_getElem_cons hi, List.drop_eq_getElem_cons hi', rowsBad]
theorem rowsBad_end {sz : Int} {g : List Int} {tb : List (List Int)} {i : Nat} (hi' : tb.length ≤ i) : rowsBad sz (g.drop i) (tb.drop i) = false := by
 rw [List.drop_eq_nil_of_le hi']
 cases g.drop i <;> rfl
def outOf (sz n : Int) : Bool := decide (n < 0) || decide (n ≥ sz)
def mdOk (g : List Int) (sz : Int) (tb : List (List Int)) : Int :=
 if sigOk g ≠ 0 then sigOk g else if sz < 1 ∨ sz > 3 then 3 else if tb.length ≠ g.length then 1 else if rowsBad sz g tb = true then 1 else if (tb.any fun r => r.any (outOf sz)) = true then 5 else 0
theorem sig_each {g : List Int} (h : sigOk g = 0) : ∀ n ∈ g, 0 ≤ n ∧ n ≤ 3 := by
 unfold sigOk at h
 split at h
 ·cases h
 ·split at h
  ·cases h
  ·rename_i hn
   intro n hn'
   have : ¬ ((n < 0 || n > 3) = true) := fun hc => hn (List.any_eq_true.2 ⟨n, hn', by simpa using hc⟩)
   simp at this
   omega
theorem sig_len {g : List Int} (h : sigOk g = 0) : g.length ≤ 12 := by
 unfold sigOk at h
 split at h
 ·cases h
 ·omega
theorem rowsBad_all {sz : Int} : ∀ {g : List Int} {tb : List (List Int)}, rowsBad sz g tb = false → ∀ (i : Nat) (h : i < g.length) (h' : i < tb.length), (tb[i].length : Int) = sz ^ g[i].toNat
 | n :: g, r :: tb, h, i, hi, hi' => by
  rw [rowsBad, Bool.or_eq_false_iff] at h
  cases i with
  | zero => simpa using h.1
  | succ i => simpa using rowsBad_all h.2 i (by simpa using hi) (by simpa using hi')
theorem mdOk_all {g : List Int} {sz : Int} {tb : List (List Int)} (h : mdOk g sz tb = 0) : sigOk g = 0 ∧ 1 ≤ sz ∧ sz ≤ 3 ∧ tb.length = g.length ∧ rowsBad sz g tb = false ∧ ∀ r ∈ tb, ∀ n ∈ r, 0 ≤ n ∧ n < sz := by
 unfold mdOk at h
 by_cases h1 : sigOk g = 0
 ·rw [if_neg (by simp [h1])] at h
  by_cases h2 : sz < 1 ∨ sz > 3
  ·rw [if_pos h2] at h; cases h
  ·rw [if_neg h2] at h
   by_cases h3 : tb.length = g.length
   ·rw [if_neg (by simp [h3])] at h
    cases h4 : rowsBad sz g tb with
    | true => rw [h4] at h; simp at h
    | false =>
     rw [h4] at h
     simp only [Bool.false_eq_true, if_false] at h
     cases h5 : tb.any fun r => r.any (outOf sz) with
     | true => rw [h5] at h; simp at h
     | false =>
      refine ⟨h1, by omega, by omega, h3, rfl, fun r hr n hn => ?_⟩
      have h6 := List.any_eq_false.1 h5 r hr
      simp only [Bool.not_eq_true] at h6
      have h7 := List.any_eq_false.1 h6 n hn
      simp [outOf] at h7
      omega
   ·rw [if_pos (by simpa using h3)] at h; cases h
 ·rw [if_pos (by simpa using h1)] at h; exact absurd h h1
end Go.Proofs.YtmeekpinkfpnhabGreat
namespace Go.Proofs.YtmeekpinkfpnhabGreat
open Go.RowKit
def mdDV (sz : Int) (tb : List (List Int)) : DV := .st [iD sz, .sl (tb.map gI)]
@[go_sem] theorem mdDV_cells (sz : Int) (tb : List (List Int)) : (mdDV sz tb).cells = [iD sz, .sl (tb.map gI)] := (Eq.trans rfl (Eq.refl _))
@[go_sem] theorem mdDV_fold (sz : Int) (tb : List (List Int)) : DV.st [iD sz, .sl (tb.map gI)] = mdDV sz tb := (Eq.trans rfl (Eq.refl _))
set_option maxRecDepth 20000 in
theorem power_tri {n : Int} (h1 : 1 ≤ n) (h3 : n ≤ 3) {j : Nat} (hj : j ≤ 8) : Tri Tryz.prog 54 [iA n, iA j] (pure' (iA (n ^ j))) := by
 refine aE Tryz.func54 rfl Tryz.ntmps54 fun w0 h0 k hrd hwr => ?_
 repeat' (first | refine aQ fun K hK => ?_ | ((first | refine aK fun R hR => ?_ | refine aD mixed fun R hR => ?_); simp only [go_sem]) | ((first | (refine hR _ ?_; clear hR R) | refine aZ rfl ?_); try refine aP ?_) | ((repeat (fail_if_success refine hK _ ?_); clear hK K); refine hK _ ?_; clear hK K) | refine aT ?_ | refine aF ?_ | refine aB ?_ | refine aN ?_ | fail)
 refine awp_loop (fun σ => ∃ i : Nat, σ.t 0 = iA n ∧ σ.t 6 = iA j ∧ σ.t 7 = iA i ∧ σ.t 5 = iA (n ^ i) ∧ σ.h = h0 ∧ i ≤ j) (fun σ => j - (intOf' (σ.t 7)).toNat) ?_ ?_
 ·refine ⟨0, ?_⟩
  simp only [go_sem, Int.pow_zero]
  and_intros; all_goals try (first | rfl | omega | assumption | exact anA)
 ·rintro σ ⟨i, s0, s6, s7, s5, sh, hi⟩
  have hfr : Fr k h0 σ.h := by rw [sh]; exact Fr.rfl' _ _
  obtain ⟨p1, p2⟩ := pw_le h1 h3 (i := i) (by omega)
  rcases Nat.lt_or_ge i j with hlt | hge
  ·obtain ⟨p3, p4⟩ := pw_le h1 h3 (i := i + 1) (by omega)
   have hz : (i : Int) < (j : Int) := by omega
   have e : n ^ i * n = n ^ (i + 1) := (Int.pow_succ n i).symm
   repeat' (first | refine aQ fun K hK => ?_ | ((first | refine aK fun R hR => ?_ | refine aD mixed fun R hR => ?_); simp only [go_sem, s0, s6, s7, s5, hz, e]) | ((first | (refine hR _ ?_; clear hR R) | refine aZ rfl ?_); try refine aP ?_) | ((repeat (fail_if_success refine hK _ ?_); clear hK K); refine hK _ ?_; clear hK K) | refine aT ?_ | refine aF ?_ | refine aB ?_ | refine aN ?_ | fail)
   refine ⟨⟨i + 1, ?_⟩, ?_⟩
   rotate_left
   ·simp only [go_sem, s0, s6, s7, s5, sh]; omega
   simp only [go_sem, s0, s6, s7, s5, sh]
   and_intros; all_goals try (first | rfl | omega | assumption | exact anA)
  ·have hz : ¬ ((i : Int) < (j : Int)) := by omega
   obtain rfl : i = j := by omega
   repeat' (first | refine aQ fun K hK => ?_ | ((first | refine aK fun R hR => ?_ | refine aD mixed fun R hR => ?_); simp only [go_sem, s0, s6, s7, s5, hz]) | ((first | (refine hR _ ?_; clear hR R) | refine aZ rfl ?_); try refine aP ?_) | ((repeat (fail_if_success refine hK _ ?_); clear hK K); refine hK _ ?_; clear hK K) | refine aT ?_ | refine aF ?_ | refine aB ?_ | refine aN ?_ | fail)
   (first | refine ret_pure ?_ ?_ ?_ | refine ret_ro ?_ ?_ ?_); focus exact (okA Tryz.ntmps54 Tryz.results54)
   rotate_left; focus exact frA
   simp only [resA, resV, Tryz.results54, go_sem]
   all_goals try exact coA
   exact .dat rfl
abbrev mdO (b : Nm) (sz : Int) (tb : List (List Int)) : List (Nm × Ob) := [(b, .cells 53 [iA sz, .d (.sl (tb.map gI))])]
theorem roMd {b : Nm} {sz : Int} {tb : List (List Int)} {k : Nat} {h : Heap} (hb : b.1 < k) (h1 : h b = some (.cells 53 [iA sz, .d (.sl (tb.map gI))])) : RoOK k (mdO b sz tb) h := ⟨fun x hx => by
 simp only [mdO, List.mem_cons, List.not_mem_nil, or_false] at hx; subst hx; exact ⟨hb, h1⟩⟩
set_option maxRecDepth 20000 in
theorem check11_tri (b : Nm) (sz : Int) (tb : List (List Int)) (n : Int) : Tri Tryz.prog 88 [iA n, .ptr b 0] (rdE (mdO b sz tb) (bA (outOf sz n))) := by
 refine aER Tryz.func88 rfl Tryz.ntmps88 fun w0 h0 k hro => ?_
 obtain ⟨hb, eb⟩ := hro.get _ (List.mem_cons_self ..)
 unfold outOf
 cases h1 : decide (n < 0) with
 | true =>
  repeat' (first | refine aQ fun K hK => ?_ | ((first | refine aK fun R hR => ?_ | refine aD mixed fun R hR => ?_); simp only [go_sem, eb, h1]) | ((first | (refine hR _ ?_; clear hR R) | refine aZ rfl ?_); try refine aP ?_) | ((repeat (fail_if_success refine hK _ ?_); clear hK K); refine hK _ ?_; clear hK K) | refine aT ?_ | refine aF ?_ | refine aB ?_ | refine aN ?_ | fail)
  (first | refine ret_pure ?_ ?_ ?_ | refine ret_ro ?_ ?_ ?_); focus exact (okA Tryz.ntmps88 Tryz.results88)
  rotate_left; focus exact frA
  simp only [resA, resV, Tryz.results88, go_sem]
  all_goals try exact coA
  exact .dat rfl
 | false =>
  repeat' (first | refine aQ fun K hK => ?_ | ((first | refine aK fun R hR => ?_ | refine aD mixed fun R hR => ?_); simp only [go_sem, eb, h1]) | ((first | (refine hR _ ?_; clear hR R) | refine aZ rfl ?_); try refine aP ?_) | ((repeat (fail_if_success refine hK _ ?_); clear hK K); refine hK _ ?_; clear hK K) | refine aT ?_ | refine aF ?_ | refine aB ?_ | refine aN ?_ | fail)
  (first | refine ret_pure ?_ ?_ ?_ | refine ret_ro ?_ ?_ ?_); focus exact (okA Tryz.ntmps88 Tryz.results88)
  rotate_left; focus exact frA
  simp only [resA, resV, Tryz.results88, go_sem]
  all_goals try exact coA
  exact .dat rfl
set_option maxRecDepth 20000 in
theorem check1_tri (b : Nm) (sz : Int) (tb : List (List Int)) (r : List Int) (hr : r.length ≤ 16777216) : Tri Tryz.prog 87 [.d (gI r), .ptr b 0] (rdE (mdO b sz tb) (bA (r.any (outOf sz)))) := by
 refine aER Tryz.func87 rfl Tryz.ntmps87 fun w0 h0 k hro => ?_
 repeat' (first | refine aQ fun K hK => ?_ | ((first | refine aK fun R hR => ?_ | refine aD mixed fun R hR => ?_); simp only [go_sem]) | ((first | (refine hR _ ?_; clear hR R) | refine aZ rfl ?_); try refine aP ?_) | ((repeat (fail_if_success refine hK _ ?_); clear hK K); refine hK _ ?_; clear hK K) | refine aT ?_ | refine aF ?_ | refine aB ?_ | ((first | refine CallK.look (enter82) (containsF_ints r hr 88 (enter88) [.ptr b 0] (mdO b sz tb) (outOf sz) (fun n _ => check11_tri b sz tb n)) ?_ (by assumption) frA ?_ | refine CallD.look (enter82) (containsF_ints r hr 88 (enter88) [.ptr b 0] (mdO b sz tb) (outOf sz) (fun n _ => check11_tri b sz tb n)) ?_ (by assumption) frA (by first | assumption | exact List.cons_ne_nil _ _) ?_); (focus exact aC); simp only [go_sem]) | refine aN ?_ | fail)
 (first | refine ret_pure ?_ ?_ ?_ | refine ret_ro ?_ ?_ ?_); focus exact (okA Tryz.ntmps87 Tryz.results87)
 rotate_left; focus exact frA
 simp only [resA, resV, Tryz.results87, go_sem]
 all_goals try exact coA
 exact .dat rfl
end Go.Proofs.YtmeekpinkfpnhabGreat
namespace Go.Proofs.YtmeekpinkfpnhabGreat
open Go.ChangeShapes Go.WideShapes Go.RowKit
set_option maxRecDepth 20000 in
theorem model_reads : Reads Tryz.prog 53 (fun m : Int × List (List Int) => mdDV m.1 m.2) (fun _ => True) (fun m => (m.2.map fun r => r.length + 1).sum + 2) := by
 intro n
 refine ReadsN.map (reads_struct Tryz.underlying53 rfl (by kernel_rfl) fun m hm => readsF_cons rfl (reads_int Tryz.underlying3 m) (readsF_cons rfl (reads_slice Tryz.underlying51 (by decide +kernel) fun m' _ => ints_reads m') readsF_nil)) (fun p => (p.1, p.2.1)) fun p _ => ⟨rfl, trivial, ?_⟩
 simp only
 omega
theorem model_arg : ArgOf Tryz.prog 53 (fun m : Int × List (List Int) => mdDV m.1 m.2) (fun _ => True) (fun m => (m.2.map fun r => r.length + 1).sum + 2) := argOf_struct Tryz.underlying53 model_reads fun a => ⟨_, rfl⟩
end Go.Proofs.YtmeekpinkfpnhabGreat
namespace Go.Proofs.YtmeekpinkfpnhabGreat
abbrev Bs := List (Int × Tm)
def lookB (v : Int) : Bs → Option Tm
 | [] => none
 | p :: b => if v = p.1 then some p.2 else lookB v b
def sidesB (a b : Lt) : Bool := (same a.a b.a && same a.b b.b) || (same a.a b.b && same a.b b.a)
def dropB (o : List Lt) (l : Lt) : Bool := (!l.y && same l.a l.b) || o.any fun x => x.y == l.y && sidesB x l
mutual
def grow : Tm → Tm → Bs → Bool × Bs
 | .mk v f us, t, b =>
  if v > 0 then match lookB v b with
   | some u => (same u t, b)
   | none => (true, b ++ [(v, t)])
  else if t.v > 0 ∨ f ≠ t.f ∨ us.length ≠ t.us.length then (false, b) else growL us t.us b
def growL : List Tm → List Tm → Bs → Bool × Bs
 | x :: xs, y :: ys, b => if (grow x y b).1 = true then growL xs ys (grow x y b).2 else (false, b)
 | _, _, b => (true, b)
end
mutual
def mapM (step : Tm → Tm × Bool) : Tm → Tm
 | .mk v f us => if (step (.mk v f us)).2 = true then (step (.mk v f us)).1 else .mk v f (mapL step us)
def mapL (step : Tm → Tm × Bool) : List Tm → List Tm
 | [] => []
 | x :: xs => mapM step x :: mapL step xs
end
theorem mapM_eq (step : Tm → Tm × Bool) (t : Tm) : mapM step t = if (step t).2 = true then (step t).1 else .mk t.v t.f (mapL step t.us) := by cases t; rw [mapM]; rfl
theorem mapL_map (step : Tm → Tm × Bool) (us : List Tm) : mapL step us = us.map (mapM step) := by
 induction us with
 | nil => rfl
 | cons x xs ih => rw [mapL, ih, List.map_cons]
theorem mapL_take {step : Tm → Tm × Bool} {us : List Tm} {i : Nat} (hi : i < us.length) : mapL step (us.take (i + 1)) = mapL step (us.take i) ++ [mapM step us[i]] := by
 rw [mapL_map, mapL_map, List.take_succ_eq_append_getElem hi, List.map_append]; rfl
theorem mapL_len (step : Tm → Tm × Bool) (us : List Tm) : (mapL step us).length = us.length := by rw [mapL_map, List.length_map]
def copyS (t : Tm) : Tm × Bool := (t, false)
mutual
theorem copy_id : ∀ t : Tm, mapM copyS t = t
 | .mk v f us => by rw [mapM]; simp only [copyS, Bool.false_eq_true, if_false]; rw [copyL_id us]
theorem copyL_id : ∀ us : List Tm, mapL copyS us = us
 | [] => rfl
 | x :: xs => by rw [mapL, copy_id x, copyL_id xs]
end
def madeS (bs : Bs) (x : Tm) : Tm × Bool := match lookB x.v bs with
 | some u => if x.v > 0 then (u, true) else (x, false)
 | none => (x, false)
mutual
def applyR (bs : Bs) : Tm → Tm
 | .mk v f us => if v > 0 then (match lookB v bs with | some u => u | none => .mk v f us) else .mk 0 f (applyRL bs us)
def applyRL (bs : Bs) : List Tm → List Tm
 | [] => []
 | x :: xs => applyR bs x :: applyRL bs xs
end
def Good (t : Tm) : Prop := ∀ x ∈ parts t, 0 ≤ x.v ∧ (x.v > 0 → x.us = [])
theorem Good.at {v f : Int} {us : List Tm} (h : Good (.mk v f us)) : 0 ≤ v ∧ (v > 0 → us = []) := h (.mk v f us) (by rw [parts]; simp)
theorem Good.kid {t u : Tm} (h : Good t) (hu : u ∈ t.us) : Good u := by
 intro x hx
 refine h x ?_
 rw [parts_eq]
 refine List.mem_append_left _ ?_
 cases t with
 | mk v f us =>
  simp only [Tm.us] at hu ⊢
  clear h
  induction us with
  | nil => cases hu
  | cons y ys ih =>
   rw [partsL, List.mem_append]
   rcases List.mem_cons.1 hu with rfl | hu
   ·exact .inl hx
   ·exact .inr (ih hu)
theorem own_good {g : List Int} {t : Tm} (h : own g t = 0) : Good t := fun x hx => ⟨own_v h hx, own_bare h x hx⟩
mutual
theorem made_apply (bs : Bs) : ∀ t : Tm, Good t → mapM (madeS bs) t = applyR bs t
 | .mk v f us, h => by
  obtain ⟨h1, h2⟩ := h.at
  rw [mapM, applyR]
  by_cases hv : v > 0
  ·rw [if_pos hv]
   have := h2 hv; subst this
   cases hl : lookB v bs with
   | some u => simp [madeS, Tm.v, hl, hv]
   | none => simp [madeS, Tm.v, hl, mapL]
  ·rw [if_neg hv, if_neg (by simp only [madeS, Tm.v]; cases lookB v bs <;> simp [hv])]
   obtain rfl : v = 0 := by omega
   rw [madeL_apply bs us fun u hu => h.kid (t := .mk 0 f us) hu]
theorem madeL_apply (bs : Bs) : ∀ us : List Tm, (∀ u ∈ us, Good u) → mapL (madeS bs) us = applyRL bs us
 | [], _ => rfl
 | x :: xs, h => by rw [mapL, applyRL, made_apply bs x (h x (by simp)), madeL_apply bs xs fun u hu => h u (by simp [hu])]
end
def mapLt (f : Tm → Tm) (l : Lt) : Lt := ⟨l.y, f l.a, f l.b⟩
theorem mapLt_same {f g : Tm → Tm} {c : List Lt} (h : ∀ l ∈ c, f l.a = g l.a ∧ f l.b = g l.b) : c.map (mapLt f) = c.map (mapLt g) := by
 refine List.map_congr_left fun l hl => ?_
 unfold mapLt; rw [(h l hl).1, (h l hl).2]
def keepG : List Lt → List Lt → List Lt
 | o, [] => o
 | o, l :: c => if dropB o l = true then keepG o c else keepG (o ++ [l]) c
def keepR : List Lt → List Lt → List Lt
 | _, [] => []
 | p, l :: c => if dropB p l = true then keepR (p ++ [l]) c else l :: keepR (p ++ [l]) c
theorem sidesB_iff (a b : Lt) : sidesB a b = true ↔ (a.a = b.a ∧ a.b = b.b) ∨ (a.a = b.b ∧ a.b = b.a) := by
 unfold sidesB
 rw [Bool.or_eq_true, Bool.and_eq_true, Bool.and_eq_true, same_iff, same_iff, same_iff, same_iff]
theorem sidesB_trans {a b c : Lt} (h1 : sidesB a b = true) (h2 : sidesB b c = true) : sidesB a c = true := by
 rw [sidesB_iff] at *
 rcases h1 with ⟨h1, h3⟩ | ⟨h1, h3⟩ <;> rcases h2 with ⟨h2, h4⟩ | ⟨h2, h4⟩ <;> simp [h1, h2, h3, h4]
theorem dropB_snoc (o : List Lt) (l x : Lt) : dropB (o ++ [l]) x = (dropB o x || (l.y == x.y && sidesB l x)) := by
 unfold dropB; rw [List.any_append]; simp [Bool.or_assoc]
theorem dropB_dropped {p : List Lt} {l x : Lt} (h : dropB p l = true) : dropB (p ++ [l]) x = dropB p x := by
 rw [dropB_snoc]
 cases hq : (l.y == x.y && sidesB l x) with
 | false => rw [Bool.or_false]
 | true =>
  rw [Bool.or_true]
  rw [Bool.and_eq_true, beq_iff_eq] at hq
  obtain ⟨hy, hs⟩ := hq
  symm
  unfold dropB at h ⊢
  rw [Bool.or_eq_true] at h ⊢
  rcases h with h | h
  ·left
   rw [Bool.and_eq_true, same_iff] at h ⊢
   rw [← hy]
   refine ⟨h.1, ?_⟩
   rw [sidesB_iff] at hs
   rcases hs with ⟨h1, h2⟩ | ⟨h1, h2⟩
   ·rw [← h1, ← h2]; exact h.2
   ·rw [← h1, ← h2]; exact h.2.symm
  ·right
   rw [List.any_eq_true] at h ⊢
   obtain ⟨z, hz, h⟩ := h
   rw [Bool.and_eq_true, beq_iff_eq] at h
   refine ⟨z, hz, ?_⟩
   rw [Bool.and_eq_true, beq_iff_eq]
   exact ⟨h.1.trans hy, sidesB_trans h.2 hs⟩
theorem keep_eq : ∀ (c o p : List Lt), (∀ x, dropB o x = dropB p x) → keepG o c = o ++ keepR p c
 | [], o, p, _ => by rw [keepG, keepR, List.append_nil]
 | l :: c, o, p, h => by
  rw [keepG, keepR, h l]
  by_cases hd : dropB p l = true
  ·rw [if_pos hd, if_pos hd]
   exact keep_eq c o _ fun x => by rw [h x, dropB_dropped hd]
  ·rw [if_neg hd, if_neg hd, keep_eq c (o ++ [l]) (p ++ [l]) (fun x => by rw [dropB_snoc, dropB_snoc, h x])]
   simp
theorem keepR_mem : ∀ {c p : List Lt} {x : Lt}, x ∈ keepR p c → x ∈ c
 | l :: c, p, x, h => by
  rw [keepR] at h
  split at h
  ·exact List.mem_cons_of_mem _ (keepR_mem h)
  ·rcases List.mem_cons.1 h with rfl | h
   ·exact List.mem_cons_self
   ·exact List.mem_cons_of_mem _ (keepR_mem h)
theorem keepR_len : ∀ (c p : List Lt), (keepR p c).length ≤ c.length
 | [], _ => Nat.le_refl _
 | l :: c, p => by
  rw [keepR]
  split
  ·have := keepR_len c (p ++ [l]); simp; omega
  ·have := keepR_len c (p ++ [l]); simp; omega
def numBs : List Int → Nat → Bs
 | [], _ => []
 | v :: vs, i => (v, .mk ((i : Int) + 1) 0 []) :: numBs vs (i + 1)
theorem numBs_append : ∀ (a b : List Int) (i : Nat), numBs (a ++ b) i = numBs a i ++ numBs b (i + a.length)
 | [], b, i => by simp [numBs]
 | v :: a, b, i => by rw [List.cons_append, numBs, numBs, numBs_append a b]; simp [Nat.add_assoc, Nat.add_comm 1]
theorem numBs_mem : ∀ {vs : List Int} {i : Nat} {p : Int × Tm}, p ∈ numBs vs i → p.1 ∈ vs ∧ p.2.us = [] ∧ p.2.v > 0 ∧ p.2.f = 0
 | v :: vs, i, p, h => by
  rw [numBs] at h
  rcases List.mem_cons.1 h with rfl | h
  ·exact ⟨by simp, rfl, by simp only [Tm.v]; omega, rfl⟩
  ·obtain ⟨h1, h2⟩ := numBs_mem h
   exact ⟨by simp [h1], h2⟩
def neatG (c : List Lt) : List Lt := (keepG [] c).map (mapLt (mapM (madeS (numBs (addVs [] ((termsOf (keepG [] c)).flatMap pre)) 0))))
def tidyR (c : List Lt) : List Lt := (keepR [] c).map (mapLt (applyR (numBs (firstVars (termsOf (keepR [] c))) 0)))
theorem keep_nil (c : List Lt) : keepG [] c = keepR [] c := by rw [keep_eq c [] [] fun _ => rfl, List.nil_append]
theorem termsOf_mem {c : List Lt} {t : Tm} (h : t ∈ termsOf c) : ∃ l ∈ c, t = l.a ∨ t = l.b := by
 obtain ⟨l, hl, h⟩ := List.mem_flatMap.1 h
 exact ⟨l, hl, by simpa using h⟩
theorem neat_tidy {c : List Lt} (h : ∀ l ∈ c, Good l.a ∧ Good l.b) : neatG c = tidyR c := by
 have hk : ∀ l ∈ keepR [] c, Good l.a ∧ Good l.b := fun l hl => h l (keepR_mem hl)
 have hb : ∀ t ∈ termsOf (keepR [] c), Bare t := fun t ht x hx => by
  obtain ⟨l, hl, rfl | rfl⟩ := termsOf_mem ht
  ·exact ((hk l hl).1 x hx).2
  ·exact ((hk l hl).2 x hx).2
 unfold neatG tidyR
 rw [keep_nil, stands_eq hb]
 exact mapLt_same fun l hl => ⟨made_apply _ _ (hk l hl).1, made_apply _ _ (hk l hl).2⟩
def turnL (x : Lt) : Lt := ⟨x.y, x.b, x.a⟩
mutual
def sub (σ : Int → Tm) : Tm → Tm
 | .mk v f us => if v > 0 then σ v else .mk v f (subL σ us)
def subL (σ : Int → Tm) : List Tm → List Tm
 | [] => []
 | x :: xs => sub σ x :: subL σ xs
end
theorem sub_eq (σ : Int → Tm) (t : Tm) : sub σ t = if t.v > 0 then σ t.v else .mk t.v t.f (subL σ t.us) := by cases t; rw [sub]; rfl
theorem subL_map (σ : Int → Tm) (us : List Tm) : subL σ us = us.map (sub σ) := by
 induction us with
 | nil => rfl
 | cons x xs ih => rw [subL, ih, List.map_cons]
mutual
theorem sub_congr {σ τ : Int → Tm} : ∀ t : Tm, (∀ x ∈ parts t, x.v > 0 → σ x.v = τ x.v) → sub σ t = sub τ t
 | .mk v f us, h => by
  rw [sub, sub]
  by_cases hv : v > 0
  ·rw [if_pos hv, if_pos hv]; exact h (.mk v f us) (by rw [parts]; simp) hv
  ·rw [if_neg hv, if_neg hv, subL_congr us fun x hx => h x (by rw [parts]; exact List.mem_append_left _ hx)]
theorem subL_congr {σ τ : Int → Tm} : ∀ us : List Tm, (∀ x ∈ partsL us, x.v > 0 → σ x.v = τ x.v) → subL σ us = subL τ us
 | [], _ => rfl
 | x :: xs, h => by
  rw [subL, subL, sub_congr x fun y hy => h y (by rw [partsL]; exact List.mem_append_left _ hy), subL_congr xs fun y hy => h y (by rw [partsL]; exact List.mem_append_right _ hy)]
end
abbrev vt (v : Int) : Tm := .mk v 0 []
def Pure (t : Tm) : Prop := ∀ x ∈ parts t, 0 ≤ x.v ∧ (x.v > 0 → x = vt x.v)
theorem Pure.good {t : Tm} (h : Pure t) : Good t := fun x hx => ⟨(h x hx).1, fun hv => by rw [(h x hx).2 hv]; rfl⟩
theorem parts_kid {t u : Tm} (hu : u ∈ t.us) {x : Tm} (hx : x ∈ parts u) : x ∈ parts t := by
 rw [parts_eq]
 refine List.mem_append_left _ ?_
 generalize t.us = us at hu
 induction us with
 | nil => cases hu
 | cons y ys ih =>
  rw [partsL, List.mem_append]
  rcases List.mem_cons.1 hu with rfl | hu
  ·exact .inl hx
  ·exact .inr (ih hu)
theorem parts_self (t : Tm) : t ∈ parts t := by rw [parts_eq]; simp
theorem partsL_mem {us : List Tm} {x : Tm} (h : x ∈ partsL us) : ∃ u ∈ us, x ∈ parts u := by
 induction us with
 | nil => simp [partsL] at h
 | cons y ys ih =>
  rw [partsL, List.mem_append] at h
  rcases h with h | h
  ·exact ⟨y, by simp, h⟩
  ·obtain ⟨u, hu, hx⟩ := ih h
   exact ⟨u, by simp [hu], hx⟩
theorem Pure.kid {t u : Tm} (h : Pure t) (hu : u ∈ t.us) : Pure u := fun x hx => h x (parts_kid hu hx)
theorem own_pure {g : List Int} {t : Tm} (h : own g t = 0) : Pure t := fun x hx => by
 refine ⟨own_v h hx, fun hv => ?_⟩
 have h1 := own_each h hx
 have h2 := own_bare h x hx hv
 unfold formOne at h1
 rw [if_pos (by omega)] at h1
 split at h1
 ·cases h1
 ·split at h1
  ·cases h1
  ·rename_i h3
   obtain ⟨v, f, us⟩ := x
   simp only [Tm.us, Tm.f, Tm.v] at *
   subst h2
   have : f = 0 := by
    rcases Classical.em (f = 0) with h | h
    ·exact h
    ·exact absurd (.inr h) h3
   rw [this]
def sbOf (b : Bs) (v : Int) : Tm := (lookB v b).getD (vt v)
def subLt (σ : Int → Tm) : Lt → Lt := mapLt (sub σ)
theorem v_mk (v f : Int) (us : List Tm) : (Tm.mk v f us).v = v := rfl
mutual
theorem applyR_sub (bs : Bs) : ∀ t : Tm, Pure t → applyR bs t = sub (sbOf bs) t
 | .mk v f us, h => by
  obtain ⟨h1, h2⟩ := h (.mk v f us) (parts_self _)
  simp only [Tm.v] at h1 h2
  rw [applyR, sub]
  by_cases hv : v > 0
  ·rw [if_pos hv, if_pos hv]
   unfold sbOf
   cases lookB v bs with
   | some u => rfl
   | none => exact h2 hv
  ·rw [if_neg hv, if_neg hv, applyRL_sub bs us fun u hu => h.kid (t := .mk v f us) hu]
   obtain rfl : v = 0 := by omega
   rfl
theorem applyRL_sub (bs : Bs) : ∀ us : List Tm, (∀ u ∈ us, Pure u) → applyRL bs us = subL (sbOf bs) us
 | [], _ => rfl
 | x :: xs, h => by rw [applyRL, subL, applyR_sub bs x (h x (by simp)), applyRL_sub bs xs fun u hu => h u (by simp [hu])]
end
structure Rn (ρ : Int → Tm) (r : Int → Int) (V : List Int) : Prop where
 eq : ∀ v ∈ V, ρ v = vt (r v)
 pos : ∀ v ∈ V, r v > 0
 inj : ∀ v ∈ V, ∀ u ∈ V, r v = r u → v = u
def Vin (V : List Int) (t : Tm) : Prop := Pure t ∧ ∀ x ∈ parts t, x.v > 0 → x.v ∈ V
theorem Vin.kid {V : List Int} {t u : Tm} (h : Vin V t) (hu : u ∈ t.us) : Vin V u := ⟨h.1.kid hu, fun x hx => h.2 x (parts_kid hu hx)⟩
section
variable {ρ : Int → Tm} {r : Int → Int} {V : List Int} (H : Rn ρ r V)
include H
mutual
theorem rn_count : ∀ (t : Tm) (most : Int), Vin V t → count (sub ρ t) most = count t most
 | .mk v f us, most, h => by
  by_cases hv : v > 0
  ·obtain ⟨h1, h2⟩ := h.1 (.mk v f us) (parts_self _)
   have hin := h.2 (.mk v f us) (parts_self _) hv
   have e := h2 hv
   rw [e]
   simp only [Tm.v] at hin ⊢
   rw [sub, if_pos hv, H.eq v hin]
   rfl
  ·rw [sub, if_neg hv, count, count, rn_countL us 1 most fun u hu => h.kid (t := .mk v f us) hu]
theorem rn_countL : ∀ (us : List Tm) (n most : Int), (∀ u ∈ us, Vin V u) → countL (subL ρ us) n most = countL us n most
 | [], _, _, _ => rfl
 | x :: xs, n, most, h => by
  rw [subL, countL, countL, rn_count x _ (h x (by simp)), rn_countL xs _ most fun u hu => h u (by simp [hu])]
end
mutual
theorem rn_form (g : List Int) (hr : ∀ v ∈ V, r v ≤ 1000) : ∀ t : Tm, Vin V t → form g t = 0 → form g (sub ρ t) = 0
 | .mk v f us, h, hf => by
  by_cases hv : v > 0
  ·have hin := h.2 (.mk v f us) (parts_self _) hv
   simp only [Tm.v] at hin
   rw [sub, if_pos hv, H.eq v hin]
   have := H.pos v hin
   have := hr v hin
   simp [form, formL, formOne]; omega
  ·rw [form] at hf
   rw [sub, if_neg hv, form]
   by_cases hl : formL g us = 0
   ·rw [if_neg (by simp [hl])] at hf
    rw [if_neg (by simp [rn_formL g hr us (fun u hu => h.kid (t := .mk v f us) hu) hl]), subL_map, List.length_map]
    exact hf
   ·rw [if_pos hl] at hf; exact absurd hf hl
theorem rn_formL (g : List Int) (hr : ∀ v ∈ V, r v ≤ 1000) : ∀ us : List Tm, (∀ u ∈ us, Vin V u) → formL g us = 0 → formL g (subL ρ us) = 0
 | [], _, _ => rfl
 | x :: xs, h, hf => by
  rw [formL] at hf
  rw [subL, formL]
  by_cases hx : form g x = 0
  ·rw [if_neg (by simp [hx])] at hf
   rw [if_neg (by simp [rn_form g hr x (h x (by simp)) hx])]
   exact rn_formL g hr xs (fun u hu => h u (by simp [hu])) hf
  ·rw [if_pos hx] at hf; exact absurd hf hx
end
theorem rn_own (g : List Int) (hr : ∀ v ∈ V, r v ≤ 1000) {t : Tm} (h : Vin V t) (ho : own g t = 0) : own g (sub ρ t) = 0 := by
 obtain ⟨h1, h2⟩ := own_form ho
 unfold own
 rw [rn_count H t 120 h, if_neg (by omega)]
 exact rn_form H g hr t h h1
end
theorem look_num : ∀ (vs : List Int) (i j : Nat) (h : j < vs.length), vs.Nodup → lookB vs[j] (numBs vs i) = some (vt ((i : Int) + j + 1))
 | v :: vs, i, 0, _, _ => by simp [numBs, lookB]
 | v :: vs, i, j + 1, h, hn => by
  rw [List.nodup_cons] at hn
  have hj : j < vs.length := by simpa using h
  have hne : ¬ vs[j] = v := fun e => hn.1 (by rw [← e]; exact List.getElem_mem _)
  rw [List.getElem_cons_succ, numBs, lookB, if_neg hne, look_num vs (i + 1) j hj hn.2]
  congr 2; omega
def posV (V : List Int) (v : Int) : Int := (V.idxOf v : Int) + 1
theorem num_rn {V : List Int} (hn : V.Nodup) : Rn (sbOf (numBs V 0)) (posV V) V := by
 refine ⟨fun v hv => ?_, fun v hv => by unfold posV; omega, fun v hv u hu h => ?_⟩
 ·have hi := List.idxOf_lt_length_of_mem hv
  have := look_num V 0 (V.idxOf v) hi hn
  rw [List.getElem_idxOf hi] at this
  unfold sbOf posV
  rw [this]; simp
 ·have h1 := List.getElem_idxOf (List.idxOf_lt_length_of_mem hv)
  have h2 := List.getElem_idxOf (List.idxOf_lt_length_of_mem hu)
  have : V.idxOf v = V.idxOf u := by unfold posV at h; omega
  rw [← h1, ← h2]
  congr 1
theorem nodup_le : ∀ (n : Nat) (l : List Int), l.Nodup → (∀ v ∈ l, 1 ≤ v ∧ v ≤ n) → l.length ≤ n
 | 0, l, _, h => by
  cases l with
  | nil => simp
  | cons v l => have := h v (by simp); omega
 | n + 1, l, hn, h => by
  have h1 := nodup_le n (l.erase ((n : Int) + 1)) (hn.erase _) fun v hv => by
   have h2 := (hn.mem_erase_iff).1 hv
   have := h v h2.2
   have := h2.1
   omega
  rw [List.length_erase] at h1
  split at h1 <;> omega
abbrev varsC (c : List Lt) : List Int := firstVars (termsOf c)
theorem termsOf_in {c : List Lt} {l : Lt} (hl : l ∈ c) : l.a ∈ termsOf c ∧ l.b ∈ termsOf c :=
 ⟨List.mem_flatMap.2 ⟨l, hl, by simp⟩, List.mem_flatMap.2 ⟨l, hl, by simp⟩⟩
theorem firstVars_has {l : List Tm} {t x : Tm} (ht : t ∈ l) (hx : x ∈ parts t) (hv : x.v > 0) : x.v ∈ firstVars l := addVs_has (List.mem_flatMap.2 ⟨t, ht, hx⟩) hv
def PureC (c : List Lt) : Prop := ∀ l ∈ c, Pure l.a ∧ Pure l.b
theorem PureC.vin {c : List Lt} (h : PureC c) : ∀ l ∈ c, Vin (varsC c) l.a ∧ Vin (varsC c) l.b := fun l hl =>
 ⟨⟨(h l hl).1, fun _ hx hv => firstVars_has (termsOf_in hl).1 hx hv⟩, ⟨(h l hl).2, fun _ hx hv => firstVars_has (termsOf_in hl).2 hx hv⟩⟩
theorem varsC_nodup (c : List Lt) : (varsC c).Nodup := addVs_nodup (by simp)
theorem tidyR_sub {c : List Lt} (h : PureC c) : tidyR c = (keepR [] c).map (subLt (sbOf (numBs (varsC (keepR [] c)) 0))) := by
 unfold tidyR
 exact mapLt_same fun l hl => ⟨applyR_sub _ _ (h l (keepR_mem hl)).1, applyR_sub _ _ (h l (keepR_mem hl)).2⟩
theorem tidy_own {g : List Int} {c : List Lt} (h : ∀ l ∈ c, own g l.a = 0 ∧ own g l.b = 0) (hv : ∀ v ∈ varsC (keepR [] c), 1 ≤ v ∧ v ≤ 1000) : ∀ l ∈ tidyR c, own g l.a = 0 ∧ own g l.b = 0 := by
 have hp : PureC c := fun l hl => ⟨own_pure (h l hl).1, own_pure (h l hl).2⟩
 have hk : PureC (keepR [] c) := fun l hl => hp l (keepR_mem hl)
 have H := num_rn (varsC_nodup (keepR [] c))
 have hlen := nodup_le 1000 _ (varsC_nodup (keepR [] c)) hv
 rw [tidyR_sub hp]
 intro l hl
 obtain ⟨x, hx, rfl⟩ := List.mem_map.1 hl
 have hr : ∀ v ∈ varsC (keepR [] c), posV (varsC (keepR [] c)) v ≤ 1000 := fun v hv => by
  have := List.idxOf_lt_length_of_mem hv
  unfold posV; omega
 have ho := h x (keepR_mem hx)
 exact ⟨rn_own H g hr (hk.vin x hx).1 ho.1, rn_own H g hr (hk.vin x hx).2 ho.2⟩
mutual
def valM (sz : Int) (tb : List (List Int)) (vs : Int → Int) : Tm → Int
 | .mk v f us => if v > 0 then vs v else (tb.getD f.toNat []).getD (valL sz tb vs us 0).toNat 0
def valL (sz : Int) (tb : List (List Int)) (vs : Int → Int) : List Tm → Int → Int
 | [], a => a
 | x :: xs, a => valL sz tb vs xs (a * sz + valM sz tb vs x)
end
theorem valM_eq (sz : Int) (tb : List (List Int)) (vs : Int → Int) (t : Tm) : valM sz tb vs t = if t.v > 0 then vs t.v else (tb.getD t.f.toNat []).getD (valL sz tb vs t.us 0).toNat 0 := by cases t; rw [valM]; rfl
theorem valL_take {sz : Int} {tb : List (List Int)} {vs : Int → Int} : ∀ {us : List Tm} {i : Nat} (hi : i < us.length) (a : Int), valL sz tb vs (us.take (i + 1)) a = valL sz tb vs (us.take i) a * sz + valM sz tb vs us[i]
 | x :: xs, 0, _, a => by simp [valL]
 | x :: xs, i + 1, hi, a => by
  rw [List.take_succ_cons, List.take_succ_cons, valL, valL]
  exact valL_take (by simpa using hi) _
def Fine (g : List Int) (sz : Int) (vs : Int → Int) (l : List Tm) : Prop := ∀ x ∈ l, formOne g x.v x.f x.us.length = 0 ∧ (x.v > 0 → 0 ≤ vs x.v ∧ vs x.v < sz)
section
variable {g : List Int} {sz : Int} {tb : List (List Int)} {vs : Int → Int} (hm : mdOk g sz tb = 0)
include hm
theorem md_row {f : Int} (h0 : 0 ≤ f) (h1 : f < g.length) : ∃ h : f.toNat < tb.length, (tb[f.toNat].length : Int) = sz ^ (g.getD f.toNat 0).toNat ∧ ∀ n ∈ tb[f.toNat], 0 ≤ n ∧ n < sz := by
 obtain ⟨h2, h3, h4, h5, h6, h7⟩ := mdOk_all hm
 have h : f.toNat < g.length := by omega
 refine ⟨by omega, ?_, h7 _ (List.getElem_mem _)⟩
 rw [rowsBad_all h6 f.toNat h (by omega), getD_at h]
mutual
theorem valM_ok : ∀ t : Tm, Fine g sz vs (parts t) → 0 ≤ valM sz tb vs t ∧ valM sz tb vs t < sz
 | .mk v f us, hf => by
  have h0 := hf (.mk v f us) (by rw [parts]; simp)
  simp only [Tm.v, Tm.f, Tm.us] at h0
  obtain ⟨h1, h2⟩ := h0
  rw [valM]
  by_cases hv : v > 0
  ·rw [if_pos hv]; exact h2 hv
  ·rw [if_neg hv]
   have hL := valL_ok us 0 0 (fun x hx => hf x (by rw [parts]; exact List.mem_append_left _ hx)) (by omega) (by simp)
   have hv0 := formOne_v h1
   unfold formOne at h1
   rw [if_neg (by omega)] at h1
   split at h1
   ·cases h1
   ·split at h1
    ·cases h1
    ·rename_i h3 h4
     simp only [Nat.zero_add] at hL
     obtain ⟨h5, h6, h7⟩ := md_row hm (f := f) (by omega) (by omega)
     rw [getD_at h5]
     have h8 : (g.getD f.toNat 0).toNat = us.length := by have h4 := Decidable.not_not.1 h4; omega
     rw [h8] at h6
     have h9 : (valL sz tb vs us 0).toNat < tb[f.toNat].length := by omega
     rw [getD_at h9]
     exact h7 _ (List.getElem_mem _)
theorem valL_ok : ∀ (us : List Tm) (a : Int) (j : Nat), Fine g sz vs (partsL us) → 0 ≤ a → a < sz ^ j → 0 ≤ valL sz tb vs us a ∧ valL sz tb vs us a < sz ^ (j + us.length)
 | [], a, j, _, h0, h1 => by rw [valL]; exact ⟨h0, by simpa using h1⟩
 | x :: xs, a, j, hf, h0, h1 => by
  have hx := valM_ok x fun y hy => hf y (by rw [partsL]; exact List.mem_append_left _ hy)
  obtain ⟨_, h3, h4, _⟩ := mdOk_all hm
  rw [valL]
  have := valL_ok xs (a * sz + valM sz tb vs x) (j + 1) (fun y hy => hf y (by rw [partsL]; exact List.mem_append_right _ hy))
   (by
     have : sz = 1 ∨ sz = 2 ∨ sz = 3 := by omega
     rcases this with rfl | rfl | rfl <;> omega)
   (by
     rw [Int.pow_succ]
     generalize sz ^ j = p at *
     have : sz = 1 ∨ sz = 2 ∨ sz = 3 := by omega
     rcases this with rfl | rfl | rfl <;> omega)
  rw [List.length_cons, show j + (xs.length + 1) = j + 1 + xs.length by omega]
  exact this
end
end
mutual
theorem valM_congr {sz : Int} {tb : List (List Int)} {vs vs' : Int → Int} : ∀ t : Tm, (∀ x ∈ parts t, x.v > 0 → vs x.v = vs' x.v) → valM sz tb vs t = valM sz tb vs' t
 | .mk v f us, h => by
  rw [valM, valM]
  by_cases hv : v > 0
  ·rw [if_pos hv, if_pos hv]; exact h (.mk v f us) (by rw [parts]; simp) hv
  ·rw [if_neg hv, if_neg hv, valL_congr us 0 fun x hx => h x (by rw [parts]; exact List.mem_append_left _ hx)]
theorem valL_congr {sz : Int} {tb : List (List Int)} {vs vs' : Int → Int} : ∀ (us : List Tm) (a : Int), (∀ x ∈ partsL us, x.v > 0 → vs x.v = vs' x.v) → valL sz tb vs us a = valL sz tb vs' us a
 | [], a, _ => rfl
 | x :: xs, a, h => by
  rw [valL, valL, valM_congr x fun y hy => h y (by rw [partsL]; exact List.mem_append_left _ hy)]
  exact valL_congr xs _ fun y hy => h y (by rw [partsL]; exact List.mem_append_right _ hy)
end
theorem parts_sub {t u : Tm} (hu : u ∈ t.us) : ∀ x ∈ parts u, x ∈ parts t := fun x hx => by
 rw [parts_eq]
 refine List.mem_append_left _ ?_
 obtain ⟨i, hi, rfl⟩ := List.mem_iff_getElem.1 hu
 have h := partsL_take hi
 have h2 : partsL t.us = partsL (t.us.take (i + 1)) ++ partsL (t.us.drop (i + 1)) := by rw [← partsL_append, List.take_append_drop]
 rw [h2, h]
 exact List.mem_append_left _ (List.mem_append_right _ hx)
theorem Fine.take {g : List Int} {sz : Int} {vs : Int → Int} {t : Tm} (h : Fine g sz vs (parts t)) (i : Nat) : Fine g sz vs (partsL (t.us.take i)) := fun x hx => h x (by
 rw [parts_eq]
 refine List.mem_append_left _ ?_
 have h2 : partsL t.us = partsL (t.us.take i) ++ partsL (t.us.drop i) := by rw [← partsL_append, List.take_append_drop]
 rw [h2]; exact List.mem_append_left _ hx)
def dig (sz : Int) : List Int → Int → Int → Int
 | [], _, _ => 0
 | x :: l, n, v => if v = x then n.tmod sz else dig sz l (n.tdiv sz) v
def litIn (sz : Int) (tb : List (List Int)) (vs : Int → Int) (l : Lt) : Bool := (valM sz tb vs l.a == valM sz tb vs l.b) == l.y
def holdsF (sz : Int) (tb : List (List Int)) (c : List Lt) (names : List Int) (N n : Nat) : Bool := ((List.range N).drop n).all fun i => c.any (litIn sz tb (dig sz names i))
def holdsC (sz : Int) (tb : List (List Int)) (c : List Lt) : Bool := holdsF sz tb c (firstVars (termsOf c)) (sz ^ (firstVars (termsOf c)).length).toNat 0
theorem holdsF_at {sz : Int} {tb : List (List Int)} {c : List Lt} {names : List Int} {N n : Nat} (hn : n < N) : holdsF sz tb c names N n = (c.any (litIn sz tb (dig sz names n)) && holdsF sz tb c names N (n + 1)) := by
 have h : n < (List.range N).length := by simpa using hn
 unfold holdsF
 rw [List.drop_eq_getElem_cons h, List.all_cons, List.getElem_range]
theorem holdsF_end {sz : Int} {tb : List (List Int)} {c : List Lt} {names : List Int} {N n : Nat} (hn : N ≤ n) : holdsF sz tb c names N n = true := by
 unfold holdsF
 rw [List.drop_eq_nil_of_le (by simpa using hn)]; rfl
theorem tmod_in {n sz : Int} (h0 : 0 ≤ n) (h1 : 1 ≤ sz) : 0 ≤ n.tmod sz ∧ n.tmod sz < sz := ⟨Int.tmod_nonneg _ h0, Int.tmod_lt_of_pos _ (by omega)⟩
theorem tdiv_in {n sz : Int} (h0 : 0 ≤ n) (h1 : 1 ≤ sz) : 0 ≤ n.tdiv sz ∧ n.tdiv sz ≤ n := ⟨Int.tdiv_nonneg h0 (by omega), by
 rw [Int.tdiv_eq_ediv_of_nonneg h0]
 exact Int.ediv_le_self _ h0⟩
theorem dig_in {sz : Int} (h1 : 1 ≤ sz) : ∀ (l : List Int) (n v : Int), 0 ≤ n → v ∈ l → 0 ≤ dig sz l n v ∧ dig sz l n v < sz
 | x :: l, n, v, h0, hv => by
  rw [dig]
  by_cases h : v = x
  ·rw [if_pos h]; exact tmod_in h0 h1
  ·rw [if_neg h]
   exact dig_in h1 l _ v (tdiv_in h0 h1).1 (by rcases List.mem_cons.1 hv with h2 | h2; exact absurd h2 h; exact h2)
theorem fine_lit {g : List Int} {sz : Int} {c : List Lt} {n : Int} (h1 : 1 ≤ sz) (hn : 0 ≤ n) (hc : ∀ l ∈ c, own g l.a = 0 ∧ own g l.b = 0) {l : Lt} (hl : l ∈ c) :
  (Fine g sz (dig sz (firstVars (termsOf c)) n) (parts l.a) ∧ ∀ x ∈ parts l.a, x.v > 0 → x.v ∈ firstVars (termsOf c)) ∧ (Fine g sz (dig sz (firstVars (termsOf c)) n) (parts l.b) ∧ ∀ x ∈ parts l.b, x.v > 0 → x.v ∈ firstVars (termsOf c)) := by
 have key : ∀ t, t ∈ termsOf c → own g t = 0 → Fine g sz (dig sz (firstVars (termsOf c)) n) (parts t) ∧ ∀ x ∈ parts t, x.v > 0 → x.v ∈ firstVars (termsOf c) := by
  intro t ht ho
  have hk : ∀ x ∈ parts t, x.v > 0 → x.v ∈ firstVars (termsOf c) := fun x hx hv => addVs_has (List.mem_flatMap.2 ⟨t, ht, hx⟩) hv
  exact ⟨fun x hx => ⟨own_each ho hx, fun hv => dig_in h1 _ _ _ hn (hk x hx hv)⟩, hk⟩
 exact ⟨key _ (List.mem_flatMap.2 ⟨l, hl, by simp⟩) (hc l hl).1, key _ (List.mem_flatMap.2 ⟨l, hl, by simp⟩) (hc l hl).2⟩
theorem own_vmax {g : List Int} {t : Tm} (ho : own g t = 0) {x : Tm} (hx : x ∈ parts t) (hv : x.v > 0) : x.v ≤ 1000 := by
 have h1 := own_each ho hx
 unfold formOne at h1
 rw [if_pos (by omega)] at h1
 split at h1
 ·cases h1
 ·omega
theorem termsOf_own {g : List Int} {c : List Lt} (hc : ∀ l ∈ c, own g l.a = 0 ∧ own g l.b = 0) : ∀ t ∈ termsOf c, own g t = 0 := by
 intro t ht
 obtain ⟨l, hl, h⟩ := List.mem_flatMap.1 ht
 simp at h
 rcases h with rfl | rfl
 ·exact (hc l hl).1
 ·exact (hc l hl).2
theorem names_in {g : List Int} {c : List Lt} (hc : ∀ l ∈ c, own g l.a = 0 ∧ own g l.b = 0) : ∀ v ∈ firstVars (termsOf c), 1 ≤ v ∧ v ≤ 1000 := by
 intro v hv
 rcases addVs_mem hv with h | ⟨x, hx, rfl, h2⟩
 ·simp at h
 ·obtain ⟨t, ht, hx⟩ := List.mem_flatMap.1 hx
  exact ⟨by omega, own_vmax (termsOf_own hc t ht) hx h2⟩
theorem flatP_len (l : List Tm) : (l.flatMap parts).length = Tm.size.sizes l := by
 induction l with
 | nil => rfl
 | cons x xs ih => rw [List.flatMap_cons, List.length_append, ih, Tm.size.sizes, parts_len]
theorem firstVars_len (l : List Tm) : (firstVars l).length ≤ Tm.size.sizes l := by
 have h1 := addVs_len (l.flatMap parts) []
 rw [flatP_len] at h1
 simpa [firstVars] using h1
theorem clsOk_one {g : List Int} {c : List Lt} (h : clsOk g [c] = 0) : c.length ≤ 8 ∧ ∀ l ∈ c, own g l.a = 0 ∧ own g l.b = 0 := clOk_all ((clsOk_all h).2.2 c (by simp))
theorem stands_cl {g : List Int} {c : List Lt} (hc : ∀ l ∈ c, own g l.a = 0 ∧ own g l.b = 0) : addVs [] ((termsOf c).flatMap pre) = firstVars (termsOf c) := stands_eq (fun t ht => own_bare (termsOf_own hc t ht)) []
theorem termsOf_size {g : List Int} {c : List Lt} (hc : ∀ l ∈ c, own g l.a = 0 ∧ own g l.b = 0) : Tm.size.sizes (termsOf c) ≤ 240 * c.length := by
 induction c with
 | nil => simp [termsOf, Tm.size.sizes]
 | cons l c ih =>
  have h1 := hc l (by simp)
  have h2 := own_parts h1.1
  have h3 := own_parts h1.2
  have h4 := ih fun x hx => hc x (by simp [hx])
  rw [parts_len] at h2 h3
  have : termsOf (l :: c) = l.a :: l.b :: termsOf c := rfl
  rw [this, Tm.size.sizes, Tm.size.sizes, List.length_cons]
  omega
mutual
theorem valM_sub {sz : Int} {tb : List (List Int)} {vs : Int → Int} (σ : Int → Tm) : ∀ t : Tm, valM sz tb vs (sub σ t) = valM sz tb (fun v => valM sz tb vs (σ v)) t
 | .mk v f us => by
  rw [sub, valM]
  by_cases hv : v > 0
  ·rw [if_pos hv, if_pos hv]
  ·rw [if_neg hv, if_neg hv, valM, if_neg hv, valL_sub σ us 0]
theorem valL_sub {sz : Int} {tb : List (List Int)} {vs : Int → Int} (σ : Int → Tm) : ∀ (us : List Tm) (a : Int), valL sz tb vs (subL σ us) a = valL sz tb (fun v => valM sz tb vs (σ v)) us a
 | [], _ => rfl
 | x :: xs, a => by rw [subL, valL, valL, valM_sub σ x, valL_sub σ xs]
end
theorem litIn_sub {sz : Int} {tb : List (List Int)} {vs : Int → Int} (σ : Int → Tm) (l : Lt) : litIn sz tb vs (subLt σ l) = litIn sz tb (fun v => valM sz tb vs (σ v)) l := by
 simp only [litIn, subLt, mapLt, valM_sub]
theorem litIn_turn {sz : Int} {tb : List (List Int)} {vs : Int → Int} (l : Lt) : litIn sz tb vs (turnL l) = litIn sz tb vs l := by
 simp only [litIn, turnL]
 congr 1
 rw [Bool.eq_iff_iff, beq_iff_eq, beq_iff_eq]; exact eq_comm
theorem litIn_congr {sz : Int} {tb : List (List Int)} {vs vs' : Int → Int} {l : Lt} (h : ∀ x, x ∈ parts l.a ∨ x ∈ parts l.b → x.v > 0 → vs x.v = vs' x.v) : litIn sz tb vs l = litIn sz tb vs' l := by
 unfold litIn
 rw [valM_congr l.a fun x hx => h x (.inl hx), valM_congr l.b fun x hx => h x (.inr hx)]
def InS (sz : Int) (vs : Int → Int) : Prop := ∀ v, 0 ≤ vs v ∧ vs v < sz
def HoldsA (sz : Int) (tb : List (List Int)) (c : List Lt) : Prop := ∀ vs, InS sz vs → ∃ l ∈ c, litIn sz tb vs l = true
theorem dig_sur {sz : Int} (h1 : 1 ≤ sz) (h3 : sz ≤ 3) {vs : Int → Int} (hv : InS sz vs) : ∀ names : List Int, ∃ n : Int, 0 ≤ n ∧ n < sz ^ names.length ∧ ∀ v ∈ names, dig sz names n v = vs v
 | [] => ⟨0, by omega, by simp, fun v hv => by cases hv⟩
 | x :: names => by
  obtain ⟨n, h0, hn, hd⟩ := dig_sur h1 h3 hv names
  obtain ⟨v0, v1⟩ := hv x
  have hs : sz = 1 ∨ sz = 2 ∨ sz = 3 := by omega
  have em : (vs x + sz * n).tmod sz = vs x := by
   rw [Int.tmod_eq_emod_of_nonneg (by rcases hs with rfl | rfl | rfl <;> omega)]
   rcases hs with rfl | rfl | rfl <;> omega
  have ed : (vs x + sz * n).tdiv sz = n := by
   rw [Int.tdiv_eq_ediv_of_nonneg (by rcases hs with rfl | rfl | rfl <;> omega)]
   rcases hs with rfl | rfl | rfl <;> omega
  refine ⟨vs x + sz * n, by rcases hs with rfl | rfl | rfl <;> omega, ?_, fun v hv => ?_⟩
  ·rw [List.length_cons, Int.pow_succ]
   generalize sz ^ names.length = p at *
   rcases hs with rfl | rfl | rfl <;> omega
  ·rw [dig]
   by_cases h : v = x
   ·rw [if_pos h, em, h]
   ·rw [if_neg h, ed]
    exact hd v (by rcases List.mem_cons.1 hv with h2 | h2; exact absurd h2 h; exact h2)
theorem lit_vars {c : List Lt} {l : Lt} (hl : l ∈ c) : ∀ x, x ∈ parts l.a ∨ x ∈ parts l.b → x.v > 0 → x.v ∈ varsC c := fun x hx hv => by
 rcases hx with hx | hx
 ·exact firstVars_has (termsOf_in hl).1 hx hv
 ·exact firstVars_has (termsOf_in hl).2 hx hv
theorem holds_iff {sz : Int} {tb : List (List Int)} {c : List Lt} (h1 : 1 ≤ sz) (h3 : sz ≤ 3) : holdsC sz tb c = true ↔ HoldsA sz tb c := by
 unfold holdsC holdsF HoldsA
 rw [List.drop_zero, List.all_eq_true]
 constructor
 ·intro h vs hvs
  obtain ⟨n, h0, hn, hd⟩ := dig_sur h1 h3 hvs (varsC c)
  have := h n.toNat (by rw [List.mem_range]; show n.toNat < (sz ^ (varsC c).length).toNat; omega)
  rw [List.any_eq_true] at this
  obtain ⟨l, hl, h⟩ := this
  refine ⟨l, hl, ?_⟩
  rw [← h]
  refine litIn_congr fun x hx hv => ?_
  rw [Int.toNat_of_nonneg h0]
  exact (hd _ (lit_vars hl x hx hv)).symm
 ·intro h i hi
  rw [List.any_eq_true]
  obtain ⟨l, hl, h⟩ := h (fun v => if v ∈ varsC c then dig sz (varsC c) i v else 0) (fun v => by
   by_cases hv : v ∈ varsC c
   ·simp only [if_pos hv]; exact dig_in h1 _ _ _ (by omega) hv
   ·simp only [if_neg hv]; omega)
  refine ⟨l, hl, ?_⟩
  rw [← h]
  exact litIn_congr fun x hx hv => by rw [if_pos (lit_vars hl x hx hv)]
theorem fine_own {g : List Int} {sz : Int} {vs : Int → Int} {t : Tm} (ho : own g t = 0) (hv : InS sz vs) : Fine g sz vs (parts t) := fun x hx => ⟨own_each ho hx, fun _ => hv _⟩
def OwnC (g : List Int) (c : List Lt) : Prop := ∀ l ∈ c, own g l.a = 0 ∧ own g l.b = 0
theorem OwnC.pure {g : List Int} {c : List Lt} (h : OwnC g c) : PureC c := fun l hl => ⟨own_pure (h l hl).1, own_pure (h l hl).2⟩
theorem varsC_mem {c : List Lt} {v : Int} (h : v ∈ varsC c) : v > 0 ∧ ∃ l ∈ c, ∃ x, (x ∈ parts l.a ∨ x ∈ parts l.b) ∧ x.v = v := by
 rcases addVs_mem h with h | ⟨x, hx, rfl, h2⟩
 ·cases h
 ·obtain ⟨t, ht, hx⟩ := List.mem_flatMap.1 hx
  obtain ⟨l, hl, rfl | rfl⟩ := termsOf_mem ht
  ·exact ⟨h2, l, hl, x, .inl hx, rfl⟩
  ·exact ⟨h2, l, hl, x, .inr hx, rfl⟩
theorem holds_sub {sz : Int} {tb : List (List Int)} {c : List Lt} {σ : Int → Tm} (h1 : 1 ≤ sz) (hσ : ∀ vs, InS sz vs → ∀ v ∈ varsC c, 0 ≤ valM sz tb vs (σ v) ∧ valM sz tb vs (σ v) < sz) (h : HoldsA sz tb c) : HoldsA sz tb (c.map (subLt σ)) := by
 intro vs hvs
 obtain ⟨l, hl, hh⟩ := h (fun v => if v ∈ varsC c then valM sz tb vs (σ v) else 0) (fun v => by
  by_cases hv : v ∈ varsC c
  ·simp only [if_pos hv]; exact hσ vs hvs v hv
  ·simp only [if_neg hv]; omega)
 refine ⟨_, List.mem_map.2 ⟨l, hl, rfl⟩, ?_⟩
 rw [litIn_sub, ← hh]
 exact litIn_congr fun x hx hv => by rw [if_pos (lit_vars hl x hx hv)]
theorem litIn_sides {sz : Int} {tb : List (List Int)} {vs : Int → Int} {x l : Lt} (hy : x.y = l.y) (hs : sidesB x l = true) (h : litIn sz tb vs l = true) : litIn sz tb vs x = true := by
 rw [sidesB_iff] at hs
 rcases hs with ⟨h1, h2⟩ | ⟨h1, h2⟩
 ·have : x = l := by cases x; cases l; simp only at *; rw [hy, h1, h2]
  rw [this]; exact h
 ·have : x = turnL l := by cases x; cases l; simp only [turnL] at *; rw [hy, h1, h2]
  rw [this, litIn_turn]; exact h
theorem keep_lit {sz : Int} {tb : List (List Int)} {vs : Int → Int} : ∀ (c p : List Lt), (∃ l ∈ c, litIn sz tb vs l = true) → (∃ l ∈ keepR p c, litIn sz tb vs l = true) ∨ ∃ l ∈ p, litIn sz tb vs l = true
 | l :: c, p, ⟨x, hx, h⟩ => by
  rw [keepR]
  have next : (∃ l ∈ c, litIn sz tb vs l = true) → (∃ y ∈ (if dropB p l = true then keepR (p ++ [l]) c else l :: keepR (p ++ [l]) c), litIn sz tb vs y = true) ∨ (∃ y ∈ p, litIn sz tb vs y = true) ∨ litIn sz tb vs l = true := by
   intro hc
   rcases keep_lit c (p ++ [l]) hc with ⟨y, hy, h2⟩ | ⟨y, hy, h2⟩
   ·left
    refine ⟨y, ?_, h2⟩
    split
    ·exact hy
    ·exact List.mem_cons_of_mem _ hy
   ·right
    rcases List.mem_append.1 hy with hy | hy
    ·exact .inl ⟨y, hy, h2⟩
    ·rw [List.mem_singleton.1 hy] at h2; exact .inr h2
  have own : litIn sz tb vs l = true → (∃ y ∈ (if dropB p l = true then keepR (p ++ [l]) c else l :: keepR (p ++ [l]) c), litIn sz tb vs y = true) ∨ ∃ y ∈ p, litIn sz tb vs y = true := by
   intro hl
   by_cases hd : dropB p l = true
   ·right
    unfold dropB at hd
    rw [Bool.or_eq_true, Bool.and_eq_true, same_iff, List.any_eq_true] at hd
    rcases hd with ⟨h1, h2⟩ | ⟨z, hz, h3⟩
    ·have h1 : l.y = false := by simpa using h1
     unfold litIn at hl
     rw [h1, h2] at hl
     simp at hl
    ·rw [Bool.and_eq_true, beq_iff_eq] at h3
     exact ⟨z, hz, litIn_sides h3.1 h3.2 hl⟩
   ·left
    rw [if_neg hd]
    exact ⟨l, by simp, hl⟩
  rcases List.mem_cons.1 hx with rfl | hx
  ·exact own h
  ·rcases next ⟨x, hx, h⟩ with h | h | h
   ·exact .inl h
   ·exact .inr h
   ·exact own h
theorem holds_keep {sz : Int} {tb : List (List Int)} {c : List Lt} : HoldsA sz tb (keepR [] c) ↔ HoldsA sz tb c := by
 constructor
 ·intro h vs hvs
  obtain ⟨l, hl, h⟩ := h vs hvs
  exact ⟨l, keepR_mem hl, h⟩
 ·intro h vs hvs
  rcases keep_lit c [] (h vs hvs) with h | ⟨l, hl, _⟩
  ·exact h
  ·cases hl
theorem holds_tidy {sz : Int} {tb : List (List Int)} {c : List Lt} (h1 : 1 ≤ sz) (hc : PureC c) : HoldsA sz tb (tidyR c) ↔ HoldsA sz tb c := by
 have hk : PureC (keepR [] c) := fun l hl => hc l (keepR_mem hl)
 have H := num_rn (varsC_nodup (keepR [] c))
 rw [tidyR_sub hc, ← holds_keep (c := c)]
 generalize keepR [] c = o at *
 constructor
 ·intro h vs hvs
  obtain ⟨y, hy, h⟩ := h (fun w => vs ((varsC o).getD (w - 1).toNat 0)) (fun w => hvs _)
  obtain ⟨l, hl, rfl⟩ := List.mem_map.1 hy
  refine ⟨l, hl, ?_⟩
  rw [litIn_sub] at h
  rw [← h]
  refine litIn_congr fun x hx hv => ?_
  have hin := lit_vars hl x hx hv
  have hi := List.idxOf_lt_length_of_mem hin
  rw [H.eq _ hin, valM, if_pos (H.pos _ hin)]
  unfold posV
  have e : (((varsC o).idxOf x.v : Int) + 1 - 1).toNat = (varsC o).idxOf x.v := by omega
  rw [e, getD_at hi, List.getElem_idxOf hi]
 ·intro h
  refine holds_sub h1 (fun vs hvs v hv => ?_) h
  rw [H.eq _ hv, valM, if_pos (H.pos _ hv)]
  exact hvs _
abbrev tm0 : Tm := .mk 0 0 []
def atG : Tm → List Int → Option Tm
 | t, [] => some t
 | t, i :: p => if 0 ≤ i ∧ i < t.us.length then atG (t.us.getD i.toNat tm0) p else none
def layG : Tm → List Int → Tm → Tm
 | _, [], u => u
 | t, i :: p, u => .mk t.v t.f (t.us.set i.toNat (layG (t.us.getD i.toNat tm0) p u))
theorem atG_some {t x : Tm} {i : Int} {p : List Int} (h : atG t (i :: p) = some x) : ∃ n : Nat, ∃ hn : n < t.us.length, i = n ∧ atG t.us[n] p = some x := by
 rw [atG] at h
 by_cases hc : 0 ≤ i ∧ i < t.us.length
 ·rw [if_pos hc] at h
  refine ⟨i.toNat, by omega, by omega, ?_⟩
  rw [getD_at (by omega)] at h; exact h
 ·rw [if_neg hc] at h; cases h
theorem atG_at {t : Tm} {n : Nat} (hn : n < t.us.length) (p : List Int) : atG t ((n : Int) :: p) = atG t.us[n] p := by
 rw [atG, if_pos (by omega), Int.toNat_natCast, getD_at hn]
theorem lay_form (g : List Int) : ∀ (p : List Int) (t u x : Tm), atG t p = some x → form g t = 0 → form g u = 0 → form g (layG t p u) = 0
 | [], _, _, _, _, _, hu => hu
 | i :: p, t, u, x, h, ht, hu => by
  obtain ⟨n, hn, rfl, k⟩ := atG_some h
  rw [layG, Int.toNat_natCast, getD_at hn]
  rw [form_eq] at ht
  by_cases hl : formL g t.us = 0
  ·rw [if_neg (by simp [hl])] at ht
   have each : ∀ (l : List Tm), formL g l = 0 ↔ ∀ y ∈ l, form g y = 0 := by
    intro l
    induction l with
    | nil => simp [formL]
    | cons y l ih =>
     rw [formL]
     by_cases hy : form g y = 0
     ·rw [if_neg (by simp [hy]), ih]; simp [hy]
     ·rw [if_pos hy]; simp [hy]
   have h1 := (each _).1 hl
   have h2 := lay_form g p t.us[n] u x k (h1 _ (List.getElem_mem hn)) hu
   rw [form]
   have h3 : formL g (t.us.set n (layG t.us[n] p u)) = 0 := (each _).2 fun y hy => by
    rcases List.mem_or_eq_of_mem_set hy with hy | rfl
    ·exact h1 y hy
    ·exact h2
   rw [if_neg (by simp [h3]), List.length_set]; exact ht
  ·rw [if_pos hl] at ht; exact absurd ht hl
section
variable {sz : Int} {tb : List (List Int)}
theorem valL_set {vs : Int → Int} : ∀ (us : List Tm) (n : Nat) (x : Tm) (hn : n < us.length) (a : Int), valM sz tb vs x = valM sz tb vs us[n] → valL sz tb vs (us.set n x) a = valL sz tb vs us a
 | u :: us, 0, x, _, a, h => by
  rw [List.set_cons_zero, valL, valL, h]; rfl
 | u :: us, n + 1, x, hn, a, h => by
  rw [List.set_cons_succ, valL, valL, valL_set us n x (by simpa using hn) _ h]
theorem valM_lay {vs : Int → Int} : ∀ (p : List Int) (t u x : Tm), Good t → atG t p = some x → valM sz tb vs u = valM sz tb vs x → valM sz tb vs (layG t p u) = valM sz tb vs t
 | [], t, u, x, _, h, e => by rw [atG] at h; cases h; exact e
 | i :: p, t, u, x, hg, h, e => by
  obtain ⟨n, hn, rfl, k⟩ := atG_some h
  have ih := valM_lay p t.us[n] u x (hg.kid (List.getElem_mem hn)) k e
  have hv : ¬ t.v > 0 := fun hv => by
   have := (hg t (parts_self t)).2 hv
   rw [this] at hn; exact absurd hn (Nat.not_lt_zero _)
  rw [layG, valM, if_neg hv, valM_eq sz tb vs t, if_neg hv, Int.toNat_natCast, getD_at hn, valL_set t.us n _ hn 0 ih]
def sideG (l : Lt) (turned : Bool) : Tm × Tm := if turned = true then (l.b, l.a) else (l.a, l.b)
theorem litIn_side {vs : Int → Int} (l : Lt) (turned : Bool) : litIn sz tb vs l = ((valM sz tb vs (sideG l turned).1 == valM sz tb vs (sideG l turned).2) == l.y) := by
 unfold litIn sideG
 cases turned with
 | false => rfl
 | true =>
  simp only [if_true]
  congr 1
  rw [Bool.eq_iff_iff, beq_iff_eq, beq_iff_eq]
  exact ⟨Eq.symm, Eq.symm⟩
def AnyIn (sz : Int) (tb : List (List Int)) (vs : Int → Int) (c : List Lt) : Prop := ∃ l ∈ c, litIn sz tb vs l = true
theorem any_erase {vs : Int → Int} {c : List Lt} {i : Nat} (hi : i < c.length) (h : AnyIn sz tb vs c) : litIn sz tb vs c[i] = true ∨ AnyIn sz tb vs (c.eraseIdx i) := by
 obtain ⟨l, hl, hh⟩ := h
 obtain ⟨j, hj, rfl⟩ := List.mem_iff_getElem.1 hl
 by_cases hij : j = i
 ·subst hij; exact .inl hh
 ·exact .inr ⟨_, List.mem_eraseIdx_iff_getElem.2 ⟨j, hj, hij, rfl⟩, hh⟩
theorem any_append {vs : Int → Int} {c d : List Lt} : AnyIn sz tb vs (c ++ d) ↔ AnyIn sz tb vs c ∨ AnyIn sz tb vs d := by
 unfold AnyIn
 constructor
 ·rintro ⟨l, hl, h⟩
  rcases List.mem_append.1 hl with hl | hl
  ·exact .inl ⟨l, hl, h⟩
  ·exact .inr ⟨l, hl, h⟩
 ·rintro (⟨l, hl, h⟩ | ⟨l, hl, h⟩)
  ·exact ⟨l, List.mem_append_left _ hl, h⟩
  ·exact ⟨l, List.mem_append_right _ hl, h⟩
theorem same_sound {vs : Int → Int} {c : List Lt} {i : Nat} (hi : i < c.length) (hy : c[i].y = false) (he : valM sz tb vs c[i].a = valM sz tb vs c[i].b) (h : AnyIn sz tb vs c) : AnyIn sz tb vs (c.eraseIdx i) := by
 rcases any_erase hi h with h | h
 ·unfold litIn at h
  rw [hy, he] at h
  simp at h
 ·exact h
theorem factor_sound {vs : Int → Int} {c : List Lt} {i j : Nat} (hi : i < c.length) (hj : j < c.length) (hij : i ≠ j) (yi : c[i].y = true) (yj : c[j].y = true) (ti tj : Bool) (he : valM sz tb vs (sideG c[i] ti).1 = valM sz tb vs (sideG c[j] tj).1) (h : AnyIn sz tb vs c) :
  AnyIn sz tb vs (c.eraseIdx i ++ [⟨false, (sideG c[i] ti).2, (sideG c[j] tj).2⟩]) := by
 rw [any_append]
 rcases any_erase hi h with h | h
 ·rw [litIn_side c[i] ti, yi] at h
  have h1 : valM sz tb vs (sideG c[i] ti).1 = valM sz tb vs (sideG c[i] ti).2 := by simpa using h
  by_cases h2 : valM sz tb vs (sideG c[i] ti).2 = valM sz tb vs (sideG c[j] tj).2
  ·left
   refine ⟨c[j], List.mem_eraseIdx_iff_getElem.2 ⟨j, hj, fun e => hij e.symm, rfl⟩, ?_⟩
   rw [litIn_side c[j] tj, yj, ← he, h1, h2]; simp
  ·right
   refine ⟨_, List.mem_singleton.2 rfl, ?_⟩
   unfold litIn
   simpa using h2
 ·exact .inl h
def laidL (l : Lt) (turned : Bool) (p : List Int) (r : Tm) : Lt :=
 if turned = true then ⟨l.y, (sideG l turned).2, layG (sideG l turned).1 p r⟩ else ⟨l.y, layG (sideG l turned).1 p r, (sideG l turned).2⟩
theorem laidL_side (l : Lt) (turned : Bool) (p : List Int) (r : Tm) : (laidL l turned p r).y = l.y ∧ sideG (laidL l turned p r) turned = (layG (sideG l turned).1 p r, (sideG l turned).2) := by
 unfold laidL sideG
 cases turned <;> exact ⟨rfl, rfl⟩
theorem put_sound {vs : Int → Int} {c d : List Lt} {i j : Nat} (hi : i < c.length) (hj : j < d.length) (yi : c[i].y = true) (ti tj : Bool) (p : List Int) {x : Tm} (hg : Good (sideG d[j] tj).1) (hx : atG (sideG d[j] tj).1 p = some x) (he : valM sz tb vs (sideG c[i] ti).1 = valM sz tb vs x)
  (h : AnyIn sz tb vs c) (h' : AnyIn sz tb vs d) : AnyIn sz tb vs (c.eraseIdx i ++ d.set j (laidL d[j] tj p (sideG c[i] ti).2)) := by
 rw [any_append]
 rcases any_erase hi h with h | h
 ·right
  rw [litIn_side c[i] ti, yi] at h
  have h1 : valM sz tb vs (sideG c[i] ti).1 = valM sz tb vs (sideG c[i] ti).2 := by simpa using h
  obtain ⟨l, hl, hh⟩ := h'
  obtain ⟨k, hk, rfl⟩ := List.mem_iff_getElem.1 hl
  by_cases hkj : k = j
  ·subst hkj
   refine ⟨laidL d[k] tj p (sideG c[i] ti).2, List.mem_iff_getElem.2 ⟨k, by simpa using hk, by simp⟩, ?_⟩
   obtain ⟨e1, e2⟩ := laidL_side d[k] tj p (sideG c[i] ti).2
   rw [litIn_side _ tj, e1, e2]
   simp only
   rw [valM_lay p _ _ x hg hx (by rw [← h1, he]), ← litIn_side]
   exact hh
  ·exact ⟨d[k], List.mem_iff_getElem.2 ⟨k, by simpa using hk, by rw [List.getElem_set_ne (fun e => hkj e.symm)]⟩, hh⟩
 ·exact .inl h
end
end Go.Proofs.YtmeekpinkfpnhabGreat
