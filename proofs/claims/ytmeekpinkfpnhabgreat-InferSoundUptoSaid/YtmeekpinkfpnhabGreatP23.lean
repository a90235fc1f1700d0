/- The unifier: it answers right, and it ends. -/
import Derived.Test.YtmeekpinkfpnhabGreatP10
import Derived.Test.YtmeekpinkfpnhabGreatP12
import Derived.Test.YtmeekpinkfpnhabGreatP14
import Derived.Test.YtmeekpinkfpnhabGreatP17
import Derived.Test.YtmeekpinkfpnhabGreatP22
set_option linter.all false
namespace Go.Proofs.YtmeekpinkfpnhabGreat
open Go.RowKit
section
variable (x y : Tm)
set_option maxRecDepth 20000 in
theorem ifBothN_tri (c : Int) (hB : Tri Tryz.prog 118 [.d (tmDV x), .d (tmDV y)] (pure' (.tup [.d (.v (.map none)), bA false, iA c]))) : Tri Tryz.prog 95 [.d (tmDV x), .d (tmDV y)] (pure' (.tup [.d (.v (.map none)), iA (if (c == 0) = true then 4 else c)])) := by
 refine aE Tryz.func95 rfl Tryz.ntmps95 fun w0 h0 k hrd hwr => ?_
 cases hc : c == 0 with
 | true =>
  rw [if_pos rfl]
  repeat' (first | refine aQ fun K hK => ?_ | ((first | refine aK fun R hR => ?_ | refine aD mixed fun R hR => ?_); simp only [go_sem, hc]) | ((first | (refine hR _ ?_; clear hR R) | refine aZ rfl ?_); try refine aP ?_) | ((repeat (fail_if_success refine hK _ ?_); clear hK K); refine hK _ ?_; clear hK K) | refine aT ?_ | refine aF ?_ | refine aB ?_ | ((first | refine CallK.pure (enter118) (hB) ?_ ?_ | refine CallD.pure (enter118) (hB) ?_ ?_); (focus exact aC); simp only [go_sem, hc]) | refine aN ?_ | fail)
  (first | refine ret_pure ?_ ?_ ?_ | refine ret_ro ?_ ?_ ?_); focus exact (okA Tryz.ntmps95 Tryz.results95)
  rotate_left; focus exact frA
  simp only [resA, resV, Tryz.results95, go_sem]
  all_goals try exact coA
 | false =>
  rw [if_neg (by decide)]
  repeat' (first | refine aQ fun K hK => ?_ | ((first | refine aK fun R hR => ?_ | refine aD mixed fun R hR => ?_); simp only [go_sem, hc]) | ((first | (refine hR _ ?_; clear hR R) | refine aZ rfl ?_); try refine aP ?_) | ((repeat (fail_if_success refine hK _ ?_); clear hK K); refine hK _ ?_; clear hK K) | refine aT ?_ | refine aF ?_ | refine aB ?_ | ((first | refine CallK.pure (enter118) (hB) ?_ ?_ | refine CallD.pure (enter118) (hB) ?_ ?_); (focus exact aC); simp only [go_sem, hc]) | refine aN ?_ | fail)
  (first | refine ret_pure ?_ ?_ ?_ | refine ret_ro ?_ ?_ ?_); focus exact (okA Tryz.ntmps95 Tryz.results95)
  rotate_left; focus exact frA
  simp only [resA, resV, Tryz.results95, go_sem]
  all_goals try exact coA
set_option maxRecDepth 20000 in
theorem ifBothT_tri (es : List (Int × DV)) (hB : ∀ n', Tri Tryz.prog 118 [.d (tmDV x), .d (tmDV y)] (bagE n' es (.tup [.map n', bA true, iA 0]))) (n' : Nm) : Tri Tryz.prog 95 [.d (tmDV x), .d (tmDV y)] (bagE n' es (.tup [.map n', iA 0])) := by
 refine aE Tryz.func95 rfl Tryz.ntmps95 fun w0 h0 k hrd hwr => ?_
 have hn' : n'.1 < k := hwr _ (List.mem_cons_self ..)
 have h0' : h0 n' = none := hrd _ (List.mem_cons_self ..)
 refine awp_new fun hnew => ?_
 have hnn : NoNew h0 k := hnew
 have hnn := hnn.at
 have hB := hB (k + 1, 2)
 repeat' (first | refine aQ fun K hK => ?_ | ((first | refine aK fun R hR => ?_ | refine aD mixed fun R hR => ?_); simp only [go_sem, hnn, beq_self_eq_true]) | ((first | (refine hR _ ?_; clear hR R) | refine aZ rfl ?_); try refine aP ?_) | ((repeat (fail_if_success refine hK _ ?_); clear hK K); refine hK _ ?_; clear hK K) | refine aT ?_ | refine aF ?_ | refine aB ?_ | ((first | refine CallK.eff (enter118) (hB) ?_ ?_ ?_ ?_ | refine CallD.eff (enter118) (hB) ?_ ?_ ?_ ?_); (focus exact aC); (focus (simp only [go_sem, hnn, beq_self_eq_true]; done)); (focus (simp only [go_sem, hnn, beq_self_eq_true]; done)); simp only [go_sem, hnn, beq_self_eq_true]) | refine aN ?_ | fail)
 refine ret_bagE (q := (k + 1, 2)) (by simp only [Tryz.results95, resOkL, resOk, Tryz.ntmps95, List.toList_toArray]; decide) (by simp only [resA, resV, Tryz.results95, go_sem]; rfl) (.t2 (.map rfl) (.dat rfl)) (by simp only; omega) hn' h0' ?_ ?_
 ·simp only [go_sem, ]
 ·exact frA
end
end Go.Proofs.YtmeekpinkfpnhabGreat
namespace Go.Proofs.YtmeekpinkfpnhabGreat
theorem sideG_sub (σ : Int → Tm) (l : Lt) (turned : Bool) : sideG (subLt σ l) turned = (sub σ (sideG l turned).1, sub σ (sideG l turned).2) := by
 unfold sideG subLt mapLt; cases turned <;> rfl
theorem erase_map {α β : Type} (f : α → β) : ∀ (l : List α) (i : Nat), (l.map f).eraseIdx i = (l.eraseIdx i).map f
 | [], _ => rfl
 | _ :: _, 0 => rfl
 | x :: l, i + 1 => by rw [List.map_cons, List.eraseIdx_cons_succ, List.eraseIdx_cons_succ, List.map_cons, erase_map f l i]
section
variable {sz : Int} {tb : List (List Int)}
def InR (sz : Int) (tb : List (List Int)) (σ : Int → Tm) (c : List Lt) : Prop := ∀ vs, InS sz vs → ∀ v ∈ varsC c, 0 ≤ valM sz tb vs (σ v) ∧ valM sz tb vs (σ v) < sz
theorem same_holds {σ : Int → Tm} {c : List Lt} {i : Nat} (h1 : 1 ≤ sz) (hσ : InR sz tb σ c) (hi : i < c.length) (hy : c[i].y = false) (he : sub σ c[i].a = sub σ c[i].b) (h : HoldsA sz tb c) : HoldsA sz tb ((c.eraseIdx i).map (subLt σ)) := by
 intro vs hvs
 have hs := holds_sub h1 hσ h vs hvs
 have hi' : i < (c.map (subLt σ)).length := by rw [List.length_map]; exact hi
 have := same_sound (vs := vs) (c := c.map (subLt σ)) hi' (by rw [List.getElem_map]; exact hy) (by rw [List.getElem_map]; show valM sz tb vs (sub σ c[i].a) = valM sz tb vs (sub σ c[i].b); rw [he]) hs
 rw [erase_map] at this
 exact this
theorem factor_holds {σ : Int → Tm} {c : List Lt} {i j : Nat} (h1 : 1 ≤ sz) (hσ : InR sz tb σ c) (hi : i < c.length) (hj : j < c.length) (hij : i ≠ j) (yi : c[i].y = true) (yj : c[j].y = true) (ti tj : Bool) (he : sub σ (sideG c[i] ti).1 = sub σ (sideG c[j] tj).1) (h : HoldsA sz tb c) :
  HoldsA sz tb ((c.eraseIdx i ++ [Lt.mk false (sideG c[i] ti).2 (sideG c[j] tj).2]).map (subLt σ)) := by
 intro vs hvs
 have hs := holds_sub h1 hσ h vs hvs
 have hi' : i < (c.map (subLt σ)).length := by rw [List.length_map]; exact hi
 have hj' : j < (c.map (subLt σ)).length := by rw [List.length_map]; exact hj
 have := factor_sound (vs := vs) (c := c.map (subLt σ)) hi' hj' hij (by rw [List.getElem_map]; exact yi) (by rw [List.getElem_map]; exact yj) ti tj (by rw [List.getElem_map, List.getElem_map, sideG_sub, sideG_sub]; simp only; rw [he]) hs
 rw [erase_map, List.getElem_map, List.getElem_map, sideG_sub, sideG_sub] at this
 rw [List.map_append]
 exact this
theorem at_sub (σ : Int → Tm) : ∀ (p : List Int) (t x : Tm), Good t → atG t p = some x → atG (sub σ t) p = some (sub σ x)
 | [], t, x, _, h => by rw [atG] at h; cases h; rw [atG]
 | i :: p, t, x, hg, h => by
  obtain ⟨n, hn, rfl, k⟩ := atG_some h
  have ih := at_sub σ p t.us[n] x (hg.kid (List.getElem_mem hn)) k
  have hv : ¬ t.v > 0 := fun hv => by
   have := (hg t (parts_self t)).2 hv
   rw [this] at hn; exact absurd hn (Nat.not_lt_zero _)
  rw [sub_eq, if_neg hv]
  have hn' : n < (Tm.mk t.v t.f (subL σ t.us)).us.length := by show n < (subL σ t.us).length; rw [subL_map, List.length_map]; exact hn
  rw [atG_at hn']
  have e : (Tm.mk t.v t.f (subL σ t.us)).us[n] = sub σ t.us[n] := by
   show (subL σ t.us)[n]'(by rw [subL_map, List.length_map]; exact hn) = _
   simp only [subL_map, List.getElem_map]
  rw [e]; exact ih
theorem lay_sub (σ : Int → Tm) : ∀ (p : List Int) (t x u : Tm), Good t → atG t p = some x → sub σ (layG t p u) = layG (sub σ t) p (sub σ u)
 | [], _, _, _, _, _ => by rw [layG, layG]
 | i :: p, t, x, u, hg, h => by
  obtain ⟨n, hn, rfl, k⟩ := atG_some h
  have ih := lay_sub σ p t.us[n] x u (hg.kid (List.getElem_mem hn)) k
  have hv : ¬ t.v > 0 := fun hv => by
   have := (hg t (parts_self t)).2 hv
   rw [this] at hn; exact absurd hn (Nat.not_lt_zero _)
  rw [sub_eq σ t, if_neg hv, layG, layG, sub, if_neg hv, Int.toNat_natCast, getD_at hn]
  have e : (Tm.mk t.v t.f (subL σ t.us)).us.getD n tm0 = sub σ t.us[n] := by
   show (subL σ t.us).getD n tm0 = _
   rw [subL_map, getD_at (by rw [List.length_map]; exact hn), List.getElem_map]
  rw [e, ← ih, subL_map, List.map_set]
  show _ = Tm.mk t.v t.f ((subL σ t.us).set n _)
  rw [subL_map]
theorem sub_good {σ : Int → Tm} (hs : ∀ v, v > 0 → Good (σ v)) : ∀ t : Tm, Good t → Good (sub σ t) := by
 refine Tm.ind fun t ih hp x hx => ?_
 rw [sub_eq] at hx
 by_cases h : t.v > 0
 ·rw [if_pos h] at hx; exact hs _ h x hx
 ·rw [if_neg h, parts_eq, List.mem_append, List.mem_singleton] at hx
  rcases hx with hx | rfl
  ·obtain ⟨u, hu, hx⟩ := partsL_mem hx
   simp only [Tm.us] at hu
   rw [subL_map] at hu
   obtain ⟨w, hw, rfl⟩ := List.mem_map.1 hu
   exact ih w hw (hp.kid hw) x hx
  ·exact ⟨(hp t (parts_self t)).1, fun h2 => absurd h2 h⟩
theorem laidL_sub {σ : Int → Tm} {l : Lt} {turned : Bool} {p : List Int} {r x : Tm} (hg : Good (sideG l turned).1) (hx : atG (sideG l turned).1 p = some x) : subLt σ (laidL l turned p r) = laidL (subLt σ l) turned p (sub σ r) := by
 have h := lay_sub σ p _ x r hg hx
 unfold laidL
 rw [sideG_sub]
 cases turned <;> simp only [subLt, mapLt, if_true, if_false, Bool.false_eq_true] <;> rw [h]
theorem put_holds {σ : Int → Tm} {c d : List Lt} {i j : Nat} (h1 : 1 ≤ sz) (hσ : InR sz tb σ c) (hσ' : InR sz tb σ d) (hgo : ∀ v, v > 0 → Good (σ v)) (hi : i < c.length) (hj : j < d.length) (yi : c[i].y = true) (ti tj : Bool) (p : List Int) {x : Tm} (hg : Good (sideG d[j] tj).1) (hx : atG (sideG d[j] tj).1 p = some x)
  (he : sub σ (sideG c[i] ti).1 = sub σ x) (h : HoldsA sz tb c) (h' : HoldsA sz tb d) : HoldsA sz tb ((c.eraseIdx i ++ d.set j (laidL d[j] tj p (sideG c[i] ti).2)).map (subLt σ)) := by
 intro vs hvs
 have hs := holds_sub h1 hσ h vs hvs
 have hs' := holds_sub h1 hσ' h' vs hvs
 have hi' : i < (c.map (subLt σ)).length := by rw [List.length_map]; exact hi
 have hj' : j < (d.map (subLt σ)).length := by rw [List.length_map]; exact hj
 have := put_sound (vs := vs) (c := c.map (subLt σ)) (d := d.map (subLt σ)) hi' hj' (by rw [List.getElem_map]; exact yi) ti tj p (x := sub σ x) (by rw [List.getElem_map, sideG_sub]; exact sub_good hgo _ hg) (by rw [List.getElem_map, sideG_sub]; exact at_sub σ p _ x hg hx)
  (by rw [List.getElem_map, sideG_sub]; simp only; rw [he]) hs hs'
 rw [erase_map, List.getElem_map, List.getElem_map, sideG_sub] at this
 simp only at this
 rw [← laidL_sub hg hx, ← List.map_set] at this
 rw [List.map_append]
 exact this
theorem moved_holds {c : List Lt} {far : Int} (h1 : 1 ≤ sz) (hf : 0 ≤ far) (h : HoldsA sz tb c) : HoldsA sz tb (c.map (subLt fun v => vt (v + far))) :=
 holds_sub h1 (fun vs hvs v hv => by
  have := (varsC_mem hv).1
  rw [valM, if_pos (by omega)]; exact hvs _) h
end
theorem lookA_put {α : Type} (k w : Int) (x : α) : ∀ l : List (Int × α), lookA w (putA k x l) = if w = k then some x else lookA w l
 | [] => by rw [putA, lookA]; simp only [lookA]
 | p :: l => by
  rw [putA]
  by_cases h : k = p.1
  ·rw [if_pos h, lookA, lookA]
   by_cases h2 : w = k
   ·rw [if_pos h2, if_pos h2]
   ·rw [if_neg h2, if_neg h2, if_neg (by rw [← h]; exact h2)]
  ·rw [if_neg h, lookA, lookA, lookA_put k w x l]
   by_cases h2 : w = k
   ·subst h2; rw [if_neg h, if_pos rfl, if_pos rfl]
   ·rw [if_neg h2, if_neg h2]
theorem lookB_put (k w : Int) (x : Tm) (b : Bs) : lookB w (putA k x b) = if w = k then some x else lookB w b := by rw [lookB_A, lookB_A, lookA_put]
theorem putA_keys {α : Type} (k : Int) (x : α) : ∀ l : List (Int × α), ∀ v, v ∈ (putA k x l).map (·.1) ↔ v = k ∨ v ∈ l.map (·.1)
 | [], v => by simp [putA]
 | p :: l, v => by
  rw [putA]
  by_cases h : k = p.1
  ·rw [if_pos h, List.map_cons, List.map_cons, List.mem_cons, List.mem_cons, h]; simp only []
   constructor
   ·rintro (h1 | h1)
    ·exact .inl h1
    ·exact .inr (.inr h1)
   ·rintro (h1 | h1 | h1)
    ·exact .inl h1
    ·exact .inl h1
    ·exact .inr h1
  ·rw [if_neg h, List.map_cons, List.map_cons, List.mem_cons, List.mem_cons, putA_keys k x l v]
   constructor
   ·rintro (h1 | h1 | h1)
    ·exact .inr (.inl h1)
    ·exact .inl h1
    ·exact .inr (.inr h1)
   ·rintro (h1 | h1 | h1)
    ·exact .inr (.inl h1)
    ·exact .inl h1
    ·exact .inr (.inr h1)
theorem putA_nodup {α : Type} (k : Int) (x : α) : ∀ l : List (Int × α), (l.map (·.1)).Nodup → ((putA k x l).map (·.1)).Nodup
 | [], _ => by simp [putA]
 | p :: l, hn => by
  rw [putA]
  rw [List.map_cons, List.nodup_cons] at hn
  by_cases h : k = p.1
  ·rw [if_pos h, List.map_cons, List.nodup_cons]; simp only [h]; exact hn
  ·rw [if_neg h, List.map_cons, List.nodup_cons, putA_keys]
   refine ⟨?_, putA_nodup k x l hn.2⟩
   rintro (h1 | h1)
   ·exact h h1.symm
   ·exact hn.1 h1
theorem putA_mem {α : Type} {k : Int} {x : α} {q : Int × α} : ∀ {l : List (Int × α)}, q ∈ putA k x l → q = (k, x) ∨ q ∈ l
 | [], h => by simpa [putA] using h
 | p :: l, h => by
  rw [putA] at h
  by_cases hk : k = p.1
  ·rw [if_pos hk] at h
   rcases List.mem_cons.1 h with h | h
   ·exact .inl h
   ·exact .inr (List.mem_cons_of_mem _ h)
  ·rw [if_neg hk] at h
   rcases List.mem_cons.1 h with h | h
   ·exact .inr (by rw [h]; simp)
   ·rcases putA_mem h with h | h
    ·exact .inl h
    ·exact .inr (List.mem_cons_of_mem _ h)
theorem lookB_of {b : Bs} (hn : (b.map (·.1)).Nodup) {p : Int × Tm} (hp : p ∈ b) : lookB p.1 b = some p.2 := by
 induction b with
 | nil => cases hp
 | cons q b ih =>
  rw [List.map_cons, List.nodup_cons] at hn
  rw [lookB]
  rcases List.mem_cons.1 hp with rfl | hp
  ·rw [if_pos rfl]
  ·rw [if_neg (fun e => hn.1 (by rw [← e]; exact List.mem_map_of_mem hp)), ih hn.2 hp]
mutual
def dep (rk : Int → Nat) : Tm → Nat
 | .mk v _ us => if v > 0 then rk v else depL rk us + 1
def depL (rk : Int → Nat) : List Tm → Nat
 | [] => 0
 | x :: xs => max (dep rk x) (depL rk xs)
end
theorem dep_eq (rk : Int → Nat) (t : Tm) : dep rk t = if t.v > 0 then rk t.v else depL rk t.us + 1 := by cases t; rw [dep]; rfl
theorem depL_mem {rk : Int → Nat} : ∀ {us : List Tm} {u : Tm}, u ∈ us → dep rk u ≤ depL rk us
 | x :: xs, u, h => by
  rw [depL]
  rcases List.mem_cons.1 h with rfl | h
  ·omega
  ·have := depL_mem (rk := rk) h; omega
theorem depL_le {rk : Int → Nat} {n : Nat} : ∀ {us : List Tm}, (∀ u ∈ us, dep rk u ≤ n) → depL rk us ≤ n
 | [], _ => by rw [depL]; omega
 | x :: xs, h => by
  have h1 := h x (by simp)
  have h2 := depL_le (us := xs) fun u hu => h u (by simp [hu])
  rw [depL]; omega
theorem dep_parts {rk : Int → Nat} : ∀ t : Tm, Pure t → ∀ x ∈ parts t, dep rk x ≤ dep rk t := by
 refine Tm.ind fun t ih hp x hx => ?_
 rw [parts_eq, List.mem_append, List.mem_singleton] at hx
 rcases hx with hx | rfl
 ·obtain ⟨u, hu, hx⟩ := partsL_mem hx
  have h1 := ih u hu (hp.kid hu) x hx
  have h2 := depL_mem (rk := rk) hu
  rw [dep_eq rk t]
  by_cases hv : t.v > 0
  ·have := (hp t (parts_self t)).2 hv
   rw [this] at hu; cases hu
  ·rw [if_neg hv]; omega
 ·omega
theorem dep_more {rk rk' : Int → Nat} {m : Nat} : ∀ t : Tm, (∀ x ∈ parts t, x.v > 0 → rk' x.v ≤ rk x.v + m) → dep rk' t ≤ dep rk t + m := by
 refine Tm.ind fun t ih h => ?_
 rw [dep_eq, dep_eq]
 by_cases hv : t.v > 0
 ·rw [if_pos hv, if_pos hv]; exact h t (parts_self t) hv
 ·rw [if_neg hv, if_neg hv]
  have := depL_le (rk := rk') (n := depL rk t.us + m) (us := t.us) fun u hu => by
   have h1 := ih u hu fun x hx => h x (parts_kid hu hx)
   have h2 := depL_mem (rk := rk) hu
   omega
  omega
def Rk (rk : Int → Nat) (b : Bs) : Prop := ∀ v y, lookB v b = some y → dep rk y < rk v
abbrev InM (w : Int) (met : List (Int × Bool)) : Prop := lookA w met = some true
theorem inM_put {w k : Int} {met : List (Int × Bool)} : InM w (putA k true met) ↔ w = k ∨ InM w met := by
 unfold InM
 rw [lookA_put]
 by_cases h : w = k <;> simp [h]
def VarsIn (v : Int) (met : List (Int × Bool)) (t : Tm) : Prop := ∀ x ∈ parts t, x.v > 0 → x.v ≠ v ∧ InM x.v met
theorem VarsIn.mono {v : Int} {met met' : List (Int × Bool)} {t : Tm} (h : VarsIn v met t) (hm : ∀ w, InM w met → InM w met') : VarsIn v met' t := fun x hx hv => ⟨(h x hx hv).1, hm _ (h x hx hv).2⟩
def Closed (b : Bs) (v : Int) (met met' : List (Int × Bool)) : Prop := (∀ w, InM w met → InM w met') ∧ ∀ w, InM w met' → InM w met ∨ (w ≠ v ∧ ∀ y, lookB w b = some y → VarsIn v met' y)
theorem Closed.refl (b : Bs) (v : Int) (met : List (Int × Bool)) : Closed b v met met := ⟨fun _ h => h, fun _ h => .inl h⟩
theorem Closed.trans {b : Bs} {v : Int} {m1 m2 m3 : List (Int × Bool)} (h1 : Closed b v m1 m2) (h2 : Closed b v m2 m3) : Closed b v m1 m3 := by
 refine ⟨fun w h => h2.1 w (h1.1 w h), fun w h => ?_⟩
 rcases h2.2 w h with h | h
 ·rcases h1.2 w h with h | ⟨h3, h4⟩
  ·exact .inl h
  ·exact .inr ⟨h3, fun y hy => (h4 y hy).mono h2.1⟩
 ·exact .inr h
section
variable (b : Bs) (v : Int) (hb : ∀ w y, lookB w b = some y → Pure y)
include hb
theorem leads_no : ∀ (n : Nat) (t : Tm) (met met' : List (Int × Bool)), Pure t → leadsF n b v t met = some (false, met') → VarsIn v met' t ∧ Closed b v met met'
 | 0, _, _, _, _, h => by rw [leadsF] at h; cases h
 | n + 1, t, met, met', hp, h => by
  rw [leadsF] at h
  by_cases h0 : t.v = 0
  ·rw [if_pos h0] at h
   have key : ∀ (us : List Tm) (m1 : List (Int × Bool)), (∀ u ∈ us, Pure u) → anyO (leadsF n b v) us m1 = some (false, met') → (∀ u ∈ us, VarsIn v met' u) ∧ Closed b v m1 met' := by
    intro us
    induction us with
    | nil =>
     intro m1 _ h
     rw [anyO] at h
     injection h with h; injection h with _ h; subst h
     exact ⟨by simp, .refl ..⟩
    | cons u us ih =>
     intro m1 hp h
     rw [anyO] at h
     cases hs : leadsF n b v u m1 with
     | none => rw [hs] at h; cases h
     | some q =>
      obtain ⟨c, m2⟩ := q
      rw [hs] at h
      cases c with
      | true => simp at h
      | false =>
       simp only at h
       obtain ⟨h1, h2⟩ := leads_no n u m1 m2 (hp u (by simp)) hs
       obtain ⟨h3, h4⟩ := ih m2 (fun w hw => hp w (by simp [hw])) h
       refine ⟨fun w hw => ?_, h2.trans h4⟩
       rcases List.mem_cons.1 hw with rfl | hw
       ·exact h1.mono h4.1
       ·exact h3 w hw
   obtain ⟨h1, h2⟩ := key t.us met (fun u hu => hp.kid hu) h
   refine ⟨fun x hx hv => ?_, h2⟩
   rw [parts_eq, List.mem_append, List.mem_singleton] at hx
   rcases hx with hx | rfl
   ·obtain ⟨u, hu, hx⟩ := partsL_mem hx
    exact h1 u hu x hx hv
   ·omega
  ·rw [if_neg h0] at h
   have hpos : t.v > 0 := by have := (hp t (parts_self t)).1; omega
   have et := (hp t (parts_self t)).2 hpos
   have eparts : ∀ x ∈ parts t, x = t := fun x hx => by
    rw [et, parts_eq] at hx
    simp only [Tm.us, partsL, List.nil_append, List.mem_singleton] at hx
    rw [hx, ← et]
   by_cases h1 : t.v = v
   ·rw [if_pos h1] at h; simp at h
   ·rw [if_neg h1] at h
    by_cases h2 : lookA t.v met = some true
    ·rw [if_pos h2] at h
     injection h with h; injection h with _ h; subst h
     exact ⟨fun x hx _ => by rw [eparts x hx]; exact ⟨h1, h2⟩, .refl ..⟩
    ·rw [if_neg h2] at h
     cases hl : lookB t.v b with
     | none =>
      rw [hl] at h
      simp only at h
      injection h with h; injection h with _ h; subst h
      refine ⟨fun x hx _ => by rw [eparts x hx]; exact ⟨h1, inM_put.2 (.inl rfl)⟩, fun w h => inM_put.2 (.inr h), fun w hw => ?_⟩
      rcases inM_put.1 hw with rfl | hw
      ·exact .inr ⟨h1, fun y hy => by rw [hl] at hy; cases hy⟩
      ·exact .inl hw
     | some x =>
      rw [hl] at h
      simp only at h
      obtain ⟨h3, h4⟩ := leads_no n x _ met' (hb _ _ hl) h
      refine ⟨fun z hz _ => by rw [eparts z hz]; exact ⟨h1, h4.1 _ (inM_put.2 (.inl rfl))⟩, fun w h => h4.1 _ (inM_put.2 (.inr h)), fun w hw => ?_⟩
      rcases h4.2 w hw with hw | hw
      ·rcases inM_put.1 hw with rfl | hw
       ·exact .inr ⟨h1, fun y hy => by rw [hl] at hy; cases hy; exact h3⟩
       ·exact .inl hw
      ·exact .inr hw
theorem leads_yes {θ : Int → Tm} (hθ : ∀ w y, w ≠ v → lookB w b = some y → θ w = sub θ y) : ∀ (n : Nat) (t : Tm) (met met' : List (Int × Bool)), Pure t → leadsF n b v t met = some (true, met') → (θ v).size ≤ (sub θ t).size ∧ (t.v = 0 → (θ v).size < (sub θ t).size)
 | 0, _, _, _, _, h => by rw [leadsF] at h; cases h
 | n + 1, t, met, met', hp, h => by
  rw [leadsF] at h
  by_cases h0 : t.v = 0
  ·rw [if_pos h0] at h
   have key : ∀ (us : List Tm) (m1 : List (Int × Bool)), (∀ u ∈ us, Pure u) → anyO (leadsF n b v) us m1 = some (true, met') → (θ v).size ≤ Tm.size.sizes (subL θ us) := by
    intro us
    induction us with
    | nil =>
     intro m1 _ h
     rw [anyO] at h
     injection h with h; injection h with h _; cases h
    | cons u us ih =>
     intro m1 hp h
     rw [anyO] at h
     rw [subL, Tm.size.sizes]
     cases hs : leadsF n b v u m1 with
     | none => rw [hs] at h; cases h
     | some q =>
      obtain ⟨c, m2⟩ := q
      rw [hs] at h
      cases c with
      | true =>
       have := (leads_yes hθ n u m1 m2 (hp u (by simp)) hs).1
       omega
      | false =>
       simp only at h
       have := ih m2 (fun w hw => hp w (by simp [hw])) h
       omega
   have := key t.us met (fun u hu => hp.kid hu) h
   rw [sub_eq, if_neg (by omega), Tm.size]
   omega
  ·rw [if_neg h0] at h
   have hpos : t.v > 0 := by have := (hp t (parts_self t)).1; omega
   refine ⟨?_, fun e => absurd e h0⟩
   rw [sub_eq, if_pos hpos]
   by_cases h1 : t.v = v
   ·rw [h1]; omega
   ·rw [if_neg h1] at h
    by_cases h2 : lookA t.v met = some true
    ·rw [if_pos h2] at h; simp at h
    ·rw [if_neg h2] at h
     cases hl : lookB t.v b with
     | none => rw [hl] at h; simp at h
     | some x =>
      rw [hl] at h
      simp only at h
      rw [hθ _ _ h1 hl]
      exact (leads_yes hθ n x _ met' (hb _ _ hl) h).1
end
def unm (met : List (Int × Bool)) : List Int → Nat
 | [] => 0
 | k :: ks => (if InM k met then 0 else 1) + unm met ks
theorem unm_mono {m1 m2 : List (Int × Bool)} (h : ∀ w, InM w m1 → InM w m2) : ∀ ks : List Int, unm m2 ks ≤ unm m1 ks
 | [] => Nat.le_refl _
 | k :: ks => by
  have := unm_mono h ks
  rw [unm, unm]
  by_cases h1 : InM k m1
  ·rw [if_pos h1, if_pos (h k h1)]; omega
  ·rw [if_neg h1]; split <;> omega
theorem unm_put {k : Int} {met : List (Int × Bool)} (hn : ¬ InM k met) : ∀ {ks : List Int}, k ∈ ks → unm (putA k true met) ks + 1 ≤ unm met ks
 | x :: ks, h => by
  rw [unm, unm]
  by_cases hx : x = k
  ·subst hx
   have := unm_mono (m1 := met) (m2 := putA x true met) (fun w h => inM_put.2 (.inr h)) ks
   rw [if_pos (inM_put.2 (.inl rfl)), if_neg hn]; omega
  ·have h1 : k ∈ ks := by
    rcases List.mem_cons.1 h with e | h
    ·exact absurd e.symm hx
    ·exact h
   have := unm_put hn h1
   by_cases h2 : InM x met
   ·rw [if_pos h2, if_pos (inM_put.2 (.inr h2))]; omega
   ·rw [if_neg h2]; split <;> omega
theorem Tm.size_pos (t : Tm) : 0 < t.size := by obtain ⟨v, f, us⟩ := t; rw [Tm.size]; omega
theorem Tm.size_kid {t u : Tm} (h : u ∈ t.us) : u.size < t.size := by
 obtain ⟨v, f, us⟩ := t
 simp only [Tm.us] at h
 rw [Tm.size]
 have : ∀ (us : List Tm), u ∈ us → u.size ≤ Tm.size.sizes us := by
  intro us
  induction us with
  | nil => intro h; cases h
  | cons x xs ih =>
   intro h
   rw [Tm.size.sizes]
   rcases List.mem_cons.1 h with rfl | h
   ·omega
   ·have := ih h; omega
 have := this us h
 omega
theorem lookB_keys {b : Bs} {v : Int} {y : Tm} (h : lookB v b = some y) : v ∈ b.map (·.1) := by
 obtain ⟨p, hp, h1, _⟩ := lookB_mem h
 rw [← h1]; exact List.mem_map_of_mem hp
theorem leads_has (b : Bs) (v : Int) (S : Nat) (hb : ∀ w y, lookB w b = some y → Pure y ∧ y.size ≤ S) : ∀ (n : Nat) (t : Tm) (met : List (Int × Bool)), Pure t → unm met (b.map (·.1)) * (S + 1) + t.size ≤ n → ∃ r, leadsF n b v t met = some r
 | 0, t, _, _, h => by have := t.size_pos; omega
 | n + 1, t, met, hp, h => by
  rw [leadsF]
  by_cases h0 : t.v = 0
  ·rw [if_pos h0]
   have key : ∀ (us : List Tm) (m1 : List (Int × Bool)), (∀ u ∈ us, Pure u ∧ u.size < t.size) → unm m1 (b.map (·.1)) ≤ unm met (b.map (·.1)) → ∃ r, anyO (leadsF n b v) us m1 = some r := by
    intro us
    induction us with
    | nil => intro m1 _ _; exact ⟨_, rfl⟩
    | cons u us ih =>
     intro m1 hu hm
     obtain ⟨h1, h2⟩ := hu u (by simp)
     have h3 := Nat.mul_le_mul_right (S + 1) hm
     obtain ⟨⟨c, m2⟩, hr⟩ := leads_has b v S hb n u m1 h1 (by omega)
     rw [anyO, hr]
     cases c with
     | true => exact ⟨_, rfl⟩
     | false =>
      have h4 := (leads_no b v (fun w y h => (hb w y h).1) n u m1 m2 h1 hr).2.1
      exact ih m2 (fun w hw => hu w (by simp [hw])) (Nat.le_trans (unm_mono h4 _) hm)
   exact key t.us met (fun u hu => ⟨hp.kid hu, Tm.size_kid hu⟩) (Nat.le_refl _)
  ·rw [if_neg h0]
   by_cases h1 : t.v = v
   ·rw [if_pos h1]; exact ⟨_, rfl⟩
   ·rw [if_neg h1]
    by_cases h2 : lookA t.v met = some true
    ·rw [if_pos h2]; exact ⟨_, rfl⟩
    ·rw [if_neg h2]
     cases hl : lookB t.v b with
     | none => exact ⟨_, rfl⟩
     | some x =>
      obtain ⟨h3, h4⟩ := hb _ _ hl
      have h5 := Nat.mul_le_mul_right (S + 1) (unm_put h2 (lookB_keys hl))
      rw [Nat.add_mul] at h5
      have := t.size_pos
      exact leads_has b v S hb n x _ h3 (by omega)
theorem lookB_bound (b : Bs) : ∃ S, ∀ w y, lookB w b = some y → y.size ≤ S := by
 induction b with
 | nil => exact ⟨0, fun w y h => by cases h⟩
 | cons p b ih =>
  obtain ⟨S, hS⟩ := ih
  refine ⟨max S p.2.size, fun w y h => ?_⟩
  rw [lookB] at h
  by_cases hw : w = p.1
  ·rw [if_pos hw] at h; cases h; omega
  ·rw [if_neg hw] at h; have := hS w y h; omega
theorem anyO_mono {S : Type} {f g : Tm → S → Option (Bool × S)} (h : ∀ u s r, f u s = some r → g u s = some r) : ∀ (us : List Tm) (s : S) (r : Bool × S), anyO f us s = some r → anyO g us s = some r
 | [], _, _, e => e
 | u :: us, s, r, e => by
  rw [anyO] at e ⊢
  cases hf : f u s with
  | none => rw [hf] at e; cases e
  | some q =>
   rw [hf] at e
   rw [h u s q hf]
   obtain ⟨c, s'⟩ := q
   cases c with
   | true => exact e
   | false => exact anyO_mono h us s' r e
theorem eqO_mono {S : Type} {f g : Tm → Tm → S → Option (Bool × S)} (h : ∀ u v s r, f u v s = some r → g u v s = some r) : ∀ (us vs : List Tm) (s : S) (r : Bool × S), eqO f us vs s = some r → eqO g us vs s = some r
 | [], _, _, _, e => by simpa [eqO] using e
 | _ :: _, [], _, _, e => by simpa [eqO] using e
 | u :: us, v :: vs, s, r, e => by
  rw [eqO] at e ⊢
  cases hf : f u v s with
  | none => rw [hf] at e; cases e
  | some q =>
   rw [hf] at e
   rw [h u v s q hf]
   obtain ⟨c, s'⟩ := q
   cases c with
   | true => exact eqO_mono h us vs s' r e
   | false => exact e
theorem leads_succ (b : Bs) (v : Int) : ∀ (n : Nat) (t : Tm) (met : List (Int × Bool)) (r), leadsF n b v t met = some r → leadsF (n + 1) b v t met = some r
 | 0, _, _, _, h => by rw [leadsF] at h; cases h
 | n + 1, t, met, r, h => by
  rw [leadsF] at h ⊢
  by_cases h0 : t.v = 0
  ·rw [if_pos h0] at h ⊢
   exact anyO_mono (leads_succ b v n) _ _ _ h
  ·rw [if_neg h0] at h ⊢
   by_cases h1 : t.v = v
   ·rw [if_pos h1] at h ⊢; exact h
   ·rw [if_neg h1] at h ⊢
    by_cases h2 : lookA t.v met = some true
    ·rw [if_pos h2] at h ⊢; exact h
    ·rw [if_neg h2] at h ⊢
     cases hl : lookB t.v b with
     | none => rw [hl] at h; exact h
     | some x => rw [hl] at h; exact leads_succ b v n x _ r h
theorem bind_succ {n : Nat} {b : Bs} {v : Int} {t : Tm} {q : Bool × Bs} (h : bindF n b v t = some q) : bindF (n + 1) b v t = some q := by
 unfold bindF at h ⊢
 cases hl : leadsF n (putA v t b) v t [] with
 | none => rw [hl] at h; cases h
 | some r => rw [hl] at h; rw [leads_succ _ _ _ _ _ _ hl]; exact h
theorem root_succ (b : Bs) : ∀ (n : Nat) (t a : Tm), rootF n b t = some a → rootF (n + 1) b t = some a
 | 0, _, _, h => by rw [rootF] at h; cases h
 | n + 1, t, a, h => by
  rw [rootF] at h ⊢
  by_cases hv : t.v > 0
  ·rw [if_pos hv] at h ⊢
   cases hl : lookB t.v b with
   | none => rw [hl] at h; exact h
   | some x =>
    rw [hl] at h
    simp only at h ⊢
    by_cases hx : x.v = 0
    ·rw [if_pos hx] at h ⊢; exact h
    ·rw [if_neg hx] at h ⊢; exact root_succ b n x a h
  ·rw [if_neg hv] at h ⊢; exact h
theorem oneV_mono {f g : Bs → Tm → Tm → Option (Bool × Bs)} (hfg : ∀ b x y q, f b x y = some q → g b x y = some q) {n : Nat} {b : Bs} {a c : Tm} {q : Bool × Bs} (h : oneV f n b a c = some q) : oneV g (n + 1) b a c = some q := by
 unfold oneV at h ⊢
 by_cases hc : c.v = 0
 ·rw [if_pos hc] at h ⊢
  cases hl : lookB a.v b with
  | none => rw [hl] at h; exact bind_succ h
  | some x => rw [hl] at h; exact hfg _ _ _ _ h
 ·rw [if_neg hc] at h ⊢
  by_cases he : a.v = c.v
  ·rw [if_pos he] at h ⊢; exact h
  ·rw [if_neg he] at h ⊢
   cases h1 : lookB a.v b with
   | none =>
    cases h2 : lookB c.v b with
    | none => rw [h1, h2] at h; exact bind_succ h
    | some y => rw [h1, h2] at h; exact bind_succ h
   | some x =>
    cases h2 : lookB c.v b with
    | none => rw [h1, h2] at h; exact bind_succ h
    | some y =>
     rw [h1, h2] at h
     simp only at h ⊢
     cases hb : bindF n b c.v a with
     | none => rw [hb] at h; cases h
     | some r =>
      rw [hb] at h
      rw [bind_succ hb]
      obtain ⟨k, b'⟩ := r
      cases k with
      | false => exact h
      | true => exact hfg _ _ _ _ h
theorem one_succ : ∀ (n : Nat) (b : Bs) (x y : Tm) (q : Bool × Bs), oneF n b x y = some q → oneF (n + 1) b x y = some q
 | 0, _, _, _, _, h => by rw [oneF] at h; cases h
 | n + 1, b, x, y, q, h => by
  rw [oneF] at h ⊢
  cases ha : rootF n b x with
  | none => rw [ha] at h; cases h
  | some a =>
   cases hc : rootF n b y with
   | none => rw [ha, hc] at h; cases h
   | some c =>
    rw [ha, hc] at h
    rw [root_succ b n x a ha, root_succ b n y c hc]
    simp only at h ⊢
    by_cases h0 : a.v = 0 ∧ c.v = 0
    ·rw [if_pos h0] at h ⊢
     by_cases h1 : a.f = c.f
     ·rw [if_pos h1] at h ⊢
      by_cases h2 : a.us.length = c.us.length
      ·rw [if_pos h2] at h ⊢
       exact eqO_mono (fun u v s r e => one_succ n s u v r e) _ _ _ _ h
      ·rw [if_neg h2] at h ⊢; exact h
     ·rw [if_neg h1] at h ⊢; exact h
    ·rw [if_neg h0] at h ⊢
     by_cases h1 : a.v = 0
     ·rw [if_pos h1] at h ⊢; exact oneV_mono (one_succ n) h
     ·rw [if_neg h1] at h ⊢; exact oneV_mono (one_succ n) h
theorem one_more {n m : Nat} (hm : n ≤ m) {b : Bs} {x y : Tm} {q : Bool × Bs} (h : oneF n b x y = some q) : oneF m b x y = some q := by
 induction hm with
 | refl => exact h
 | step _ ih => exact one_succ _ _ _ _ _ ih
theorem root_more {n m : Nat} (hm : n ≤ m) {b : Bs} {x a : Tm} (h : rootF n b x = some a) : rootF m b x = some a := by
 induction hm with
 | refl => exact h
 | step _ ih => exact root_succ _ _ _ _ ih
theorem bind_more {n m : Nat} (hm : n ≤ m) {b : Bs} {v : Int} {t : Tm} {q : Bool × Bs} (h : bindF n b v t = some q) : bindF m b v t = some q := by
 induction hm with
 | refl => exact h
 | step _ ih => exact bind_succ ih
theorem bind_has {b : Bs} (hb : ∀ w y, lookB w b = some y → Pure y) {v : Int} {t : Tm} (ht : Pure t) : ∃ n q, bindF n b v t = some q := by
 obtain ⟨S, hS⟩ := lookB_bound (putA v t b)
 obtain ⟨r, hr⟩ := leads_has (putA v t b) v S (fun w y h => ⟨by
  rw [lookB_put] at h
  by_cases hw : w = v
  ·rw [if_pos hw] at h; cases h; exact ht
  ·rw [if_neg hw] at h; exact hb w y h, hS w y h⟩) _ t [] ht (Nat.le_refl _)
 exact ⟨_, _, by unfold bindF; rw [hr]; rfl⟩
theorem root_has {rk : Int → Nat} {b : Bs} (hr : Rk rk b) : ∀ (n : Nat) (t : Tm), dep rk t ≤ n → ∃ a, rootF (n + 1) b t = some a
 | n, t, h => by
  rw [rootF]
  by_cases hv : t.v > 0
  ·rw [if_pos hv]
   cases hl : lookB t.v b with
   | none => exact ⟨_, rfl⟩
   | some x =>
    simp only
    by_cases hx : x.v = 0
    ·rw [if_pos hx]; exact ⟨_, rfl⟩
    ·rw [if_neg hx]
     have h1 := hr _ _ hl
     rw [dep_eq, if_pos hv] at h
     cases n with
     | zero => omega
     | succ n => exact root_has hr n x (by omega)
  ·rw [if_neg hv]; exact ⟨_, rfl⟩
def Sat (θ : Int → Tm) (b : Bs) : Prop := ∀ v y, lookB v b = some y → θ v = sub θ y
theorem root_sat {θ : Int → Tm} {b : Bs} (h : Sat θ b) : ∀ (n : Nat) (t a : Tm), rootF n b t = some a → sub θ a = sub θ t
 | 0, _, _, e => by rw [rootF] at e; cases e
 | n + 1, t, a, e => by
  rw [rootF] at e
  by_cases hv : t.v > 0
  ·rw [if_pos hv] at e
   cases hl : lookB t.v b with
   | none => rw [hl] at e; cases e; rfl
   | some x =>
    rw [hl] at e
    simp only at e
    by_cases hx : x.v = 0
    ·rw [if_pos hx] at e; cases e; rfl
    ·rw [if_neg hx] at e
     rw [root_sat h n x a e, sub_eq θ t, if_pos hv, h _ _ hl]
  ·rw [if_neg hv] at e; cases e; rfl
theorem root_pool {P : Tm → Prop} {b : Bs} (hb : ∀ v y, lookB v b = some y → P y) : ∀ (n : Nat) (t a : Tm), P t → rootF n b t = some a → P a ∧ (a.v > 0 → t.v > 0) ∧ (a.v > 0 → ∀ x, lookB a.v b = some x → x.v = 0)
 | 0, _, _, _, e => by rw [rootF] at e; cases e
 | n + 1, t, a, ht, e => by
  rw [rootF] at e
  by_cases hv : t.v > 0
  ·rw [if_pos hv] at e
   cases hl : lookB t.v b with
   | none => rw [hl] at e; cases e; exact ⟨ht, fun h => h, fun _ x hx => by rw [hl] at hx; cases hx⟩
   | some x =>
    rw [hl] at e
    simp only at e
    by_cases hx : x.v = 0
    ·rw [if_pos hx] at e; cases e; exact ⟨ht, fun h => h, fun _ y hy => by rw [hl] at hy; cases hy; exact hx⟩
    ·rw [if_neg hx] at e
     obtain ⟨h1, _, h3⟩ := root_pool hb n x a (hb _ _ hl) e
     exact ⟨h1, fun _ => hv, h3⟩
  ·rw [if_neg hv] at e; cases e; exact ⟨ht, fun h => h, fun h => absurd h hv⟩
theorem root_dep {rk : Int → Nat} {b : Bs} (hr : Rk rk b) : ∀ (n : Nat) (t a : Tm), rootF n b t = some a → dep rk a ≤ dep rk t
 | 0, _, _, e => by rw [rootF] at e; cases e
 | n + 1, t, a, e => by
  rw [rootF] at e
  by_cases hv : t.v > 0
  ·rw [if_pos hv] at e
   cases hl : lookB t.v b with
   | none => rw [hl] at e; cases e; omega
   | some x =>
    rw [hl] at e
    simp only at e
    by_cases hx : x.v = 0
    ·rw [if_pos hx] at e; cases e; omega
    ·rw [if_neg hx] at e
     have h1 := root_dep hr n x a e
     have h2 := hr _ _ hl
     rw [dep_eq rk t, if_pos hv]; omega
  ·rw [if_neg hv] at e; cases e; omega
structure Inv (P : Tm → Prop) (b : Bs) : Prop where
 nd : (b.map (·.1)).Nodup
 val : ∀ p ∈ b, P p.2 ∧ p.1 > 0 ∧ P (vt p.1)
 rk : ∃ rk, Rk rk b
theorem Inv.look {P : Tm → Prop} {b : Bs} (h : Inv P b) {v : Int} {y : Tm} (hl : lookB v b = some y) : P y := by
 obtain ⟨p, hp, h1, h2⟩ := lookB_mem hl
 rw [← h2]; exact (h.val p hp).1
theorem bind_true {P : Tm → Prop} (hP : ∀ t, P t → Pure t) {b : Bs} (hb : Inv P b) {n : Nat} {v : Int} {t : Tm} (ht : P t) (hv : v > 0) (hv' : P (vt v)) {b' : Bs} (h : bindF n b v t = some (true, b')) : b' = putA v t b ∧ Inv P b' := by
 unfold bindF at h
 cases hl : leadsF n (putA v t b) v t [] with
 | none => rw [hl] at h; cases h
 | some r =>
  obtain ⟨c, met⟩ := r
  rw [hl] at h
  simp only [Option.map_some, Option.some.injEq, Prod.mk.injEq] at h
  obtain ⟨h1, rfl⟩ := h
  have hc : c = false := by cases c with | true => cases h1 | false => rfl
  subst hc
  have hpure : ∀ w y, lookB w (putA v t b) = some y → Pure y := fun w y h => by
   rw [lookB_put] at h
   by_cases hw : w = v
   ·rw [if_pos hw] at h; cases h; exact hP _ ht
   ·rw [if_neg hw] at h; exact hP _ (hb.look h)
  obtain ⟨h2, h3⟩ := leads_no (putA v t b) v hpure n t [] met (hP _ ht) hl
  have hcl : ∀ w, InM w met → w ≠ v ∧ ∀ y, lookB w (putA v t b) = some y → VarsIn v met y := fun w hw => by
   rcases h3.2 w hw with h | h
   ·cases h
   ·exact h
  refine ⟨rfl, putA_nodup v t b hb.nd, fun p hp => ?_, ?_⟩
  ·rcases putA_mem hp with rfl | hp
   ·exact ⟨ht, hv, hv'⟩
   ·exact hb.val p hp
  ·obtain ⟨rk, hr⟩ := hb.rk
   refine ⟨fun w => if InM w met then rk w else rk w + (dep rk t + 1), fun w y hy => ?_⟩
   have hin : ∀ y, VarsIn v met y → dep (fun w => if InM w met then rk w else rk w + (dep rk t + 1)) y ≤ dep rk y + 0 := fun y hy => dep_more y fun x hx hv => by
    rw [if_pos (hy x hx hv).2]; omega
   have hout : ∀ y, dep (fun w => if InM w met then rk w else rk w + (dep rk t + 1)) y ≤ dep rk y + (dep rk t + 1) := fun y => dep_more y fun x hx hv => by
    split <;> omega
   have hy0 := hy
   rw [lookB_put] at hy
   simp only []
   by_cases hw : w = v
   ·rw [if_pos hw] at hy; cases hy
    subst hw
    have h4 := hin t h2
    rw [if_neg (fun h => (hcl _ h).1 rfl)]
    omega
   ·rw [if_neg hw] at hy
    have h4 := hr _ _ hy
    by_cases hm : InM w met
    ·have h5 := hin y ((hcl w hm).2 y hy0)
     rw [if_pos hm]; omega
    ·have h5 := hout y
     rw [if_neg hm]; omega
theorem bind_false {b : Bs} (hb : ∀ w y, lookB w b = some y → Pure y) {n : Nat} {v : Int} {t : Tm} (ht : Pure t) (hc : t.v = 0 ∨ (t.v ≠ v ∧ ∀ x, lookB t.v b = some x → x.v = 0)) {b' : Bs} (h : bindF n b v t = some (false, b')) {θ : Int → Tm} (hθ : ∀ w y, w ≠ v → lookB w b = some y → θ w = sub θ y) : θ v ≠ sub θ t := by
 intro he
 unfold bindF at h
 cases hl : leadsF n (putA v t b) v t [] with
 | none => rw [hl] at h; cases h
 | some r =>
  obtain ⟨c, met⟩ := r
  rw [hl] at h
  simp only [Option.map_some, Option.some.injEq, Prod.mk.injEq] at h
  have hc1 : c = true := by
   cases c with
   | true => rfl
   | false => exact absurd h.1 (by decide)
  subst hc1
  have hpure : ∀ w y, lookB w (putA v t b) = some y → Pure y := fun w y h => by
   rw [lookB_put] at h
   by_cases hw : w = v
   ·rw [if_pos hw] at h; cases h; exact ht
   ·rw [if_neg hw] at h; exact hb w y h
  have hθ' : ∀ w y, w ≠ v → lookB w (putA v t b) = some y → θ w = sub θ y := fun w y hw h => by
   rw [lookB_put, if_neg hw] at h; exact hθ w y hw h
  by_cases h0 : t.v = 0
  ·have := (leads_yes (putA v t b) v hpure hθ' n t [] met ht hl).2 h0
   rw [← he] at this; omega
  ·rcases hc with hc | ⟨hc1, hc2⟩
   ·exact h0 hc
   ·cases n with
    | zero => rw [leadsF] at hl; cases hl
    | succ n =>
     rw [leadsF, if_neg h0, if_neg hc1, if_neg (by simp [lookA]), lookB_put, if_neg hc1] at hl
     cases hx : lookB t.v b with
     | none => rw [hx] at hl; simp at hl
     | some x =>
      rw [hx] at hl
      simp only at hl
      have h1 := (leads_yes (putA v t b) v hpure hθ' n x _ met (hb _ _ hx) hl).2 (hc2 x hx)
      have hpos : t.v > 0 := by have := (ht t (parts_self t)).1; omega
      rw [← hθ _ _ hc1 hx] at h1
      rw [he, sub_eq, if_pos hpos] at h1
      omega
def wOne : Option Tm → Nat
 | none => 2
 | some y => if y.v > 0 then 0 else 1
theorem wOne_some (y : Tm) : wOne (some y) ≤ 1 := by unfold wOne; simp only []; split <;> omega
def wSum (b : Bs) : List Int → Nat
 | [] => 0
 | v :: vs => wOne (lookB v b) + wSum b vs
theorem wSum_le {b : Bs} {v : Int} {t : Tm} (h : wOne (some t) ≤ wOne (lookB v b)) : ∀ vs : List Int, wSum (putA v t b) vs ≤ wSum b vs
 | [] => Nat.le_refl _
 | w :: vs => by
  have := wSum_le h vs
  rw [wSum, wSum, lookB_put]
  by_cases hw : w = v
  ·rw [if_pos hw, hw]; omega
  ·rw [if_neg hw]; omega
theorem wSum_put {b : Bs} {v : Int} {t : Tm} (h : wOne (some t) < wOne (lookB v b)) : ∀ {vs : List Int}, v ∈ vs → wSum (putA v t b) vs < wSum b vs
 | w :: vs, hm => by
  rw [wSum, wSum, lookB_put]
  by_cases hw : w = v
  ·have := wSum_le (b := b) (v := v) (t := t) (by omega) vs
   rw [if_pos hw, hw]; omega
  ·have hm : v ∈ vs := by
    rcases List.mem_cons.1 hm with e | h
    ·exact absurd e.symm hw
    ·exact h
   have := wSum_put h hm
   rw [if_neg hw]; omega
section
variable (P : Tm → Prop) (V : List Int)
structure Pool : Prop where
 pure : ∀ t, P t → Pure t
 kid : ∀ t, P t → ∀ u ∈ t.us, P u
 vars : ∀ t, P t → t.v > 0 → t.v ∈ V
def OneOk (b : Bs) (s t : Tm) (q : Bool × Bs) : Prop :=
 (q.1 = true → Inv P q.2 ∧ (∀ θ, Sat θ q.2 ↔ Sat θ b ∧ sub θ s = sub θ t) ∧ (q.2 = b ∨ wSum q.2 V < wSum b V)) ∧ (q.1 = false → ∀ θ, Sat θ b → sub θ s ≠ sub θ t)
variable {P V} (hp : Pool P V)
include hp
theorem OneOk.symm {b : Bs} {s t : Tm} {q : Bool × Bs} (h : OneOk P V b s t q) : OneOk P V b t s q := by
 refine ⟨fun hq => ?_, fun hq θ hs e => h.2 hq θ hs e.symm⟩
 obtain ⟨h1, h2, h3⟩ := h.1 hq
 exact ⟨h1, fun θ => by rw [h2]; exact ⟨fun h => ⟨h.1, h.2.symm⟩, fun h => ⟨h.1, h.2.symm⟩⟩, h3⟩
theorem Pool.vt {t : Tm} (h : P t) (hv : t.v > 0) : t = Go.Proofs.YtmeekpinkfpnhabGreat.vt t.v := (hp.pure t h t (parts_self t)).2 hv
theorem sub_var {θ : Int → Tm} {t : Tm} (hv : t.v > 0) : sub θ t = θ t.v := by rw [sub_eq, if_pos hv]
omit hp in
theorem sat_put {θ : Int → Tm} {b : Bs} {v : Int} {t : Tm} : Sat θ (putA v t b) ↔ θ v = sub θ t ∧ ∀ w y, w ≠ v → lookB w b = some y → θ w = sub θ y := by
 constructor
 ·intro h
  refine ⟨h v t (by rw [lookB_put, if_pos rfl]), fun w y hw hy => h w y (by rw [lookB_put, if_neg hw]; exact hy)⟩
 ·rintro ⟨h1, h2⟩ w y hy
  rw [lookB_put] at hy
  by_cases hw : w = v
  ·rw [if_pos hw] at hy; cases hy; rw [hw]; exact h1
  ·rw [if_neg hw] at hy; exact h2 w y hw hy
omit hp in
theorem sat_new {θ : Int → Tm} {b : Bs} {v : Int} {t : Tm} (hn : lookB v b = none) : Sat θ (putA v t b) ↔ Sat θ b ∧ θ v = sub θ t := by
 rw [sat_put]
 constructor
 ·rintro ⟨h1, h2⟩
  exact ⟨fun w y hy => h2 w y (fun e => by rw [e, hn] at hy; cases hy) hy, h1⟩
 ·rintro ⟨h1, h2⟩
  exact ⟨h2, fun w y _ hy => h1 w y hy⟩
theorem bind_ok {b : Bs} (hb : Inv P b) {n : Nat} {v : Int} {t : Tm} (hv : v > 0) (hv' : P (Go.Proofs.YtmeekpinkfpnhabGreat.vt v)) (ht : P t) (hn : lookB v b = none) (hc : t.v = 0 ∨ (t.v ≠ v ∧ ∀ x, lookB t.v b = some x → x.v = 0)) {q : Bool × Bs} (h : bindF n b v t = some q) : OneOk P V b (Go.Proofs.YtmeekpinkfpnhabGreat.vt v) t q := by
 have ev : ∀ θ, sub θ (Go.Proofs.YtmeekpinkfpnhabGreat.vt v) = θ v := fun θ => sub_var (t := .mk v 0 []) hp hv
 obtain ⟨c, b'⟩ := q
 refine ⟨fun hq => ?_, fun hq θ hs => ?_⟩
 ·simp only at hq; subst hq
  obtain ⟨h1, h2⟩ := bind_true hp.pure hb ht hv hv' h
  refine ⟨h2, fun θ => ?_, .inr ?_⟩
  ·simp only [h1]; rw [sat_new hn, ev]
  ·simp only [h1]
   refine wSum_put ?_ (hp.vars _ hv' hv)
   rw [hn]; have := wOne_some t; have e : wOne none = 2 := rfl; omega
 ·simp only at hq; subst hq
  rw [ev]
  exact bind_false (fun w y h => hp.pure _ (hb.look h)) (hp.pure _ ht) hc h fun w y _ hy => hs w y hy
theorem oneV_ok {one : Bs → Tm → Tm → Option (Bool × Bs)} (hone : ∀ b s t q, Inv P b → P s → P t → one b s t = some q → OneOk P V b s t q) {n : Nat} {b : Bs} (hb : Inv P b) {a c : Tm} (ha : P a) (hc : P c) (hav : a.v > 0)
  (hra : ∀ x, lookB a.v b = some x → x.v = 0) (hrc : c.v > 0 → ∀ x, lookB c.v b = some x → x.v = 0) {q : Bool × Bs} (h : oneV one n b a c = some q) : OneOk P V b a c q := by
 have ea := hp.vt ha hav
 have hPa : P (Go.Proofs.YtmeekpinkfpnhabGreat.vt a.v) := by rw [← ea]; exact ha
 unfold oneV at h
 by_cases hc0 : c.v = 0
 ·rw [if_pos hc0] at h
  cases hl : lookB a.v b with
  | none =>
   rw [hl] at h
   have := bind_ok hp hb hav hPa hc hl (.inl hc0) h
   rw [← ea] at this; exact this
  | some x =>
   rw [hl] at h
   have h1 := hone b x c q hb (hb.look hl) hc h
   have e : ∀ θ, Sat θ b → sub θ x = sub θ a := fun θ hs => by rw [sub_var hp hav]; exact (hs _ _ hl).symm
   refine ⟨fun hq => ?_, fun hq θ hs => by rw [← e θ hs]; exact h1.2 hq θ hs⟩
   obtain ⟨h2, h3, h4⟩ := h1.1 hq
   exact ⟨h2, fun θ => by
    rw [h3]
    constructor
    ·rintro ⟨k1, k2⟩; exact ⟨k1, by rw [← e θ k1]; exact k2⟩
    ·rintro ⟨k1, k2⟩; exact ⟨k1, by rw [e θ k1]; exact k2⟩, h4⟩
 ·rw [if_neg hc0] at h
  have hcv : c.v > 0 := by have := (hp.pure c hc c (parts_self c)).1; omega
  have ec := hp.vt hc hcv
  have hPc : P (Go.Proofs.YtmeekpinkfpnhabGreat.vt c.v) := by rw [← ec]; exact hc
  by_cases he : a.v = c.v
  ·rw [if_pos he] at h
   cases h
   have : a = c := by rw [ea, ec, he]
   subst this
   exact ⟨fun _ => ⟨hb, fun θ => ⟨fun h => ⟨h, rfl⟩, fun h => h.1⟩, .inl rfl⟩, fun h => (by cases h)⟩
  ·rw [if_neg he] at h
   cases h1 : lookB a.v b with
   | none =>
    cases h2 : lookB c.v b with
    | none =>
     rw [h1, h2] at h
     simp only at h
     by_cases hg : c.v > a.v
     ·rw [if_pos hg, if_neg (by omega)] at h
      change bindF n b c.v (Go.Proofs.YtmeekpinkfpnhabGreat.vt a.v) = some q at h
      rw [← ea] at h
      have := bind_ok hp hb hcv hPc ha h2 (.inr ⟨he, hra⟩) h
      rw [← ec] at this; exact OneOk.symm hp this
     ·rw [if_neg hg, if_pos (by omega)] at h
      change bindF n b a.v (Go.Proofs.YtmeekpinkfpnhabGreat.vt c.v) = some q at h
      rw [← ec] at h
      have := bind_ok hp hb hav hPa hc h1 (.inr ⟨fun e => he e.symm, hrc hcv⟩) h
      rw [← ea] at this; exact this
    | some y =>
     rw [h1, h2] at h
     simp only at h
     have := bind_ok hp hb hav hPa hc h1 (.inr ⟨fun e => he e.symm, hrc hcv⟩) h
     rw [← ea] at this; exact this
   | some x =>
    cases h2 : lookB c.v b with
    | none =>
     rw [h1, h2] at h
     simp only at h
     have := bind_ok hp hb hcv hPc ha h2 (.inr ⟨he, hra⟩) h
     rw [← ec] at this; exact OneOk.symm hp this
    | some y =>
     rw [h1, h2] at h
     simp only at h
     cases hbd : bindF n b c.v a with
     | none => rw [hbd] at h; cases h
     | some r =>
      rw [hbd] at h
      obtain ⟨k, b'⟩ := r
      cases k with
      | false =>
       simp only at h
       cases h
       refine ⟨fun h => (by cases h), fun _ θ hs => ?_⟩
       have := bind_false (fun w y h => hp.pure _ (hb.look h)) (hp.pure _ ha) (.inr ⟨he, hra⟩) hbd (θ := θ) fun w y _ hy => hs w y hy
       rw [sub_var hp hcv]; exact fun e => this e.symm
      | true =>
       simp only at h
       obtain ⟨k1, k2⟩ := bind_true hp.pure hb ha hcv hPc hbd
       have hw : wSum b' V < wSum b V := by
        rw [k1]
        refine wSum_put ?_ (hp.vars _ hc hcv)
        rw [h2]; unfold wOne; simp only []
        rw [if_pos hav, if_neg (by have := hrc hcv y h2; omega)]; omega
       have k3 := hone b' x y q k2 (hb.look h1) (hb.look h2) h
       have key : ∀ θ, (Sat θ b' ∧ sub θ x = sub θ y) ↔ (Sat θ b ∧ sub θ a = sub θ c) := fun θ => by
        rw [k1, sat_put, sub_var hp hcv, sub_var hp hav]
        constructor
        ·rintro ⟨⟨m1, m2⟩, m3⟩
         have m4 := m2 _ _ he h1
         refine ⟨fun w z hz => ?_, m1.symm⟩
         by_cases hw : w = c.v
         ·rw [hw, h2] at hz; cases hz
          rw [hw, m1, m4, m3]
         ·exact m2 w z hw hz
        ·rintro ⟨m1, m2⟩
         exact ⟨⟨m2.symm, fun w z _ hz => m1 w z hz⟩, by rw [← m1 _ _ h1, ← m1 _ _ h2]; exact m2⟩
       refine ⟨fun hq => ?_, fun hq θ hs e => ?_⟩
       ·obtain ⟨m1, m2, m3⟩ := k3.1 hq
        refine ⟨m1, fun θ => by rw [m2, key], .inr ?_⟩
        rcases m3 with m3 | m3
        ·rw [m3]; exact hw
        ·omega
       ·obtain ⟨m1, m2⟩ := (key θ).2 ⟨hs, e⟩
        exact k3.2 hq θ m1 m2
omit hp in
theorem sub_non {θ : Int → Tm} {t : Tm} (h : t.v = 0) : sub θ t = .mk 0 t.f (subL θ t.us) := by rw [sub_eq, if_neg (by omega), h]
theorem one_ok : ∀ (n : Nat) (b : Bs) (s t : Tm) (q : Bool × Bs), Inv P b → P s → P t → oneF n b s t = some q → OneOk P V b s t q
 | 0, _, _, _, _, _, _, _, h => by rw [oneF] at h; cases h
 | n + 1, b, s, t, q, hb, hs, ht, h => by
  rw [oneF] at h
  cases ha : rootF n b s with
  | none => rw [ha] at h; cases h
  | some a =>
   cases hc : rootF n b t with
   | none => rw [ha, hc] at h; cases h
   | some c =>
    rw [ha, hc] at h
    simp only at h
    have hval : ∀ v y, lookB v b = some y → P y := fun v y h => hb.look h
    obtain ⟨pa, _, ra⟩ := root_pool hval n s a hs ha
    obtain ⟨pc, _, rc⟩ := root_pool hval n t c ht hc
    suffices hk : OneOk P V b a c q by
     refine ⟨fun hq => ?_, fun hq θ hsat e => ?_⟩
     ·obtain ⟨h1, h2, h3⟩ := hk.1 hq
      refine ⟨h1, fun θ => ?_, h3⟩
      rw [h2]
      constructor
      ·rintro ⟨k1, k2⟩; exact ⟨k1, by rw [← root_sat k1 n s a ha, ← root_sat k1 n t c hc]; exact k2⟩
      ·rintro ⟨k1, k2⟩; exact ⟨k1, by rw [root_sat k1 n s a ha, root_sat k1 n t c hc]; exact k2⟩
     ·exact hk.2 hq θ hsat (by rw [root_sat hsat n s a ha, root_sat hsat n t c hc]; exact e)
    by_cases h0 : a.v = 0 ∧ c.v = 0
    ·rw [if_pos h0] at h
     by_cases h1 : a.f = c.f
     ·rw [if_pos h1] at h
      by_cases h2 : a.us.length = c.us.length
      ·rw [if_pos h2] at h
       have key : ∀ (xs ys : List Tm) (b : Bs), xs.length = ys.length → Inv P b → (∀ u ∈ xs, P u) → (∀ u ∈ ys, P u) → eqO (fun x y s => oneF n s x y) xs ys b = some q →
         (q.1 = true → Inv P q.2 ∧ (∀ θ, Sat θ q.2 ↔ Sat θ b ∧ subL θ xs = subL θ ys) ∧ (q.2 = b ∨ wSum q.2 V < wSum b V)) ∧ (q.1 = false → ∀ θ, Sat θ b → subL θ xs ≠ subL θ ys) := by
        intro xs
        induction xs with
        | nil =>
         intro ys b hl hb _ _ h
         cases ys with
         | cons => cases hl
         | nil =>
          simp only [eqO, Option.some.injEq] at h
          subst h
          exact ⟨fun _ => ⟨hb, fun θ => ⟨fun h => ⟨h, rfl⟩, fun h => h.1⟩, .inl rfl⟩, fun h => (by cases h)⟩
        | cons x xs ih =>
         intro ys b hl hb hx hy h
         cases ys with
         | nil => cases hl
         | cons y ys =>
          rw [eqO] at h
          cases ho : oneF n b x y with
          | none => rw [ho] at h; cases h
          | some r =>
           rw [ho] at h
           have hr := one_ok n b x y r hb (hx x (by simp)) (hy y (by simp)) ho
           obtain ⟨k, b'⟩ := r
           cases k with
           | false =>
            simp only at h
            cases h
            refine ⟨fun h => (by cases h), fun _ θ hs e => ?_⟩
            rw [subL, subL] at e
            injection e with e1 e2
            exact hr.2 rfl θ hs e1
           | true =>
            simp only at h
            obtain ⟨k1, k2, k3⟩ := hr.1 rfl
            simp only at k1 k2 k3
            obtain ⟨m1, m2⟩ := ih ys b' (by simpa using hl) k1 (fun u hu => hx u (by simp [hu])) (fun u hu => hy u (by simp [hu])) h
            refine ⟨fun hq => ?_, fun hq θ hs e => ?_⟩
            ·obtain ⟨j1, j2, j3⟩ := m1 hq
             refine ⟨j1, fun θ => ?_, ?_⟩
             ·rw [j2, k2, subL, subL]
              constructor
              ·rintro ⟨⟨i1, i2⟩, i3⟩; exact ⟨i1, by rw [i2, i3]⟩
              ·rintro ⟨i1, i2⟩
               injection i2 with i2 i3
               exact ⟨⟨i1, i2⟩, i3⟩
             ·rcases j3 with j3 | j3
              ·rcases k3 with k3 | k3
               ·exact .inl (j3.trans k3)
               ·exact .inr (by rw [j3]; exact k3)
              ·rcases k3 with k3 | k3
               ·exact .inr (by rw [← k3]; exact j3)
               ·exact .inr (by omega)
            ·rw [subL, subL] at e
             injection e with e1 e2
             exact m2 hq θ ((k2 θ).2 ⟨hs, e1⟩) e2
       obtain ⟨k1, k2⟩ := key a.us c.us b h2 hb (hp.kid a pa) (hp.kid c pc) h
       refine ⟨fun hq => ?_, fun hq θ hs e => ?_⟩
       ·obtain ⟨j1, j2, j3⟩ := k1 hq
        refine ⟨j1, fun θ => ?_, j3⟩
        rw [j2, sub_non h0.1, sub_non h0.2]
        constructor
        ·rintro ⟨i1, i2⟩; exact ⟨i1, by rw [i2, h1]⟩
        ·rintro ⟨i1, i2⟩
         injection i2 with _ _ i2
         exact ⟨i1, i2⟩
       ·rw [sub_non h0.1, sub_non h0.2] at e
        injection e with _ _ e
        exact k2 hq θ hs e
      ·rw [if_neg h2] at h
       cases h
       refine ⟨fun h => (by cases h), fun _ θ hs e => h2 ?_⟩
       rw [sub_non h0.1, sub_non h0.2] at e
       injection e with _ _ e
       have := congrArg List.length e
       rw [subL_map, subL_map, List.length_map, List.length_map] at this
       exact this
     ·rw [if_neg h1] at h
      cases h
      refine ⟨fun h => (by cases h), fun _ θ hs e => h1 ?_⟩
      rw [sub_non h0.1, sub_non h0.2] at e
      injection e
    ·rw [if_neg h0] at h
     by_cases h1 : a.v = 0
     ·rw [if_pos h1] at h
      have hcv : c.v > 0 := by
       have := (hp.pure c pc c (parts_self c)).1
       rcases Classical.em (c.v = 0) with h2 | h2
       ·exact absurd ⟨h1, h2⟩ h0
       ·omega
      exact OneOk.symm hp (oneV_ok hp (one_ok n) hb pc pa hcv (rc hcv) ra h)
     ·rw [if_neg h1] at h
      have hav : a.v > 0 := by have := (hp.pure a pa a (parts_self a)).1; omega
      exact oneV_ok hp (one_ok n) hb pa pc hav (ra hav) rc h
end
end Go.Proofs.YtmeekpinkfpnhabGreat
