/- Clauses: superposeref. -/
import Derived.Test.YtmeekpinkfpnhabGreatP08
import Derived.Test.YtmeekpinkfpnhabGreatP09
import Derived.Test.YtmeekpinkfpnhabGreatP10
import Derived.Test.YtmeekpinkfpnhabGreatP11
import Derived.Test.YtmeekpinkfpnhabGreatP14
import Derived.Test.YtmeekpinkfpnhabGreatP21
import Derived.Test.YtmeekpinkfpnhabGreatP22
import Derived.Test.YtmeekpinkfpnhabGreatP23
set_option linter.all false
namespace Go.Proofs.YtmeekpinkfpnhabGreat
def nv (t : Tm) : Nat := if t.v > 0 then 1 else 0
def Has (b : Bs) (s t : Tm) : Prop := ∃ n q, oneF n b s t = some q
theorem Has.more {b : Bs} {s t : Tm} (h : Has b s t) (m : Nat) : ∃ n q, m ≤ n ∧ oneF n b s t = some q := by
 obtain ⟨n, q, h⟩ := h
 exact ⟨max n m, q, by omega, one_more (by omega) h⟩
section
variable {P : Tm → Prop} {V : List Int} (hp : Pool P V)
include hp
theorem one_step (b : Bs) (rk : Int → Nat) (s t : Tm) (hb : Inv P b) (hr : Rk rk b) (hs : P s) (ht : P t)
  (IH : ∀ b' rk' s' t', Inv P b' → Rk rk' b' → P s' → P t' → (wSum b' V < wSum b V ∨ (b' = b ∧ rk' = rk ∧ (dep rk s' + dep rk t' < dep rk s + dep rk t ∨ (dep rk s' + dep rk t' ≤ dep rk s + dep rk t ∧ nv s' + nv t' < nv s + nv t)))) → Has b' s' t') : Has b s t := by
 obtain ⟨a, ha⟩ := root_has hr _ s (Nat.le_refl _)
 obtain ⟨c, hc⟩ := root_has hr _ t (Nat.le_refl _)
 have hval : ∀ v y, lookB v b = some y → P y := fun v y h => hb.look h
 obtain ⟨pa, va, ra⟩ := root_pool hval _ s a hs ha
 obtain ⟨pc, vc, rc⟩ := root_pool hval _ t c ht hc
 have da := root_dep hr _ s a ha
 have dc := root_dep hr _ t c hc
 generalize dep rk s + 1 = n1 at ha
 generalize dep rk t + 1 = n2 at hc
 suffices hk : ∃ n q, n1 ≤ n ∧ n2 ≤ n ∧ (if a.v = 0 ∧ c.v = 0 then
    if a.f = c.f then (if a.us.length = c.us.length then eqO (fun x y s => oneF n s x y) a.us c.us b else some (false, b)) else some (false, b)
   else if a.v = 0 then oneV (oneF n) n b c a else oneV (oneF n) n b a c) = some q by
  obtain ⟨n, q, h1, h2, h3⟩ := hk
  refine ⟨n + 1, q, ?_⟩
  rw [oneF, root_more h1 ha, root_more h2 hc]
  exact h3
 have hvar : ∀ a c : Tm, P a → P c → a.v > 0 → (∀ x, lookB a.v b = some x → x.v = 0) → (c.v > 0 → ∀ x, lookB c.v b = some x → x.v = 0) → dep rk a + dep rk c ≤ dep rk s + dep rk t → (c.v = 0 → 0 < nv s + nv t) → ∃ n q, n1 ≤ n ∧ n2 ≤ n ∧ oneV (oneF n) n b a c = some q := by
  intro a c pa pc hav ra rc hd hn
  have hbnd : ∀ v t, P t → ∃ n q, n1 ≤ n ∧ n2 ≤ n ∧ bindF n b v t = some q := fun v t ht => by
   obtain ⟨n, q, h⟩ := bind_has (b := b) (fun w y h => hp.pure _ (hb.look h)) (v := v) (hp.pure _ ht)
   exact ⟨max n (max n1 n2), q, by omega, by omega, bind_more (by omega) h⟩
  unfold oneV
  by_cases hc0 : c.v = 0
  ·cases hl : lookB a.v b with
   | none =>
    obtain ⟨n, q, h1, h2, h3⟩ := hbnd a.v c pc
    exact ⟨n, q, h1, h2, by rw [if_pos hc0]; exact h3⟩
   | some x =>
    have hx := hr _ _ hl
    have hxv := ra x hl
    have h := IH b rk x c hb hr (hb.look hl) pc (.inr ⟨rfl, rfl, .inl (by rw [dep_eq rk a, if_pos hav] at hd; omega)⟩)
    obtain ⟨n, q, h1, h2⟩ := h.more (max n1 n2)
    exact ⟨n, q, by omega, by omega, by rw [if_pos hc0]; exact h2⟩
  ·have hcv : c.v > 0 := by have := (hp.pure c pc c (parts_self c)).1; omega
   by_cases he : a.v = c.v
   ·exact ⟨max n1 n2, (true, b), by omega, by omega, by rw [if_neg hc0, if_pos he]⟩
   ·cases h1 : lookB a.v b with
    | none =>
     cases h2 : lookB c.v b with
     | none =>
      have ea : Tm.mk a.v 0 [] = a := (hp.vt pa hav).symm
      have ec : Tm.mk c.v 0 [] = c := (hp.vt pc hcv).symm
      have hm : P (.mk (if c.v < a.v then c.v else a.v) 0 []) := by
       split
       ·rw [ec]; exact pc
       ·rw [ea]; exact pa
      obtain ⟨n, q, k1, k2, k3⟩ := hbnd (if c.v > a.v then c.v else a.v) _ hm
      exact ⟨n, q, k1, k2, by rw [if_neg hc0, if_neg he]; exact k3⟩
     | some y =>
      obtain ⟨n, q, k1, k2, k3⟩ := hbnd a.v c pc
      exact ⟨n, q, k1, k2, by rw [if_neg hc0, if_neg he]; exact k3⟩
    | some x =>
     cases h2 : lookB c.v b with
     | none =>
      obtain ⟨n, q, k1, k2, k3⟩ := hbnd c.v a pa
      exact ⟨n, q, k1, k2, by rw [if_neg hc0, if_neg he]; exact k3⟩
     | some y =>
      obtain ⟨n, q, k1, k2, k3⟩ := hbnd c.v a pa
      obtain ⟨k, b'⟩ := q
      cases k with
      | false => exact ⟨n, (false, b'), k1, k2, by rw [if_neg hc0, if_neg he]; simp only [k3]⟩
      | true =>
       have ec := hp.vt pc hcv
       obtain ⟨j1, j2⟩ := bind_true hp.pure hb pa hcv (by rw [← ec]; exact pc) k3
       obtain ⟨rk', hr'⟩ := j2.rk
       have hw : wSum b' V < wSum b V := by
        rw [j1]
        refine wSum_put ?_ (hp.vars _ pc hcv)
        rw [h2]; unfold wOne; simp only []
        rw [if_pos hav, if_neg (by have := rc hcv y h2; omega)]; omega
       have h := IH b' rk' x y j2 hr' (hb.look h1) (hb.look h2) (.inl hw)
       obtain ⟨m, q, i1, i2⟩ := h.more n
       refine ⟨m, q, by omega, by omega, ?_⟩
       rw [if_neg hc0, if_neg he]
       simp only [bind_more i1 k3]
       exact i2
 by_cases h0 : a.v = 0 ∧ c.v = 0
 ·by_cases h1 : a.f = c.f
  ·by_cases h2 : a.us.length = c.us.length
   ·have key : ∀ (xs ys : List Tm) (b' : Bs), (b' = b ∨ wSum b' V < wSum b V) → Inv P b' → (∀ u ∈ xs, P u ∧ dep rk u < dep rk a) → (∀ u ∈ ys, P u ∧ dep rk u < dep rk c) → ∃ n q, n1 ≤ n ∧ n2 ≤ n ∧ eqO (fun x y s => oneF n s x y) xs ys b' = some q := by
     intro xs
     induction xs with
     | nil => intro ys b' _ _ _ _; exact ⟨max n1 n2, (true, b'), by omega, by omega, by simp only [eqO]⟩
     | cons x xs ih =>
      intro ys b' hb1 hb2 hx hy
      cases ys with
      | nil => exact ⟨max n1 n2, (true, b'), by omega, by omega, by simp only [eqO]⟩
      | cons y ys =>
       obtain ⟨x1, x2⟩ := hx x (by simp)
       obtain ⟨y1, y2⟩ := hy y (by simp)
       have h : Has b' x y := by
        rcases hb1 with e | hw
        ·subst e
         exact IH b' rk x y hb hr x1 y1 (.inr ⟨rfl, rfl, .inl (by omega)⟩)
        ·obtain ⟨rk', hr'⟩ := hb2.rk
         exact IH b' rk' x y hb2 hr' x1 y1 (.inl hw)
       obtain ⟨n, ⟨k, b2⟩, m1⟩ := h
       have hok := one_ok hp n b' x y _ hb2 x1 y1 m1
       cases k with
       | false => exact ⟨max n (max n1 n2), (false, b2), by omega, by omega, by rw [eqO, one_more (by omega) m1]⟩
       | true =>
        obtain ⟨k1, _, k3⟩ := hok.1 rfl
        simp only at k1 k3
        obtain ⟨m, q, i1, i2, i3⟩ := ih ys b2 (by
         rcases k3 with k3 | k3
         ·rw [k3]; exact hb1
         ·rcases hb1 with e | hw
          ·exact .inr (by rw [← e]; exact k3)
          ·exact .inr (by omega)) k1 (fun u hu => hx u (by simp [hu])) (fun u hu => hy u (by simp [hu]))
        refine ⟨max m n, q, by omega, by omega, ?_⟩
        rw [eqO, one_more (by omega) m1]
        exact eqO_mono (fun u v s r e => one_more (by omega) e) _ _ _ _ i3
    obtain ⟨n, q, k1, k2, k3⟩ := key a.us c.us b (.inl rfl) hb (fun u hu => ⟨hp.kid a pa u hu, by
     have := depL_mem (rk := rk) hu; rw [dep_eq rk a, if_neg (by omega)]; omega⟩) (fun u hu => ⟨hp.kid c pc u hu, by
     have := depL_mem (rk := rk) hu; rw [dep_eq rk c, if_neg (by omega)]; omega⟩)
    exact ⟨n, q, k1, k2, by rw [if_pos h0, if_pos h1, if_pos h2]; exact k3⟩
   ·exact ⟨max n1 n2, _, by omega, by omega, by rw [if_pos h0, if_pos h1, if_neg h2]⟩
  ·exact ⟨max n1 n2, _, by omega, by omega, by rw [if_pos h0, if_neg h1]⟩
 ·by_cases h1 : a.v = 0
  ·have hcv : c.v > 0 := by
    have := (hp.pure c pc c (parts_self c)).1
    rcases Classical.em (c.v = 0) with h2 | h2
    ·exact absurd ⟨h1, h2⟩ h0
    ·omega
   obtain ⟨n, q, k1, k2, k3⟩ := hvar c a pc pa hcv (rc hcv) ra (by omega) (fun _ => by unfold nv; rw [if_pos (vc hcv)]; omega)
   exact ⟨n, q, k1, k2, by rw [if_neg h0, if_pos h1]; exact k3⟩
  ·have hav : a.v > 0 := by have := (hp.pure a pa a (parts_self a)).1; omega
   obtain ⟨n, q, k1, k2, k3⟩ := hvar a c pa pc hav (ra hav) rc (by omega) (fun _ => by unfold nv; rw [if_pos (va hav)]; omega)
   exact ⟨n, q, k1, k2, by rw [if_neg h0, if_neg h1]; exact k3⟩
theorem one_has (b : Bs) (rk : Int → Nat) (s t : Tm) (hb : Inv P b) (hr : Rk rk b) (hs : P s) (ht : P t) : Has b s t :=
 one_step hp b rk s t hb hr hs ht fun b' rk' s' t' h1 h2 h3 h4 h5 => one_has b' rk' s' t' h1 h2 h3 h4
termination_by (wSum b V, dep rk s + dep rk t, nv s + nv t)
decreasing_by
 rcases h5 with h | ⟨rfl, rfl, h | ⟨h, h'⟩⟩
 ·exact .left _ _ h
 ·exact .right _ (.left _ _ h)
 ·rcases Nat.lt_or_eq_of_le h with h | h
  ·exact .right _ (.left _ _ h)
  ·rw [h]; exact .right _ (.right _ h')
end
def full (rk : Int → Nat) (b : Bs) (v : Int) : Tm := thruT (rk v + 1) b (vt v)
theorem mapM_sub {step : Tm → Tm × Bool} {τ : Int → Tm} : ∀ t : Tm, Pure t → (∀ x ∈ parts t, if x.v > 0 then (if (step x).2 = true then (step x).1 else x) = τ x.v else (step x).2 = false) → mapM step t = sub τ t := by
 refine Tm.ind fun t ih hp h => ?_
 have h1 := h t (parts_self t)
 rw [mapM_eq, sub_eq]
 by_cases hv : t.v > 0
 ·rw [if_pos hv] at h1 ⊢
  rw [← h1]
  by_cases hs : (step t).2 = true
  ·rw [if_pos hs, if_pos hs]
  ·rw [if_neg hs, if_neg hs]
   have e := (hp t (parts_self t)).2 hv
   have eu : t.us = [] := by rw [e]; rfl
   rw [eu, mapL]
   conv => rhs; rw [← Tm.eta t, eu]
 ·rw [if_neg hv] at h1 ⊢
  rw [if_neg (by rw [h1]; decide), mapL_map, subL_map]
  congr 1
  exact List.map_congr_left fun u hu => ih u hu (hp.kid hu) fun x hx => h x (parts_kid hu hx)
section
variable {rk : Int → Nat} {b : Bs} (hr : Rk rk b) (hb : ∀ v y, lookB v b = some y → Pure y)
include hr hb
theorem full_free {v : Int} (hv : v > 0) (h : lookB v b = none) : full rk b v = vt v := by
 unfold full
 rw [thruT, mapM_eq]
 unfold thruS
 simp only [v_mk, h]
 rw [if_neg (by decide)]
 rfl
theorem full_bound {v : Int} (hv : v > 0) {y : Tm} (h : lookB v b = some y) : full rk b v = thruT (rk v) b y := by
 unfold full
 rw [thruT, mapM_eq]
 unfold thruS
 simp only [v_mk, h, hv, if_true]
theorem thru_full : ∀ (n : Nat) (t : Tm), Pure t → dep rk t ≤ n → thruT (n + 1) b t = sub (full rk b) t := by
 intro n
 induction n using Nat.strongRecOn with
 | _ n ih =>
  intro t ht hd
  rw [thruT]
  refine mapM_sub t ht fun x hx => ?_
  have hxp := ht x hx
  have hxd := dep_parts (rk := rk) t ht x hx
  by_cases hv : x.v > 0
  ·rw [if_pos hv]
   rw [dep_eq rk x, if_pos hv] at hxd
   unfold thruS
   cases hl : lookB x.v b with
   | none =>
    simp only
    rw [if_neg (by decide), full_free hr hb hv hl]
    exact hxp.2 hv
   | some y =>
    simp only
    rw [if_pos hv]
    simp only [if_true]
    rw [full_bound hr hb hv hl]
    have h1 := hr _ _ hl
    have hy := hb _ _ hl
    obtain ⟨m, rfl⟩ : ∃ m, n = m + 1 := ⟨n - 1, by omega⟩
    obtain ⟨r, hrr⟩ : ∃ r, rk x.v = r + 1 := ⟨rk x.v - 1, by omega⟩
    rw [hrr, ih m (by omega) y hy (by omega), ih r (by omega) y hy (by omega)]
  ·rw [if_neg hv]
   unfold thruS
   cases hl : lookB x.v b with
   | none => rfl
   | some y => simp only; rw [if_neg hv]
theorem full_sat (hk : ∀ v y, lookB v b = some y → v > 0) : Sat (full rk b) b := fun v y h => by
 have h1 := hr _ _ h
 obtain ⟨r, hrr⟩ : ∃ r, rk v = r + 1 := ⟨rk v - 1, by omega⟩
 rw [full_bound hr hb (hk v y h) h, hrr, thru_full hr hb r y (hb _ _ h) (by omega)]
theorem thruOk_dep : ∀ (n : Nat) (t : Tm), Pure t → dep rk t ≤ n → thruOk (n + 1) b t = true := by
 intro n
 induction n using Nat.strongRecOn with
 | _ n ih =>
  intro t ht hd
  rw [thruOk, List.all_eq_true]
  intro x hx
  cases hl : lookB x.v b with
  | none => rfl
  | some y =>
   simp only
   by_cases hv : x.v > 0
   ·have hx' : x ∈ parts t := by
     have := pre_filter t (fun z hz hv => by rw [(ht z hz).2 hv]; rfl)
     have h2 : x ∈ (pre t).filter (fun x => decide (x.v > 0)) := List.mem_filter.2 ⟨hx, by simpa using hv⟩
     rw [this] at h2
     exact (List.mem_filter.1 h2).1
    have hxd := dep_parts (rk := rk) t ht x hx'
    rw [dep_eq rk x, if_pos hv] at hxd
    have h1 := hr _ _ hl
    obtain ⟨m, rfl⟩ : ∃ m, n = m + 1 := ⟨n - 1, by omega⟩
    rw [ih m (by omega) y (hb _ _ hl) (by omega)]; simp
   ·simp [hv]
def sizT (rk : Int → Nat) (b : Bs) (t : Tm) : Int := if (sub (full rk b) t).size > 1000 then 1000 else (sub (full rk b) t).size
def KnG (rk : Int → Nat) (b : Bs) (kn : List (Int × Int)) : Prop := ∀ v s, v > 0 → lookA v kn = some s → s = sizT rk b (vt v)
theorem size_has (hk : ∀ v y, lookB v b = some y → v > 0) : ∀ (n : Nat) (t : Tm) (kn : List (Int × Int)), Pure t → dep rk t ≤ n → KnG rk b kn → ∃ kn', sizeF (n + 1) b t kn = some (sizT rk b t, kn') ∧ KnG rk b kn' := by
 intro n
 induction n using Nat.strongRecOn with
 | _ n ih =>
  intro t kn ht hd hkn
  rw [sizeF]
  by_cases hv : t.v > 0
  ·rw [if_pos hv]
   have et := (ht t (parts_self t)).2 hv
   cases hl : lookB t.v b with
   | none =>
    refine ⟨kn, ?_, hkn⟩
    simp only
    unfold sizT
    rw [sub_eq, if_pos hv, full_free hr hb hv hl]
    rfl
   | some x =>
    simp only
    cases hs : lookA t.v kn with
    | some s =>
     refine ⟨kn, ?_, hkn⟩
     simp only
     rw [hkn _ _ hv hs]
     rw [← et]
    | none =>
     simp only
     have h1 := hr _ _ hl
     rw [dep_eq rk t, if_pos hv] at hd
     obtain ⟨m, rfl⟩ : ∃ m, n = m + 1 := ⟨n - 1, by omega⟩
     obtain ⟨kn', h2, h3⟩ := ih m (by omega) x kn (hb _ _ hl) (by omega) hkn
     have e : sizT rk b x = sizT rk b t := by
      unfold sizT
      rw [sub_eq _ t, if_pos hv, full_sat hr hb hk _ _ hl]
     rw [h2]
     refine ⟨putA t.v (sizT rk b x) kn', by rw [e]; simp only [Option.map_some, e], fun v s hv' h => ?_⟩
     rw [lookA_put] at h
     by_cases hvt : v = t.v
     ·rw [if_pos hvt] at h
      cases h
      rw [hvt, e, ← et]
     ·rw [if_neg hvt] at h; exact h3 v s hv' h
  ·rw [if_neg hv]
   rw [dep_eq rk t, if_neg hv] at hd
   obtain ⟨m, rfl⟩ : ∃ m, n = m + 1 := ⟨n - 1, by omega⟩
   have key : ∀ (us : List Tm) (a : Nat) (kn : List (Int × Int)), (∀ u ∈ us, Pure u ∧ dep rk u ≤ m) → KnG rk b kn → ∃ kn', sizeL (sizeF (m + 1) b) us (if (a : Int) > 1000 then 1000 else a) kn = some (if ((a + Tm.size.sizes (subL (full rk b) us) : Nat) : Int) > 1000 then 1000 else ((a + Tm.size.sizes (subL (full rk b) us) : Nat) : Int), kn') ∧ KnG rk b kn' := by
    intro us
    induction us with
    | nil => intro a kn _ h; exact ⟨kn, by simp [sizeL, subL, Tm.size.sizes], h⟩
    | cons u us ihu =>
     intro a kn hu h
     obtain ⟨u1, u2⟩ := hu u (by simp)
     obtain ⟨kn1, h1, h2⟩ := ih m (by omega) u kn u1 u2 h
     obtain ⟨kn2, h3, h4⟩ := ihu (a + (sub (full rk b) u).size) kn1 (fun w hw => hu w (by simp [hw])) h2
     refine ⟨kn2, ?_, h4⟩
     rw [sizeL, h1]
     simp only
     have e : (if 1000 < (if (a : Int) > 1000 then 1000 else (a : Int)) + sizT rk b u then (1000 : Int) else (if (a : Int) > 1000 then 1000 else (a : Int)) + sizT rk b u) = if ((a + (sub (full rk b) u).size : Nat) : Int) > 1000 then 1000 else ((a + (sub (full rk b) u).size : Nat) : Int) := by
      unfold sizT
      split <;> split <;> split <;> (try split) <;> omega
     rw [e, h3, subL, Tm.size.sizes, Nat.add_assoc]
   obtain ⟨kn', h1, h2⟩ := key t.us 1 kn (fun u hu => ⟨ht.kid hu, by have := depL_mem (rk := rk) hu; omega⟩) hkn
   refine ⟨kn', ?_, h2⟩
   have e : sizT rk b t = if ((1 + Tm.size.sizes (subL (full rk b) t.us) : Nat) : Int) > 1000 then 1000 else ((1 + Tm.size.sizes (subL (full rk b) t.us) : Nat) : Int) := by
    unfold sizT
    rw [sub_eq, if_neg hv, Tm.size]
    by_cases h : 1 + Tm.size.sizes (subL (full rk b) t.us) > 1000
    ·rw [if_pos h, if_pos (by omega)]
    ·rw [if_neg h, if_neg (by omega)]
   rw [e]
   exact h1
end
theorem part_size : ∀ t : Tm, ∀ x ∈ parts t, x.size ≤ t.size := by
 refine Tm.ind fun t ih x hx => ?_
 rw [parts_eq, List.mem_append, List.mem_singleton] at hx
 rcases hx with hx | rfl
 ·obtain ⟨u, hu, hx⟩ := partsL_mem hx
  have h1 := ih u hu x hx
  have h2 := Tm.size_kid hu
  omega
 ·omega
theorem own_mk {g : List Int} {t : Tm} (h1 : form g t = 0) (h2 : t.size ≤ 120) : own g t = 0 := by
 unfold own
 rw [if_neg (by have := count_cap.2 h2; omega)]; exact h1
theorem own_sz {g : List Int} {t : Tm} (h : own g t = 0) : t.size ≤ 120 := count_cap.1 (own_form h).2
theorem own_piece {g : List Int} {t x : Tm} (h : own g t = 0) (hx : x ∈ parts t) : own g x = 0 :=
 own_mk (form_part (own_form h).1 hx) (by have := part_size t x hx; have := own_sz h; omega)
theorem own_le {g : List Int} {t : Tm} (h : own g t = 0) (hv : t.v > 0) : t.v ≤ 1000 := by
 have h1 := own_each h (parts_self t)
 unfold formOne at h1
 rw [if_pos (by omega)] at h1
 by_cases h2 : t.v < 1 ∨ t.v > 1000
 ·rw [if_pos h2] at h1; cases h1
 ·omega
def vAll : List Int := (List.range 1001).map fun i : Nat => (i : Int)
theorem own_pool (g : List Int) : Pool (fun t => own g t = 0) vAll where
 pure _ h := own_pure h
 kid t h u hu := own_piece h (parts_kid hu (parts_self u))
 vars t h hv := by
  have := own_le h hv
  exact List.mem_map.2 ⟨t.v.toNat, List.mem_range.2 (by omega), by omega⟩
theorem deps_max (rk : Int → Nat) (b : Bs) : ∃ D, ∀ p ∈ b, dep rk p.2 ≤ D := by
 induction b with
 | nil => exact ⟨0, by simp⟩
 | cons p b ih =>
  obtain ⟨D, hD⟩ := ih
  refine ⟨max D (dep rk p.2), fun q hq => ?_⟩
  rcases List.mem_cons.1 hq with rfl | hq
  ·omega
  ·have := hD q hq; omega
structure Uni (g : List Int) (s t : Tm) (n : Nat) (b : Bs) (rk : Int → Nat) : Prop where
 one : oneF (n + 1) [] s t = some (true, b)
 inv : Inv (fun t => own g t = 0) b
 hrk : Rk rk b
 sat : ∀ θ, Sat θ b ↔ sub θ s = sub θ t
 ds : dep rk s ≤ n
 db : ∀ p ∈ b, dep rk p.2 ≤ n
theorem unify_plain {g : List Int} {s t : Tm} (hs : own g s = 0) (ht : own g t = 0) : (∃ n b', oneF n [] s t = some (false, b') ∧ ∀ θ, sub θ s ≠ sub θ t) ∨ ∃ n b rk, Uni g s t n b rk := by
 have hi : Inv (fun t => own g t = 0) [] := ⟨by simp, by simp, fun _ => 0, fun v y h => by cases h⟩
 obtain ⟨n, ⟨k, b⟩, h⟩ := one_has (own_pool g) [] (fun _ => 0) s t hi (fun v y h => by cases h) hs ht
 have hok := one_ok (own_pool g) n [] s t _ hi hs ht h
 have hsat : ∀ θ, Sat θ [] := fun θ v y h => by cases h
 cases k with
 | false => exact .inl ⟨n, b, h, fun θ => hok.2 rfl θ (hsat θ)⟩
 | true =>
  obtain ⟨h1, h2, _⟩ := hok.1 rfl
  obtain ⟨rk, hr⟩ := h1.rk
  obtain ⟨D, hD⟩ := deps_max rk b
  refine .inr ⟨max n (max D (dep rk s)), b, rk, one_more (by omega) h, h1, hr, fun θ => ?_, by omega, fun p hp => by have := hD p hp; omega⟩
  rw [h2]
  exact ⟨fun h => h.2, fun h => ⟨hsat θ, h⟩⟩
def uniB (n : Nat) (b : Bs) : Bs := sortB (b.map fun p => (p.1, thruT (n + 1) b p.2))
theorem sortB_mem {b : Bs} {p : Int × Tm} : p ∈ sortB b ↔ p ∈ b := (List.mergeSort_perm b _).mem_iff
theorem sortB_nodup {b : Bs} (h : (b.map (·.1)).Nodup) : ((sortB b).map (·.1)).Nodup := (((List.mergeSort_perm b fun p q : Int × Tm => decide (p.1 ≤ q.1)).map (·.1)).nodup_iff).2 h
theorem lookB_sort {b : Bs} (h : (b.map (·.1)).Nodup) (v : Int) : lookB v (sortB b) = lookB v b := by
 cases hl : lookB v b with
 | some y =>
  obtain ⟨p, hp, h1, h2⟩ := lookB_mem hl
  rw [← h1, ← h2]
  exact lookB_of (sortB_nodup h) (sortB_mem.2 hp)
 | none =>
  refine lookB_not fun hm => ?_
  obtain ⟨p, hp, h1⟩ := List.mem_map.1 hm
  have := lookB_of h (sortB_mem.1 hp)
  rw [h1, hl] at this; cases this
theorem sub_sbOf {b b' : Bs} (h : ∀ v, v > 0 → lookB v b = lookB v b') (t : Tm) : sub (sbOf b) t = sub (sbOf b') t := sub_congr t fun x _ hv => by unfold sbOf; rw [h x.v hv]
section
variable {g : List Int} {s t : Tm} {n : Nat} {b : Bs} {rk : Int → Nat} (U : Uni g s t n b rk)
include U
theorem Uni.pure {v : Int} {y : Tm} (h : lookB v b = some y) : Pure y := own_pure (U.inv.look h)
theorem Uni.pos {v : Int} {y : Tm} (h : lookB v b = some y) : v > 0 := by
 obtain ⟨p, hp, h1, _⟩ := lookB_mem h
 rw [← h1]; exact (U.inv.val p hp).2.1
theorem Uni.keys {p : Int × Tm} (hp : p ∈ b) : 1 ≤ p.1 ∧ p.1 ≤ 1000 := by
 obtain ⟨_, h1, h2⟩ := U.inv.val p hp
 have := own_le h2 h1
 exact ⟨by omega, this⟩
theorem Uni.thru {p : Int × Tm} (hp : p ∈ b) : thruT (n + 1) b p.2 = sub (full rk b) p.2 := thru_full U.hrk (fun _ _ h => U.pure h) n p.2 (own_pure (U.inv.val p hp).1) (U.db p hp)
theorem Uni.ok {p : Int × Tm} (hp : p ∈ b) : thruOk (n + 1) b p.2 = true := thruOk_dep U.hrk (fun _ _ h => U.pure h) n p.2 (own_pure (U.inv.val p hp).1) (U.db p hp)
theorem Uni.nd' : ((b.map fun p => (p.1, thruT (n + 1) b p.2)).map (·.1)).Nodup := by
 have := U.inv.nd
 rw [List.map_map]; exact this
theorem Uni.sb {t : Tm} : sub (sbOf (uniB n b)) t = sub (full rk b) t := by
 refine sub_congr t fun x _ hv => ?_
 unfold sbOf uniB
 rw [lookB_sort U.nd']
 cases hl : lookB x.v b with
 | none =>
  rw [full_free U.hrk (fun _ _ h => U.pure h) hv hl, lookB_not]
  ·rfl
  ·intro hm
   obtain ⟨q, hq, h1⟩ := List.mem_map.1 hm
   obtain ⟨p, hp, rfl⟩ := List.mem_map.1 hq
   have := lookB_of U.inv.nd hp
   simp only at h1
   rw [h1, hl] at this; cases this
 | some y =>
  obtain ⟨p, hp, h1, h2⟩ := lookB_mem hl
  have h3 : lookB x.v (b.map fun p => (p.1, thruT (n + 1) b p.2)) = some (thruT (n + 1) b p.2) := by
   have := lookB_of U.nd' (p := (p.1, thruT (n + 1) b p.2)) (List.mem_map.2 ⟨p, hp, rfl⟩)
   rw [← h1]; exact this
  rw [h3, U.thru hp, full_sat U.hrk (fun _ _ h => U.pure h) (fun _ _ h => U.pos h) _ _ hl, h2]
  rfl
theorem Uni.same : sub (full rk b) s = sub (full rk b) t := (U.sat _).1 (full_sat U.hrk (fun _ _ h => U.pure h) (fun _ _ h => U.pos h))
theorem Uni.fm {x : Tm} (hx : form g x = 0) (hp : Pure x) : form g (sub (full rk b) x) = 0 := by
 have key : ∀ (m : Nat) (x : Tm), form g x = 0 → Pure x → dep rk x ≤ m → form g (sub (full rk b) x) = 0 := by
  intro m
  induction m using Nat.strongRecOn with
  | _ m ih =>
   intro x hx hp hd
   refine form_sub x hx fun z hz hv => ?_
   have hzd := dep_parts (rk := rk) x hp z hz
   rw [dep_eq rk z, if_pos hv] at hzd
   cases hl : lookB z.v b with
   | none => rw [full_free U.hrk (fun _ _ h => U.pure h) hv hl]; exact formV hx hz hv
   | some y =>
    have h1 := U.hrk _ _ hl
    rw [full_sat U.hrk (fun _ _ h => U.pure h) (fun _ _ h => U.pos h) _ _ hl]
    exact ih (dep rk y) (by omega) y (own_form (U.inv.look hl)).1 (U.pure hl) (Nat.le_refl _)
 exact key _ x hx hp (Nat.le_refl _)
end
theorem size_le {rk : Int → Nat} {b : Bs} {t : Tm} : sizT rk b t ≤ 120 ↔ (sub (full rk b) t).size ≤ 120 := by
 unfold sizT; split <;> omega
theorem clOk_mk {g : List Int} {c : List Lt} (h1 : c.length ≤ 8) (h2 : ∀ l ∈ c, own g l.a = 0 ∧ own g l.b = 0) : clOk g c = 0 := by
 unfold clOk
 rw [if_neg (by omega)]
 clear h1
 induction c with
 | nil => rfl
 | cons l c ih =>
  obtain ⟨h3, h4⟩ := h2 l (by simp)
  rw [litL, if_neg (by simp [h3]), if_neg (by simp [h4])]
  exact ih fun x hx => h2 x (by simp [hx])
theorem form_one {g : List Int} {t x : Tm} (h : form g t = 0) (hx : x ∈ parts t) : formOne g x.v x.f x.us.length = 0 := formAll_mem (by rw [formAll_parts]; exact h) x hx
theorem form_pure {g : List Int} {t : Tm} (h : form g t = 0) : Pure t := fun x hx => by
 have h1 := form_one h hx
 refine ⟨formOne_v h1, fun hv => ?_⟩
 unfold formOne at h1
 rw [if_pos (by omega)] at h1
 split at h1
 ·cases h1
 ·split at h1
  ·cases h1
  ·rename_i h3
   obtain ⟨v, f, us⟩ := x
   simp only [Tm.us, Tm.f, Tm.v] at *
   have e1 : f = 0 := Classical.byContradiction fun h => h3 (.inr h)
   have e2 : us = [] := List.eq_nil_of_length_eq_zero (by rcases Nat.eq_zero_or_pos us.length with h | h; exact h; exact absurd (.inl h) h3)
   rw [e1, e2]
theorem form_le {g : List Int} {t x : Tm} (h : form g t = 0) (hx : x ∈ parts t) (hv : x.v > 0) : x.v ≤ 1000 := by
 have h1 := form_one h hx
 unfold formOne at h1
 rw [if_pos (by omega)] at h1
 by_cases h2 : x.v < 1 ∨ x.v > 1000
 ·rw [if_pos h2] at h1; cases h1
 ·omega
theorem form_var {v : Int} (g : List Int) (h : 1 ≤ v ∧ v ≤ 1000) : form g (vt v) = 0 := by
 rw [show vt v = Tm.mk v 0 [] from rfl, form]
 simp only [formL]
 unfold formOne
 rw [if_pos (by omega), if_neg (by omega), if_neg (by simp)]
 simp
def FormC (g : List Int) (c : List Lt) : Prop := ∀ l ∈ c, form g l.a = 0 ∧ form g l.b = 0
theorem OwnC.form {g : List Int} {c : List Lt} (h : OwnC g c) : FormC g c := fun l hl => ⟨(own_form (h l hl).1).1, (own_form (h l hl).2).1⟩
theorem FormC.pure {g : List Int} {c : List Lt} (h : FormC g c) : PureC c := fun l hl => ⟨form_pure (h l hl).1, form_pure (h l hl).2⟩
theorem FormC.vars {g : List Int} {c : List Lt} (h : FormC g c) : ∀ v ∈ varsC c, 1 ≤ v ∧ v ≤ 1000 := fun v hv => by
 obtain ⟨h0, l, hl, x, hx, rfl⟩ := varsC_mem hv
 refine ⟨by omega, ?_⟩
 rcases hx with hx | hx
 ·exact form_le (h l hl).1 hx h0
 ·exact form_le (h l hl).2 hx h0
structure Bnd (g : List Int) (bs : Bs) : Prop where
 nd : (bs.map (·.1)).Nodup
 key : ∀ p ∈ bs, 1 ≤ p.1 ∧ p.1 ≤ 1000
 own : ∀ p ∈ bs, own g p.2 = 0
theorem Bnd.perm {g : List Int} {b b' : Bs} (h : Bnd g b) (hp : b.Perm b') : Bnd g b' :=
 ⟨((hp.map (·.1)).nodup_iff).1 h.nd, fun p hp' => h.key p (hp.mem_iff.2 hp'), fun p hp' => h.own p (hp.mem_iff.2 hp')⟩
theorem lookB_perm {b b' : Bs} (h : (b.map (·.1)).Nodup) (hp : b.Perm b') (v : Int) : lookB v b' = lookB v b := by
 have h' := ((hp.map (·.1)).nodup_iff).1 h
 cases hl : lookB v b with
 | some y =>
  obtain ⟨p, hm, h1, h2⟩ := lookB_mem hl
  rw [← h1, ← h2]
  exact lookB_of h' (hp.mem_iff.1 hm)
 | none =>
  refine lookB_not fun hm => ?_
  obtain ⟨p, hm, h1⟩ := List.mem_map.1 hm
  have := lookB_of h (hp.mem_iff.2 hm)
  rw [h1, hl] at this; cases this
theorem madeS_perm {b b' : Bs} (h : (b.map (·.1)).Nodup) (hp : b.Perm b') : madeS b' = madeS b := by
 funext x; unfold madeS; rw [lookB_perm h hp]
theorem apS_perm {b b' : Bs} (h : (b.map (·.1)).Nodup) (hp : b.Perm b') : ∀ l, apS b' l = apS b l
 | [] => rfl
 | x :: l => by rw [apS, apS, apS_perm h hp l]; unfold apOne; rw [lookB_perm h hp]
section
variable {g : List Int} {bs : Bs} (B : Bnd g bs)
include B
theorem Bnd.bound {v : Int} : (∃ y, sbOf bs v = y ∧ Go.Proofs.YtmeekpinkfpnhabGreat.own g y = 0) ∨ sbOf bs v = vt v := by
 unfold sbOf
 cases hl : lookB v bs with
 | some y =>
  obtain ⟨p, hp, h1, h2⟩ := lookB_mem hl
  exact .inl ⟨y, rfl, h2 ▸ B.own p hp⟩
 | none => exact .inr rfl
theorem Bnd.fm {t : Tm} (h : form g t = 0) : form g (sub (sbOf bs) t) = 0 := form_sub t h fun x hx hv => by
 rcases B.bound (v := x.v) with ⟨y, e, h2⟩ | e
 ·rw [e]; exact (own_form h2).1
 ·rw [e]; exact formV h hx hv
theorem Bnd.good (v : Int) (hv : v > 0) : Good (sbOf bs v) := by
 rcases B.bound (v := v) with ⟨y, e, h2⟩ | e
 ·rw [e]; exact own_good h2
 ·rw [e]
  intro x hx
  rw [parts_eq] at hx
  simp only [Tm.us, partsL, List.nil_append, List.mem_singleton] at hx
  subst hx
  exact ⟨by simp only [Tm.v]; omega, fun _ => rfl⟩
theorem Bnd.inR {sz : Int} {tb : List (List Int)} (hm : mdOk g sz tb = 0) (c : List Lt) : InR sz tb (sbOf bs) c := fun vs hvs v hv => by
 have h0 := (varsC_mem hv).1
 rcases B.bound (v := v) with ⟨y, e, h2⟩ | e
 ·rw [e]; exact valM_ok hm y (fine_own h2 hvs)
 ·rw [e, valM, if_pos h0]; exact hvs v
end
theorem pure_made {bs : Bs} {t : Tm} (h : Pure t) : mapM (madeS bs) t = sub (sbOf bs) t := by rw [made_apply bs t h.good, applyR_sub bs t h]
theorem pure_cap {bs : Bs} {t : Tm} (h : Pure t) : apS bs (pre t) > 120 ↔ (sub (sbOf bs) t).size > 120 := by
 have := apS_cap (bs := bs) h.good
 rw [applyR_sub bs t h] at this
 rw [apS_pre]
 omega
theorem made_map {bs : Bs} {c : List Lt} (h : PureC c) : c.map (mapLt (mapM (madeS bs))) = c.map (subLt (sbOf bs)) := mapLt_same fun l hl => ⟨pure_made (h l hl).1, pure_made (h l hl).2⟩
theorem made_own {g : List Int} {bs : Bs} {c : List Lt} (B : Bnd g bs) (h : FormC g c) (hz : ∀ t ∈ termsOf c, (sub (sbOf bs) t).size ≤ 120) : OwnC g (c.map (subLt (sbOf bs))) := fun l hl => by
 obtain ⟨x, hx, rfl⟩ := List.mem_map.1 hl
 exact ⟨own_mk (B.fm (h x hx).1) (hz _ (termsOf_in hx).1), own_mk (B.fm (h x hx).2) (hz _ (termsOf_in hx).2)⟩
theorem tidy_ok {g : List Int} {c : List Lt} (h : OwnC g c) (hl : (tidyR c).length ≤ 8) : clOk g (tidyR c) = 0 :=
 clOk_mk hl (tidy_own h fun v hv => FormC.vars (OwnC.form (g := g) fun l hl => h l (keepR_mem hl)) v hv)
def InfOk (g : List Int) (prem : List (List Lt)) (a : List Lt × Int) : Prop :=
 (a.2 ≠ 0 → a.1 = []) ∧ (a.2 = 0 → clOk g a.1 = 0 ∧ ∀ sz tb, mdOk g sz tb = 0 → (∀ c ∈ prem, HoldsA sz tb c) → HoldsA sz tb a.1)
theorem InfOk.err {g : List Int} {prem : List (List Lt)} {e : Int} (h : e ≠ 0) : InfOk g prem ([], e) := ⟨fun _ => rfl, fun h' => absurd h' h⟩
theorem size_move (far : Int) : ∀ t : Tm, Pure t → (sub (fun v => vt (v + far)) t).size = t.size := by
 refine Tm.ind fun t ih hp => ?_
 rw [sub_eq]
 by_cases h : t.v > 0
 ·rw [if_pos h, (hp t (parts_self t)).2 h]; simp [Tm.size, Tm.size.sizes]
 ·rw [if_neg h]
  have key : ∀ us : List Tm, (∀ u ∈ us, (sub (fun v => vt (v + far)) u).size = u.size) → Tm.size.sizes (subL (fun v => vt (v + far)) us) = Tm.size.sizes us := by
   intro us
   induction us with
   | nil => intro _; rfl
   | cons u us ih2 => intro hu; rw [subL, Tm.size.sizes, Tm.size.sizes, hu u (by simp), ih2 fun w hw => hu w (by simp [hw])]
  have e := key t.us fun u hu => ih u hu (hp.kid hu)
  obtain ⟨v, f, us⟩ := t
  simp only [Tm.us, Tm.v, Tm.f] at e ⊢
  rw [Tm.size, Tm.size, e]
def shiftB (far : Int) (V : List Int) : Bs := V.map fun v => (v, .mk (v + far) 0 [])
theorem shift_look {far : Int} {V : List Int} (hn : V.Nodup) {v : Int} (hv : v ∈ V) : sbOf (shiftB far V) v = vt (v + far) := by
 have h1 : ((shiftB far V).map (·.1)).Nodup := by
  have e : (shiftB far V).map (·.1) = V := by unfold shiftB; rw [List.map_map]; exact List.map_id' V
  rw [e]; exact hn
 have := lookB_of h1 (p := (v, .mk (v + far) 0 [])) (List.mem_map.2 ⟨v, hv, rfl⟩)
 unfold sbOf
 simp only at this
 rw [this]; rfl
def standV (c : List Lt) : List Int := addVs [] ((termsOf c).flatMap pre)
theorem stand_vars {g : List Int} {c : List Lt} (h : OwnC g c) : standV c = varsC c := stands_cl h
theorem moved_map {g : List Int} {c : List Lt} {far : Int} (h : OwnC g c) : c.map (mapLt (mapM (madeS (shiftB far (standV c))))) = c.map (subLt fun v => vt (v + far)) := by
 rw [made_map h.pure, stand_vars h]
 refine mapLt_same fun l hl => ⟨sub_congr _ fun x hx hv => shift_look (varsC_nodup c) (lit_vars hl x (.inl hx) hv), sub_congr _ fun x hx hv => shift_look (varsC_nodup c) (lit_vars hl x (.inr hx) hv)⟩
theorem moved_own {g : List Int} {c : List Lt} {far : Int} (h : OwnC g c) (hf : 0 ≤ far) (hv : ∀ v ∈ standV c, v + far ≤ 1000) : OwnC g (c.map (subLt fun v => vt (v + far))) := by
 rw [stand_vars h] at hv
 have key : ∀ l ∈ c, ∀ t, (∀ x ∈ parts t, x.v > 0 → x.v ∈ varsC c) → own g t = 0 → own g (sub (fun v => vt (v + far)) t) = 0 := fun l hl t hvs ho => by
  refine own_mk (form_sub t (own_form ho).1 fun x hx h0 => form_var g ?_) (by rw [size_move far t (own_pure ho)]; exact own_sz ho)
  have := hv _ (hvs x hx h0)
  omega
 intro l hl
 obtain ⟨x, hx, rfl⟩ := List.mem_map.1 hl
 exact ⟨key x hx _ (fun y hy h0 => lit_vars hx y (.inl hy) h0) (h x hx).1, key x hx _ (fun y hy h0 => lit_vars hx y (.inr hy) h0) (h x hx).2⟩
theorem sideG_own {g : List Int} {c : List Lt} (h : OwnC g c) {i : Nat} (hi : i < c.length) (tr : Bool) : own g (sideG c[i] tr).1 = 0 ∧ own g (sideG c[i] tr).2 = 0 := by
 have := h _ (List.getElem_mem hi)
 unfold sideG
 cases tr with
 | true => exact ⟨this.2, this.1⟩
 | false => exact this
theorem form_erase {g : List Int} {c : List Lt} (h : FormC g c) (i : Nat) : FormC g (c.eraseIdx i) := fun l hl => h l (List.mem_of_mem_eraseIdx hl)
theorem form_app {g : List Int} {c d : List Lt} (h : FormC g c) (h' : FormC g d) : FormC g (c ++ d) := fun l hl => by
 rcases List.mem_append.1 hl with hl | hl
 ·exact h l hl
 ·exact h' l hl
theorem form_laid {g : List Int} {l : Lt} {tr : Bool} {p : List Int} {r x : Tm} (h1 : form g (sideG l tr).1 = 0) (h2 : form g (sideG l tr).2 = 0) (hr : form g r = 0) (hx : atG (sideG l tr).1 p = some x) : form g (laidL l tr p r).a = 0 ∧ form g (laidL l tr p r).b = 0 := by
 have := lay_form g p _ r x hx h1 hr
 unfold laidL
 cases tr with
 | true => exact ⟨h2, this⟩
 | false => exact ⟨this, h2⟩
theorem form_set {g : List Int} {c : List Lt} (h : FormC g c) (i : Nat) {x : Lt} (hx : form g x.a = 0 ∧ form g x.b = 0) : FormC g (c.set i x) := fun l hl => by
 rcases List.mem_or_eq_of_mem_set hl with hl | rfl
 ·exact h l hl
 ·exact hx
end Go.Proofs.YtmeekpinkfpnhabGreat
namespace Go.Proofs.YtmeekpinkfpnhabGreat
open Go.RowKit
theorem thru_sb {g : List Int} {s t : Tm} {n : Nat} {b : Bs} {rk : Int → Nat} (U : Uni g s t n b rk) (x : Tm) : sub (sbOf (thruB (n + 1) b)) x = sub (full rk b) x := by
 rw [← U.sb]
 exact sub_sbOf (fun v _ => (lookB_sort U.nd' v).symm) x
theorem both_uni {g : List Int} {x y : Tm} (hx : own g x = 0) {n : Nat} {b : Bs} {rk : Int → Nat} (U : Uni g x y n b rk) (hgr : greatB (sizT rk b) x b = false) :
  ∃ bs : Bs, Bnd g bs ∧ sub (sbOf bs) x = sub (sbOf bs) y ∧ ∀ n', Tri Tryz.prog 95 [.d (tmDV x), .d (tmDV y)] (bagE n' (bsE bs) (.tup [.map n', iA 0])) := by
 have hpure : ∀ v y, lookB v b = some y → Pure y := fun v y h => U.pure h
 have hpos : ∀ v y, lookB v b = some y → v > 0 := fun v y h => U.pos h
 have hl : b.length ≤ 1000 := by
  have := nodup_le 1000 (b.map (·.1)) U.inv.nd fun v hv => by
   obtain ⟨p, hp, rfl⟩ := List.mem_map.1 hv
   exact U.keys hp
  rwa [List.length_map] at this
 have hsz : ∀ x, Pure x → dep rk x ≤ n → ∀ kn, (KnG rk b kn ∧ KnOk kn) → ∃ kn', (KnG rk b kn' ∧ KnOk kn') ∧ sizeF (n + 1) b x kn = some (sizT rk b x, kn') := fun x hx hd kn hk => by
  obtain ⟨kn', k1, k2⟩ := size_has U.hrk hpure hpos n x kn hx hd hk.1
  exact ⟨kn', ⟨k2, (sizeF_bd b (n + 1) x kn _ hk.2 k1).2⟩, k1⟩
 have hK0 : KnG rk b [] ∧ KnOk [] := ⟨fun v s _ h => (by cases h), fun p hp => (by cases hp)⟩
 have hKb : ∀ kn, (KnG rk b kn ∧ KnOk kn) → KnOk kn := fun kn h => h.2
 have hbp : ∀ p ∈ b, Pure p.2 := fun p hp => own_pure (U.inv.val p hp).1
 have hz : ∀ p ∈ b, (sub (full rk b) p.2).size ≤ 120 := by
  unfold greatB at hgr
  rw [Bool.or_eq_false_iff, List.any_eq_false] at hgr
  exact fun p hp => size_le.1 (by have := hgr.2 p hp; simp at this; omega)
 have hB : ∀ n', Tri Tryz.prog 118 [.d (tmDV x), .d (tmDV y)] (bagE n' (bsE (thruB (n + 1) b)) (.tup [.map n', bA true, iA 0])) := fun n' =>
  bothT_tri (n + 1) x y b U.one (by omega) (sizT rk b) (fun kn => KnG rk b kn ∧ KnOk kn) hK0 hKb (hsz x (own_pure hx) U.ds) (fun p hp => hsz p.2 (hbp p hp) (U.db p hp)) U.inv.nd (fun p hp => by have := own_sz (U.inv.val p hp).1; omega) (n + 1) (fun p hp => U.ok hp) hgr n'
 refine ⟨thruB (n + 1) b, ⟨U.nd', fun q hq => ?_, fun q hq => ?_⟩, ?_, ifBothT_tri x y _ hB⟩
 ·obtain ⟨p, hp, rfl⟩ := List.mem_map.1 hq; have := U.keys hp; exact this
 ·obtain ⟨p, hp, rfl⟩ := List.mem_map.1 hq
  simp only
  rw [U.thru hp]
  have h1 := (U.inv.val p hp).1
  exact own_mk (U.fm (own_form h1).1 (own_pure h1)) (hz p hp)
 ·rw [thru_sb U, thru_sb U, U.same]
theorem both_any {g : List Int} {x y : Tm} (hx : own g x = 0) (hy : own g y = 0) : (∃ e : Int, e ≠ 0 ∧ Tri Tryz.prog 95 [.d (tmDV x), .d (tmDV y)] (pure' (.tup [.d (.v (.map none)), iA e]))) ∨
  ∃ bs : Bs, Bnd g bs ∧ sub (sbOf bs) x = sub (sbOf bs) y ∧ ∀ n', Tri Tryz.prog 95 [.d (tmDV x), .d (tmDV y)] (bagE n' (bsE bs) (.tup [.map n', iA 0])) := by
 rcases unify_plain hx hy with ⟨n, b, h1, h2⟩ | ⟨n, b, rk, U⟩
 ·exact .inl ⟨4, by decide, ifBothN_tri x y 0 (bothF_tri n x y b h1)⟩
 ·
  have hpure : ∀ v y, lookB v b = some y → Pure y := fun v y h => U.pure h
  have hpos : ∀ v y, lookB v b = some y → v > 0 := fun v y h => U.pos h
  have hl : b.length ≤ 1000 := by
   have := nodup_le 1000 (b.map (·.1)) U.inv.nd fun v hv => by
    obtain ⟨p, hp, rfl⟩ := List.mem_map.1 hv
    exact U.keys hp
   rwa [List.length_map] at this
  have hsz : ∀ x, Pure x → dep rk x ≤ n → ∀ kn, (KnG rk b kn ∧ KnOk kn) → ∃ kn', (KnG rk b kn' ∧ KnOk kn') ∧ sizeF (n + 1) b x kn = some (sizT rk b x, kn') := fun x hx hd kn hk => by
   obtain ⟨kn', k1, k2⟩ := size_has U.hrk hpure hpos n x kn hx hd hk.1
   exact ⟨kn', ⟨k2, (sizeF_bd b (n + 1) x kn _ hk.2 k1).2⟩, k1⟩
  have hK0 : KnG rk b [] ∧ KnOk [] := ⟨fun v s _ h => (by cases h), fun p hp => (by cases hp)⟩
  have hKb : ∀ kn, (KnG rk b kn ∧ KnOk kn) → KnOk kn := fun kn h => h.2
  have hbp : ∀ p ∈ b, Pure p.2 := fun p hp => own_pure (U.inv.val p hp).1
  cases hgr : greatB (sizT rk b) x b with
  | true =>
   exact .inl ⟨2, by decide, ifBothN_tri x y 2 (bothM_tri (n + 1) x y b U.one (by omega) (sizT rk b) (fun kn => KnG rk b kn ∧ KnOk kn) hK0 hKb (hsz x (own_pure hx) U.ds) (fun p hp => hsz p.2 (hbp p hp) (U.db p hp)) hgr)⟩
  | false => exact .inr (both_uni hx U hgr)
theorem preL_flat (us : List Tm) : preL us = us.flatMap pre := by
 induction us with
 | nil => rfl
 | cons x xs ih => rw [preL, List.flatMap_cons, ih]
def stO (b m : Nm) (s : List Int) (x : Nm) : Ob := if x = b then .cells 22 [.own m (s.map iD)] else .perm 3 s.length
def stStep (x : Tm) (s : List Int) : Bool × List Int := (true, addV s x)
mutual
theorem walk_stands : ∀ (t : Tm) (s : List Int), walkS stStep t s = (true, addVs s (pre t))
 | .mk v f us, s => by
  rw [walkS, pre]
  simp only [stStep, if_true]
  exact walkL_stands us (addV s (.mk v f us))
theorem walkL_stands : ∀ (us : List Tm) (s : List Int), walkL stStep us s = (true, addVs s (preL us))
 | [], s => rfl
 | x :: xs, s => by
  rw [walkL, preL, addVs_append, walk_stands x s]
  simp only [if_true]
  exact walkL_stands xs _
end
theorem stO_b (b m : Nm) (s : List Int) : stO b m s b = .cells 22 [.own m (s.map iD)] := by simp [stO]
theorem stO_m {b m : Nm} (h : b ≠ m) (s : List Int) : stO b m s m = .perm 3 s.length := by simp [stO, Ne.symm h]
theorem stO_cl (b m : Nm) (s : List Int) (k : Nat) (h : ∀ n ∈ [b, m], n.1 < k) : Cl k [b, m] (stO b m s) := by
 intro n _ x hx
 unfold stO at hx
 split at hx
 ·simp [Ob.names, namesL, AV.names] at hx; rw [hx]; exact h m (by simp)
 ·simp [Ob.names] at hx
set_option maxRecDepth 20000 in
theorem stands1_tri {b m : Nm} (hbm : b ≠ m) (s : List Int) (hs : s.length ≤ 16000000) (pl : List Int) (x : Tm) : Tri Tryz.prog 90 [.d (.sl (pl.map iD)), .d (tmDV x), .ptr b 0] (stE [b, m] (stO b m s) (stO b m (addV s x)) (bA true)) := by
 refine aES Tryz.func90 rfl Tryz.ntmps90 fun w0 h0 k hag => ?_
 obtain ⟨hb, eb⟩ := hag.get b (by simp)
 obtain ⟨hm, em⟩ := hag.get m (by simp)
 rw [stO_b] at eb
 rw [stO_m hbm] at em
 have nb := nmne hb
 have nm := nmne hm
 have h1 : (b = m) = False := eq_false hbm
 have h2 : (m = b) = False := eq_false hbm.symm
 cases hv : decide (x.v > 0) with
 | false =>
  have hadd : addV s x = s := by unfold addV; rw [if_neg (by simp at hv; omega)]
  repeat' (first | refine aQ fun K hK => ?_ | ((first | refine aK fun R hR => ?_ | refine aD mixed fun R hR => ?_); simp only [go_sem, eb, em, nb, nm, h1, h2, hv]) | ((first | (refine hR _ ?_; clear hR R) | refine aZ rfl ?_); try refine aP ?_) | ((repeat (fail_if_success refine hK _ ?_); clear hK K); refine hK _ ?_; clear hK K) | refine aT ?_ | refine aF ?_ | refine aB ?_ | refine aN ?_ | fail)
  refine ret_st (okA Tryz.ntmps90 Tryz.results90) (by simp only [resA, resV, Tryz.results90, go_sem]; first | exact .dat rfl | exact Co.t2 (.dat rfl) (.dat rfl) | exact Co.t3 (.dat rfl) (.dat rfl) (.dat rfl)) ?_ ?_ ?_
  ·rw [hadd]; exact (by repeat (first | assumption | exact Ag.stN (by assumption) _ _ | refine Ag.updk ?_ (by omega) _))
  ·exact (by repeat (first | exact FrN.rfl' _ _ _ | assumption | refine FrN.updk ?_ (by omega) _ | refine FrN.stH ?_ _))
  ·exact stO_cl b m _ k fun n hn => (hag.get n hn).1
 | true =>
  cases hc : s.contains x.v with
  | true =>
   have hadd : addV s x = s := by unfold addV; rw [if_neg]; rintro ⟨_, h⟩; rw [hc] at h; cases h
   repeat' (first | refine aQ fun K hK => ?_ | ((first | refine aK fun R hR => ?_ | refine aD mixed fun R hR => ?_); simp only [go_sem, eb, em, nb, nm, h1, h2, hv, hc]) | ((first | (refine hR _ ?_; clear hR R) | refine aZ rfl ?_); try refine aP ?_) | ((repeat (fail_if_success refine hK _ ?_); clear hK K); refine hK _ ?_; clear hK K) | refine aT ?_ | refine aF ?_ | refine aB ?_ | ((first | refine CallK.pure (enter91) (contains_tri s (by omega) x.v) ?_ ?_ | refine CallD.pure (enter91) (contains_tri s (by omega) x.v) ?_ ?_); (focus exact aC); simp only [go_sem, eb, em, nb, nm, h1, h2, hv, hc]) | refine aN ?_ | fail)
   refine ret_st (okA Tryz.ntmps90 Tryz.results90) (by simp only [resA, resV, Tryz.results90, go_sem]; first | exact .dat rfl | exact Co.t2 (.dat rfl) (.dat rfl) | exact Co.t3 (.dat rfl) (.dat rfl) (.dat rfl)) ?_ ?_ ?_
   ·rw [hadd]; exact (by repeat (first | assumption | exact Ag.stN (by assumption) _ _ | refine Ag.updk ?_ (by omega) _))
   ·exact (by repeat (first | exact FrN.rfl' _ _ _ | assumption | refine FrN.updk ?_ (by omega) _ | refine FrN.stH ?_ _))
   ·exact stO_cl b m _ k fun n hn => (hag.get n hn).1
  | false =>
   have hadd : addV s x = s ++ [x.v] := by unfold addV; rw [if_pos ⟨by simpa using hv, hc⟩]
   repeat' (first | refine aQ fun K hK => ?_ | ((first | refine aK fun R hR => ?_ | refine aD mixed fun R hR => ?_); simp only [go_sem, eb, em, nb, nm, h1, h2, hv, hc, List.length_map]) | ((first | (refine hR _ ?_; clear hR R) | refine aZ rfl ?_); try refine aP ?_) | ((repeat (fail_if_success refine hK _ ?_); clear hK K); refine hK _ ?_; clear hK K) | refine aT ?_ | refine aF ?_ | refine aB ?_ | ((first | refine CallK.pure (enter91) (contains_tri s (by omega) x.v) ?_ ?_ | refine CallD.pure (enter91) (contains_tri s (by omega) x.v) ?_ ?_); (focus exact aC); simp only [go_sem, eb, em, nb, nm, h1, h2, hv, hc, List.length_map]) | refine aN ?_ | fail)
   refine ret_st (okA Tryz.ntmps90 Tryz.results90) (by simp only [resA, resV, Tryz.results90, go_sem]; first | exact .dat rfl | exact Co.t2 (.dat rfl) (.dat rfl) | exact Co.t3 (.dat rfl) (.dat rfl) (.dat rfl)) ?_ ?_ ?_
   ·refine ⟨fun n hn => ⟨(hag.get n hn).1, ?_⟩⟩
    simp only [List.mem_cons, List.not_mem_nil, or_false] at hn
    rcases hn with rfl | rfl
    ·rw [stO_b, hadd]; simp only [go_sem, nb, nm, h1, h2]; simp
    ·rw [stO_m hbm, hadd]; simp only [go_sem, nb, nm, h1, h2]; simp
   ·refine FrN.updn (FrN.updn (by repeat (first | exact FrN.rfl' _ _ _ | assumption | refine FrN.updk ?_ (by omega) _ | refine FrN.stH ?_ _)) (by simp) _) (by simp) _
   ·exact stO_cl b m _ k fun n hn => (hag.get n hn).1
set_option maxRecDepth 20000 in
theorem stands_new (l : List Tm) (hl : (Tm.size.sizes l) ≤ 4000000) (n' : Nm) : Tri Tryz.prog 52 [.d (.sl (l.map tmDV))] (newEff 3 n' ((addVs [] (l.flatMap pre)).map iD)) := by
 refine aE Tryz.func52 rfl Tryz.ntmps52 fun w0 h0 k hrd hwr => ?_
 have hn' : n'.1 < k := hwr _ (List.mem_cons_self ..)
 have h0' : h0 n' = none := hrd _ (List.mem_cons_self ..)
 repeat' (first | refine awp_ghost (ghost_box (b := (k + 1, 0)) (e := 3) (e' := 22) (upd_self _ _ _)) ?_ | refine aQ fun K hK => ?_ | ((first | refine aK fun R hR => ?_ | refine aD mixed fun R hR => ?_); simp only [go_sem]) | ((first | (refine hR _ ?_; clear hR R) | refine aZ rfl ?_); try refine aP ?_) | ((repeat (fail_if_success refine hK _ ?_); clear hK K); refine hK _ ?_; clear hK K) | refine aT ?_ | refine aF ?_ | refine aB ?_ | refine aN ?_ | fail)
 obtain ⟨b, hb⟩ : ∃ b : Nm, b = (k + 1, 0) := ⟨_, rfl⟩
 obtain ⟨m, hm⟩ : ∃ m : Nm, m = (k + 1 + 1, 0) := ⟨_, rfl⟩
 have hbm : b ≠ m := by rw [hb, hm]; simp
 refine awp_loop (fun σ => ∃ i : Nat, σ.t 3 = .ptr b 0 ∧ σ.t 6 = .d (.sl (l.map tmDV)) ∧ σ.t 7 = iA l.length ∧ σ.t 8 = iA i ∧ Ag (k + 1 + 1 + 1) [b, m] (stO b m (addVs [] ((l.take i).flatMap pre))) σ.h ∧ Fr k h0 σ.h ∧ k + 1 + 1 + 1 ≤ σ.k ∧ i ≤ l.length) (fun σ => l.length - (intOf' (σ.t 8)).toNat) ?_ ?_
 ·refine ⟨0, ?_⟩
  simp only [go_sem, hb]
  and_intros; all_goals try (first | rfl | omega | assumption | exact anA)
  refine ⟨fun n hn => ?_⟩
  simp only [List.mem_cons, List.not_mem_nil, or_false] at hn
  rcases hn with h | h
  ·rw [h, stO_b, hm]
   refine ⟨by simp only; omega, ?_⟩
   simp only [go_sem, ]
   rfl
  ·rw [h, stO_m (hb ▸ hbm), hm]
   refine ⟨by simp only; omega, ?_⟩
   simp only [go_sem, ]
   rfl
 ·rintro σ ⟨i, s3, s6, s7, s8, hA, hF, hk, hi⟩
  have hll := Tm.sizes_len l
  rcases Nat.lt_or_ge i l.length with hlt | hge
  ·have hz : (i : Int) < (l.length : Int) := by omega
   have e1 : (l.map tmDV).getD i default = tmDV l[i] := nth_map tmDV hlt _
   have hsz := Tm.sizes_at l i hlt
   have hcl := stO_cl b m
   have hlen : (addVs [] ((l.take i).flatMap pre)).length ≤ 4000000 := by
    have h1 := addVs_len ((l.take i).flatMap pre) []
    rw [← preL_flat, preL_len] at h1
    have h2 := sizes_take l i
    rw [← preL_flat]
    simp only [List.length_nil] at h1
    omega
   have hw := walk_tri (stO b m) [b, m] 90 [.ptr b 0] stStep (fun n s => s.length + n ≤ 16000000) (stO_cl b m) ((enter90)) (by simp) l[i] (fun x _ n s hs => ⟨by have := addV_len s x; simp only [stStep]; omega, fun pl => stands1_tri hbm s (by omega) pl x⟩) 0 (addVs [] ((l.take i).flatMap pre)) (by omega) (by omega)
   rw [walk_stands, ← addVs_append] at hw
   have ht : (l.take i).flatMap pre ++ pre l[i] = (l.take (i + 1)).flatMap pre := by rw [List.take_succ_eq_append_getElem hlt, List.flatMap_append]; simp
   rw [ht] at hw
   have hN1 := notN hA (k' := σ.k) (by omega)
   repeat' (first | refine aQ fun K hK => ?_ | ((first | refine aK fun R hR => ?_ | refine aD mixed fun R hR => ?_); simp only [go_sem, s3, s6, s7, s8, hz, e1, hN1, Int.toNat_natCast]) | ((first | (refine hR _ ?_; clear hR R) | refine aZ rfl ?_); try refine aP ?_) | ((repeat (fail_if_success refine hK _ ?_); clear hK K); refine hK _ ?_; clear hK K) | refine aT ?_ | refine aF ?_ | refine aB ?_ | ((first | refine CallK.chg (enter89) (hw) ?_ (by assumption) frA ?_ | refine CallD.chg (enter89) (hw) ?_ (by assumption) frA (by assumption) ?_); (focus exact aC); simp only [go_sem, s3, s6, s7, s8, hz, e1, hN1, Int.toNat_natCast]) | refine aN ?_ | fail)
   refine ⟨⟨i + 1, ?_⟩, ?_⟩
   ·simp only [go_sem, s3, s6, s7, s8]
    and_intros; all_goals try (first | rfl | omega | assumption | exact anA)
    ·exact Ag.stN (fun n hn => (hA.get n hn).1) _ _
    ·exact Fr.stH frA _ (fun n hn => by
      simp only [List.mem_cons, List.not_mem_nil, or_false] at hn
      rcases hn with h | h <;> rw [h] <;> (first | rw [hb] | rw [hm]) <;> simp only <;> omega)
   ·simp only [go_sem, s8]; omega
  ·have hz : ¬ ((i : Int) < (l.length : Int)) := by omega
   obtain rfl : i = l.length := by omega
   rw [List.take_length] at hA
   have hbg := (hA.get b (by simp)).2
   rw [stO_b] at hbg
   have hmg := (hA.get m (by simp)).2
   rw [stO_m hbm] at hmg
   subst hm
   repeat' (first | refine aQ fun K hK => ?_ | ((first | refine aK fun R hR => ?_ | refine aD mixed fun R hR => ?_); simp only [go_sem, s3, s7, s8, hz, hbg]) | ((first | (refine hR _ ?_; clear hR R) | refine aZ rfl ?_); try refine aP ?_) | ((repeat (fail_if_success refine hK _ ?_); clear hK K); refine hK _ ?_; clear hK K) | refine aT ?_ | refine aF ?_ | refine aB ?_ | refine aN ?_ | fail)
   refine ret_new (by simp only [Tryz.results52, resOkL, resOk, Tryz.ntmps52, List.toList_toArray]; first | decide | (simp only [go_sem, hmg]; done) | (simp only [go_sem, hmg]; and_intros <;> first | omega | rfl | decide)) (by simp only [resA, resV, Tryz.results52, go_sem, hmg]; try rfl) ?_ hn' h0' ?_ frA <;> simp only [go_sem, List.length_map, hmg] <;> first | rfl | omega
theorem stands_tri (l : List Tm) (hl : (Tm.size.sizes l) ≤ 4000000) : Tri Tryz.prog 52 [.d (.sl (l.map tmDV))] (pure' (.d (.sl ((addVs [] (l.flatMap pre)).map iD)))) := Tri.data fun n' => stands_new l hl n'
theorem termsOf_take {c : List Lt} {i : Nat} (hi : i < c.length) : termsOf (c.take (i + 1)) = termsOf (c.take i) ++ [c[i].a, c[i].b] := by
 rw [List.take_succ_eq_append_getElem hi, termsOf, List.flatMap_append]; rfl
theorem termsOf_len (c : List Lt) : (termsOf c).length = 2 * c.length := by
 induction c with
 | nil => rfl
 | cons x c ih => simp only [termsOf, List.flatMap_cons, List.length_append, List.length_cons, List.length_nil] at ih ⊢; omega
set_option maxRecDepth 20000 in
theorem terms_new (c : List Lt) (hc : c.length ≤ 4000000) (n' : Nm) : Tri Tryz.prog 53 [.d (clDV c)] (newEff 63 n' ((termsOf c).map tmDV)) := by
 refine aE Tryz.func53 rfl Tryz.ntmps53 fun w0 h0 k hrd hwr => ?_
 have hn' : n'.1 < k := hwr _ (List.mem_cons_self ..)
 have h0' : h0 n' = none := hrd _ (List.mem_cons_self ..)
 repeat' (first | refine awp_ghost (ghost_nil (i := 3) (e := 63) rfl) ?_ | refine aQ fun K hK => ?_ | ((first | refine aK fun R hR => ?_ | refine aD mixed fun R hR => ?_); simp only [go_sem]) | ((first | (refine hR _ ?_; clear hR R) | refine aZ rfl ?_); try refine aP ?_) | ((repeat (fail_if_success refine hK _ ?_); clear hK K); refine hK _ ?_; clear hK K) | refine aT ?_ | refine aF ?_ | refine aB ?_ | refine aN ?_ | fail)
 refine awp_loop (fun σ => ∃ i : Nat, σ.t 3 = .own (k + 1 + 1, 0) ((termsOf (c.take i)).map tmDV) ∧ σ.t 6 = .d (clDV c) ∧ σ.t 7 = iA c.length ∧ σ.t 8 = iA i ∧ σ.h (k + 1 + 1, 0) = some (.perm 63 (termsOf (c.take i)).length) ∧ Fr k h0 σ.h ∧ k + 1 + 1 + 1 ≤ σ.k ∧ i ≤ c.length) (fun σ => c.length - (intOf' (σ.t 8)).toNat) ?_ ?_
 ·refine ⟨0, ?_⟩
  simp only [go_sem, List.take_zero]
  and_intros; all_goals try (first | rfl | omega | assumption | exact anA)
 ·rintro σ ⟨i, s3, s6, s7, s8, sh, hF, hk, hi⟩
  have ht := termsOf_len (c.take i)
  rw [List.length_take] at ht
  have hne := ltne (show k + 1 + 1 < σ.k by omega)
  rcases Nat.lt_or_ge i c.length with hlt | hge
  ·have hz : (i : Int) < (c.length : Int) := by omega
   have e1 : (c.map ltDV).getD i default = ltDV c[i] := nth_map ltDV hlt _
   have htk : (termsOf (c.take i)).map tmDV ++ [tmDV c[i].a, tmDV c[i].b] = (termsOf (c.take (i + 1))).map tmDV := by rw [termsOf_take hlt]; simp
   repeat' (first | refine aQ fun K hK => ?_ | ((first | refine aK fun R hR => ?_ | refine aD mixed fun R hR => ?_); simp only [go_sem, s3, s6, s7, s8, sh, hz, e1, hne, List.length_map, Int.toNat_natCast]) | ((first | (refine hR _ ?_; clear hR R) | refine aZ rfl ?_); try refine aP ?_) | ((repeat (fail_if_success refine hK _ ?_); clear hK K); refine hK _ ?_; clear hK K) | refine aT ?_ | refine aF ?_ | refine aB ?_ | refine aN ?_ | fail)
   refine ⟨⟨i + 1, ?_⟩, ?_⟩
   rotate_left
   ·simp only [go_sem, s3, s6, s7, s8, sh, hne, htk, List.length_map]; omega
   simp only [go_sem, s3, s6, s7, s8, sh, hne, htk, List.length_map]
   and_intros; all_goals try (first | rfl | omega | assumption | exact anA)
  ·have hz : ¬ ((i : Int) < (c.length : Int)) := by omega
   obtain rfl : i = c.length := by omega
   rw [List.take_length] at s3 sh
   repeat' (first | refine aQ fun K hK => ?_ | ((first | refine aK fun R hR => ?_ | refine aD mixed fun R hR => ?_); simp only [go_sem, s3, s7, s8, sh, hz, hne]) | ((first | (refine hR _ ?_; clear hR R) | refine aZ rfl ?_); try refine aP ?_) | ((repeat (fail_if_success refine hK _ ?_); clear hK K); refine hK _ ?_; clear hK K) | refine aT ?_ | refine aF ?_ | refine aB ?_ | refine aN ?_ | fail)
   refine ret_new (by simp only [Tryz.results53, resOkL, resOk, Tryz.ntmps53, List.toList_toArray]; first | decide | (simp only [go_sem, hne, sh]; done) | (simp only [go_sem, hne, sh]; and_intros <;> first | omega | rfl | decide)) (by simp only [resA, resV, Tryz.results53, go_sem, hne, sh]; try rfl) ?_ hn' h0' ?_ frA <;> simp only [go_sem, List.length_map, hne, sh] <;> first | rfl | omega
theorem terms_tri (c : List Lt) (hc : c.length ≤ 4000000) : Tri Tryz.prog 53 [.d (clDV c)] (pure' (.d (.sl ((termsOf c).map tmDV)))) := Tri.data fun n' => terms_new c hc n'
end Go.Proofs.YtmeekpinkfpnhabGreat
