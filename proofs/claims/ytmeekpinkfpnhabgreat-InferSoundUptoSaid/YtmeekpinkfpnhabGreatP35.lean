/- infer. -/
import Derived.Test.YtmeekpinkfpnhabGreatP17
import Derived.Test.YtmeekpinkfpnhabGreatP24
import Derived.Test.YtmeekpinkfpnhabGreatP34
set_option linter.all false
namespace Go.Proofs.YtmeekpinkfpnhabGreat
open Go.RowKit
structure RawOk (g : List Int) (l : List (List Lt)) (i : Inf) (a : List Lt × Int) : Prop where
 err : a.2 ≠ 0 → a.1 = []
 ok : a.2 = 0 → clOk g a.1 = 0 ∧ (∃ n : Nat, i.left = n ∧ n < l.length) ∧ (i.kind = 3 → ∃ m : Nat, i.right = m ∧ m < l.length)
 holds : a.2 = 0 → ∀ sz tb, mdOk g sz tb = 0 → HoldsA sz tb (clAt l i.left) → (i.kind = 3 → HoldsA sz tb (clAt l i.right)) → HoldsA sz tb a.1
theorem RawOk.no {g : List Int} {l : List (List Lt)} {i : Inf} {e : Int} (h : e ≠ 0) : RawOk g l i ([], e) := ⟨fun _ => rfl, fun h' => absurd h' h, fun h' => absurd h' h⟩
set_option maxHeartbeats 8000000 in
set_option maxRecDepth 20000 in
theorem raw_any {g : List Int} (l : List (List Lt)) (i : Inf) (hl : l.length ≤ 4000000) (hc : ∀ c ∈ l, clOk g c = 0) (hp : i.place.length ≤ 4000000) :
  ∃ a : List Lt × Int, Tri Tryz.prog 24 [.d (.sl (l.map clDV)), .d (ifDV i)] (pure' (.tup [.d (clDV a.1), iA a.2])) ∧ RawOk g l i a := by
 have hown : ∀ c ∈ l, OwnC g c := fun c h => (clOk_all (hc c h)).2
 have hlen : ∀ c ∈ l, c.length ≤ 8 := fun c h => (clOk_all (hc c h)).1
 have hN := named_tri l i hl (fun c h => by have := hlen c h; omega) (fun c h x hx => by have := own_sz (hown c h x hx).1; have := own_sz (hown c h x hx).2; omega) hp
 have hO := nothing_tri i
 obtain ⟨kind, left, right, leftAt, rightAt, lt, rt, place⟩ := i
 simp only at hp
 cases a1 : decide (kind < 1) with
 | true =>
  refine ⟨([], 6), ?_, .no (by decide)⟩
  refine aE Tryz.func24 rfl Tryz.ntmps24 fun w0 h0 k hrd hwr => ?_
  repeat' (first | refine aQ fun K hK => ?_ | ((first | refine aK fun R hR => ?_ | refine aD mixed fun R hR => ?_); simp only [go_sem, a1]) | ((first | (refine hR _ ?_; clear hR R) | refine aZ rfl ?_); try refine aP ?_) | ((repeat (fail_if_success refine hK _ ?_); clear hK K); refine hK _ ?_; clear hK K) | refine aT ?_ | refine aF ?_ | refine aB ?_ | refine aN ?_ | fail)
  (first | refine ret_pure ?_ ?_ ?_ | refine ret_ro ?_ ?_ ?_); focus exact (okA Tryz.ntmps24 Tryz.results24)
  rotate_left; focus exact frT
  simp only [resA, resV, Tryz.results24, go_sem]
  all_goals try exact coA
 | false =>
  cases a2 : decide (kind > 3) with
  | true =>
   refine ⟨([], 6), ?_, .no (by decide)⟩
   refine aE Tryz.func24 rfl Tryz.ntmps24 fun w0 h0 k hrd hwr => ?_
   repeat' (first | refine aQ fun K hK => ?_ | ((first | refine aK fun R hR => ?_ | refine aD mixed fun R hR => ?_); simp only [go_sem, a1, a2]) | ((first | (refine hR _ ?_; clear hR R) | refine aZ rfl ?_); try refine aP ?_) | ((repeat (fail_if_success refine hK _ ?_); clear hK K); refine hK _ ?_; clear hK K) | refine aT ?_ | refine aF ?_ | refine aB ?_ | refine aN ?_ | fail)
   (first | refine ret_pure ?_ ?_ ?_ | refine ret_ro ?_ ?_ ?_); focus exact (okA Tryz.ntmps24 Tryz.results24)
   rotate_left; focus exact frT
   simp only [resA, resV, Tryz.results24, go_sem]
   all_goals try exact coA
  | false =>
   cases a3 : namedB l ⟨kind, left, right, leftAt, rightAt, lt, rt, place⟩ with
   | false =>
    rw [a3] at hN
    refine ⟨([], 5), ?_, .no (by decide)⟩
    refine aE Tryz.func24 rfl Tryz.ntmps24 fun w0 h0 k hrd hwr => ?_
    repeat' (first | refine aQ fun K hK => ?_ | ((first | refine aK fun R hR => ?_ | refine aD mixed fun R hR => ?_); simp only [go_sem, a1, a2]) | ((first | (refine hR _ ?_; clear hR R) | refine aZ rfl ?_); try refine aP ?_) | ((repeat (fail_if_success refine hK _ ?_); clear hK K); refine hK _ ?_; clear hK K) | refine aT ?_ | refine aF ?_ | refine aB ?_ | ((first | refine CallK.pure (enter61) (hN) ?_ ?_ | refine CallD.pure (enter61) (hN) ?_ ?_); (focus exact aC); simp only [go_sem, a1, a2]) | refine aN ?_ | fail)
    (first | refine ret_pure ?_ ?_ ?_ | refine ret_ro ?_ ?_ ?_); focus exact (okA Tryz.ntmps24 Tryz.results24)
    rotate_left; focus exact frT
    simp only [resA, resV, Tryz.results24, go_sem]
    all_goals try exact coA
   | true =>
    rw [a3] at hN
    cases a4 : nothingB ⟨kind, left, right, leftAt, rightAt, lt, rt, place⟩ with
    | false =>
     rw [a4] at hO
     refine ⟨([], 1), ?_, .no (by decide)⟩
     refine aE Tryz.func24 rfl Tryz.ntmps24 fun w0 h0 k hrd hwr => ?_
     repeat' (first | refine aQ fun K hK => ?_ | ((first | refine aK fun R hR => ?_ | refine aD mixed fun R hR => ?_); simp only [go_sem, a1, a2]) | ((first | (refine hR _ ?_; clear hR R) | refine aZ rfl ?_); try refine aP ?_) | ((repeat (fail_if_success refine hK _ ?_); clear hK K); refine hK _ ?_; clear hK K) | refine aT ?_ | refine aF ?_ | refine aB ?_ | ((first | refine CallK.pure (enter61) (hN) ?_ ?_ | refine CallD.pure (enter61) (hN) ?_ ?_ | refine CallK.pure (enter62) (hO) ?_ ?_ | refine CallD.pure (enter62) (hO) ?_ ?_); (focus exact aC); simp only [go_sem, a1, a2]) | refine aN ?_ | fail)
     (first | refine ret_pure ?_ ?_ ?_ | refine ret_ro ?_ ?_ ?_); focus exact (okA Tryz.ntmps24 Tryz.results24)
     rotate_left; focus exact frT
     simp only [resA, resV, Tryz.results24, go_sem]
     all_goals try exact coA
    | true =>
     rw [a4] at hO
     unfold namedB at a3
     rw [Bool.and_eq_true, Bool.and_eq_true] at a3
     simp only at a3
     obtain ⟨b1, b2, b3⟩ := a3
     obtain ⟨n, rfl, hn'⟩ := isB_true b1
     rw [clAt_nat hn'] at b2 b3
     have hz : (n : Int) < (l.length : Int) := by omega
     have e1 : (l.map clDV).getD n default = clDV l[n] := nth_map clDV hn' _
     have hmem := List.getElem_mem hn'
     obtain ⟨q, rfl, hq'⟩ := isB_true b2
     cases k1 : kind == 1 with
     | true =>
      have k1' : kind = 1 := by simpa using k1
      obtain ⟨a, hS, hok⟩ := same_any' l[n] ⟨kind, n, right, q, rightAt, lt, rt, place⟩ (hown _ hmem) (hlen _ hmem) rfl hq'
      refine ⟨a, ?_, hok.1, fun h => ⟨(hok.2 h).1, ⟨n, rfl, hn'⟩, fun h3 => by simp only at h3; omega⟩, fun h sz tb hm h1 _ => (hok.2 h).2 sz tb hm fun c h2 => by rw [List.mem_singleton.1 h2]; rw [clAt_nat hn'] at h1; exact h1⟩
      refine aE Tryz.func24 rfl Tryz.ntmps24 fun w0 h0 k hrd hwr => ?_
      repeat' (first | refine aQ fun K hK => ?_ | ((first | refine aK fun R hR => ?_ | refine aD mixed fun R hR => ?_); simp only [go_sem, a1, a2, k1, hz, e1, List.length_map, Int.toNat_natCast]) | ((first | (refine hR _ ?_; clear hR R) | refine aZ rfl ?_); try refine aP ?_) | ((repeat (fail_if_success refine hK _ ?_); clear hK K); refine hK _ ?_; clear hK K) | refine aT ?_ | refine aF ?_ | refine aB ?_ | ((first | refine CallK.pure (enter61) (hN) ?_ ?_ | refine CallD.pure (enter61) (hN) ?_ ?_ | refine CallK.pure (enter62) (hO) ?_ ?_ | refine CallD.pure (enter62) (hO) ?_ ?_ | refine CallK.pure (enter63) (hS) ?_ ?_ | refine CallD.pure (enter63) (hS) ?_ ?_); (focus exact aC); simp only [go_sem, a1, a2, k1, hz, e1, List.length_map, Int.toNat_natCast]) | refine aN ?_ | fail)
      (first | refine ret_pure ?_ ?_ ?_ | refine ret_ro ?_ ?_ ?_); focus exact (okA Tryz.ntmps24 Tryz.results24)
      rotate_left; focus exact frT
      simp only [resA, resV, Tryz.results24, go_sem]
      all_goals try exact coA
     | false =>
      cases k2 : kind == 2 with
      | true =>
       have k2' : kind = 2 := by simpa using k2
       rw [if_pos k2'] at b3
       obtain ⟨m, rfl, hm'⟩ := isB_true b3
       obtain ⟨a, hS, hok⟩ := factor_any l[n] ⟨kind, n, right, q, m, lt, rt, place⟩ (hown _ hmem) (hlen _ hmem) rfl rfl hq' hm'
       refine ⟨a, ?_, hok.1, fun h => ⟨(hok.2 h).1, ⟨n, rfl, hn'⟩, fun h3 => by simp only at h3; omega⟩, fun h sz tb hm h1 _ => (hok.2 h).2 sz tb hm fun c h2 => by rw [List.mem_singleton.1 h2]; rw [clAt_nat hn'] at h1; exact h1⟩
       refine aE Tryz.func24 rfl Tryz.ntmps24 fun w0 h0 k hrd hwr => ?_
       repeat' (first | refine aQ fun K hK => ?_ | ((first | refine aK fun R hR => ?_ | refine aD mixed fun R hR => ?_); simp only [go_sem, a1, a2, k1, k2, hz, e1, List.length_map, Int.toNat_natCast]) | ((first | (refine hR _ ?_; clear hR R) | refine aZ rfl ?_); try refine aP ?_) | ((repeat (fail_if_success refine hK _ ?_); clear hK K); refine hK _ ?_; clear hK K) | refine aT ?_ | refine aF ?_ | refine aB ?_ | ((first | refine CallK.pure (enter61) (hN) ?_ ?_ | refine CallD.pure (enter61) (hN) ?_ ?_ | refine CallK.pure (enter62) (hO) ?_ ?_ | refine CallD.pure (enter62) (hO) ?_ ?_ | refine CallK.pure (enter64) (hS) ?_ ?_ | refine CallD.pure (enter64) (hS) ?_ ?_); (focus exact aC); simp only [go_sem, a1, a2, k1, k2, hz, e1, List.length_map, Int.toNat_natCast]) | refine aN ?_ | fail)
       (first | refine ret_pure ?_ ?_ ?_ | refine ret_ro ?_ ?_ ?_); focus exact (okA Tryz.ntmps24 Tryz.results24)
       rotate_left; focus exact frT
       simp only [resA, resV, Tryz.results24, go_sem]
       all_goals try exact coA
      | false =>
       have k3 : kind = 3 := by simp at a1 a2 k1 k2; omega
       rw [if_neg (by omega), if_pos k3, Bool.and_eq_true, Bool.and_eq_true] at b3
       obtain ⟨c1, c2, _⟩ := b3
       obtain ⟨p, rfl, hp'⟩ := isB_true c1
       rw [clAt_nat hp'] at c2
       obtain ⟨m, rfl, hm'⟩ := isB_true c2
       have hz' : (p : Int) < (l.length : Int) := by omega
       have e2 : (l.map clDV).getD p default = clDV l[p] := nth_map clDV hp' _
       have hmem' := List.getElem_mem hp'
       obtain ⟨a, hS, hok⟩ := put_any l[n] l[p] ⟨kind, n, p, q, m, lt, rt, place⟩ (hown _ hmem) (hown _ hmem') (hlen _ hmem) (hlen _ hmem') rfl rfl hq' hm' hp
       refine ⟨a, ?_, hok.1, fun h => ⟨(hok.2 h).1, ⟨n, rfl, hn'⟩, fun _ => ⟨p, rfl, hp'⟩⟩, fun h sz tb hm h1 h3 => (hok.2 h).2 sz tb hm fun c h2 => ?_⟩
       ·refine aE Tryz.func24 rfl Tryz.ntmps24 fun w0 h0 k hrd hwr => ?_
        repeat' (first | refine aQ fun K hK => ?_ | ((first | refine aK fun R hR => ?_ | refine aD mixed fun R hR => ?_); simp only [go_sem, a1, a2, k1, k2, hz, hz', e1, e2, List.length_map, Int.toNat_natCast]) | ((first | (refine hR _ ?_; clear hR R) | refine aZ rfl ?_); try refine aP ?_) | ((repeat (fail_if_success refine hK _ ?_); clear hK K); refine hK _ ?_; clear hK K) | refine aT ?_ | refine aF ?_ | refine aB ?_ | ((first | refine CallK.pure (enter61) (hN) ?_ ?_ | refine CallD.pure (enter61) (hN) ?_ ?_ | refine CallK.pure (enter62) (hO) ?_ ?_ | refine CallD.pure (enter62) (hO) ?_ ?_ | refine CallK.pure (enter65) (hS) ?_ ?_ | refine CallD.pure (enter65) (hS) ?_ ?_); (focus exact aC); simp only [go_sem, a1, a2, k1, k2, hz, hz', e1, e2, List.length_map, Int.toNat_natCast]) | refine aN ?_ | fail)
        (first | refine ret_pure ?_ ?_ ?_ | refine ret_ro ?_ ?_ ?_); focus exact (okA Tryz.ntmps24 Tryz.results24)
        rotate_left; focus exact frT
        simp only [resA, resV, Tryz.results24, go_sem]
        all_goals try exact coA
       ·have h3 := h3 k3
        rw [clAt_nat hn'] at h1
        rw [clAt_nat hp'] at h3
        simp only [List.mem_cons, List.not_mem_nil, or_false] at h2
        rcases h2 with rfl | rfl
        ·exact h1
        ·exact h3
set_option maxHeartbeats 2000000 in
set_option maxRecDepth 20000 in
theorem infer_any (g : List Int) (l : List (List Lt)) (i : Inf) (hl : l.length ≤ 4000000) (hc : ∀ c ∈ l, c.length ≤ 4000000) (hp : i.place.length ≤ 4000000) :
  ∃ a : List Lt × Int, Tri Tryz.prog 13 [.d (sgDV g), .d (.sl (l.map clDV)), .d (ifDV i)] (pure' (.tup [.d (clDV a.1), iA a.2])) ∧ RawOk g l i a := by
 have hC := clCheck_tri g l hl hc
 cases hq0 : clsOk g l == 0 with
 | false =>
  refine ⟨([], clsOk g l), ?_, .no (by simpa using hq0)⟩
  have hq1 : (clsOk g l != 0) = true := by simpa using hq0
  generalize clsOk g l = e at *
  refine aE Tryz.func13 rfl Tryz.ntmps13 fun w0 h0 k hrd hwr => ?_
  repeat' (first | refine aQ fun K hK => ?_ | ((first | refine aK fun R hR => ?_ | refine aD mixed fun R hR => ?_); simp only [go_sem, hq1]) | ((first | (refine hR _ ?_; clear hR R) | refine aZ rfl ?_); try refine aP ?_) | ((repeat (fail_if_success refine hK _ ?_); clear hK K); refine hK _ ?_; clear hK K) | refine aT ?_ | refine aF ?_ | refine aB ?_ | ((first | refine CallK.pure (enter22) (hC) ?_ ?_ | refine CallD.pure (enter22) (hC) ?_ ?_); (focus exact aC); simp only [go_sem, hq1]) | refine aN ?_ | fail)
  (first | refine ret_pure ?_ ?_ ?_ | refine ret_ro ?_ ?_ ?_); focus exact (okA Tryz.ntmps13 Tryz.results13)
  rotate_left; focus exact frT
  simp only [resA, resV, Tryz.results13, go_sem]
  all_goals try exact coA
 | true =>
  have h1 : clsOk g l = 0 := by simpa using hq0
  rw [h1] at hC
  obtain ⟨a, hRw, hok⟩ := raw_any l i hl (clsOk_all h1).2.2 hp
  refine ⟨a, ?_, hok⟩
  refine aE Tryz.func13 rfl Tryz.ntmps13 fun w0 h0 k hrd hwr => ?_
  repeat' (first | refine aQ fun K hK => ?_ | ((first | refine aK fun R hR => ?_ | refine aD mixed fun R hR => ?_); simp only [go_sem, bne_self_eq_false]) | ((first | (refine hR _ ?_; clear hR R) | refine aZ rfl ?_); try refine aP ?_) | ((repeat (fail_if_success refine hK _ ?_); clear hK K); refine hK _ ?_; clear hK K) | refine aT ?_ | refine aF ?_ | refine aB ?_ | ((first | refine CallK.pure (enter22) (hC) ?_ ?_ | refine CallD.pure (enter22) (hC) ?_ ?_ | refine CallK.pure (enter24) (hRw) ?_ ?_ | refine CallD.pure (enter24) (hRw) ?_ ?_); (focus exact aC); simp only [go_sem, bne_self_eq_false]) | refine aN ?_ | fail)
  (first | refine ret_pure ?_ ?_ ?_ | refine ret_ro ?_ ?_ ?_); focus exact (okA Tryz.ntmps13 Tryz.results13)
  rotate_left; focus exact frT
  simp only [resA, resV, Tryz.results13, go_sem]
  all_goals try exact coA
attribute [local irreducible] CallK CallD
def alO (b m : Nm) (s : List Inf) (x : Nm) : Ob := if x = b then .cells 26 [.own m (s.map ifDV)] else .perm 40 s.length
theorem alO_b (b m : Nm) (s : List Inf) : alO b m s b = .cells 26 [.own m (s.map ifDV)] := by simp [alO]
theorem alO_m {b m : Nm} (h : b ≠ m) (s : List Inf) : alO b m s m = .perm 40 s.length := by simp [alO, Ne.symm h]
theorem alO_cl (b m : Nm) (s : List Inf) (k : Nat) (h : ∀ n ∈ [b, m], n.1 < k) : Cl k [b, m] (alO b m s) := by
 intro n _ x hx
 unfold alO at hx
 split at hx
 ·simp [Ob.names, namesL, AV.names] at hx; rw [hx]; exact h m (by simp)
 ·simp [Ob.names] at hx
set_option maxRecDepth 20000 in
theorem all1_tri {b m : Nm} (hbm : b ≠ m) (s : List Inf) (hs : s.length ≤ 16000000) (i : Inf) (c : List Lt) : Tri Tryz.prog 47 ([.d (ifDV i), .d (clDV c), iA 0] ++ [.ptr b 0]) (stE [b, m] (alO b m s) (alO b m (s ++ [i])) (.tup [])) := by
 show Tri Tryz.prog 47 [.d (ifDV i), .d (clDV c), iA 0, .ptr b 0] _
 refine aES Tryz.func47 rfl Tryz.ntmps47 fun w0 h0 k hag => ?_
 obtain ⟨hb, eb⟩ := hag.get b (by simp)
 obtain ⟨hm, em⟩ := hag.get m (by simp)
 rw [alO_b] at eb
 rw [alO_m hbm] at em
 have nb := nmne hb
 have nm := nmne hm
 have h1 : (b = m) = False := eq_false hbm
 have h2 : (m = b) = False := eq_false hbm.symm
 repeat' (first | refine aQ fun K hK => ?_ | ((first | refine aK fun R hR => ?_ | refine aD mixed fun R hR => ?_); simp only [go_sem, eb, em, nb, nm, h1, h2, List.length_map, beq_self_eq_true]) | ((first | (refine hR _ ?_; clear hR R) | refine aZ rfl ?_); try refine aP ?_) | ((repeat (fail_if_success refine hK _ ?_); clear hK K); refine hK _ ?_; clear hK K) | refine aT ?_ | refine aF ?_ | refine aB ?_ | refine aN ?_ | fail)
 refine (ret_st (P := Tryz.prog) (fn := Tryz.f47) (N := [b, m]) (O := alO b m s) (O' := alO b m (s ++ [i])) (v := .tup []) (s := ⟨_, _, _⟩) (by rw [Tryz.results47]; trivial) (by rw [Tryz.results47]; exact .refl fun n hn => by cases hn) ?_ ?_ (alO_cl b m _ k fun n hn => (hag.get n hn).1)).2
 ·refine ⟨fun n hn => ⟨(hag.get n hn).1, ?_⟩⟩
  simp only [List.mem_cons, List.not_mem_nil, or_false] at hn
  rcases hn with rfl | rfl
  ·rw [alO_b]; simp only [go_sem, nb, nm, h1, h2]; simp
  ·rw [alO_m hbm]; simp only [go_sem, nb, nm, h1, h2]; simp
 ·refine FrN.updn (FrN.updn (by repeat (first | exact FrN.rfl' _ _ _ | assumption | refine FrN.updk ?_ (by omega) _ | refine FrN.stH ?_ _)) (by simp) _) (by simp) _
set_option maxRecDepth 20000 in
theorem all1_no {b m : Nm} (O : Nm → Ob) (hcl : ∀ k, (∀ n ∈ [b, m], n.1 < k) → Cl k [b, m] O) (i : Inf) (c : List Lt) {e : Int} (he : (e == 0) = false) : Tri Tryz.prog 47 ([.d (ifDV i), .d (clDV c), iA e] ++ [.ptr b 0]) (stE [b, m] O O (.tup [])) := by
 show Tri Tryz.prog 47 [.d (ifDV i), .d (clDV c), iA e, .ptr b 0] _
 refine aES Tryz.func47 rfl Tryz.ntmps47 fun w0 h0 k hag => ?_
 repeat' (first | refine aQ fun K hK => ?_ | ((first | refine aK fun R hR => ?_ | refine aD mixed fun R hR => ?_); simp only [go_sem, he]) | ((first | (refine hR _ ?_; clear hR R) | refine aZ rfl ?_); try refine aP ?_) | ((repeat (fail_if_success refine hK _ ?_); clear hK K); refine hK _ ?_; clear hK K) | refine aT ?_ | refine aF ?_ | refine aB ?_ | refine aN ?_ | fail)
 refine (ret_st (P := Tryz.prog) (fn := Tryz.f47) (N := [b, m]) (O := O) (O' := O) (v := .tup []) (s := ⟨_, _, _⟩) (by rw [Tryz.results47]; trivial) (by rw [Tryz.results47]; exact .refl fun n hn => by cases hn) (by repeat (first | assumption | exact Ag.stN (by assumption) _ _ | refine Ag.updk ?_ (by omega) _)) (by repeat (first | exact FrN.rfl' _ _ _ | assumption | refine FrN.updk ?_ (by omega) _ | refine FrN.stH ?_ _)) (hcl k fun n hn => (hag.get n hn).1)).2
theorem alAg {b m : Nm} (hbm : b ≠ m) {k : Nat} {h : Heap} (hb : b.1 < k) (hm : m.1 < k) (e1 : h b = some (.cells 26 [.own m []])) (e2 : h m = some (.perm 40 0)) : Ag k [b, m] (alO b m []) h :=
 ⟨fun n hn => by
  simp only [List.mem_cons, List.not_mem_nil, or_false] at hn
  rcases hn with rfl | rfl
  ·exact ⟨hb, by rw [alO_b]; exact e1⟩
  ·exact ⟨hm, by rw [alO_m hbm]; exact e2⟩⟩
def alS (i : Nat) : List Inf := if i = 0 then [] else [tryN 0]
set_option maxRecDepth 20000 in
theorem ibEach_tri {b m : Nm} (hbm : b ≠ m) : Tri Tryz.prog 46 [.d (.sl [clDV [ibA], clDV [ibB]]), iA 0, iA 1, .fn (.func 47) [] [.ptr b 0]] (stE [b, m] (alO b m []) (alO b m [tryN 0]) (.tup [])) := by
 obtain ⟨ans, h0, h1⟩ := ib_ans
 refine ifEach_tri (A1 := 47) (o := b) (M := [b, m]) (Q := fun i => alO b m (alS i)) (by simp) (enter47) (fun i k h => alO_cl b m _ k h) ibA ibB rfl rfl rfl ans (fun i hi => (h1 i hi).1) fun i hi => ?_
 rcases Nat.eq_zero_or_pos i with rfl | hpos
 ·refine .inl ⟨by rw [h0], ?_⟩
  exact all1_tri hbm [] (by simp) (tryN 0) _
 ·have hne := (h1 i hi).2 hpos
  have eS : alS (i + 1) = alS i := by unfold alS; rw [if_neg (by omega), if_neg (by omega)]
  refine .inr ⟨hne, by simp only [eS], ?_⟩
  simp only [eS]
  exact all1_no _ (fun k h => alO_cl b m _ k h) (tryN i) _ (by simpa using hne)
set_option maxRecDepth 20000 in
set_option maxHeartbeats 2000000 in
theorem ibAll_tri : Tri Tryz.prog 17 [.d (sgDV [0, 1]), .d (.sl [clDV [ibA], clDV [ibB]]), iA 0, iA 1] (pure' (.tup [.d (.sl [ifDV (tryN 0)]), iA 0])) := by
 have hC := clCheck_tri [0, 1] [[ibA], [ibB]] (by decide) (by decide)
 rw [show clsOk [0, 1] [[ibA], [ibB]] = 0 from by decide] at hC
 have hI0 := is_tri 0 2
 have hI1 := is_tri 1 2
 rw [show (decide ((0 : Int) ≤ 0) && decide ((0 : Int) < 2)) = true from rfl] at hI0
 rw [show (decide ((0 : Int) ≤ 1) && decide ((1 : Int) < 2)) = true from rfl] at hI1
 have n1 : ((1 : Int) != -1) = true := rfl
 refine aE Tryz.func17 rfl Tryz.ntmps17 fun w0 h0 k hrd hwr => ?_
 have hE := ibEach_tri (b := (k + 1 + 1 + 1 + 1, 0)) (m := (k + 1 + 1 + 1 + 1 + 1, 0)) (by simp)
 repeat' (first | refine awp_ghost (ghost_box (b := (k + 1 + 1 + 1 + 1, 0)) (e := 40) (e' := 26) (upd_self _ _ _)) ?_ | refine aQ fun K hK => ?_ | ((first | refine aK fun R hR => ?_ | refine aD mixed fun R hR => ?_); simp only [go_sem, n1, bne_self_eq_false, alO_b]) | ((first | (refine hR _ ?_; clear hR R) | refine aZ rfl ?_); try refine aP ?_) | ((repeat (fail_if_success refine hK _ ?_); clear hK K); refine hK _ ?_; clear hK K) | refine aT ?_ | refine aF ?_ | refine aB ?_ | ((first | refine CallK.pure (enter45) (hI0) ?_ ?_ | refine CallD.pure (enter45) (hI0) ?_ ?_); (focus exact aC); simp only [go_sem, n1, bne_self_eq_false, alO_b]) | ((first | refine CallK.pure (enter45) (hI1) ?_ ?_ | refine CallD.pure (enter45) (hI1) ?_ ?_); (focus exact aC); simp only [go_sem, n1, bne_self_eq_false, alO_b]) | ((first | refine CallK.pure (enter22) (hC) ?_ ?_ | refine CallD.pure (enter22) (hC) ?_ ?_ | refine CallK.chg (enter46) (hE) ?_ (alAg (k := k + 1 + 1 + 1 + 1 + 1 + 1) (by simp) (by simp only; omega) (by simp only; omega) (by simp only [go_sem, ]; try rfl) (by simp only [go_sem, ]; try rfl)) (Fr.rfl' _ _) ?_ | refine CallD.chg (enter46) (hE) ?_ (alAg (k := k + 1 + 1 + 1 + 1 + 1 + 1) (by simp) (by simp only; omega) (by simp only; omega) (by simp only [go_sem, ]; try rfl) (by simp only [go_sem, ]; try rfl)) (Fr.rfl' _ _) (by first | assumption | exact List.cons_ne_nil _ _) ?_); (focus exact aC); simp only [go_sem, n1, bne_self_eq_false, alO_b]) | refine aN ?_ | fail)
 refine ret_pure (by simp only [Tryz.results17, resOkL, resOk, Tryz.ntmps17, List.toList_toArray]; decide) ?_ ?_
 ·simp only [resA, resV, Tryz.results17, go_sem]
  exact Co.t2 (.dat rfl) (.dat rfl)
 ·refine Fr.stH ?_ _ (fun n hn => ?_)
  ·exact frA
  ·simp only [List.mem_cons, List.not_mem_nil, or_false] at hn
   rcases hn with rfl | rfl <;> simp only <;> omega
set_option maxRecDepth 20000 in
set_option maxHeartbeats 2000000 in
theorem inferBegun_tri : Tri Tryz.prog 15 [] (pure' (bA true)) := by
 obtain ⟨ans, h0, h1⟩ := ib_ans
 have hRaw := (h1 0 (by decide)).1
 rw [h0] at hRaw
 have hC := clCheck_tri [0, 1] [[ibA], [ibB]] (by decide) (by decide)
 rw [show clsOk [0, 1] [[ibA], [ibB]] = 0 from by decide] at hC
 have hI : Tri Tryz.prog 13 [.d (sgDV [0, 1]), .d (.sl [clDV [ibA], clDV [ibB]]), .d (ifDV (tryN 0))] (pure' (.tup [.d (clDV []), iA 0])) := by
  refine aE Tryz.func13 rfl Tryz.ntmps13 fun w0 h0 k hrd hwr => ?_
  repeat' (first | refine aQ fun K hK => ?_ | ((first | refine aK fun R hR => ?_ | refine aD mixed fun R hR => ?_); simp only [go_sem, bne_self_eq_false]) | ((first | (refine hR _ ?_; clear hR R) | refine aZ rfl ?_); try refine aP ?_) | ((repeat (fail_if_success refine hK _ ?_); clear hK K); refine hK _ ?_; clear hK K) | refine aT ?_ | refine aF ?_ | refine aB ?_ | ((first | refine CallK.pure (enter22) (hC) ?_ ?_ | refine CallD.pure (enter22) (hC) ?_ ?_ | refine CallK.pure (enter24) (hRaw) ?_ ?_ | refine CallD.pure (enter24) (hRaw) ?_ ?_); (focus exact aC); simp only [go_sem, bne_self_eq_false]) | refine aN ?_ | fail)
  (first | refine ret_pure ?_ ?_ ?_ | refine ret_ro ?_ ?_ ?_); focus exact (okA Tryz.ntmps13 Tryz.results13)
  rotate_left; focus exact frT
  simp only [resA, resV, Tryz.results13, go_sem]
  all_goals try exact coA
 have hA := ibAll_tri
 have v1 := va_tri 1
 have f0 : Tri Tryz.prog 29 [iA 0, .d (.sl [])] (pure' (.d (tmDV q0))) := fn_tri 0 []
 have f1 : Tri Tryz.prog 29 [iA 1, .d (.sl [tmDV (.mk 1 0 [])])] (pure' (.d (tmDV (q1 (vt 1))))) := fn_tri 1 [.mk 1 0 []]
 have f2 : Tri Tryz.prog 29 [iA 1, .d (.sl [tmDV q0])] (pure' (.d (tmDV (q1 q0)))) := fn_tri 1 [q0]
 refine aE Tryz.func15 rfl Tryz.ntmps15 fun w0 h0 k hrd hwr => ?_
 repeat' (first | refine aQ fun K hK => ?_ | ((first | refine aK fun R hR => ?_ | refine aD mixed fun R hR => ?_); simp only [go_sem, beq_self_eq_true]) | ((first | (refine hR _ ?_; clear hR R) | refine aZ rfl ?_); try refine aP ?_) | ((repeat (fail_if_success refine hK _ ?_); clear hK K); refine hK _ ?_; clear hK K) | refine aT ?_ | refine aF ?_ | refine aB ?_ | ((first | refine CallK.pure (enter29) (f0) ?_ ?_ | refine CallD.pure (enter29) (f0) ?_ ?_); (focus exact aC); simp only [go_sem, beq_self_eq_true]) | ((first | refine CallK.pure (enter29) (f1) ?_ ?_ | refine CallD.pure (enter29) (f1) ?_ ?_); (focus exact aC); simp only [go_sem, beq_self_eq_true]) | ((first | refine CallK.pure (enter29) (f2) ?_ ?_ | refine CallD.pure (enter29) (f2) ?_ ?_); (focus exact aC); simp only [go_sem, beq_self_eq_true]) | ((first | refine CallK.pure (enter30) (small_tri) ?_ ?_ | refine CallD.pure (enter30) (small_tri) ?_ ?_ | refine CallK.pure (enter44) (v1) ?_ ?_ | refine CallD.pure (enter44) (v1) ?_ ?_ | refine CallK.pure (enter13) (hI) ?_ ?_ | refine CallD.pure (enter13) (hI) ?_ ?_ | refine CallK.pure (enter17) (hA) ?_ ?_ | refine CallD.pure (enter17) (hA) ?_ ?_); (focus exact aC); simp only [go_sem, beq_self_eq_true]) | refine aN ?_ | fail)
 (first | refine ret_pure ?_ ?_ ?_ | refine ret_ro ?_ ?_ ?_); focus exact (okA Tryz.ntmps15 Tryz.results15)
 rotate_left; focus exact frT
 simp only [resA, resV, Tryz.results15, go_sem]
 all_goals try exact coA
 all_goals exact .dat rfl
end Go.Proofs.YtmeekpinkfpnhabGreat
