/- term. -/
import Derived.Test.YtmeekpinkfpnhabGreatP08
import Derived.Test.YtmeekpinkfpnhabGreatP12
import Derived.Test.YtmeekpinkfpnhabGreatP13
import Derived.Test.YtmeekpinkfpnhabGreatP24
import Derived.Test.YtmeekpinkfpnhabGreatP28
import Derived.Test.YtmeekpinkfpnhabGreatP29
import Derived.Test.YtmeekpinkfpnhabGreatP31
set_option linter.all false
namespace Go.Proofs.YtmeekpinkfpnhabGreat
open Go.RowKit
def pairsAns (fa : Tm → Tm → Bool × Int) : List (Tm × Tm) → Int
 | [] => 0
 | p :: ps => if ((fa p.1 p.2).2 != 0) = true then (fa p.1 p.2).2 else if (fa p.1 p.2).1 = true then pairsAns fa ps else 4
def flatPr (L : List (Tm × Tm)) : List Tm := L.flatMap fun p => [p.1, p.2]
theorem flatPr_len : ∀ L : List (Tm × Tm), (flatPr L).length = 2 * L.length
 | [] => rfl
 | p :: L => by
  have := flatPr_len L
  unfold flatPr at this ⊢
  rw [List.flatMap_cons, List.length_append, this, List.length_cons]; simp; omega
theorem flatPr_at : ∀ (L : List (Tm × Tm)) (i : Nat) (h : i < L.length), (flatPr L)[2 * i]? = some L[i].1 ∧ (flatPr L)[2 * i + 1]? = some L[i].2
 | p :: L, 0, _ => ⟨rfl, rfl⟩
 | p :: L, i + 1, h => flatPr_at L i (by simpa using h)
set_option maxHeartbeats 2000000 in
set_option maxRecDepth 20000 in
theorem pairs_tri (mm : Nm) (bs : Bs) (fa : Tm → Tm → Bool × Int) (L : List (Tm × Tm)) (hL : L.length ≤ 1000)
  (hf : ∀ p ∈ L, Tri Tryz.prog 124 [.map mm, .d (tmDV p.1), .d (tmDV p.2)] (rdE [(mm, .map (bsE bs))] (.tup [bA (fa p.1 p.2).1, iA (fa p.1 p.2).2]))) :
  Tri Tryz.prog 99 [.map mm, .d (.sl ((flatPr L).map tmDV))] (rdE [(mm, .map (bsE bs))] (iA (pairsAns fa L))) := by
 have hlen := flatPr_len L
 refine aER Tryz.func99 rfl Tryz.ntmps99 fun w0 h0 k hro => ?_
 obtain ⟨n2, em⟩ := hro.get _ (List.mem_cons_self ..)
 dsimp only at n2 em
 have hro' : ∀ (k' : Nat) (h : Heap), k ≤ k' → Fr k h0 h → RoOK k' [(mm, .map (bsE bs))] h := fun k' h h1 hF => ⟨fun x hx => by simp only [List.mem_cons, List.not_mem_nil, or_false] at hx; subst hx; exact ⟨Nat.lt_of_lt_of_le n2 h1, by rw [hF mm n2]; exact em⟩⟩
 repeat' (first | refine aQ fun K hK => ?_ | ((first | refine aK fun R hR => ?_ | refine aD mixed fun R hR => ?_); simp only [go_sem]) | ((first | (refine hR _ ?_; clear hR R) | refine aZ rfl ?_); try refine aP ?_) | ((repeat (fail_if_success refine hK _ ?_); clear hK K); refine hK _ ?_; clear hK K) | refine aT ?_ | refine aF ?_ | refine aB ?_ | refine aN ?_ | fail)
 refine awp_loop (fun σ => ∃ i : Nat, σ.t 0 = .map mm ∧ σ.t 1 = .d (.sl ((flatPr L).map tmDV)) ∧ σ.t 5 = iA ((2 * i : Nat) : Int) ∧ Fr k h0 σ.h ∧ k ≤ σ.k ∧ i ≤ L.length ∧ pairsAns fa (L.drop i) = pairsAns fa L) (fun σ => (flatPr L).length - (intOf' (σ.t 5)).toNat) ?_ ?_
 ·refine ⟨0, ?_⟩
  simp only [go_sem, List.drop_zero]
  and_intros; all_goals try (first | rfl | omega | assumption | exact anA)
 ·rintro σ ⟨i, s0, s1, s5, hF, hk, hi, hv⟩
  rcases Nat.lt_or_ge i L.length with hlt | hge
  ·have hz : (((2 * i : Nat) : Int)) < ((flatPr L).length : Int) := by omega
   obtain ⟨e1, e2⟩ := flatPr_at L i hlt
   have e1' : ((flatPr L).map tmDV).getD (2 * i) default = tmDV L[i].1 := by rw [List.getD_eq_getElem?_getD, List.getElem?_map, e1]; rfl
   have e2' : ((flatPr L).map tmDV).getD (2 * i + 1) default = tmDV L[i].2 := by rw [List.getD_eq_getElem?_getD, List.getElem?_map, e2]; rfl
   have et : (((2 * i : Nat) : Int) + 1).toNat = 2 * i + 1 := by omega
   have ei : ((2 * i : Nat) : Int) + 2 = ((2 * (i + 1) : Nat) : Int) := by omega
   have hz0 : (0 : Int) ≤ ((2 * i : Nat) : Int) := by omega
   have hz1 : (((2 * i : Nat) : Int) + 1) < ((flatPr L).length : Int) := by omega
   have hz2 : (0 : Int) ≤ ((2 * i : Nat) : Int) + 1 := by omega
   have hfi := hf L[i] (List.getElem_mem hlt)
   rw [List.drop_eq_getElem_cons hlt, pairsAns] at hv
   generalize fa L[i].1 L[i].2 = A at *
   cases a1 : (A.2 != 0) with
   | true =>
    rw [a1, if_pos rfl] at hv
    repeat' (first | refine aQ fun K hK => ?_ | ((first | refine aK fun R hR => ?_ | refine aD mixed fun R hR => ?_); simp only [go_sem, s0, s1, s5, hz, hz0, hz1, hz2, e1', e2', et, a1, Int.toNat_natCast, List.length_map]) | ((first | (refine hR _ ?_; clear hR R) | refine aZ rfl ?_); try refine aP ?_) | ((repeat (fail_if_success refine hK _ ?_); clear hK K); refine hK _ ?_; clear hK K) | refine aT ?_ | refine aF ?_ | refine aB ?_ | ((first | refine CallK.look (enter124) (hfi) ?_ (hro' _ _ (by omega) hF) (Fr.rfl' _ _) ?_ | refine CallD.look (enter124) (hfi) ?_ (hro' _ _ (by omega) hF) (Fr.rfl' _ _) (by first | assumption | exact List.cons_ne_nil _ _) ?_); (focus exact aC); simp only [go_sem, s0, s1, s5, hz, hz0, hz1, hz2, e1', e2', et, a1, Int.toNat_natCast, List.length_map]) | refine aN ?_ | fail)
    rw [← hv]
    (first | refine ret_pure ?_ ?_ ?_ | refine ret_ro ?_ ?_ ?_); focus exact (okA Tryz.ntmps99 Tryz.results99)
    rotate_left; focus exact frA
    simp only [resA, resV, Tryz.results99, go_sem]
    all_goals try exact coA
    all_goals exact .dat rfl
   | false =>
    rw [a1, if_neg (by decide)] at hv
    cases b1 : A.1 with
    | true =>
     rw [b1, if_pos rfl] at hv
     repeat' (first | refine aQ fun K hK => ?_ | ((first | refine aK fun R hR => ?_ | refine aD mixed fun R hR => ?_); simp only [go_sem, s0, s1, s5, hz, hz0, hz1, hz2, e1', e2', et, a1, b1, Int.toNat_natCast, List.length_map]) | ((first | (refine hR _ ?_; clear hR R) | refine aZ rfl ?_); try refine aP ?_) | ((repeat (fail_if_success refine hK _ ?_); clear hK K); refine hK _ ?_; clear hK K) | refine aT ?_ | refine aF ?_ | refine aB ?_ | ((first | refine CallK.look (enter124) (hfi) ?_ (hro' _ _ (by omega) hF) (Fr.rfl' _ _) ?_ | refine CallD.look (enter124) (hfi) ?_ (hro' _ _ (by omega) hF) (Fr.rfl' _ _) (by first | assumption | exact List.cons_ne_nil _ _) ?_); (focus exact aC); simp only [go_sem, s0, s1, s5, hz, hz0, hz1, hz2, e1', e2', et, a1, b1, Int.toNat_natCast, List.length_map]) | refine aN ?_ | fail)
     refine ⟨⟨i + 1, ?_⟩, ?_⟩
     rotate_left
     ·simp only [go_sem, s0, s1, s5, ei]; omega
     simp only [go_sem, s0, s1, s5, ei]
     and_intros; all_goals try (first | rfl | omega | assumption | exact anA)
    | false =>
     rw [b1, if_neg (by decide)] at hv
     repeat' (first | refine aQ fun K hK => ?_ | ((first | refine aK fun R hR => ?_ | refine aD mixed fun R hR => ?_); simp only [go_sem, s0, s1, s5, hz, hz0, hz1, hz2, e1', e2', et, a1, b1, Int.toNat_natCast, List.length_map]) | ((first | (refine hR _ ?_; clear hR R) | refine aZ rfl ?_); try refine aP ?_) | ((repeat (fail_if_success refine hK _ ?_); clear hK K); refine hK _ ?_; clear hK K) | refine aT ?_ | refine aF ?_ | refine aB ?_ | ((first | refine CallK.look (enter124) (hfi) ?_ (hro' _ _ (by omega) hF) (Fr.rfl' _ _) ?_ | refine CallD.look (enter124) (hfi) ?_ (hro' _ _ (by omega) hF) (Fr.rfl' _ _) (by first | assumption | exact List.cons_ne_nil _ _) ?_); (focus exact aC); simp only [go_sem, s0, s1, s5, hz, hz0, hz1, hz2, e1', e2', et, a1, b1, Int.toNat_natCast, List.length_map]) | refine aN ?_ | fail)
     rw [← hv]
     (first | refine ret_pure ?_ ?_ ?_ | refine ret_ro ?_ ?_ ?_); focus exact (okA Tryz.ntmps99 Tryz.results99)
     rotate_left; focus exact frA
     simp only [resA, resV, Tryz.results99, go_sem]
     all_goals try exact coA
     all_goals exact .dat rfl
  ·have hz : ¬ ((((2 * i : Nat) : Int)) < ((flatPr L).length : Int)) := by omega
   rw [List.drop_eq_nil_of_le hge, pairsAns] at hv
   repeat' (first | refine aQ fun K hK => ?_ | ((first | refine aK fun R hR => ?_ | refine aD mixed fun R hR => ?_); simp only [go_sem, s0, s1, s5, hz, List.length_map]) | ((first | (refine hR _ ?_; clear hR R) | refine aZ rfl ?_); try refine aP ?_) | ((repeat (fail_if_success refine hK _ ?_); clear hK K); refine hK _ ?_; clear hK K) | refine aT ?_ | refine aF ?_ | refine aB ?_ | refine aN ?_ | fail)
   rw [← hv]
   (first | refine ret_pure ?_ ?_ ?_ | refine ret_ro ?_ ?_ ?_); focus exact (okA Tryz.ntmps99 Tryz.results99)
   rotate_left; focus exact frA
   simp only [resA, resV, Tryz.results99, go_sem]
   all_goals try exact coA
   all_goals exact .dat rfl
end Go.Proofs.YtmeekpinkfpnhabGreat
namespace Go.Proofs.YtmeekpinkfpnhabGreat
theorem nat_ne8 (n : Nat) : ((n = n + 1 + 1 + 1 + 1 + 1 + 1 + 1 + 1) = False) ∧ ((n = n + 1 + 1 + 1 + 1 + 1 + 1 + 1 + 1 + 1) = False) ∧ ((n = n + 1 + 1 + 1 + 1 + 1 + 1 + 1 + 1 + 1 + 1) = False) ∧ ((n = n + 1 + 1 + 1 + 1 + 1 + 1 + 1 + 1 + 1 + 1 + 1) = False) ∧ ((n = n + 1 + 1 + 1 + 1 + 1 + 1 + 1 + 1 + 1 + 1 + 1 + 1) = False) ∧
  ((n + 1 + 1 + 1 + 1 + 1 + 1 + 1 + 1 = n) = False) ∧ ((n + 1 + 1 + 1 + 1 + 1 + 1 + 1 + 1 + 1 = n) = False) ∧ ((n + 1 + 1 + 1 + 1 + 1 + 1 + 1 + 1 + 1 + 1 = n) = False) ∧ ((n + 1 + 1 + 1 + 1 + 1 + 1 + 1 + 1 + 1 + 1 + 1 = n) = False) ∧ ((n + 1 + 1 + 1 + 1 + 1 + 1 + 1 + 1 + 1 + 1 + 1 + 1 = n) = False) := by
 and_intros <;> (apply eq_false; omega)
theorem nat_ne13 (n : Nat) : ((n = n + 1 + 1 + 1 + 1 + 1 + 1 + 1 + 1 + 1 + 1 + 1 + 1 + 1) = False) ∧ ((n = n + 1 + 1 + 1 + 1 + 1 + 1 + 1 + 1 + 1 + 1 + 1 + 1 + 1 + 1) = False) ∧ ((n = n + 1 + 1 + 1 + 1 + 1 + 1 + 1 + 1 + 1 + 1 + 1 + 1 + 1 + 1 + 1) = False) ∧ ((n = n + 1 + 1 + 1 + 1 + 1 + 1 + 1 + 1 + 1 + 1 + 1 + 1 + 1 + 1 + 1 + 1) = False) ∧ ((n = n + 1 + 1 + 1 + 1 + 1 + 1 + 1 + 1 + 1 + 1 + 1 + 1 + 1 + 1 + 1 + 1 + 1) = False) ∧ ((n = n + 1 + 1 + 1 + 1 + 1 + 1 + 1 + 1 + 1 + 1 + 1 + 1 + 1 + 1 + 1 + 1 + 1 + 1) = False) ∧ ((n = n + 1 + 1 + 1 + 1 + 1 + 1 + 1 + 1 + 1 + 1 + 1 + 1 + 1 + 1 + 1 + 1 + 1 + 1 + 1) = False) ∧
  ((n + 1 + 1 + 1 + 1 + 1 + 1 + 1 + 1 + 1 + 1 + 1 + 1 + 1 = n) = False) ∧ ((n + 1 + 1 + 1 + 1 + 1 + 1 + 1 + 1 + 1 + 1 + 1 + 1 + 1 + 1 = n) = False) ∧ ((n + 1 + 1 + 1 + 1 + 1 + 1 + 1 + 1 + 1 + 1 + 1 + 1 + 1 + 1 + 1 = n) = False) ∧ ((n + 1 + 1 + 1 + 1 + 1 + 1 + 1 + 1 + 1 + 1 + 1 + 1 + 1 + 1 + 1 + 1 = n) = False) ∧ ((n + 1 + 1 + 1 + 1 + 1 + 1 + 1 + 1 + 1 + 1 + 1 + 1 + 1 + 1 + 1 + 1 + 1 = n) = False) ∧ ((n + 1 + 1 + 1 + 1 + 1 + 1 + 1 + 1 + 1 + 1 + 1 + 1 + 1 + 1 + 1 + 1 + 1 + 1 = n) = False) ∧ ((n + 1 + 1 + 1 + 1 + 1 + 1 + 1 + 1 + 1 + 1 + 1 + 1 + 1 + 1 + 1 + 1 + 1 + 1 + 1 = n) = False) := by
 and_intros <;> (apply eq_false; omega)
end Go.Proofs.YtmeekpinkfpnhabGreat
namespace Go.Proofs.YtmeekpinkfpnhabGreat
open Go.RowKit
theorem falls_perm {b b' : Bs} (h : (b.map (·.1)).Nodup) (hp : b.Perm b') (x y : Tm) : fallsAns b' x y = fallsAns b x y := by
 unfold fallsAns; rw [raw_perm h hp, raw_perm h hp]
theorem falls_any {g : List Int} {bs : Bs} (B : Bnd g bs) {x y : Tm} (hx : form g x = 0) (hy : form g y = 0) (sx : x.size ≤ 4000000) (sy : y.size ≤ 4000000) (bs' : Bs) (hp : bs.Perm bs') (mm : Nm) :
  Tri Tryz.prog 124 [.map mm, .d (tmDV x), .d (tmDV y)] (rdE [(mm, .map (bsE bs'))] (.tup [bA (fallsAns bs x y).1, iA (fallsAns bs x y).2])) := by
 have key : ∀ t, form g t = 0 → (rawAns bs' t).2 = 0 → own g (rawAns bs' t).1 = 0 := fun t ht h => by
  rw [raw_perm B.nd hp, rawAns_pure (form_pure ht)] at h ⊢
  by_cases h3 : (sub (sbOf bs) t).size > 120
  ·rw [if_pos h3] at h; cases h
  ·rw [if_neg h3]; exact own_mk (B.fm ht) (by show (sub (sbOf bs) t).size ≤ 120; omega)
 have len : ∀ t, own g t = 0 → (parts t).length ≤ 1000000 := fun t h => by rw [parts_len]; have := own_sz h; omega
 have := falls_tri mm bs' (B.perm hp).sizes x y sx sy fun h1 h2 => above_tri _ _ (own_arit (key y hy h2) (key x hx h1)) (len _ (key y hy h2)) (len _ (key x hx h1))
 rw [falls_perm B.nd hp] at this
 exact this
theorem pairs_any {g : List Int} {bs : Bs} (B : Bnd g bs) (L : List (Tm × Tm)) (hL : L.length ≤ 1000) (hf : ∀ p ∈ L, form g p.1 = 0 ∧ form g p.2 = 0 ∧ p.1.size ≤ 4000000 ∧ p.2.size ≤ 4000000) (bs' : Bs) (hp : bs.Perm bs') (mm : Nm) :
  Tri Tryz.prog 99 [.map mm, .d (.sl ((flatPr L).map tmDV))] (rdE [(mm, .map (bsE bs'))] (iA (pairsAns (fallsAns bs) L))) :=
 pairs_tri mm bs' (fallsAns bs) L hL fun p hm => by
  obtain ⟨h1, h2, h3, h4⟩ := hf p hm
  exact falls_any B h1 h2 h3 h4 bs' hp mm
set_option maxHeartbeats 8000000 in
set_option maxRecDepth 20000 in
theorem factor_any {g : List Int} (c : List Lt) (i : Inf) (hc : OwnC g c) (hl : c.length ≤ 8) {n m : Nat} (hi : i.leftAt = n) (hj : i.rightAt = m) (hn : n < c.length) (hm : m < c.length) :
  ∃ a : List Lt × Int, Tri Tryz.prog 64 [.d (clDV c), .d (ifDV i)] (pure' (.tup [.d (clDV a.1), iA a.2])) ∧ InfOk g [c] a := by
 obtain ⟨kind, left, right, leftAt, rightAt, lt, rt, place⟩ := i
 simp only at hi hj
 subst hi; subst hj
 have hz : (n : Int) < (c.length : Int) := by omega
 have hz' : (m : Int) < (c.length : Int) := by omega
 have e1 : (c.map ltDV).getD n default = ltDV c[n] := nth_map ltDV hn _
 have e2 : (c.map ltDV).getD m default = ltDV c[m] := nth_map ltDV hm _
 cases hy : c[n].y with
 | false =>
  refine ⟨([], 4), ?_, .err (by decide)⟩
  refine aE Tryz.func64 rfl Tryz.ntmps64 fun w0 h0 k hrd hwr => ?_
  repeat' (first | refine aQ fun K hK => ?_ | ((first | refine aK fun R hR => ?_ | refine aD mixed fun R hR => ?_); simp only [go_sem, hz, hz', e1, e2, hy, List.length_map, Int.toNat_natCast]) | ((first | (refine hR _ ?_; clear hR R) | refine aZ rfl ?_); try refine aP ?_) | ((repeat (fail_if_success refine hK _ ?_); clear hK K); refine hK _ ?_; clear hK K) | refine aT ?_ | refine aF ?_ | refine aB ?_ | refine aN ?_ | fail)
  (first | refine ret_pure ?_ ?_ ?_ | refine ret_ro ?_ ?_ ?_); focus exact (okA Tryz.ntmps64 Tryz.results64)
  rotate_left; focus exact frT
  simp only [resA, resV, Tryz.results64, go_sem]
  all_goals try exact coA
 | true =>
  cases hy' : c[m].y with
  | false =>
   refine ⟨([], 4), ?_, .err (by decide)⟩
   refine aE Tryz.func64 rfl Tryz.ntmps64 fun w0 h0 k hrd hwr => ?_
   repeat' (first | refine aQ fun K hK => ?_ | ((first | refine aK fun R hR => ?_ | refine aD mixed fun R hR => ?_); simp only [go_sem, hz, hz', e1, e2, hy, hy', List.length_map, Int.toNat_natCast]) | ((first | (refine hR _ ?_; clear hR R) | refine aZ rfl ?_); try refine aP ?_) | ((repeat (fail_if_success refine hK _ ?_); clear hK K); refine hK _ ?_; clear hK K) | refine aT ?_ | refine aF ?_ | refine aB ?_ | refine aN ?_ | fail)
   (first | refine ret_pure ?_ ?_ ?_ | refine ret_ro ?_ ?_ ?_); focus exact (okA Tryz.ntmps64 Tryz.results64)
   rotate_left; focus exact frT
   simp only [resA, resV, Tryz.results64, go_sem]
   all_goals try exact coA
  | true =>
   cases hnm : ((n : Int) == (m : Int)) with
   | true =>
    refine ⟨([], 4), ?_, .err (by decide)⟩
    refine aE Tryz.func64 rfl Tryz.ntmps64 fun w0 h0 k hrd hwr => ?_
    repeat' (first | refine aQ fun K hK => ?_ | ((first | refine aK fun R hR => ?_ | refine aD mixed fun R hR => ?_); simp only [go_sem, hz, hz', e1, e2, hy, hy', hnm, List.length_map, Int.toNat_natCast]) | ((first | (refine hR _ ?_; clear hR R) | refine aZ rfl ?_); try refine aP ?_) | ((repeat (fail_if_success refine hK _ ?_); clear hK K); refine hK _ ?_; clear hK K) | refine aT ?_ | refine aF ?_ | refine aB ?_ | refine aN ?_ | fail)
    (first | refine ret_pure ?_ ?_ ?_ | refine ret_ro ?_ ?_ ?_); focus exact (okA Tryz.ntmps64 Tryz.results64)
    rotate_left; focus exact frT
    simp only [resA, resV, Tryz.results64, go_sem]
    all_goals try exact coA
   | false =>
    have hne : n ≠ m := fun e => by subst e; simp at hnm
    have o1 := sideG_own hc hn lt
    have o2 := sideG_own hc hm rt
    have s1 := ifSides_tri c[n] lt
    have s2 := ifSides_tri c[m] rt
    rcases both_any o1.1 o2.1 with ⟨e, he, hB⟩ | ⟨bs, B, hs, hB⟩
    ·refine ⟨([], e), ?_, .err he⟩
     have he' : (e != 0) = true := by simpa using he
     have he2 : (e == 0) = false := by simpa using he
     clear o1 o2 hc hne
     generalize sideG c[n] lt = P at *
     generalize sideG c[m] rt = Q at *
     generalize c[n] = X at *
     generalize c[m] = Y at *
     obtain ⟨xy, xa, xb⟩ := X
     obtain ⟨yy, ya, yb⟩ := Y
     simp only at hy hy'
     subst hy; subst hy'
     refine aE Tryz.func64 rfl Tryz.ntmps64 fun w0 h0 k hrd hwr => ?_
     repeat' (first | refine aQ fun K hK => ?_ | ((first | refine aK fun R hR => ?_ | refine aD mixed fun R hR => ?_); simp only [go_sem, hz, hz', e1, e2, hnm, he', he2, List.length_map, Int.toNat_natCast]) | ((first | (refine hR _ ?_; clear hR R) | refine aZ rfl ?_); try refine aP ?_) | ((repeat (fail_if_success refine hK _ ?_); clear hK K); refine hK _ ?_; clear hK K) | refine aT ?_ | refine aF ?_ | refine aB ?_ | ((first | refine CallK.pure (enter98) (s1) ?_ ?_ | refine CallD.pure (enter98) (s1) ?_ ?_); (focus exact aC); simp only [go_sem, hz, hz', e1, e2, hnm, he', he2, List.length_map, Int.toNat_natCast]) | ((first | refine CallK.pure (enter98) (s2) ?_ ?_ | refine CallD.pure (enter98) (s2) ?_ ?_); (focus exact aC); simp only [go_sem, hz, hz', e1, e2, hnm, he', he2, List.length_map, Int.toNat_natCast]) | ((first | refine CallK.pure (enter95) (hB) ?_ ?_ | refine CallD.pure (enter95) (hB) ?_ ?_); (focus exact aC); simp only [go_sem, hz, hz', e1, e2, hnm, he', he2, List.length_map, Int.toNat_natCast]) | refine aN ?_ | fail)
     (first | refine ret_pure ?_ ?_ ?_ | refine ret_ro ?_ ?_ ?_); focus exact (okA Tryz.ntmps64 Tryz.results64)
     rotate_left; focus exact frT
     simp only [resA, resV, Tryz.results64, go_sem]
     all_goals try exact coA
    ·have hf : FormC g (c.eraseIdx n ++ [⟨false, (sideG c[n] lt).2, (sideG c[m] rt).2⟩]) := form_app (form_erase hc.form n) fun l hl => by
      rw [List.mem_singleton.1 hl]; exact ⟨(own_form o1.2).1, (own_form o2.2).1⟩
     have hle : (c.eraseIdx n ++ [Lt.mk false (sideG c[n] lt).2 (sideG c[m] rt).2]).length ≤ 16 := by
      have := List.length_eraseIdx_le c n; simp; omega
     have hM := made_any B hf hle fun t ht => by
      unfold termsOf at ht
      rw [List.flatMap_append, List.mem_append] at ht
      rcases ht with ht | ht
      ·have := hc.size t (termsOf_erase ht); omega
      ·simp only [List.flatMap_cons, List.flatMap_nil, List.append_nil, List.mem_cons, List.not_mem_nil, or_false] at ht
       have := own_sz o1.2
       have := own_sz o2.2
       rcases ht with rfl | rfl <;> omega
     have hP := pairs_any B [((sideG c[n] lt).1, (sideG c[n] lt).2)] (by simp) fun p hp => by
      rw [List.mem_singleton.1 hp]
      have := own_sz o1.1
      have := own_sz o1.2
      exact ⟨(own_form o1.1).1, (own_form o1.2).1, by simp only; omega, by simp only; omega⟩
     have hok : InfOk g [c] (ifMadeAns bs (c.eraseIdx n ++ [⟨false, (sideG c[n] lt).2, (sideG c[m] rt).2⟩])) := made_inf B hf fun sz tb hmd hp => factor_holds (mdOk_all hmd).2.1 (B.inR hmd c) hn hm hne hy hy' lt rt hs (hp c (by simp))
     clear hf hle
     generalize ifMadeAns bs (c.eraseIdx n ++ [Lt.mk false (sideG c[n] lt).2 (sideG c[m] rt).2]) = A at hM hok
     generalize pairsAns (fallsAns bs) [((sideG c[n] lt).1, (sideG c[n] lt).2)] = E at hP
     cases hE : (E == 0) with
     | false =>
      have hE' : (E != 0) = true := by simpa using hE
      refine ⟨([], E), ?_, .err (by simpa using hE)⟩
      clear o1 o2 hc hne hok hs B hM
      generalize sideG c[n] lt = P at *
      generalize sideG c[m] rt = Q at *
      generalize c[n] = X at *
      generalize c[m] = Y at *
      obtain ⟨xy, xa, xb⟩ := X
      obtain ⟨yy, ya, yb⟩ := Y
      simp only at hy hy'
      subst hy; subst hy'
      refine aE Tryz.func64 rfl Tryz.ntmps64 fun w0 h0 k hrd hwr => ?_
      refine awp_new fun hnew => ?_
      have hnn : NoNew h0 k := hnew
      have hnn := hnn.at
      have hB := hB (k + 1 + 1 + 1 + 1 + 1, 2)
      repeat' (first | (refine awp_bag (x := (k + 1 + 1 + 1 + 1 + 1, 2)) (es := bsE bs) ?_ fun es' hp => ?_; (focus (simp only [go_sem, ]; done)); obtain ⟨bs', e', hp'⟩ := bag_perm hp; subst e'; simp only [go_sem]) | refine aQ fun K hK => ?_ | ((first | refine aK fun R hR => ?_ | refine aD mixed fun R hR => ?_); simp only [go_sem, hnn, hz, hz', e1, e2, hnm, hE, hE', beq_self_eq_true, bne_self_eq_false, List.length_map, Int.toNat_natCast]) | ((first | (refine hR _ ?_; clear hR R) | refine aZ rfl ?_); try refine aP ?_) | ((repeat (fail_if_success refine hK _ ?_); clear hK K); refine hK _ ?_; clear hK K) | refine aT ?_ | refine aF ?_ | refine aB ?_ | ((first | refine CallK.pure (enter98) (s1) ?_ ?_ | refine CallD.pure (enter98) (s1) ?_ ?_); (focus exact aC); simp only [go_sem, hnn, hz, hz', e1, e2, hnm, hE, hE', beq_self_eq_true, bne_self_eq_false, List.length_map, Int.toNat_natCast]) | ((first | refine CallK.pure (enter98) (s2) ?_ ?_ | refine CallD.pure (enter98) (s2) ?_ ?_); (focus exact aC); simp only [go_sem, hnn, hz, hz', e1, e2, hnm, hE, hE', beq_self_eq_true, bne_self_eq_false, List.length_map, Int.toNat_natCast]) | ((first | refine CallK.look (enter99) ((hP bs' hp' (k + 1 + 1 + 1 + 1 + 1, 2))) ?_ (mapRo (k := k + 1 + 1 + 1 + 1 + 1 + 1) _ (by simp only; omega) (by simp only [go_sem, ])) (Fr.rfl' _ _) ?_ | refine CallD.look (enter99) ((hP bs' hp' (k + 1 + 1 + 1 + 1 + 1, 2))) ?_ (mapRo (k := k + 1 + 1 + 1 + 1 + 1 + 1) _ (by simp only; omega) (by simp only [go_sem, ])) (Fr.rfl' _ _) (by first | assumption | exact List.cons_ne_nil _ _) ?_); (focus exact aC); simp only [go_sem, hnn, hz, hz', e1, e2, hnm, hE, hE', beq_self_eq_true, bne_self_eq_false, List.length_map, Int.toNat_natCast]) | ((first | refine CallK.eff (enter95) (hB) ?_ ?_ ?_ ?_ | refine CallD.eff (enter95) (hB) ?_ ?_ ?_ ?_); (focus exact aC); (focus (simp only [go_sem, hnn, hz, hz', e1, e2, hnm, hE, hE', beq_self_eq_true, bne_self_eq_false, List.length_map, Int.toNat_natCast]; done)); (focus (simp only [go_sem, hnn, hz, hz', e1, e2, hnm, hE, hE', beq_self_eq_true, bne_self_eq_false, List.length_map, Int.toNat_natCast]; done)); simp only [go_sem, hnn, hz, hz', e1, e2, hnm, hE, hE', beq_self_eq_true, bne_self_eq_false, List.length_map, Int.toNat_natCast]) | refine aN ?_ | fail)
      (first | refine ret_pure ?_ ?_ ?_ | refine ret_ro ?_ ?_ ?_); focus exact (okA Tryz.ntmps64 Tryz.results64)
      rotate_left; focus exact frT
      simp only [resA, resV, Tryz.results64, go_sem]
      all_goals try exact coA
     | true =>
      obtain rfl : E = 0 := by simpa using hE
      refine ⟨A, ?_, hok⟩
      clear o1 o2 hc hne hok hs B
      have hcw : (c.eraseIdx n).length ≤ 8 := Nat.le_trans (List.length_eraseIdx_le c n) hl
      generalize hew : c.eraseIdx n = cw at *
      have hW := fun n' => without_new c hn (by omega) n'
      rw [hew] at hW
      clear hew
      generalize sideG c[n] lt = P at *
      generalize sideG c[m] rt = Q at *
      generalize c[n] = X at *
      generalize c[m] = Y at *
      obtain ⟨xy, xa, xb⟩ := X
      obtain ⟨yy, ya, yb⟩ := Y
      simp only at hy hy'
      subst hy; subst hy'
      have ecl : clDV (cw ++ [⟨false, P.2, Q.2⟩]) = .sl (cw.map ltDV ++ [ltDV ⟨false, P.2, Q.2⟩]) := by show DV.sl _ = _; rw [List.map_append]; rfl
      simp only [ecl] at hM
      refine aE Tryz.func64 rfl Tryz.ntmps64 fun w0 h0 k hrd hwr => ?_
      refine awp_new fun hnew => ?_
      have hnn : NoNew h0 k := hnew
      have hnn := hnn.at
      have hn9 : ∀ j, h0 (k + 1 + 1 + 1 + 1 + 1 + 1 + 1 + 1 + 1, j) = none := fun j => hnew (k + 1 + 1 + 1 + 1 + 1 + 1 + 1 + 1 + 1, j) (by simp only; omega)
      have hB := hB (k + 1 + 1 + 1 + 1 + 1, 2)
      repeat' (first | (refine awp_bag (x := (k + 1 + 1 + 1 + 1 + 1, 2)) (es := bsE bs) ?_ fun es' hp => ?_; (focus (simp only [go_sem, ]; done)); obtain ⟨bs', e', hp'⟩ := bag_perm hp; subst e'; simp only [go_sem]) | refine aQ fun K hK => ?_ | ((first | refine aK fun R hR => ?_ | refine aD mixed fun R hR => ?_); simp only [go_sem, hnn, hn9, nat_ne8, hz, hz', e1, e2, hnm, beq_self_eq_true, bne_self_eq_false, List.length_map, Int.toNat_natCast]) | ((first | (refine hR _ ?_; clear hR R) | refine aZ rfl ?_); try refine aP ?_) | ((repeat (fail_if_success refine hK _ ?_); clear hK K); refine hK _ ?_; clear hK K) | refine aT ?_ | refine aF ?_ | refine aB ?_ | ((first | refine CallK.pure (enter98) (s1) ?_ ?_ | refine CallD.pure (enter98) (s1) ?_ ?_); (focus exact aC); simp only [go_sem, hnn, hn9, nat_ne8, hz, hz', e1, e2, hnm, beq_self_eq_true, bne_self_eq_false, List.length_map, Int.toNat_natCast]) | ((first | refine CallK.pure (enter98) (s2) ?_ ?_ | refine CallD.pure (enter98) (s2) ?_ ?_); (focus exact aC); simp only [go_sem, hnn, hn9, nat_ne8, hz, hz', e1, e2, hnm, beq_self_eq_true, bne_self_eq_false, List.length_map, Int.toNat_natCast]) | ((first | refine CallK.look (enter99) ((hP bs' hp' (k + 1 + 1 + 1 + 1 + 1, 2))) ?_ (mapRo (k := k + 1 + 1 + 1 + 1 + 1 + 1) _ (by simp only; omega) (by simp only [go_sem, ])) (Fr.rfl' _ _) ?_ | refine CallD.look (enter99) ((hP bs' hp' (k + 1 + 1 + 1 + 1 + 1, 2))) ?_ (mapRo (k := k + 1 + 1 + 1 + 1 + 1 + 1) _ (by simp only; omega) (by simp only [go_sem, ])) (Fr.rfl' _ _) (by first | assumption | exact List.cons_ne_nil _ _) ?_ | refine CallK.look (enter96) ((hM bs' hp' (k + 1 + 1 + 1 + 1 + 1, 2))) ?_ (mapRo (k := k + 1 + 1 + 1 + 1 + 1 + 1) _ (by simp only; omega) (by simp only [go_sem, ])) (Fr.rfl' _ _) ?_ | refine CallD.look (enter96) ((hM bs' hp' (k + 1 + 1 + 1 + 1 + 1, 2))) ?_ (mapRo (k := k + 1 + 1 + 1 + 1 + 1 + 1) _ (by simp only; omega) (by simp only [go_sem, ])) (Fr.rfl' _ _) (by first | assumption | exact List.cons_ne_nil _ _) ?_); (focus exact aC); simp only [go_sem, hnn, hn9, nat_ne8, hz, hz', e1, e2, hnm, beq_self_eq_true, bne_self_eq_false, List.length_map, Int.toNat_natCast]) | ((first | refine CallK.new rfl (enter97) (hW) ?_ ?_ ?_ | refine CallD.new rfl (enter97) (hW) ?_ ?_ ?_); (focus exact aC); (focus (simp only [go_sem, hnn, hn9, nat_ne8, hz, hz', e1, e2, hnm, beq_self_eq_true, bne_self_eq_false, List.length_map, Int.toNat_natCast]; done)); simp only [go_sem, hnn, hn9, nat_ne8, hz, hz', e1, e2, hnm, beq_self_eq_true, bne_self_eq_false, List.length_map, Int.toNat_natCast]) | ((first | refine CallK.eff (enter95) (hB) ?_ ?_ ?_ ?_ | refine CallD.eff (enter95) (hB) ?_ ?_ ?_ ?_); (focus exact aC); (focus (simp only [go_sem, hnn, hn9, nat_ne8, hz, hz', e1, e2, hnm, beq_self_eq_true, bne_self_eq_false, List.length_map, Int.toNat_natCast]; done)); (focus (simp only [go_sem, hnn, hn9, nat_ne8, hz, hz', e1, e2, hnm, beq_self_eq_true, bne_self_eq_false, List.length_map, Int.toNat_natCast]; done)); simp only [go_sem, hnn, hn9, nat_ne8, hz, hz', e1, e2, hnm, beq_self_eq_true, bne_self_eq_false, List.length_map, Int.toNat_natCast]) | refine aN ?_ | fail)
      (first | refine ret_pure ?_ ?_ ?_ | refine ret_ro ?_ ?_ ?_); focus exact (okA Tryz.ntmps64 Tryz.results64)
      rotate_left; focus exact frT
      simp only [resA, resV, Tryz.results64, go_sem]
      all_goals try exact coA
end Go.Proofs.YtmeekpinkfpnhabGreat
namespace Go.Proofs.YtmeekpinkfpnhabGreat
theorem atG_parts : ∀ (p : List Int) (t x : Tm), atG t p = some x → x ∈ parts t
 | [], t, x, h => by rw [atG] at h; cases h; exact parts_self t
 | i :: p, t, x, h => by
  obtain ⟨n, hn, rfl, k⟩ := atG_some h
  exact parts_kid (List.getElem_mem hn) (atG_parts p _ _ k)
def farOf (V : List Int) : Int := V.foldl max 0
theorem far_ge : ∀ (V : List Int) (a : Int), a ≤ V.foldl max a ∧ ∀ v ∈ V, v ≤ V.foldl max a
 | [], a => ⟨Int.le_refl a, by simp⟩
 | v :: V, a => by
  obtain ⟨h1, h2⟩ := far_ge V (max a v)
  rw [List.foldl_cons]
  refine ⟨by omega, fun w hw => ?_⟩
  rcases List.mem_cons.1 hw with rfl | hw
  ·omega
  ·exact h2 w hw
theorem far_le {b : Int} : ∀ (V : List Int) (a : Int), a ≤ b → (∀ v ∈ V, v ≤ b) → V.foldl max a ≤ b
 | [], a, h, _ => h
 | v :: V, a, h, hv => by
  rw [List.foldl_cons]
  exact far_le V _ (by have := hv v (by simp); omega) fun w hw => hv w (by simp [hw])
theorem far_own {g : List Int} {c : List Lt} (h : OwnC g c) : 0 ≤ farOf (standV c) ∧ farOf (standV c) ≤ 1000 := by
 refine ⟨(far_ge _ 0).1, far_le _ 0 (by omega) fun v hv => ?_⟩
 rw [stand_vars h] at hv
 exact (FormC.vars h.form v hv).2
theorem laid_form {g : List Int} {c : List Lt} (h : OwnC g c) {m : Nat} (hm : m < c.length) (tr : Bool) (p : List Int) {r x : Tm} (hr : own g r = 0) (hx : atG (sideG c[m] tr).1 p = some x) : FormC g (c.set m (laidL c[m] tr p r)) := by
 have o := sideG_own h hm tr
 exact form_set h.form m (form_laid (own_form o.1).1 (own_form o.2).1 (own_form hr).1 hx)
theorem lay_size : ∀ (p : List Int) (t u x : Tm), atG t p = some x → (layG t p u).size ≤ t.size + u.size
 | [], t, u, x, _ => by rw [layG]; omega
 | i :: p, t, u, x, h => by
  obtain ⟨n, hn, rfl, k⟩ := atG_some h
  have ih := lay_size p t.us[n] u x k
  rw [layG, Int.toNat_natCast, getD_at hn]
  have key : ∀ (us : List Tm) (n : Nat) (y : Tm) (hn : n < us.length), Tm.size.sizes (us.set n y) + us[n].size = Tm.size.sizes us + y.size := by
   intro us
   induction us with
   | nil => intro n y hn; exact absurd hn (Nat.not_lt_zero _)
   | cons a us ih2 =>
    intro n y hn
    cases n with
    | zero => simp only [List.set_cons_zero, Tm.size.sizes, List.getElem_cons_zero]; omega
    | succ n =>
     have := ih2 n y (by simpa using hn)
     simp only [List.set_cons_succ, Tm.size.sizes, List.getElem_cons_succ]; omega
  have := key t.us n (layG t.us[n] p u) hn
  obtain ⟨v, f, us⟩ := t
  simp only [Tm.us, Tm.v, Tm.f] at *
  rw [Tm.size, Tm.size]; omega
theorem laid_size {g : List Int} {c : List Lt} (h : OwnC g c) {m : Nat} (hm : m < c.length) (tr : Bool) (p : List Int) {r x : Tm} (hr : own g r = 0) (hx : atG (sideG c[m] tr).1 p = some x) : ∀ t ∈ termsOf (c.set m (laidL c[m] tr p r)), t.size ≤ 240 := by
 have o := sideG_own h hm tr
 have h1 := lay_size p _ r x hx
 have h2 := own_sz o.1
 have h3 := own_sz o.2
 have h4 := own_sz hr
 intro t ht
 obtain ⟨l, hl, h5⟩ := termsOf_mem ht
 rcases List.mem_or_eq_of_mem_set hl with hl | rfl
 ·have h6 := h l hl
  rcases h5 with rfl | rfl
  ·have := own_sz h6.1; omega
  ·have := own_sz h6.2; omega
 ·unfold laidL at h5
  cases tr with
  | true =>
   rcases h5 with rfl | rfl
   ·show (sideG c[m] true).2.size ≤ 240; omega
   ·show (layG (sideG c[m] true).1 p r).size ≤ 240; omega
  | false =>
   rcases h5 with rfl | rfl
   ·show (layG (sideG c[m] false).1 p r).size ≤ 240; omega
   ·show (sideG c[m] false).2.size ≤ 240; omega
end Go.Proofs.YtmeekpinkfpnhabGreat
namespace Go.Proofs.YtmeekpinkfpnhabGreat
open Go.RowKit
theorem setR_app : ∀ (xs pre old post : List AV), old.length = xs.length → setR (pre ++ (old ++ post)) pre.length xs = pre ++ (xs ++ post)
 | [], pre, old, post, h => by
  have : old = [] := List.eq_nil_of_length_eq_zero h
  subst this; rfl
 | x :: xs, pre, o :: old, post, h => by
  rw [setR]
  have e : (pre ++ (o :: old ++ post)).set pre.length x = (pre ++ [x]) ++ (old ++ post) := by
   rw [List.set_append_right _ _ (Nat.le_refl _)]; simp
  have h1 := setR_app xs (pre ++ [x]) old post (by simpa using h)
  rw [e, show pre.length + 1 = (pre ++ [x]).length by simp, h1]; simp
theorem flatC_cut {sz : Nat} {ys : List DV} (h : ∀ y ∈ ys, y.cells.length = sz) {i : Nat} (hi : i < ys.length) : ∃ pre post, pre.length = i * sz ∧ flatC ys = pre ++ (ys[i].cells.map AV.d ++ post) ∧ ∀ y : DV, flatC (ys.set i y) = pre ++ (y.cells.map AV.d ++ post) := by
 refine ⟨flatC (ys.take i), flatC (ys.drop (i + 1)), ?_, ?_, fun y => ?_⟩
 ·rw [flatC_len fun y hy => h y (List.mem_of_mem_take hy), List.length_take, Nat.min_eq_left (by omega)]
 ·have e : ys = ys.take i ++ ys[i] :: ys.drop (i + 1) := by rw [← List.drop_eq_getElem_cons hi, List.take_append_drop]
  refine (congrArg flatC e).trans ?_
  simp only [flatC, List.flatMap_append, List.flatMap_cons]
 ·rw [List.set_eq_take_append_cons_drop, if_pos hi]; simp [flatC]
theorem setR_flat {sz : Nat} {ys : List DV} (h : ∀ y ∈ ys, y.cells.length = sz) {i : Nat} (hi : i < ys.length) {y : DV} (hy : y.cells.length = sz) : setR (flatC ys) (i * sz) (y.cells.map AV.d) = flatC (ys.set i y) := by
 obtain ⟨pre, post, h1, h2, h3⟩ := flatC_cut h hi
 rw [h2, h3, ← h1]
 exact setR_app _ _ _ _ (by rw [List.length_map, List.length_map, h _ (List.getElem_mem hi), hy])
theorem flatC_read {sz : Nat} {ys : List DV} (h : ∀ y ∈ ys, y.cells.length = sz) {i : Nat} (hi : i < ys.length) : ((flatC ys).drop (i * sz)).take sz = ys[i].cells.map AV.d := by
 obtain ⟨pre, post, h1, h2, _⟩ := flatC_cut h hi
 rw [h2, ← h1, List.drop_left, List.take_left' (by rw [List.length_map]; exact h _ (List.getElem_mem hi))]
set_option maxHeartbeats 1000000 in
set_option maxRecDepth 20000 in
theorem lay_tri : ∀ (p : List Int) (t u x : Tm), atG t p = some x → p.length ≤ 4000000 → t.size ≤ 4000000 → Tri Tryz.prog 102 [.d (tmDV t), .d (.sl (p.map iD)), .d (tmDV u)] (pure' (.d (tmDV (layG t p u))))
 | [], t, u, x, _, _, _ => by
  have hz : ((((0 : Nat) : Int)) == 0) = true := rfl
  rw [layG]
  refine aE Tryz.func102 rfl Tryz.ntmps102 fun w0 h0 k hrd hwr => ?_
  repeat' (first | refine aQ fun K hK => ?_ | ((first | refine aK fun R hR => ?_ | refine aD mixed fun R hR => ?_); simp only [go_sem, hz]) | ((first | (refine hR _ ?_; clear hR R) | refine aZ rfl ?_); try refine aP ?_) | ((repeat (fail_if_success refine hK _ ?_); clear hK K); refine hK _ ?_; clear hK K) | refine aT ?_ | refine aF ?_ | refine aB ?_ | refine aN ?_ | fail)
  (first | refine ret_pure ?_ ?_ ?_ | refine ret_ro ?_ ?_ ?_); focus exact (okA Tryz.ntmps102 Tryz.results102)
  rotate_left; focus exact frA
  simp only [resA, resV, Tryz.results102, go_sem]
  all_goals try exact coA
  all_goals exact co_tm' rfl
 | i :: p, t, u, x, ha, hp, ht => by
  obtain ⟨n, hn, rfl, ha'⟩ := atG_some ha
  have hlen := t.len_lt
  rw [List.length_cons] at hp
  have hs := Tm.size_at hn
  have ih := lay_tri p t.us[n] u x ha' (by omega) (by omega)
  rw [layG, Int.toNat_natCast, getD_at hn]
  generalize layG t.us[n] p u = y at ih ⊢
  have hz : ((((p.length + 1 : Nat) : Int)) == 0) = false := by simp; omega
  have htk : (p.map iD).take p.length = p.map iD := List.take_of_length_le (by simp)
  have ht1 : Int.toNat 1 = 1 := rfl
  have ht0 : Int.toNat 0 = 0 := rfl
  have hz2 : (n : Int) < (t.us.length : Int) := by omega
  have hszs : ∀ y ∈ t.us.map tmDV, y.cells.length = 3 := map_sz (by intro a; simp only [go_sem])
  have hn' : n < (t.us.map tmDV).length := by rw [List.length_map]; exact hn
  have aRd := flatC_read hszs hn'
  have aWr := setR_flat hszs hn' (y := tmDV y) (by rw [tmDV_cells]; rfl)
  rw [List.getElem_map, tmDV_cells] at aRd
  rw [tmDV_cells, ← List.map_set] at aWr
  have hfl := flatC_len hszs
  rw [List.length_map] at hfl
  have hb : n * 3 + 3 ≤ t.us.length * 3 := by omega
  simp only [List.map_cons, List.map_nil] at aRd aWr
  have hszs2 : ∀ z ∈ (t.us.set n y).map tmDV, z.cells.length = 3 := map_sz (by intro a; simp only [go_sem])
  have hlen2 : t.us.length = ((t.us.set n y).map tmDV).length := by rw [List.length_map, List.length_set]
  refine aE Tryz.func102 rfl Tryz.ntmps102 fun w0 h0 k hrd hwr => ?_
  refine awp_new fun hnew => ?_
  have hnn : NoNew h0 k := hnew
  have hnn := hnn.at
  have hcl := cloneA_terms t.us (by omega) (by omega)
  repeat' (first | (refine CallK.arr rfl (enter126) hcl ?_ ?_ ?_; (focus exact ⟨.inl rfl, trivial⟩); (focus (simp only [go_sem, hnn]; done)); simp only [go_sem, hnn]) | (refine awp_ghost (ghost_freeze (i := 7) (n := (k + 1 + 1, 2)) (e := 63) (ys := (t.us.set n y).map tmDV) (len := t.us.length) (sz := 3) ?_ ?_ hlen2 hszs2) ?_; (focus (simp only [go_sem]; done)); (focus (simp only [go_sem]; done)); simp only [go_sem]) | refine aQ fun K hK => ?_ | ((first | refine aK fun R hR => ?_ | refine aD mixed fun R hR => ?_); simp only [go_sem, hz, hz2, hnn, htk, ht1, ht0, hfl, aRd, aWr, hb, beq_self_eq_true, List.length_map, Int.toNat_natCast]) | ((first | (refine hR _ ?_; clear hR R) | refine aZ rfl ?_); try refine aP ?_) | ((repeat (fail_if_success refine hK _ ?_); clear hK K); refine hK _ ?_; clear hK K) | refine aT ?_ | refine aF ?_ | refine aB ?_ | ((first | refine CallK.pure (enter102) (ih) ?_ ?_ | refine CallD.pure (enter102) (ih) ?_ ?_); (focus exact aC); simp only [go_sem, hz, hz2, hnn, htk, ht1, ht0, hfl, aRd, aWr, hb, beq_self_eq_true, List.length_map, Int.toNat_natCast]) | refine aN ?_ | fail)
  (first | refine ret_pure ?_ ?_ ?_ | refine ret_ro ?_ ?_ ?_); focus exact (okA Tryz.ntmps102 Tryz.results102)
  rotate_left; focus exact frA
  simp only [resA, resV, Tryz.results102, go_sem]
  all_goals try exact coA
  all_goals exact co_tm rfl
end Go.Proofs.YtmeekpinkfpnhabGreat
