/- Package infer: put, whole. -/
import Derived.Test.YtmeekpinkfpnhabGreatP32
set_option linter.all false
namespace Go.Proofs.YtmeekpinkfpnhabGreat
open Go.RowKit
section
variable {g : List Int} (c d : List Lt) (kind left right : Int) (n m : Nat) (lt rt : Bool) (place : List Int) (hc : OwnC g c) (hd : OwnC g d) (hlc : c.length ≤ 8) (hld : d.length ≤ 8) (hn : n < c.length) (hm : m < d.length) (hp : place.length ≤ 4000000)
include hc hd hlc hld hn hm hp
set_option maxHeartbeats 4000000 in
set_option maxRecDepth 20000 in
theorem put_none (hat : atG (sideG d[m] rt).1 place = none) : Tri Tryz.prog 65 [.d (clDV c), .d (clDV d), .d (ifDV ⟨kind, left, right, n, m, lt, rt, place⟩)] (pure' (.tup [.d (clDV []), iA 5])) := by
 have hz : (n : Int) < (c.length : Int) := by omega
 have hz' : (m : Int) < (d.length : Int) := by omega
 have e1 : (c.map ltDV).getD n default = ltDV c[n] := nth_map ltDV hn _
 have e2 : (d.map ltDV).getD m default = ltDV d[m] := nth_map ltDV hm _
 have o2 := sideG_own hd hm rt
 have s1 := ifSides_tri d[m] rt
 have f1 := find_tri place _ hp (show (sideG d[m] rt).1.size ≤ 4000000 by have := own_sz o2.1; omega)
 have ea : atA (sideG d[m] rt).1 place = (tm0, false) := by unfold atA; rw [hat]
 rw [ea] at f1
 clear o2 ea hat
 generalize sideG d[m] rt = Q at *
 refine aE Tryz.func65 rfl Tryz.ntmps65 fun w0 h0 k hrd hwr => ?_
 repeat' (first | refine aQ fun K hK => ?_ | ((first | refine aK fun R hR => ?_ | refine aD mixed fun R hR => ?_); simp only [go_sem, hz, hz', e1, e2, List.length_map, Int.toNat_natCast]) | ((first | (refine hR _ ?_; clear hR R) | refine aZ rfl ?_); try refine aP ?_) | ((repeat (fail_if_success refine hK _ ?_); clear hK K); refine hK _ ?_; clear hK K) | refine aT ?_ | refine aF ?_ | refine aB ?_ | ((first | refine CallK.pure (enter98) (s1) ?_ ?_ | refine CallD.pure (enter98) (s1) ?_ ?_ | refine CallK.pure (enter100) (f1) ?_ ?_ | refine CallD.pure (enter100) (f1) ?_ ?_); (focus exact aC); simp only [go_sem, hz, hz', e1, e2, List.length_map, Int.toNat_natCast]) | refine aN ?_ | fail)
 (first | refine ret_pure ?_ ?_ ?_ | refine ret_ro ?_ ?_ ?_); focus exact (okA Tryz.ntmps65 Tryz.results65)
 rotate_left; focus exact frT
 simp only [resA, resV, Tryz.results65, go_sem]
 all_goals try exact coA
set_option maxHeartbeats 4000000 in
set_option maxRecDepth 20000 in
theorem put_no {x : Tm} (hat : atG (sideG d[m] rt).1 place = some x) (h : c[n].y = false ∨ x.v > 0) : Tri Tryz.prog 65 [.d (clDV c), .d (clDV d), .d (ifDV ⟨kind, left, right, n, m, lt, rt, place⟩)] (pure' (.tup [.d (clDV []), iA 4])) := by
 have hz : (n : Int) < (c.length : Int) := by omega
 have hz' : (m : Int) < (d.length : Int) := by omega
 have e1 : (c.map ltDV).getD n default = ltDV c[n] := nth_map ltDV hn _
 have e2 : (d.map ltDV).getD m default = ltDV d[m] := nth_map ltDV hm _
 have o2 := sideG_own hd hm rt
 have s1 := ifSides_tri d[m] rt
 have f1 := find_tri place _ hp (show (sideG d[m] rt).1.size ≤ 4000000 by have := own_sz o2.1; omega)
 have ea : atA (sideG d[m] rt).1 place = (x, true) := by unfold atA; rw [hat]
 rw [ea] at f1
 clear o2 ea hat
 generalize sideG d[m] rt = Q at *
 cases hy : c[n].y with
 | false =>
  refine aE Tryz.func65 rfl Tryz.ntmps65 fun w0 h0 k hrd hwr => ?_
  repeat' (first | refine aQ fun K hK => ?_ | ((first | refine aK fun R hR => ?_ | refine aD mixed fun R hR => ?_); simp only [go_sem, hz, hz', e1, e2, hy, List.length_map, Int.toNat_natCast]) | ((first | (refine hR _ ?_; clear hR R) | refine aZ rfl ?_); try refine aP ?_) | ((repeat (fail_if_success refine hK _ ?_); clear hK K); refine hK _ ?_; clear hK K) | refine aT ?_ | refine aF ?_ | refine aB ?_ | ((first | refine CallK.pure (enter98) (s1) ?_ ?_ | refine CallD.pure (enter98) (s1) ?_ ?_ | refine CallK.pure (enter100) (f1) ?_ ?_ | refine CallD.pure (enter100) (f1) ?_ ?_); (focus exact aC); simp only [go_sem, hz, hz', e1, e2, hy, List.length_map, Int.toNat_natCast]) | refine aN ?_ | fail)
  (first | refine ret_pure ?_ ?_ ?_ | refine ret_ro ?_ ?_ ?_); focus exact (okA Tryz.ntmps65 Tryz.results65)
  rotate_left; focus exact frT
  simp only [resA, resV, Tryz.results65, go_sem]
  all_goals try exact coA
 | true =>
  have hv : decide (x.v > 0) = true := by rw [hy] at h; simpa using h
  refine aE Tryz.func65 rfl Tryz.ntmps65 fun w0 h0 k hrd hwr => ?_
  repeat' (first | refine aQ fun K hK => ?_ | ((first | refine aK fun R hR => ?_ | refine aD mixed fun R hR => ?_); simp only [go_sem, hz, hz', e1, e2, hy, hv, List.length_map, Int.toNat_natCast]) | ((first | (refine hR _ ?_; clear hR R) | refine aZ rfl ?_); try refine aP ?_) | ((repeat (fail_if_success refine hK _ ?_); clear hK K); refine hK _ ?_; clear hK K) | refine aT ?_ | refine aF ?_ | refine aB ?_ | ((first | refine CallK.pure (enter98) (s1) ?_ ?_ | refine CallD.pure (enter98) (s1) ?_ ?_ | refine CallK.pure (enter100) (f1) ?_ ?_ | refine CallD.pure (enter100) (f1) ?_ ?_); (focus exact aC); simp only [go_sem, hz, hz', e1, e2, hy, hv, List.length_map, Int.toNat_natCast]) | refine aN ?_ | fail)
  (first | refine ret_pure ?_ ?_ ?_ | refine ret_ro ?_ ?_ ?_); focus exact (okA Tryz.ntmps65 Tryz.results65)
  rotate_left; focus exact frT
  simp only [resA, resV, Tryz.results65, go_sem]
  all_goals try exact coA
end
theorem setR_part {L : List Lt} {m : Nat} (hm : m < L.length) {a b old cs : List AV} {y : Lt} (h1 : (ltDV L[m]).cells.map AV.d = a ++ (old ++ b)) (h2 : old.length = cs.length) (h3 : (ltDV y).cells.map AV.d = a ++ (cs ++ b)) : setR (flatC (L.map ltDV)) (m * 7 + a.length) cs = flatC ((L.set m y).map ltDV) := by
 have hszs : ∀ y ∈ L.map ltDV, y.cells.length = 7 := map_sz (by intro a; simp only [go_sem])
 obtain ⟨pre, post, q1, q2, q3⟩ := flatC_cut hszs (i := m) (by rw [List.length_map]; exact hm)
 rw [List.getElem_map, h1] at q2
 have q3 := q3 (ltDV y)
 rw [← List.map_set, h3] at q3
 rw [q2, q3, ← q1, show pre ++ (a ++ (old ++ b) ++ post) = (pre ++ a) ++ (old ++ (b ++ post)) by simp, show pre ++ (a ++ (cs ++ b) ++ post) = (pre ++ a) ++ (cs ++ (b ++ post)) by simp, ← List.length_append]
 exact setR_app _ _ _ _ h2
section
variable (cl cr : List Lt) (kind left right far : Int) (n m : Nat) (lt rt : Bool) (place : List Int) (xa xb x : Tm) {w0 : World} {h0 : Heap} {k : Nat} {fn : Func} (hfn : fn = Tryz.f65) (σ : St)
 (s0 : σ.t 0 = .d (clDV cl)) (s1 : σ.t 1 = .d (clDV cr)) (s5 : σ.t 5 = .ptr (k, 0) 0) (s8 : σ.t 8 = .ptr (k + 1, 5) 0) (s11 : σ.t 11 = .ptr (k + 1 + 1 + 1, 7) 0) (s13 : σ.t 13 = iA far)
 (b0 : σ.h (k, 0) = some (.cells 40 [.d (iD kind), .d (iD left), .d (iD right), .d (iD n), .d (iD m), .d (bD lt), .d (bD rt), .d (.sl (place.map iD))]))
 (b8 : σ.h (k + 1, 5) = some (.cells 66 [.d (bD true), .d (iD xa.v), .d (iD xa.f), .d (.sl (xa.us.map tmDV)), .d (iD xb.v), .d (iD xb.f), .d (.sl (xb.us.map tmDV))]))
 (b11 : σ.h (k + 1 + 1 + 1, 7) = some (.cells 63 [.d (iD x.v), .d (iD x.f), .d (.sl (x.us.map tmDV))])) (hF : Fr k h0 σ.h) (hk : k + 1 + 1 + 1 < σ.k)
include s0 s1 s5 s8 s11 s13 b0 b8 b11 hF hk hfn
set_option maxHeartbeats 4000000 in
set_option maxRecDepth 20000 in
theorem putT_many (hMv : Tri Tryz.prog 101 [.d (clDV cr), iA far] (pure' (.tup [.d (clDV []), iA 2]))) {N : Nat} {c : Code} (hN : (Tryz.f65).ntmps = N) (hc : bodyAt (Tryz.f65) [true,true,true,true,true,true,true] = some c) : awp Tryz.prog w0 N c (retQ Tryz.prog fn (pure' (.tup [.d (clDV []), iA 2])) h0 k) σ := by
 subst hfn
 obtain rfl := (Tryz.ntmps65).symm.trans hN; obtain rfl := Option.some.inj (show some _ = some c from hc); clear hN hc
 have r0 := ltne (show k < σ.k by omega)
 have r1 := ltne (show k + 1 < σ.k by omega)
 have r3 := ltne hk
 repeat' (first | refine aQ fun K hK => ?_ | ((first | refine aK fun R hR => ?_ | refine aD mixed fun R hR => ?_); simp only [go_sem, s0, s1, s5, s8, s11, s13, b0, b8, b11, r0, r1, r3, List.length_map, Int.toNat_natCast]) | ((first | (refine hR _ ?_; clear hR R) | refine aZ rfl ?_); try refine aP ?_) | ((repeat (fail_if_success refine hK _ ?_); clear hK K); refine hK _ ?_; clear hK K) | refine aT ?_ | refine aF ?_ | refine aB ?_ | ((first | refine CallK.pure (enter101) (hMv) ?_ ?_ | refine CallD.pure (enter101) (hMv) ?_ ?_); (focus exact aC); simp only [go_sem, s0, s1, s5, s8, s11, s13, b0, b8, b11, r0, r1, r3, List.length_map, Int.toNat_natCast]) | refine aN ?_ | fail)
 (first | refine ret_pure ?_ ?_ ?_ | refine ret_ro ?_ ?_ ?_); focus exact (okA Tryz.ntmps65 Tryz.results65)
 rotate_left; focus exact frT
 simp only [resA, resV, Tryz.results65, go_sem]
 all_goals try exact coA
variable (cr' : List Lt) (P Q : Tm × Tm) (x' : Tm) (wy : Bool) (wa wb : Tm) (hm : m < cr'.length) (hW : cr'[m] = ⟨wy, wa, wb⟩) (hlr : cr'.length ≤ 8)
 (hMv : Tri Tryz.prog 101 [.d (clDV cr), iA far] (pure' (.tup [.d (clDV cr'), iA 0])))
 (sL : Tri Tryz.prog 98 [.d (ltDV ⟨true, xa, xb⟩), bA lt] (pure' (.tup [.d (tmDV P.1), .d (tmDV P.2)])))
 (sR : Tri Tryz.prog 98 [.d (ltDV ⟨wy, wa, wb⟩), bA rt] (pure' (.tup [.d (tmDV Q.1), .d (tmDV Q.2)])))
 (hFd : Tri Tryz.prog 100 [.d (tmDV Q.1), .d (.sl (place.map iD))] (pure' (.tup [.d (tmDV x'), bA true])))
include hm hW hlr hMv sL sR hFd
set_option maxHeartbeats 4000000 in
set_option maxRecDepth 20000 in
theorem putT_both (e : Int) (he : e ≠ 0) (hB : Tri Tryz.prog 95 [.d (tmDV P.1), .d (tmDV x')] (pure' (.tup [.d (.v (.map none)), iA e]))) {N : Nat} {c : Code} (hN : (Tryz.f65).ntmps = N) (hc : bodyAt (Tryz.f65) [true,true,true,true,true,true,true] = some c) : awp Tryz.prog w0 N c (retQ Tryz.prog fn (pure' (.tup [.d (clDV []), iA e])) h0 k) σ := by
 subst hfn
 obtain rfl := (Tryz.ntmps65).symm.trans hN; obtain rfl := Option.some.inj (show some _ = some c from hc); clear hN hc
 have r0 := ltne (show k < σ.k by omega)
 have r1 := ltne (show k + 1 < σ.k by omega)
 have r3 := ltne hk
 have hz' : (m : Int) < (cr'.length : Int) := by omega
 have e2 : (cr'.map ltDV).getD m default = ltDV ⟨wy, wa, wb⟩ := by rw [← hW]; exact nth_map ltDV hm _
 have he' : (e != 0) = true := by simpa using he
 have he2 : (e == 0) = false := by simpa using he
 repeat' (first | refine aQ fun K hK => ?_ | ((first | refine aK fun R hR => ?_ | refine aD mixed fun R hR => ?_); simp only [go_sem, s0, s1, s5, s8, s11, s13, b0, b8, b11, r0, r1, r3, hz', e2, he', he2, bne_self_eq_false, beq_self_eq_true, List.length_map, Int.toNat_natCast]) | ((first | (refine hR _ ?_; clear hR R) | refine aZ rfl ?_); try refine aP ?_) | ((repeat (fail_if_success refine hK _ ?_); clear hK K); refine hK _ ?_; clear hK K) | refine aT ?_ | refine aF ?_ | refine aB ?_ | ((first | refine CallK.pure (enter98) (sL) ?_ ?_ | refine CallD.pure (enter98) (sL) ?_ ?_); (focus exact aC); simp only [go_sem, s0, s1, s5, s8, s11, s13, b0, b8, b11, r0, r1, r3, hz', e2, he', he2, bne_self_eq_false, beq_self_eq_true, List.length_map, Int.toNat_natCast]) | ((first | refine CallK.pure (enter98) (sR) ?_ ?_ | refine CallD.pure (enter98) (sR) ?_ ?_); (focus exact aC); simp only [go_sem, s0, s1, s5, s8, s11, s13, b0, b8, b11, r0, r1, r3, hz', e2, he', he2, bne_self_eq_false, beq_self_eq_true, List.length_map, Int.toNat_natCast]) | ((first | refine CallK.pure (enter101) (hMv) ?_ ?_ | refine CallD.pure (enter101) (hMv) ?_ ?_ | refine CallK.pure (enter100) (hFd) ?_ ?_ | refine CallD.pure (enter100) (hFd) ?_ ?_ | refine CallK.pure (enter95) (hB) ?_ ?_ | refine CallD.pure (enter95) (hB) ?_ ?_); (focus exact aC); simp only [go_sem, s0, s1, s5, s8, s11, s13, b0, b8, b11, r0, r1, r3, hz', e2, he', he2, bne_self_eq_false, beq_self_eq_true, List.length_map, Int.toNat_natCast]) | refine aN ?_ | fail)
 (first | refine ret_pure ?_ ?_ ?_ | refine ret_ro ?_ ?_ ?_); focus exact (okA Tryz.ntmps65 Tryz.results65)
 rotate_left; focus exact frT
 simp only [resA, resV, Tryz.results65, go_sem]
 all_goals try exact coA
variable (bs : Bs) (hB : ∀ n', Tri Tryz.prog 95 [.d (tmDV P.1), .d (tmDV x')] (bagE n' (bsE bs) (.tup [.map n', iA 0])))
include hB
set_option maxHeartbeats 4000000 in
set_option maxRecDepth 20000 in
theorem putT_pairs (E : Int) (hE0 : E ≠ 0) (hP : ∀ bs', bs.Perm bs' → ∀ mm, Tri Tryz.prog 99 [.map mm, .d (.sl ((flatPr [(P.1, P.2), (Q.1, Q.2)]).map tmDV))] (rdE [(mm, .map (bsE bs'))] (iA E))) {N : Nat} {c : Code} (hN : (Tryz.f65).ntmps = N) (hc : bodyAt (Tryz.f65) [true,true,true,true,true,true,true] = some c) : awp Tryz.prog w0 N c (retQ Tryz.prog fn (pure' (.tup [.d (clDV []), iA E])) h0 k) σ := by
 subst hfn
 obtain rfl := (Tryz.ntmps65).symm.trans hN; obtain rfl := Option.some.inj (show some _ = some c from hc); clear hN hc
 have r0 := ltne (show k < σ.k by omega)
 have r1 := ltne (show k + 1 < σ.k by omega)
 have r3 := ltne hk
 have hz' : (m : Int) < (cr'.length : Int) := by omega
 have e2 : (cr'.map ltDV).getD m default = ltDV ⟨wy, wa, wb⟩ := by rw [← hW]; exact nth_map ltDV hm _
 have he' : (E != 0) = true := by simpa using hE0
 have he2 : (E == 0) = false := by simpa using hE0
 refine awp_new fun hnew => ?_
 have hnn := hnew.at
 have hB := hB (σ.k + 1 + 1 + 1 + 1 + 1, 2)
 repeat' (first | (refine awp_bag (x := (σ.k + 1 + 1 + 1 + 1 + 1, 2)) (es := bsE bs) ?_ fun es' hp => ?_; (focus (simp only [go_sem, ]; done)); obtain ⟨bs', e', hp'⟩ := bag_perm hp; subst e'; simp only [go_sem]) | refine aQ fun K hK => ?_ | ((first | refine aK fun R hR => ?_ | refine aD mixed fun R hR => ?_); simp only [go_sem, s0, s1, s5, s8, s11, s13, b0, b8, b11, r0, r1, r3, hnn, nat_ne8, hz', e2, he', he2, bne_self_eq_false, beq_self_eq_true, List.length_map, Int.toNat_natCast]) | ((first | (refine hR _ ?_; clear hR R) | refine aZ rfl ?_); try refine aP ?_) | ((repeat (fail_if_success refine hK _ ?_); clear hK K); refine hK _ ?_; clear hK K) | refine aT ?_ | refine aF ?_ | refine aB ?_ | ((first | refine CallK.pure (enter98) (sL) ?_ ?_ | refine CallD.pure (enter98) (sL) ?_ ?_); (focus exact aC); simp only [go_sem, s0, s1, s5, s8, s11, s13, b0, b8, b11, r0, r1, r3, hnn, nat_ne8, hz', e2, he', he2, bne_self_eq_false, beq_self_eq_true, List.length_map, Int.toNat_natCast]) | ((first | refine CallK.pure (enter98) (sR) ?_ ?_ | refine CallD.pure (enter98) (sR) ?_ ?_); (focus exact aC); simp only [go_sem, s0, s1, s5, s8, s11, s13, b0, b8, b11, r0, r1, r3, hnn, nat_ne8, hz', e2, he', he2, bne_self_eq_false, beq_self_eq_true, List.length_map, Int.toNat_natCast]) | ((first | refine CallK.pure (enter101) (hMv) ?_ ?_ | refine CallD.pure (enter101) (hMv) ?_ ?_ | refine CallK.pure (enter100) (hFd) ?_ ?_ | refine CallD.pure (enter100) (hFd) ?_ ?_ | refine CallK.look (enter99) ((hP bs' hp' (σ.k + 1 + 1 + 1 + 1 + 1, 2))) ?_ (mapRo (k := σ.k + 1 + 1 + 1 + 1 + 1 + 1) _ (by simp only; omega) (by simp only [go_sem, ])) (Fr.rfl' _ _) ?_ | refine CallD.look (enter99) ((hP bs' hp' (σ.k + 1 + 1 + 1 + 1 + 1, 2))) ?_ (mapRo (k := σ.k + 1 + 1 + 1 + 1 + 1 + 1) _ (by simp only; omega) (by simp only [go_sem, ])) (Fr.rfl' _ _) (by first | assumption | exact List.cons_ne_nil _ _) ?_); (focus exact aC); simp only [go_sem, s0, s1, s5, s8, s11, s13, b0, b8, b11, r0, r1, r3, hnn, nat_ne8, hz', e2, he', he2, bne_self_eq_false, beq_self_eq_true, List.length_map, Int.toNat_natCast]) | ((first | refine CallK.eff (enter95) (hB) ?_ ?_ ?_ ?_ | refine CallD.eff (enter95) (hB) ?_ ?_ ?_ ?_); (focus exact aC); (focus (simp only [go_sem, s0, s1, s5, s8, s11, s13, b0, b8, b11, r0, r1, r3, hnn, nat_ne8, hz', e2, he', he2, bne_self_eq_false, beq_self_eq_true, List.length_map, Int.toNat_natCast]; done)); (focus (simp only [go_sem, s0, s1, s5, s8, s11, s13, b0, b8, b11, r0, r1, r3, hnn, nat_ne8, hz', e2, he', he2, bne_self_eq_false, beq_self_eq_true, List.length_map, Int.toNat_natCast]; done)); simp only [go_sem, s0, s1, s5, s8, s11, s13, b0, b8, b11, r0, r1, r3, hnn, nat_ne8, hz', e2, he', he2, bne_self_eq_false, beq_self_eq_true, List.length_map, Int.toNat_natCast]) | refine aN ?_ | fail)
 (first | refine ret_pure ?_ ?_ ?_ | refine ret_ro ?_ ?_ ?_); focus exact (okA Tryz.ntmps65 Tryz.results65)
 rotate_left; focus exact frT
 simp only [resA, resV, Tryz.results65, go_sem]
 all_goals try exact coA
end
section
variable (cl cr : List Lt) (kind left right far : Int) (n m : Nat) (lt rt : Bool) (place : List Int) (xa xb x : Tm) {w0 : World} {h0 : Heap} {k : Nat} {fn : Func} (hfn : fn = Tryz.f65) (σ : St)
 (s0 : σ.t 0 = .d (clDV cl)) (s1 : σ.t 1 = .d (clDV cr)) (s5 : σ.t 5 = .ptr (k, 0) 0) (s8 : σ.t 8 = .ptr (k + 1, 5) 0) (s11 : σ.t 11 = .ptr (k + 1 + 1 + 1, 7) 0) (s13 : σ.t 13 = iA far)
 (b0 : σ.h (k, 0) = some (.cells 40 [.d (iD kind), .d (iD left), .d (iD right), .d (iD n), .d (iD m), .d (bD lt), .d (bD rt), .d (.sl (place.map iD))]))
 (b8 : σ.h (k + 1, 5) = some (.cells 66 [.d (bD true), .d (iD xa.v), .d (iD xa.f), .d (.sl (xa.us.map tmDV)), .d (iD xb.v), .d (iD xb.f), .d (.sl (xb.us.map tmDV))]))
 (b11 : σ.h (k + 1 + 1 + 1, 7) = some (.cells 63 [.d (iD x.v), .d (iD x.f), .d (.sl (x.us.map tmDV))])) (hF : Fr k h0 σ.h) (hk : k + 1 + 1 + 1 < σ.k)
include s0 s1 s5 s8 s11 s13 b0 b8 b11 hF hk hfn
variable (cr' : List Lt) (P Q : Tm × Tm) (x' : Tm) (wy : Bool) (wa wb : Tm) (hm : m < cr'.length) (hW : cr'[m] = ⟨wy, wa, wb⟩) (hlr : cr'.length ≤ 8)
 (hMv : Tri Tryz.prog 101 [.d (clDV cr), iA far] (pure' (.tup [.d (clDV cr'), iA 0])))
 (sL : Tri Tryz.prog 98 [.d (ltDV ⟨true, xa, xb⟩), bA lt] (pure' (.tup [.d (tmDV P.1), .d (tmDV P.2)])))
 (sR : Tri Tryz.prog 98 [.d (ltDV ⟨wy, wa, wb⟩), bA rt] (pure' (.tup [.d (tmDV Q.1), .d (tmDV Q.2)])))
 (hFd : Tri Tryz.prog 100 [.d (tmDV Q.1), .d (.sl (place.map iD))] (pure' (.tup [.d (tmDV x'), bA true])))
include hm hW hlr hMv sL sR hFd
variable (bs : Bs) (hB : ∀ n', Tri Tryz.prog 95 [.d (tmDV P.1), .d (tmDV x')] (bagE n' (bsE bs) (.tup [.map n', iA 0])))
include hB
variable (U : Tm) (A : List Lt × Int) (hn : n < cl.length) (hll : cl.length ≤ 8) (cw : List Lt) (hew : cl.eraseIdx n = cw)
 (hP : ∀ bs', bs.Perm bs' → ∀ mm, Tri Tryz.prog 99 [.map mm, .d (.sl ((flatPr [(P.1, P.2), (Q.1, Q.2)]).map tmDV))] (rdE [(mm, .map (bsE bs'))] (iA 0)))
 (hL : Tri Tryz.prog 102 [.d (tmDV Q.1), .d (.sl (place.map iD)), .d (tmDV P.2)] (pure' (.d (tmDV U))))
include hn hll hew hP hL
set_option maxHeartbeats 8000000 in
set_option maxRecDepth 20000 in
theorem putT_left (hrt : rt = false) (hM : ∀ bs', bs.Perm bs' → ∀ mm, Tri Tryz.prog 96 [.map mm, .d (clDV (cw ++ cr'.set m ⟨wy, U, Q.2⟩))] (rdE [(mm, .map (bsE bs'))] (.tup [.d (clDV A.1), iA A.2]))) {N : Nat} {c : Code} (hN : (Tryz.f65).ntmps = N) (hc : bodyAt (Tryz.f65) [true,true,true,true,true,true,true] = some c) : awp Tryz.prog w0 N c (retQ Tryz.prog fn (pure' (.tup [.d (clDV A.1), iA A.2])) h0 k) σ := by
 subst hfn; subst hrt
 obtain rfl := (Tryz.ntmps65).symm.trans hN; obtain rfl := Option.some.inj (show some _ = some c from hc); clear hN hc
 have r0 := ltne (show k < σ.k by omega)
 have r1 := ltne (show k + 1 < σ.k by omega)
 have r3 := ltne hk
 have hz' : (m : Int) < (cr'.length : Int) := by omega
 have e2 : (cr'.map ltDV).getD m default = ltDV ⟨wy, wa, wb⟩ := by rw [← hW]; exact nth_map ltDV hm _
 have hcw : cw.length ≤ 8 := by rw [← hew]; exact Nat.le_trans (List.length_eraseIdx_le cl n) hll
 have hWo := fun n' => without_new cl hn (by omega) n'
 rw [hew] at hWo
 have hszs : ∀ y ∈ cr'.map ltDV, y.cells.length = 7 := map_sz (by intro a; simp only [go_sem])
 have hm' : m < (cr'.map ltDV).length := by rw [List.length_map]; exact hm
 have aWr := setR_flat hszs hm' (y := ltDV ⟨wy, U, Q.2⟩) (by simp only [go_sem])
 rw [ltDV_cells, ← List.map_set] at aWr
 have hfl := flatC_len hszs
 rw [List.length_map] at hfl
 have hb : m * 7 + 7 ≤ cr'.length * 7 := by omega
 simp only [List.map_cons, List.map_nil] at aWr
 have hszs2 : ∀ z ∈ (cr'.set m ⟨wy, U, Q.2⟩).map ltDV, z.cells.length = 7 := map_sz (by intro a; simp only [go_sem])
 have hlen2 : cr'.length = ((cr'.set m ⟨wy, U, Q.2⟩).map ltDV).length := by rw [List.length_map, List.length_set]
 have hsl : (cr'.set m ⟨wy, U, Q.2⟩).length = cr'.length := List.length_set ..
 have hcl := cloneA_lits cr' (by omega) (by omega)
 refine awp_new fun hnew => ?_
 have hnn := hnew.at
 have hn10 : ∀ j, σ.h (σ.k + 1 + 1 + 1 + 1 + 1 + 1 + 1 + 1 + 1 + 1, j) = none := fun j => hnew (σ.k + 1 + 1 + 1 + 1 + 1 + 1 + 1 + 1 + 1 + 1, j) (by simp only; omega)
 have hn13 : ∀ j, σ.h (σ.k + 1 + 1 + 1 + 1 + 1 + 1 + 1 + 1 + 1 + 1 + 1 + 1 + 1, j) = none := fun j => hnew (σ.k + 1 + 1 + 1 + 1 + 1 + 1 + 1 + 1 + 1 + 1 + 1 + 1 + 1, j) (by simp only; omega)
 have hB := hB (σ.k + 1 + 1 + 1 + 1 + 1, 2)
 repeat' (first | (refine awp_bag (x := (σ.k + 1 + 1 + 1 + 1 + 1, 2)) (es := bsE bs) ?_ fun es' hp => ?_; (focus (simp only [go_sem, ]; done)); obtain ⟨bs', e', hp'⟩ := bag_perm hp; subst e'; simp only [go_sem]) | (refine awp_ghost (ghost_freeze (i := 22) (n := (σ.k + 1 + 1 + 1 + 1 + 1 + 1 + 1 + 1 + 1 + 1, 1)) (e := 66) (ys := (cr'.set m ⟨wy, U, Q.2⟩).map ltDV) (len := cr'.length) (sz := 7) ?_ ?_ hlen2 hszs2) ?_; (focus (simp only [go_sem]; done)); (focus (simp only [go_sem]; done)); simp only [go_sem]) | (refine CallK.arr rfl (enter103) hcl ?_ ?_ ?_; (focus exact ⟨.inl rfl, trivial⟩); (focus (simp only [go_sem, hnn, hn10, and_false, if_false]; done)); simp only [go_sem, hnn, hn10, and_false, if_false]) | refine aQ fun K hK => ?_ | ((first | refine aK fun R hR => ?_ | refine aD mixed fun R hR => ?_); simp only [go_sem, s0, s1, s5, s8, s11, s13, b0, b8, b11, r0, r1, r3, hnn, hn10, hn13, nat_ne8, nat_ne13, and_false, hz', e2, hfl, aWr, hb, bne_self_eq_false, beq_self_eq_true, List.length_map, Int.toNat_natCast]) | ((first | (refine hR _ ?_; clear hR R) | refine aZ rfl ?_); try refine aP ?_) | ((repeat (fail_if_success refine hK _ ?_); clear hK K); refine hK _ ?_; clear hK K) | refine aT ?_ | refine aF ?_ | refine aB ?_ | ((first | refine CallK.pure (enter98) (sL) ?_ ?_ | refine CallD.pure (enter98) (sL) ?_ ?_); (focus exact aC); simp only [go_sem, s0, s1, s5, s8, s11, s13, b0, b8, b11, r0, r1, r3, hnn, hn10, hn13, nat_ne8, nat_ne13, and_false, hz', e2, hfl, aWr, hb, bne_self_eq_false, beq_self_eq_true, List.length_map, Int.toNat_natCast]) | ((first | refine CallK.pure (enter98) (sR) ?_ ?_ | refine CallD.pure (enter98) (sR) ?_ ?_); (focus exact aC); simp only [go_sem, s0, s1, s5, s8, s11, s13, b0, b8, b11, r0, r1, r3, hnn, hn10, hn13, nat_ne8, nat_ne13, and_false, hz', e2, hfl, aWr, hb, bne_self_eq_false, beq_self_eq_true, List.length_map, Int.toNat_natCast]) | ((first | refine CallK.pure (enter101) (hMv) ?_ ?_ | refine CallD.pure (enter101) (hMv) ?_ ?_ | refine CallK.pure (enter100) (hFd) ?_ ?_ | refine CallD.pure (enter100) (hFd) ?_ ?_ | refine CallK.look (enter99) ((hP bs' hp' (σ.k + 1 + 1 + 1 + 1 + 1, 2))) ?_ (mapRo (k := σ.k + 1 + 1 + 1 + 1 + 1 + 1) _ (by simp only; omega) (by simp only [go_sem, and_false, if_false])) (Fr.rfl' _ _) ?_ | refine CallD.look (enter99) ((hP bs' hp' (σ.k + 1 + 1 + 1 + 1 + 1, 2))) ?_ (mapRo (k := σ.k + 1 + 1 + 1 + 1 + 1 + 1) _ (by simp only; omega) (by simp only [go_sem, and_false, if_false])) (Fr.rfl' _ _) (by first | assumption | exact List.cons_ne_nil _ _) ?_ | refine CallK.pure (enter102) (hL) ?_ ?_ | refine CallD.pure (enter102) (hL) ?_ ?_ | refine CallK.look (enter96) ((hM bs' hp' (σ.k + 1 + 1 + 1 + 1 + 1, 2))) ?_ (mapRo (k := σ.k + 1 + 1 + 1 + 1 + 1 + 1) _ (by simp only; omega) (by simp only [go_sem, and_false, if_false])) (Fr.rfl' _ _) ?_ | refine CallD.look (enter96) ((hM bs' hp' (σ.k + 1 + 1 + 1 + 1 + 1, 2))) ?_ (mapRo (k := σ.k + 1 + 1 + 1 + 1 + 1 + 1) _ (by simp only; omega) (by simp only [go_sem, and_false, if_false])) (Fr.rfl' _ _) (by first | assumption | exact List.cons_ne_nil _ _) ?_); (focus exact aC); simp only [go_sem, s0, s1, s5, s8, s11, s13, b0, b8, b11, r0, r1, r3, hnn, hn10, hn13, nat_ne8, nat_ne13, and_false, hz', e2, hfl, aWr, hb, bne_self_eq_false, beq_self_eq_true, List.length_map, Int.toNat_natCast]) | ((first | refine CallK.new rfl (enter97) (hWo) ?_ ?_ ?_ | refine CallD.new rfl (enter97) (hWo) ?_ ?_ ?_); (focus exact aC); (focus (simp only [go_sem, s0, s1, s5, s8, s11, s13, b0, b8, b11, r0, r1, r3, hnn, hn10, hn13, nat_ne8, nat_ne13, and_false, hz', e2, hfl, aWr, hb, bne_self_eq_false, beq_self_eq_true, List.length_map, Int.toNat_natCast]; done)); simp only [go_sem, s0, s1, s5, s8, s11, s13, b0, b8, b11, r0, r1, r3, hnn, hn10, hn13, nat_ne8, nat_ne13, and_false, hz', e2, hfl, aWr, hb, bne_self_eq_false, beq_self_eq_true, List.length_map, Int.toNat_natCast]) | ((first | refine CallK.eff (enter95) (hB) ?_ ?_ ?_ ?_ | refine CallD.eff (enter95) (hB) ?_ ?_ ?_ ?_); (focus exact aC); (focus (simp only [go_sem, s0, s1, s5, s8, s11, s13, b0, b8, b11, r0, r1, r3, hnn, hn10, hn13, nat_ne8, nat_ne13, and_false, hz', e2, hfl, aWr, hb, bne_self_eq_false, beq_self_eq_true, List.length_map, Int.toNat_natCast]; done)); (focus (simp only [go_sem, s0, s1, s5, s8, s11, s13, b0, b8, b11, r0, r1, r3, hnn, hn10, hn13, nat_ne8, nat_ne13, and_false, hz', e2, hfl, aWr, hb, bne_self_eq_false, beq_self_eq_true, List.length_map, Int.toNat_natCast]; done)); simp only [go_sem, s0, s1, s5, s8, s11, s13, b0, b8, b11, r0, r1, r3, hnn, hn10, hn13, nat_ne8, nat_ne13, and_false, hz', e2, hfl, aWr, hb, bne_self_eq_false, beq_self_eq_true, List.length_map, Int.toNat_natCast]) | refine aN ?_ | fail)
 (first | refine ret_pure ?_ ?_ ?_ | refine ret_ro ?_ ?_ ?_); focus exact (okA Tryz.ntmps65 Tryz.results65)
 rotate_left; focus exact frT
 simp only [resA, resV, Tryz.results65, go_sem]
 all_goals try exact coA
end
section
variable (cl cr : List Lt) (kind left right far : Int) (n m : Nat) (lt rt : Bool) (place : List Int) (xa xb x : Tm) {w0 : World} {h0 : Heap} {k : Nat} {fn : Func} (hfn : fn = Tryz.f65) (σ : St)
 (s0 : σ.t 0 = .d (clDV cl)) (s1 : σ.t 1 = .d (clDV cr)) (s5 : σ.t 5 = .ptr (k, 0) 0) (s8 : σ.t 8 = .ptr (k + 1, 5) 0) (s11 : σ.t 11 = .ptr (k + 1 + 1 + 1, 7) 0) (s13 : σ.t 13 = iA far)
 (b0 : σ.h (k, 0) = some (.cells 40 [.d (iD kind), .d (iD left), .d (iD right), .d (iD n), .d (iD m), .d (bD lt), .d (bD rt), .d (.sl (place.map iD))]))
 (b8 : σ.h (k + 1, 5) = some (.cells 66 [.d (bD true), .d (iD xa.v), .d (iD xa.f), .d (.sl (xa.us.map tmDV)), .d (iD xb.v), .d (iD xb.f), .d (.sl (xb.us.map tmDV))]))
 (b11 : σ.h (k + 1 + 1 + 1, 7) = some (.cells 63 [.d (iD x.v), .d (iD x.f), .d (.sl (x.us.map tmDV))])) (hF : Fr k h0 σ.h) (hk : k + 1 + 1 + 1 < σ.k)
include s0 s1 s5 s8 s11 s13 b0 b8 b11 hF hk hfn
variable (cr' : List Lt) (P Q : Tm × Tm) (x' : Tm) (wy : Bool) (wa wb : Tm) (hm : m < cr'.length) (hW : cr'[m] = ⟨wy, wa, wb⟩) (hlr : cr'.length ≤ 8)
 (hMv : Tri Tryz.prog 101 [.d (clDV cr), iA far] (pure' (.tup [.d (clDV cr'), iA 0])))
 (sL : Tri Tryz.prog 98 [.d (ltDV ⟨true, xa, xb⟩), bA lt] (pure' (.tup [.d (tmDV P.1), .d (tmDV P.2)])))
 (sR : Tri Tryz.prog 98 [.d (ltDV ⟨wy, wa, wb⟩), bA rt] (pure' (.tup [.d (tmDV Q.1), .d (tmDV Q.2)])))
 (hFd : Tri Tryz.prog 100 [.d (tmDV Q.1), .d (.sl (place.map iD))] (pure' (.tup [.d (tmDV x'), bA true])))
include hm hW hlr hMv sL sR hFd
variable (bs : Bs) (hB : ∀ n', Tri Tryz.prog 95 [.d (tmDV P.1), .d (tmDV x')] (bagE n' (bsE bs) (.tup [.map n', iA 0])))
include hB
variable (U : Tm) (A : List Lt × Int) (hn : n < cl.length) (hll : cl.length ≤ 8) (cw : List Lt) (hew : cl.eraseIdx n = cw)
 (hP : ∀ bs', bs.Perm bs' → ∀ mm, Tri Tryz.prog 99 [.map mm, .d (.sl ((flatPr [(P.1, P.2), (Q.1, Q.2)]).map tmDV))] (rdE [(mm, .map (bsE bs'))] (iA 0)))
 (hL : Tri Tryz.prog 102 [.d (tmDV Q.1), .d (.sl (place.map iD)), .d (tmDV P.2)] (pure' (.d (tmDV U))))
include hn hll hew hP hL
set_option maxHeartbeats 8000000 in
set_option maxRecDepth 20000 in
theorem putT_right (hrt : rt = true) (hM : ∀ bs', bs.Perm bs' → ∀ mm, Tri Tryz.prog 96 [.map mm, .d (clDV (cw ++ cr'.set m ⟨wy, Q.2, U⟩))] (rdE [(mm, .map (bsE bs'))] (.tup [.d (clDV A.1), iA A.2]))) {N : Nat} {c : Code} (hN : (Tryz.f65).ntmps = N) (hc : bodyAt (Tryz.f65) [true,true,true,true,true,true,true] = some c) : awp Tryz.prog w0 N c (retQ Tryz.prog fn (pure' (.tup [.d (clDV A.1), iA A.2])) h0 k) σ := by
 subst hfn; subst hrt
 obtain rfl := (Tryz.ntmps65).symm.trans hN; obtain rfl := Option.some.inj (show some _ = some c from hc); clear hN hc
 have r0 := ltne (show k < σ.k by omega)
 have r1 := ltne (show k + 1 < σ.k by omega)
 have r3 := ltne hk
 have hz' : (m : Int) < (cr'.length : Int) := by omega
 have e2 : (cr'.map ltDV).getD m default = ltDV ⟨wy, wa, wb⟩ := by rw [← hW]; exact nth_map ltDV hm _
 have hcw : cw.length ≤ 8 := by rw [← hew]; exact Nat.le_trans (List.length_eraseIdx_le cl n) hll
 have hWo := fun n' => without_new cl hn (by omega) n'
 rw [hew] at hWo
 have hszs : ∀ y ∈ cr'.map ltDV, y.cells.length = 7 := map_sz (by intro a; simp only [go_sem])
 have hm' : m < (cr'.map ltDV).length := by rw [List.length_map]; exact hm
 have aWr := setR_flat hszs hm' (y := ltDV ⟨wy, U, Q.2⟩) (by simp only [go_sem])
 rw [ltDV_cells, ← List.map_set] at aWr
 have hfl := flatC_len hszs
 rw [List.length_map] at hfl
 have hb : m * 7 + 7 ≤ cr'.length * 7 := by omega
 have hb1 : m * 7 + 1 + 3 ≤ cr'.length * 7 := by omega
 have hb4 : m * 7 + 4 + 3 ≤ cr'.length * 7 := by omega
 simp only [List.map_cons, List.map_nil] at aWr
 have hl1 : (cr'.set m ⟨wy, U, Q.2⟩).length = cr'.length := List.length_set ..
 have hl2 : ((cr'.set m ⟨wy, U, Q.2⟩).set m ⟨wy, Q.2, Q.2⟩).length = cr'.length := by rw [List.length_set, hl1]
 have hm1 : m < (cr'.set m ⟨wy, U, Q.2⟩).length := by omega
 have hm2 : m < ((cr'.set m ⟨wy, U, Q.2⟩).set m ⟨wy, Q.2, Q.2⟩).length := by omega
 have fl1 : (flatC ((cr'.set m ⟨wy, U, Q.2⟩).map ltDV)).length = cr'.length * 7 := by rw [flatC_len (sz := 7) (map_sz (by intro a; simp only [go_sem])), List.length_map, hl1]
 have fl2 : (flatC (((cr'.set m ⟨wy, U, Q.2⟩).set m ⟨wy, Q.2, Q.2⟩).map ltDV)).length = cr'.length * 7 := by rw [flatC_len (sz := 7) (map_sz (by intro a; simp only [go_sem])), List.length_map, hl2]
 have aW1 := setR_part hm1 (a := [.d (bD wy)]) (b := [.d (iD Q.2.v), .d (iD Q.2.f), .d (.sl (Q.2.us.map tmDV))]) (old := [.d (iD U.v), .d (iD U.f), .d (.sl (U.us.map tmDV))]) (cs := [.d (iD Q.2.v), .d (iD Q.2.f), .d (.sl (Q.2.us.map tmDV))]) (y := ⟨wy, Q.2, Q.2⟩) (by rw [List.getElem_set_self, ltDV_cells]; rfl) rfl (by rw [ltDV_cells]; rfl)
 have aW2 := setR_part hm2 (a := [.d (bD wy), .d (iD Q.2.v), .d (iD Q.2.f), .d (.sl (Q.2.us.map tmDV))]) (b := []) (old := [.d (iD Q.2.v), .d (iD Q.2.f), .d (.sl (Q.2.us.map tmDV))]) (cs := [.d (iD U.v), .d (iD U.f), .d (.sl (U.us.map tmDV))]) (y := ⟨wy, Q.2, U⟩) (by rw [List.getElem_set_self, ltDV_cells]; rfl) rfl (by rw [ltDV_cells]; rfl)
 rw [List.set_set, List.set_set] at aW2
 rw [List.set_set] at aW1 hl2 fl2
 simp only [List.set_set, List.length_cons, List.length_nil, Nat.zero_add] at aW1 aW2
 have hszs2 : ∀ z ∈ (cr'.set m ⟨wy, Q.2, U⟩).map ltDV, z.cells.length = 7 := map_sz (by intro a; simp only [go_sem])
 have hlen2 : cr'.length = ((cr'.set m ⟨wy, Q.2, U⟩).map ltDV).length := by rw [List.length_map, List.length_set]
 have hsl : (cr'.set m ⟨wy, Q.2, U⟩).length = cr'.length := List.length_set ..
 have hcl := cloneA_lits cr' (by omega) (by omega)
 refine awp_new fun hnew => ?_
 have hnn := hnew.at
 have hn10 : ∀ j, σ.h (σ.k + 1 + 1 + 1 + 1 + 1 + 1 + 1 + 1 + 1 + 1, j) = none := fun j => hnew (σ.k + 1 + 1 + 1 + 1 + 1 + 1 + 1 + 1 + 1 + 1, j) (by simp only; omega)
 have hn13 : ∀ j, σ.h (σ.k + 1 + 1 + 1 + 1 + 1 + 1 + 1 + 1 + 1 + 1 + 1 + 1 + 1, j) = none := fun j => hnew (σ.k + 1 + 1 + 1 + 1 + 1 + 1 + 1 + 1 + 1 + 1 + 1 + 1 + 1, j) (by simp only; omega)
 have hn14 : ∀ j, σ.h (σ.k + 1 + 1 + 1 + 1 + 1 + 1 + 1 + 1 + 1 + 1 + 1 + 1 + 1 + 1, j) = none := fun j => hnew (σ.k + 1 + 1 + 1 + 1 + 1 + 1 + 1 + 1 + 1 + 1 + 1 + 1 + 1 + 1, j) (by simp only; omega)
 have hB := hB (σ.k + 1 + 1 + 1 + 1 + 1, 2)
 repeat' (first | (refine awp_bag (x := (σ.k + 1 + 1 + 1 + 1 + 1, 2)) (es := bsE bs) ?_ fun es' hp => ?_; (focus (simp only [go_sem, ]; done)); obtain ⟨bs', e', hp'⟩ := bag_perm hp; subst e'; simp only [go_sem]) | (refine awp_ghost (ghost_freeze (i := 22) (n := (σ.k + 1 + 1 + 1 + 1 + 1 + 1 + 1 + 1 + 1 + 1, 1)) (e := 66) (ys := (cr'.set m ⟨wy, Q.2, U⟩).map ltDV) (len := cr'.length) (sz := 7) ?_ ?_ hlen2 hszs2) ?_; (focus (simp only [go_sem]; done)); (focus (simp only [go_sem]; done)); simp only [go_sem]) | (refine CallK.arr rfl (enter103) hcl ?_ ?_ ?_; (focus exact ⟨.inl rfl, trivial⟩); (focus (simp only [go_sem, hnn, hn10, and_false, if_false]; done)); simp only [go_sem, hnn, hn10, and_false, if_false]) | refine aQ fun K hK => ?_ | ((first | refine aK fun R hR => ?_ | refine aD mixed fun R hR => ?_); simp only [go_sem, s0, s1, s5, s8, s11, s13, b0, b8, b11, r0, r1, r3, hnn, hn10, hn13, hn14, nat_ne8, nat_ne13, and_false, hz', e2, hfl, fl1, fl2, aWr, aW1, aW2, hb, hb1, hb4, bne_self_eq_false, beq_self_eq_true, List.length_map, Int.toNat_natCast]) | ((first | (refine hR _ ?_; clear hR R) | refine aZ rfl ?_); try refine aP ?_) | ((repeat (fail_if_success refine hK _ ?_); clear hK K); refine hK _ ?_; clear hK K) | refine aT ?_ | refine aF ?_ | refine aB ?_ | ((first | refine CallK.pure (enter98) (sL) ?_ ?_ | refine CallD.pure (enter98) (sL) ?_ ?_); (focus exact aC); simp only [go_sem, s0, s1, s5, s8, s11, s13, b0, b8, b11, r0, r1, r3, hnn, hn10, hn13, hn14, nat_ne8, nat_ne13, and_false, hz', e2, hfl, fl1, fl2, aWr, aW1, aW2, hb, hb1, hb4, bne_self_eq_false, beq_self_eq_true, List.length_map, Int.toNat_natCast]) | ((first | refine CallK.pure (enter98) (sR) ?_ ?_ | refine CallD.pure (enter98) (sR) ?_ ?_); (focus exact aC); simp only [go_sem, s0, s1, s5, s8, s11, s13, b0, b8, b11, r0, r1, r3, hnn, hn10, hn13, hn14, nat_ne8, nat_ne13, and_false, hz', e2, hfl, fl1, fl2, aWr, aW1, aW2, hb, hb1, hb4, bne_self_eq_false, beq_self_eq_true, List.length_map, Int.toNat_natCast]) | ((first | refine CallK.pure (enter101) (hMv) ?_ ?_ | refine CallD.pure (enter101) (hMv) ?_ ?_ | refine CallK.pure (enter100) (hFd) ?_ ?_ | refine CallD.pure (enter100) (hFd) ?_ ?_ | refine CallK.look (enter99) ((hP bs' hp' (σ.k + 1 + 1 + 1 + 1 + 1, 2))) ?_ (mapRo (k := σ.k + 1 + 1 + 1 + 1 + 1 + 1) _ (by simp only; omega) (by simp only [go_sem, and_false, if_false])) (Fr.rfl' _ _) ?_ | refine CallD.look (enter99) ((hP bs' hp' (σ.k + 1 + 1 + 1 + 1 + 1, 2))) ?_ (mapRo (k := σ.k + 1 + 1 + 1 + 1 + 1 + 1) _ (by simp only; omega) (by simp only [go_sem, and_false, if_false])) (Fr.rfl' _ _) (by first | assumption | exact List.cons_ne_nil _ _) ?_ | refine CallK.pure (enter102) (hL) ?_ ?_ | refine CallD.pure (enter102) (hL) ?_ ?_ | refine CallK.look (enter96) ((hM bs' hp' (σ.k + 1 + 1 + 1 + 1 + 1, 2))) ?_ (mapRo (k := σ.k + 1 + 1 + 1 + 1 + 1 + 1) _ (by simp only; omega) (by simp only [go_sem, and_false, if_false])) (Fr.rfl' _ _) ?_ | refine CallD.look (enter96) ((hM bs' hp' (σ.k + 1 + 1 + 1 + 1 + 1, 2))) ?_ (mapRo (k := σ.k + 1 + 1 + 1 + 1 + 1 + 1) _ (by simp only; omega) (by simp only [go_sem, and_false, if_false])) (Fr.rfl' _ _) (by first | assumption | exact List.cons_ne_nil _ _) ?_); (focus exact aC); simp only [go_sem, s0, s1, s5, s8, s11, s13, b0, b8, b11, r0, r1, r3, hnn, hn10, hn13, hn14, nat_ne8, nat_ne13, and_false, hz', e2, hfl, fl1, fl2, aWr, aW1, aW2, hb, hb1, hb4, bne_self_eq_false, beq_self_eq_true, List.length_map, Int.toNat_natCast]) | ((first | refine CallK.new rfl (enter97) (hWo) ?_ ?_ ?_ | refine CallD.new rfl (enter97) (hWo) ?_ ?_ ?_); (focus exact aC); (focus (simp only [go_sem, s0, s1, s5, s8, s11, s13, b0, b8, b11, r0, r1, r3, hnn, hn10, hn13, hn14, nat_ne8, nat_ne13, and_false, hz', e2, hfl, fl1, fl2, aWr, aW1, aW2, hb, hb1, hb4, bne_self_eq_false, beq_self_eq_true, List.length_map, Int.toNat_natCast]; done)); simp only [go_sem, s0, s1, s5, s8, s11, s13, b0, b8, b11, r0, r1, r3, hnn, hn10, hn13, hn14, nat_ne8, nat_ne13, and_false, hz', e2, hfl, fl1, fl2, aWr, aW1, aW2, hb, hb1, hb4, bne_self_eq_false, beq_self_eq_true, List.length_map, Int.toNat_natCast]) | ((first | refine CallK.eff (enter95) (hB) ?_ ?_ ?_ ?_ | refine CallD.eff (enter95) (hB) ?_ ?_ ?_ ?_); (focus exact aC); (focus (simp only [go_sem, s0, s1, s5, s8, s11, s13, b0, b8, b11, r0, r1, r3, hnn, hn10, hn13, hn14, nat_ne8, nat_ne13, and_false, hz', e2, hfl, fl1, fl2, aWr, aW1, aW2, hb, hb1, hb4, bne_self_eq_false, beq_self_eq_true, List.length_map, Int.toNat_natCast]; done)); (focus (simp only [go_sem, s0, s1, s5, s8, s11, s13, b0, b8, b11, r0, r1, r3, hnn, hn10, hn13, hn14, nat_ne8, nat_ne13, and_false, hz', e2, hfl, fl1, fl2, aWr, aW1, aW2, hb, hb1, hb4, bne_self_eq_false, beq_self_eq_true, List.length_map, Int.toNat_natCast]; done)); simp only [go_sem, s0, s1, s5, s8, s11, s13, b0, b8, b11, r0, r1, r3, hnn, hn10, hn13, hn14, nat_ne8, nat_ne13, and_false, hz', e2, hfl, fl1, fl2, aWr, aW1, aW2, hb, hb1, hb4, bne_self_eq_false, beq_self_eq_true, List.length_map, Int.toNat_natCast]) | refine aN ?_ | fail)
 (first | refine ret_pure ?_ ?_ ?_ | refine ret_ro ?_ ?_ ?_); focus exact (okA Tryz.ntmps65 Tryz.results65)
 rotate_left; focus exact frT
 simp only [resA, resV, Tryz.results65, go_sem]
 all_goals try exact coA
end
set_option maxHeartbeats 8000000 in
set_option maxRecDepth 20000 in
theorem put_from {g : List Int} (c d : List Lt) (kind left right : Int) (n m : Nat) (lt rt : Bool) (place : List Int) (hc : OwnC g c) (hd : OwnC g d) (hlc : c.length ≤ 8) (hld : d.length ≤ 8) (hn : n < c.length) (hm : m < d.length) (hp : place.length ≤ 4000000)
  (x xa xb : Tm) (hat : atG (sideG d[m] rt).1 place = some x) (hX : c[n] = ⟨true, xa, xb⟩) (hv : ¬ x.v > 0) (A : List Lt × Int)
  (hT : ∀ {w0 : World} {h0 : Heap} {k : Nat} {fn : Func} (_ : fn = Tryz.f65) (σ : St) (_ : σ.t 0 = .d (clDV c)) (_ : σ.t 1 = .d (clDV d)) (_ : σ.t 5 = .ptr (k, 0) 0) (_ : σ.t 8 = .ptr (k + 1, 5) 0) (_ : σ.t 11 = .ptr (k + 1 + 1 + 1, 7) 0) (_ : σ.t 13 = iA (farOf (standV c)))
   (_ : σ.h (k, 0) = some (.cells 40 [.d (iD kind), .d (iD left), .d (iD right), .d (iD n), .d (iD m), .d (bD lt), .d (bD rt), .d (.sl (place.map iD))]))
   (_ : σ.h (k + 1, 5) = some (.cells 66 [.d (bD true), .d (iD xa.v), .d (iD xa.f), .d (.sl (xa.us.map tmDV)), .d (iD xb.v), .d (iD xb.f), .d (.sl (xb.us.map tmDV))]))
   (_ : σ.h (k + 1 + 1 + 1, 7) = some (.cells 63 [.d (iD x.v), .d (iD x.f), .d (.sl (x.us.map tmDV))])) (_ : Fr k h0 σ.h) (_ : k + 1 + 1 + 1 < σ.k) {N : Nat} {c : Code} (hN : (Tryz.f65).ntmps = N) (hc : bodyAt (Tryz.f65) [true,true,true,true,true,true,true] = some c), awp Tryz.prog w0 N c (retQ Tryz.prog fn (pure' (.tup [.d (clDV A.1), iA A.2])) h0 k) σ) :
  Tri Tryz.prog 65 [.d (clDV c), .d (clDV d), .d (ifDV ⟨kind, left, right, n, m, lt, rt, place⟩)] (pure' (.tup [.d (clDV A.1), iA A.2])) := by
 have hz : (n : Int) < (c.length : Int) := by omega
 have hz' : (m : Int) < (d.length : Int) := by omega
 have e1 : (c.map ltDV).getD n default = ltDV ⟨true, xa, xb⟩ := by rw [← hX]; exact nth_map ltDV hn _
 have e2 : (d.map ltDV).getD m default = ltDV d[m] := nth_map ltDV hm _
 have o2 := sideG_own hd hm rt
 have s1 := ifSides_tri d[m] rt
 have f1 := find_tri place _ hp (show (sideG d[m] rt).1.size ≤ 4000000 by have := own_sz o2.1; omega)
 have ea : atA (sideG d[m] rt).1 place = (x, true) := by unfold atA; rw [hat]
 rw [ea] at f1
 have hsm : Small c := ⟨by omega, fun l hl => by have := own_sz (hc l hl).1; omega, fun l hl => by have := own_sz (hc l hl).2; omega⟩
 have hTm := terms_tri c (by omega)
 have hSt := stands_tri (termsOf c) hsm.sizes
 have hVl := hsm.vars
 have hv' : decide (x.v > 0) = false := by simpa using hv
 change Tri _ _ _ (pure' (.d (.sl ((standV c).map iD)))) at hSt
 change (standV c).length ≤ 4000000 at hVl
 unfold farOf at hT
 generalize standV c = V at *
 clear o2 ea hat
 generalize sideG d[m] rt = Q at *
 refine aE Tryz.func65 rfl Tryz.ntmps65 fun w0 h0 k hrd hwr => ?_
 repeat' (first | refine aQ fun K hK => ?_ | ((first | refine aK fun R hR => ?_ | refine aD mixed fun R hR => ?_); simp only [go_sem, hz, hz', e1, e2, hv', List.length_map, Int.toNat_natCast]) | ((first | (refine hR _ ?_; clear hR R) | refine aZ rfl ?_); try refine aP ?_) | ((repeat (fail_if_success refine hK _ ?_); clear hK K); refine hK _ ?_; clear hK K) | refine aT ?_ | refine aF ?_ | refine aB ?_ | ((first | refine CallK.pure (enter98) (s1) ?_ ?_ | refine CallD.pure (enter98) (s1) ?_ ?_ | refine CallK.pure (enter100) (f1) ?_ ?_ | refine CallD.pure (enter100) (f1) ?_ ?_ | refine CallK.pure (enter53) (hTm) ?_ ?_ | refine CallD.pure (enter53) (hTm) ?_ ?_ | refine CallK.pure (enter52) (hSt) ?_ ?_ | refine CallD.pure (enter52) (hSt) ?_ ?_); (focus exact aC); simp only [go_sem, hz, hz', e1, e2, hv', List.length_map, Int.toNat_natCast]) | refine aN ?_ | fail)
 refine awp_loop (fun τ => ∃ j : Nat, τ.t 0 = .d (clDV c) ∧ τ.t 1 = .d (clDV d) ∧ τ.t 5 = .ptr (k, 0) 0 ∧ τ.t 8 = .ptr (k + 1, 5) 0 ∧ τ.t 11 = .ptr (k + 1 + 1 + 1, 7) 0 ∧ τ.t 13 = iA ((V.take j).foldl max 0) ∧ τ.t 60 = .d (.sl (V.map iD)) ∧ τ.t 61 = iA V.length ∧ τ.t 62 = iA j ∧
  τ.h (k, 0) = some (.cells 40 [.d (iD kind), .d (iD left), .d (iD right), .d (iD n), .d (iD m), .d (bD lt), .d (bD rt), .d (.sl (place.map iD))]) ∧
  τ.h (k + 1, 5) = some (.cells 66 [.d (bD true), .d (iD xa.v), .d (iD xa.f), .d (.sl (xa.us.map tmDV)), .d (iD xb.v), .d (iD xb.f), .d (.sl (xb.us.map tmDV))]) ∧
  τ.h (k + 1 + 1 + 1, 7) = some (.cells 63 [.d (iD x.v), .d (iD x.f), .d (.sl (x.us.map tmDV))]) ∧ Fr k h0 τ.h ∧ k + 1 + 1 + 1 < τ.k ∧ j ≤ V.length) (fun τ => V.length - (intOf' (τ.t 62)).toNat) ?_ ?_
 ·refine ⟨0, ?_⟩
  simp only [go_sem, List.take_zero, List.foldl_nil, List.length_map]
  and_intros; all_goals try (first | rfl | omega | assumption | exact anA)
 ·rintro τ ⟨j, u0, u1, u5, u8, u11, u13, u60, u61, u62, hb0, hb8, hb11, uF, uk, uj⟩
  have q0 := ltne (show k < τ.k by omega)
  have q1 := ltne (show k + 1 < τ.k by omega)
  have q3 := ltne uk
  rcases Nat.lt_or_ge j V.length with jlt | jge
  ·have jz : (j : Int) < (V.length : Int) := by omega
   have e3 : (V.map iD).getD j default = iD V[j] := nth_map iD jlt _
   have e4 : (V.take (j + 1)).foldl max 0 = if V[j] > (V.take j).foldl max 0 then V[j] else (V.take j).foldl max 0 := by
    rw [List.take_succ_eq_append_getElem jlt, List.foldl_append, List.foldl_cons, List.foldl_nil]
    split <;> omega
   repeat' (first | refine aQ fun K hK => ?_ | ((first | refine aK fun R hR => ?_ | refine aD mixed fun R hR => ?_); simp only [go_sem, u0, u1, u5, u8, u11, u13, u60, u61, u62, jz, e3, hb0, hb8, hb11, q0, q1, q3, List.length_map, Int.toNat_natCast]) | ((first | (refine hR _ ?_; clear hR R) | refine aZ rfl ?_); try refine aP ?_) | ((repeat (fail_if_success refine hK _ ?_); clear hK K); refine hK _ ?_; clear hK K) | refine aT ?_ | refine aF ?_ | refine aB ?_ | refine aN ?_ | fail)
   refine ⟨⟨j + 1, ?_⟩, ?_⟩
   rotate_left
   ·simp only [go_sem, u0, u1, u5, u8, u11, u13, u60, u61, u62, e4, hb0, hb8, hb11, q0, q1, q3]; omega
   simp only [go_sem, u0, u1, u5, u8, u11, u13, u60, u61, u62, e4, hb0, hb8, hb11, q0, q1, q3]
   and_intros; all_goals try (first | rfl | omega | assumption | exact anA)
  ·have jz : ¬ ((j : Int) < (V.length : Int)) := by omega
   obtain rfl : j = V.length := by omega
   rw [List.take_length] at u13
   repeat' (first | refine hT rfl _ ?_ ?_ ?_ ?_ ?_ ?_ ?_ ?_ ?_ frA ?_ rfl rfl | refine aQ fun K hK => ?_ | ((first | refine aK fun R hR => ?_ | refine aD mixed fun R hR => ?_); simp only [go_sem, u0, u1, u5, u8, u11, u13, u60, u61, u62, jz, hb0, hb8, hb11, q0, q1, q3, List.length_map, Int.toNat_natCast]) | ((first | (refine hR _ ?_; clear hR R) | refine aZ rfl ?_); try refine aP ?_) | ((repeat (fail_if_success refine hK _ ?_); clear hK K); refine hK _ ?_; clear hK K) | refine aT ?_ | refine aF ?_ | refine aB ?_ | refine aN ?_ | fail)
   all_goals try simp only [go_sem]
   all_goals try omega
end Go.Proofs.YtmeekpinkfpnhabGreat
