/- The unifier: bind, one. -/
import Derived.Test.YtmeekpinkfpnhabGreatP12
import Derived.Test.YtmeekpinkfpnhabGreatP17
import Derived.Test.YtmeekpinkfpnhabGreatP18
set_option linter.all false
namespace Go.Proofs.YtmeekpinkfpnhabGreat
open Go.RowKit
@[go_sem] theorem mapTib : mapT Tryz.prog 176 = some 4 := by kernel_rfl
@[go_sem] theorem zeroDbo : zeroD Tryz.prog 4 = .d (.v (.bool false)) := by kernel_rfl
@[go_sem] theorem zeroObo : zeroOk Tryz.prog 4 = true := by kernel_rfl
abbrev metE (met : List (Int × Bool)) : List (Int × DV) := mapE' bD met
abbrev ldL (u mm mt : Nm) (b : Bs) (met : List (Int × Bool)) : List (Nm × Ob) := [(u, .cells 161 [.map mm]), (mm, .map (bsE b)), (mt, .map (metE met))]
abbrev ldL2 (bu bv bm u mm mt : Nm) (b : Bs) (v : Int) (met : List (Int × Bool)) : List (Nm × Ob) :=
 [(bu, .cells 159 [.ptr u 0]), (bv, .cells 3 [iA v]), (bm, .cells 176 [.map mt]), (u, .cells 161 [.map mm]), (mm, .map (bsE b)), (mt, .map (metE met))]
theorem ldL_cl {u mm mt : Nm} {b : Bs} {met : List (Int × Bool)} {k : Nat} (h : mm.1 < k) : Cl k [u, mm, mt] (oL (ldL u mm mt b met)) := Cl.ofL fun p hp x hx => by
 simp only [ldL, List.mem_cons, List.not_mem_nil, or_false] at hp
 rcases hp with rfl | rfl | rfl
 ·simp [Ob.names, namesL, AV.names] at hx; rw [hx]; exact h
 ·simp [Ob.names] at hx
 ·simp [Ob.names] at hx
theorem ldL2_cl {bu bv bm u mm mt : Nm} {b : Bs} {v : Int} {met : List (Int × Bool)} {k : Nat} (h1 : u.1 < k) (h2 : mm.1 < k) (h3 : mt.1 < k) : Cl k [bu, bv, bm, u, mm, mt] (oL (ldL2 bu bv bm u mm mt b v met)) := Cl.ofL fun p hp x hx => by
 simp only [ldL2, List.mem_cons, List.not_mem_nil, or_false] at hp
 rcases hp with rfl | rfl | rfl | rfl | rfl | rfl
 ·simp [Ob.names, namesL, AV.names] at hx; rw [hx]; exact h1
 ·simp [Ob.names, namesL, AV.names, iA] at hx
 ·simp [Ob.names, namesL, AV.names] at hx; rw [hx]; exact h3
 ·simp [Ob.names, namesL, AV.names] at hx; rw [hx]; exact h2
 ·simp [Ob.names] at hx
 ·simp [Ob.names] at hx
def LeadsSpec (u mm mt : Nm) (b : Bs) (v : Int) (n : Nat) (x : Tm) : Prop := ∀ met q, leadsF n b v x met = some q →
 Tri Tryz.prog 145 [.ptr u 0, .d (tmDV x), iA v, .map mt] (stE [u, mm, mt] (oL (ldL u mm mt b met)) (oL (ldL u mm mt b q.2)) (bA q.1))
section
variable {bu bv bm u mm mt : Nm} {b : Bs} {v : Int} {met : List (Int × Bool)} {n : Nat} {x : Tm}
set_option maxHeartbeats 1000000 in
set_option maxRecDepth 20000 in
theorem leads1_tri (hnd : [bu, bv, bm, u, mm, mt].Nodup) (ih : LeadsSpec u mm mt b v n x) (q : Bool × List (Int × Bool)) (hq : leadsF n b v x met = some q) :
  Tri Tryz.prog 150 [.d (tmDV x), .ptr bu 0, .ptr bv 0, .ptr bm 0] (stE [bu, bv, bm, u, mm, mt] (oL (ldL2 bu bv bm u mm mt b v met)) (oL (ldL2 bu bv bm u mm mt b v q.2)) (bA q.1)) := by
 have hT := ih met q hq
 have hnd3 : [u, mm, mt].Nodup := hnd.sublist (.cons _ (.cons _ (.cons _ (.refl _))))
 refine aES Tryz.func150 rfl Tryz.ntmps150 fun w0 h0 k hag => ?_
 have hg := Ag.toL (l := ldL2 bu bv bm u mm mt b v met) hnd hag
 have g1 := hg (bu, .cells 159 [.ptr u 0]) (by simp)
 have g2 := hg (bv, .cells 3 [iA v]) (by simp)
 have g3 := hg (bm, .cells 176 [.map mt]) (by simp)
 have g4 := hg (u, .cells 161 [.map mm]) (by simp)
 have g5 := hg (mm, .map (bsE b)) (by simp)
 have g6 := hg (mt, .map (metE met)) (by simp)
 have n1 := nmne g1.1
 have n2 := nmne g2.1
 have n3 := nmne g3.1
 have hA : Ag k [u, mm, mt] (oL (ldL u mm mt b met)) h0 := Ag.ofL (l := ldL u mm mt b met) hnd3 fun p hp => by
  simp only [ldL, List.mem_cons, List.not_mem_nil, or_false] at hp
  rcases hp with rfl | rfl | rfl
  ·exact g4
  ·exact g5
  ·exact g6
 repeat' (first | refine aQ fun K hK => ?_ | ((first | refine aK fun R hR => ?_ | refine aD mixed fun R hR => ?_); simp only [go_sem, g1.2, g2.2, g3.2, n1, n2, n3]) | ((first | (refine hR _ ?_; clear hR R) | refine aZ rfl ?_); try refine aP ?_) | ((repeat (fail_if_success refine hK _ ?_); clear hK K); refine hK _ ?_; clear hK K) | refine aT ?_ | refine aF ?_ | refine aB ?_ | ((first | refine CallK.chg (enter145) (hT) ?_ (by assumption) frA ?_ | refine CallD.chg (enter145) (hT) ?_ (by assumption) frA (by assumption) ?_); (focus exact aC); simp only [go_sem, g1.2, g2.2, g3.2, n1, n2, n3]) | refine aN ?_ | fail)
 refine ret_st (okA Tryz.ntmps150 Tryz.results150) (by simp only [resA, resV, Tryz.results150, go_sem]; first | exact .dat rfl | exact Co.t2 (.dat rfl) (.dat rfl) | exact Co.t3 (.dat rfl) (.dat rfl) (.dat rfl)) ?_ ?_ ?_
 ·refine Ag.ofL (l := ldL2 bu bv bm u mm mt b v q.2) hnd fun p hp => ?_
  have hd := hnd
  simp only [List.nodup_cons, List.mem_cons, not_or, List.not_mem_nil, or_false] at hd
  simp only [ldL2, List.mem_cons, List.not_mem_nil, or_false] at hp
  rcases hp with rfl | rfl | rfl | rfl | rfl | rfl
  ·exact ⟨g1.1, by simp [stH_get, upd_get, hd, n1, g1.2]⟩
  ·exact ⟨g2.1, by simp [stH_get, upd_get, hd, n2, g2.2]⟩
  ·exact ⟨g3.1, by simp [stH_get, upd_get, hd, n3, g3.2]⟩
  ·exact ⟨g4.1, by dsimp only; rw [stH_in (by simp)]; simp [oL]⟩
  ·exact ⟨g5.1, by dsimp only; rw [stH_in (by simp)]; simp [oL, hd, Ne.symm hd.2.2.2.1.1]⟩
  ·exact ⟨g6.1, by dsimp only; rw [stH_in (by simp)]; simp [oL, hd, Ne.symm hd.2.2.2.1.2, Ne.symm hd.2.2.2.2.1]⟩
 ·intro y hy hyn
  have hy3 : y ∉ [u, mm, mt] := fun h => hyn (by simp at h ⊢; rcases h with h | h | h <;> simp [h])
  show stH _ _ _ y = _
  rw [stH_get, if_neg hy3]
  exact ((by repeat (first | exact FrN.rfl' _ _ _ | assumption | refine FrN.updk ?_ (by omega) _ | refine FrN.stH ?_ _)) : FrN k [bu, bv, bm, u, mm, mt] h0 _) y hy hyn
 ·exact ldL2_cl g4.1 g5.1 g6.1
end
theorem lookB_in {v : Int} {b : Bs} {u : Tm} (h : lookB v b = some u) : ∃ p ∈ b, p.2 = u := by
 induction b with
 | nil => cases h
 | cons p b ih =>
  rw [lookB] at h
  by_cases hv : v = p.1
  ·rw [if_pos hv] at h; cases h; exact ⟨p, by simp, rfl⟩
  ·rw [if_neg hv] at h
   obtain ⟨q, hq, e⟩ := ih h
   exact ⟨q, by simp [hq], e⟩
theorem leads_zero {n : Nat} {b : Bs} {v : Int} {t : Tm} {met : List (Int × Bool)} (h : t.v = 0) : leadsF (n + 1) b v t met = anyO (leadsF n b v) t.us met := by rw [leadsF, if_pos h]
theorem leads_at {n : Nat} {b : Bs} {v : Int} {t : Tm} {met : List (Int × Bool)} (h : t.v ≠ 0) (h2 : t.v = v) : leadsF (n + 1) b v t met = some (true, met) := by rw [leadsF, if_neg h, if_pos h2]
theorem leads_met {n : Nat} {b : Bs} {v : Int} {t : Tm} {met : List (Int × Bool)} (h : t.v ≠ 0) (h2 : t.v ≠ v) (h3 : lookA t.v met = some true) : leadsF (n + 1) b v t met = some (false, met) := by rw [leadsF, if_neg h, if_neg h2, if_pos h3]
theorem leads_go {n : Nat} {b : Bs} {v : Int} {t : Tm} {met : List (Int × Bool)} (h : t.v ≠ 0) (h2 : t.v ≠ v) (h3 : ¬ lookA t.v met = some true) : leadsF (n + 1) b v t met = match lookB t.v b with
   | none => some (false, putA t.v true met)
   | some x => leadsF n b v x (putA t.v true met) := by
 rw [leadsF, if_neg h, if_neg h2, if_neg h3]
 all_goals rfl
set_option maxHeartbeats 4000000 in
set_option maxRecDepth 20000 in
theorem leads_tri (u mm mt : Nm) (hnd : [u, mm, mt].Nodup) (b : Bs) (v : Int) : ∀ (n : Nat) (x : Tm), LeadsSpec u mm mt b v n x := by
 intro n
 induction n with
 | zero => intro x met q hq; simp [leadsF] at hq
 | succ n ih =>
  intro x met q hq
  refine aES Tryz.func145 rfl Tryz.ntmps145 fun w0 h0 k hag => ?_
  have hg := Ag.toL (l := ldL u mm mt b met) hnd hag
  have g1 := hg (u, .cells 161 [.map mm]) (by simp)
  have g2 := hg (mm, .map (bsE b)) (by simp)
  have g3 := hg (mt, .map (metE met)) (by simp)
  have n1 := nmne g1.1
  have n2 := nmne g2.1
  have n3 := nmne g3.1
  have hd := hnd
  simp only [List.nodup_cons, List.mem_cons, not_or, List.not_mem_nil, or_false] at hd
  have d1 : (u = mt) = False := eq_false hd.1.2
  have d2 : (mm = mt) = False := eq_false hd.2.1
  have hcl := fun met' => ldL_cl (u := u) (mm := mm) (mt := mt) (b := b) (met := met') g2.1
  cases h1 : (x.v == 0) with
  | true =>
   rw [leads_zero (by simpa using h1)] at hq
   have hnd6 : [(k, 0), (k, 2), (k, 3), u, mm, mt].Nodup := by
    have := g1.1; have := g2.1; have := g3.1
    simp only [List.nodup_cons, List.mem_cons, not_or, List.not_mem_nil, or_false, Prod.mk.injEq]
    refine ⟨⟨by simp, by simp, ?_, ?_, ?_⟩, ⟨by simp, ?_, ?_, ?_⟩, ⟨?_, ?_, ?_⟩, hd.1, hd.2.1, by simp, by simp⟩ <;> (intro e; subst e; simp at *)
   have hT := containsO_tri (fun s => oL (ldL2 (k, 0) (k, 2) (k, 3) u mm mt b v s)) [(k, 0), (k, 2), (k, 3), u, mm, mt] 150 [] [.ptr (k, 0) 0, .ptr (k, 2) 0, .ptr (k, 3) 0] (leadsF n b v) (fun s k' hk => ldL2_cl (hk u (by simp)) (hk mm (by simp)) (hk mt (by simp))) (enter150) x.us
    (fun y hy s q hq => leads1_tri hnd6 (ih y) q hq) met q hq
   have hA : ∀ h : Heap, h (k, 0) = some (.cells 159 [.ptr u 0]) → h (k, 2) = some (.cells 3 [iA v]) → h (k, 3) = some (.cells 176 [.map mt]) → h u = some (.cells 161 [.map mm]) → h mm = some (.map (bsE b)) → h mt = some (.map (metE met)) → Ag (k + 1) [(k, 0), (k, 2), (k, 3), u, mm, mt] (oL (ldL2 (k, 0) (k, 2) (k, 3) u mm mt b v met)) h := fun h e1 e2 e3 e4 e5 e6 => Ag.ofL (l := ldL2 (k, 0) (k, 2) (k, 3) u mm mt b v met) hnd6 fun p hp => by
    simp only [ldL2, List.mem_cons, List.not_mem_nil, or_false] at hp
    rcases hp with rfl | rfl | rfl | rfl | rfl | rfl
    ·exact ⟨Nat.lt_succ_self k, e1⟩
    ·exact ⟨Nat.lt_succ_self k, e2⟩
    ·exact ⟨Nat.lt_succ_self k, e3⟩
    ·exact ⟨Nat.lt_succ_of_lt g1.1, e4⟩
    ·exact ⟨Nat.lt_succ_of_lt g2.1, e5⟩
    ·exact ⟨Nat.lt_succ_of_lt g3.1, e6⟩
   repeat' (first | refine aQ fun K hK => ?_ | ((first | refine aK fun R hR => ?_ | refine aD mixed fun R hR => ?_); simp only [go_sem, h1, n1, n2, n3, g1.2, g2.2, g3.2]) | ((first | (refine hR _ ?_; clear hR R) | refine aZ rfl ?_); try refine aP ?_) | ((repeat (fail_if_success refine hK _ ?_); clear hK K); refine hK _ ?_; clear hK K) | refine aT ?_ | refine aF ?_ | refine aB ?_ | ((first | refine CallK.chg (enter149) (hT) ?_ (hA _ (by simp only [go_sem, ]) (by simp only [go_sem, ]) (by simp only [go_sem, ]) (by simp only [go_sem, n1, g1.2]) (by simp only [go_sem, n2, g2.2]) (by simp only [go_sem, n3, g3.2])) (Fr.rfl' _ _) ?_ | refine CallD.chg (enter149) (hT) ?_ (hA _ (by simp only [go_sem, ]) (by simp only [go_sem, ]) (by simp only [go_sem, ]) (by simp only [go_sem, n1, g1.2]) (by simp only [go_sem, n2, g2.2]) (by simp only [go_sem, n3, g3.2])) (Fr.rfl' _ _) (by first | assumption | exact List.cons_ne_nil _ _) ?_); (focus exact aC); simp only [go_sem, h1, n1, n2, n3, g1.2, g2.2, g3.2]) | refine aN ?_ | fail)
   refine ret_st (okA Tryz.ntmps145 Tryz.results145) (by simp only [resA, resV, Tryz.results145, go_sem]; first | exact .dat rfl | exact Co.t2 (.dat rfl) (.dat rfl) | exact Co.t3 (.dat rfl) (.dat rfl) (.dat rfl)) ?_ ?_ ?_
   ·refine Ag.ofL (l := ldL u mm mt b q.2) hnd fun p hp => ?_
    have hp6 : p ∈ ldL2 (k, 0) (k, 2) (k, 3) u mm mt b v q.2 := List.mem_cons_of_mem _ (List.mem_cons_of_mem _ (List.mem_cons_of_mem _ hp))
    have hin : p.1 ∈ [(k, 0), (k, 2), (k, 3), u, mm, mt] := List.mem_map.2 ⟨p, hp6, rfl⟩
    refine ⟨?_, by dsimp only; rw [stH_in hin, oL_mem (l := ldL2 (k, 0) (k, 2) (k, 3) u mm mt b v q.2) hnd6 hp6]⟩
    simp only [ldL, List.mem_cons, List.not_mem_nil, or_false] at hp
    rcases hp with rfl | rfl | rfl
    ·exact g1.1
    ·exact g2.1
    ·exact g3.1
   ·intro y hy hyn
    have hy6 : y ∉ [(k, 0), (k, 2), (k, 3), u, mm, mt] := fun h => by
     simp only [List.mem_cons, List.not_mem_nil, or_false, not_or] at h hyn
     rcases h with rfl | rfl | rfl | rfl | rfl | rfl <;> simp at *
    show stH _ _ _ y = _
    rw [stH_get, if_neg hy6]
    exact ((by repeat (first | exact FrN.rfl' _ _ _ | assumption | refine FrN.updk ?_ (by omega) _ | refine FrN.stH ?_ _)) : FrN k [u, mm, mt] h0 _) y hy hyn
   ·exact hcl q.2
  | false =>
   have h1' : x.v ≠ 0 := by simpa using h1
   cases h2 : (x.v == v) with
   | true =>
    rw [leads_at h1' (by simpa using h2)] at hq
    cases hq
    have hcl1 := hcl met
    repeat' (first | refine aQ fun K hK => ?_ | ((first | refine aK fun R hR => ?_ | refine aD mixed fun R hR => ?_); simp only [go_sem, h1, h2, n1, n2, n3, g1.2, g2.2, g3.2]) | ((first | (refine hR _ ?_; clear hR R) | refine aZ rfl ?_); try refine aP ?_) | ((repeat (fail_if_success refine hK _ ?_); clear hK K); refine hK _ ?_; clear hK K) | refine aT ?_ | refine aF ?_ | refine aB ?_ | refine aN ?_ | fail)
    refine ret_st (okA Tryz.ntmps145 Tryz.results145) ?_ (by repeat (first | assumption | exact Ag.stN (by assumption) _ _ | refine Ag.updk ?_ (by omega) _)) (by repeat (first | exact FrN.rfl' _ _ _ | assumption | refine FrN.updk ?_ (by omega) _ | refine FrN.stH ?_ _)) (by assumption)
    simp only [resA, resV, Tryz.results145, go_sem]
    all_goals try (first | exact .dat rfl | exact Co.t2 (.dat rfl) (.dat rfl) | exact Co.t3 (.dat rfl) (.dat rfl) (.dat rfl))
   | false =>
    have h2' : x.v ≠ v := by simpa using h2
    cases h3 : (lookA x.v met) == some true with
    | true =>
     have h3' : lookA x.v met = some true := by simpa using h3
     have hgm : getM x.v (metE met) = some (.v (.bool true)) := by rw [getM_A, h3']; rfl
     rw [leads_met h1' h2' h3'] at hq
     cases hq
     have hcl1 := hcl met
     repeat' (first | refine aQ fun K hK => ?_ | ((first | refine aK fun R hR => ?_ | refine aD mixed fun R hR => ?_); simp only [go_sem, h1, h2, n1, n2, n3, g1.2, g2.2, g3.2, hgm, Option.getD_some]) | ((first | (refine hR _ ?_; clear hR R) | refine aZ rfl ?_); try refine aP ?_) | ((repeat (fail_if_success refine hK _ ?_); clear hK K); refine hK _ ?_; clear hK K) | refine aT ?_ | refine aF ?_ | refine aB ?_ | refine aN ?_ | fail)
     refine ret_st (okA Tryz.ntmps145 Tryz.results145) ?_ (by repeat (first | assumption | exact Ag.stN (by assumption) _ _ | refine Ag.updk ?_ (by omega) _)) (by repeat (first | exact FrN.rfl' _ _ _ | assumption | refine FrN.updk ?_ (by omega) _ | refine FrN.stH ?_ _)) (by assumption)
     simp only [resA, resV, Tryz.results145, go_sem]
     all_goals try (first | exact .dat rfl | exact Co.t2 (.dat rfl) (.dat rfl) | exact Co.t3 (.dat rfl) (.dat rfl) (.dat rfl))
    | false =>
     have h3' : ¬ lookA x.v met = some true := by simpa using h3
     obtain ⟨dv, hdv, hdv2⟩ : ∃ dv, getM x.v (metE met) = dv ∧ dv.getD (.v (.bool false)) = .v (.bool false) := by
      refine ⟨_, rfl, ?_⟩
      rw [getM_A]
      cases hl : lookA x.v met with
      | none => rfl
      | some c => cases c with
       | true => exact absurd hl h3'
       | false => rfl
     have hpm : putM x.v (.v (.bool true)) (metE met) = metE (putA x.v true met) := putM_A bD x.v true met
     rw [leads_go h1' h2' h3'] at hq
     cases hl : lookB x.v b with
     | none =>
      rw [hl] at hq
      cases hq
      have hgb := lookB_no hl
      have hcl1 := hcl (putA x.v true met)
      repeat' (first | refine aQ fun K hK => ?_ | ((first | refine aK fun R hR => ?_ | refine aD mixed fun R hR => ?_); simp only [go_sem, h1, h2, n1, n2, n3, g1.2, g2.2, g3.2, hdv, hdv2, hpm, hgb, AV.toD, Option.getD_none, Option.getD_some, Option.isSome_none, d1, d2]) | ((first | (refine hR _ ?_; clear hR R) | refine aZ rfl ?_); try refine aP ?_) | ((repeat (fail_if_success refine hK _ ?_); clear hK K); refine hK _ ?_; clear hK K) | refine aT ?_ | refine aF ?_ | refine aB ?_ | refine aN ?_ | fail)
      refine ret_st (okA Tryz.ntmps145 Tryz.results145) (by simp only [resA, resV, Tryz.results145, go_sem]; first | exact .dat rfl | exact Co.t2 (.dat rfl) (.dat rfl) | exact Co.t3 (.dat rfl) (.dat rfl) (.dat rfl)) ?_ ?_ ?_
      ·refine Ag.ofL (l := ldL u mm mt b (putA x.v true met)) hnd fun p hp => ?_
       simp only [ldL, List.mem_cons, List.not_mem_nil, or_false] at hp
       rcases hp with rfl | rfl | rfl
       ·exact ⟨g1.1, by simp only [go_sem, n1, n2, n3, g1.2, d1, d2]⟩
       ·exact ⟨g2.1, by simp only [go_sem, n1, n2, n3, g2.2, d1, d2]⟩
       ·exact ⟨g3.1, by simp only [go_sem, n1, n2, n3, g3.2, d1, d2, hpm]⟩
      ·exact (by repeat (first | exact FrN.rfl' _ _ _ | assumption | refine FrN.updk ?_ (by omega) _ | refine FrN.updn ?_ (by simp) _ | refine FrN.stH ?_ _))
      ·exact hcl1
     | some y =>
      rw [hl] at hq
      have hgb := lookB_key hl
      have hT := ih y (putA x.v true met) q hq
      have hA : ∀ h : Heap, h u = some (.cells 161 [.map mm]) → h mm = some (.map (bsE b)) → h mt = some (.map (metE (putA x.v true met))) → Ag k [u, mm, mt] (oL (ldL u mm mt b (putA x.v true met))) h := fun h e1 e2 e3 => Ag.ofL (l := ldL u mm mt b (putA x.v true met)) hnd fun p hp => by
       simp only [ldL, List.mem_cons, List.not_mem_nil, or_false] at hp
       rcases hp with rfl | rfl | rfl
       ·exact ⟨g1.1, e1⟩
       ·exact ⟨g2.1, e2⟩
       ·exact ⟨g3.1, e3⟩
      repeat' (first | refine aQ fun K hK => ?_ | ((first | refine aK fun R hR => ?_ | refine aD mixed fun R hR => ?_); simp only [go_sem, h1, h2, n1, n2, n3, g1.2, g2.2, g3.2, hdv, hdv2, hpm, hgb, AV.toD, Option.getD_none, Option.getD_some, Option.isSome_some, d1, d2]) | ((first | (refine hR _ ?_; clear hR R) | refine aZ rfl ?_); try refine aP ?_) | ((repeat (fail_if_success refine hK _ ?_); clear hK K); refine hK _ ?_; clear hK K) | refine aT ?_ | refine aF ?_ | refine aB ?_ | ((first | refine CallK.chg (enter145) (hT) ?_ (hA _ (by simp only [go_sem, n1, n2, n3, g1.2, d1, d2]) (by simp only [go_sem, n1, n2, n3, g2.2, d1, d2]) (by simp only [go_sem, n1, n2, n3, g3.2, d1, d2, hpm])) (Fr.rfl' _ _) ?_ | refine CallD.chg (enter145) (hT) ?_ (hA _ (by simp only [go_sem, n1, n2, n3, g1.2, d1, d2]) (by simp only [go_sem, n1, n2, n3, g2.2, d1, d2]) (by simp only [go_sem, n1, n2, n3, g3.2, d1, d2, hpm])) (Fr.rfl' _ _) (by first | assumption | exact List.cons_ne_nil _ _) ?_); (focus exact aC); simp only [go_sem, h1, h2, n1, n2, n3, g1.2, g2.2, g3.2, hdv, hdv2, hpm, hgb, AV.toD, Option.getD_none, Option.getD_some, Option.isSome_some, d1, d2]) | refine aN ?_ | fail)
      refine ret_st (okA Tryz.ntmps145 Tryz.results145) (by simp only [resA, resV, Tryz.results145, go_sem]; first | exact .dat rfl | exact Co.t2 (.dat rfl) (.dat rfl) | exact Co.t3 (.dat rfl) (.dat rfl) (.dat rfl)) ?_ ?_ ?_
      ·refine Ag.ofL (l := ldL u mm mt b q.2) hnd fun p hp => ?_
       have hin : p.1 ∈ [u, mm, mt] := List.mem_map.2 ⟨p, hp, rfl⟩
       refine ⟨?_, by dsimp only; rw [stH_in hin, oL_mem (l := ldL u mm mt b q.2) hnd hp]⟩
       simp only [ldL, List.mem_cons, List.not_mem_nil, or_false] at hp
       rcases hp with rfl | rfl | rfl
       ·exact g1.1
       ·exact g2.1
       ·exact g3.1
      ·intro y hy hyn
       show stH _ _ _ y = _
       rw [stH_get, if_neg hyn]
       exact ((by repeat (first | exact FrN.rfl' _ _ _ | assumption | refine FrN.updk ?_ (by omega) _ | refine FrN.updn ?_ (by simp) _ | refine FrN.stH ?_ _)) : FrN k [u, mm, mt] h0 _) y hy hyn
      ·exact hcl q.2
abbrev unL (u mm : Nm) (b : Bs) : List (Nm × Ob) := [(u, .cells 161 [.map mm]), (mm, .map (bsE b))]
theorem unL_cl {u mm : Nm} {b : Bs} {k : Nat} (h : mm.1 < k) : Cl k [u, mm] (oL (unL u mm b)) := Cl.ofL fun p hp x hx => by
 simp only [unL, List.mem_cons, List.not_mem_nil, or_false] at hp
 rcases hp with rfl | rfl
 ·simp [Ob.names, namesL, AV.names] at hx; rw [hx]; exact h
 ·simp [Ob.names] at hx
theorem unL_ag {u mm : Nm} {b : Bs} {k : Nat} {h : Heap} (hnd : [u, mm].Nodup) (h1 : u.1 < k) (h2 : mm.1 < k) (e1 : h u = some (.cells 161 [.map mm])) (e2 : h mm = some (.map (bsE b))) : Ag k [u, mm] (oL (unL u mm b)) h := Ag.ofL (l := unL u mm b) hnd fun p hp => by
 simp only [unL, List.mem_cons, List.not_mem_nil, or_false] at hp
 rcases hp with rfl | rfl
 ·exact ⟨h1, e1⟩
 ·exact ⟨h2, e2⟩
theorem unL_st {u mm : Nm} {b : Bs} {h : Heap} (hnd : [u, mm].Nodup) : stH [u, mm] (oL (unL u mm b)) h u = some (.cells 161 [.map mm]) ∧ stH [u, mm] (oL (unL u mm b)) h mm = some (.map (bsE b)) :=
 ⟨by rw [stH_in (by simp), oL_mem (l := unL u mm b) (p := (u, _)) hnd (List.mem_cons_self ..)], by rw [stH_in (by simp), oL_mem (l := unL u mm b) (p := (mm, _)) hnd (List.mem_cons_of_mem _ (List.mem_cons_self ..))]⟩
set_option maxHeartbeats 1000000 in
set_option maxRecDepth 20000 in
theorem bind_tri (u mm : Nm) (hnd : [u, mm].Nodup) (b : Bs) (n : Nat) (v : Int) (t : Tm) (q : Bool × Bs) (hq : bindF n b v t = some q) : Tri Tryz.prog 140 [.ptr u 0, iA v, .d (tmDV t)] (stE [u, mm] (oL (unL u mm b)) (oL (unL u mm q.2)) (bA q.1)) := by
 unfold bindF at hq
 obtain ⟨r, hr, rfl⟩ := Option.map_eq_some_iff.1 hq
 refine aES Tryz.func140 rfl Tryz.ntmps140 fun w0 h0 k hag => ?_
 have hg := Ag.toL (l := unL u mm b) hnd hag
 have g1 := hg (u, .cells 161 [.map mm]) (by simp)
 have g2 := hg (mm, .map (bsE b)) (by simp)
 have n1 := nmne g1.1
 have n2 := nmne g2.1
 have hd := hnd
 simp only [List.nodup_cons, List.mem_cons, not_or, List.not_mem_nil, or_false] at hd
 have d1 : (u = mm) = False := eq_false hd.1
 have hnd3 : [u, mm, (k + 1 + 1, 3)].Nodup := by
  have := g1.1; have := g2.1
  simp only [List.nodup_cons, List.mem_cons, not_or, List.not_mem_nil, or_false]
  refine ⟨⟨hd.1, ?_⟩, ?_, by simp, by simp⟩ <;> (intro e; subst e; first | (simp at *; done) | (simp at *; omega))
 have hpm : putM v (tmDV t) (bsE b) = bsE (putA v t b) := putM_A tmDV v t b
 have hT := leads_tri u mm (k + 1 + 1, 3) hnd3 (putA v t b) v n t [] r hr
 have hA : ∀ h : Heap, h u = some (.cells 161 [.map mm]) → h mm = some (.map (bsE (putA v t b))) → h (k + 1 + 1, 3) = some (.map []) → Ag (k + 1 + 1 + 1) [u, mm, (k + 1 + 1, 3)] (oL (ldL u mm (k + 1 + 1, 3) (putA v t b) [])) h := fun h e1 e2 e3 => Ag.ofL (l := ldL u mm (k + 1 + 1, 3) (putA v t b) []) hnd3 fun p hp => by
  have := g1.1; have := g2.1
  simp only [ldL, List.mem_cons, List.not_mem_nil, or_false] at hp
  rcases hp with rfl | rfl | rfl
  ·exact ⟨by simp only at *; omega, e1⟩
  ·exact ⟨by simp only at *; omega, e2⟩
  ·exact ⟨by simp only; omega, e3⟩
 repeat' (first | refine aQ fun K hK => ?_ | ((first | refine aK fun R hR => ?_ | refine aD mixed fun R hR => ?_); simp only [go_sem, n1, n2, g1.2, g2.2, d1, hpm, AV.toD, Option.getD_some]) | ((first | (refine hR _ ?_; clear hR R) | refine aZ rfl ?_); try refine aP ?_) | ((repeat (fail_if_success refine hK _ ?_); clear hK K); refine hK _ ?_; clear hK K) | refine aT ?_ | refine aF ?_ | refine aB ?_ | ((first | refine CallK.chg (enter145) (hT) ?_ (hA _ (by simp only [go_sem, n1, n2, g1.2, d1]) (by simp only [go_sem, n1, n2, g2.2, d1, hpm]) (by simp only [go_sem, ])) (Fr.rfl' _ _) ?_ | refine CallD.chg (enter145) (hT) ?_ (hA _ (by simp only [go_sem, n1, n2, g1.2, d1]) (by simp only [go_sem, n1, n2, g2.2, d1, hpm]) (by simp only [go_sem, ])) (Fr.rfl' _ _) (by first | assumption | exact List.cons_ne_nil _ _) ?_); (focus exact aC); simp only [go_sem, n1, n2, g1.2, g2.2, d1, hpm, AV.toD, Option.getD_some]) | refine aN ?_ | fail)
 refine ret_st (okA Tryz.ntmps140 Tryz.results140) (by simp only [resA, resV, Tryz.results140, go_sem]; first | exact .dat rfl | exact Co.t2 (.dat rfl) (.dat rfl) | exact Co.t3 (.dat rfl) (.dat rfl) (.dat rfl)) ?_ ?_ ?_
 ·refine unL_ag hnd g1.1 g2.1 ?_ ?_
  ·show stH _ _ _ u = _
   rw [stH_in (by simp), oL_mem (l := ldL u mm (k + 1 + 1, 3) (putA v t b) r.2) (p := (u, _)) hnd3 (List.mem_cons_self ..)]
  ·show stH _ _ _ mm = _
   rw [stH_in (by simp), oL_mem (l := ldL u mm (k + 1 + 1, 3) (putA v t b) r.2) (p := (mm, _)) hnd3 (List.mem_cons_of_mem _ (List.mem_cons_self ..))]
 ·intro y hy hyn
  have hy3 : y ∉ [u, mm, (k + 1 + 1, 3)] := fun h => by
   simp only [List.mem_cons, List.not_mem_nil, or_false, not_or] at h hyn
   rcases h with rfl | rfl | rfl
   ·exact hyn.1 rfl
   ·exact hyn.2 rfl
   ·simp at hy; omega
  show stH _ _ _ y = _
  rw [stH_get, if_neg hy3]
  exact ((by repeat (first | exact FrN.rfl' _ _ _ | assumption | refine FrN.updk ?_ (by omega) _ | refine FrN.updn ?_ (by simp) _ | refine FrN.stH ?_ _)) : FrN k [u, mm] h0 _) y hy hyn
 ·exact unL_cl g2.1
end Go.Proofs.YtmeekpinkfpnhabGreat
