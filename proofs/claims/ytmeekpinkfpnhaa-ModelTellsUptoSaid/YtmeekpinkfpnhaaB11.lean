/- model.Holds. Models checked: superposeref.CheckModel. -/
import Derived.Test.YtmeekpinkfpnhaaB10
set_option linter.unusedSimpArgs false
set_option linter.unusedSectionVars false
set_option linter.unusedVariables false
set_option linter.unnecessarySimpa false
set_option linter.all false
namespace Go.Proofs.Ytmeekpinkfpnhaa
open Go.RowKit
set_option linter.unusedSimpArgs false
set_option linter.unusedSectionVars false

theorem roLit {m f b mm : Nm} {sz : Int} {tb : List (List Int)} {es : List (Int × DV)} {k : Nat} {h : Heap} (h1 : m.1 < k) (h2 : f.1 < k) (h3 : b.1 < k) (h4 : mm.1 < k) (e1 : h m = some (.cells 39 [iA sz, .d (.sl (tb.map gI))]))
    (e2 : h f = some (.cells 102 [.fn (.func 77) [] [.ptr b 0]])) (e3 : h b = some (.cells 104 [.map mm])) (e4 : h mm = some (.map es)) : RoOK k (litO m f b mm sz tb es) h := ⟨fun x hx => by
  simp only [litO, List.mem_cons, List.not_mem_nil, or_false] at hx
  rcases hx with rfl | rfl | rfl | rfl
  · exact ⟨h1, e1⟩
  · exact ⟨h2, e2⟩
  · exact ⟨h3, e3⟩
  · exact ⟨h4, e4⟩⟩
theorem flat_len (l : List Tm) : (l.flatMap parts).length = Tm.size.sizes l := by
  induction l with
  | nil => rfl
  | cons x xs ih => rw [List.flatMap_cons, List.length_append, ih, Tm.size.sizes, parts_len]
theorem firstVars_len (l : List Tm) : (firstVars l).length ≤ Tm.size.sizes l := by
  have h1 := addVs_len (l.flatMap parts) []
  rw [flat_len] at h1
  simpa [firstVars] using h1
theorem nd_at {names : List Int} (hnd : names.Nodup) {i : Nat} (hi : i < names.length) : (∀ v ∈ names.take i, v ≠ names[i]) ∧ ∀ v ∈ names.drop (i + 1), v ≠ names[i] := by
  have h : names = names.take i ++ names[i] :: names.drop (i + 1) := by rw [← List.drop_eq_getElem_cons hi, List.take_append_drop]
  rw [h] at hnd
  obtain ⟨_, h2, h3⟩ := List.nodup_append.1 hnd
  exact ⟨fun v hv e => h3 v hv names[i] (List.mem_cons_self ..) e, fun v hv e => by
    have := (List.nodup_cons.1 h2).1
    rw [← e] at this
    exact this hv⟩
theorem step_I {names : List Int} (hnd : names.Nodup) {i : Nat} (hi : i < names.length) {sz ni n : Int} {es : List (Int × DV)} (uI : ∀ v ∈ names.take i, getM v es = some (iD (dig sz names n v))) (uD : ∀ v ∈ names.drop i, dig sz (names.drop i) ni v = dig sz names n v) :
    ∀ v ∈ names.take (i + 1), getM v (putM names[i] (iD (ni.tmod sz)) es) = some (iD (dig sz names n v)) := by
  intro v hv
  rw [List.take_succ_eq_append_getElem hi, List.mem_append] at hv
  rw [getM_put]
  rcases hv with hv | hv
  · rw [if_neg ((nd_at hnd hi).1 v hv)]; exact uI v hv
  · simp at hv
    subst hv
    rw [if_pos rfl]
    have := uD names[i] (by rw [List.drop_eq_getElem_cons hi]; exact List.mem_cons_self ..)
    rw [List.drop_eq_getElem_cons hi, dig, if_pos rfl] at this
    rw [← this]
theorem step_D {names : List Int} (hnd : names.Nodup) {i : Nat} (hi : i < names.length) {sz ni n : Int} (uD : ∀ v ∈ names.drop i, dig sz (names.drop i) ni v = dig sz names n v) :
    ∀ v ∈ names.drop (i + 1), dig sz (names.drop (i + 1)) (ni.tdiv sz) v = dig sz names n v := by
  intro v hv
  have := uD v (by rw [List.drop_eq_getElem_cons hi]; exact List.mem_cons_of_mem _ hv)
  rw [List.drop_eq_getElem_cons hi, dig, if_neg ((nd_at hnd hi).2 v hv)] at this
  exact this
/-- model.Holds' answer. -/
def hldAns (g : List Int) (sz : Int) (tb : List (List Int)) (c : List Lt) : Bool × Int :=
  if mdOk g sz tb ≠ 0 then (false, mdOk g sz tb) else if clsOk g [c] ≠ 0 then (false, clsOk g [c]) else if (firstVars (termsOf c)).length > 8 then (false, 2) else (holdsC sz tb c, 0)
theorem clsOk_one {g : List Int} {c : List Lt} (h : clsOk g [c] = 0) : c.length ≤ 8 ∧ ∀ l ∈ c, own g l.a = 0 ∧ own g l.b = 0 := clOk_all ((clsOk_all h).2.2 c (by simp))
theorem stands_cl {g : List Int} {c : List Lt} (hc : ∀ l ∈ c, own g l.a = 0 ∧ own g l.b = 0) : addVs [] ((termsOf c).flatMap pre) = firstVars (termsOf c) := stands_eq (fun t ht => own_bare (termsOf_own hc t ht)) []
theorem termsOf_size {g : List Int} {c : List Lt} (hc : ∀ l ∈ c, own g l.a = 0 ∧ own g l.b = 0) : Tm.size.sizes (termsOf c) ≤ 240 * c.length := by
  induction c with
  | nil => simp [termsOf, Tm.size.sizes]
  | cons l c ih =>
    have h1 := hc l (by simp)
    have h2 := own_parts h1.1
    have h3 := own_parts h1.2
    have h4 := ih fun x hx => hc x (by simp [hx])
    rw [parts_len] at h2 h3
    have : termsOf (l :: c) = l.a :: l.b :: termsOf c := rfl
    rw [this, Tm.size.sizes, Tm.size.sizes, List.length_cons]
    omega
set_option maxHeartbeats 4000000 in
set_option maxRecDepth 20000 in
theorem mdHolds_tri (g : List Int) (sz : Int) (tb : List (List Int)) (c : List Lt) (hl : tb.length ≤ 4000000) (hr : ∀ r ∈ tb, r.length ≤ 4000000) (hcl : c.length ≤ 4000000) :
    Tri Try.prog 19 [.d (sgDV g), .d (mdDV sz tb), .d (clDV c)] (pure' (.tup [bA (hldAns g sz tb c).1, iA (hldAns g sz tb c).2])) := by
  have hcc := clCheck_tri g [c] (by simp) (by simpa using hcl)
  refine tri_enter Try.func19 rfl Try.ntmps19 (by simp only [List.length_cons, List.length_nil]; omega) fun w0 h0 k hrd hwr => ?_
  cases hm : mdOk g sz tb == 0 with
  | false =>
    have hm' : (mdOk g sz tb != 0) = true := by simpa using hm
    have ha : hldAns g sz tb c = (false, mdOk g sz tb) := by unfold hldAns; rw [if_pos (by simpa using hm)]
    repeat' (first
      | refine awp_seq_k fun K hK => ?_
      | (refine awp_region_k (by kernel_rfl) fun R hR => ?_; simp only [go_sem, hm, hm'])
      | (refine awp_draw mixed (by kernel_rfl) (by kernel_rfl) fun R hR => ?_; simp only [go_sem, hm, hm'])
      | (refine hR _ ?_; clear hR R; try simp only [thenA, inBlockA, reduceIte, reduceCtorEq, Nat.reduceEqDiff, if_false, if_true])
      | (refine hK _ ?_; clear hK K)
      | (clear hK K; refine hK _ ?_; clear hK K)
      | (clear hK K; clear hK K; refine hK _ ?_; clear hK K)
      | (clear hK K; clear hK K; clear hK K; refine hK _ ?_; clear hK K)
      | (clear hK K; clear hK K; clear hK K; clear hK K; refine hK _ ?_; clear hK K)
      | refine awp_true rfl rfl ?_
      | refine awp_false rfl rfl ?_
      | (refine awp_cond rfl rfl (fun hc => ?_) (fun hc => ?_) <;> (try simp only [go_sem, hm, hm'] at hc) <;> (try (exfalso; omega)))
      | refine awp_block ?_
      | (refine awp_skip ?_; try simp only [thenA, inBlockA, reduceIte, reduceCtorEq, Nat.reduceEqDiff, if_false, if_true])
      | (refine awp_exit ?_; try simp only [thenA, inBlockA, reduceIte, reduceCtorEq, Nat.reduceEqDiff, if_false, if_true])
      | (refine awp_ret ?_; try simp only [thenA, inBlockA, reduceIte, reduceCtorEq, Nat.reduceEqDiff, if_false, if_true])
      | (refine runL_split ?_ (fun hc => ?_) (fun hc => ?_); (simp only [go_sem, hm, hm']; exact rfl); all_goals (try simp only [go_sem, hc, hm, hm']); all_goals (try simp only [go_sem, hm, hm'] at hc); all_goals (try (exfalso; omega)))
      | (refine runD_split ?_ (fun hc => ?_) (fun hc => ?_); (simp only [go_sem, hm, hm']; exact rfl); all_goals (try simp only [go_sem, hc, hm, hm']); all_goals (try simp only [go_sem, hm, hm'] at hc); all_goals (try (exfalso; omega)))
      | (first | (refine CallK.pure (enter28) (mdCheck_tri g sz tb hl hr) ?_ ?_; (focus first | ((repeat (first | exact trivial | refine ⟨(by first | exact Or.inl rfl | exact Or.inr rfl), ?_⟩)); done) | (simp only [coL, AV.dat, true_or, or_true, AV.d.injEq, go_sem]; done)); simp only [go_sem, hm, hm']) | (refine CallD.pure (enter28) (mdCheck_tri g sz tb hl hr) ?_ ?_; (focus first | ((repeat (first | exact trivial | refine ⟨(by first | exact Or.inl rfl | exact Or.inr rfl), ?_⟩)); done) | (simp only [coL, AV.dat, true_or, or_true, AV.d.injEq, go_sem]; done)); simp only [go_sem, hm, hm']))
      | refine And.intro (by first | omega | exact trivial | rfl | assumption | (apply map_sz; intro a; simp only [go_sem]; done) | ((and_intros <;> first | omega | exact trivial | rfl | assumption | (apply map_sz; intro a; simp only [go_sem]; done) | fail); done) | fail) ?_
      | fail)
    rw [ha]
    first | refine ret_pure (by simp only [Try.results19, resOkL, resOk, Try.ntmps19, List.toList_toArray]; first | decide | (simp only [go_sem]; done) | (simp only [go_sem]; and_intros <;> first | omega | rfl | decide)) ?_ (by repeat (first | exact Fr.rfl' _ _ | assumption | refine Fr.updk ?_ (by omega) _)) | refine ret_ro (by simp only [Try.results19, resOkL, resOk, Try.ntmps19, List.toList_toArray]; first | decide | (simp only [go_sem]; done) | (simp only [go_sem]; and_intros <;> first | omega | rfl | decide)) ?_ (by repeat (first | exact Fr.rfl' _ _ | assumption | refine Fr.updk ?_ (by omega) _))
    simp only [resA, resV, Try.results19, go_sem]
    all_goals try (first | exact Co.t2 (.dat rfl) (.dat rfl) | exact Co.t3 (.dat rfl) (.dat rfl) (.dat rfl))
  | true =>
    have hm2 : mdOk g sz tb = 0 := by simpa using hm
    cases ho : clsOk g [c] == 0 with
    | false =>
      have ho' : (clsOk g [c] != 0) = true := by simpa using ho
      have ha : hldAns g sz tb c = (false, clsOk g [c]) := by unfold hldAns; rw [if_neg (by simp [hm2]), if_pos (by simpa using ho)]
      repeat' (first
        | refine awp_seq_k fun K hK => ?_
        | (refine awp_region_k (by kernel_rfl) fun R hR => ?_; simp only [go_sem, hm2, ho', beq_self_eq_true])
        | (refine awp_draw mixed (by kernel_rfl) (by kernel_rfl) fun R hR => ?_; simp only [go_sem, hm2, ho', beq_self_eq_true])
        | (refine hR _ ?_; clear hR R; try simp only [thenA, inBlockA, reduceIte, reduceCtorEq, Nat.reduceEqDiff, if_false, if_true])
        | (refine hK _ ?_; clear hK K)
        | (clear hK K; refine hK _ ?_; clear hK K)
        | (clear hK K; clear hK K; refine hK _ ?_; clear hK K)
        | (clear hK K; clear hK K; clear hK K; refine hK _ ?_; clear hK K)
        | (clear hK K; clear hK K; clear hK K; clear hK K; refine hK _ ?_; clear hK K)
        | refine awp_true rfl rfl ?_
        | refine awp_false rfl rfl ?_
        | (refine awp_cond rfl rfl (fun hc => ?_) (fun hc => ?_) <;> (try simp only [go_sem, hm2, ho', beq_self_eq_true] at hc) <;> (try (exfalso; omega)))
        | refine awp_block ?_
        | (refine awp_skip ?_; try simp only [thenA, inBlockA, reduceIte, reduceCtorEq, Nat.reduceEqDiff, if_false, if_true])
        | (refine awp_exit ?_; try simp only [thenA, inBlockA, reduceIte, reduceCtorEq, Nat.reduceEqDiff, if_false, if_true])
        | (refine awp_ret ?_; try simp only [thenA, inBlockA, reduceIte, reduceCtorEq, Nat.reduceEqDiff, if_false, if_true])
        | (refine runL_split ?_ (fun hc => ?_) (fun hc => ?_); (simp only [go_sem, hm2, ho', beq_self_eq_true]; exact rfl); all_goals (try simp only [go_sem, hc, hm2, ho', beq_self_eq_true]); all_goals (try simp only [go_sem, hm2, ho', beq_self_eq_true] at hc); all_goals (try (exfalso; omega)))
        | (refine runD_split ?_ (fun hc => ?_) (fun hc => ?_); (simp only [go_sem, hm2, ho', beq_self_eq_true]; exact rfl); all_goals (try simp only [go_sem, hc, hm2, ho', beq_self_eq_true]); all_goals (try simp only [go_sem, hm2, ho', beq_self_eq_true] at hc); all_goals (try (exfalso; omega)))
        | (first | (refine CallK.pure (enter28) (mdCheck_tri g sz tb hl hr) ?_ ?_; (focus first | ((repeat (first | exact trivial | refine ⟨(by first | exact Or.inl rfl | exact Or.inr rfl), ?_⟩)); done) | (simp only [coL, AV.dat, true_or, or_true, AV.d.injEq, go_sem]; done)); simp only [go_sem, hm2, ho', beq_self_eq_true]) | (refine CallD.pure (enter28) (mdCheck_tri g sz tb hl hr) ?_ ?_; (focus first | ((repeat (first | exact trivial | refine ⟨(by first | exact Or.inl rfl | exact Or.inr rfl), ?_⟩)); done) | (simp only [coL, AV.dat, true_or, or_true, AV.d.injEq, go_sem]; done)); simp only [go_sem, hm2, ho', beq_self_eq_true]))
        | (first | (refine CallK.pure (enter36) (hcc) ?_ ?_; (focus first | ((repeat (first | exact trivial | refine ⟨(by first | exact Or.inl rfl | exact Or.inr rfl), ?_⟩)); done) | (simp only [coL, AV.dat, true_or, or_true, AV.d.injEq, go_sem]; done)); simp only [go_sem, hm2, ho', beq_self_eq_true]) | (refine CallD.pure (enter36) (hcc) ?_ ?_; (focus first | ((repeat (first | exact trivial | refine ⟨(by first | exact Or.inl rfl | exact Or.inr rfl), ?_⟩)); done) | (simp only [coL, AV.dat, true_or, or_true, AV.d.injEq, go_sem]; done)); simp only [go_sem, hm2, ho', beq_self_eq_true]))
        | refine And.intro (by first | omega | exact trivial | rfl | assumption | (apply map_sz; intro a; simp only [go_sem]; done) | ((and_intros <;> first | omega | exact trivial | rfl | assumption | (apply map_sz; intro a; simp only [go_sem]; done) | fail); done) | fail) ?_
        | fail)
      rw [ha]
      first | refine ret_pure (by simp only [Try.results19, resOkL, resOk, Try.ntmps19, List.toList_toArray]; first | decide | (simp only [go_sem]; done) | (simp only [go_sem]; and_intros <;> first | omega | rfl | decide)) ?_ (by repeat (first | exact Fr.rfl' _ _ | assumption | refine Fr.updk ?_ (by omega) _)) | refine ret_ro (by simp only [Try.results19, resOkL, resOk, Try.ntmps19, List.toList_toArray]; first | decide | (simp only [go_sem]; done) | (simp only [go_sem]; and_intros <;> first | omega | rfl | decide)) ?_ (by repeat (first | exact Fr.rfl' _ _ | assumption | refine Fr.updk ?_ (by omega) _))
      simp only [resA, resV, Try.results19, go_sem]
      all_goals try (first | exact Co.t2 (.dat rfl) (.dat rfl) | exact Co.t3 (.dat rfl) (.dat rfl) (.dat rfl))
    | true =>
      have ho2 : clsOk g [c] = 0 := by simpa using ho
      obtain ⟨hc8, hc⟩ := clsOk_one ho2
      have hts := termsOf_size hc
      have hst := stands_tri (termsOf c) (by omega)
      rw [stands_cl hc] at hst
      have hin := names_in hc
      have hnd : (firstVars (termsOf c)).Nodup := addVs_nodup List.nodup_nil
      have hC : ∀ N : Nat, N = (sz ^ (firstVars (termsOf c)).length).toNat → holdsC sz tb c = holdsF sz tb c (firstVars (termsOf c)) N 0 := fun N h => by rw [h]; rfl
      have hfine := fun (n : Int) (hn : 0 ≤ n) (l : Lt) (hl : l ∈ c) => fine_lit (mdOk_all hm2).2.1 hn hc hl
      unfold hldAns
      rw [if_neg (by simp [hm2]), if_neg (by simp [ho2])]
      have hn16 : (firstVars (termsOf c)).length ≤ 2000 := by have := firstVars_len (termsOf c); omega
      generalize hnames : firstVars (termsOf c) = names at *
      cases h8 : decide ((names.length : Int) > 8) with
      | true =>
        rw [if_pos (by simp at h8; omega)]
        repeat' (first
          | refine awp_seq_k fun K hK => ?_
          | (refine awp_region_k (by kernel_rfl) fun R hR => ?_; simp only [go_sem, hm2, ho2, beq_self_eq_true, bne_self_eq_false, h8])
          | (refine awp_draw mixed (by kernel_rfl) (by kernel_rfl) fun R hR => ?_; simp only [go_sem, hm2, ho2, beq_self_eq_true, bne_self_eq_false, h8])
          | (refine hR _ ?_; clear hR R; try simp only [thenA, inBlockA, reduceIte, reduceCtorEq, Nat.reduceEqDiff, if_false, if_true])
          | (refine hK _ ?_; clear hK K)
          | (clear hK K; refine hK _ ?_; clear hK K)
          | (clear hK K; clear hK K; refine hK _ ?_; clear hK K)
          | (clear hK K; clear hK K; clear hK K; refine hK _ ?_; clear hK K)
          | (clear hK K; clear hK K; clear hK K; clear hK K; refine hK _ ?_; clear hK K)
          | refine awp_true rfl rfl ?_
          | refine awp_false rfl rfl ?_
          | (refine awp_cond rfl rfl (fun hc => ?_) (fun hc => ?_) <;> (try simp only [go_sem, hm2, ho2, beq_self_eq_true, bne_self_eq_false, h8] at hc) <;> (try (exfalso; omega)))
          | refine awp_block ?_
          | (refine awp_skip ?_; try simp only [thenA, inBlockA, reduceIte, reduceCtorEq, Nat.reduceEqDiff, if_false, if_true])
          | (refine awp_exit ?_; try simp only [thenA, inBlockA, reduceIte, reduceCtorEq, Nat.reduceEqDiff, if_false, if_true])
          | (refine awp_ret ?_; try simp only [thenA, inBlockA, reduceIte, reduceCtorEq, Nat.reduceEqDiff, if_false, if_true])
          | (refine runL_split ?_ (fun hc => ?_) (fun hc => ?_); (simp only [go_sem, hm2, ho2, beq_self_eq_true, bne_self_eq_false, h8]; exact rfl); all_goals (try simp only [go_sem, hc, hm2, ho2, beq_self_eq_true, bne_self_eq_false, h8]); all_goals (try simp only [go_sem, hm2, ho2, beq_self_eq_true, bne_self_eq_false, h8] at hc); all_goals (try (exfalso; omega)))
          | (refine runD_split ?_ (fun hc => ?_) (fun hc => ?_); (simp only [go_sem, hm2, ho2, beq_self_eq_true, bne_self_eq_false, h8]; exact rfl); all_goals (try simp only [go_sem, hc, hm2, ho2, beq_self_eq_true, bne_self_eq_false, h8]); all_goals (try simp only [go_sem, hm2, ho2, beq_self_eq_true, bne_self_eq_false, h8] at hc); all_goals (try (exfalso; omega)))
          | (first | (refine CallK.pure (enter28) (mdCheck_tri g sz tb hl hr) ?_ ?_; (focus first | ((repeat (first | exact trivial | refine ⟨(by first | exact Or.inl rfl | exact Or.inr rfl), ?_⟩)); done) | (simp only [coL, AV.dat, true_or, or_true, AV.d.injEq, go_sem]; done)); simp only [go_sem, hm2, ho2, beq_self_eq_true, bne_self_eq_false, h8]) | (refine CallD.pure (enter28) (mdCheck_tri g sz tb hl hr) ?_ ?_; (focus first | ((repeat (first | exact trivial | refine ⟨(by first | exact Or.inl rfl | exact Or.inr rfl), ?_⟩)); done) | (simp only [coL, AV.dat, true_or, or_true, AV.d.injEq, go_sem]; done)); simp only [go_sem, hm2, ho2, beq_self_eq_true, bne_self_eq_false, h8]))
          | (first | (refine CallK.pure (enter36) (hcc) ?_ ?_; (focus first | ((repeat (first | exact trivial | refine ⟨(by first | exact Or.inl rfl | exact Or.inr rfl), ?_⟩)); done) | (simp only [coL, AV.dat, true_or, or_true, AV.d.injEq, go_sem]; done)); simp only [go_sem, hm2, ho2, beq_self_eq_true, bne_self_eq_false, h8]) | (refine CallD.pure (enter36) (hcc) ?_ ?_; (focus first | ((repeat (first | exact trivial | refine ⟨(by first | exact Or.inl rfl | exact Or.inr rfl), ?_⟩)); done) | (simp only [coL, AV.dat, true_or, or_true, AV.d.injEq, go_sem]; done)); simp only [go_sem, hm2, ho2, beq_self_eq_true, bne_self_eq_false, h8]))
          | (first | (refine CallK.pure (enter75) (terms_tri c hcl) ?_ ?_; (focus first | ((repeat (first | exact trivial | refine ⟨(by first | exact Or.inl rfl | exact Or.inr rfl), ?_⟩)); done) | (simp only [coL, AV.dat, true_or, or_true, AV.d.injEq, go_sem]; done)); simp only [go_sem, hm2, ho2, beq_self_eq_true, bne_self_eq_false, h8]) | (refine CallD.pure (enter75) (terms_tri c hcl) ?_ ?_; (focus first | ((repeat (first | exact trivial | refine ⟨(by first | exact Or.inl rfl | exact Or.inr rfl), ?_⟩)); done) | (simp only [coL, AV.dat, true_or, or_true, AV.d.injEq, go_sem]; done)); simp only [go_sem, hm2, ho2, beq_self_eq_true, bne_self_eq_false, h8]))
          | (first | (refine CallK.pure (enter70) (hst) ?_ ?_; (focus first | ((repeat (first | exact trivial | refine ⟨(by first | exact Or.inl rfl | exact Or.inr rfl), ?_⟩)); done) | (simp only [coL, AV.dat, true_or, or_true, AV.d.injEq, go_sem]; done)); simp only [go_sem, hm2, ho2, beq_self_eq_true, bne_self_eq_false, h8]) | (refine CallD.pure (enter70) (hst) ?_ ?_; (focus first | ((repeat (first | exact trivial | refine ⟨(by first | exact Or.inl rfl | exact Or.inr rfl), ?_⟩)); done) | (simp only [coL, AV.dat, true_or, or_true, AV.d.injEq, go_sem]; done)); simp only [go_sem, hm2, ho2, beq_self_eq_true, bne_self_eq_false, h8]))
          | refine And.intro (by first | omega | exact trivial | rfl | assumption | (apply map_sz; intro a; simp only [go_sem]; done) | ((and_intros <;> first | omega | exact trivial | rfl | assumption | (apply map_sz; intro a; simp only [go_sem]; done) | fail); done) | fail) ?_
          | fail)
        first | refine ret_pure (by simp only [Try.results19, resOkL, resOk, Try.ntmps19, List.toList_toArray]; first | decide | (simp only [go_sem]; done) | (simp only [go_sem]; and_intros <;> first | omega | rfl | decide)) ?_ (by repeat (first | exact Fr.rfl' _ _ | assumption | refine Fr.updk ?_ (by omega) _)) | refine ret_ro (by simp only [Try.results19, resOkL, resOk, Try.ntmps19, List.toList_toArray]; first | decide | (simp only [go_sem]; done) | (simp only [go_sem]; and_intros <;> first | omega | rfl | decide)) ?_ (by repeat (first | exact Fr.rfl' _ _ | assumption | refine Fr.updk ?_ (by omega) _))
        simp only [resA, resV, Try.results19, go_sem]
        all_goals try (first | exact Co.t2 (.dat rfl) (.dat rfl) | exact Co.t3 (.dat rfl) (.dat rfl) (.dat rfl))
      | false =>
        have h8' : ¬ names.length > 8 := by simp at h8; omega
        rw [if_neg h8']
        obtain ⟨m1, m2, m3, _⟩ := mdOk_all hm2
        have pw := power_tri (n := sz) (by omega) (by omega) (j := names.length) (by omega)
        obtain ⟨p1, p2⟩ := pw_le (n := sz) (by omega) (by omega) (i := names.length) (by omega)
        obtain ⟨N, hN⟩ : ∃ N : Nat, sz ^ names.length = (N : Int) := ⟨(sz ^ names.length).toNat, by omega⟩
        rw [hN] at pw p1 p2
        have hC := hC N (by rw [hN]; rfl)
        repeat' (first
          | refine awp_seq_k fun K hK => ?_
          | (refine awp_region_k (by kernel_rfl) fun R hR => ?_; simp only [go_sem, hm2, ho2, beq_self_eq_true, bne_self_eq_false, h8])
          | (refine awp_draw mixed (by kernel_rfl) (by kernel_rfl) fun R hR => ?_; simp only [go_sem, hm2, ho2, beq_self_eq_true, bne_self_eq_false, h8])
          | (refine hR _ ?_; clear hR R; try simp only [thenA, inBlockA, reduceIte, reduceCtorEq, Nat.reduceEqDiff, if_false, if_true])
          | (refine hK _ ?_; clear hK K)
          | (clear hK K; refine hK _ ?_; clear hK K)
          | (clear hK K; clear hK K; refine hK _ ?_; clear hK K)
          | (clear hK K; clear hK K; clear hK K; refine hK _ ?_; clear hK K)
          | (clear hK K; clear hK K; clear hK K; clear hK K; refine hK _ ?_; clear hK K)
          | refine awp_true rfl rfl ?_
          | refine awp_false rfl rfl ?_
          | (refine awp_cond rfl rfl (fun hc => ?_) (fun hc => ?_) <;> (try simp only [go_sem, hm2, ho2, beq_self_eq_true, bne_self_eq_false, h8] at hc) <;> (try (exfalso; omega)))
          | refine awp_block ?_
          | (refine awp_skip ?_; try simp only [thenA, inBlockA, reduceIte, reduceCtorEq, Nat.reduceEqDiff, if_false, if_true])
          | (refine awp_exit ?_; try simp only [thenA, inBlockA, reduceIte, reduceCtorEq, Nat.reduceEqDiff, if_false, if_true])
          | (refine awp_ret ?_; try simp only [thenA, inBlockA, reduceIte, reduceCtorEq, Nat.reduceEqDiff, if_false, if_true])
          | (refine runL_split ?_ (fun hc => ?_) (fun hc => ?_); (simp only [go_sem, hm2, ho2, beq_self_eq_true, bne_self_eq_false, h8]; exact rfl); all_goals (try simp only [go_sem, hc, hm2, ho2, beq_self_eq_true, bne_self_eq_false, h8]); all_goals (try simp only [go_sem, hm2, ho2, beq_self_eq_true, bne_self_eq_false, h8] at hc); all_goals (try (exfalso; omega)))
          | (refine runD_split ?_ (fun hc => ?_) (fun hc => ?_); (simp only [go_sem, hm2, ho2, beq_self_eq_true, bne_self_eq_false, h8]; exact rfl); all_goals (try simp only [go_sem, hc, hm2, ho2, beq_self_eq_true, bne_self_eq_false, h8]); all_goals (try simp only [go_sem, hm2, ho2, beq_self_eq_true, bne_self_eq_false, h8] at hc); all_goals (try (exfalso; omega)))
          | (first | (refine CallK.pure (enter28) (mdCheck_tri g sz tb hl hr) ?_ ?_; (focus first | ((repeat (first | exact trivial | refine ⟨(by first | exact Or.inl rfl | exact Or.inr rfl), ?_⟩)); done) | (simp only [coL, AV.dat, true_or, or_true, AV.d.injEq, go_sem]; done)); simp only [go_sem, hm2, ho2, beq_self_eq_true, bne_self_eq_false, h8]) | (refine CallD.pure (enter28) (mdCheck_tri g sz tb hl hr) ?_ ?_; (focus first | ((repeat (first | exact trivial | refine ⟨(by first | exact Or.inl rfl | exact Or.inr rfl), ?_⟩)); done) | (simp only [coL, AV.dat, true_or, or_true, AV.d.injEq, go_sem]; done)); simp only [go_sem, hm2, ho2, beq_self_eq_true, bne_self_eq_false, h8]))
          | (first | (refine CallK.pure (enter36) (hcc) ?_ ?_; (focus first | ((repeat (first | exact trivial | refine ⟨(by first | exact Or.inl rfl | exact Or.inr rfl), ?_⟩)); done) | (simp only [coL, AV.dat, true_or, or_true, AV.d.injEq, go_sem]; done)); simp only [go_sem, hm2, ho2, beq_self_eq_true, bne_self_eq_false, h8]) | (refine CallD.pure (enter36) (hcc) ?_ ?_; (focus first | ((repeat (first | exact trivial | refine ⟨(by first | exact Or.inl rfl | exact Or.inr rfl), ?_⟩)); done) | (simp only [coL, AV.dat, true_or, or_true, AV.d.injEq, go_sem]; done)); simp only [go_sem, hm2, ho2, beq_self_eq_true, bne_self_eq_false, h8]))
          | (first | (refine CallK.pure (enter75) (terms_tri c hcl) ?_ ?_; (focus first | ((repeat (first | exact trivial | refine ⟨(by first | exact Or.inl rfl | exact Or.inr rfl), ?_⟩)); done) | (simp only [coL, AV.dat, true_or, or_true, AV.d.injEq, go_sem]; done)); simp only [go_sem, hm2, ho2, beq_self_eq_true, bne_self_eq_false, h8]) | (refine CallD.pure (enter75) (terms_tri c hcl) ?_ ?_; (focus first | ((repeat (first | exact trivial | refine ⟨(by first | exact Or.inl rfl | exact Or.inr rfl), ?_⟩)); done) | (simp only [coL, AV.dat, true_or, or_true, AV.d.injEq, go_sem]; done)); simp only [go_sem, hm2, ho2, beq_self_eq_true, bne_self_eq_false, h8]))
          | (first | (refine CallK.pure (enter70) (hst) ?_ ?_; (focus first | ((repeat (first | exact trivial | refine ⟨(by first | exact Or.inl rfl | exact Or.inr rfl), ?_⟩)); done) | (simp only [coL, AV.dat, true_or, or_true, AV.d.injEq, go_sem]; done)); simp only [go_sem, hm2, ho2, beq_self_eq_true, bne_self_eq_false, h8]) | (refine CallD.pure (enter70) (hst) ?_ ?_; (focus first | ((repeat (first | exact trivial | refine ⟨(by first | exact Or.inl rfl | exact Or.inr rfl), ?_⟩)); done) | (simp only [coL, AV.dat, true_or, or_true, AV.d.injEq, go_sem]; done)); simp only [go_sem, hm2, ho2, beq_self_eq_true, bne_self_eq_false, h8]))
          | (first | (refine CallK.pure (enter76) (pw) ?_ ?_; (focus first | ((repeat (first | exact trivial | refine ⟨(by first | exact Or.inl rfl | exact Or.inr rfl), ?_⟩)); done) | (simp only [coL, AV.dat, true_or, or_true, AV.d.injEq, go_sem]; done)); simp only [go_sem, hm2, ho2, beq_self_eq_true, bne_self_eq_false, h8]) | (refine CallD.pure (enter76) (pw) ?_ ?_; (focus first | ((repeat (first | exact trivial | refine ⟨(by first | exact Or.inl rfl | exact Or.inr rfl), ?_⟩)); done) | (simp only [coL, AV.dat, true_or, or_true, AV.d.injEq, go_sem]; done)); simp only [go_sem, hm2, ho2, beq_self_eq_true, bne_self_eq_false, h8]))
          | refine And.intro (by first | omega | exact trivial | rfl | assumption | (apply map_sz; intro a; simp only [go_sem]; done) | ((and_intros <;> first | omega | exact trivial | rfl | assumption | (apply map_sz; intro a; simp only [go_sem]; done) | fail); done) | fail) ?_
          | fail)
        refine awp_loop (fun σ => ∃ n : Nat, σ.t 2 = .d (clDV c) ∧ σ.t 4 = .ptr (k, 1) 0 ∧ σ.t 9 = .d (.sl (names.map iD)) ∧ σ.t 37 = iA N ∧ σ.t 38 = iA n ∧ σ.h (k, 1) = some (.cells 39 [iA sz, .d (.sl (tb.map gI))]) ∧ Fr k h0 σ.h ∧ k < σ.k ∧ n ≤ N ∧ holdsF sz tb c names N n = holdsC sz tb c) (fun σ => N - (intOf' (σ.t 38)).toNat) ?_ ?_
        · refine ⟨0, ?_⟩
          simp only [go_sem]
          and_intros; all_goals try (first | rfl | omega | assumption | ((repeat (first | exact Fr.rfl' _ _ | assumption | refine Fr.updk ?_ (by omega) _)); done))
          exact hC.symm
        · rintro σ ⟨n, s2, s4, s9, s37, s38, sh, hF, hk, hn, hv⟩
          have hne := ltne hk
          rcases Nat.lt_or_ge n N with hlt | hge
          · have hz : (n : Int) < (N : Int) := by omega
            rw [holdsF_at hlt] at hv
            repeat' (first
              | refine awp_seq_k fun K hK => ?_
              | (refine awp_region_k (by kernel_rfl) fun R hR => ?_; simp only [go_sem, s2, s4, s9, s37, s38, sh, hz, hne])
              | (refine awp_draw mixed (by kernel_rfl) (by kernel_rfl) fun R hR => ?_; simp only [go_sem, s2, s4, s9, s37, s38, sh, hz, hne])
              | (refine hR _ ?_; clear hR R; try simp only [thenA, inBlockA, reduceIte, reduceCtorEq, Nat.reduceEqDiff, if_false, if_true])
              | (refine hK _ ?_; clear hK K)
              | (clear hK K; refine hK _ ?_; clear hK K)
              | (clear hK K; clear hK K; refine hK _ ?_; clear hK K)
              | (clear hK K; clear hK K; clear hK K; refine hK _ ?_; clear hK K)
              | (clear hK K; clear hK K; clear hK K; clear hK K; refine hK _ ?_; clear hK K)
              | refine awp_true rfl rfl ?_
              | refine awp_false rfl rfl ?_
              | (refine awp_cond rfl rfl (fun hc => ?_) (fun hc => ?_) <;> (try simp only [go_sem, s2, s4, s9, s37, s38, sh, hz, hne] at hc) <;> (try (exfalso; omega)))
              | refine awp_block ?_
              | (refine awp_skip ?_; try simp only [thenA, inBlockA, reduceIte, reduceCtorEq, Nat.reduceEqDiff, if_false, if_true])
              | (refine awp_exit ?_; try simp only [thenA, inBlockA, reduceIte, reduceCtorEq, Nat.reduceEqDiff, if_false, if_true])
              | (refine awp_ret ?_; try simp only [thenA, inBlockA, reduceIte, reduceCtorEq, Nat.reduceEqDiff, if_false, if_true])
              | (refine runL_split ?_ (fun hc => ?_) (fun hc => ?_); (simp only [go_sem, s2, s4, s9, s37, s38, sh, hz, hne]; exact rfl); all_goals (try simp only [go_sem, hc, s2, s4, s9, s37, s38, sh, hz, hne]); all_goals (try simp only [go_sem, s2, s4, s9, s37, s38, sh, hz, hne] at hc); all_goals (try (exfalso; omega)))
              | (refine runD_split ?_ (fun hc => ?_) (fun hc => ?_); (simp only [go_sem, s2, s4, s9, s37, s38, sh, hz, hne]; exact rfl); all_goals (try simp only [go_sem, hc, s2, s4, s9, s37, s38, sh, hz, hne]); all_goals (try simp only [go_sem, s2, s4, s9, s37, s38, sh, hz, hne] at hc); all_goals (try (exfalso; omega)))
              | refine And.intro (by first | omega | exact trivial | rfl | assumption | (apply map_sz; intro a; simp only [go_sem]; done) | ((and_intros <;> first | omega | exact trivial | rfl | assumption | (apply map_sz; intro a; simp only [go_sem]; done) | fail); done) | fail) ?_
              | fail)
            refine awp_loop (fun τ => ∃ (i : Nat) (ni : Int) (es : List (Int × DV)), τ.t 2 = .d (clDV c) ∧ τ.t 4 = .ptr (k, 1) 0 ∧ τ.t 9 = .d (.sl (names.map iD)) ∧ τ.t 37 = iA N ∧ τ.t 38 = iA n ∧ τ.t 11 = .ptr (σ.k + 1 + 1, 1) 0 ∧ τ.t 42 = .d (.sl (names.map iD)) ∧ τ.t 43 = iA names.length ∧ τ.t 44 = iA i ∧ τ.t 10 = iA ni ∧
              τ.h (k, 1) = some (.cells 39 [iA sz, .d (.sl (tb.map gI))]) ∧ τ.h (σ.k + 1 + 1, 1) = some (.cells 104 [.map (σ.k + 1 + 1, 0)]) ∧ τ.h (σ.k + 1 + 1, 0) = some (.map es) ∧ Fr k h0 τ.h ∧ σ.k + 1 + 1 < τ.k ∧ i ≤ names.length ∧ 0 ≤ ni ∧ ni ≤ n ∧
              (∀ v ∈ names.take i, getM v es = some (iD (dig sz names n v))) ∧ (∀ v ∈ names.drop i, dig sz (names.drop i) ni v = dig sz names n v)) (fun τ => names.length - (intOf' (τ.t 44)).toNat) ?_ ?_
            · refine ⟨0, n, [], ?_⟩
              simp only [go_sem, s2, s4, s9, s37, s38, sh, hne, List.drop_zero, List.take_zero]
              and_intros; all_goals try (first | rfl | omega | assumption | ((repeat (first | exact Fr.rfl' _ _ | assumption | refine Fr.updk ?_ (by omega) _)); done))
            · rintro τ ⟨i, ni, es, u2, u4, u9, u37, u38, u11, u42, u43, u44, u10, uh, ub, um, uF, uk, ui, u0, un, uI, uD⟩
              have hne' := ltne (show k < τ.k by omega)
              have hne2 := ltne uk
              have hne3 := ltne (show k < σ.k + 1 + 1 by omega)
              rcases Nat.lt_or_ge i names.length with hlt' | hge'
              · have hz' : (i : Int) < (names.length : Int) := by omega
                have e1 : (names.map iD).getD i default = iD names[i] := nth_map iD hlt' _
                have hszne : ¬ (sz = 0) := by omega
                obtain ⟨d1, d2⟩ := tdiv_in u0 m2
                repeat' (first
                  | refine awp_seq_k fun K hK => ?_
                  | (refine awp_region_k (by kernel_rfl) fun R hR => ?_; simp only [go_sem, u2, u4, u9, u11, u42, u43, u44, u10, uh, ub, um, hz', e1, hne', hne2, hne3, hszne, Int.toNat_natCast])
                  | (refine awp_draw mixed (by kernel_rfl) (by kernel_rfl) fun R hR => ?_; simp only [go_sem, u2, u4, u9, u11, u42, u43, u44, u10, uh, ub, um, hz', e1, hne', hne2, hne3, hszne, Int.toNat_natCast])
                  | (refine hR _ ?_; clear hR R; try simp only [thenA, inBlockA, reduceIte, reduceCtorEq, Nat.reduceEqDiff, if_false, if_true])
                  | (refine hK _ ?_; clear hK K)
                  | (clear hK K; refine hK _ ?_; clear hK K)
                  | (clear hK K; clear hK K; refine hK _ ?_; clear hK K)
                  | (clear hK K; clear hK K; clear hK K; refine hK _ ?_; clear hK K)
                  | (clear hK K; clear hK K; clear hK K; clear hK K; refine hK _ ?_; clear hK K)
                  | refine awp_true rfl rfl ?_
                  | refine awp_false rfl rfl ?_
                  | (refine awp_cond rfl rfl (fun hc => ?_) (fun hc => ?_) <;> (try simp only [go_sem, u2, u4, u9, u11, u42, u43, u44, u10, uh, ub, um, hz', e1, hne', hne2, hne3, hszne, Int.toNat_natCast] at hc) <;> (try (exfalso; omega)))
                  | refine awp_block ?_
                  | (refine awp_skip ?_; try simp only [thenA, inBlockA, reduceIte, reduceCtorEq, Nat.reduceEqDiff, if_false, if_true])
                  | (refine awp_exit ?_; try simp only [thenA, inBlockA, reduceIte, reduceCtorEq, Nat.reduceEqDiff, if_false, if_true])
                  | (refine awp_ret ?_; try simp only [thenA, inBlockA, reduceIte, reduceCtorEq, Nat.reduceEqDiff, if_false, if_true])
                  | (refine runL_split ?_ (fun hc => ?_) (fun hc => ?_); (simp only [go_sem, u2, u4, u9, u11, u42, u43, u44, u10, uh, ub, um, hz', e1, hne', hne2, hne3, hszne, Int.toNat_natCast]; exact rfl); all_goals (try simp only [go_sem, hc, u2, u4, u9, u11, u42, u43, u44, u10, uh, ub, um, hz', e1, hne', hne2, hne3, hszne, Int.toNat_natCast]); all_goals (try simp only [go_sem, u2, u4, u9, u11, u42, u43, u44, u10, uh, ub, um, hz', e1, hne', hne2, hne3, hszne, Int.toNat_natCast] at hc); all_goals (try (exfalso; omega)))
                  | (refine runD_split ?_ (fun hc => ?_) (fun hc => ?_); (simp only [go_sem, u2, u4, u9, u11, u42, u43, u44, u10, uh, ub, um, hz', e1, hne', hne2, hne3, hszne, Int.toNat_natCast]; exact rfl); all_goals (try simp only [go_sem, hc, u2, u4, u9, u11, u42, u43, u44, u10, uh, ub, um, hz', e1, hne', hne2, hne3, hszne, Int.toNat_natCast]); all_goals (try simp only [go_sem, u2, u4, u9, u11, u42, u43, u44, u10, uh, ub, um, hz', e1, hne', hne2, hne3, hszne, Int.toNat_natCast] at hc); all_goals (try (exfalso; omega)))
                  | refine And.intro (by first | omega | exact trivial | rfl | assumption | (apply map_sz; intro a; simp only [go_sem]; done) | ((and_intros <;> first | omega | exact trivial | rfl | assumption | (apply map_sz; intro a; simp only [go_sem]; done) | fail); done) | fail) ?_
                  | fail)
                refine ⟨⟨i + 1, ni.tdiv sz, putM names[i] (iD (ni.tmod sz)) es, ?_⟩, ?_⟩
                rotate_left
                · simp only [go_sem, u2, u4, u9, u37, u38, u11, u42, u43, u44, u10, uh, ub, um, hne', hne2, hne3]; omega
                simp only [go_sem, u2, u4, u9, u37, u38, u11, u42, u43, u44, u10, uh, ub, um, hne', hne2, hne3]
                and_intros; all_goals try (first | rfl | omega | assumption | ((repeat (first | exact Fr.rfl' _ _ | assumption | refine Fr.updk ?_ (by omega) _)); done))
                · exact step_I hnd hlt' uI uD
                · exact step_D hnd hlt' uD
              · have hz' : ¬ ((i : Int) < (names.length : Int)) := by omega
                obtain rfl : i = names.length := by omega
                rw [List.take_length] at uI
                have hcf := containsF_lits c (by omega) 79 (enter79) [.ptr (k, 1) 0, .ptr (τ.k + 1, 1) 0] (litO (k, 1) (τ.k + 1, 1) (σ.k + 1 + 1, 1) (σ.k + 1 + 1, 0) sz tb es) (litIn sz tb (dig sz names n)) (fun l hl => by
                  obtain ⟨⟨f1, f2⟩, f3, f4⟩ := hfine n (by omega) l hl
                  exact holds2_tri hm2 (k, 1) (τ.k + 1, 1) (σ.k + 1 + 1, 1) (σ.k + 1 + 1, 0) es (dig sz names n) l f1 f3 (fun x hx hv => uI _ (f2 x hx hv)) (fun x hx hv => uI _ (f4 x hx hv)))
                cases ha : c.any (litIn sz tb (dig sz names n)) with
                | true =>
                  rw [ha] at hcf hv
                  rw [Bool.true_and] at hv
                  repeat' (first
                    | refine awp_seq_k fun K hK => ?_
                    | (refine awp_region_k (by kernel_rfl) fun R hR => ?_; simp only [go_sem, u2, u4, u9, u37, u38, u11, u42, u43, u44, u10, uh, ub, um, hz', hne', hne2, hne3])
                    | (refine awp_draw mixed (by kernel_rfl) (by kernel_rfl) fun R hR => ?_; simp only [go_sem, u2, u4, u9, u37, u38, u11, u42, u43, u44, u10, uh, ub, um, hz', hne', hne2, hne3])
                    | (refine hR _ ?_; clear hR R; try simp only [thenA, inBlockA, reduceIte, reduceCtorEq, Nat.reduceEqDiff, if_false, if_true])
                    | (refine hK _ ?_; clear hK K)
                    | (clear hK K; refine hK _ ?_; clear hK K)
                    | (clear hK K; clear hK K; refine hK _ ?_; clear hK K)
                    | (clear hK K; clear hK K; clear hK K; refine hK _ ?_; clear hK K)
                    | (clear hK K; clear hK K; clear hK K; clear hK K; refine hK _ ?_; clear hK K)
                    | refine awp_true rfl rfl ?_
                    | refine awp_false rfl rfl ?_
                    | (refine awp_cond rfl rfl (fun hc => ?_) (fun hc => ?_) <;> (try simp only [go_sem, u2, u4, u9, u37, u38, u11, u42, u43, u44, u10, uh, ub, um, hz', hne', hne2, hne3] at hc) <;> (try (exfalso; omega)))
                    | refine awp_block ?_
                    | (refine awp_skip ?_; try simp only [thenA, inBlockA, reduceIte, reduceCtorEq, Nat.reduceEqDiff, if_false, if_true])
                    | (refine awp_exit ?_; try simp only [thenA, inBlockA, reduceIte, reduceCtorEq, Nat.reduceEqDiff, if_false, if_true])
                    | (refine awp_ret ?_; try simp only [thenA, inBlockA, reduceIte, reduceCtorEq, Nat.reduceEqDiff, if_false, if_true])
                    | (refine runL_split ?_ (fun hc => ?_) (fun hc => ?_); (simp only [go_sem, u2, u4, u9, u37, u38, u11, u42, u43, u44, u10, uh, ub, um, hz', hne', hne2, hne3]; exact rfl); all_goals (try simp only [go_sem, hc, u2, u4, u9, u37, u38, u11, u42, u43, u44, u10, uh, ub, um, hz', hne', hne2, hne3]); all_goals (try simp only [go_sem, u2, u4, u9, u37, u38, u11, u42, u43, u44, u10, uh, ub, um, hz', hne', hne2, hne3] at hc); all_goals (try (exfalso; omega)))
                    | (refine runD_split ?_ (fun hc => ?_) (fun hc => ?_); (simp only [go_sem, u2, u4, u9, u37, u38, u11, u42, u43, u44, u10, uh, ub, um, hz', hne', hne2, hne3]; exact rfl); all_goals (try simp only [go_sem, hc, u2, u4, u9, u37, u38, u11, u42, u43, u44, u10, uh, ub, um, hz', hne', hne2, hne3]); all_goals (try simp only [go_sem, u2, u4, u9, u37, u38, u11, u42, u43, u44, u10, uh, ub, um, hz', hne', hne2, hne3] at hc); all_goals (try (exfalso; omega)))
                    | (first | (first | (refine CallK.look (enter78) (hcf) ?_ (roLit (k := τ.k + 1 + 1) (by simp only; omega) (by simp only; omega) (by simp only; omega) (by simp only; omega) (by simp only [go_sem, uh, hne', hne2, hne3]) (by simp only [go_sem, uh, hne', hne2, hne3]) (by simp only [go_sem, ub, hne', hne2, hne3]) (by simp only [go_sem, um, hne', hne2, hne3])) (Fr.rfl' _ _) ?_; (focus first | ((repeat (first | exact trivial | refine ⟨(by first | exact Or.inl rfl | exact Or.inr rfl), ?_⟩)); done) | (simp only [coL, AV.dat, true_or, or_true, AV.d.injEq, go_sem]; done)); simp only [go_sem, u2, u4, u9, u37, u38, u11, u42, u43, u44, u10, uh, ub, um, hz', hne', hne2, hne3])) | (first | (refine CallD.look (enter78) (hcf) ?_ (roLit (k := τ.k + 1 + 1) (by simp only; omega) (by simp only; omega) (by simp only; omega) (by simp only; omega) (by simp only [go_sem, uh, hne', hne2, hne3]) (by simp only [go_sem, uh, hne', hne2, hne3]) (by simp only [go_sem, ub, hne', hne2, hne3]) (by simp only [go_sem, um, hne', hne2, hne3])) (Fr.rfl' _ _) (by first | assumption | exact List.cons_ne_nil _ _) ?_; (focus first | ((repeat (first | exact trivial | refine ⟨(by first | exact Or.inl rfl | exact Or.inr rfl), ?_⟩)); done) | (simp only [coL, AV.dat, true_or, or_true, AV.d.injEq, go_sem]; done)); simp only [go_sem, u2, u4, u9, u37, u38, u11, u42, u43, u44, u10, uh, ub, um, hz', hne', hne2, hne3])))
                    | refine And.intro (by first | omega | exact trivial | rfl | assumption | (apply map_sz; intro a; simp only [go_sem]; done) | ((and_intros <;> first | omega | exact trivial | rfl | assumption | (apply map_sz; intro a; simp only [go_sem]; done) | fail); done) | fail) ?_
                    | fail)
                  refine ⟨⟨n + 1, ?_⟩, ?_⟩
                  rotate_left
                  · simp only [go_sem, u2, u4, u9, u37, u38, uh, hne', s38]; omega
                  simp only [go_sem, u2, u4, u9, u37, u38, uh, hne', s38]
                  and_intros; all_goals try (first | rfl | omega | assumption | ((repeat (first | exact Fr.rfl' _ _ | assumption | refine Fr.updk ?_ (by omega) _)); done))
                | false =>
                  rw [ha] at hcf hv
                  rw [Bool.false_and] at hv
                  repeat' (first
                    | refine awp_seq_k fun K hK => ?_
                    | (refine awp_region_k (by kernel_rfl) fun R hR => ?_; simp only [go_sem, u2, u4, u9, u37, u38, u11, u42, u43, u44, u10, uh, ub, um, hz', hne', hne2, hne3])
                    | (refine awp_draw mixed (by kernel_rfl) (by kernel_rfl) fun R hR => ?_; simp only [go_sem, u2, u4, u9, u37, u38, u11, u42, u43, u44, u10, uh, ub, um, hz', hne', hne2, hne3])
                    | (refine hR _ ?_; clear hR R; try simp only [thenA, inBlockA, reduceIte, reduceCtorEq, Nat.reduceEqDiff, if_false, if_true])
                    | (refine hK _ ?_; clear hK K)
                    | (clear hK K; refine hK _ ?_; clear hK K)
                    | (clear hK K; clear hK K; refine hK _ ?_; clear hK K)
                    | (clear hK K; clear hK K; clear hK K; refine hK _ ?_; clear hK K)
                    | (clear hK K; clear hK K; clear hK K; clear hK K; refine hK _ ?_; clear hK K)
                    | refine awp_true rfl rfl ?_
                    | refine awp_false rfl rfl ?_
                    | (refine awp_cond rfl rfl (fun hc => ?_) (fun hc => ?_) <;> (try simp only [go_sem, u2, u4, u9, u37, u38, u11, u42, u43, u44, u10, uh, ub, um, hz', hne', hne2, hne3] at hc) <;> (try (exfalso; omega)))
                    | refine awp_block ?_
                    | (refine awp_skip ?_; try simp only [thenA, inBlockA, reduceIte, reduceCtorEq, Nat.reduceEqDiff, if_false, if_true])
                    | (refine awp_exit ?_; try simp only [thenA, inBlockA, reduceIte, reduceCtorEq, Nat.reduceEqDiff, if_false, if_true])
                    | (refine awp_ret ?_; try simp only [thenA, inBlockA, reduceIte, reduceCtorEq, Nat.reduceEqDiff, if_false, if_true])
                    | (refine runL_split ?_ (fun hc => ?_) (fun hc => ?_); (simp only [go_sem, u2, u4, u9, u37, u38, u11, u42, u43, u44, u10, uh, ub, um, hz', hne', hne2, hne3]; exact rfl); all_goals (try simp only [go_sem, hc, u2, u4, u9, u37, u38, u11, u42, u43, u44, u10, uh, ub, um, hz', hne', hne2, hne3]); all_goals (try simp only [go_sem, u2, u4, u9, u37, u38, u11, u42, u43, u44, u10, uh, ub, um, hz', hne', hne2, hne3] at hc); all_goals (try (exfalso; omega)))
                    | (refine runD_split ?_ (fun hc => ?_) (fun hc => ?_); (simp only [go_sem, u2, u4, u9, u37, u38, u11, u42, u43, u44, u10, uh, ub, um, hz', hne', hne2, hne3]; exact rfl); all_goals (try simp only [go_sem, hc, u2, u4, u9, u37, u38, u11, u42, u43, u44, u10, uh, ub, um, hz', hne', hne2, hne3]); all_goals (try simp only [go_sem, u2, u4, u9, u37, u38, u11, u42, u43, u44, u10, uh, ub, um, hz', hne', hne2, hne3] at hc); all_goals (try (exfalso; omega)))
                    | (first | (first | (refine CallK.look (enter78) (hcf) ?_ (roLit (k := τ.k + 1 + 1) (by simp only; omega) (by simp only; omega) (by simp only; omega) (by simp only; omega) (by simp only [go_sem, uh, hne', hne2, hne3]) (by simp only [go_sem, uh, hne', hne2, hne3]) (by simp only [go_sem, ub, hne', hne2, hne3]) (by simp only [go_sem, um, hne', hne2, hne3])) (Fr.rfl' _ _) ?_; (focus first | ((repeat (first | exact trivial | refine ⟨(by first | exact Or.inl rfl | exact Or.inr rfl), ?_⟩)); done) | (simp only [coL, AV.dat, true_or, or_true, AV.d.injEq, go_sem]; done)); simp only [go_sem, u2, u4, u9, u37, u38, u11, u42, u43, u44, u10, uh, ub, um, hz', hne', hne2, hne3])) | (first | (refine CallD.look (enter78) (hcf) ?_ (roLit (k := τ.k + 1 + 1) (by simp only; omega) (by simp only; omega) (by simp only; omega) (by simp only; omega) (by simp only [go_sem, uh, hne', hne2, hne3]) (by simp only [go_sem, uh, hne', hne2, hne3]) (by simp only [go_sem, ub, hne', hne2, hne3]) (by simp only [go_sem, um, hne', hne2, hne3])) (Fr.rfl' _ _) (by first | assumption | exact List.cons_ne_nil _ _) ?_; (focus first | ((repeat (first | exact trivial | refine ⟨(by first | exact Or.inl rfl | exact Or.inr rfl), ?_⟩)); done) | (simp only [coL, AV.dat, true_or, or_true, AV.d.injEq, go_sem]; done)); simp only [go_sem, u2, u4, u9, u37, u38, u11, u42, u43, u44, u10, uh, ub, um, hz', hne', hne2, hne3])))
                    | refine And.intro (by first | omega | exact trivial | rfl | assumption | (apply map_sz; intro a; simp only [go_sem]; done) | ((and_intros <;> first | omega | exact trivial | rfl | assumption | (apply map_sz; intro a; simp only [go_sem]; done) | fail); done) | fail) ?_
                    | fail)
                  rw [← hv]
                  first | refine ret_pure (by simp only [Try.results19, resOkL, resOk, Try.ntmps19, List.toList_toArray]; first | decide | (simp only [go_sem]; done) | (simp only [go_sem]; and_intros <;> first | omega | rfl | decide)) ?_ (by repeat (first | exact Fr.rfl' _ _ | assumption | refine Fr.updk ?_ (by omega) _)) | refine ret_ro (by simp only [Try.results19, resOkL, resOk, Try.ntmps19, List.toList_toArray]; first | decide | (simp only [go_sem]; done) | (simp only [go_sem]; and_intros <;> first | omega | rfl | decide)) ?_ (by repeat (first | exact Fr.rfl' _ _ | assumption | refine Fr.updk ?_ (by omega) _))
                  simp only [resA, resV, Try.results19, go_sem]
                  all_goals try (first | exact Co.t2 (.dat rfl) (.dat rfl) | exact Co.t3 (.dat rfl) (.dat rfl) (.dat rfl))
          · have hz : ¬ ((n : Int) < (N : Int)) := by omega
            rw [holdsF_end hge] at hv
            repeat' (first
              | refine awp_seq_k fun K hK => ?_
              | (refine awp_region_k (by kernel_rfl) fun R hR => ?_; simp only [go_sem, s37, s38, hz, hne])
              | (refine awp_draw mixed (by kernel_rfl) (by kernel_rfl) fun R hR => ?_; simp only [go_sem, s37, s38, hz, hne])
              | (refine hR _ ?_; clear hR R; try simp only [thenA, inBlockA, reduceIte, reduceCtorEq, Nat.reduceEqDiff, if_false, if_true])
              | (refine hK _ ?_; clear hK K)
              | (clear hK K; refine hK _ ?_; clear hK K)
              | (clear hK K; clear hK K; refine hK _ ?_; clear hK K)
              | (clear hK K; clear hK K; clear hK K; refine hK _ ?_; clear hK K)
              | (clear hK K; clear hK K; clear hK K; clear hK K; refine hK _ ?_; clear hK K)
              | refine awp_true rfl rfl ?_
              | refine awp_false rfl rfl ?_
              | (refine awp_cond rfl rfl (fun hc => ?_) (fun hc => ?_) <;> (try simp only [go_sem, s37, s38, hz, hne] at hc) <;> (try (exfalso; omega)))
              | refine awp_block ?_
              | (refine awp_skip ?_; try simp only [thenA, inBlockA, reduceIte, reduceCtorEq, Nat.reduceEqDiff, if_false, if_true])
              | (refine awp_exit ?_; try simp only [thenA, inBlockA, reduceIte, reduceCtorEq, Nat.reduceEqDiff, if_false, if_true])
              | (refine awp_ret ?_; try simp only [thenA, inBlockA, reduceIte, reduceCtorEq, Nat.reduceEqDiff, if_false, if_true])
              | (refine runL_split ?_ (fun hc => ?_) (fun hc => ?_); (simp only [go_sem, s37, s38, hz, hne]; exact rfl); all_goals (try simp only [go_sem, hc, s37, s38, hz, hne]); all_goals (try simp only [go_sem, s37, s38, hz, hne] at hc); all_goals (try (exfalso; omega)))
              | (refine runD_split ?_ (fun hc => ?_) (fun hc => ?_); (simp only [go_sem, s37, s38, hz, hne]; exact rfl); all_goals (try simp only [go_sem, hc, s37, s38, hz, hne]); all_goals (try simp only [go_sem, s37, s38, hz, hne] at hc); all_goals (try (exfalso; omega)))
              | refine And.intro (by first | omega | exact trivial | rfl | assumption | (apply map_sz; intro a; simp only [go_sem]; done) | ((and_intros <;> first | omega | exact trivial | rfl | assumption | (apply map_sz; intro a; simp only [go_sem]; done) | fail); done) | fail) ?_
              | fail)
            rw [← hv]
            first | refine ret_pure (by simp only [Try.results19, resOkL, resOk, Try.ntmps19, List.toList_toArray]; first | decide | (simp only [go_sem]; done) | (simp only [go_sem]; and_intros <;> first | omega | rfl | decide)) ?_ (by repeat (first | exact Fr.rfl' _ _ | assumption | refine Fr.updk ?_ (by omega) _)) | refine ret_ro (by simp only [Try.results19, resOkL, resOk, Try.ntmps19, List.toList_toArray]; first | decide | (simp only [go_sem]; done) | (simp only [go_sem]; and_intros <;> first | omega | rfl | decide)) ?_ (by repeat (first | exact Fr.rfl' _ _ | assumption | refine Fr.updk ?_ (by omega) _))
            simp only [resA, resV, Try.results19, go_sem]
            all_goals try (first | exact Co.t2 (.dat rfl) (.dat rfl) | exact Co.t3 (.dat rfl) (.dat rfl) (.dat rfl))
end Go.Proofs.Ytmeekpinkfpnhaa

namespace Go.Proofs.Ytmeekpinkfpnhaa
open Go.RowKit
set_option linter.unusedSimpArgs false
set_option linter.unusedSectionVars false

set_option maxHeartbeats 4000000 in
set_option maxRecDepth 20000 in
theorem checkModel_tri (g : List Int) (sz : Int) (tb : List (List Int)) (hl : tb.length ≤ 4000000) (hr : ∀ r ∈ tb, r.length ≤ 4000000) : Tri Try.prog 20 [.d (sgDV g), .d (mdDV sz tb)] (pure' (iA (mdOk g sz tb))) := by
  refine tri_enter Try.func20 rfl Try.ntmps20 (by simp only [List.length_cons, List.length_nil]; omega) fun w0 h0 k hrd hwr => ?_
  cases hs : sigOk g == 0 with
  | false =>
    have hs' : (sigOk g != 0) = true := by simpa using hs
    have hv : mdOk g sz tb = sigOk g := by unfold mdOk; rw [if_pos (by simpa using hs)]
    repeat' (first
      | refine awp_seq_k fun K hK => ?_
      | (refine awp_region_k (by kernel_rfl) fun R hR => ?_; simp only [go_sem, hs'])
      | (refine awp_draw mixed (by kernel_rfl) (by kernel_rfl) fun R hR => ?_; simp only [go_sem, hs'])
      | (refine hR _ ?_; clear hR R; try simp only [thenA, inBlockA, reduceIte, reduceCtorEq, Nat.reduceEqDiff, if_false, if_true])
      | (refine hK _ ?_; clear hK K)
      | (clear hK K; refine hK _ ?_; clear hK K)
      | (clear hK K; clear hK K; refine hK _ ?_; clear hK K)
      | (clear hK K; clear hK K; clear hK K; refine hK _ ?_; clear hK K)
      | (clear hK K; clear hK K; clear hK K; clear hK K; refine hK _ ?_; clear hK K)
      | refine awp_true rfl rfl ?_
      | refine awp_false rfl rfl ?_
      | (refine awp_cond rfl rfl (fun hc => ?_) (fun hc => ?_) <;> (try simp only [go_sem, hs'] at hc) <;> (try (exfalso; omega)))
      | refine awp_block ?_
      | (refine awp_skip ?_; try simp only [thenA, inBlockA, reduceIte, reduceCtorEq, Nat.reduceEqDiff, if_false, if_true])
      | (refine awp_exit ?_; try simp only [thenA, inBlockA, reduceIte, reduceCtorEq, Nat.reduceEqDiff, if_false, if_true])
      | (refine awp_ret ?_; try simp only [thenA, inBlockA, reduceIte, reduceCtorEq, Nat.reduceEqDiff, if_false, if_true])
      | (refine runL_split ?_ (fun hc => ?_) (fun hc => ?_); (simp only [go_sem, hs']; exact rfl); all_goals (try simp only [go_sem, hc, hs']); all_goals (try simp only [go_sem, hs'] at hc); all_goals (try (exfalso; omega)))
      | (refine runD_split ?_ (fun hc => ?_) (fun hc => ?_); (simp only [go_sem, hs']; exact rfl); all_goals (try simp only [go_sem, hc, hs']); all_goals (try simp only [go_sem, hs'] at hc); all_goals (try (exfalso; omega)))
      | (first | (refine CallK.pure (enter54) (checkSig_tri g) ?_ ?_; (focus first | ((repeat (first | exact trivial | refine ⟨(by first | exact Or.inl rfl | exact Or.inr rfl), ?_⟩)); done) | (simp only [coL, AV.dat, true_or, or_true, AV.d.injEq, go_sem]; done)); simp only [go_sem, hs']) | (refine CallD.pure (enter54) (checkSig_tri g) ?_ ?_; (focus first | ((repeat (first | exact trivial | refine ⟨(by first | exact Or.inl rfl | exact Or.inr rfl), ?_⟩)); done) | (simp only [coL, AV.dat, true_or, or_true, AV.d.injEq, go_sem]; done)); simp only [go_sem, hs']))
      | refine And.intro (by first | omega | exact trivial | rfl | assumption | (apply map_sz; intro a; simp only [go_sem]; done) | ((and_intros <;> first | omega | exact trivial | rfl | assumption | (apply map_sz; intro a; simp only [go_sem]; done) | fail); done) | fail) ?_
      | fail)
    first | refine ret_pure (by simp only [Try.results20, resOkL, resOk, Try.ntmps20, List.toList_toArray]; first | decide | (simp only [go_sem]; done) | (simp only [go_sem]; and_intros <;> first | omega | rfl | decide)) ?_ (by repeat (first | exact Fr.rfl' _ _ | assumption | refine Fr.updk ?_ (by omega) _)) | refine ret_ro (by simp only [Try.results20, resOkL, resOk, Try.ntmps20, List.toList_toArray]; first | decide | (simp only [go_sem]; done) | (simp only [go_sem]; and_intros <;> first | omega | rfl | decide)) ?_ (by repeat (first | exact Fr.rfl' _ _ | assumption | refine Fr.updk ?_ (by omega) _))
    simp only [resA, resV, Try.results20, go_sem]
    all_goals try (first | exact Co.t2 (.dat rfl) (.dat rfl) | exact Co.t3 (.dat rfl) (.dat rfl) (.dat rfl))
    exact co_i hv.symm
  | true =>
    have hs2 : sigOk g = 0 := by simpa using hs
    have hlen := sig_len hs2
    by_cases hsz : sz < 1 ∨ sz > 3
    · have hv : mdOk g sz tb = 3 := by unfold mdOk; rw [if_neg (by simp [hs2]), if_pos hsz]
      have hbt : btw sz 1 3 = false := by unfold btw; simp; omega
      repeat' (first
        | refine awp_seq_k fun K hK => ?_
        | (refine awp_region_k (by kernel_rfl) fun R hR => ?_; simp only [go_sem, hs2, bne_self_eq_false, hbt])
        | (refine awp_draw mixed (by kernel_rfl) (by kernel_rfl) fun R hR => ?_; simp only [go_sem, hs2, bne_self_eq_false, hbt])
        | (refine hR _ ?_; clear hR R; try simp only [thenA, inBlockA, reduceIte, reduceCtorEq, Nat.reduceEqDiff, if_false, if_true])
        | (refine hK _ ?_; clear hK K)
        | (clear hK K; refine hK _ ?_; clear hK K)
        | (clear hK K; clear hK K; refine hK _ ?_; clear hK K)
        | (clear hK K; clear hK K; clear hK K; refine hK _ ?_; clear hK K)
        | (clear hK K; clear hK K; clear hK K; clear hK K; refine hK _ ?_; clear hK K)
        | refine awp_true rfl rfl ?_
        | refine awp_false rfl rfl ?_
        | (refine awp_cond rfl rfl (fun hc => ?_) (fun hc => ?_) <;> (try simp only [go_sem, hs2, bne_self_eq_false, hbt] at hc) <;> (try (exfalso; omega)))
        | refine awp_block ?_
        | (refine awp_skip ?_; try simp only [thenA, inBlockA, reduceIte, reduceCtorEq, Nat.reduceEqDiff, if_false, if_true])
        | (refine awp_exit ?_; try simp only [thenA, inBlockA, reduceIte, reduceCtorEq, Nat.reduceEqDiff, if_false, if_true])
        | (refine awp_ret ?_; try simp only [thenA, inBlockA, reduceIte, reduceCtorEq, Nat.reduceEqDiff, if_false, if_true])
        | (refine runL_split ?_ (fun hc => ?_) (fun hc => ?_); (simp only [go_sem, hs2, bne_self_eq_false, hbt]; exact rfl); all_goals (try simp only [go_sem, hc, hs2, bne_self_eq_false, hbt]); all_goals (try simp only [go_sem, hs2, bne_self_eq_false, hbt] at hc); all_goals (try (exfalso; omega)))
        | (refine runD_split ?_ (fun hc => ?_) (fun hc => ?_); (simp only [go_sem, hs2, bne_self_eq_false, hbt]; exact rfl); all_goals (try simp only [go_sem, hc, hs2, bne_self_eq_false, hbt]); all_goals (try simp only [go_sem, hs2, bne_self_eq_false, hbt] at hc); all_goals (try (exfalso; omega)))
        | (first | (refine CallK.pure (enter54) (checkSig_tri g) ?_ ?_; (focus first | ((repeat (first | exact trivial | refine ⟨(by first | exact Or.inl rfl | exact Or.inr rfl), ?_⟩)); done) | (simp only [coL, AV.dat, true_or, or_true, AV.d.injEq, go_sem]; done)); simp only [go_sem, hs2, bne_self_eq_false, hbt]) | (refine CallD.pure (enter54) (checkSig_tri g) ?_ ?_; (focus first | ((repeat (first | exact trivial | refine ⟨(by first | exact Or.inl rfl | exact Or.inr rfl), ?_⟩)); done) | (simp only [coL, AV.dat, true_or, or_true, AV.d.injEq, go_sem]; done)); simp only [go_sem, hs2, bne_self_eq_false, hbt]))
        | (first | (refine CallK.pure (enter80) (between_tri sz 1 3) ?_ ?_; (focus first | ((repeat (first | exact trivial | refine ⟨(by first | exact Or.inl rfl | exact Or.inr rfl), ?_⟩)); done) | (simp only [coL, AV.dat, true_or, or_true, AV.d.injEq, go_sem]; done)); simp only [go_sem, hs2, bne_self_eq_false, hbt]) | (refine CallD.pure (enter80) (between_tri sz 1 3) ?_ ?_; (focus first | ((repeat (first | exact trivial | refine ⟨(by first | exact Or.inl rfl | exact Or.inr rfl), ?_⟩)); done) | (simp only [coL, AV.dat, true_or, or_true, AV.d.injEq, go_sem]; done)); simp only [go_sem, hs2, bne_self_eq_false, hbt]))
        | refine And.intro (by first | omega | exact trivial | rfl | assumption | (apply map_sz; intro a; simp only [go_sem]; done) | ((and_intros <;> first | omega | exact trivial | rfl | assumption | (apply map_sz; intro a; simp only [go_sem]; done) | fail); done) | fail) ?_
        | fail)
      first | refine ret_pure (by simp only [Try.results20, resOkL, resOk, Try.ntmps20, List.toList_toArray]; first | decide | (simp only [go_sem]; done) | (simp only [go_sem]; and_intros <;> first | omega | rfl | decide)) ?_ (by repeat (first | exact Fr.rfl' _ _ | assumption | refine Fr.updk ?_ (by omega) _)) | refine ret_ro (by simp only [Try.results20, resOkL, resOk, Try.ntmps20, List.toList_toArray]; first | decide | (simp only [go_sem]; done) | (simp only [go_sem]; and_intros <;> first | omega | rfl | decide)) ?_ (by repeat (first | exact Fr.rfl' _ _ | assumption | refine Fr.updk ?_ (by omega) _))
      simp only [resA, resV, Try.results20, go_sem]
      all_goals try (first | exact Co.t2 (.dat rfl) (.dat rfl) | exact Co.t3 (.dat rfl) (.dat rfl) (.dat rfl))
      exact co_i hv.symm
    · have hbt : btw sz 1 3 = true := by unfold btw; simp; omega
      cases h3 : ((tb.length : Int) != (g.length : Int)) with
      | true =>
        have hv : mdOk g sz tb = 1 := by unfold mdOk; rw [if_neg (by simp [hs2]), if_neg hsz, if_pos (by simp at h3; omega)]
        repeat' (first
          | refine awp_seq_k fun K hK => ?_
          | (refine awp_region_k (by kernel_rfl) fun R hR => ?_; simp only [go_sem, hs2, bne_self_eq_false, hbt, h3])
          | (refine awp_draw mixed (by kernel_rfl) (by kernel_rfl) fun R hR => ?_; simp only [go_sem, hs2, bne_self_eq_false, hbt, h3])
          | (refine hR _ ?_; clear hR R; try simp only [thenA, inBlockA, reduceIte, reduceCtorEq, Nat.reduceEqDiff, if_false, if_true])
          | (refine hK _ ?_; clear hK K)
          | (clear hK K; refine hK _ ?_; clear hK K)
          | (clear hK K; clear hK K; refine hK _ ?_; clear hK K)
          | (clear hK K; clear hK K; clear hK K; refine hK _ ?_; clear hK K)
          | (clear hK K; clear hK K; clear hK K; clear hK K; refine hK _ ?_; clear hK K)
          | refine awp_true rfl rfl ?_
          | refine awp_false rfl rfl ?_
          | (refine awp_cond rfl rfl (fun hc => ?_) (fun hc => ?_) <;> (try simp only [go_sem, hs2, bne_self_eq_false, hbt, h3] at hc) <;> (try (exfalso; omega)))
          | refine awp_block ?_
          | (refine awp_skip ?_; try simp only [thenA, inBlockA, reduceIte, reduceCtorEq, Nat.reduceEqDiff, if_false, if_true])
          | (refine awp_exit ?_; try simp only [thenA, inBlockA, reduceIte, reduceCtorEq, Nat.reduceEqDiff, if_false, if_true])
          | (refine awp_ret ?_; try simp only [thenA, inBlockA, reduceIte, reduceCtorEq, Nat.reduceEqDiff, if_false, if_true])
          | (refine runL_split ?_ (fun hc => ?_) (fun hc => ?_); (simp only [go_sem, hs2, bne_self_eq_false, hbt, h3]; exact rfl); all_goals (try simp only [go_sem, hc, hs2, bne_self_eq_false, hbt, h3]); all_goals (try simp only [go_sem, hs2, bne_self_eq_false, hbt, h3] at hc); all_goals (try (exfalso; omega)))
          | (refine runD_split ?_ (fun hc => ?_) (fun hc => ?_); (simp only [go_sem, hs2, bne_self_eq_false, hbt, h3]; exact rfl); all_goals (try simp only [go_sem, hc, hs2, bne_self_eq_false, hbt, h3]); all_goals (try simp only [go_sem, hs2, bne_self_eq_false, hbt, h3] at hc); all_goals (try (exfalso; omega)))
          | (first | (refine CallK.pure (enter54) (checkSig_tri g) ?_ ?_; (focus first | ((repeat (first | exact trivial | refine ⟨(by first | exact Or.inl rfl | exact Or.inr rfl), ?_⟩)); done) | (simp only [coL, AV.dat, true_or, or_true, AV.d.injEq, go_sem]; done)); simp only [go_sem, hs2, bne_self_eq_false, hbt, h3]) | (refine CallD.pure (enter54) (checkSig_tri g) ?_ ?_; (focus first | ((repeat (first | exact trivial | refine ⟨(by first | exact Or.inl rfl | exact Or.inr rfl), ?_⟩)); done) | (simp only [coL, AV.dat, true_or, or_true, AV.d.injEq, go_sem]; done)); simp only [go_sem, hs2, bne_self_eq_false, hbt, h3]))
          | (first | (refine CallK.pure (enter80) (between_tri sz 1 3) ?_ ?_; (focus first | ((repeat (first | exact trivial | refine ⟨(by first | exact Or.inl rfl | exact Or.inr rfl), ?_⟩)); done) | (simp only [coL, AV.dat, true_or, or_true, AV.d.injEq, go_sem]; done)); simp only [go_sem, hs2, bne_self_eq_false, hbt, h3]) | (refine CallD.pure (enter80) (between_tri sz 1 3) ?_ ?_; (focus first | ((repeat (first | exact trivial | refine ⟨(by first | exact Or.inl rfl | exact Or.inr rfl), ?_⟩)); done) | (simp only [coL, AV.dat, true_or, or_true, AV.d.injEq, go_sem]; done)); simp only [go_sem, hs2, bne_self_eq_false, hbt, h3]))
          | refine And.intro (by first | omega | exact trivial | rfl | assumption | (apply map_sz; intro a; simp only [go_sem]; done) | ((and_intros <;> first | omega | exact trivial | rfl | assumption | (apply map_sz; intro a; simp only [go_sem]; done) | fail); done) | fail) ?_
          | fail)
        first | refine ret_pure (by simp only [Try.results20, resOkL, resOk, Try.ntmps20, List.toList_toArray]; first | decide | (simp only [go_sem]; done) | (simp only [go_sem]; and_intros <;> first | omega | rfl | decide)) ?_ (by repeat (first | exact Fr.rfl' _ _ | assumption | refine Fr.updk ?_ (by omega) _)) | refine ret_ro (by simp only [Try.results20, resOkL, resOk, Try.ntmps20, List.toList_toArray]; first | decide | (simp only [go_sem]; done) | (simp only [go_sem]; and_intros <;> first | omega | rfl | decide)) ?_ (by repeat (first | exact Fr.rfl' _ _ | assumption | refine Fr.updk ?_ (by omega) _))
        simp only [resA, resV, Try.results20, go_sem]
        all_goals try (first | exact Co.t2 (.dat rfl) (.dat rfl) | exact Co.t3 (.dat rfl) (.dat rfl) (.dat rfl))
        exact co_i hv.symm
      | false =>
        have h3' : tb.length = g.length := by simp at h3; omega
        have hv : mdOk g sz tb = if rowsBad sz g tb = true then 1 else if (tb.any fun r => r.any (outOf sz)) = true then 5 else 0 := by unfold mdOk; rw [if_neg (by simp [hs2]), if_neg hsz, if_neg (by simp [h3'])]
        repeat' (first
          | refine awp_seq_k fun K hK => ?_
          | (refine awp_region_k (by kernel_rfl) fun R hR => ?_; simp only [go_sem, hs2, bne_self_eq_false, hbt, h3])
          | (refine awp_draw mixed (by kernel_rfl) (by kernel_rfl) fun R hR => ?_; simp only [go_sem, hs2, bne_self_eq_false, hbt, h3])
          | (refine hR _ ?_; clear hR R; try simp only [thenA, inBlockA, reduceIte, reduceCtorEq, Nat.reduceEqDiff, if_false, if_true])
          | (refine hK _ ?_; clear hK K)
          | (clear hK K; refine hK _ ?_; clear hK K)
          | (clear hK K; clear hK K; refine hK _ ?_; clear hK K)
          | (clear hK K; clear hK K; clear hK K; refine hK _ ?_; clear hK K)
          | (clear hK K; clear hK K; clear hK K; clear hK K; refine hK _ ?_; clear hK K)
          | refine awp_true rfl rfl ?_
          | refine awp_false rfl rfl ?_
          | (refine awp_cond rfl rfl (fun hc => ?_) (fun hc => ?_) <;> (try simp only [go_sem, hs2, bne_self_eq_false, hbt, h3] at hc) <;> (try (exfalso; omega)))
          | refine awp_block ?_
          | (refine awp_skip ?_; try simp only [thenA, inBlockA, reduceIte, reduceCtorEq, Nat.reduceEqDiff, if_false, if_true])
          | (refine awp_exit ?_; try simp only [thenA, inBlockA, reduceIte, reduceCtorEq, Nat.reduceEqDiff, if_false, if_true])
          | (refine awp_ret ?_; try simp only [thenA, inBlockA, reduceIte, reduceCtorEq, Nat.reduceEqDiff, if_false, if_true])
          | (refine runL_split ?_ (fun hc => ?_) (fun hc => ?_); (simp only [go_sem, hs2, bne_self_eq_false, hbt, h3]; exact rfl); all_goals (try simp only [go_sem, hc, hs2, bne_self_eq_false, hbt, h3]); all_goals (try simp only [go_sem, hs2, bne_self_eq_false, hbt, h3] at hc); all_goals (try (exfalso; omega)))
          | (refine runD_split ?_ (fun hc => ?_) (fun hc => ?_); (simp only [go_sem, hs2, bne_self_eq_false, hbt, h3]; exact rfl); all_goals (try simp only [go_sem, hc, hs2, bne_self_eq_false, hbt, h3]); all_goals (try simp only [go_sem, hs2, bne_self_eq_false, hbt, h3] at hc); all_goals (try (exfalso; omega)))
          | (first | (refine CallK.pure (enter54) (checkSig_tri g) ?_ ?_; (focus first | ((repeat (first | exact trivial | refine ⟨(by first | exact Or.inl rfl | exact Or.inr rfl), ?_⟩)); done) | (simp only [coL, AV.dat, true_or, or_true, AV.d.injEq, go_sem]; done)); simp only [go_sem, hs2, bne_self_eq_false, hbt, h3]) | (refine CallD.pure (enter54) (checkSig_tri g) ?_ ?_; (focus first | ((repeat (first | exact trivial | refine ⟨(by first | exact Or.inl rfl | exact Or.inr rfl), ?_⟩)); done) | (simp only [coL, AV.dat, true_or, or_true, AV.d.injEq, go_sem]; done)); simp only [go_sem, hs2, bne_self_eq_false, hbt, h3]))
          | (first | (refine CallK.pure (enter80) (between_tri sz 1 3) ?_ ?_; (focus first | ((repeat (first | exact trivial | refine ⟨(by first | exact Or.inl rfl | exact Or.inr rfl), ?_⟩)); done) | (simp only [coL, AV.dat, true_or, or_true, AV.d.injEq, go_sem]; done)); simp only [go_sem, hs2, bne_self_eq_false, hbt, h3]) | (refine CallD.pure (enter80) (between_tri sz 1 3) ?_ ?_; (focus first | ((repeat (first | exact trivial | refine ⟨(by first | exact Or.inl rfl | exact Or.inr rfl), ?_⟩)); done) | (simp only [coL, AV.dat, true_or, or_true, AV.d.injEq, go_sem]; done)); simp only [go_sem, hs2, bne_self_eq_false, hbt, h3]))
          | refine And.intro (by first | omega | exact trivial | rfl | assumption | (apply map_sz; intro a; simp only [go_sem]; done) | ((and_intros <;> first | omega | exact trivial | rfl | assumption | (apply map_sz; intro a; simp only [go_sem]; done) | fail); done) | fail) ?_
          | fail)
        refine awp_loop (fun σ => ∃ i : Nat, σ.t 2 = .ptr (k, 0) 0 ∧ σ.t 3 = .ptr (k, 1) 0 ∧ σ.t 6 = iA i ∧ σ.h (k, 0) = some (.cells 24 [.d (.sl (g.map iD))]) ∧ σ.h (k, 1) = some (.cells 39 [iA sz, .d (.sl (tb.map gI))]) ∧ Fr k h0 σ.h ∧ k < σ.k ∧ i ≤ tb.length ∧ rowsBad sz (g.drop i) (tb.drop i) = rowsBad sz g tb) (fun σ => tb.length - (intOf' (σ.t 6)).toNat) ?_ ?_
        · refine ⟨0, ?_⟩
          simp only [go_sem, List.drop_zero]
          and_intros; all_goals try (first | rfl | omega | assumption | ((repeat (first | exact Fr.rfl' _ _ | assumption | refine Fr.updk ?_ (by omega) _)); done))
        · rintro σ ⟨i, s2, s3, s6, sh, sh', hF, hk, hi, hb⟩
          have hne := ltne hk
          rcases Nat.lt_or_ge i tb.length with hlt | hge
          · have hlt' : i < g.length := by omega
            have hz : (i : Int) < (tb.length : Int) := by omega
            have hz' : (i : Int) < (g.length : Int) := by omega
            have e1 : (tb.map gI).getD i default = gI tb[i] := nth_map gI hlt _
            have e2 : (g.map iD).getD i default = iD g[i] := nth_map iD hlt' _
            obtain ⟨g1, g2⟩ := sig_each hs2 g[i] (List.getElem_mem hlt')
            have pw := powerOf_tri (n := sz) (by omega) (by omega) (j := g[i].toNat) (by omega)
            rw [show ((g[i].toNat : Nat) : Int) = g[i] by omega] at pw
            rw [rowsBad_at hlt' hlt] at hb
            cases hc : ((tb[i].length : Int) != sz ^ g[i].toNat) with
            | true =>
              rw [hc, Bool.true_or] at hb
              repeat' (first
                | refine awp_seq_k fun K hK => ?_
                | (refine awp_region_k (by kernel_rfl) fun R hR => ?_; simp only [go_sem, s2, s3, s6, sh, sh', hz, hz', e1, e2, hne, hc, Int.toNat_natCast])
                | (refine awp_draw mixed (by kernel_rfl) (by kernel_rfl) fun R hR => ?_; simp only [go_sem, s2, s3, s6, sh, sh', hz, hz', e1, e2, hne, hc, Int.toNat_natCast])
                | (refine hR _ ?_; clear hR R; try simp only [thenA, inBlockA, reduceIte, reduceCtorEq, Nat.reduceEqDiff, if_false, if_true])
                | (refine hK _ ?_; clear hK K)
                | (clear hK K; refine hK _ ?_; clear hK K)
                | (clear hK K; clear hK K; refine hK _ ?_; clear hK K)
                | (clear hK K; clear hK K; clear hK K; refine hK _ ?_; clear hK K)
                | (clear hK K; clear hK K; clear hK K; clear hK K; refine hK _ ?_; clear hK K)
                | refine awp_true rfl rfl ?_
                | refine awp_false rfl rfl ?_
                | (refine awp_cond rfl rfl (fun hc => ?_) (fun hc => ?_) <;> (try simp only [go_sem, s2, s3, s6, sh, sh', hz, hz', e1, e2, hne, hc, Int.toNat_natCast] at hc) <;> (try (exfalso; omega)))
                | refine awp_block ?_
                | (refine awp_skip ?_; try simp only [thenA, inBlockA, reduceIte, reduceCtorEq, Nat.reduceEqDiff, if_false, if_true])
                | (refine awp_exit ?_; try simp only [thenA, inBlockA, reduceIte, reduceCtorEq, Nat.reduceEqDiff, if_false, if_true])
                | (refine awp_ret ?_; try simp only [thenA, inBlockA, reduceIte, reduceCtorEq, Nat.reduceEqDiff, if_false, if_true])
                | (refine runL_split ?_ (fun hc => ?_) (fun hc => ?_); (simp only [go_sem, s2, s3, s6, sh, sh', hz, hz', e1, e2, hne, hc, Int.toNat_natCast]; exact rfl); all_goals (try simp only [go_sem, hc, s2, s3, s6, sh, sh', hz, hz', e1, e2, hne, hc, Int.toNat_natCast]); all_goals (try simp only [go_sem, s2, s3, s6, sh, sh', hz, hz', e1, e2, hne, hc, Int.toNat_natCast] at hc); all_goals (try (exfalso; omega)))
                | (refine runD_split ?_ (fun hc => ?_) (fun hc => ?_); (simp only [go_sem, s2, s3, s6, sh, sh', hz, hz', e1, e2, hne, hc, Int.toNat_natCast]; exact rfl); all_goals (try simp only [go_sem, hc, s2, s3, s6, sh, sh', hz, hz', e1, e2, hne, hc, Int.toNat_natCast]); all_goals (try simp only [go_sem, s2, s3, s6, sh, sh', hz, hz', e1, e2, hne, hc, Int.toNat_natCast] at hc); all_goals (try (exfalso; omega)))
                | (first | (refine CallK.pure (enter81) (pw) ?_ ?_; (focus first | ((repeat (first | exact trivial | refine ⟨(by first | exact Or.inl rfl | exact Or.inr rfl), ?_⟩)); done) | (simp only [coL, AV.dat, true_or, or_true, AV.d.injEq, go_sem]; done)); simp only [go_sem, s2, s3, s6, sh, sh', hz, hz', e1, e2, hne, hc, Int.toNat_natCast]) | (refine CallD.pure (enter81) (pw) ?_ ?_; (focus first | ((repeat (first | exact trivial | refine ⟨(by first | exact Or.inl rfl | exact Or.inr rfl), ?_⟩)); done) | (simp only [coL, AV.dat, true_or, or_true, AV.d.injEq, go_sem]; done)); simp only [go_sem, s2, s3, s6, sh, sh', hz, hz', e1, e2, hne, hc, Int.toNat_natCast]))
                | refine And.intro (by first | omega | exact trivial | rfl | assumption | (apply map_sz; intro a; simp only [go_sem]; done) | ((and_intros <;> first | omega | exact trivial | rfl | assumption | (apply map_sz; intro a; simp only [go_sem]; done) | fail); done) | fail) ?_
                | fail)
              first | refine ret_pure (by simp only [Try.results20, resOkL, resOk, Try.ntmps20, List.toList_toArray]; first | decide | (simp only [go_sem]; done) | (simp only [go_sem]; and_intros <;> first | omega | rfl | decide)) ?_ (by repeat (first | exact Fr.rfl' _ _ | assumption | refine Fr.updk ?_ (by omega) _)) | refine ret_ro (by simp only [Try.results20, resOkL, resOk, Try.ntmps20, List.toList_toArray]; first | decide | (simp only [go_sem]; done) | (simp only [go_sem]; and_intros <;> first | omega | rfl | decide)) ?_ (by repeat (first | exact Fr.rfl' _ _ | assumption | refine Fr.updk ?_ (by omega) _))
              simp only [resA, resV, Try.results20, go_sem]
              all_goals try (first | exact Co.t2 (.dat rfl) (.dat rfl) | exact Co.t3 (.dat rfl) (.dat rfl) (.dat rfl))
              exact co_i (by rw [hv, ← hb]; rfl)
            | false =>
              rw [hc, Bool.false_or] at hb
              repeat' (first
                | refine awp_seq_k fun K hK => ?_
                | (refine awp_region_k (by kernel_rfl) fun R hR => ?_; simp only [go_sem, s2, s3, s6, sh, sh', hz, hz', e1, e2, hne, hc, Int.toNat_natCast])
                | (refine awp_draw mixed (by kernel_rfl) (by kernel_rfl) fun R hR => ?_; simp only [go_sem, s2, s3, s6, sh, sh', hz, hz', e1, e2, hne, hc, Int.toNat_natCast])
                | (refine hR _ ?_; clear hR R; try simp only [thenA, inBlockA, reduceIte, reduceCtorEq, Nat.reduceEqDiff, if_false, if_true])
                | (refine hK _ ?_; clear hK K)
                | (clear hK K; refine hK _ ?_; clear hK K)
                | (clear hK K; clear hK K; refine hK _ ?_; clear hK K)
                | (clear hK K; clear hK K; clear hK K; refine hK _ ?_; clear hK K)
                | (clear hK K; clear hK K; clear hK K; clear hK K; refine hK _ ?_; clear hK K)
                | refine awp_true rfl rfl ?_
                | refine awp_false rfl rfl ?_
                | (refine awp_cond rfl rfl (fun hc => ?_) (fun hc => ?_) <;> (try simp only [go_sem, s2, s3, s6, sh, sh', hz, hz', e1, e2, hne, hc, Int.toNat_natCast] at hc) <;> (try (exfalso; omega)))
                | refine awp_block ?_
                | (refine awp_skip ?_; try simp only [thenA, inBlockA, reduceIte, reduceCtorEq, Nat.reduceEqDiff, if_false, if_true])
                | (refine awp_exit ?_; try simp only [thenA, inBlockA, reduceIte, reduceCtorEq, Nat.reduceEqDiff, if_false, if_true])
                | (refine awp_ret ?_; try simp only [thenA, inBlockA, reduceIte, reduceCtorEq, Nat.reduceEqDiff, if_false, if_true])
                | (refine runL_split ?_ (fun hc => ?_) (fun hc => ?_); (simp only [go_sem, s2, s3, s6, sh, sh', hz, hz', e1, e2, hne, hc, Int.toNat_natCast]; exact rfl); all_goals (try simp only [go_sem, hc, s2, s3, s6, sh, sh', hz, hz', e1, e2, hne, hc, Int.toNat_natCast]); all_goals (try simp only [go_sem, s2, s3, s6, sh, sh', hz, hz', e1, e2, hne, hc, Int.toNat_natCast] at hc); all_goals (try (exfalso; omega)))
                | (refine runD_split ?_ (fun hc => ?_) (fun hc => ?_); (simp only [go_sem, s2, s3, s6, sh, sh', hz, hz', e1, e2, hne, hc, Int.toNat_natCast]; exact rfl); all_goals (try simp only [go_sem, hc, s2, s3, s6, sh, sh', hz, hz', e1, e2, hne, hc, Int.toNat_natCast]); all_goals (try simp only [go_sem, s2, s3, s6, sh, sh', hz, hz', e1, e2, hne, hc, Int.toNat_natCast] at hc); all_goals (try (exfalso; omega)))
                | (first | (refine CallK.pure (enter81) (pw) ?_ ?_; (focus first | ((repeat (first | exact trivial | refine ⟨(by first | exact Or.inl rfl | exact Or.inr rfl), ?_⟩)); done) | (simp only [coL, AV.dat, true_or, or_true, AV.d.injEq, go_sem]; done)); simp only [go_sem, s2, s3, s6, sh, sh', hz, hz', e1, e2, hne, hc, Int.toNat_natCast]) | (refine CallD.pure (enter81) (pw) ?_ ?_; (focus first | ((repeat (first | exact trivial | refine ⟨(by first | exact Or.inl rfl | exact Or.inr rfl), ?_⟩)); done) | (simp only [coL, AV.dat, true_or, or_true, AV.d.injEq, go_sem]; done)); simp only [go_sem, s2, s3, s6, sh, sh', hz, hz', e1, e2, hne, hc, Int.toNat_natCast]))
                | refine And.intro (by first | omega | exact trivial | rfl | assumption | (apply map_sz; intro a; simp only [go_sem]; done) | ((and_intros <;> first | omega | exact trivial | rfl | assumption | (apply map_sz; intro a; simp only [go_sem]; done) | fail); done) | fail) ?_
                | fail)
              refine ⟨⟨i + 1, ?_⟩, ?_⟩
              rotate_left
              · simp only [go_sem, s2, s3, s6, sh, sh', hne]; omega
              simp only [go_sem, s2, s3, s6, sh, sh', hne]
              and_intros; all_goals try (first | rfl | omega | assumption | ((repeat (first | exact Fr.rfl' _ _ | assumption | refine Fr.updk ?_ (by omega) _)); done))
          · have hz : ¬ ((i : Int) < (tb.length : Int)) := by omega
            rw [rowsBad_end hge] at hb
            rw [← hb] at hv
            simp only [Bool.false_eq_true, if_false] at hv
            repeat' (first
              | refine awp_seq_k fun K hK => ?_
              | (refine awp_region_k (by kernel_rfl) fun R hR => ?_; simp only [go_sem, s3, s6, sh', hz, hne])
              | (refine awp_draw mixed (by kernel_rfl) (by kernel_rfl) fun R hR => ?_; simp only [go_sem, s3, s6, sh', hz, hne])
              | (refine hR _ ?_; clear hR R; try simp only [thenA, inBlockA, reduceIte, reduceCtorEq, Nat.reduceEqDiff, if_false, if_true])
              | (refine hK _ ?_; clear hK K)
              | (clear hK K; refine hK _ ?_; clear hK K)
              | (clear hK K; clear hK K; refine hK _ ?_; clear hK K)
              | (clear hK K; clear hK K; clear hK K; refine hK _ ?_; clear hK K)
              | (clear hK K; clear hK K; clear hK K; clear hK K; refine hK _ ?_; clear hK K)
              | refine awp_true rfl rfl ?_
              | refine awp_false rfl rfl ?_
              | (refine awp_cond rfl rfl (fun hc => ?_) (fun hc => ?_) <;> (try simp only [go_sem, s3, s6, sh', hz, hne] at hc) <;> (try (exfalso; omega)))
              | refine awp_block ?_
              | (refine awp_skip ?_; try simp only [thenA, inBlockA, reduceIte, reduceCtorEq, Nat.reduceEqDiff, if_false, if_true])
              | (refine awp_exit ?_; try simp only [thenA, inBlockA, reduceIte, reduceCtorEq, Nat.reduceEqDiff, if_false, if_true])
              | (refine awp_ret ?_; try simp only [thenA, inBlockA, reduceIte, reduceCtorEq, Nat.reduceEqDiff, if_false, if_true])
              | (refine runL_split ?_ (fun hc => ?_) (fun hc => ?_); (simp only [go_sem, s3, s6, sh', hz, hne]; exact rfl); all_goals (try simp only [go_sem, hc, s3, s6, sh', hz, hne]); all_goals (try simp only [go_sem, s3, s6, sh', hz, hne] at hc); all_goals (try (exfalso; omega)))
              | (refine runD_split ?_ (fun hc => ?_) (fun hc => ?_); (simp only [go_sem, s3, s6, sh', hz, hne]; exact rfl); all_goals (try simp only [go_sem, hc, s3, s6, sh', hz, hne]); all_goals (try simp only [go_sem, s3, s6, sh', hz, hne] at hc); all_goals (try (exfalso; omega)))
              | refine And.intro (by first | omega | exact trivial | rfl | assumption | (apply map_sz; intro a; simp only [go_sem]; done) | ((and_intros <;> first | omega | exact trivial | rfl | assumption | (apply map_sz; intro a; simp only [go_sem]; done) | fail); done) | fail) ?_
              | fail)
            refine awp_loop (fun σ => ∃ i : Nat, σ.t 3 = .ptr (k, 1) 0 ∧ σ.t 7 = iA i ∧ σ.h (k, 1) = some (.cells 39 [iA sz, .d (.sl (tb.map gI))]) ∧ Fr k h0 σ.h ∧ k < σ.k ∧ i ≤ tb.length ∧ ((tb.drop i).any fun r => r.any (outOf sz)) = tb.any fun r => r.any (outOf sz)) (fun σ => tb.length - (intOf' (σ.t 7)).toNat) ?_ ?_
            · refine ⟨0, ?_⟩
              simp only [go_sem, List.drop_zero, s3, sh']
              and_intros; all_goals try (first | rfl | omega | assumption | ((repeat (first | exact Fr.rfl' _ _ | assumption | refine Fr.updk ?_ (by omega) _)); done))
            · clear s2 s3 s6 sh sh' hF hk hi hne hge hz hb
              rintro τ ⟨i, s3, s7, sh', hF, hk, hi, hb⟩
              have hne := ltne hk
              rcases Nat.lt_or_ge i tb.length with hlt | hge
              · have hz : (i : Int) < (tb.length : Int) := by omega
                have e1 : (tb.map gI).getD i default = gI tb[i] := nth_map gI hlt _
                rw [List.drop_eq_getElem_cons hlt, List.any_cons] at hb
                have hrl := hr _ (List.getElem_mem hlt)
                repeat' (first
                  | refine awp_seq_k fun K hK => ?_
                  | (refine awp_region_k (by kernel_rfl) fun R hR => ?_; simp only [go_sem, s3, s7, sh', hz, e1, hne, Int.toNat_natCast])
                  | (refine awp_draw mixed (by kernel_rfl) (by kernel_rfl) fun R hR => ?_; simp only [go_sem, s3, s7, sh', hz, e1, hne, Int.toNat_natCast])
                  | (refine hR _ ?_; clear hR R; try simp only [thenA, inBlockA, reduceIte, reduceCtorEq, Nat.reduceEqDiff, if_false, if_true])
                  | (refine hK _ ?_; clear hK K)
                  | (clear hK K; refine hK _ ?_; clear hK K)
                  | (clear hK K; clear hK K; refine hK _ ?_; clear hK K)
                  | (clear hK K; clear hK K; clear hK K; refine hK _ ?_; clear hK K)
                  | (clear hK K; clear hK K; clear hK K; clear hK K; refine hK _ ?_; clear hK K)
                  | refine awp_true rfl rfl ?_
                  | refine awp_false rfl rfl ?_
                  | (refine awp_cond rfl rfl (fun hc => ?_) (fun hc => ?_) <;> (try simp only [go_sem, s3, s7, sh', hz, e1, hne, Int.toNat_natCast] at hc) <;> (try (exfalso; omega)))
                  | refine awp_block ?_
                  | (refine awp_skip ?_; try simp only [thenA, inBlockA, reduceIte, reduceCtorEq, Nat.reduceEqDiff, if_false, if_true])
                  | (refine awp_exit ?_; try simp only [thenA, inBlockA, reduceIte, reduceCtorEq, Nat.reduceEqDiff, if_false, if_true])
                  | (refine awp_ret ?_; try simp only [thenA, inBlockA, reduceIte, reduceCtorEq, Nat.reduceEqDiff, if_false, if_true])
                  | (refine runL_split ?_ (fun hc => ?_) (fun hc => ?_); (simp only [go_sem, s3, s7, sh', hz, e1, hne, Int.toNat_natCast]; exact rfl); all_goals (try simp only [go_sem, hc, s3, s7, sh', hz, e1, hne, Int.toNat_natCast]); all_goals (try simp only [go_sem, s3, s7, sh', hz, e1, hne, Int.toNat_natCast] at hc); all_goals (try (exfalso; omega)))
                  | (refine runD_split ?_ (fun hc => ?_) (fun hc => ?_); (simp only [go_sem, s3, s7, sh', hz, e1, hne, Int.toNat_natCast]; exact rfl); all_goals (try simp only [go_sem, hc, s3, s7, sh', hz, e1, hne, Int.toNat_natCast]); all_goals (try simp only [go_sem, s3, s7, sh', hz, e1, hne, Int.toNat_natCast] at hc); all_goals (try (exfalso; omega)))
                  | refine And.intro (by first | omega | exact trivial | rfl | assumption | (apply map_sz; intro a; simp only [go_sem]; done) | ((and_intros <;> first | omega | exact trivial | rfl | assumption | (apply map_sz; intro a; simp only [go_sem]; done) | fail); done) | fail) ?_
                  | fail)
                refine awp_loop (fun σ => ∃ j : Nat, σ.t 3 = .ptr (k, 1) 0 ∧ σ.t 7 = iA i ∧ σ.t 8 = iA j ∧ σ.h (k, 1) = some (.cells 39 [iA sz, .d (.sl (tb.map gI))]) ∧ Fr k h0 σ.h ∧ k < σ.k ∧ j ≤ tb[i].length ∧ ((tb[i].drop j).any (outOf sz)) = tb[i].any (outOf sz)) (fun σ => tb[i].length - (intOf' (σ.t 8)).toNat) ?_ ?_
                · refine ⟨0, ?_⟩
                  simp only [go_sem, List.drop_zero, s3, s7, sh']
                  and_intros; all_goals try (first | rfl | omega | assumption | ((repeat (first | exact Fr.rfl' _ _ | assumption | refine Fr.updk ?_ (by omega) _)); done))
                · rintro υ ⟨j, u3, u7, u8, uh', uF, uk, uj, ub⟩
                  have hne' := ltne uk
                  rcases Nat.lt_or_ge j tb[i].length with hlt' | hge'
                  · have hz' : (j : Int) < (tb[i].length : Int) := by omega
                    have e2 : (tb[i].map iD).getD j default = iD tb[i][j] := nth_map iD hlt' _
                    rw [List.drop_eq_getElem_cons hlt', List.any_cons] at ub
                    generalize tb[i][j] = x at *
                    have hbx : btw x 0 (sz - 1) = !outOf sz x := by unfold btw outOf; rw [Bool.eq_iff_iff]; simp; omega
                    cases hc : outOf sz x with
                    | true =>
                      rw [hc, Bool.true_or] at ub
                      rw [← ub, Bool.true_or] at hb
                      repeat' (first
                        | refine awp_seq_k fun K hK => ?_
                        | (refine awp_region_k (by kernel_rfl) fun R hR => ?_; simp only [go_sem, u3, u7, u8, uh', hz, hz', e1, e2, hne', hbx, hc, Int.toNat_natCast])
                        | (refine awp_draw mixed (by kernel_rfl) (by kernel_rfl) fun R hR => ?_; simp only [go_sem, u3, u7, u8, uh', hz, hz', e1, e2, hne', hbx, hc, Int.toNat_natCast])
                        | (refine hR _ ?_; clear hR R; try simp only [thenA, inBlockA, reduceIte, reduceCtorEq, Nat.reduceEqDiff, if_false, if_true])
                        | (refine hK _ ?_; clear hK K)
                        | (clear hK K; refine hK _ ?_; clear hK K)
                        | (clear hK K; clear hK K; refine hK _ ?_; clear hK K)
                        | (clear hK K; clear hK K; clear hK K; refine hK _ ?_; clear hK K)
                        | (clear hK K; clear hK K; clear hK K; clear hK K; refine hK _ ?_; clear hK K)
                        | refine awp_true rfl rfl ?_
                        | refine awp_false rfl rfl ?_
                        | (refine awp_cond rfl rfl (fun hc => ?_) (fun hc => ?_) <;> (try simp only [go_sem, u3, u7, u8, uh', hz, hz', e1, e2, hne', hbx, hc, Int.toNat_natCast] at hc) <;> (try (exfalso; omega)))
                        | refine awp_block ?_
                        | (refine awp_skip ?_; try simp only [thenA, inBlockA, reduceIte, reduceCtorEq, Nat.reduceEqDiff, if_false, if_true])
                        | (refine awp_exit ?_; try simp only [thenA, inBlockA, reduceIte, reduceCtorEq, Nat.reduceEqDiff, if_false, if_true])
                        | (refine awp_ret ?_; try simp only [thenA, inBlockA, reduceIte, reduceCtorEq, Nat.reduceEqDiff, if_false, if_true])
                        | (refine runL_split ?_ (fun hc => ?_) (fun hc => ?_); (simp only [go_sem, u3, u7, u8, uh', hz, hz', e1, e2, hne', hbx, hc, Int.toNat_natCast]; exact rfl); all_goals (try simp only [go_sem, hc, u3, u7, u8, uh', hz, hz', e1, e2, hne', hbx, hc, Int.toNat_natCast]); all_goals (try simp only [go_sem, u3, u7, u8, uh', hz, hz', e1, e2, hne', hbx, hc, Int.toNat_natCast] at hc); all_goals (try (exfalso; omega)))
                        | (refine runD_split ?_ (fun hc => ?_) (fun hc => ?_); (simp only [go_sem, u3, u7, u8, uh', hz, hz', e1, e2, hne', hbx, hc, Int.toNat_natCast]; exact rfl); all_goals (try simp only [go_sem, hc, u3, u7, u8, uh', hz, hz', e1, e2, hne', hbx, hc, Int.toNat_natCast]); all_goals (try simp only [go_sem, u3, u7, u8, uh', hz, hz', e1, e2, hne', hbx, hc, Int.toNat_natCast] at hc); all_goals (try (exfalso; omega)))
                        | (first | (refine CallK.pure (enter80) (between_tri x 0 (sz - 1)) ?_ ?_; (focus first | ((repeat (first | exact trivial | refine ⟨(by first | exact Or.inl rfl | exact Or.inr rfl), ?_⟩)); done) | (simp only [coL, AV.dat, true_or, or_true, AV.d.injEq, go_sem]; done)); simp only [go_sem, u3, u7, u8, uh', hz, hz', e1, e2, hne', hbx, hc, Int.toNat_natCast]) | (refine CallD.pure (enter80) (between_tri x 0 (sz - 1)) ?_ ?_; (focus first | ((repeat (first | exact trivial | refine ⟨(by first | exact Or.inl rfl | exact Or.inr rfl), ?_⟩)); done) | (simp only [coL, AV.dat, true_or, or_true, AV.d.injEq, go_sem]; done)); simp only [go_sem, u3, u7, u8, uh', hz, hz', e1, e2, hne', hbx, hc, Int.toNat_natCast]))
                        | refine And.intro (by first | omega | exact trivial | rfl | assumption | (apply map_sz; intro a; simp only [go_sem]; done) | ((and_intros <;> first | omega | exact trivial | rfl | assumption | (apply map_sz; intro a; simp only [go_sem]; done) | fail); done) | fail) ?_
                        | fail)
                      first | refine ret_pure (by simp only [Try.results20, resOkL, resOk, Try.ntmps20, List.toList_toArray]; first | decide | (simp only [go_sem]; done) | (simp only [go_sem]; and_intros <;> first | omega | rfl | decide)) ?_ (by repeat (first | exact Fr.rfl' _ _ | assumption | refine Fr.updk ?_ (by omega) _)) | refine ret_ro (by simp only [Try.results20, resOkL, resOk, Try.ntmps20, List.toList_toArray]; first | decide | (simp only [go_sem]; done) | (simp only [go_sem]; and_intros <;> first | omega | rfl | decide)) ?_ (by repeat (first | exact Fr.rfl' _ _ | assumption | refine Fr.updk ?_ (by omega) _))
                      simp only [resA, resV, Try.results20, go_sem]
                      all_goals try (first | exact Co.t2 (.dat rfl) (.dat rfl) | exact Co.t3 (.dat rfl) (.dat rfl) (.dat rfl))
                      exact co_i (by rw [hv, ← hb]; rfl)
                    | false =>
                      rw [hc, Bool.false_or] at ub
                      repeat' (first
                        | refine awp_seq_k fun K hK => ?_
                        | (refine awp_region_k (by kernel_rfl) fun R hR => ?_; simp only [go_sem, u3, u7, u8, uh', hz, hz', e1, e2, hne', hbx, hc, Int.toNat_natCast])
                        | (refine awp_draw mixed (by kernel_rfl) (by kernel_rfl) fun R hR => ?_; simp only [go_sem, u3, u7, u8, uh', hz, hz', e1, e2, hne', hbx, hc, Int.toNat_natCast])
                        | (refine hR _ ?_; clear hR R; try simp only [thenA, inBlockA, reduceIte, reduceCtorEq, Nat.reduceEqDiff, if_false, if_true])
                        | (refine hK _ ?_; clear hK K)
                        | (clear hK K; refine hK _ ?_; clear hK K)
                        | (clear hK K; clear hK K; refine hK _ ?_; clear hK K)
                        | (clear hK K; clear hK K; clear hK K; refine hK _ ?_; clear hK K)
                        | (clear hK K; clear hK K; clear hK K; clear hK K; refine hK _ ?_; clear hK K)
                        | refine awp_true rfl rfl ?_
                        | refine awp_false rfl rfl ?_
                        | (refine awp_cond rfl rfl (fun hc => ?_) (fun hc => ?_) <;> (try simp only [go_sem, u3, u7, u8, uh', hz, hz', e1, e2, hne', hbx, hc, Int.toNat_natCast] at hc) <;> (try (exfalso; omega)))
                        | refine awp_block ?_
                        | (refine awp_skip ?_; try simp only [thenA, inBlockA, reduceIte, reduceCtorEq, Nat.reduceEqDiff, if_false, if_true])
                        | (refine awp_exit ?_; try simp only [thenA, inBlockA, reduceIte, reduceCtorEq, Nat.reduceEqDiff, if_false, if_true])
                        | (refine awp_ret ?_; try simp only [thenA, inBlockA, reduceIte, reduceCtorEq, Nat.reduceEqDiff, if_false, if_true])
                        | (refine runL_split ?_ (fun hc => ?_) (fun hc => ?_); (simp only [go_sem, u3, u7, u8, uh', hz, hz', e1, e2, hne', hbx, hc, Int.toNat_natCast]; exact rfl); all_goals (try simp only [go_sem, hc, u3, u7, u8, uh', hz, hz', e1, e2, hne', hbx, hc, Int.toNat_natCast]); all_goals (try simp only [go_sem, u3, u7, u8, uh', hz, hz', e1, e2, hne', hbx, hc, Int.toNat_natCast] at hc); all_goals (try (exfalso; omega)))
                        | (refine runD_split ?_ (fun hc => ?_) (fun hc => ?_); (simp only [go_sem, u3, u7, u8, uh', hz, hz', e1, e2, hne', hbx, hc, Int.toNat_natCast]; exact rfl); all_goals (try simp only [go_sem, hc, u3, u7, u8, uh', hz, hz', e1, e2, hne', hbx, hc, Int.toNat_natCast]); all_goals (try simp only [go_sem, u3, u7, u8, uh', hz, hz', e1, e2, hne', hbx, hc, Int.toNat_natCast] at hc); all_goals (try (exfalso; omega)))
                        | (first | (refine CallK.pure (enter80) (between_tri x 0 (sz - 1)) ?_ ?_; (focus first | ((repeat (first | exact trivial | refine ⟨(by first | exact Or.inl rfl | exact Or.inr rfl), ?_⟩)); done) | (simp only [coL, AV.dat, true_or, or_true, AV.d.injEq, go_sem]; done)); simp only [go_sem, u3, u7, u8, uh', hz, hz', e1, e2, hne', hbx, hc, Int.toNat_natCast]) | (refine CallD.pure (enter80) (between_tri x 0 (sz - 1)) ?_ ?_; (focus first | ((repeat (first | exact trivial | refine ⟨(by first | exact Or.inl rfl | exact Or.inr rfl), ?_⟩)); done) | (simp only [coL, AV.dat, true_or, or_true, AV.d.injEq, go_sem]; done)); simp only [go_sem, u3, u7, u8, uh', hz, hz', e1, e2, hne', hbx, hc, Int.toNat_natCast]))
                        | refine And.intro (by first | omega | exact trivial | rfl | assumption | (apply map_sz; intro a; simp only [go_sem]; done) | ((and_intros <;> first | omega | exact trivial | rfl | assumption | (apply map_sz; intro a; simp only [go_sem]; done) | fail); done) | fail) ?_
                        | fail)
                      refine ⟨⟨j + 1, ?_⟩, ?_⟩
                      rotate_left
                      · simp only [go_sem, u3, u7, u8, uh', hne']; omega
                      simp only [go_sem, u3, u7, u8, uh', hne']
                      and_intros; all_goals try (first | rfl | omega | assumption | ((repeat (first | exact Fr.rfl' _ _ | assumption | refine Fr.updk ?_ (by omega) _)); done))
                  · have hz' : ¬ ((j : Int) < (tb[i].length : Int)) := by omega
                    rw [List.drop_eq_nil_of_le hge', List.any_nil] at ub
                    rw [← ub, Bool.false_or] at hb
                    repeat' (first
                      | refine awp_seq_k fun K hK => ?_
                      | (refine awp_region_k (by kernel_rfl) fun R hR => ?_; simp only [go_sem, u3, u7, u8, uh', hz, hz', e1, hne', Int.toNat_natCast])
                      | (refine awp_draw mixed (by kernel_rfl) (by kernel_rfl) fun R hR => ?_; simp only [go_sem, u3, u7, u8, uh', hz, hz', e1, hne', Int.toNat_natCast])
                      | (refine hR _ ?_; clear hR R; try simp only [thenA, inBlockA, reduceIte, reduceCtorEq, Nat.reduceEqDiff, if_false, if_true])
                      | (refine hK _ ?_; clear hK K)
                      | (clear hK K; refine hK _ ?_; clear hK K)
                      | (clear hK K; clear hK K; refine hK _ ?_; clear hK K)
                      | (clear hK K; clear hK K; clear hK K; refine hK _ ?_; clear hK K)
                      | (clear hK K; clear hK K; clear hK K; clear hK K; refine hK _ ?_; clear hK K)
                      | refine awp_true rfl rfl ?_
                      | refine awp_false rfl rfl ?_
                      | (refine awp_cond rfl rfl (fun hc => ?_) (fun hc => ?_) <;> (try simp only [go_sem, u3, u7, u8, uh', hz, hz', e1, hne', Int.toNat_natCast] at hc) <;> (try (exfalso; omega)))
                      | refine awp_block ?_
                      | (refine awp_skip ?_; try simp only [thenA, inBlockA, reduceIte, reduceCtorEq, Nat.reduceEqDiff, if_false, if_true])
                      | (refine awp_exit ?_; try simp only [thenA, inBlockA, reduceIte, reduceCtorEq, Nat.reduceEqDiff, if_false, if_true])
                      | (refine awp_ret ?_; try simp only [thenA, inBlockA, reduceIte, reduceCtorEq, Nat.reduceEqDiff, if_false, if_true])
                      | (refine runL_split ?_ (fun hc => ?_) (fun hc => ?_); (simp only [go_sem, u3, u7, u8, uh', hz, hz', e1, hne', Int.toNat_natCast]; exact rfl); all_goals (try simp only [go_sem, hc, u3, u7, u8, uh', hz, hz', e1, hne', Int.toNat_natCast]); all_goals (try simp only [go_sem, u3, u7, u8, uh', hz, hz', e1, hne', Int.toNat_natCast] at hc); all_goals (try (exfalso; omega)))
                      | (refine runD_split ?_ (fun hc => ?_) (fun hc => ?_); (simp only [go_sem, u3, u7, u8, uh', hz, hz', e1, hne', Int.toNat_natCast]; exact rfl); all_goals (try simp only [go_sem, hc, u3, u7, u8, uh', hz, hz', e1, hne', Int.toNat_natCast]); all_goals (try simp only [go_sem, u3, u7, u8, uh', hz, hz', e1, hne', Int.toNat_natCast] at hc); all_goals (try (exfalso; omega)))
                      | refine And.intro (by first | omega | exact trivial | rfl | assumption | (apply map_sz; intro a; simp only [go_sem]; done) | ((and_intros <;> first | omega | exact trivial | rfl | assumption | (apply map_sz; intro a; simp only [go_sem]; done) | fail); done) | fail) ?_
                      | fail)
                    refine ⟨⟨i + 1, ?_⟩, ?_⟩
                    rotate_left
                    · simp only [go_sem, u3, u7, uh', hne', s7]; omega
                    simp only [go_sem, u3, u7, uh', hne', s7]
                    and_intros; all_goals try (first | rfl | omega | assumption | ((repeat (first | exact Fr.rfl' _ _ | assumption | refine Fr.updk ?_ (by omega) _)); done))
              · have hz : ¬ ((i : Int) < (tb.length : Int)) := by omega
                rw [List.drop_eq_nil_of_le hge, List.any_nil] at hb
                rw [← hb] at hv
                repeat' (first
                  | refine awp_seq_k fun K hK => ?_
                  | (refine awp_region_k (by kernel_rfl) fun R hR => ?_; simp only [go_sem, s3, s7, sh', hz, hne])
                  | (refine awp_draw mixed (by kernel_rfl) (by kernel_rfl) fun R hR => ?_; simp only [go_sem, s3, s7, sh', hz, hne])
                  | (refine hR _ ?_; clear hR R; try simp only [thenA, inBlockA, reduceIte, reduceCtorEq, Nat.reduceEqDiff, if_false, if_true])
                  | (refine hK _ ?_; clear hK K)
                  | (clear hK K; refine hK _ ?_; clear hK K)
                  | (clear hK K; clear hK K; refine hK _ ?_; clear hK K)
                  | (clear hK K; clear hK K; clear hK K; refine hK _ ?_; clear hK K)
                  | (clear hK K; clear hK K; clear hK K; clear hK K; refine hK _ ?_; clear hK K)
                  | refine awp_true rfl rfl ?_
                  | refine awp_false rfl rfl ?_
                  | (refine awp_cond rfl rfl (fun hc => ?_) (fun hc => ?_) <;> (try simp only [go_sem, s3, s7, sh', hz, hne] at hc) <;> (try (exfalso; omega)))
                  | refine awp_block ?_
                  | (refine awp_skip ?_; try simp only [thenA, inBlockA, reduceIte, reduceCtorEq, Nat.reduceEqDiff, if_false, if_true])
                  | (refine awp_exit ?_; try simp only [thenA, inBlockA, reduceIte, reduceCtorEq, Nat.reduceEqDiff, if_false, if_true])
                  | (refine awp_ret ?_; try simp only [thenA, inBlockA, reduceIte, reduceCtorEq, Nat.reduceEqDiff, if_false, if_true])
                  | (refine runL_split ?_ (fun hc => ?_) (fun hc => ?_); (simp only [go_sem, s3, s7, sh', hz, hne]; exact rfl); all_goals (try simp only [go_sem, hc, s3, s7, sh', hz, hne]); all_goals (try simp only [go_sem, s3, s7, sh', hz, hne] at hc); all_goals (try (exfalso; omega)))
                  | (refine runD_split ?_ (fun hc => ?_) (fun hc => ?_); (simp only [go_sem, s3, s7, sh', hz, hne]; exact rfl); all_goals (try simp only [go_sem, hc, s3, s7, sh', hz, hne]); all_goals (try simp only [go_sem, s3, s7, sh', hz, hne] at hc); all_goals (try (exfalso; omega)))
                  | refine And.intro (by first | omega | exact trivial | rfl | assumption | (apply map_sz; intro a; simp only [go_sem]; done) | ((and_intros <;> first | omega | exact trivial | rfl | assumption | (apply map_sz; intro a; simp only [go_sem]; done) | fail); done) | fail) ?_
                  | fail)
                first | refine ret_pure (by simp only [Try.results20, resOkL, resOk, Try.ntmps20, List.toList_toArray]; first | decide | (simp only [go_sem]; done) | (simp only [go_sem]; and_intros <;> first | omega | rfl | decide)) ?_ (by repeat (first | exact Fr.rfl' _ _ | assumption | refine Fr.updk ?_ (by omega) _)) | refine ret_ro (by simp only [Try.results20, resOkL, resOk, Try.ntmps20, List.toList_toArray]; first | decide | (simp only [go_sem]; done) | (simp only [go_sem]; and_intros <;> first | omega | rfl | decide)) ?_ (by repeat (first | exact Fr.rfl' _ _ | assumption | refine Fr.updk ?_ (by omega) _))
                simp only [resA, resV, Try.results20, go_sem]
                all_goals try (first | exact Co.t2 (.dat rfl) (.dat rfl) | exact Co.t3 (.dat rfl) (.dat rfl) (.dat rfl))
                exact co_i (by rw [hv]; rfl)
end Go.Proofs.Ytmeekpinkfpnhaa
