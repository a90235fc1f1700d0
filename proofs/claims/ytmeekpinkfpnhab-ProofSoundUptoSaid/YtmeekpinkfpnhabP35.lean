/- Package infer: Raw. FRSTH clause.Each with a function that looks at nothing; slices.Clone of clauses. -/
import Derived.Test.YtmeekpinkfpnhabP25
import Derived.Test.YtmeekpinkfpnhabP27
import Derived.Test.YtmeekpinkfpnhabP34
set_option linter.unusedSimpArgs false
set_option linter.unusedSectionVars false
set_option linter.unusedVariables false
set_option linter.unnecessarySimpa false
set_option linter.all false
namespace Go.Proofs.Ytmeekpinkfpnhab
open Go.RowKit
structure RawOk (g : List Int) (l : List (List Lt)) (i : Inf) (a : List Lt × Int) : Prop where
  err : a.2 ≠ 0 → a.1 = []
  ok : a.2 = 0 → clOk g a.1 = 0 ∧ (∃ n : Nat, i.left = n ∧ n < l.length) ∧ (i.kind = 3 → ∃ m : Nat, i.right = m ∧ m < l.length)
  holds : a.2 = 0 → ∀ sz tb, mdOk g sz tb = 0 → HoldsA sz tb (clAt l i.left) → (i.kind = 3 → HoldsA sz tb (clAt l i.right)) → HoldsA sz tb a.1
theorem RawOk.no {g : List Int} {l : List (List Lt)} {i : Inf} {e : Int} (h : e ≠ 0) : RawOk g l i ([], e) := ⟨fun _ => rfl, fun h' => absurd h' h, fun h' => absurd h' h⟩
set_option maxHeartbeats 8000000 in
set_option maxRecDepth 20000 in
theorem raw_any {g : List Int} (l : List (List Lt)) (i : Inf) (hl : l.length ≤ 4000000) (hc : ∀ c ∈ l, clOk g c = 0) (hp : i.place.length ≤ 4000000) :
    ∃ a : List Lt × Int, Tri Try.prog 54 [.d (.sl (l.map clDV)), .d (ifDV i)] (pure' (.tup [.d (clDV a.1), iA a.2])) ∧ RawOk g l i a := by
  have hown : ∀ c ∈ l, OwnC g c := fun c h => (clOk_all (hc c h)).2
  have hlen : ∀ c ∈ l, c.length ≤ 8 := fun c h => (clOk_all (hc c h)).1
  have hN := named_tri l i hl (fun c h => by have := hlen c h; omega) (fun c h x hx => by have := own_sz (hown c h x hx).1; have := own_sz (hown c h x hx).2; omega) hp
  have hO := nothing_tri i
  obtain ⟨kind, left, right, leftAt, rightAt, lt, rt, place⟩ := i
  simp only at hp
  cases a1 : decide (kind < 1) with
  | true =>
    refine ⟨([], 6), ?_, .no (by decide)⟩
    refine tri_enter Try.func54 rfl Try.ntmps54 (by simp only [List.length_cons, List.length_nil]; omega) fun w0 h0 k hrd hwr => ?_
    repeat' (first | refine awp_seq_k fun K hK => ?_ | ((first | refine aK fun R hR => ?_ | refine aD mixed fun R hR => ?_); simp only [go_sem, a1]) | ((first | (refine hR _ ?_; clear hR R) | refine awp_skip ?_ | refine awp_exit ?_ | refine awp_ret ?_); try refine aP ?_) | ((repeat (fail_if_success refine hK _ ?_); clear hK K); refine hK _ ?_; clear hK K) | refine aT ?_ | refine aF ?_ | refine awp_block ?_ | refine aN ?_ | fail)
    (first | refine ret_pure ?_ ?_ ?_ | refine ret_ro ?_ ?_ ?_); focus exact (okA Try.ntmps54 Try.results54)
    rotate_left; focus exact frT
    simp only [resA, resV, Try.results54, go_sem]
    all_goals try exact coA
  | false =>
    cases a2 : decide (kind > 3) with
    | true =>
      refine ⟨([], 6), ?_, .no (by decide)⟩
      refine tri_enter Try.func54 rfl Try.ntmps54 (by simp only [List.length_cons, List.length_nil]; omega) fun w0 h0 k hrd hwr => ?_
      repeat' (first | refine awp_seq_k fun K hK => ?_ | ((first | refine aK fun R hR => ?_ | refine aD mixed fun R hR => ?_); simp only [go_sem, a1, a2]) | ((first | (refine hR _ ?_; clear hR R) | refine awp_skip ?_ | refine awp_exit ?_ | refine awp_ret ?_); try refine aP ?_) | ((repeat (fail_if_success refine hK _ ?_); clear hK K); refine hK _ ?_; clear hK K) | refine aT ?_ | refine aF ?_ | refine awp_block ?_ | refine aN ?_ | fail)
      (first | refine ret_pure ?_ ?_ ?_ | refine ret_ro ?_ ?_ ?_); focus exact (okA Try.ntmps54 Try.results54)
      rotate_left; focus exact frT
      simp only [resA, resV, Try.results54, go_sem]
      all_goals try exact coA
    | false =>
      cases a3 : namedB l ⟨kind, left, right, leftAt, rightAt, lt, rt, place⟩ with
      | false =>
        rw [a3] at hN
        refine ⟨([], 5), ?_, .no (by decide)⟩
        refine tri_enter Try.func54 rfl Try.ntmps54 (by simp only [List.length_cons, List.length_nil]; omega) fun w0 h0 k hrd hwr => ?_
        repeat' (first | refine awp_seq_k fun K hK => ?_ | ((first | refine aK fun R hR => ?_ | refine aD mixed fun R hR => ?_); simp only [go_sem, a1, a2]) | ((first | (refine hR _ ?_; clear hR R) | refine awp_skip ?_ | refine awp_exit ?_ | refine awp_ret ?_); try refine aP ?_) | ((repeat (fail_if_success refine hK _ ?_); clear hK K); refine hK _ ?_; clear hK K) | refine aT ?_ | refine aF ?_ | refine awp_block ?_ | ((first | refine CallK.pure (enter89) (hN) ?_ ?_ | refine CallD.pure (enter89) (hN) ?_ ?_); (focus exact aC); simp only [go_sem, a1, a2]) | refine aN ?_ | fail)
        (first | refine ret_pure ?_ ?_ ?_ | refine ret_ro ?_ ?_ ?_); focus exact (okA Try.ntmps54 Try.results54)
        rotate_left; focus exact frT
        simp only [resA, resV, Try.results54, go_sem]
        all_goals try exact coA
      | true =>
        rw [a3] at hN
        cases a4 : nothingB ⟨kind, left, right, leftAt, rightAt, lt, rt, place⟩ with
        | false =>
          rw [a4] at hO
          refine ⟨([], 1), ?_, .no (by decide)⟩
          refine tri_enter Try.func54 rfl Try.ntmps54 (by simp only [List.length_cons, List.length_nil]; omega) fun w0 h0 k hrd hwr => ?_
          repeat' (first | refine awp_seq_k fun K hK => ?_ | ((first | refine aK fun R hR => ?_ | refine aD mixed fun R hR => ?_); simp only [go_sem, a1, a2]) | ((first | (refine hR _ ?_; clear hR R) | refine awp_skip ?_ | refine awp_exit ?_ | refine awp_ret ?_); try refine aP ?_) | ((repeat (fail_if_success refine hK _ ?_); clear hK K); refine hK _ ?_; clear hK K) | refine aT ?_ | refine aF ?_ | refine awp_block ?_ | ((first | refine CallK.pure (enter89) (hN) ?_ ?_ | refine CallD.pure (enter89) (hN) ?_ ?_ | refine CallK.pure (enter90) (hO) ?_ ?_ | refine CallD.pure (enter90) (hO) ?_ ?_); (focus exact aC); simp only [go_sem, a1, a2]) | refine aN ?_ | fail)
          (first | refine ret_pure ?_ ?_ ?_ | refine ret_ro ?_ ?_ ?_); focus exact (okA Try.ntmps54 Try.results54)
          rotate_left; focus exact frT
          simp only [resA, resV, Try.results54, go_sem]
          all_goals try exact coA
        | true =>
          rw [a4] at hO
          unfold namedB at a3
          rw [Bool.and_eq_true, Bool.and_eq_true] at a3
          simp only at a3
          obtain ⟨b1, b2, b3⟩ := a3
          obtain ⟨n, rfl, hn'⟩ := isB_true b1
          rw [clAt_nat hn'] at b2 b3
          have hz : (n : Int) < (l.length : Int) := by omega
          have e1 : (l.map clDV).getD n default = clDV l[n] := nth_map clDV hn' _
          have hmem := List.getElem_mem hn'
          obtain ⟨q, rfl, hq'⟩ := isB_true b2
          cases k1 : kind == 1 with
          | true =>
            have k1' : kind = 1 := by simpa using k1
            obtain ⟨a, hS, hok⟩ := same_any' l[n] ⟨kind, n, right, q, rightAt, lt, rt, place⟩ (hown _ hmem) (hlen _ hmem) rfl hq'
            refine ⟨a, ?_, hok.1, fun h => ⟨(hok.2 h).1, ⟨n, rfl, hn'⟩, fun h3 => by simp only at h3; omega⟩, fun h sz tb hm h1 _ => (hok.2 h).2 sz tb hm fun c h2 => by rw [List.mem_singleton.1 h2]; rw [clAt_nat hn'] at h1; exact h1⟩
            refine tri_enter Try.func54 rfl Try.ntmps54 (by simp only [List.length_cons, List.length_nil]; omega) fun w0 h0 k hrd hwr => ?_
            repeat' (first | refine awp_seq_k fun K hK => ?_ | ((first | refine aK fun R hR => ?_ | refine aD mixed fun R hR => ?_); simp only [go_sem, a1, a2, k1, hz, e1, List.length_map, Int.toNat_natCast]) | ((first | (refine hR _ ?_; clear hR R) | refine awp_skip ?_ | refine awp_exit ?_ | refine awp_ret ?_); try refine aP ?_) | ((repeat (fail_if_success refine hK _ ?_); clear hK K); refine hK _ ?_; clear hK K) | refine aT ?_ | refine aF ?_ | refine awp_block ?_ | ((first | refine CallK.pure (enter89) (hN) ?_ ?_ | refine CallD.pure (enter89) (hN) ?_ ?_ | refine CallK.pure (enter90) (hO) ?_ ?_ | refine CallD.pure (enter90) (hO) ?_ ?_ | refine CallK.pure (enter91) (hS) ?_ ?_ | refine CallD.pure (enter91) (hS) ?_ ?_); (focus exact aC); simp only [go_sem, a1, a2, k1, hz, e1, List.length_map, Int.toNat_natCast]) | refine aN ?_ | fail)
            (first | refine ret_pure ?_ ?_ ?_ | refine ret_ro ?_ ?_ ?_); focus exact (okA Try.ntmps54 Try.results54)
            rotate_left; focus exact frT
            simp only [resA, resV, Try.results54, go_sem]
            all_goals try exact coA
          | false =>
            cases k2 : kind == 2 with
            | true =>
              have k2' : kind = 2 := by simpa using k2
              rw [if_pos k2'] at b3
              obtain ⟨m, rfl, hm'⟩ := isB_true b3
              obtain ⟨a, hS, hok⟩ := factor_any l[n] ⟨kind, n, right, q, m, lt, rt, place⟩ (hown _ hmem) (hlen _ hmem) rfl rfl hq' hm'
              refine ⟨a, ?_, hok.1, fun h => ⟨(hok.2 h).1, ⟨n, rfl, hn'⟩, fun h3 => by simp only at h3; omega⟩, fun h sz tb hm h1 _ => (hok.2 h).2 sz tb hm fun c h2 => by rw [List.mem_singleton.1 h2]; rw [clAt_nat hn'] at h1; exact h1⟩
              refine tri_enter Try.func54 rfl Try.ntmps54 (by simp only [List.length_cons, List.length_nil]; omega) fun w0 h0 k hrd hwr => ?_
              repeat' (first | refine awp_seq_k fun K hK => ?_ | ((first | refine aK fun R hR => ?_ | refine aD mixed fun R hR => ?_); simp only [go_sem, a1, a2, k1, k2, hz, e1, List.length_map, Int.toNat_natCast]) | ((first | (refine hR _ ?_; clear hR R) | refine awp_skip ?_ | refine awp_exit ?_ | refine awp_ret ?_); try refine aP ?_) | ((repeat (fail_if_success refine hK _ ?_); clear hK K); refine hK _ ?_; clear hK K) | refine aT ?_ | refine aF ?_ | refine awp_block ?_ | ((first | refine CallK.pure (enter89) (hN) ?_ ?_ | refine CallD.pure (enter89) (hN) ?_ ?_ | refine CallK.pure (enter90) (hO) ?_ ?_ | refine CallD.pure (enter90) (hO) ?_ ?_ | refine CallK.pure (enter92) (hS) ?_ ?_ | refine CallD.pure (enter92) (hS) ?_ ?_); (focus exact aC); simp only [go_sem, a1, a2, k1, k2, hz, e1, List.length_map, Int.toNat_natCast]) | refine aN ?_ | fail)
              (first | refine ret_pure ?_ ?_ ?_ | refine ret_ro ?_ ?_ ?_); focus exact (okA Try.ntmps54 Try.results54)
              rotate_left; focus exact frT
              simp only [resA, resV, Try.results54, go_sem]
              all_goals try exact coA
            | false =>
              have k3 : kind = 3 := by simp at a1 a2 k1 k2; omega
              rw [if_neg (by omega), if_pos k3, Bool.and_eq_true, Bool.and_eq_true] at b3
              obtain ⟨c1, c2, _⟩ := b3
              obtain ⟨p, rfl, hp'⟩ := isB_true c1
              rw [clAt_nat hp'] at c2
              obtain ⟨m, rfl, hm'⟩ := isB_true c2
              have hz' : (p : Int) < (l.length : Int) := by omega
              have e2 : (l.map clDV).getD p default = clDV l[p] := nth_map clDV hp' _
              have hmem' := List.getElem_mem hp'
              obtain ⟨a, hS, hok⟩ := put_any l[n] l[p] ⟨kind, n, p, q, m, lt, rt, place⟩ (hown _ hmem) (hown _ hmem') (hlen _ hmem) (hlen _ hmem') rfl rfl hq' hm' hp
              refine ⟨a, ?_, hok.1, fun h => ⟨(hok.2 h).1, ⟨n, rfl, hn'⟩, fun _ => ⟨p, rfl, hp'⟩⟩, fun h sz tb hm h1 h3 => (hok.2 h).2 sz tb hm fun c h2 => ?_⟩
              · refine tri_enter Try.func54 rfl Try.ntmps54 (by simp only [List.length_cons, List.length_nil]; omega) fun w0 h0 k hrd hwr => ?_
                repeat' (first | refine awp_seq_k fun K hK => ?_ | ((first | refine aK fun R hR => ?_ | refine aD mixed fun R hR => ?_); simp only [go_sem, a1, a2, k1, k2, hz, hz', e1, e2, List.length_map, Int.toNat_natCast]) | ((first | (refine hR _ ?_; clear hR R) | refine awp_skip ?_ | refine awp_exit ?_ | refine awp_ret ?_); try refine aP ?_) | ((repeat (fail_if_success refine hK _ ?_); clear hK K); refine hK _ ?_; clear hK K) | refine aT ?_ | refine aF ?_ | refine awp_block ?_ | ((first | refine CallK.pure (enter89) (hN) ?_ ?_ | refine CallD.pure (enter89) (hN) ?_ ?_ | refine CallK.pure (enter90) (hO) ?_ ?_ | refine CallD.pure (enter90) (hO) ?_ ?_ | refine CallK.pure (enter93) (hS) ?_ ?_ | refine CallD.pure (enter93) (hS) ?_ ?_); (focus exact aC); simp only [go_sem, a1, a2, k1, k2, hz, hz', e1, e2, List.length_map, Int.toNat_natCast]) | refine aN ?_ | fail)
                (first | refine ret_pure ?_ ?_ ?_ | refine ret_ro ?_ ?_ ?_); focus exact (okA Try.ntmps54 Try.results54)
                rotate_left; focus exact frT
                simp only [resA, resV, Try.results54, go_sem]
                all_goals try exact coA
              · have h3 := h3 k3
                rw [clAt_nat hn'] at h1
                rw [clAt_nat hp'] at h3
                simp only [List.mem_cons, List.not_mem_nil, or_false] at h2
                rcases h2 with rfl | rfl
                · exact h1
                · exact h3
section
variable (g : FuncId) (caps : List AV) (f : Tm → Tm) (hg : enterOk Try.prog g)
include hg
set_option maxHeartbeats 1000000 in
set_option maxRecDepth 20000 in
theorem each_pure (c : List Lt) (hc : c.length ≤ 4000000) (hdo : ∀ l ∈ c, Tri Try.prog g ([.d (tmDV l.a)] ++ caps) (pure' (.d (tmDV (f l.a)))) ∧ Tri Try.prog g ([.d (tmDV l.b)] ++ caps) (pure' (.d (tmDV (f l.b))))) :
    Tri Try.prog 55 [.d (clDV c), .fn (.func g) [] caps] (pure' (.d (clDV (c.map (mapLt f))))) := by
  refine tri_enter Try.func55 rfl Try.ntmps55 (by simp only [List.length_cons, List.length_nil]; omega) fun w0 h0 k hrd hwr => ?_
  repeat' (first | refine awp_ghost (ghost_nil (i := 5) (e := 91) rfl) ?_ | refine awp_seq_k fun K hK => ?_ | ((first | refine aK fun R hR => ?_ | refine aD mixed fun R hR => ?_); simp only [go_sem]) | ((first | (refine hR _ ?_; clear hR R) | refine awp_skip ?_ | refine awp_exit ?_ | refine awp_ret ?_); try refine aP ?_) | ((repeat (fail_if_success refine hK _ ?_); clear hK K); refine hK _ ?_; clear hK K) | refine aT ?_ | refine aF ?_ | refine awp_block ?_ | refine aN ?_ | fail)
  refine awp_loop (fun σ => ∃ i : Nat, σ.t 1 = .fn (.func g) [] caps ∧ σ.t 5 = .own (k + 1 + 1, 0) (((c.take i).map (mapLt f)).map ltDV) ∧ σ.t 8 = .d (clDV c) ∧ σ.t 9 = iA c.length ∧ σ.t 10 = iA i ∧
    σ.h (k + 1 + 1, 0) = some (.perm 91 ((c.take i).map (mapLt f)).length) ∧ Fr k h0 σ.h ∧ k + 1 + 1 < σ.k ∧ i ≤ c.length) (fun σ => c.length - (intOf' (σ.t 10)).toNat) ?_ ?_
  · refine ⟨0, ?_⟩
    simp only [go_sem, List.take_zero, List.map_nil]
    and_intros; all_goals try (first | rfl | omega | assumption | exact anA)
  · rintro σ ⟨i, s1, s5, s8, s9, s10, sh, hF, hk, hi⟩
    have hne2 := ltne hk
    have hml : ((c.take i).map (mapLt f)).length = i := by rw [List.length_map, List.length_take]; omega
    rcases Nat.lt_or_ge i c.length with hlt | hge
    · have hz : (i : Int) < (c.length : Int) := by omega
      have e1 : (c.map ltDV).getD i default = ltDV c[i] := nth_map ltDV hlt _
      obtain ⟨d1, d2⟩ := hdo _ (List.getElem_mem hlt)
      have etk : ((c.take i).map (mapLt f)).map ltDV ++ [ltDV (mapLt f c[i])] = ((c.take (i + 1)).map (mapLt f)).map ltDV := by rw [mapLt_take hlt]; simp
      repeat' (first | refine awp_seq_k fun K hK => ?_ | ((first | refine aK fun R hR => ?_ | refine aD mixed fun R hR => ?_); simp only [go_sem, s1, s5, s8, s9, s10, sh, hz, e1, hne2, hml, List.length_map, Int.toNat_natCast]) | ((first | (refine hR _ ?_; clear hR R) | refine awp_skip ?_ | refine awp_exit ?_ | refine awp_ret ?_); try refine aP ?_) | ((repeat (fail_if_success refine hK _ ?_); clear hK K); refine hK _ ?_; clear hK K) | refine aT ?_ | refine aF ?_ | refine awp_block ?_ | ((first | refine CallK.val (e := pure' _) rfl (hg) (d1) ?_ (fun x hx => by cases hx) (fun x hx => by cases hx) ?_ | refine CallD.val (e := pure' _) rfl (hg) (d1) ?_ (fun x hx => by cases hx) (fun x hx => by cases hx) ?_); (focus exact aC); simp only [go_sem, s1, s5, s8, s9, s10, sh, hz, e1, hne2, hml, List.length_map, Int.toNat_natCast]) | ((first | refine CallK.val (e := pure' _) rfl (hg) (d2) ?_ (fun x hx => by cases hx) (fun x hx => by cases hx) ?_ | refine CallD.val (e := pure' _) rfl (hg) (d2) ?_ (fun x hx => by cases hx) (fun x hx => by cases hx) ?_); (focus exact aC); simp only [go_sem, s1, s5, s8, s9, s10, sh, hz, e1, hne2, hml, List.length_map, Int.toNat_natCast]) | refine aN ?_ | fail)
      refine ⟨⟨i + 1, ?_⟩, ?_⟩
      rotate_left
      · simp only [go_sem, s1, s5, s8, s9, s10, sh, hne2, etk, hml, List.length_map]; omega
      simp only [go_sem, s1, s5, s8, s9, s10, sh, hne2, etk, hml, List.length_map]
      and_intros; all_goals try (first | rfl | omega | assumption | exact anA)
    · have hz : ¬ ((i : Int) < (c.length : Int)) := by omega
      obtain rfl : i = c.length := by omega
      rw [List.take_length] at s5 sh
      repeat' (first | refine awp_seq_k fun K hK => ?_ | ((first | refine aK fun R hR => ?_ | refine aD mixed fun R hR => ?_); simp only [go_sem, s5, s9, s10, sh, hz]) | ((first | (refine hR _ ?_; clear hR R) | refine awp_skip ?_ | refine awp_exit ?_ | refine awp_ret ?_); try refine aP ?_) | ((repeat (fail_if_success refine hK _ ?_); clear hK K); refine hK _ ?_; clear hK K) | refine aT ?_ | refine aF ?_ | refine awp_block ?_ | refine aN ?_ | fail)
      (first | refine ret_pure ?_ ?_ ?_ | refine ret_ro ?_ ?_ ?_); focus exact (by simp only [Try.results55, resOkL, resOk, Try.ntmps55, List.toList_toArray]; first | decide | (simp only [go_sem, s5]; done) | (simp only [go_sem, s5]; and_intros <;> first | omega | rfl | decide))
      rotate_left; focus exact frA
      simp only [resA, resV, Try.results55, go_sem, s5]
      all_goals try exact coA
      all_goals exact .dat rfl
end
set_option maxHeartbeats 1000000 in
set_option maxRecDepth 20000 in
theorem cloneG_cls (l : List (List Lt)) (hl : l.length ≤ 4000000) (h0 : 0 < l.length) (n' : Nm) : Tri Try.prog 53 [.d (.sl (l.map clDV))] (groE 61 n' l.length (flatC (l.map clDV))) := by
  intro w0 h k m β w cargs H hrd hwr hsz hargs
  have hno : h n' = none := hrd (n', none) (by simp [groE])
  obtain ⟨hk, hn0⟩ := hwr (n', some (.gro 61 l.length (flatC (l.map clDV)))) (by simp [groE])
  have hbn : β n' = none := hn0 hno
  have hk : n'.1 < k := hk
  obtain ⟨v, rfl⟩ : ∃ v, cargs = #[v] := by
    obtain ⟨l⟩ := cargs
    match l, hsz with
    | [v], _ => exact ⟨v, rfl⟩
  have hv := (hargs 0 v (.d (.sl (l.map clDV))) (by simp) (by simp)).dat2
  have hszs : ∀ y ∈ l.map clDV, y.cells.length = 1 := fun y hy => by obtain ⟨a, _, rfl⟩ := List.mem_map.1 hy; rfl
  obtain ⟨a, cap, news, rfl, q1, q2, hN, hF, q4⟩ := loaded (P := Try.prog) hv hszs (fun b o v hm => (H.mem b o v hm).2)
  rw [List.length_map] at q1 hF hv ⊢
  have ha : a ≠ none := fun e => by have := q4 e; omega
  obtain ⟨⟨b, o, el⟩, rfl⟩ := Option.ne_none_iff_exists'.1 ha
  have hq := fun (w : World) (a : Option Addr) (n c n' c' : Nat) => Lib.run_eql_slice_nil (P := Try.prog) w 50 _ a n c n' c' Try.underlying50
  have eT : elT Try.prog 50 = 61 := by kernel_rfl
  have eS : szT Try.prog 61 = 1 := by kernel_rfl
  have eB : bytesT Try.prog 61 ≤ 1024 := by decide +kernel
  obtain ⟨i, z, hi, hz0, hzs, hsi, h1, _⟩ := zeroOk_of (P := Try.prog) (t := 61) (by kernel_rfl)
  rw [eS] at hzs
  have hfc : ∀ w' : World, (∀ b o v, m b o = some v → w'.cell? ⟨b, o, none⟩ = some v) → (Builtin.firstCells (szT Try.prog (elT Try.prog 50)) l.length (.slice (some ⟨b, o, el⟩) l.length cap)).run Try.prog w' = .ok news.toArray w' := fun w' h' => by rw [eT, eS]; exact hF w' h'
  have hcell : ∀ b o v, m b o = some v → (w.alloc (.cells #[] 61)).drew.cell? ⟨b, o, none⟩ = some v := fun b o v hv =>
    (World.cell?_alloc_lt w _ ⟨b, o, none⟩ (H.mem_lt hv)).trans (H.mem b o v hv).1
  have hap := run_app_new (P := Try.prog) (w := w.alloc (.cells #[] 61)) (t := 50) (base := some ⟨w.heap.size, 0, none⟩) (sLen := 0) (sCap := 0) (n := l.length) (vx := .slice (some ⟨b, o, el⟩) l.length cap) (olds := []) (news := news) (i := i) (z := z) (by kernel_rfl) (by rw [eT]; exact hi) hz0
    (by simp [Builtin.lenOf]) (hfc _ hcell) (by simp [Builtin.firstCells, loadCells, loadCellsFrom]) (by omega) (by omega) (by rw [eT]; exact eB)
  rw [eT, Nat.zero_add] at hap
  have hge := grownCap_ge (w.alloc (.cells #[] 61)) l.length 0 61
  have hle := grownCap_le_maxLen (w.alloc (.cells #[] 61)) l.length 0 61 (by unfold maxLen; omega)
  generalize grownCap (w.alloc (.cells #[] 61)) l.length 0 61 = nc at hap hge hle
  generalize hC : ([] : List Value).toArray ++ (news.toArray ++ Builtin.zeroCells z.cells (nc - l.length)) = C at hap
  have hlC : C.size = nc * 1 := by
    rw [← hC]
    simp only [Array.size_append, List.size_toArray, hN.len, List.length_map, List.length_nil, size_zeroCells, hzs]
    omega
  have hCx : ∀ q, q < l.length * 1 → C[q]? = news[q]? := fun q hq => by
    rw [← hC, Array.getElem?_append_right (by simp), Array.getElem?_append_left (by simp [hN.len]; omega)]
    simp
  clear hC
  go_enter Try.func53, Try.ntmps53
  go_wp2_with (at_builtin; refine wpList_ran rfl _ _ 50 rfl rfl rfl (hap _) ?_)
  go_wp2
  go_ret
  have H1 := (H.grow (w' := (w.alloc (.cells #[] 61)).drew) (Ext.one w _).draw)
  have hfl := flatC_len hszs
  have esz : ((w.alloc (.cells #[] 61)).drew).heap.size = w.heap.size + 1 := by simp
  have hdat : ∀ (q : Nat) (v : Value) (a : AV), C[q]? = some v → (flatC (l.map clDV))[q]? = some a → v.oneCell' = true ∧ R m β v a := by
    intro q v a hq ha
    have hlt : q < l.length * 1 := by
      have := (List.getElem?_eq_some_iff.1 ha).1
      rw [hfl, List.length_map] at this; exact this
    have hi : q / 1 < l.length := Nat.div_lt_of_lt_mul (by omega)
    have hx : (l.map clDV)[q / 1]? = some (clDV l[q / 1]) := by rw [List.getElem?_map, List.getElem?_eq_getElem hi]; rfl
    have hlen := hszs (clDV l[q / 1]) (List.mem_map.2 ⟨_, List.getElem_mem hi, rfl⟩)
    have hj : q % 1 < (clDV l[q / 1]).cells.length := by rw [hlen]; exact Nat.mod_lt _ (by decide)
    have hd := List.getElem?_eq_getElem hj
    obtain ⟨_, cv, g1, g2⟩ := hN.get _ _ _ _ hx hd
    have g3 := flatC_at hszs hx hd
    have eq : q / 1 * 1 + q % 1 = q := by have := Nat.div_add_mod q 1; omega
    rw [eq] at g1 g3
    rw [g3] at ha; cases ha
    rw [hCx q hlt, g1] at hq; cases hq
    exact ⟨hN.one _ (List.mem_of_getElem? g1), .d g2⟩
  have hf := fun o => H1.fresh (Nat.le_refl _) o
  have H2 := H1.upd1 (n := n') (p := ⟨((w.alloc (.cells #[] 61)).drew).heap.size, nc, some l.length⟩) (ob := .gro 61 l.length (flatC (l.map clDV))) (m' := m) (w' := ((w.alloc (.cells #[] 61)).drew).alloc (.cells C 61)) (le_new hbn) hk (Below.alloc H1.ext H1.size _) (.rfl' m) (fun b o v hv => ?_) ⟨rfl, .inr ⟨C, heap_alloc_new _ _, by rw [eS]; exact hlC, hge, hle, by rw [eS, hfl, List.length_map], fun i v a hi ha => ⟨(hdat i v a hi ha).1, (hdat i v a hi ha).2.mono (.rfl' m) (updB_le (le_new hbn))⟩, hf⟩⟩ (fun _ => H1.size) (fun x p' ob' _ hx hp hr => ?_)
  · rw [esz] at H2
    refine ⟨_, rfl, m, .rfl' m, updB β n' ⟨w.heap.size + 1, nc, some l.length⟩, updB_le (le_new hbn), ?_, H2, .gro (p := ⟨w.heap.size + 1, nc, some l.length⟩) ⟨_, _, rfl⟩ (updB_self _ _ _) rfl (Nat.le_refl _) fun _ => ⟨some ⟨w.heap.size + 1, 0, none⟩, rfl, .inr rfl⟩⟩
    intro a b hx h0
    exact updB_none (fun e => hx e.symm) h0
  · obtain ⟨h1, h2⟩ := H1.mem b o v hv
    exact ⟨(World.cell?_alloc_lt _ _ ⟨b, o, none⟩ (H1.mem_lt hv)).trans h1, h2⟩
  · have := H1.lt hx hp hr
    exact ⟨fun _ => Nat.ne_of_lt this, heap_alloc_old _ _ this, fun _ => rfl⟩
theorem Tri.froze {P : Program} {f : FuncId} {az : List AV} {e : TypeId} {n' : Nm} {ys : List DV} (h : Tri P f az (groE e n' ys.length (flatC ys))) (hsz : ∀ y ∈ ys, y.cells.length = szT P e) (h0 : 0 < ys.length) : Tri P f az (newEff e n' ys) := by
  intro w0 hh k m β w cargs H hrd hwr hcs hargs
  obtain ⟨hk, hn0⟩ := hwr (n', some (.perm e ys.length)) (by simp [newEff])
  refine (h w0 hh k m β w cargs H (fun x hx => hrd x (by simpa [groE, newEff] using hx)) (fun x hx => by simp only [groE, List.mem_cons, List.not_mem_nil, or_false] at hx; subst hx; exact ⟨hk, hn0⟩) hcs hargs).mono ?_
  rintro en w' ⟨v, m', β', rfl, g1, g2, g3, g4, g5⟩
  have hob : (groE e n' ys.length (flatC ys)).ap hh n' = some (.gro e ys.length (flatC ys)) := by simp [groE, Eff.ap, upd]
  obtain ⟨p, hb, hver, hcase⟩ := g4.obj n' _ hob
  have hreal : ¬ (ys.length = 0 ∧ p.2 = 0) := fun e => by omega
  have hB := g4.new n' p _ hb hob hreal
  rcases hcase with hcase | ⟨C, c1, c2, c3, c4, c5, c6, c7⟩
  · exact absurd ⟨hcase.1, hcase.2.1⟩ hreal
  obtain ⟨f', hf⟩ : ∃ f' : Nat → Option Value, ∀ o, f' o = if o < ys.length * szT P e then C[o]? else none := ⟨_, fun _ => rfl⟩
  have hle := Mem.add_le m' p.1 f'
  have hnew : ∀ o, m'.add p.1 f' p.1 o = f' o := fun o => Mem.add_new _ _ (c7 o)
  have hlen := flatC_len hsz
  have hself : updB β' n' p = β' := by
    funext y; unfold updB; split
    · subst_vars; exact hb.symm
    · rfl
  have hap : upd ((groE e n' ys.length (flatC ys)).ap hh) n' (some (.perm e ys.length)) = (newEff e n' ys).ap hh := by
    funext x; simp only [groE, newEff, Eff.ap, List.foldl, upd]; split <;> rfl
  have H1 := g4.upd1 (n := n') (p := p) (ob := .perm e ys.length) (m' := m'.add p.1 f') (w' := w') (fun q hq => by rw [hb] at hq; cases hq; exact .rfl' _) hk g4.ext hle (fun b o v hv => ?_)
    ⟨hver, .inr ⟨C, c1, c2, c3, fun o ho => by rw [hnew, hf, if_neg (by omega)]⟩⟩ (fun _ => hB) (fun x p' ob' hx hox hpx hr => ?_)
  · rw [hap, hself] at H1
    refine ⟨v, m'.add p.1 f', β', rfl, g1.trans hle, g2, fun x hx h0 => g3 x (fun y hy => by simp only [groE, List.mem_cons, List.not_mem_nil, or_false] at hy; subst hy; exact hx (n', some (.perm e ys.length)) (by simp [newEff])) h0, H1, ?_⟩
    generalize hA : (groE e n' ys.length (flatC ys)).val = A at g5
    cases g5 with
    | gro q1 q2 q3 q4 q5 =>
      cases hA
      rw [hb] at q2; cases q2
      rw [hver] at q3; cases q3
      obtain ⟨a, rfl, q6⟩ := q5 rfl
      have q6 := q6.resolve_left hreal
      subst q6
      refine .own (p := p) (v := ys.length) ?_ hb hver (Nat.le_refl _) fun _ => ⟨some ⟨p.1, 0, none⟩, rfl, .inr rfl⟩
      have cell : ∀ (i j : Nat) (x d : DV), ys[i]? = some x → x.cells[j]? = some d → ∃ cv, m'.add p.1 f' p.1 (0 + i * szT P e + j) = some cv ∧ RD (m'.add p.1 f') cv d := by
        intro i j x d hx hd
        have h4 := flatC_at hsz hx hd
        have hlt : i * szT P e + j < ys.length * szT P e := by rw [← hlen]; exact (List.getElem?_eq_some_iff.1 h4).1
        have hcs : i * szT P e + j < C.size := by
          rw [c2]; exact Nat.lt_of_lt_of_le hlt (Nat.mul_le_mul_right _ c3)
        have h5 := Array.getElem?_eq_getElem hcs
        refine ⟨C[i * szT P e + j], ?_, ?_⟩
        · rw [Nat.zero_add, hnew, hf, if_pos hlt]; exact h5
        · exact (c6 _ _ _ h5 h4).2.dat2.mono hle
      exact .sl (sz := szT P e) rfl c3 c4 hsz (fun i j x d hx hd => let ⟨cv, q1, _⟩ := cell i j x d hx hd; ⟨cv, q1⟩) fun i j x d cv hx hd hcv => by
        obtain ⟨cv', q1, q2⟩ := cell i j x d hx hd
        rw [hcv] at q1; cases q1; exact q2
    | _ => cases hA
  · by_cases hbp : b = p.1
    · subst hbp
      rw [hnew, hf] at hv
      split at hv
      · rename_i hlt
        have hfl : o < (flatC ys).length := by rw [hlen]; exact hlt
        refine ⟨?_, (c6 o v _ hv (List.getElem?_eq_getElem hfl)).1⟩
        unfold World.cell?
        rw [c1]; exact hv
      · cases hv
    · rw [Mem.add_ne _ _ hbp] at hv; exact g4.mem b o v hv
  · have hne : p'.1 ≠ p.1 := fun e => hx (g4.inj x n' p' p ob' _ hox hob hpx hb hr hreal e)
    exact ⟨fun _ => hne, rfl, fun o => Mem.add_ne _ _ hne o⟩
theorem cloneO_cls (l : List (List Lt)) (hl : l.length ≤ 4000000) (h0 : 0 < l.length) (n' : Nm) : Tri Try.prog 53 [.d (.sl (l.map clDV))] (newEff 61 n' (l.map clDV)) := by
  have h := cloneG_cls l hl h0 n'
  have h2 : Tri Try.prog 53 [.d (.sl (l.map clDV))] (groE 61 n' (l.map clDV).length (flatC (l.map clDV))) := by rw [List.length_map]; exact h
  exact h2.froze (fun y hy => by obtain ⟨a, _, rfl⟩ := List.mem_map.1 hy; rw [show szT Try.prog 61 = 1 from by kernel_rfl]; rfl) (by rw [List.length_map]; exact h0)
set_option maxHeartbeats 1000000 in
set_option maxRecDepth 20000 in
theorem cloneE_cls : Tri Try.prog 53 [.d (.sl [])] (pure' (.d (.sl []))) := by
  intro w0 h k m β w cargs H hrd hwr hsz hargs
  obtain ⟨v, rfl⟩ : ∃ v, cargs = #[v] := by
    obtain ⟨l⟩ := cargs
    match l, hsz with
    | [v], _ => exact ⟨v, rfl⟩
  have hv := (hargs 0 v (.d (.sl [])) (by simp) (by simp)).dat2
  obtain ⟨a, cap, rfl⟩ : ∃ a cap, v = .slice a 0 cap := by
    generalize hx : DV.sl [] = x at hv
    cases hv with
    | nil => exact ⟨_, _, rfl⟩
    | sl hn => cases hx; simp at hn; subst hn; exact ⟨_, _, rfl⟩
    | _ => cases hx
  have hq := fun (w : World) (a : Option Addr) (n c n' c' : Nat) => Lib.run_eql_slice_nil (P := Try.prog) w 50 _ a n c n' c' Try.underlying50
  cases a with
  | none =>
    go_enter Try.func53, Try.ntmps53
    go_wp2
    go_ret
    exact ⟨_, rfl, m, .rfl' m, β, .rfl' β, fun _ _ h => h, H, .d .nil⟩
  | some ad =>
    go_enter Try.func53, Try.ntmps53
    go_wp2
    go_ret
    exact ⟨_, rfl, m, .rfl' m, β, .rfl' β, fun _ _ h => h, H.grow (Ext.one w _), .d .nil⟩
end Go.Proofs.Ytmeekpinkfpnhab
