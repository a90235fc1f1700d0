/- Package proof: Clauses. FRSTH -/
import Derived.Test.YtmeekpinkfpnhabP35
set_option linter.unusedSimpArgs false
set_option linter.unusedSectionVars false
set_option linter.unusedVariables false
set_option linter.unnecessarySimpa false
set_option linter.all false
namespace Go.Proofs.Ytmeekpinkfpnhab
open Go.RowKit
def RawPre (g : List Int) (L : List (List Lt)) (i : Inf) : Prop := L.length ≤ 4000000 ∧ (∀ c ∈ L, clOk g c = 0) ∧ i.place.length ≤ 4000000
def RawSpec (g : List Int) (f : List (List Lt) → Inf → List Lt × Int) : Prop := ∀ L i, RawPre g L i → Tri Try.prog 54 [.d (.sl (L.map clDV)), .d (ifDV i)] (pure' (.tup [.d (clDV (f L i).1), iA (f L i).2])) ∧ RawOk g L i (f L i)
theorem raw_fun (g : List Int) : ∃ f, RawSpec g f := by
  have h : ∀ L i, ∃ a : List Lt × Int, RawPre g L i → Tri Try.prog 54 [.d (.sl (L.map clDV)), .d (ifDV i)] (pure' (.tup [.d (clDV a.1), iA a.2])) ∧ RawOk g L i a := fun L i => by
    by_cases hp : RawPre g L i
    · obtain ⟨a, h1, h2⟩ := raw_any L i hp.1 hp.2.1 hp.2.2
      exact ⟨a, fun _ => ⟨h1, h2⟩⟩
    · exact ⟨([], 0), fun h => absurd h hp⟩
  exact ⟨fun L i => Classical.choose (h L i), fun L i hp => Classical.choose_spec (h L i) hp⟩
def pfRun (f : List (List Lt) → Inf → List Lt × Int) : List (List Lt) → List Inf → List (List Lt) × Int
  | L, [] => (L, 0)
  | L, i :: p => if ((f L i).2 != 0) = true then ([], (f L i).2) else pfRun f (L ++ [(f L i).1]) p
def pfAns (g : List Int) (f : List (List Lt) → Inf → List Lt × Int) (l : List (List Lt)) (p : List Inf) : List (List Lt) × Int :=
  if (clsOk g l != 0) = true then ([], clsOk g l) else if decide ((l.length : Int) > 60 - (p.length : Int)) = true then ([], 2) else pfRun f l p
section
variable (g : List Int) (f : List (List Lt) → Inf → List Lt × Int) (hf : RawSpec g f) (l : List (List Lt)) (p : List Inf) (hl : l.length ≤ 4000000) (hc : ∀ c ∈ l, c.length ≤ 4000000) (hp : p.length ≤ 4000000) (hpl : ∀ i ∈ p, i.place.length ≤ 4000000)
include hl hc hp
set_option maxHeartbeats 2000000 in
set_option maxRecDepth 20000 in
theorem clauses_err (e : Int) (he : clsOk g l = e) (h : (e != 0) = true) : Tri Try.prog 25 [.d (sgDV g), .d (.sl (l.map clDV)), .d (.sl (p.map ifDV))] (pure' (.tup [.d (.sl []), iA e])) := by
  have hC := clCheck_tri g l hl hc
  rw [he] at hC
  refine tri_enter Try.func25 rfl Try.ntmps25 (by simp only [List.length_cons, List.length_nil]; omega) fun w0 h0 k hrd hwr => ?_
  repeat' (first | refine awp_seq_k fun K hK => ?_ | ((first | refine aK fun R hR => ?_ | refine aD mixed fun R hR => ?_); simp only [go_sem, h]) | ((first | (refine hR _ ?_; clear hR R) | refine awp_skip ?_ | refine awp_exit ?_ | refine awp_ret ?_); try refine aP ?_) | ((repeat (fail_if_success refine hK _ ?_); clear hK K); refine hK _ ?_; clear hK K) | refine aT ?_ | refine aF ?_ | refine awp_block ?_ | ((first | refine CallK.pure (enter52) (hC) ?_ ?_ | refine CallD.pure (enter52) (hC) ?_ ?_); (focus exact aC); simp only [go_sem, h]) | refine aN ?_ | fail)
  (first | refine ret_pure ?_ ?_ ?_ | refine ret_ro ?_ ?_ ?_); focus exact (okA Try.ntmps25 Try.results25)
  rotate_left; focus exact frT
  simp only [resA, resV, Try.results25, go_sem]
  all_goals try exact coA
set_option maxHeartbeats 2000000 in
set_option maxRecDepth 20000 in
theorem clauses_many (he : clsOk g l = 0) (h : decide ((l.length : Int) > 60 - (p.length : Int)) = true) : Tri Try.prog 25 [.d (sgDV g), .d (.sl (l.map clDV)), .d (.sl (p.map ifDV))] (pure' (.tup [.d (.sl []), iA 2])) := by
  have hC := clCheck_tri g l hl hc
  rw [he] at hC
  refine tri_enter Try.func25 rfl Try.ntmps25 (by simp only [List.length_cons, List.length_nil]; omega) fun w0 h0 k hrd hwr => ?_
  repeat' (first | refine awp_seq_k fun K hK => ?_ | ((first | refine aK fun R hR => ?_ | refine aD mixed fun R hR => ?_); simp only [go_sem, h, bne_self_eq_false, List.length_map]) | ((first | (refine hR _ ?_; clear hR R) | refine awp_skip ?_ | refine awp_exit ?_ | refine awp_ret ?_); try refine aP ?_) | ((repeat (fail_if_success refine hK _ ?_); clear hK K); refine hK _ ?_; clear hK K) | refine aT ?_ | refine aF ?_ | refine awp_block ?_ | ((first | refine CallK.pure (enter52) (hC) ?_ ?_ | refine CallD.pure (enter52) (hC) ?_ ?_); (focus exact aC); simp only [go_sem, h, bne_self_eq_false, List.length_map]) | refine aN ?_ | fail)
  (first | refine ret_pure ?_ ?_ ?_ | refine ret_ro ?_ ?_ ?_); focus exact (okA Try.ntmps25 Try.results25)
  rotate_left; focus exact frT
  simp only [resA, resV, Try.results25, go_sem]
  all_goals try exact coA
end
section
variable (g : List Int) (f : List (List Lt) → Inf → List Lt × Int) (hf : RawSpec g f)
include hf
set_option maxHeartbeats 2000000 in
set_option maxRecDepth 20000 in
theorem clauses_nil (he : clsOk g [] = 0) : Tri Try.prog 25 [.d (sgDV g), .d (.sl []), .d (.sl [])] (pure' (.tup [.d (.sl []), iA 0])) := by
  have hC := clCheck_tri g [] (by simp) (by simp)
  rw [he] at hC
  have hz : decide ((0 : Int) > 60 - 0) = false := rfl
  have e0 : (([] : List DV).length : Int) = 0 := rfl
  have hz2 : ¬ ((0 : Int) < 0) := by omega
  refine tri_enter Try.func25 rfl Try.ntmps25 (by simp only [List.length_cons, List.length_nil]; omega) fun w0 h0 k hrd hwr => ?_
  repeat' (first | refine awp_seq_k fun K hK => ?_ | ((first | refine aK fun R hR => ?_ | refine aD mixed fun R hR => ?_); simp only [go_sem, e0, hz, hz2, bne_self_eq_false, List.length_nil, List.map_nil]) | ((first | (refine hR _ ?_; clear hR R) | refine awp_skip ?_ | refine awp_exit ?_ | refine awp_ret ?_); try refine aP ?_) | ((repeat (fail_if_success refine hK _ ?_); clear hK K); refine hK _ ?_; clear hK K) | refine aT ?_ | refine aF ?_ | refine awp_block ?_ | ((first | refine CallK.pure (enter52) (hC) ?_ ?_ | refine CallD.pure (enter52) (hC) ?_ ?_ | refine CallK.pure (enter53) (cloneE_cls) ?_ ?_ | refine CallD.pure (enter53) (cloneE_cls) ?_ ?_); (focus exact aC); simp only [go_sem, e0, hz, hz2, bne_self_eq_false, List.length_nil, List.map_nil]) | refine aN ?_ | fail)
  refine awp_loop (fun τ => τ.t 9 = .d (.sl []) ∧ τ.t 32 = iA 0 ∧ τ.t 33 = iA 0 ∧ Fr k h0 τ.h ∧ k < τ.k) (fun τ => 0) ?_ ?_
  · simp only [go_sem, List.length_nil]
    and_intros; all_goals try (first | rfl | omega | assumption | exact anA)
  · rintro τ ⟨u9, u32, u33, uF, uk⟩
    repeat' (first | refine awp_seq_k fun K hK => ?_ | ((first | refine aK fun R hR => ?_ | refine aD mixed fun R hR => ?_); simp only [go_sem, u9, u32, u33, hz2, List.length_nil]) | ((first | (refine hR _ ?_; clear hR R) | refine awp_skip ?_ | refine awp_exit ?_ | refine awp_ret ?_); try refine aP ?_) | ((repeat (fail_if_success refine hK _ ?_); clear hK K); refine hK _ ?_; clear hK K) | refine aT ?_ | refine aF ?_ | refine awp_block ?_ | refine aN ?_ | fail)
    refine awp_loop (fun τ => τ.t 14 = .nil ∧ τ.t 52 = iA 0 ∧ τ.t 53 = iA 0 ∧ Fr k h0 τ.h ∧ k < τ.k) (fun τ => 0) ?_ ?_
    · simp only [go_sem, List.length_nil, u9]
      and_intros; all_goals try (first | rfl | omega | assumption | exact anA)
    · rintro σ ⟨s14, s52, s53, sF, sk⟩
      repeat' (first | refine awp_seq_k fun K hK => ?_ | ((first | refine aK fun R hR => ?_ | refine aD mixed fun R hR => ?_); simp only [go_sem, s14, s52, s53, hz2]) | ((first | (refine hR _ ?_; clear hR R) | refine awp_skip ?_ | refine awp_exit ?_ | refine awp_ret ?_); try refine aP ?_) | ((repeat (fail_if_success refine hK _ ?_); clear hK K); refine hK _ ?_; clear hK K) | refine aT ?_ | refine aF ?_ | refine awp_block ?_ | refine aN ?_ | fail)
      (first | refine ret_pure ?_ ?_ ?_ | refine ret_ro ?_ ?_ ?_); focus exact (by simp only [Try.results25, resOkL, resOk, Try.ntmps25, List.toList_toArray]; first | decide | (simp only [go_sem, s14]; done) | (simp only [go_sem, s14]; and_intros <;> first | omega | rfl | decide))
      rotate_left; focus exact frT
      simp only [resA, resV, Try.results25, go_sem, s14]
      all_goals try exact coA
set_option maxHeartbeats 2000000 in
set_option maxRecDepth 20000 in
theorem clauses_nil2 (he : clsOk g [] = 0) (i : Inf) (p : List Inf) (hp : (i :: p).length ≤ 60) (hpl : i.place.length ≤ 4000000) (e : Int) (hE : (f [] i).2 = e) (hE0 : (e != 0) = true) : Tri Try.prog 25 [.d (sgDV g), .d (.sl []), .d (.sl ((i :: p).map ifDV))] (pure' (.tup [.d (.sl []), iA e])) := by
  have hC := clCheck_tri g [] (by simp) (by simp)
  rw [he] at hC
  obtain ⟨hT, hok⟩ := hf [] i ⟨by simp, by simp, hpl⟩
  have hA := hok.err (by rw [hE]; simpa using hE0)
  rw [hA, hE] at hT
  have e1 : ((i :: p).map ifDV).getD 0 default = ifDV i := rfl
  have hz : decide ((0 : Int) > 60 - ((i :: p).length : Int)) = false := by simp at hp ⊢; omega
  have hz2 : (0 : Int) < ((i :: p).length : Int) := by rw [List.length_cons]; omega
  have e0 : ((0 : Nat) : Int) = 0 := rfl
  generalize i :: p = P at *
  refine tri_enter Try.func25 rfl Try.ntmps25 (by simp only [List.length_cons, List.length_nil]; omega) fun w0 h0 k hrd hwr => ?_
  repeat' (first | refine awp_seq_k fun K hK => ?_ | ((first | refine aK fun R hR => ?_ | refine aD mixed fun R hR => ?_); simp only [go_sem, e0, hz, bne_self_eq_false, List.length_nil, List.map_nil, List.length_map]) | ((first | (refine hR _ ?_; clear hR R) | refine awp_skip ?_ | refine awp_exit ?_ | refine awp_ret ?_); try refine aP ?_) | ((repeat (fail_if_success refine hK _ ?_); clear hK K); refine hK _ ?_; clear hK K) | refine aT ?_ | refine aF ?_ | refine awp_block ?_ | ((first | refine CallK.pure (enter52) (hC) ?_ ?_ | refine CallD.pure (enter52) (hC) ?_ ?_ | refine CallK.pure (enter53) (cloneE_cls) ?_ ?_ | refine CallD.pure (enter53) (cloneE_cls) ?_ ?_); (focus exact aC); simp only [go_sem, e0, hz, bne_self_eq_false, List.length_nil, List.map_nil, List.length_map]) | refine aN ?_ | fail)
  refine awp_loop (fun τ => τ.t 9 = .d (.sl []) ∧ τ.t 31 = .d (.sl (P.map ifDV)) ∧ τ.t 32 = iA P.length ∧ τ.t 33 = iA 0 ∧ Fr k h0 τ.h ∧ k < τ.k) (fun τ => 0) ?_ ?_
  · simp only [go_sem, List.length_nil, List.length_map]
    and_intros; all_goals try (first | rfl | omega | assumption | exact anA)
  · rintro τ ⟨u9, u31, u32, u33, uF, uk⟩
    repeat' (first | refine awp_seq_k fun K hK => ?_ | ((first | refine aK fun R hR => ?_ | refine aD mixed fun R hR => ?_); simp only [go_sem, u9, u31, u32, u33, hz2, e1, hE0, Int.toNat_zero, List.length_map]) | ((first | (refine hR _ ?_; clear hR R) | refine awp_skip ?_ | refine awp_exit ?_ | refine awp_ret ?_); try refine aP ?_) | ((repeat (fail_if_success refine hK _ ?_); clear hK K); refine hK _ ?_; clear hK K) | refine aT ?_ | refine aF ?_ | refine awp_block ?_ | ((first | refine CallK.pure (enter54) (hT) ?_ ?_ | refine CallD.pure (enter54) (hT) ?_ ?_); (focus exact aC); simp only [go_sem, u9, u31, u32, u33, hz2, e1, hE0, Int.toNat_zero, List.length_map]) | refine aN ?_ | fail)
    (first | refine ret_pure ?_ ?_ ?_ | refine ret_ro ?_ ?_ ?_); focus exact (okA Try.ntmps25 Try.results25)
    rotate_left; focus exact frT
    simp only [resA, resV, Try.results25, go_sem]
    all_goals try exact coA
set_option maxHeartbeats 8000000 in
set_option maxRecDepth 20000 in
theorem clauses_run (l : List (List Lt)) (p : List Inf) (he : clsOk g l = 0) (h0l : 0 < l.length) (hlp : l.length + p.length ≤ 60) (hpl : ∀ i ∈ p, i.place.length ≤ 4000000) (A : List (List Lt)) (e : Int) (hA : pfRun f l p = (A, e)) :
    Tri Try.prog 25 [.d (sgDV g), .d (.sl (l.map clDV)), .d (.sl (p.map ifDV))] (pure' (.tup [.d (.sl (A.map clDV)), iA e])) := by
  have hok := (clsOk_all he).2.2
  have hC := clCheck_tri g l (by omega) (fun c h => by have := (clOk_all (hok c h)).1; omega)
  rw [he] at hC
  have hz : decide ((l.length : Int) > 60 - (p.length : Int)) = false := by simp; omega
  have hCl := fun n' => cloneO_cls l (by omega) h0l n'
  refine tri_enter Try.func25 rfl Try.ntmps25 (by simp only [List.length_cons, List.length_nil]; omega) fun w0 h0 k hrd hwr => ?_
  refine awp_new fun hnew => ?_
  have hnn : NoNew h0 k := hnew
  have hnn := hnn.at
  repeat' (first | refine awp_seq_k fun K hK => ?_ | ((first | refine aK fun R hR => ?_ | refine aD mixed fun R hR => ?_); simp only [go_sem, hz, hnn, bne_self_eq_false, List.length_map]) | ((first | (refine hR _ ?_; clear hR R) | refine awp_skip ?_ | refine awp_exit ?_ | refine awp_ret ?_); try refine aP ?_) | ((repeat (fail_if_success refine hK _ ?_); clear hK K); refine hK _ ?_; clear hK K) | refine aT ?_ | refine aF ?_ | refine awp_block ?_ | ((first | refine CallK.pure (enter52) (hC) ?_ ?_ | refine CallD.pure (enter52) (hC) ?_ ?_); (focus exact aC); simp only [go_sem, hz, hnn, bne_self_eq_false, List.length_map]) | ((first | refine CallK.new rfl (enter53) (hCl) ?_ ?_ ?_ | refine CallD.new rfl (enter53) (hCl) ?_ ?_ ?_); (focus exact aC); (focus (simp only [go_sem, hz, hnn, bne_self_eq_false, List.length_map]; done)); simp only [go_sem, hz, hnn, bne_self_eq_false, List.length_map]) | refine aN ?_ | fail)
  refine awp_loop (fun τ => ∃ (j : Nat) (L : List (List Lt)), τ.t 9 = .own (k + 1 + 1 + 1 + 1, 1) (L.map clDV) ∧ τ.t 31 = .d (.sl (p.map ifDV)) ∧ τ.t 32 = iA p.length ∧ τ.t 33 = iA j ∧ τ.h (k + 1 + 1 + 1 + 1, 1) = some (.perm 61 L.length) ∧ Fr k h0 τ.h ∧ k + 1 + 1 + 1 + 1 < τ.k ∧ j ≤ p.length ∧
    (∀ c ∈ L, clOk g c = 0) ∧ L.length = l.length + j ∧ pfRun f L (p.drop j) = (A, e)) (fun τ => p.length - (intOf' (τ.t 33)).toNat) ?_ ?_
  · refine ⟨0, l, ?_⟩
    simp only [go_sem, List.length_map]
    and_intros; all_goals try (first | rfl | omega | assumption | exact anA)
  · rintro τ ⟨j, L, u9, u31, u32, u33, um, uF, uk, uj, uok, ul, uv⟩
    have q1 := ltne uk
    rcases Nat.lt_or_ge j p.length with jlt | jge
    · have jz : (j : Int) < (p.length : Int) := by omega
      have e1 : (p.map ifDV).getD j default = ifDV p[j] := nth_map ifDV jlt _
      obtain ⟨hT, hR'⟩ := hf L p[j] ⟨by omega, uok, hpl _ (List.getElem_mem jlt)⟩
      have hE := hR'.err
      have hO := hR'.ok
      clear hR'
      rw [List.drop_eq_getElem_cons jlt, pfRun] at uv
      generalize f L p[j] = B at *
      cases b1 : (B.2 != 0) with
      | true =>
        rw [b1, if_pos rfl] at uv
        have hB1 := hE (by simpa using b1)
        rw [hB1] at hT
        obtain ⟨rfl, rfl⟩ := Prod.mk.inj uv
        repeat' (first | refine awp_seq_k fun K hK => ?_ | ((first | refine aK fun R hR => ?_ | refine aD mixed fun R hR => ?_); simp only [go_sem, u9, u31, u32, u33, um, jz, e1, b1, q1, List.length_map, Int.toNat_natCast]) | ((first | (refine hR _ ?_; clear hR R) | refine awp_skip ?_ | refine awp_exit ?_ | refine awp_ret ?_); try refine aP ?_) | ((repeat (fail_if_success refine hK _ ?_); clear hK K); refine hK _ ?_; clear hK K) | refine aT ?_ | refine aF ?_ | refine awp_block ?_ | ((first | refine CallK.pure (enter54) (hT) ?_ ?_ | refine CallD.pure (enter54) (hT) ?_ ?_); (focus exact aC); simp only [go_sem, u9, u31, u32, u33, um, jz, e1, b1, q1, List.length_map, Int.toNat_natCast]) | refine aN ?_ | fail)
        (first | refine ret_pure ?_ ?_ ?_ | refine ret_ro ?_ ?_ ?_); focus exact (okA Try.ntmps25 Try.results25)
        rotate_left; focus exact frT
        simp only [resA, resV, Try.results25, go_sem]
        all_goals try exact coA
      | false =>
        rw [b1, if_neg (by decide)] at uv
        have b2 : B.2 = 0 := by simpa using b1
        have hB := (hO b2).1
        have eap : L.map clDV ++ [clDV B.1] = (L ++ [B.1]).map clDV := by simp
        have hok2 : ∀ c ∈ L ++ [B.1], clOk g c = 0 := fun c hc => by
          rcases List.mem_append.1 hc with hc | hc
          · exact uok c hc
          · rw [List.mem_singleton.1 hc]; exact hB
        repeat' (first | refine awp_seq_k fun K hK => ?_ | ((first | refine aK fun R hR => ?_ | refine aD mixed fun R hR => ?_); simp only [go_sem, u9, u31, u32, u33, um, jz, e1, b1, q1, List.length_map, Int.toNat_natCast]) | ((first | (refine hR _ ?_; clear hR R) | refine awp_skip ?_ | refine awp_exit ?_ | refine awp_ret ?_); try refine aP ?_) | ((repeat (fail_if_success refine hK _ ?_); clear hK K); refine hK _ ?_; clear hK K) | refine aT ?_ | refine aF ?_ | refine awp_block ?_ | ((first | refine CallK.pure (enter54) (hT) ?_ ?_ | refine CallD.pure (enter54) (hT) ?_ ?_); (focus exact aC); simp only [go_sem, u9, u31, u32, u33, um, jz, e1, b1, q1, List.length_map, Int.toNat_natCast]) | refine aN ?_ | fail)
        refine ⟨⟨j + 1, L ++ [B.1], ?_⟩, ?_⟩
        rotate_left
        · simp only [go_sem, u9, u31, u32, u33, um, q1, eap, List.length_map, List.length_append, List.length_cons, List.length_nil]; omega
        simp only [go_sem, u9, u31, u32, u33, um, q1, eap, List.length_map, List.length_append, List.length_cons, List.length_nil]
        and_intros; all_goals try (first | rfl | omega | assumption | exact anA)
    · have jz : ¬ ((j : Int) < (p.length : Int)) := by omega
      obtain rfl : j = p.length := by omega
      rw [List.drop_length, pfRun] at uv
      obtain ⟨rfl, rfl⟩ := Prod.mk.inj uv
      repeat' (first | (refine awp_ghost (ghost_nil (i := 14) (e := 61) ?_) ?_; (focus (simp only [go_sem, ]; done)); simp only [go_sem]) | refine awp_seq_k fun K hK => ?_ | ((first | refine aK fun R hR => ?_ | refine aD mixed fun R hR => ?_); simp only [go_sem, u9, u31, u32, u33, um, jz, q1, List.length_map]) | ((first | (refine hR _ ?_; clear hR R) | refine awp_skip ?_ | refine awp_exit ?_ | refine awp_ret ?_); try refine aP ?_) | ((repeat (fail_if_success refine hK _ ?_); clear hK K); refine hK _ ?_; clear hK K) | refine aT ?_ | refine aF ?_ | refine awp_block ?_ | refine aN ?_ | fail)
      have hLl : L.length ≤ 60 := by omega
      refine awp_loop (fun σ => ∃ i : Nat, σ.t 14 = .own (τ.k + 1 + 1, 0) ((L.take i).map clDV) ∧ σ.t 51 = .own (k + 1 + 1 + 1 + 1, 1) (L.map clDV) ∧ σ.t 52 = iA L.length ∧ σ.t 53 = iA i ∧ σ.h (τ.k + 1 + 1, 0) = some (.perm 61 (L.take i).length) ∧ Fr k h0 σ.h ∧ τ.k + 1 + 1 < σ.k ∧ i ≤ L.length) (fun σ => L.length - (intOf' (σ.t 53)).toNat) ?_ ?_
      · refine ⟨0, ?_⟩
        simp only [go_sem, List.take_zero, List.map_nil, List.length_nil]
        and_intros; all_goals try (first | rfl | omega | assumption | exact anA)
      · rintro σ ⟨i, s14, s51, s52, s53, sm, sF, sk, si⟩
        have q2 := ltne sk
        have hml : (L.take i).length = i := by rw [List.length_take]; omega
        rcases Nat.lt_or_ge i L.length with ilt | ige
        · have iz : (i : Int) < (L.length : Int) := by omega
          have e2 : (L.map clDV).getD i default = clDV L[i] := nth_map clDV ilt _
          have hli := (clOk_all (uok _ (List.getElem_mem ilt)))
          have hea := each_pure 56 [] (fun t => t) (enter56) L[i] (by omega) (fun x hx => ⟨copied_tri x.a (by have := own_sz (hli.2 x hx).1; omega), copied_tri x.b (by have := own_sz (hli.2 x hx).2; omega)⟩)
          rw [show L[i].map (mapLt fun t => t) = L[i] from by rw [show (mapLt fun t => t) = id from rfl, List.map_id]] at hea
          have eap : (L.take i).map clDV ++ [clDV L[i]] = (L.take (i + 1)).map clDV := by rw [List.take_succ_eq_append_getElem ilt, List.map_append]; rfl
          have hml2 : (L.take (i + 1)).length = i + 1 := by rw [List.length_take]; omega
          repeat' (first | refine awp_seq_k fun K hK => ?_ | ((first | refine aK fun R hR => ?_ | refine aD mixed fun R hR => ?_); simp only [go_sem, s14, s51, s52, s53, sm, iz, e2, q2, hml, List.length_map, Int.toNat_natCast]) | ((first | (refine hR _ ?_; clear hR R) | refine awp_skip ?_ | refine awp_exit ?_ | refine awp_ret ?_); try refine aP ?_) | ((repeat (fail_if_success refine hK _ ?_); clear hK K); refine hK _ ?_; clear hK K) | refine aT ?_ | refine aF ?_ | refine awp_block ?_ | ((first | refine CallK.pure (enter55) (hea) ?_ ?_ | refine CallD.pure (enter55) (hea) ?_ ?_); (focus exact aC); simp only [go_sem, s14, s51, s52, s53, sm, iz, e2, q2, hml, List.length_map, Int.toNat_natCast]) | refine aN ?_ | fail)
          refine ⟨⟨i + 1, ?_⟩, ?_⟩
          rotate_left
          · simp only [go_sem, s14, s51, s52, s53, sm, q2, eap, hml, hml2, List.length_map]; omega
          simp only [go_sem, s14, s51, s52, s53, sm, q2, eap, hml, hml2, List.length_map]
          and_intros; all_goals try (first | rfl | omega | assumption | exact anA)
        · have iz : ¬ ((i : Int) < (L.length : Int)) := by omega
          obtain rfl : i = L.length := by omega
          rw [List.take_length] at s14
          repeat' (first | refine awp_seq_k fun K hK => ?_ | ((first | refine aK fun R hR => ?_ | refine aD mixed fun R hR => ?_); simp only [go_sem, s14, s51, s52, s53, iz]) | ((first | (refine hR _ ?_; clear hR R) | refine awp_skip ?_ | refine awp_exit ?_ | refine awp_ret ?_); try refine aP ?_) | ((repeat (fail_if_success refine hK _ ?_); clear hK K); refine hK _ ?_; clear hK K) | refine aT ?_ | refine aF ?_ | refine awp_block ?_ | refine aN ?_ | fail)
          (first | refine ret_pure ?_ ?_ ?_ | refine ret_ro ?_ ?_ ?_); focus exact (by simp only [Try.results25, resOkL, resOk, Try.ntmps25, List.toList_toArray]; first | decide | (simp only [go_sem, s14]; done) | (simp only [go_sem, s14]; and_intros <;> first | omega | rfl | decide))
          rotate_left; focus exact frT
          simp only [resA, resV, Try.results25, go_sem, s14]
          all_goals try exact coA
end
end Go.Proofs.Ytmeekpinkfpnhab
