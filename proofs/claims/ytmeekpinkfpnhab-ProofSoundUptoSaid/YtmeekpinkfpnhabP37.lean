/- Package proof: Clauses in all cases; Check; superposelaw.proofBegun. FRSTH superposelaw.proofBegun. FRSTH -/
import Derived.Test.YtmeekpinkfpnhabP13
import Derived.Test.YtmeekpinkfpnhabP34
import Derived.Test.YtmeekpinkfpnhabP36
set_option linter.unusedSimpArgs false
set_option linter.unusedSectionVars false
set_option linter.unusedVariables false
set_option linter.unnecessarySimpa false
set_option linter.all false
namespace Go.Proofs.Ytmeekpinkfpnhab
open Go.RowKit
section
variable (g : List Int) (f : List (List Lt) → Inf → List Lt × Int) (hf : RawSpec g f)
include hf
theorem clauses_tri (l : List (List Lt)) (p : List Inf) (hl : l.length ≤ 4000000) (hc : ∀ c ∈ l, c.length ≤ 4000000) (hp : p.length ≤ 4000000) (hpl : ∀ i ∈ p, i.place.length ≤ 4000000) :
    Tri Try.prog 25 [.d (sgDV g), .d (.sl (l.map clDV)), .d (.sl (p.map ifDV))] (pure' (.tup [.d (.sl ((pfAns g f l p).1.map clDV)), iA (pfAns g f l p).2])) := by
  unfold pfAns
  cases h1 : (clsOk g l != 0) with
  | true => rw [if_pos rfl]; exact clauses_err g l p hl hc hp _ rfl h1
  | false =>
    rw [if_neg (by decide)]
    have h1' : clsOk g l = 0 := by simpa using h1
    cases h2 : decide ((l.length : Int) > 60 - (p.length : Int)) with
    | true => rw [if_pos rfl]; exact clauses_many g l p hl hc hp h1' h2
    | false =>
      rw [if_neg (by decide)]
      have h2' : l.length + p.length ≤ 60 := by simp at h2; omega
      rcases Nat.eq_zero_or_pos l.length with h0 | h0
      · obtain rfl : l = [] := List.eq_nil_of_length_eq_zero h0
        cases p with
        | nil => exact clauses_nil g f hf h1'
        | cons i p =>
          have hR' := (hf [] i ⟨by simp, by simp, hpl i (by simp)⟩).2
          have hE0 : (f [] i).2 ≠ 0 := fun e => by
            obtain ⟨_, ⟨n, _, hn⟩, _⟩ := hR'.ok e
            exact absurd hn (Nat.not_lt_zero _)
          rw [pfRun, if_pos (by simpa using hE0)]
          exact clauses_nil2 g f hf h1' i p (by simpa using h2') (hpl i (by simp)) _ rfl (by simpa using hE0)
      · exact clauses_run g f hf l p h1' h0 h2' hpl _ _ rfl
theorem pfRun_ok : ∀ (p : List Inf) (L A : List (List Lt)) (e : Int), L.length + p.length ≤ 60 → (∀ c ∈ L, clOk g c = 0) → (∀ i ∈ p, i.place.length ≤ 4000000) → pfRun f L p = (A, e) →
    (e ≠ 0 → A = []) ∧ (e = 0 → (∀ c ∈ A, clOk g c = 0) ∧ A.length = L.length + p.length ∧ (p ≠ [] → L ≠ []) ∧ ∀ sz tb, mdOk g sz tb = 0 → (∀ c ∈ L, HoldsA sz tb c) → ∀ c ∈ A, HoldsA sz tb c)
  | [], L, A, e, hl, ho, hp, h => by
    rw [pfRun] at h
    obtain ⟨rfl, rfl⟩ := Prod.mk.inj h
    exact ⟨fun h => absurd rfl h, fun _ => ⟨ho, rfl, fun h => absurd rfl h, fun _ _ _ h => h⟩⟩
  | i :: p, L, A, e, hl, ho, hp, h => by
    have hR' := (hf L i ⟨by simp at hl; omega, ho, hp i (by simp)⟩).2
    rw [pfRun] at h
    generalize f L i = B at *
    cases b1 : (B.2 != 0) with
    | true =>
      rw [b1, if_pos rfl] at h
      obtain ⟨rfl, rfl⟩ := Prod.mk.inj h
      exact ⟨fun _ => rfl, fun h => by rw [h] at b1; cases b1⟩
    | false =>
      rw [b1, if_neg (by decide)] at h
      have b2 : B.2 = 0 := by simpa using b1
      obtain ⟨k1, ⟨n, hn, hn'⟩, k3⟩ := hR'.ok b2
      have ho2 : ∀ c ∈ L ++ [B.1], clOk g c = 0 := fun c hc => by
        rcases List.mem_append.1 hc with hc | hc
        · exact ho c hc
        · rw [List.mem_singleton.1 hc]; exact k1
      obtain ⟨j1, j2⟩ := pfRun_ok p (L ++ [B.1]) A e (by simp at hl ⊢; omega) ho2 (fun x hx => hp x (by simp [hx])) h
      refine ⟨j1, fun he => ?_⟩
      obtain ⟨q1, q2, _, q4⟩ := j2 he
      refine ⟨q1, by rw [q2]; simp; omega, fun _ e => by subst e; exact absurd hn' (Nat.not_lt_zero _), fun sz tb hm hh => q4 sz tb hm fun c hc => ?_⟩
      rcases List.mem_append.1 hc with hc | hc
      · exact hh c hc
      · rw [List.mem_singleton.1 hc]
        refine hR'.holds b2 sz tb hm (by rw [hn, clAt_nat hn']; exact hh _ (List.getElem_mem hn')) fun h3 => ?_
        obtain ⟨m, hm1, hm2⟩ := k3 h3
        rw [hm1, clAt_nat hm2]; exact hh _ (List.getElem_mem hm2)
def chkAns (g : List Int) (f : List (List Lt) → Inf → List Lt × Int) (l : List (List Lt)) (p : List Inf) : Bool × Int :=
  if ((pfAns g f l p).2 != 0) = true then (false, (pfAns g f l p).2) else (decide ((p.length : Int) > 0) && decide (((pfAns g f l p).1.getLastD []).length = 0), 0)
theorem pfAns_ok (l : List (List Lt)) (p : List Inf) (hpl : ∀ i ∈ p, i.place.length ≤ 4000000) : ((pfAns g f l p).2 ≠ 0 → (pfAns g f l p).1 = []) ∧ ((pfAns g f l p).2 = 0 → clsOk g l = 0 ∧ (∀ c ∈ (pfAns g f l p).1, clOk g c = 0) ∧ (pfAns g f l p).1.length = l.length + p.length ∧ l.length + p.length ≤ 60 ∧ (p ≠ [] → l ≠ []) ∧ ∀ sz tb, mdOk g sz tb = 0 → (∀ c ∈ l, HoldsA sz tb c) → ∀ c ∈ (pfAns g f l p).1, HoldsA sz tb c) := by
  unfold pfAns
  cases h1 : (clsOk g l != 0) with
  | true => rw [if_pos rfl]; exact ⟨fun _ => rfl, fun h => by simp only at h; rw [h] at h1; cases h1⟩
  | false =>
    rw [if_neg (by decide)]
    have h1' : clsOk g l = 0 := by simpa using h1
    cases h2 : decide ((l.length : Int) > 60 - (p.length : Int)) with
    | true => rw [if_pos rfl]; exact ⟨fun _ => rfl, fun h => absurd h (by decide)⟩
    | false =>
      rw [if_neg (by decide)]
      have h2' : l.length + p.length ≤ 60 := by simp at h2; omega
      obtain ⟨j1, j2⟩ := pfRun_ok g f hf p l _ _ h2' (clsOk_all h1').2.2 hpl rfl
      exact ⟨j1, fun h => let ⟨a, b, c, d⟩ := j2 h; ⟨h1', a, b, h2', c, d⟩⟩
set_option maxHeartbeats 2000000 in
set_option maxRecDepth 20000 in
theorem check_tri (l : List (List Lt)) (p : List Inf) (hl : l.length ≤ 4000000) (hc : ∀ c ∈ l, c.length ≤ 4000000) (hp : p.length ≤ 4000000) (hpl : ∀ i ∈ p, i.place.length ≤ 4000000) :
    Tri Try.prog 26 [.d (sgDV g), .d (.sl (l.map clDV)), .d (.sl (p.map ifDV))] (pure' (.tup [bA (chkAns g f l p).1, iA (chkAns g f l p).2])) := by
  have hT := clauses_tri g f hf l p hl hc hp hpl
  have hO := (pfAns_ok g f hf l p hpl).2
  unfold chkAns
  generalize pfAns g f l p = B at *
  cases b1 : (B.2 != 0) with
  | true =>
    rw [if_pos rfl]
    refine tri_enter Try.func26 rfl Try.ntmps26 (by simp only [List.length_cons, List.length_nil]; omega) fun w0 h0 k hrd hwr => ?_
    repeat' (first | refine awp_seq_k fun K hK => ?_ | ((first | refine aK fun R hR => ?_ | refine aD mixed fun R hR => ?_); simp only [go_sem, b1]) | ((first | (refine hR _ ?_; clear hR R) | refine awp_skip ?_ | refine awp_exit ?_ | refine awp_ret ?_); try refine aP ?_) | ((repeat (fail_if_success refine hK _ ?_); clear hK K); refine hK _ ?_; clear hK K) | refine aT ?_ | refine aF ?_ | refine awp_block ?_ | ((first | refine CallK.pure (enter25) (hT) ?_ ?_ | refine CallD.pure (enter25) (hT) ?_ ?_); (focus exact aC); simp only [go_sem, b1]) | refine aN ?_ | fail)
    (first | refine ret_pure ?_ ?_ ?_ | refine ret_ro ?_ ?_ ?_); focus exact (okA Try.ntmps26 Try.results26)
    rotate_left; focus exact frT
    simp only [resA, resV, Try.results26, go_sem]
    all_goals try exact coA
    all_goals exact .t2 (.dat rfl) (.dat rfl)
  | false =>
    rw [if_neg (by decide)]
    obtain ⟨_, _, hlen, _, hne, _⟩ := hO (by simpa using b1)
    cases c1 : decide ((p.length : Int) > 0) with
    | false =>
      refine tri_enter Try.func26 rfl Try.ntmps26 (by simp only [List.length_cons, List.length_nil]; omega) fun w0 h0 k hrd hwr => ?_
      repeat' (first | refine awp_seq_k fun K hK => ?_ | ((first | refine aK fun R hR => ?_ | refine aD mixed fun R hR => ?_); simp only [go_sem, b1, c1, List.length_map]) | ((first | (refine hR _ ?_; clear hR R) | refine awp_skip ?_ | refine awp_exit ?_ | refine awp_ret ?_); try refine aP ?_) | ((repeat (fail_if_success refine hK _ ?_); clear hK K); refine hK _ ?_; clear hK K) | refine aT ?_ | refine aF ?_ | refine awp_block ?_ | ((first | refine CallK.pure (enter25) (hT) ?_ ?_ | refine CallD.pure (enter25) (hT) ?_ ?_); (focus exact aC); simp only [go_sem, b1, c1, List.length_map]) | refine aN ?_ | fail)
      (first | refine ret_pure ?_ ?_ ?_ | refine ret_ro ?_ ?_ ?_); focus exact (okA Try.ntmps26 Try.results26)
      rotate_left; focus exact frT
      simp only [resA, resV, Try.results26, go_sem]
      all_goals try exact coA
      all_goals exact .t2 (.dat rfl) (.dat rfl)
    | true =>
      have hpos : 0 < B.1.length := by simp at c1; omega
      have hz : (B.1.length : Int) - 1 < (B.1.length : Int) := by omega
      have hz0 : (0 : Int) ≤ (B.1.length : Int) - 1 := by omega
      have et : ((B.1.length : Int) - 1).toNat = B.1.length - 1 := by omega
      have e1 : (B.1.map clDV).getD (B.1.length - 1) default = clDV (B.1.getLastD []) := by
        rw [nth_map clDV (show B.1.length - 1 < B.1.length by omega)]
        congr 1
        rw [List.getLastD_eq_getLast?, List.getLast?_eq_getElem?, List.getElem?_eq_getElem (by omega)]; rfl
      have e2 : ∀ n : Nat, ((n : Int) == 0) = decide (n = 0) := fun n => by rw [Bool.eq_iff_iff, beq_iff_eq, decide_eq_true_iff]; omega
      generalize B.1.getLastD [] = D at *
      refine tri_enter Try.func26 rfl Try.ntmps26 (by simp only [List.length_cons, List.length_nil]; omega) fun w0 h0 k hrd hwr => ?_
      repeat' (first | refine awp_seq_k fun K hK => ?_ | ((first | refine aK fun R hR => ?_ | refine aD mixed fun R hR => ?_); simp only [go_sem, b1, c1, hz, hz0, et, e1, e2, Bool.true_and, List.length_map]) | ((first | (refine hR _ ?_; clear hR R) | refine awp_skip ?_ | refine awp_exit ?_ | refine awp_ret ?_); try refine aP ?_) | ((repeat (fail_if_success refine hK _ ?_); clear hK K); refine hK _ ?_; clear hK K) | refine aT ?_ | refine aF ?_ | refine awp_block ?_ | ((first | refine CallK.pure (enter25) (hT) ?_ ?_ | refine CallD.pure (enter25) (hT) ?_ ?_); (focus exact aC); simp only [go_sem, b1, c1, hz, hz0, et, e1, e2, Bool.true_and, List.length_map]) | refine aN ?_ | fail)
      (first | refine ret_pure ?_ ?_ ?_ | refine ret_ro ?_ ?_ ?_); focus exact (okA Try.ntmps26 Try.results26)
      rotate_left; focus exact frT
      simp only [resA, resV, Try.results26, go_sem]
      all_goals try exact coA
      all_goals exact .t2 (.dat rfl) (.dat rfl)
end
def pb0 : Tm := .mk 0 0 []
def pbC : List Lt := [⟨false, pb0, pb0⟩]
def pbI : Inf := ⟨1, 0, 0, 0, 0, false, false, []⟩
theorem pb_both (n' : Nm) : Tri Try.prog 113 [.d (tmDV pb0), .d (tmDV pb0)] (bagE n' (bsE []) (.tup [.map n', iA 0])) :=
  ifBothT_tri pb0 pb0 (bsE []) (fun n' => bothT_tri 2 pb0 pb0 [] rfl (by simp) (fun _ => 1) KnOk (fun p hp => (by cases hp)) (fun _ h => h) (fun kn h => ⟨kn, h, rfl⟩) (fun p hp => (by cases hp)) (by simp) (fun p hp => (by cases hp)) 1 (fun p hp => (by cases hp)) rfl n') n'
theorem pb_bnd : Bnd [0, 1] [] := ⟨by simp, by simp, by simp⟩
set_option maxHeartbeats 2000000 in
set_option maxRecDepth 20000 in
theorem pb_same : Tri Try.prog 91 [.d (clDV pbC), .d (ifDV pbI)] (pure' (.tup [.d (clDV []), iA 0])) := by
  have hM := made_any pb_bnd (c := []) (fun l hl => by cases hl) (by simp) (fun t ht => by cases ht)
  have eA : ifMadeAns [] [] = ([], 0) := rfl
  rw [eA] at hM
  have hW := fun n' => without_new pbC (i := 0) (by decide) (by decide) n'
  have e1 : (pbC.map ltDV).getD 0 default = ltDV ⟨false, pb0, pb0⟩ := rfl
  have hz : (0 : Int) < (pbC.length : Int) := by decide
  have eW : pbC.eraseIdx 0 = [] := rfl
  rw [eW] at hW
  refine tri_enter Try.func91 rfl Try.ntmps91 (by simp only [List.length_cons, List.length_nil]; omega) fun w0 h0 k hrd hwr => ?_
  refine awp_new fun hnew => ?_
  have hnn : NoNew h0 k := hnew
  have hnn := hnn.at
  have hB := pb_both (k + 1 + 1 + 1, 4)
  repeat' (first | (refine awp_bag (x := (k + 1 + 1 + 1, 4)) (es := bsE []) ?_ fun es' hp => ?_; (focus (simp only [go_sem, ]; done)); obtain ⟨bs', e', hp'⟩ := bag_perm hp; subst e'; simp only [go_sem]) | refine awp_seq_k fun K hK => ?_ | ((first | refine aK fun R hR => ?_ | refine aD mixed fun R hR => ?_); simp only [go_sem, hnn, hz, e1, pbI, List.length_map, Int.toNat_natCast, Int.toNat_zero, bne_self_eq_false]) | ((first | (refine hR _ ?_; clear hR R) | refine awp_skip ?_ | refine awp_exit ?_ | refine awp_ret ?_); try refine aP ?_) | ((repeat (fail_if_success refine hK _ ?_); clear hK K); refine hK _ ?_; clear hK K) | refine aT ?_ | refine aF ?_ | refine awp_block ?_ | ((first | refine CallK.look (enter114) ((hM bs' hp' (k + 1 + 1 + 1, 4))) ?_ (mapRo (k := k + 1 + 1 + 1 + 1 + 1) _ (by simp only; omega) (by simp only [go_sem, ])) (Fr.rfl' _ _) ?_ | refine CallD.look (enter114) ((hM bs' hp' (k + 1 + 1 + 1, 4))) ?_ (mapRo (k := k + 1 + 1 + 1 + 1 + 1) _ (by simp only; omega) (by simp only [go_sem, ])) (Fr.rfl' _ _) (by first | assumption | exact List.cons_ne_nil _ _) ?_); (focus exact aC); simp only [go_sem, hnn, hz, e1, pbI, List.length_map, Int.toNat_natCast, Int.toNat_zero, bne_self_eq_false]) | ((first | refine CallK.new rfl (enter115) (hW) ?_ ?_ ?_ | refine CallD.new rfl (enter115) (hW) ?_ ?_ ?_); (focus exact aC); (focus (simp only [go_sem, hnn, hz, e1, pbI, List.length_map, Int.toNat_natCast, Int.toNat_zero, bne_self_eq_false]; done)); simp only [go_sem, hnn, hz, e1, pbI, List.length_map, Int.toNat_natCast, Int.toNat_zero, bne_self_eq_false]) | ((first | refine CallK.eff (enter113) (hB) ?_ ?_ ?_ ?_ | refine CallD.eff (enter113) (hB) ?_ ?_ ?_ ?_); (focus exact aC); (focus (simp only [go_sem, hnn, hz, e1, pbI, List.length_map, Int.toNat_natCast, Int.toNat_zero, bne_self_eq_false]; done)); (focus (simp only [go_sem, hnn, hz, e1, pbI, List.length_map, Int.toNat_natCast, Int.toNat_zero, bne_self_eq_false]; done)); simp only [go_sem, hnn, hz, e1, pbI, List.length_map, Int.toNat_natCast, Int.toNat_zero, bne_self_eq_false]) | refine aN ?_ | fail)
  (first | refine ret_pure ?_ ?_ ?_ | refine ret_ro ?_ ?_ ?_); focus exact (okA Try.ntmps91 Try.results91)
  rotate_left; focus exact frT
  simp only [resA, resV, Try.results91, go_sem]
  all_goals try exact coA
set_option maxHeartbeats 2000000 in
set_option maxRecDepth 20000 in
theorem pb_raw : Tri Try.prog 54 [.d (.sl ([pbC].map clDV)), .d (ifDV pbI)] (pure' (.tup [.d (clDV []), iA 0])) := by
  have hN := named_tri [pbC] pbI (by decide) (by decide) (by decide) (by decide)
  have hO := nothing_tri pbI
  rw [show namedB [pbC] pbI = true from rfl] at hN
  rw [show nothingB pbI = true from rfl] at hO
  have hS := pb_same
  have e1 : ([pbC].map clDV).getD 0 default = clDV pbC := rfl
  have hz : (0 : Int) < (([pbC].map clDV).length : Int) := by decide
  have a1 : decide ((1 : Int) < 1) = false := rfl
  have a2 : decide ((1 : Int) > 3) = false := rfl
  have k1 : ((1 : Int) == 1) = true := rfl
  refine tri_enter Try.func54 rfl Try.ntmps54 (by simp only [List.length_cons, List.length_nil]; omega) fun w0 h0 k hrd hwr => ?_
  repeat' (first | refine awp_seq_k fun K hK => ?_ | ((first | refine aK fun R hR => ?_ | refine aD mixed fun R hR => ?_); simp only [go_sem, hz, e1, pbI, a1, a2, k1, Int.toNat_zero, beq_self_eq_true]) | ((first | (refine hR _ ?_; clear hR R) | refine awp_skip ?_ | refine awp_exit ?_ | refine awp_ret ?_); try refine aP ?_) | ((repeat (fail_if_success refine hK _ ?_); clear hK K); refine hK _ ?_; clear hK K) | refine aT ?_ | refine aF ?_ | refine awp_block ?_ | ((first | refine CallK.pure (enter89) (hN) ?_ ?_ | refine CallD.pure (enter89) (hN) ?_ ?_ | refine CallK.pure (enter90) (hO) ?_ ?_ | refine CallD.pure (enter90) (hO) ?_ ?_ | refine CallK.pure (enter91) (hS) ?_ ?_ | refine CallD.pure (enter91) (hS) ?_ ?_); (focus exact aC); simp only [go_sem, hz, e1, pbI, a1, a2, k1, Int.toNat_zero, beq_self_eq_true]) | refine aN ?_ | fail)
  (first | refine ret_pure ?_ ?_ ?_ | refine ret_ro ?_ ?_ ?_); focus exact (okA Try.ntmps54 Try.results54)
  rotate_left; focus exact frT
  simp only [resA, resV, Try.results54, go_sem]
  all_goals try exact coA
theorem pb_ok : RawOk [0, 1] [pbC] pbI ([], 0) :=
  ⟨fun _ => rfl, fun _ => ⟨rfl, ⟨0, rfl, by decide⟩, fun h => absurd h (by decide)⟩, fun _ sz tb hm h1 _ => by
    intro vs hvs
    obtain ⟨l, hl, hh⟩ := h1 vs hvs
    obtain rfl : l = ⟨false, pb0, pb0⟩ := by simpa [clAt, pbC, pbI] using hl
    simp [litIn] at hh⟩
theorem raw_fun0 : ∃ f, RawSpec [0, 1] f ∧ f [pbC] pbI = ([], 0) := by
  obtain ⟨f, hf⟩ := raw_fun [0, 1]
  classical
  refine ⟨fun L i => if L = [pbC] ∧ i = pbI then ([], 0) else f L i, fun L i hp => ?_, if_pos ⟨rfl, rfl⟩⟩
  dsimp only
  by_cases h : L = [pbC] ∧ i = pbI
  · rw [if_pos h]
    obtain ⟨rfl, rfl⟩ := h
    exact ⟨pb_raw, pb_ok⟩
  · rw [if_neg h]; exact hf L i hp
set_option maxHeartbeats 2000000 in
set_option maxRecDepth 20000 in
theorem proofBegun_tri : Tri Try.prog 23 [] (pure' (bA true)) := by
  obtain ⟨f, hf, hf0⟩ := raw_fun0
  have hC : clsOk [0, 1] [pbC] = 0 := by decide
  have e1 : pfAns [0, 1] f [pbC] [pbI] = ([pbC, []], 0) := by
    unfold pfAns
    rw [hC, if_neg (by decide), if_neg (by decide), pfRun, hf0, if_neg (by decide), pfRun]; rfl
  have e2 : pfAns [0, 1] f [pbC] [] = ([pbC], 0) := by
    unfold pfAns
    rw [hC, if_neg (by decide), if_neg (by decide), pfRun]
  have e3 : chkAns [0, 1] f [pbC] [pbI] = (true, 0) := by unfold chkAns; rw [e1]; rfl
  have v1 := check_tri [0, 1] f hf [pbC] [pbI] (by decide) (by decide) (by decide) (by decide)
  have v2 := clauses_tri [0, 1] f hf [pbC] [] (by decide) (by decide) (by decide) (by decide)
  rw [e3] at v1
  rw [e2] at v2
  have v3 := fn_tri 0 []
  refine tri_enter Try.func23 rfl Try.ntmps23 (by simp only [List.length_cons, List.length_nil]; omega) fun w0 h0 k hrd hwr => ?_
  repeat' (first | refine awp_seq_k fun K hK => ?_ | ((first | refine aK fun R hR => ?_ | refine aD mixed fun R hR => ?_); simp only [go_sem, beq_self_eq_true, List.length_map, List.length_cons, List.length_nil]) | ((first | (refine hR _ ?_; clear hR R) | refine awp_skip ?_ | refine awp_exit ?_ | refine awp_ret ?_); try refine aP ?_) | ((repeat (fail_if_success refine hK _ ?_); clear hK K); refine hK _ ?_; clear hK K) | refine aT ?_ | refine aF ?_ | refine awp_block ?_ | ((first | refine CallK.pure (enter40) (small_tri) ?_ ?_ | refine CallD.pure (enter40) (small_tri) ?_ ?_ | refine CallK.pure (enter41) (v3) ?_ ?_ | refine CallD.pure (enter41) (v3) ?_ ?_ | refine CallK.pure (enter26) (v1) ?_ ?_ | refine CallD.pure (enter26) (v1) ?_ ?_ | refine CallK.pure (enter25) (v2) ?_ ?_ | refine CallD.pure (enter25) (v2) ?_ ?_); (focus exact aC); simp only [go_sem, beq_self_eq_true, List.length_map, List.length_cons, List.length_nil]) | refine aN ?_ | fail)
  (first | refine ret_pure ?_ ?_ ?_ | refine ret_ro ?_ ?_ ?_); focus exact (okA Try.ntmps23 Try.results23)
  rotate_left; focus exact frT
  simp only [resA, resV, Try.results23, go_sem]
  all_goals try exact coA
  all_goals exact .dat rfl
end Go.Proofs.Ytmeekpinkfpnhab
