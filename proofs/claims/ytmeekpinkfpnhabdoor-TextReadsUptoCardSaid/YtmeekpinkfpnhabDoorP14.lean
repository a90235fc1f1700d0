/- The document's reader of numbers. -/
import Derived.Test.YtmeekpinkfpnhabDoorP07
import Derived.Test.YtmeekpinkfpnhabDoorP08
import Derived.Test.YtmeekpinkfpnhabDoorP13
set_option linter.all false
namespace Go.Proofs.YtmeekpinkfpnhabDoor
open Go.RowKit
def naAns (l : By) (i : Nat) : Int × Nat := match rdN l i with | some (n, j) => (n, j) | none => (-1, i + min 9 (dgAt l i).length)
theorem naAns_bad {l : By} {i : Nat} (h : badN (dgAt l i) = true) : naAns l i = (-1, i + min 9 (dgAt l i).length) := by
 unfold naAns
 rw [rdN_eq, if_pos h]
theorem naAns_ok {l : By} {i : Nat} (h : badN (dgAt l i) = false) : naAns l i = (((dvF 0 (dgAt l i) : Nat) : Int), i + (dgAt l i).length) := by
 unfold naAns
 rw [rdN_eq, if_neg (by simp [h])]
set_option maxHeartbeats 4000000 in
set_option maxRecDepth 20000 in
theorem na_tail {w0 : GW} {N : Nat} {c : Code} (hN : (Tryd.f53).ntmps = N) (hc : bodyAt (Tryd.f53) [true,true,true] = some c) {σ : St} {l : By} {i j k : Nat} {h0 : Heap} (hl : l.length ≤ 4000000) (hj : j = (dgAt l i).length) (hij : i + j ≤ l.length) (h9 : j ≤ 9) (s0 : σ.t 0 = sA l) (s1 : σ.t 1 = iA (i + j : Nat)) (s6 : σ.t 6 = iA (dvF 0 (dgAt l i))) (s7 : σ.t 7 = iA i) (hF : Fr k h0 σ.h) (hk : k ≤ σ.k) :
  awp Tryd.prog w0 N c (retQ Tryd.prog Tryd.f53 (pure' (.tup [iA (naAns l i).1, iA (naAns l i).2])) h0 k) σ := by
 obtain rfl := (Tryd.ntmps53).symm.trans hN; obtain rfl := Option.some.inj (show some _ = some c from hc); clear hN hc
 rcases Nat.eq_zero_or_pos j with h0' | hpos
 ·subst h0'
  have hb : badN (dgAt l i) = true := by simp [badN, ← hj]
  rw [naAns_bad hb, ← hj, show i + min 9 0 = i by simp]
  repeat' (first | refine awp_seq_k fun K hK => ?_ | ((first | refine awp_region_k (by kernel_rfl) fun R hR => ?_ | refine awp_draw mixed (by kernel_rfl) (by kernel_rfl) fun R hR => ?_); simp only [go_sem, s0, s1, s6, s7, Nat.add_zero, beq_self_eq_true]) | ((first | (refine hR _ ?_; clear hR R) | refine awp_skip ?_ | refine awp_exit ?_ | refine awp_ret ?_); try simp only [thenA, inBlockA, reduceIte, reduceCtorEq, Nat.reduceEqDiff, if_false, if_true]) | ((first | refine hK _ ?_ | (clear hK K; first | refine hK _ ?_ | (clear hK K; first | refine hK _ ?_ | (clear hK K; first | refine hK _ ?_ | (clear hK K; refine hK _ ?_))))); clear hK K) | refine awp_true rfl rfl ?_ | refine awp_false rfl rfl ?_ | refine awp_block ?_ | refine And.intro (by first | ((repeat' first | omega | exact trivial | rfl | assumption | (intro a e; subst e; rfl) | exact map_sz fun a => (by simp only [go_sem]) | refine And.intro ?_ ?_); done) | fail) ?_ | fail)
  (first | refine ret_pure ?_ ?_ ?_ | refine ret_ro ?_ ?_ ?_); focus exact (by simp only [Tryd.results53, resOkL, resOk, Tryd.ntmps53, List.toList_toArray]; first | decide | (simp only [go_sem, s1, Nat.add_zero]; done) | (simp only [go_sem, s1, Nat.add_zero]; and_intros <;> first | omega | rfl | decide))
  rotate_left; focus exact (by repeat (first | exact Fr.rfl' _ _ | assumption | refine Fr.updk ?_ (by omega) _))
  simp only [resA, resV, Tryd.results53, go_sem, s1, Nat.add_zero]
  all_goals try (first | exact Co.t2 (.dat rfl) (.dat rfl) | exact Co.t3 (.dat rfl) (.dat rfl) (.dat rfl))
 ·have e1 : (((i + j : Nat) : Int) == (i : Int)) = false := by simp; omega
  rcases Nat.lt_or_ge 1 j with h1 | h1
  ·have e2 : decide (((i + j : Nat) : Int) > (i : Int) + 1) = true := by simp; omega
   obtain ⟨c, hc, hdc⟩ := dgAt_in (l := l) (i := i) (j := 0) (by omega)
   rw [Nat.add_zero] at hc
   have hc2 := byteAt_bs hc
   have hhd : (dgAt l i).head? = some c := by
    have e : (dgAt l i)[0]? = (l.drop i)[0]? := by
     rw [← dgAt_take l i, List.getElem?_take_of_lt (by omega)]
    rw [List.getElem?_drop, Nat.add_zero, hc] at e
    rw [List.head?_eq_getElem?]; exact e
   have hi1 : (i : Int) < (l.length : Int) := by omega
   cases h48 : ((c.toNat : Int) == 48) with
   | true =>
    have h48' : c.toNat = 48 := by simp at h48; omega
    have ec : c = 48 := by rw [← UInt8.ofNat_toNat (x := c), h48']; rfl
    have hb : badN (dgAt l i) = true := by
     unfold badN
     rw [hhd, ec, ← hj]
     simp; omega
    rw [naAns_bad hb, ← hj, show min 9 j = j by omega]
    repeat' (first | refine awp_seq_k fun K hK => ?_ | ((first | refine awp_region_k (by kernel_rfl) fun R hR => ?_ | refine awp_draw mixed (by kernel_rfl) (by kernel_rfl) fun R hR => ?_); simp only [go_sem, s0, s1, s6, s7, e1, e2, hc2, h48, Int.toNat_natCast]) | ((first | (refine hR _ ?_; clear hR R) | refine awp_skip ?_ | refine awp_exit ?_ | refine awp_ret ?_); try simp only [thenA, inBlockA, reduceIte, reduceCtorEq, Nat.reduceEqDiff, if_false, if_true]) | ((first | refine hK _ ?_ | (clear hK K; first | refine hK _ ?_ | (clear hK K; first | refine hK _ ?_ | (clear hK K; first | refine hK _ ?_ | (clear hK K; refine hK _ ?_))))); clear hK K) | refine awp_true rfl rfl ?_ | refine awp_false rfl rfl ?_ | refine awp_block ?_ | refine And.intro (by first | ((repeat' first | omega | exact trivial | rfl | assumption | (intro a e; subst e; rfl) | exact map_sz fun a => (by simp only [go_sem]) | refine And.intro ?_ ?_); done) | fail) ?_ | fail)
    (first | refine ret_pure ?_ ?_ ?_ | refine ret_ro ?_ ?_ ?_); focus exact (by simp only [Tryd.results53, resOkL, resOk, Tryd.ntmps53, List.toList_toArray]; first | decide | (simp only [go_sem, s1]; done) | (simp only [go_sem, s1]; and_intros <;> first | omega | rfl | decide))
    rotate_left; focus exact (by repeat (first | exact Fr.rfl' _ _ | assumption | refine Fr.updk ?_ (by omega) _))
    simp only [resA, resV, Tryd.results53, go_sem, s1]
    all_goals try (first | exact Co.t2 (.dat rfl) (.dat rfl) | exact Co.t3 (.dat rfl) (.dat rfl) (.dat rfl))
   | false =>
    have h48' : c ≠ 48 := by rintro rfl; simp at h48
    have hb : badN (dgAt l i) = false := by
     unfold badN
     rw [hhd, ← hj]
     simp [h48']; omega
    rw [naAns_ok hb, ← hj]
    repeat' (first | refine awp_seq_k fun K hK => ?_ | ((first | refine awp_region_k (by kernel_rfl) fun R hR => ?_ | refine awp_draw mixed (by kernel_rfl) (by kernel_rfl) fun R hR => ?_); simp only [go_sem, s0, s1, s6, s7, e1, e2, hc2, h48, Int.toNat_natCast]) | ((first | (refine hR _ ?_; clear hR R) | refine awp_skip ?_ | refine awp_exit ?_ | refine awp_ret ?_); try simp only [thenA, inBlockA, reduceIte, reduceCtorEq, Nat.reduceEqDiff, if_false, if_true]) | ((first | refine hK _ ?_ | (clear hK K; first | refine hK _ ?_ | (clear hK K; first | refine hK _ ?_ | (clear hK K; first | refine hK _ ?_ | (clear hK K; refine hK _ ?_))))); clear hK K) | refine awp_true rfl rfl ?_ | refine awp_false rfl rfl ?_ | refine awp_block ?_ | refine And.intro (by first | ((repeat' first | omega | exact trivial | rfl | assumption | (intro a e; subst e; rfl) | exact map_sz fun a => (by simp only [go_sem]) | refine And.intro ?_ ?_); done) | fail) ?_ | fail)
    (first | refine ret_pure ?_ ?_ ?_ | refine ret_ro ?_ ?_ ?_); focus exact (by simp only [Tryd.results53, resOkL, resOk, Tryd.ntmps53, List.toList_toArray]; first | decide | (simp only [go_sem, s1, s6]; done) | (simp only [go_sem, s1, s6]; and_intros <;> first | omega | rfl | decide))
    rotate_left; focus exact (by repeat (first | exact Fr.rfl' _ _ | assumption | refine Fr.updk ?_ (by omega) _))
    simp only [resA, resV, Tryd.results53, go_sem, s1, s6]
    all_goals try (first | exact Co.t2 (.dat rfl) (.dat rfl) | exact Co.t3 (.dat rfl) (.dat rfl) (.dat rfl))
  ·have e2 : decide (((i + j : Nat) : Int) > (i : Int) + 1) = false := by simp; omega
   have hb : badN (dgAt l i) = false := by
    unfold badN
    rw [← hj]
    simp; omega
   rw [naAns_ok hb, ← hj]
   repeat' (first | refine awp_seq_k fun K hK => ?_ | ((first | refine awp_region_k (by kernel_rfl) fun R hR => ?_ | refine awp_draw mixed (by kernel_rfl) (by kernel_rfl) fun R hR => ?_); simp only [go_sem, s0, s1, s6, s7, e1, e2]) | ((first | (refine hR _ ?_; clear hR R) | refine awp_skip ?_ | refine awp_exit ?_ | refine awp_ret ?_); try simp only [thenA, inBlockA, reduceIte, reduceCtorEq, Nat.reduceEqDiff, if_false, if_true]) | ((first | refine hK _ ?_ | (clear hK K; first | refine hK _ ?_ | (clear hK K; first | refine hK _ ?_ | (clear hK K; first | refine hK _ ?_ | (clear hK K; refine hK _ ?_))))); clear hK K) | refine awp_true rfl rfl ?_ | refine awp_false rfl rfl ?_ | refine awp_block ?_ | refine And.intro (by first | ((repeat' first | omega | exact trivial | rfl | assumption | (intro a e; subst e; rfl) | exact map_sz fun a => (by simp only [go_sem]) | refine And.intro ?_ ?_); done) | fail) ?_ | fail)
   (first | refine ret_pure ?_ ?_ ?_ | refine ret_ro ?_ ?_ ?_); focus exact (by simp only [Tryd.results53, resOkL, resOk, Tryd.ntmps53, List.toList_toArray]; first | decide | (simp only [go_sem, s1, s6]; done) | (simp only [go_sem, s1, s6]; and_intros <;> first | omega | rfl | decide))
   rotate_left; focus exact (by repeat (first | exact Fr.rfl' _ _ | assumption | refine Fr.updk ?_ (by omega) _))
   simp only [resA, resV, Tryd.results53, go_sem, s1, s6]
   all_goals try (first | exact Co.t2 (.dat rfl) (.dat rfl) | exact Co.t3 (.dat rfl) (.dat rfl) (.dat rfl))
theorem dv_take {l : By} {i j : Nat} {c : UInt8} (hj : j < (dgAt l i).length) (hc : l[i + j]? = some c) : dvF 0 ((dgAt l i).take (j + 1)) = dvF 0 ((dgAt l i).take j) * 10 + (c.toNat - 48) := by
 have e : (dgAt l i)[j]? = some c := by
  rw [← dgAt_take l i, List.getElem?_take_of_lt hj, List.getElem?_drop]; exact hc
 rw [List.take_add_one, e]
 exact dvF_app _ _ _
theorem dv_take_lt (l : By) (i j : Nat) (h : j ≤ 9) : dvF 0 ((dgAt l i).take j) < 1000000000 := by
 have h1 := dvF_lt (ds := (dgAt l i).take j) fun b hb => dgAt_dg l i b (List.mem_of_mem_take hb)
 have h2 : 10 ^ ((dgAt l i).take j).length ≤ 10 ^ 9 := Nat.pow_le_pow_right (by omega) (by rw [List.length_take]; omega)
 omega
set_option maxHeartbeats 4000000 in
set_option maxRecDepth 20000 in
theorem numberAt_tri (l : By) (i : Nat) (hl : l.length ≤ 4000000) (hi : i ≤ l.length) : Tri Tryd.prog 53 [sA l, iA i] (pure' (.tup [iA (naAns l i).1, iA (naAns l i).2])) := by
 have hdl := dgAt_len l i
 have hk3 : (Tryd.prog).intKind 3 = .i64 := by rfl
 refine tri_enter Tryd.func53 rfl Tryd.ntmps53 (by simp only [List.length_cons, List.length_nil]; omega) fun w0 h0 k hrd hwr => ?_
 repeat' (first | refine awp_seq_k fun K hK => ?_ | ((first | refine awp_region_k (by kernel_rfl) fun R hR => ?_ | refine awp_draw mixed (by kernel_rfl) (by kernel_rfl) fun R hR => ?_); simp only [go_sem]) | ((first | (refine hR _ ?_; clear hR R) | refine awp_skip ?_ | refine awp_exit ?_ | refine awp_ret ?_); try simp only [thenA, inBlockA, reduceIte, reduceCtorEq, Nat.reduceEqDiff, if_false, if_true]) | ((first | refine hK _ ?_ | (clear hK K; first | refine hK _ ?_ | (clear hK K; first | refine hK _ ?_ | (clear hK K; first | refine hK _ ?_ | (clear hK K; refine hK _ ?_))))); clear hK K) | refine awp_true rfl rfl ?_ | refine awp_false rfl rfl ?_ | refine awp_block ?_ | refine And.intro (by first | ((repeat' first | omega | exact trivial | rfl | assumption | (intro a e; subst e; rfl) | exact map_sz fun a => (by simp only [go_sem]) | refine And.intro ?_ ?_); done) | fail) ?_ | fail)
 refine awp_loop (fun σ => ∃ j : Nat, σ.t 0 = sA l ∧ σ.t 1 = iA (i + j : Nat) ∧ σ.t 6 = iA (dvF 0 ((dgAt l i).take j)) ∧ σ.t 7 = iA i ∧ Fr k h0 σ.h ∧ k ≤ σ.k ∧ j ≤ (dgAt l i).length ∧ j ≤ 9) (fun σ => l.length - (intOf' (σ.t 1)).toNat) ?_ ?_
 ·refine ⟨0, ?_⟩
  simp only [go_sem, Nat.add_zero, List.take_zero, dvF_nil]
  and_intros; all_goals try (first | rfl | omega | assumption | ((repeat (first | exact Fr.rfl' _ _ | assumption | refine Fr.updk ?_ (by omega) _)); done))
 ·rintro σ ⟨j, s0, s1, s6, s7, hF, hk, hj, hj9⟩
  rcases Nat.lt_or_ge j (dgAt l i).length with hlt | hge
  ·obtain ⟨c, hc, hdc⟩ := dgAt_in (l := l) (i := i) (j := j) (by omega)
   have hc2 := byteAt_bs hc
   have hcb := isDg_bounds hdc
   have h19 : decide (((i + j : Nat) : Int) < (l.length : Int)) = true := by simp; omega
   have hi1 : ((i + j : Nat) : Int) < (l.length : Int) := by omega
   have h30 : decide ((c.toNat : Int) ≥ 48) = true := by simp; omega
   have h42 : decide ((c.toNat : Int) ≤ 57) = true := by simp; omega
   have ej : ((i + j : Nat) : Int) - (i : Int) = (j : Int) := by omega
   rcases Nat.lt_or_ge j 9 with h9 | h9
   ·have e9 : decide ((j : Int) ≥ 9) = false := by simp; omega
    have hdv := dv_take_lt l i j hj9
    have e1 : (((i + j : Nat) : Int) + 1) = ((i + (j + 1) : Nat) : Int) := by omega
    have ew : IntKind.i64.wrap (c.toNat : Int) = (c.toNat : Int) := by
     rw [IntKind.wrap_i64]; omega
    have ev : (10 * ((dvF 0 ((dgAt l i).take j) : Nat) : Int) + (c.toNat : Int) - 48) = ((dvF 0 ((dgAt l i).take (j + 1)) : Nat) : Int) := by
     rw [dv_take hlt hc]; omega
    repeat' (first | refine awp_seq_k fun K hK => ?_ | ((first | refine awp_region_k (by kernel_rfl) fun R hR => ?_ | refine awp_draw mixed (by kernel_rfl) (by kernel_rfl) fun R hR => ?_); simp only [go_sem, s0, s1, s6, s7, hc2, h19, h30, h42, ej, e9, e1, ew, ev, hk3, convA, okConv, Tryd.underlying3, Tryd.underlying5, Int.toNat_natCast]) | ((first | (refine hR _ ?_; clear hR R) | refine awp_skip ?_ | refine awp_exit ?_ | refine awp_ret ?_); try simp only [thenA, inBlockA, reduceIte, reduceCtorEq, Nat.reduceEqDiff, if_false, if_true]) | ((first | refine hK _ ?_ | (clear hK K; first | refine hK _ ?_ | (clear hK K; first | refine hK _ ?_ | (clear hK K; first | refine hK _ ?_ | (clear hK K; refine hK _ ?_))))); clear hK K) | refine awp_true rfl rfl ?_ | refine awp_false rfl rfl ?_ | refine awp_block ?_ | refine And.intro (by first | ((repeat' first | omega | exact trivial | rfl | assumption | (intro a e; subst e; rfl) | exact map_sz fun a => (by simp only [go_sem]) | refine And.intro ?_ ?_); done) | fail) ?_ | fail)
    refine ⟨⟨j + 1, ?_⟩, ?_⟩
    rotate_left
    ·simp only [go_sem, s1, Int.toNat_natCast]; omega
    simp only [go_sem, s0, s1, s6, s7]
    and_intros; all_goals try (first | rfl | omega | assumption | ((repeat (first | exact Fr.rfl' _ _ | assumption | refine Fr.updk ?_ (by omega) _)); done))
   ·have e9 : decide ((j : Int) ≥ 9) = true := by simp; omega
    have hj' : j = 9 := by omega
    subst hj'
    have hb : badN (dgAt l i) = true := by simp [badN]; omega
    rw [naAns_bad hb, show min 9 (dgAt l i).length = 9 by omega]
    repeat' (first | refine awp_seq_k fun K hK => ?_ | ((first | refine awp_region_k (by kernel_rfl) fun R hR => ?_ | refine awp_draw mixed (by kernel_rfl) (by kernel_rfl) fun R hR => ?_); simp only [go_sem, s0, s1, s6, s7, hc2, h19, h30, h42, ej, e9, Int.toNat_natCast]) | ((first | (refine hR _ ?_; clear hR R) | refine awp_skip ?_ | refine awp_exit ?_ | refine awp_ret ?_); try simp only [thenA, inBlockA, reduceIte, reduceCtorEq, Nat.reduceEqDiff, if_false, if_true]) | ((first | refine hK _ ?_ | (clear hK K; first | refine hK _ ?_ | (clear hK K; first | refine hK _ ?_ | (clear hK K; first | refine hK _ ?_ | (clear hK K; refine hK _ ?_))))); clear hK K) | refine awp_true rfl rfl ?_ | refine awp_false rfl rfl ?_ | refine awp_block ?_ | refine And.intro (by first | ((repeat' first | omega | exact trivial | rfl | assumption | (intro a e; subst e; rfl) | exact map_sz fun a => (by simp only [go_sem]) | refine And.intro ?_ ?_); done) | fail) ?_ | fail)
    (first | refine ret_pure ?_ ?_ ?_ | refine ret_ro ?_ ?_ ?_); focus exact (by simp only [Tryd.results53, resOkL, resOk, Tryd.ntmps53, List.toList_toArray]; first | decide | (simp only [go_sem, s1]; done) | (simp only [go_sem, s1]; and_intros <;> first | omega | rfl | decide))
    rotate_left; focus exact (by repeat (first | exact Fr.rfl' _ _ | assumption | refine Fr.updk ?_ (by omega) _))
    simp only [resA, resV, Tryd.results53, go_sem, s1]
    all_goals try (first | exact Co.t2 (.dat rfl) (.dat rfl) | exact Co.t3 (.dat rfl) (.dat rfl) (.dat rfl))
  ·have hjn : j = (dgAt l i).length := by omega
   have s6' : σ.t 6 = iA (dvF 0 (dgAt l i)) := by rw [s6, hjn, List.take_length]
   rcases Nat.lt_or_ge (i + j) l.length with hlt | hge2
   ·have hc := List.getElem?_eq_getElem hlt
    have hdc := dgAt_out (l := l) (i := i) (b := l[i + j]) (by rw [← hjn]; exact hc)
    have hc2 := byteAt_bs hc
    have h19 : decide (((i + j : Nat) : Int) < (l.length : Int)) = true := by simp; omega
    have hi1 : ((i + j : Nat) : Int) < (l.length : Int) := by omega
    unfold isDg at hdc
    generalize l[i + j] = c at *
    cases h48 : decide (48 ≤ c.toNat) with
    | true =>
     have h30 : decide ((c.toNat : Int) ≥ 48) = true := by simp at h48 ⊢; omega
     have h42 : decide ((c.toNat : Int) ≤ 57) = false := by
      rw [h48] at hdc
      simp at hdc ⊢; omega
     repeat' (first | refine na_tail (l := l) (i := i) (j := j) Tryd.ntmps53 rfl hl hjn (by omega) hj9 ?_ ?_ ?_ ?_ ?_ ?_ | refine awp_seq_k fun K hK => ?_ | ((first | refine awp_region_k (by kernel_rfl) fun R hR => ?_ | refine awp_draw mixed (by kernel_rfl) (by kernel_rfl) fun R hR => ?_); simp only [go_sem, s0, s1, s6, s7, hc2, h19, h30, h42, Int.toNat_natCast]) | ((first | (refine hR _ ?_; clear hR R) | refine awp_skip ?_ | refine awp_exit ?_ | refine awp_ret ?_); try simp only [thenA, inBlockA, reduceIte, reduceCtorEq, Nat.reduceEqDiff, if_false, if_true]) | ((first | refine hK _ ?_ | (clear hK K; first | refine hK _ ?_ | (clear hK K; first | refine hK _ ?_ | (clear hK K; first | refine hK _ ?_ | (clear hK K; refine hK _ ?_))))); clear hK K) | refine awp_true rfl rfl ?_ | refine awp_false rfl rfl ?_ | refine awp_block ?_ | refine And.intro (by first | ((repeat' first | omega | exact trivial | rfl | assumption | (intro a e; subst e; rfl) | exact map_sz fun a => (by simp only [go_sem]) | refine And.intro ?_ ?_); done) | fail) ?_ | fail)
     all_goals first | exact s6' | exact Nat.le_succ_of_le hk | assumption
    | false =>
     have h30 : decide ((c.toNat : Int) ≥ 48) = false := by simp at h48 ⊢; omega
     repeat' (first | refine na_tail (l := l) (i := i) (j := j) Tryd.ntmps53 rfl hl hjn (by omega) hj9 ?_ ?_ ?_ ?_ ?_ ?_ | refine awp_seq_k fun K hK => ?_ | ((first | refine awp_region_k (by kernel_rfl) fun R hR => ?_ | refine awp_draw mixed (by kernel_rfl) (by kernel_rfl) fun R hR => ?_); simp only [go_sem, s0, s1, s6, s7, hc2, h19, h30, Int.toNat_natCast]) | ((first | (refine hR _ ?_; clear hR R) | refine awp_skip ?_ | refine awp_exit ?_ | refine awp_ret ?_); try simp only [thenA, inBlockA, reduceIte, reduceCtorEq, Nat.reduceEqDiff, if_false, if_true]) | ((first | refine hK _ ?_ | (clear hK K; first | refine hK _ ?_ | (clear hK K; first | refine hK _ ?_ | (clear hK K; first | refine hK _ ?_ | (clear hK K; refine hK _ ?_))))); clear hK K) | refine awp_true rfl rfl ?_ | refine awp_false rfl rfl ?_ | refine awp_block ?_ | refine And.intro (by first | ((repeat' first | omega | exact trivial | rfl | assumption | (intro a e; subst e; rfl) | exact map_sz fun a => (by simp only [go_sem]) | refine And.intro ?_ ?_); done) | fail) ?_ | fail)
     all_goals first | exact s6' | exact Nat.le_succ_of_le hk | assumption
   ·have h19 : decide (((i + j : Nat) : Int) < (l.length : Int)) = false := by simp; omega
    repeat' (first | refine na_tail (l := l) (i := i) (j := j) Tryd.ntmps53 rfl hl hjn (by omega) hj9 ?_ ?_ ?_ ?_ ?_ ?_ | refine awp_seq_k fun K hK => ?_ | ((first | refine awp_region_k (by kernel_rfl) fun R hR => ?_ | refine awp_draw mixed (by kernel_rfl) (by kernel_rfl) fun R hR => ?_); simp only [go_sem, s0, s1, s6, s7, h19, Int.toNat_natCast]) | ((first | (refine hR _ ?_; clear hR R) | refine awp_skip ?_ | refine awp_exit ?_ | refine awp_ret ?_); try simp only [thenA, inBlockA, reduceIte, reduceCtorEq, Nat.reduceEqDiff, if_false, if_true]) | ((first | refine hK _ ?_ | (clear hK K; first | refine hK _ ?_ | (clear hK K; first | refine hK _ ?_ | (clear hK K; first | refine hK _ ?_ | (clear hK K; refine hK _ ?_))))); clear hK K) | refine awp_true rfl rfl ?_ | refine awp_false rfl rfl ?_ | refine awp_block ?_ | refine And.intro (by first | ((repeat' first | omega | exact trivial | rfl | assumption | (intro a e; subst e; rfl) | exact map_sz fun a => (by simp only [go_sem]) | refine And.intro ?_ ?_); done) | fail) ?_ | fail)
    all_goals first | exact s6' | exact Nat.le_succ_of_le hk | assumption
end Go.Proofs.YtmeekpinkfpnhabDoor
