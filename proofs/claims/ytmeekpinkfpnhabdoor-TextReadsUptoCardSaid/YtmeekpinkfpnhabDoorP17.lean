/- Texts read: a term, where the reader gives up. -/
import Derived.Test.YtmeekpinkfpnhabDoorP08
import Derived.Test.YtmeekpinkfpnhabDoorP09
import Derived.Test.YtmeekpinkfpnhabDoorP16
set_option linter.all false
namespace Go.Proofs.YtmeekpinkfpnhabDoor
open Go.RowKit
abbrev CH : List PanicEntry := [{ v := .iface 83 (.agg #[]), recovered := false }]
theorem awp_pan {P : Program} {w0 : GW} {n : Nat} {Q : Exit → St → Prop} {s : St} {id x y : Nat} {T ty1 ty2 ty3 : TypeId} {p1 p2 p3 : String} {e1 e2 e3 : Array Edge} {d3 : Option Tmp} (hb : ∀ w, (Instr.build T #[]).run P w = .ok (.agg #[]) w) (hm : ∀ v w, (Instr.makeInterface T v).run P w = .ok (.iface T v) w)
  (hx : x < n) (hy : y < n) (h : Q (.panic [{ v := .iface T (.agg #[]), recovered := false }]) ⟨set (set s.t x .junk) y .junk, s.h, s.k + 1⟩) :
  awp P w0 n (.region id #[⟨some x, .build T #[], ty1, p1, e1, none⟩, ⟨some y, .makeInterface T (.tmp x), ty2, p2, e2, none⟩, ⟨d3, .panic (.tmp y), ty3, p3, e3, none⟩] false) Q s := by
 intro m β a w h1 h2 h3
 refine wp_region_list ?_
 unfold wpList
 rw [if_pos (by simp [Region.wanted])]
 refine .inl ?_
 unfold Oper.wp
 have r1 : (execOp a.eval ⟨some x, .build T #[], ty1, p1, e1, none⟩).run P w = .ok (.value (.agg #[])) w := by
  simp [execOp, hb]
 rw [r1, Oper.upon_value]
 unfold wpList
 rw [if_pos (by simp [Region.wanted])]
 refine .inl ?_
 unfold Oper.wp
 have hE : (a.put (some x) (.agg #[])).eval (.tmp x) = .agg #[] := by simp [Act.eval, Act.put, h1, hx]
 have r2 : (execOp (a.put (some x) (.agg #[])).eval ⟨some y, .makeInterface T (.tmp x), ty2, p2, e2, none⟩).run P w = .ok (.value (.iface T (.agg #[]))) w := by
  simp [execOp, hE, hm]
 rw [r2, Oper.upon_value]
 unfold wpList
 rw [if_pos (by simp [Region.wanted])]
 refine .inl ?_
 unfold Oper.wp
 have hE2 : ((a.put (some x) (.agg #[])).put (some y) (.iface T (.agg #[]))).eval (.tmp y) = .iface T (.agg #[]) := by simp [Act.eval, Act.put, h1, hy]
 have r3 : (execOp ((a.put (some x) (.agg #[])).put (some y) (.iface T (.agg #[]))).eval ⟨d3, .panic (.tmp y), ty3, p3, e3, none⟩).run P w = .halt (.panic (.iface T (.agg #[]))) w := by
  simp [execOp, hE2, Instr.panic]
 rw [r3, Oper.upon_panic]
 refine ⟨_, m, β, h, by simp [Act.put, h1], by simp [Act.put], Nat.le_succ _, ⟨.rfl' m, .rfl' β, h2.tick (Nat.le_succ _), ?_⟩, fun _ _ h => h⟩
 exact (h3.put .junk).put .junk
set_option maxRecDepth 20000 in
theorem need_boom (b : Nm) (ob : Ob) : TriP Tryd.prog CH 48 [.ptr b 0, bA false] b ob := by
 refine triP_enter Tryd.func48 rfl Tryd.ntmps48 (by simp only [List.length_cons, List.length_nil]; omega) fun w0 h0 k hh hbk => ?_
 repeat' (first | (refine awp_pan (fun w => ?_) (fun v w => ?_) (by decide) (by decide) ?_) | refine awp_seq_k fun K hK => ?_ | ((first | refine awp_region_k (by kernel_rfl) fun R hR => ?_ | refine awp_draw mixed (by kernel_rfl) (by kernel_rfl) fun R hR => ?_); simp only [go_sem]) | ((first | (refine hR _ ?_; clear hR R) | refine awp_skip ?_ | refine awp_exit ?_ | refine awp_ret ?_); try simp only [thenA, inBlockA, reduceIte, reduceCtorEq, Nat.reduceEqDiff, if_false, if_true]) | ((first | refine hK _ ?_ | (clear hK K; first | refine hK _ ?_ | (clear hK K; first | refine hK _ ?_ | (clear hK K; first | refine hK _ ?_ | (clear hK K; refine hK _ ?_))))); clear hK K) | refine awp_true rfl rfl ?_ | refine awp_false rfl rfl ?_ | refine awp_block ?_ | refine And.intro (by first | ((repeat' first | omega | exact trivial | rfl | assumption | (intro a e; subst e; rfl) | exact map_sz fun a => (by simp only [go_sem]) | refine And.intro ?_ ?_); done) | fail) ?_ | fail)
 ·simp [Instr.build, go_sem]
 ·simp [Instr.makeInterface, go_sem, Tryd.underlying83]
 ·exact fun x _ _ => rfl
theorem rdN_none {l : By} {i : Nat} (h : rdN l i = none) : (∀ v, Lib.atoiAll (dgAt l i) ≠ .ok v) ∨ (∃ v, Lib.atoiAll (dgAt l i) = .ok v ∧ 9 < (dgAt l i).length) ∨ ∃ n : Nat, Lib.atoiAll (dgAt l i) = .ok (n : Int) ∧ n < 1000000000 ∧ (dgAt l i).length ≤ 9 ∧ Lib.decDigits n ≠ dgAt l i := by
 cases hc : Lib.atoiAll (dgAt l i) with
 | «syntax» => exact .inl fun v h => by cases h
 | range => exact .inl fun v h => by cases h
 | ok v =>
  rcases Nat.lt_or_ge 9 (dgAt l i).length with h9 | h9
  ·exact .inr (.inl ⟨v, rfl, h9⟩)
  ·refine .inr (.inr ?_)
   rw [Lib.atoiAll_short _ (by omega), atoi_dg (dgAt_dg l i)] at hc
   cases hd : Lib.decNat (dgAt l i) with
   | none => rw [hd] at hc; cases hc
   | some n =>
    rw [hd] at hc
    have hv : v = (n : Int) := by
     simp only [Option.map_some, Lib.NumEnd.ofOption] at hc
     injection hc with hc; exact hc.symm
    subst hv
    have hlt : n < 1000000000 := by
     unfold Lib.decNat at hd
     split at hd
     ·cases hd
     ·have h1 := pow_digits _ _ _ hd
      have h2 : 10 ^ (dgAt l i).length ≤ 10 ^ 9 := Nat.pow_le_pow_right (by omega) h9
      omega
    refine ⟨n, rfl, hlt, h9, fun e => ?_⟩
    unfold rdN at h
    rw [hd] at h
    simp only at h
    rw [if_pos ⟨h9, by rw [ddF_eq 19 n (by omega)]; exact e⟩] at h
    cases h
set_option maxHeartbeats 4000000 in
set_option maxRecDepth 20000 in
theorem number_tail {w0 : GW} {N : Nat} {c : Code} (hN : (Tryd.f50).ntmps = N) (hc : bodyAt (Tryd.f50) [true,true,true] = some c) {Q : Exit → St → Prop} {σ : St} {b : Nm} {l : By} {i j : Nat} (hl : l.length ≤ 4000000) (hj : j = i + (dgAt l i).length) (hjl : j ≤ l.length) (hr : rdN l i = none) (s0 : σ.t 0 = .ptr b 0) (s3 : σ.t 3 = iA i) (hbk : b.1 < σ.k)
  (sh : σ.h b = some (.cells 86 [sA l, iA j])) (hQ : ∀ s', FrN σ.k [b] σ.h s'.h → Q (.panic CH) s') : awp Tryd.prog w0 N c Q σ := by
 obtain rfl := (Tryd.ntmps50).symm.trans hN; obtain rfl := Option.some.inj (show some _ = some c from hc); clear hN hc
 have qb := nmne hbk
 have hdl := dgAt_len l i
 have hex : (bs l).extract i j = bs (dgAt l i) := by rw [bs_ext, hj, Nat.add_sub_cancel_left, dgAt_take]
 have e9 : (j : Int) - (i : Int) = ((dgAt l i).length : Int) := by omega
 rcases rdN_none hr with h1 | ⟨v, h1, h9⟩ | ⟨n, h1, hn, h9, hne⟩
 ·have hA := atoi_bad (dgAt l i) (by omega) h1
  repeat' (first | (refine awp_boom_last (ch := CH) (id := 5) 27 mixed (by kernel_rfl) rfl rfl (by kernel_rfl) (by kernel_rfl) (by kernel_rfl) fun R hR => ?_; simp only [go_sem, List.take_succ_cons, List.take_zero, s0, s3, sh, qb, hex, Int.toNat_natCast]) | refine awp_seq_k fun K hK => ?_ | ((first | refine awp_region_k (by kernel_rfl) fun R hR => ?_ | refine awp_draw mixed (by kernel_rfl) (by kernel_rfl) fun R hR => ?_); simp only [go_sem, s0, s3, sh, qb, hex, Int.toNat_natCast]) | ((first | (refine hR _ ?_; clear hR R) | refine awp_skip ?_ | refine awp_exit ?_ | refine awp_ret ?_); try simp only [thenA, inBlockA, reduceIte, reduceCtorEq, Nat.reduceEqDiff, if_false, if_true]) | ((first | refine hK _ ?_ | (clear hK K; first | refine hK _ ?_ | (clear hK K; first | refine hK _ ?_ | (clear hK K; first | refine hK _ ?_ | (clear hK K; refine hK _ ?_))))); clear hK K) | refine awp_true rfl rfl ?_ | refine awp_false rfl rfl ?_ | refine awp_block ?_ | ((first | refine CallK.pure (enter59) (hA) ?_ ?_ | refine CallD.pure (enter59) (hA) ?_ ?_); (focus first | ((repeat (first | exact trivial | refine ⟨(by first | exact Or.inl rfl | exact Or.inr rfl), ?_⟩)); done) | (simp only [coL, AV.dat, true_or, or_true, AV.d.injEq, go_sem]; done)); simp only [go_sem, s0, s3, sh, qb, hex, Int.toNat_natCast]) | refine And.intro (by first | ((repeat' first | omega | exact trivial | rfl | assumption | (intro a e; subst e; rfl) | exact map_sz fun a => (by simp only [go_sem]) | refine And.intro ?_ ?_); done) | fail) ?_ | fail)
  refine BoomK.mk1 (enter48) (need_boom b (.cells 86 [sA l, iA j])) ?_ ?_ ?_
  focus first | ((repeat (first | exact trivial | refine ⟨(by first | exact Or.inl rfl | exact Or.inr rfl), ?_⟩)); done) | (simp only [coL, AV.dat, true_or, or_true, AV.d.injEq, go_sem, s0, s3, sh, qb]; done)
  focus first | (simp only [go_sem, s0, s3, sh, qb]; done) | (simp only [go_sem, s0, s3, sh, qb]; rfl) | assumption
  simp only [thenA, inBlockA, panQ, reduceIte, reduceCtorEq, true_and]
  repeat (first | exact FrN.rfl' _ _ _ | assumption | refine FrN.updk ?_ (by first | omega | fail) _ | refine FrN.updn ?_ (by first | (simp; done) | fail) _ | refine FrN.stH ?_ _)
  refine hQ _ ?_
  repeat (first | exact FrN.rfl' _ _ _ | refine FrN.updn ?_ (by simp) _)
 ·have hA := atoi_ok (dgAt l i) v (by omega) h1
  have hd9 : decide (((dgAt l i).length : Int) ≤ 9) = false := by simp; omega
  repeat' (first | (refine awp_boom_last (ch := CH) (id := 5) 27 mixed (by kernel_rfl) rfl rfl (by kernel_rfl) (by kernel_rfl) (by kernel_rfl) fun R hR => ?_; simp only [go_sem, List.take_succ_cons, List.take_zero, s0, s3, sh, qb, hex, e9, hd9, Int.toNat_natCast]) | refine awp_seq_k fun K hK => ?_ | ((first | refine awp_region_k (by kernel_rfl) fun R hR => ?_ | refine awp_draw mixed (by kernel_rfl) (by kernel_rfl) fun R hR => ?_); simp only [go_sem, s0, s3, sh, qb, hex, e9, hd9, Int.toNat_natCast]) | ((first | (refine hR _ ?_; clear hR R) | refine awp_skip ?_ | refine awp_exit ?_ | refine awp_ret ?_); try simp only [thenA, inBlockA, reduceIte, reduceCtorEq, Nat.reduceEqDiff, if_false, if_true]) | ((first | refine hK _ ?_ | (clear hK K; first | refine hK _ ?_ | (clear hK K; first | refine hK _ ?_ | (clear hK K; first | refine hK _ ?_ | (clear hK K; refine hK _ ?_))))); clear hK K) | refine awp_true rfl rfl ?_ | refine awp_false rfl rfl ?_ | refine awp_block ?_ | ((first | refine CallK.pure (enter59) (hA) ?_ ?_ | refine CallD.pure (enter59) (hA) ?_ ?_); (focus first | ((repeat (first | exact trivial | refine ⟨(by first | exact Or.inl rfl | exact Or.inr rfl), ?_⟩)); done) | (simp only [coL, AV.dat, true_or, or_true, AV.d.injEq, go_sem]; done)); simp only [go_sem, s0, s3, sh, qb, hex, e9, hd9, Int.toNat_natCast]) | refine And.intro (by first | ((repeat' first | omega | exact trivial | rfl | assumption | (intro a e; subst e; rfl) | exact map_sz fun a => (by simp only [go_sem]) | refine And.intro ?_ ?_); done) | fail) ?_ | fail)
  refine BoomK.mk1 (enter48) (need_boom b (.cells 86 [sA l, iA j])) ?_ ?_ ?_
  focus first | ((repeat (first | exact trivial | refine ⟨(by first | exact Or.inl rfl | exact Or.inr rfl), ?_⟩)); done) | (simp only [coL, AV.dat, true_or, or_true, AV.d.injEq, go_sem, s0, s3, sh, qb]; done)
  focus first | (simp only [go_sem, s0, s3, sh, qb]; done) | (simp only [go_sem, s0, s3, sh, qb]; rfl) | assumption
  simp only [thenA, inBlockA, panQ, reduceIte, reduceCtorEq, true_and]
  repeat (first | exact FrN.rfl' _ _ _ | assumption | refine FrN.updk ?_ (by first | omega | fail) _ | refine FrN.updn ?_ (by first | (simp; done) | fail) _ | refine FrN.stH ?_ _)
  refine hQ _ ?_
  repeat (first | exact FrN.rfl' _ _ _ | refine FrN.updn ?_ (by simp) _)
 ·have hA := atoi_ok (dgAt l i) n (by omega) h1
  have hd9 : decide (((dgAt l i).length : Int) ≤ 9) = true := by simp; omega
  have hI := itoa_tri (n : Int) (by omega) (by omega)
  have hne' : (dig (n : Int) == dgAt l i) = false := by rw [beq_eq_false_iff_ne]; exact hne
  repeat' (first | (refine awp_boom_last (ch := CH) (id := 5) 27 mixed (by kernel_rfl) rfl rfl (by kernel_rfl) (by kernel_rfl) (by kernel_rfl) fun R hR => ?_; simp only [go_sem, List.take_succ_cons, List.take_zero, s0, s3, sh, qb, hex, e9, hd9, hne', Int.toNat_natCast]) | refine awp_seq_k fun K hK => ?_ | ((first | refine awp_region_k (by kernel_rfl) fun R hR => ?_ | refine awp_draw mixed (by kernel_rfl) (by kernel_rfl) fun R hR => ?_); simp only [go_sem, s0, s3, sh, qb, hex, e9, hd9, hne', Int.toNat_natCast]) | ((first | (refine hR _ ?_; clear hR R) | refine awp_skip ?_ | refine awp_exit ?_ | refine awp_ret ?_); try simp only [thenA, inBlockA, reduceIte, reduceCtorEq, Nat.reduceEqDiff, if_false, if_true]) | ((first | refine hK _ ?_ | (clear hK K; first | refine hK _ ?_ | (clear hK K; first | refine hK _ ?_ | (clear hK K; first | refine hK _ ?_ | (clear hK K; refine hK _ ?_))))); clear hK K) | refine awp_true rfl rfl ?_ | refine awp_false rfl rfl ?_ | refine awp_block ?_ | ((first | refine CallK.pure (enter59) (hA) ?_ ?_ | refine CallD.pure (enter59) (hA) ?_ ?_ | refine CallK.pure (enter39) (hI) ?_ ?_ | refine CallD.pure (enter39) (hI) ?_ ?_); (focus first | ((repeat (first | exact trivial | refine ⟨(by first | exact Or.inl rfl | exact Or.inr rfl), ?_⟩)); done) | (simp only [coL, AV.dat, true_or, or_true, AV.d.injEq, go_sem]; done)); simp only [go_sem, s0, s3, sh, qb, hex, e9, hd9, hne', Int.toNat_natCast]) | refine And.intro (by first | ((repeat' first | omega | exact trivial | rfl | assumption | (intro a e; subst e; rfl) | exact map_sz fun a => (by simp only [go_sem]) | refine And.intro ?_ ?_); done) | fail) ?_ | fail)
  refine BoomK.mk1 (enter48) (need_boom b (.cells 86 [sA l, iA j])) ?_ ?_ ?_
  focus first | ((repeat (first | exact trivial | refine ⟨(by first | exact Or.inl rfl | exact Or.inr rfl), ?_⟩)); done) | (simp only [coL, AV.dat, true_or, or_true, AV.d.injEq, go_sem, s0, s3, sh, qb]; done)
  focus first | (simp only [go_sem, s0, s3, sh, qb]; done) | (simp only [go_sem, s0, s3, sh, qb]; rfl) | assumption
  simp only [thenA, inBlockA, panQ, reduceIte, reduceCtorEq, true_and]
  repeat (first | exact FrN.rfl' _ _ _ | assumption | refine FrN.updk ?_ (by first | omega | fail) _ | refine FrN.updn ?_ (by first | (simp; done) | fail) _ | refine FrN.stH ?_ _)
  refine hQ _ ?_
  repeat (first | exact FrN.rfl' _ _ _ | refine FrN.updn ?_ (by simp) _)
set_option maxHeartbeats 4000000 in
set_option maxRecDepth 20000 in
theorem number_boom (b : Nm) (l : By) (i : Nat) (hl : l.length ≤ 4000000) (hi : i ≤ l.length) (hr : rdN l i = none) : TriP Tryd.prog CH 50 [.ptr b 0] b (rdO l i) := by
 have hdl := dgAt_len l i
 refine triP_enter Tryd.func50 rfl Tryd.ntmps50 (by simp only [List.length_cons, List.length_nil]; omega) fun w0 h0 k hh hbk => ?_
 rw [rdO_eq] at hh
 have qb := nmne hbk
 repeat' (first | refine awp_seq_k fun K hK => ?_ | ((first | refine awp_region_k (by kernel_rfl) fun R hR => ?_ | refine awp_draw mixed (by kernel_rfl) (by kernel_rfl) fun R hR => ?_); simp only [go_sem, hh, qb]) | ((first | (refine hR _ ?_; clear hR R) | refine awp_skip ?_ | refine awp_exit ?_ | refine awp_ret ?_); try simp only [thenA, inBlockA, reduceIte, reduceCtorEq, Nat.reduceEqDiff, if_false, if_true]) | ((first | refine hK _ ?_ | (clear hK K; first | refine hK _ ?_ | (clear hK K; first | refine hK _ ?_ | (clear hK K; first | refine hK _ ?_ | (clear hK K; refine hK _ ?_))))); clear hK K) | refine awp_true rfl rfl ?_ | refine awp_false rfl rfl ?_ | refine awp_block ?_ | refine And.intro (by first | ((repeat' first | omega | exact trivial | rfl | assumption | (intro a e; subst e; rfl) | exact map_sz fun a => (by simp only [go_sem]) | refine And.intro ?_ ?_); done) | fail) ?_ | fail)
 refine awp_loop (fun σ => ∃ j : Nat, σ.t 0 = .ptr b 0 ∧ σ.t 3 = iA i ∧ σ.h b = some (.cells 86 [sA l, iA (i + j : Nat)]) ∧ FrN k [b] h0 σ.h ∧ k < σ.k ∧ j ≤ (dgAt l i).length) (fun σ => i + (dgAt l i).length - (intOf' ((objCells σ.h b).getD 1 .junk)).toNat) ?_ ?_
 ·refine ⟨0, ?_⟩
  simp only [go_sem, hh, Nat.add_zero]
  and_intros; all_goals try (first | rfl | omega | assumption | ((repeat (first | exact Fr.rfl' _ _ | assumption | refine Fr.updk ?_ (by omega) _)); done))
  exact FrN.rfl' _ _ _
 ·rintro σ ⟨j, s0, s3, sh, hF, hk, hj⟩
  have qb := nmne (show b.1 < σ.k by omega)
  have qb' := hbk
  rcases Nat.lt_or_ge j (dgAt l i).length with hlt | hge
  ·obtain ⟨c, hc, hdc⟩ := dgAt_in (l := l) (i := i) (j := j) (by omega)
   have hc2 := byteAt_bs hc
   unfold isDg at hdc
   simp only [Bool.and_eq_true, decide_eq_true_eq] at hdc
   have h19 : decide (((i + j : Nat) : Int) < (l.length : Int)) = true := by simp; omega
   have h30 : decide ((c.toNat : Int) ≥ 48) = true := by simp; omega
   have h42 : decide ((c.toNat : Int) ≤ 57) = true := by simp; omega
   have e1 : (((i + j : Nat) : Int) + 1) = ((i + (j + 1) : Nat) : Int) := by omega
   repeat' (first | refine awp_seq_k fun K hK => ?_ | ((first | refine awp_region_k (by kernel_rfl) fun R hR => ?_ | refine awp_draw mixed (by kernel_rfl) (by kernel_rfl) fun R hR => ?_); simp only [go_sem, s0, s3, sh, qb, hc2, h19, h30, h42, e1, Int.toNat_natCast]) | ((first | (refine hR _ ?_; clear hR R) | refine awp_skip ?_ | refine awp_exit ?_ | refine awp_ret ?_); try simp only [thenA, inBlockA, reduceIte, reduceCtorEq, Nat.reduceEqDiff, if_false, if_true]) | ((first | refine hK _ ?_ | (clear hK K; first | refine hK _ ?_ | (clear hK K; first | refine hK _ ?_ | (clear hK K; first | refine hK _ ?_ | (clear hK K; refine hK _ ?_))))); clear hK K) | refine awp_true rfl rfl ?_ | refine awp_false rfl rfl ?_ | refine awp_block ?_ | refine And.intro (by first | ((repeat' first | omega | exact trivial | rfl | assumption | (intro a e; subst e; rfl) | exact map_sz fun a => (by simp only [go_sem]) | refine And.intro ?_ ?_); done) | fail) ?_ | fail)
   refine ⟨⟨j + 1, ?_⟩, ?_⟩
   rotate_left
   ·simp only [go_sem, sh, qb, Int.toNat_natCast]; omega
   simp only [go_sem, s0, s3, sh, qb]
   and_intros; all_goals try (first | rfl | omega | assumption | ((repeat (first | exact Fr.rfl' _ _ | assumption | refine Fr.updk ?_ (by omega) _)); done))
   exact FrN.updn hF (by simp) _
  ·have hjn : j = (dgAt l i).length := by omega
   have fin : ∀ s' : St, FrN σ.k [b] σ.h s'.h → panQ CH b h0 k (.panic CH) s' := fun s' hs => ⟨rfl, fun x hx hn => (hs x (by omega) hn).trans (hF x hx hn)⟩
   rcases Nat.lt_or_ge (i + j) l.length with hlt | hge2
   ·have hc := List.getElem?_eq_getElem hlt
    have hdc := dgAt_out (l := l) (i := i) (b := l[i + j]) (by rw [← hjn]; exact hc)
    have hc2 := byteAt_bs hc
    have h19 : decide (((i + j : Nat) : Int) < (l.length : Int)) = true := by simp; omega
    unfold isDg at hdc
    generalize l[i + j] = c at *
    cases h48 : decide (48 ≤ c.toNat) with
    | true =>
     have h30 : decide ((c.toNat : Int) ≥ 48) = true := by simp at h48 ⊢; omega
     have h42 : decide ((c.toNat : Int) ≤ 57) = false := by
      rw [h48] at hdc
      simp at hdc ⊢; omega
     repeat' (first | refine number_tail (b := b) (l := l) (i := i) (j := i + j) Tryd.ntmps50 rfl hl (by omega) (by omega) hr ?_ ?_ ?_ ?_ ?_ | refine awp_seq_k fun K hK => ?_ | ((first | refine awp_region_k (by kernel_rfl) fun R hR => ?_ | refine awp_draw mixed (by kernel_rfl) (by kernel_rfl) fun R hR => ?_); simp only [go_sem, s0, s3, sh, qb, hc2, h19, h30, h42, Int.toNat_natCast]) | ((first | (refine hR _ ?_; clear hR R) | refine awp_skip ?_ | refine awp_exit ?_ | refine awp_ret ?_); try simp only [thenA, inBlockA, reduceIte, reduceCtorEq, Nat.reduceEqDiff, if_false, if_true]) | ((first | refine hK _ ?_ | (clear hK K; first | refine hK _ ?_ | (clear hK K; first | refine hK _ ?_ | (clear hK K; first | refine hK _ ?_ | (clear hK K; refine hK _ ?_))))); clear hK K) | refine awp_true rfl rfl ?_ | refine awp_false rfl rfl ?_ | refine awp_block ?_ | refine And.intro (by first | ((repeat' first | omega | exact trivial | rfl | assumption | (intro a e; subst e; rfl) | exact map_sz fun a => (by simp only [go_sem]) | refine And.intro ?_ ?_); done) | fail) ?_ | fail)
     all_goals first | (simp only [go_sem, s0, s3, sh, qb]; done) | (show b.1 < σ.k + 1; omega) | exact fun s' hs => ⟨rfl, fun x hx hn => (hs x (show x.1 < σ.k + 1 by omega) hn).trans (hF x hx hn)⟩
    | false =>
     have h30 : decide ((c.toNat : Int) ≥ 48) = false := by simp at h48 ⊢; omega
     repeat' (first | refine number_tail (b := b) (l := l) (i := i) (j := i + j) Tryd.ntmps50 rfl hl (by omega) (by omega) hr ?_ ?_ ?_ ?_ ?_ | refine awp_seq_k fun K hK => ?_ | ((first | refine awp_region_k (by kernel_rfl) fun R hR => ?_ | refine awp_draw mixed (by kernel_rfl) (by kernel_rfl) fun R hR => ?_); simp only [go_sem, s0, s3, sh, qb, hc2, h19, h30, Int.toNat_natCast]) | ((first | (refine hR _ ?_; clear hR R) | refine awp_skip ?_ | refine awp_exit ?_ | refine awp_ret ?_); try simp only [thenA, inBlockA, reduceIte, reduceCtorEq, Nat.reduceEqDiff, if_false, if_true]) | ((first | refine hK _ ?_ | (clear hK K; first | refine hK _ ?_ | (clear hK K; first | refine hK _ ?_ | (clear hK K; first | refine hK _ ?_ | (clear hK K; refine hK _ ?_))))); clear hK K) | refine awp_true rfl rfl ?_ | refine awp_false rfl rfl ?_ | refine awp_block ?_ | refine And.intro (by first | ((repeat' first | omega | exact trivial | rfl | assumption | (intro a e; subst e; rfl) | exact map_sz fun a => (by simp only [go_sem]) | refine And.intro ?_ ?_); done) | fail) ?_ | fail)
     all_goals first | (simp only [go_sem, s0, s3, sh, qb]; done) | (show b.1 < σ.k + 1; omega) | exact fun s' hs => ⟨rfl, fun x hx hn => (hs x (show x.1 < σ.k + 1 by omega) hn).trans (hF x hx hn)⟩
   ·have h19 : decide (((i + j : Nat) : Int) < (l.length : Int)) = false := by simp; omega
    repeat' (first | refine number_tail (b := b) (l := l) (i := i) (j := i + j) Tryd.ntmps50 rfl hl (by omega) (by omega) hr ?_ ?_ ?_ ?_ ?_ | refine awp_seq_k fun K hK => ?_ | ((first | refine awp_region_k (by kernel_rfl) fun R hR => ?_ | refine awp_draw mixed (by kernel_rfl) (by kernel_rfl) fun R hR => ?_); simp only [go_sem, s0, s3, sh, qb, h19, Int.toNat_natCast]) | ((first | (refine hR _ ?_; clear hR R) | refine awp_skip ?_ | refine awp_exit ?_ | refine awp_ret ?_); try simp only [thenA, inBlockA, reduceIte, reduceCtorEq, Nat.reduceEqDiff, if_false, if_true]) | ((first | refine hK _ ?_ | (clear hK K; first | refine hK _ ?_ | (clear hK K; first | refine hK _ ?_ | (clear hK K; first | refine hK _ ?_ | (clear hK K; refine hK _ ?_))))); clear hK K) | refine awp_true rfl rfl ?_ | refine awp_false rfl rfl ?_ | refine awp_block ?_ | refine And.intro (by first | ((repeat' first | omega | exact trivial | rfl | assumption | (intro a e; subst e; rfl) | exact map_sz fun a => (by simp only [go_sem]) | refine And.intro ?_ ?_); done) | fail) ?_ | fail)
    all_goals first | (simp only [go_sem, s0, s3, sh, qb]; done) | (show b.1 < σ.k + 1; omega) | exact fun s' hs => ⟨rfl, fun x hx hn => (hs x (show x.1 < σ.k + 1 by omega) hn).trans (hF x hx hn)⟩
def RdTBad (l : By) (f : Nat) : Prop := ∀ (b : Nm) (i : Nat), i ≤ l.length → l.length - i < f → rdT l f i = none → TriP Tryd.prog CH 33 [.ptr b 0] b (rdO l i)
set_option maxHeartbeats 4000000 in
set_option maxRecDepth 20000 in
theorem term_bad1 (l : By) (hl : l.length ≤ 4000000) (b : Nm) (i : Nat) (hi : i ≤ l.length) (hX : hasAt l i [88] = true) (hn : rdN l (i + 1) = none) : TriP Tryd.prog CH 33 [.ptr b 0] b (rdO l i) := by
 have h1 := hasAt_le hX hi
 simp only [List.length_cons, List.length_nil] at h1
 refine triP_enter Tryd.func33 rfl Tryd.ntmps33 (by simp only [List.length_cons, List.length_nil]; omega) fun w0 h0 k hh hbk => ?_
 rw [rdO_eq] at hh
 have qb := nmne hbk
 have hT := take_yes b l [88] i hl hi (by decide) hX
 have hM := number_boom b l (i + 1) hl (by omega) hn
 repeat' (first | (refine awp_boom (ch := CH) (id := 2) 1 (by kernel_rfl) rfl fun R hR => ?_; simp only [go_sem, List.take_succ_cons, List.take_zero, qb]) | refine awp_seq_k fun K hK => ?_ | ((first | refine awp_region_k (by kernel_rfl) fun R hR => ?_ | refine awp_draw mixed (by kernel_rfl) (by kernel_rfl) fun R hR => ?_); simp only [go_sem, qb]) | ((first | (refine hR _ ?_; clear hR R) | refine awp_skip ?_ | refine awp_exit ?_ | refine awp_ret ?_); try simp only [thenA, inBlockA, reduceIte, reduceCtorEq, Nat.reduceEqDiff, if_false, if_true]) | ((first | refine hK _ ?_ | (clear hK K; first | refine hK _ ?_ | (clear hK K; first | refine hK _ ?_ | (clear hK K; first | refine hK _ ?_ | (clear hK K; refine hK _ ?_))))); clear hK K) | refine awp_true rfl rfl ?_ | refine awp_false rfl rfl ?_ | refine awp_block ?_ | ((first | refine CallK.chg (enter49) (hT) ?_ (agRd hbk (by first | (simp only [go_sem, hh, qb, rdO]; done) | fail)) (Fr.rfl' _ _) ?_ | refine CallD.chg (enter49) (hT) ?_ (agRd hbk (by first | (simp only [go_sem, hh, qb, rdO]; done) | fail)) (Fr.rfl' _ _) (by first | assumption | exact List.cons_ne_nil _ _) ?_); (focus first | ((repeat (first | exact trivial | refine ⟨(by first | exact Or.inl rfl | exact Or.inr rfl), ?_⟩)); done) | (simp only [coL, AV.dat, true_or, or_true, AV.d.injEq, go_sem]; done)); simp only [go_sem, qb]) | refine And.intro (by first | ((repeat' first | omega | exact trivial | rfl | assumption | (intro a e; subst e; rfl) | exact map_sz fun a => (by simp only [go_sem]) | refine And.intro ?_ ?_); done) | fail) ?_ | fail)
 refine BoomK.mk1 (enter50) (hM) ?_ ?_ ?_
 focus first | ((repeat (first | exact trivial | refine ⟨(by first | exact Or.inl rfl | exact Or.inr rfl), ?_⟩)); done) | (simp only [coL, AV.dat, true_or, or_true, AV.d.injEq, go_sem, hh, qb, rdO]; done)
 focus first | (simp only [go_sem, hh, qb, rdO]; done) | (simp only [go_sem, hh, qb, rdO]; rfl) | assumption
 simp only [thenA, inBlockA, panQ, reduceIte, reduceCtorEq, true_and]
 repeat (first | exact FrN.rfl' _ _ _ | assumption | refine FrN.updk ?_ (by first | omega | fail) _ | refine FrN.updn ?_ (by first | (simp; done) | fail) _ | refine FrN.stH ?_ _)
set_option maxHeartbeats 4000000 in
set_option maxRecDepth 20000 in
theorem term_bad2 (l : By) (hl : l.length ≤ 4000000) (b : Nm) (i n j : Nat) (hi : i ≤ l.length) (hX : hasAt l i [88] = true) (hn : rdN l (i + 1) = some (n, j)) (hn0 : ¬ n > 0) : TriP Tryd.prog CH 33 [.ptr b 0] b (rdO l i) := by
 have h1 := hasAt_le hX hi
 simp only [List.length_cons, List.length_nil] at h1
 refine triP_enter Tryd.func33 rfl Tryd.ntmps33 (by simp only [List.length_cons, List.length_nil]; omega) fun w0 h0 k hh hbk => ?_
 rw [rdO_eq] at hh
 have qb := nmne hbk
 have hT := take_yes b l [88] i hl hi (by decide) hX
 have hM := number_tri b l (i + 1) n j hl (by omega) hn
 have hn1 : decide ((n : Int) > 0) = false := by simp; omega
 repeat' (first | (refine awp_boom (ch := CH) (id := 3) 3 (by kernel_rfl) rfl fun R hR => ?_; simp only [go_sem, List.take_succ_cons, List.take_zero, qb, hn1]) | refine awp_seq_k fun K hK => ?_ | ((first | refine awp_region_k (by kernel_rfl) fun R hR => ?_ | refine awp_draw mixed (by kernel_rfl) (by kernel_rfl) fun R hR => ?_); simp only [go_sem, qb, hn1]) | ((first | (refine hR _ ?_; clear hR R) | refine awp_skip ?_ | refine awp_exit ?_ | refine awp_ret ?_); try simp only [thenA, inBlockA, reduceIte, reduceCtorEq, Nat.reduceEqDiff, if_false, if_true]) | ((first | refine hK _ ?_ | (clear hK K; first | refine hK _ ?_ | (clear hK K; first | refine hK _ ?_ | (clear hK K; first | refine hK _ ?_ | (clear hK K; refine hK _ ?_))))); clear hK K) | refine awp_true rfl rfl ?_ | refine awp_false rfl rfl ?_ | refine awp_block ?_ | ((first | refine CallK.chg (enter49) (hT) ?_ (agRd hbk (by first | (simp only [go_sem, hh, qb, rdO]; done) | fail)) (Fr.rfl' _ _) ?_ | refine CallD.chg (enter49) (hT) ?_ (agRd hbk (by first | (simp only [go_sem, hh, qb, rdO]; done) | fail)) (Fr.rfl' _ _) (by first | assumption | exact List.cons_ne_nil _ _) ?_); (focus first | ((repeat (first | exact trivial | refine ⟨(by first | exact Or.inl rfl | exact Or.inr rfl), ?_⟩)); done) | (simp only [coL, AV.dat, true_or, or_true, AV.d.injEq, go_sem]; done)); simp only [go_sem, qb, hn1]) | ((first | refine CallK.chg (enter50) (hM) ?_ (agRd hbk (by first | (simp only [go_sem, hh, qb, rdO]; done) | fail)) (Fr.rfl' _ _) ?_ | refine CallD.chg (enter50) (hM) ?_ (agRd hbk (by first | (simp only [go_sem, hh, qb, rdO]; done) | fail)) (Fr.rfl' _ _) (by first | assumption | exact List.cons_ne_nil _ _) ?_); (focus first | ((repeat (first | exact trivial | refine ⟨(by first | exact Or.inl rfl | exact Or.inr rfl), ?_⟩)); done) | (simp only [coL, AV.dat, true_or, or_true, AV.d.injEq, go_sem]; done)); simp only [go_sem, qb, hn1]) | refine And.intro (by first | ((repeat' first | omega | exact trivial | rfl | assumption | (intro a e; subst e; rfl) | exact map_sz fun a => (by simp only [go_sem]) | refine And.intro ?_ ?_); done) | fail) ?_ | fail)
 refine BoomK.mk1 (enter48) (need_boom b (.cells 86 [sA l, iA j])) ?_ ?_ ?_
 focus first | ((repeat (first | exact trivial | refine ⟨(by first | exact Or.inl rfl | exact Or.inr rfl), ?_⟩)); done) | (simp only [coL, AV.dat, true_or, or_true, AV.d.injEq, go_sem, hh, qb, rdO]; done)
 focus first | (simp only [go_sem, hh, qb, rdO]; done) | (simp only [go_sem, hh, qb, rdO]; rfl) | assumption
 simp only [thenA, inBlockA, panQ, reduceIte, reduceCtorEq, true_and]
 repeat (first | exact FrN.rfl' _ _ _ | assumption | refine FrN.updk ?_ (by first | omega | fail) _ | refine FrN.updn ?_ (by first | (simp; done) | fail) _ | refine FrN.stH ?_ _)
set_option maxHeartbeats 4000000 in
set_option maxRecDepth 20000 in
theorem term_bad3 (l : By) (hl : l.length ≤ 4000000) (b : Nm) (i : Nat) (hi : i ≤ l.length) (hX : hasAt l i [88] = false) (hf : hasAt l i [102] = false) : TriP Tryd.prog CH 33 [.ptr b 0] b (rdO l i) := by
 refine triP_enter Tryd.func33 rfl Tryd.ntmps33 (by simp only [List.length_cons, List.length_nil]; omega) fun w0 h0 k hh hbk => ?_
 rw [rdO_eq] at hh
 have qb := nmne hbk
 have hT := take_no b l [88] i hl hi hX
 have hT2 := take_no b l [102] i hl hi hf
 repeat' (first | (refine awp_boom (ch := CH) (id := 5) 3 (by kernel_rfl) rfl fun R hR => ?_; simp only [go_sem, List.take_succ_cons, List.take_zero, qb]) | refine awp_seq_k fun K hK => ?_ | ((first | refine awp_region_k (by kernel_rfl) fun R hR => ?_ | refine awp_draw mixed (by kernel_rfl) (by kernel_rfl) fun R hR => ?_); simp only [go_sem, qb]) | ((first | (refine hR _ ?_; clear hR R) | refine awp_skip ?_ | refine awp_exit ?_ | refine awp_ret ?_); try simp only [thenA, inBlockA, reduceIte, reduceCtorEq, Nat.reduceEqDiff, if_false, if_true]) | ((first | refine hK _ ?_ | (clear hK K; first | refine hK _ ?_ | (clear hK K; first | refine hK _ ?_ | (clear hK K; first | refine hK _ ?_ | (clear hK K; refine hK _ ?_))))); clear hK K) | refine awp_true rfl rfl ?_ | refine awp_false rfl rfl ?_ | refine awp_block ?_ | ((first | refine CallK.chg (enter49) (hT) ?_ (agRd hbk (by first | (simp only [go_sem, hh, qb, rdO]; done) | fail)) (Fr.rfl' _ _) ?_ | refine CallD.chg (enter49) (hT) ?_ (agRd hbk (by first | (simp only [go_sem, hh, qb, rdO]; done) | fail)) (Fr.rfl' _ _) (by first | assumption | exact List.cons_ne_nil _ _) ?_); (focus first | ((repeat (first | exact trivial | refine ⟨(by first | exact Or.inl rfl | exact Or.inr rfl), ?_⟩)); done) | (simp only [coL, AV.dat, true_or, or_true, AV.d.injEq, go_sem]; done)); simp only [go_sem, qb]) | ((first | refine CallK.chg (enter49) (hT2) ?_ (agRd hbk (by first | (simp only [go_sem, hh, qb, rdO]; done) | fail)) (Fr.rfl' _ _) ?_ | refine CallD.chg (enter49) (hT2) ?_ (agRd hbk (by first | (simp only [go_sem, hh, qb, rdO]; done) | fail)) (Fr.rfl' _ _) (by first | assumption | exact List.cons_ne_nil _ _) ?_); (focus first | ((repeat (first | exact trivial | refine ⟨(by first | exact Or.inl rfl | exact Or.inr rfl), ?_⟩)); done) | (simp only [coL, AV.dat, true_or, or_true, AV.d.injEq, go_sem]; done)); simp only [go_sem, qb]) | refine And.intro (by first | ((repeat' first | omega | exact trivial | rfl | assumption | (intro a e; subst e; rfl) | exact map_sz fun a => (by simp only [go_sem]) | refine And.intro ?_ ?_); done) | fail) ?_ | fail)
 refine BoomK.mk1 (enter48) (need_boom b (.cells 86 [sA l, iA i])) ?_ ?_ ?_
 focus first | ((repeat (first | exact trivial | refine ⟨(by first | exact Or.inl rfl | exact Or.inr rfl), ?_⟩)); done) | (simp only [coL, AV.dat, true_or, or_true, AV.d.injEq, go_sem, hh, qb, rdO]; done)
 focus first | (simp only [go_sem, hh, qb, rdO]; done) | (simp only [go_sem, hh, qb, rdO]; rfl) | assumption
 simp only [thenA, inBlockA, panQ, reduceIte, reduceCtorEq, true_and]
 repeat (first | exact FrN.rfl' _ _ _ | assumption | refine FrN.updk ?_ (by first | omega | fail) _ | refine FrN.updn ?_ (by first | (simp; done) | fail) _ | refine FrN.stH ?_ _)
set_option maxHeartbeats 4000000 in
set_option maxRecDepth 20000 in
theorem term_bad4 (l : By) (hl : l.length ≤ 4000000) (b : Nm) (i : Nat) (hi : i ≤ l.length) (hX : hasAt l i [88] = false) (hf : hasAt l i [102] = true) (hn : rdN l (i + 1) = none) : TriP Tryd.prog CH 33 [.ptr b 0] b (rdO l i) := by
 have h1 := hasAt_le hf hi
 simp only [List.length_cons, List.length_nil] at h1
 refine triP_enter Tryd.func33 rfl Tryd.ntmps33 (by simp only [List.length_cons, List.length_nil]; omega) fun w0 h0 k hh hbk => ?_
 rw [rdO_eq] at hh
 have qb := nmne hbk
 have hT := take_no b l [88] i hl hi hX
 have hT2 := take_yes b l [102] i hl hi (by decide) hf
 have hM := number_boom b l (i + 1) hl (by omega) hn
 repeat' (first | (refine awp_boom (ch := CH) (id := 6) 1 (by kernel_rfl) rfl fun R hR => ?_; simp only [go_sem, List.take_succ_cons, List.take_zero, qb]) | refine awp_seq_k fun K hK => ?_ | ((first | refine awp_region_k (by kernel_rfl) fun R hR => ?_ | refine awp_draw mixed (by kernel_rfl) (by kernel_rfl) fun R hR => ?_); simp only [go_sem, qb]) | ((first | (refine hR _ ?_; clear hR R) | refine awp_skip ?_ | refine awp_exit ?_ | refine awp_ret ?_); try simp only [thenA, inBlockA, reduceIte, reduceCtorEq, Nat.reduceEqDiff, if_false, if_true]) | ((first | refine hK _ ?_ | (clear hK K; first | refine hK _ ?_ | (clear hK K; first | refine hK _ ?_ | (clear hK K; first | refine hK _ ?_ | (clear hK K; refine hK _ ?_))))); clear hK K) | refine awp_true rfl rfl ?_ | refine awp_false rfl rfl ?_ | refine awp_block ?_ | ((first | refine CallK.chg (enter49) (hT) ?_ (agRd hbk (by first | (simp only [go_sem, hh, qb, rdO]; done) | fail)) (Fr.rfl' _ _) ?_ | refine CallD.chg (enter49) (hT) ?_ (agRd hbk (by first | (simp only [go_sem, hh, qb, rdO]; done) | fail)) (Fr.rfl' _ _) (by first | assumption | exact List.cons_ne_nil _ _) ?_); (focus first | ((repeat (first | exact trivial | refine ⟨(by first | exact Or.inl rfl | exact Or.inr rfl), ?_⟩)); done) | (simp only [coL, AV.dat, true_or, or_true, AV.d.injEq, go_sem]; done)); simp only [go_sem, qb]) | ((first | refine CallK.chg (enter49) (hT2) ?_ (agRd hbk (by first | (simp only [go_sem, hh, qb, rdO]; done) | fail)) (Fr.rfl' _ _) ?_ | refine CallD.chg (enter49) (hT2) ?_ (agRd hbk (by first | (simp only [go_sem, hh, qb, rdO]; done) | fail)) (Fr.rfl' _ _) (by first | assumption | exact List.cons_ne_nil _ _) ?_); (focus first | ((repeat (first | exact trivial | refine ⟨(by first | exact Or.inl rfl | exact Or.inr rfl), ?_⟩)); done) | (simp only [coL, AV.dat, true_or, or_true, AV.d.injEq, go_sem]; done)); simp only [go_sem, qb]) | ((first | refine CallK.pure (enter48) (need_tri b) ?_ ?_ | refine CallD.pure (enter48) (need_tri b) ?_ ?_); (focus first | ((repeat (first | exact trivial | refine ⟨(by first | exact Or.inl rfl | exact Or.inr rfl), ?_⟩)); done) | (simp only [coL, AV.dat, true_or, or_true, AV.d.injEq, go_sem]; done)); simp only [go_sem, qb]) | refine And.intro (by first | ((repeat' first | omega | exact trivial | rfl | assumption | (intro a e; subst e; rfl) | exact map_sz fun a => (by simp only [go_sem]) | refine And.intro ?_ ?_); done) | fail) ?_ | fail)
 refine BoomK.mk1 (enter50) (hM) ?_ ?_ ?_
 focus first | ((repeat (first | exact trivial | refine ⟨(by first | exact Or.inl rfl | exact Or.inr rfl), ?_⟩)); done) | (simp only [coL, AV.dat, true_or, or_true, AV.d.injEq, go_sem, hh, qb, rdO]; done)
 focus first | (simp only [go_sem, hh, qb, rdO]; done) | (simp only [go_sem, hh, qb, rdO]; rfl) | assumption
 simp only [thenA, inBlockA, panQ, reduceIte, reduceCtorEq, true_and]
 repeat (first | exact FrN.rfl' _ _ _ | assumption | refine FrN.updk ?_ (by first | omega | fail) _ | refine FrN.updn ?_ (by first | (simp; done) | fail) _ | refine FrN.stH ?_ _)
end Go.Proofs.YtmeekpinkfpnhabDoor
