/- The unifier: root. -/
import Derived.Test.YtmeekpinkfpnhabGreatP01
import Derived.Test.YtmeekpinkfpnhabGreatP04
import Derived.Test.YtmeekpinkfpnhabGreatP10
import Derived.Test.YtmeekpinkfpnhabGreatP12
import Derived.Test.YtmeekpinkfpnhabGreatP16
set_option linter.all false
namespace Go.Proofs.YtmeekpinkfpnhabGreat
open Go.RowKit
attribute [local irreducible] CallK CallD
theorem heapOK_st {N : List Nm} {O O' : Nm → Ob} {v : AV} {h0 h : Heap} {k : Nat} (ha : Ag k N O' h) (hf : FrN k N h0 h) (hc : Cl k N O') : HeapOK k none (stE N O O' v) h0 h := by
 refine ⟨fun x hx _ => ?_, fun y hy => (by cases hy), fun x hx ob ho y hy => ?_⟩
 ·rw [stE_ap]
  by_cases hN : x ∈ N
  ·rw [if_pos hN]; exact (ha.get x hN).2
  ·rw [if_neg hN]; exact hf x hx hN
 ·obtain ⟨z, hz, rfl⟩ := List.mem_map.1 hx
  cases ho
  exact hc z hz y hy
def extO (y : Nm) (Y : Ob) (O : Nm → Ob) (n : Nm) : Ob := if n = y then Y else O n
theorem extO_y (y : Nm) (Y : Ob) (O : Nm → Ob) : extO y Y O y = Y := if_pos rfl
theorem extO_n {y n : Nm} {Y : Ob} {O : Nm → Ob} (h : n ≠ y) : extO y Y O n = O n := if_neg h
def eachT (A1 : FuncId) (o b7 : Nm) (L0 L1 : Lt) : List AV :=
 [.d (.sl [clDV [L0], clDV [L1]]), iA 0, iA 1, .fn (.func A1) [] [.ptr o 0], .el (.st [.sl [clDV [L0], clDV [L1]]]) 0, .junk, .junk, .ptr b7 0, .junk, .junk, .junk, .d (.sl [clDV [L0], clDV [L1]]), iA 0, iA 1,
  .fn (.func 109) [] [.el (.st [iD 1]) 0, .el (.st [.sl [clDV [L0], clDV [L1]]]) 0, .el (.st [iD 0]) 0]] ++ List.replicate 18 .junk
def eachN (M : List Nm) (nL b7 : Nm) : List Nm := nL :: b7 :: M
def eachO (A1 : FuncId) (o nL b7 : Nm) (L0 L1 : Lt) (Q : Nat → Nm → Ob) (f0 : FuncId) (ps : Array Tmp) (assign body : Code) (d i : Nat) : Nm → Ob :=
 extO nL (.loop (d + 1) .ready f0 ps assign body d (eachT A1 o b7 L0 L1)) (extO b7 (.cells 89 [.fn (.func A1) [] [.ptr o 0]]) (Q i))
theorem map_at {t : Nat → AV} {n : Nat} {ts : List AV} (h : (List.range n).map t = ts) (i : Nat) (a : AV) (hi : ts[i]? = some a) : a = t i := by
 subst h
 rw [List.getElem?_map] at hi
 obtain ⟨j, hj, rfl⟩ := Option.map_eq_some_iff.1 hi
 rw [List.getElem?_range (by by_cases h : i < n; exact h; simp [h] at hj)] at hj
 cases hj; rfl
theorem eachN_cases {M : List Nm} {nL b7 n : Nm} (h : n ∈ eachN M nL b7) : n = nL ∨ n = b7 ∨ n ∈ M := by
 simpa only [eachN, List.mem_cons] using h
section
variable {A1 : FuncId} {o nL b7 : Nm} {L0 L1 : Lt} {Q : Nat → Nm → Ob} {f0 : FuncId} {ps : Array Tmp} {assign body : Code} {d i : Nat}
theorem eachO_nL : eachO A1 o nL b7 L0 L1 Q f0 ps assign body d i nL = .loop (d + 1) .ready f0 ps assign body d (eachT A1 o b7 L0 L1) := extO_y _ _ _
theorem eachO_b7 (h : b7 ≠ nL) : eachO A1 o nL b7 L0 L1 Q f0 ps assign body d i b7 = .cells 89 [.fn (.func A1) [] [.ptr o 0]] := (extO_n h).trans (extO_y _ _ _)
theorem eachO_M {n : Nm} (h : n ≠ nL) (h' : n ≠ b7) : eachO A1 o nL b7 L0 L1 Q f0 ps assign body d i n = Q i n := (extO_n h).trans (extO_n h')
theorem eachO_cl {M : List Nm} {k : Nat} (hoM : o ∈ M) (hcl : ∀ k, (∀ n ∈ M, n.1 < k) → Cl k M (Q i)) (hk : ∀ n ∈ eachN M nL b7, n.1 < k) : Cl k (eachN M nL b7) (eachO A1 o nL b7 L0 L1 Q f0 ps assign body d i) := by
 have h1 := hk b7 (by simp [eachN])
 have h2 := hk o (by simp [eachN, hoM])
 have hM : Cl k M (Q i) := hcl k fun n hn => hk n (by simp [eachN, hn])
 intro n hn x hx
 by_cases e1 : n = nL
 ·subst e1
  rw [eachO_nL] at hx
  simp [Ob.names, eachT, namesL, AV.names, List.replicate] at hx
  rcases hx with rfl | rfl
  ·exact h2
  ·exact h1
 ·by_cases e2 : n = b7
  ·subst e2
   rw [eachO_b7 e1] at hx
   simp [Ob.names, namesL, AV.names] at hx
   subst hx; exact h2
  ·rw [eachO_M e1 e2] at hx
   rcases eachN_cases hn with h | h | h
   ·exact absurd h e1
   ·exact absurd h e2
   ·exact hM n h x hx
end
set_option maxRecDepth 20000 in
set_option maxHeartbeats 4000000 in
theorem ifEach_tri {A1 : FuncId} {o : Nm} {M : List Nm} {Q : Nat → Nm → Ob} (hoM : o ∈ M) (hent : enterOk Tryz.prog A1) (hcl : ∀ i k, (∀ n ∈ M, n.1 < k) → Cl k M (Q i)) (L0 L1 : Lt) {u : Tm} (hu : L1.a.us = [u]) (huu : u.us = []) (hb : L1.b.us = []) (ans : Nat → List Lt × Int)
  (hR : ∀ i, i < 6 → Tri Tryz.prog 24 [.d (.sl [clDV [L0], clDV [L1]]), .d (ifDV (tryN i))] (pure' (.tup [.d (clDV (ans i).1), iA (ans i).2])))
  (hD : ∀ i, i < 6 → ((ans i).2 = 0 ∧ Tri Tryz.prog A1 ([.d (ifDV (tryN i)), .d (clDV (ans i).1), iA 0] ++ [.ptr o 0]) (stE M (Q i) (Q (i + 1)) (.tup []))) ∨ ((ans i).2 ≠ 0 ∧ Q (i + 1) = Q i ∧ Tri Tryz.prog A1 ([.d (ifDV (tryN i)), .d (clDV (ans i).1), iA (ans i).2] ++ [.ptr o 0]) (stE M (Q i) (Q (i + 1)) (.tup [])))) :
  Tri Tryz.prog 46 [.d (.sl [clDV [L0], clDV [L1]]), iA 0, iA 1, .fn (.func A1) [] [.ptr o 0]] (stE M (Q 0) (Q 6) (.tup [])) := by
 refine tri_enterM Tryz.func46 rfl (by rw [Tryz.ntmps46]; simp only [List.length_cons, List.length_nil]; omega) fun w0 h0 k hrd hwr => ?_
 have hag : Ag k M (Q 0) h0 := ⟨fun n hn => ⟨hwr (n, some (Q 6 n)) (List.mem_map.2 ⟨n, hn, rfl⟩), hrd (n, some (Q 0 n)) (List.mem_map.2 ⟨n, hn, rfl⟩)⟩⟩
 have hT := tries_tri [[L0], [L1]] 0 1
 repeat' (first | refine awpM_seq_k fun K hK => ?_ | (refine awp_ghost (ghost_el (i := 4) (n := (k, 0)) (e := 25) (ds := [.sl [clDV [L0], clDV [L1]]]) ?_ ?_) ?_; (focus (simp only [go_sem, ]; done)); (focus (simp only [go_sem, ]; done)); simp only [go_sem]) | refine aQ fun K hK => ?_ | ((first | refine aK fun R hR => ?_ | refine aD mixed fun R hR => ?_); simp only [go_sem]) | ((first | (refine hR _ ?_; clear hR R) | refine aZ rfl ?_); try refine aP ?_) | ((repeat (fail_if_success refine hK _ ?_); clear hK K); refine hK _ ?_; clear hK K) | refine aT ?_ | refine aF ?_ | refine aB ?_ | ((first | refine CallK.pure (enter80) (hT) ?_ ?_ | refine CallD.pure (enter80) (hT) ?_ ?_); (focus exact aC); simp only [go_sem]) | refine aN ?_ | fail)
 generalize hs1 : St.mk _ _ _ = s1
 have hk2 : k < s1.k := by rw [← hs1]; show k < k + 1 + 1; omega
 have hf1 : Fr k h0 s1.h := by rw [← hs1]; dsimp only; exact frT
 have h7 : s1.h (k, 1) = some (.cells 89 [.fn (.func A1) [] [.ptr o 0]]) := by rw [← hs1]; simp only [go_sem, ]
 have hts : (List.range 33).map s1.t = eachT A1 o (k, 1) L0 L1 := by rw [← hs1]; rfl
 have h14 : s1.ev (.tmp 14) = triesV [[L0], [L1]] 0 1 := by rw [← hs1]; simp only [go_sem, ]
 clear hs1
 have hnL : (s1.k, 1) ∉ M := fun h => by have := (hag.get _ h).1; simp at this; omega
 have hb7 : (k, 1) ∉ M := fun h => by have := (hag.get _ h).1; simp at this
 have hn0 : (s1.k, 0) ∉ M := fun h => by have := (hag.get _ h).1; simp at this; omega
 have h7L : ((k, 1) : Nm) ≠ (s1.k, 1) := by simp; omega
 have h70 : ((k, 1) : Nm) ≠ (s1.k, 0) := by simp
 have h0L : ((s1.k, 0) : Nm) ≠ (s1.k, 1) := by simp
 have hneL : ∀ n ∈ M, n ≠ (s1.k, 1) := fun n hn e => hnL (by rw [← e]; exact hn)
 have hne0 : ∀ n ∈ M, n ≠ (s1.k, 0) := fun n hn e => hn0 (by rw [← e]; exact hn)
 have hne7 : ∀ n ∈ M, n ≠ (k, 1) := fun n hn e => hb7 (by rw [← e]; exact hn)
 have hok : o.1 < k := (hag.get o hoM).1
 have hcls : ∀ x : Lt, clDV [x] = .sl [ltDV x] := fun _ => rfl
 have hN0 : (s1.k, 0) ∉ eachN M (s1.k, 1) (k, 1) := fun h => by
  rcases eachN_cases h with h | h | h
  ·exact h0L h
  ·exact h70 h.symm
  ·exact hn0 h
 have hin : ∀ f0 d ps ac bd n, n ∈ eachN M (s1.k, 1) (k, 1) → loopH s1 f0 d ps ac bd (eachT A1 o (k, 1) L0 L1) n = some (eachO A1 o (s1.k, 1) (k, 1) L0 L1 Q f0 ps ac bd d 0 n) := by
  intro f0 d ps ac bd n hn
  rcases eachN_cases hn with h | h | h
  ·rw [h, eachO_nL]
   exact upd_self _ _ _
  ·rw [h, eachO_b7 h7L]
   exact ((upd_ne _ _ h7L).trans (upd_ne _ _ h70)).trans h7
  ·have h1 := (hag.get n h).1
   rw [eachO_M (hneL _ h) (hne7 _ h), ← (hag.get n h).2]
   exact ((upd_ne _ _ (hneL _ h)).trans (upd_ne _ _ (hne0 _ h))).trans (hf1 n h1)
 refine awpM_loop (ts := eachT A1 o (k, 1) L0 L1) (E := fun ps ac bd f0 d => stE (eachN M (s1.k, 1) (k, 1)) (eachO A1 o (s1.k, 1) (k, 1) L0 L1 Q f0 ps ac bd d 0) (eachO A1 o (s1.k, 1) (k, 1) L0 L1 Q f0 ps ac bd d 6) (.tup [])) h14 (by rfl) (enter109) (by rw [Tryz.ntmps46]; rfl) ?_ ?_ ?_ ?_ ?_ ?_ ?_ ?_
 ·exact map_at hts
 ·intro f0 d
  refine tries1_tri (List.cons_ne_nil _ _) (fun i k' hk' => ?_) L0 L1 hu huu hb (O := eachO A1 o (s1.k, 1) (k, 1) L0 L1 Q f0 _ _ _ d) fun i hi => ?_
  ·exact eachO_cl hoM (hcl i) hk'
  ·refine triY_of (nL := (s1.k, 1)) (ts := eachT A1 o (k, 1) L0 L1) (fn := f0) (d := d) (p := 15) (List.mem_map.2 ⟨(s1.k, 1), by simp [eachN], by rw [eachO_nL]⟩) (fun w1 h1 k1 hrd1 hwr1 hk1 => ?_) rfl
   have hagR : Ag k1 (eachN M (s1.k, 1) (k, 1)) (eachO A1 o (s1.k, 1) (k, 1) L0 L1 Q f0 _ _ _ d i) h1 := ⟨fun n hn => ⟨hwr1 _ (List.mem_map.2 ⟨n, hn, rfl⟩), hrd1 _ (List.mem_map.2 ⟨n, hn, rfl⟩)⟩⟩
   have eL := (hagR.get (s1.k, 1) (by simp [eachN])).2
   rw [eachO_nL] at eL
   obtain ⟨k7, e7⟩ := hagR.get (k, 1) (by simp [eachN])
   rw [eachO_b7 h7L] at e7
   have hM : ∀ n ∈ M, n.1 < k1 ∧ h1 n = some (Q i n) := fun n hn => by
    obtain ⟨q1, q2⟩ := hagR.get n (by simp [eachN, hn])
    exact ⟨q1, by rw [q2, eachO_M (hneL _ hn) (hne7 _ hn)]⟩
   have hNk1 : ∀ n ∈ eachN M (s1.k, 1) (k, 1), n.1 < k1 := fun n hn => (hagR.get n hn).1
   have fin : ∀ (ps : Array Tmp) (ac bd : Code) (hE : Heap), (∀ n ∈ M, hE n = some (Q (i + 1) n)) → hE (k, 1) = some (.cells 89 [.fn (.func A1) [] [.ptr o 0]]) → (∀ x, x.1 < k1 → x ∉ eachN M (s1.k, 1) (k, 1) → hE x = h1 x) →
     HeapOK k1 none (stE (eachN M (s1.k, 1) (k, 1)) (eachO A1 o (s1.k, 1) (k, 1) L0 L1 Q f0 ps ac bd d i) (eachO A1 o (s1.k, 1) (k, 1) L0 L1 Q f0 ps ac bd d (i + 1)) (bA true)) h1 (upd hE (s1.k, 1) (some (.loop (d + 1) .ready f0 ps ac bd d (eachT A1 o (k, 1) L0 L1)))) := by
    intro ps ac bd hE q1 q2 q3
    refine heapOK_st ⟨fun n hn => ⟨hNk1 n hn, ?_⟩⟩ (fun x hx hxn => ?_) (eachO_cl hoM (hcl (i + 1)) hNk1)
    ·rcases eachN_cases hn with h | h | h
     ·rw [h, eachO_nL]; exact upd_self _ _ _
     ·rw [h, eachO_b7 h7L]; exact (upd_ne _ _ h7L).trans q2
     ·rw [eachO_M (hneL _ h) (hne7 _ h)]; exact (upd_ne _ _ (hneL _ h)).trans (q1 n h)
    ·exact (upd_ne _ _ (fun e => hxn (by rw [e]; simp [eachN]))).trans (q3 x hx hxn)
   obtain ⟨t0, ht0⟩ : ∃ t0, t0 = slotsOf (eachT A1 o (k, 1) L0 L1) := ⟨_, rfl⟩
   have g4 : t0 4 = .el (.st [.sl [clDV [L0], clDV [L1]]]) 0 := by rw [ht0]; rfl
   have g7 : t0 7 = .ptr (k, 1) 0 := by rw [ht0]; rfl
   rw [← ht0, show (eachT A1 o (k, 1) L0 L1).length = 33 from rfl]
   have hne1 : ((s1.k, 1) : Nm) ≠ (k1, 0) := fun e => by rw [e] at hk1; simp at hk1
   have nL := nmne hk1
   have n7 := nmne k7
   repeat' (first | refine awpR_seq_k fun K hK => ?_ | ((first | refine awpR_region_k (by kernel_rfl) fun R hR => ?_ | refine awpR_draw mixed (by kernel_rfl) (by kernel_rfl) fun R hR => ?_); simp only [go_sem, g4, g7, nL, n7]) | ((first | (refine hR _ ?_; clear hR R) | refine awpR_skip ?_ | refine awpR_exit ?_ | refine awpR_ret ?_); try simp only [thenA, inBlockA, reduceIte, reduceCtorEq, Nat.reduceEqDiff, if_false, if_true]) | ((repeat (fail_if_success refine hK _ ?_); clear hK K); refine hK _ ?_; clear hK K) | refine awpR_true rfl rfl ?_ | refine awpR_false rfl rfl ?_ | refine awpR_block ?_ | refine aN ?_ | fail)
   refine ⟨(upd_ne _ _ hne1).trans ((upd_ne _ _ hne1).trans eL), ?_⟩
   have hRi := hR i hi
   generalize hst : St.mk _ _ _ = s2
   have hk3 : k1 < s2.k := by rw [← hst]; show k1 < k1 + 1; omega
   have q4 : s2.t 4 = .el (.st [.sl [clDV [L0], clDV [L1]]]) 0 := by rw [← hst]; simp only [go_sem, g4]
   have q7 : s2.t 7 = .ptr (k, 1) 0 := by rw [← hst]; simp only [go_sem, g7]
   have q8 : s2.t 8 = .ptr (k1, 0) 0 := by rw [← hst]; simp only [go_sem, ]
   have hne81 : ((k1, 0) : Nm) ≠ (s1.k, 1) := hne1.symm
   have h8 : s2.h (k1, 0) = some (.cells 40 ((ifDV (tryN i)).cells.map .d)) := by rw [← hst]; exact (upd_ne _ _ hne81).trans (upd_self _ _ _)
   have hold : ∀ x : Nm, x.1 < k1 → x ≠ (s1.k, 1) → s2.h x = h1 x := fun x hx hxn => by
    have e : x ≠ (k1, 0) := fun e => by rw [e] at hx; simp at hx
    rw [← hst]; exact ((upd_ne _ _ hxn).trans (upd_ne _ _ e)).trans (upd_ne _ _ e)
   have h7' := (hold (k, 1) k7 h7L).trans e7
   have hA2 : Ag s2.k M (Q i) s2.h := ⟨fun n hn => ⟨Nat.lt_trans (hM n hn).1 hk3, (hold n (hM n hn).1 (hneL n hn)).trans (hM n hn).2⟩⟩
   have hLb := congrArg (fun s : St => s.h (s1.k, 1)) hst
   simp only [upd_self] at hLb
   clear hst
   simp only [ifDV, DV.cells_st, List.map_cons, List.map_nil] at h8
   have n7' := nmne (show ((k, 1) : Nm).1 < s2.k by simp only at k7 ⊢; omega)
   have n8 := nmne (show ((k1, 0) : Nm).1 < s2.k from hk3)
   have hNs := notN hA2 (Nat.le_refl s2.k)
   rcases hD i hi with ⟨a0, hDo⟩ | ⟨a4, hQ4, hDo⟩
   ·rw [a0] at hRi
    repeat' (first | refine awpR_seq_k fun K hK => ?_ | ((first | refine awpR_region_k (by kernel_rfl) fun R hR => ?_ | refine awpR_draw mixed (by kernel_rfl) (by kernel_rfl) fun R hR => ?_); simp only [go_sem, q4, q7, q8, h7', h8, n7', n8, hNs]) | ((first | (refine hR _ ?_; clear hR R) | refine awpR_skip ?_ | refine awpR_exit ?_ | refine awpR_ret ?_); try simp only [thenA, inBlockA, reduceIte, reduceCtorEq, Nat.reduceEqDiff, if_false, if_true]) | ((repeat (fail_if_success refine hK _ ?_); clear hK K); refine hK _ ?_; clear hK K) | refine awpR_true rfl rfl ?_ | refine awpR_false rfl rfl ?_ | refine awpR_block ?_ | ((first | refine CallK.pure (enter24) (hRi) ?_ ?_ | refine CallD.pure (enter24) (hRi) ?_ ?_ | refine CallK.vchg rfl (hent) (hDo) ?_ (by assumption) frA ?_ | refine CallD.vchg rfl (hent) (hDo) ?_ (by assumption) frA (by assumption) ?_); (focus exact aC); simp only [go_sem, q4, q7, q8, h7', h8, n7', n8, hNs]) | refine aN ?_ | fail)
    refine ⟨?_, fin _ _ _ _ ?_ ?_ ?_⟩
    ·show stH M (Q (i + 1)) s2.h (s1.k, 1) = _
     rw [stH_get, if_neg hnL]; exact hLb.symm
    ·intro n hn
     show stH M (Q (i + 1)) s2.h n = _
     rw [stH_get, if_pos hn]
    ·show stH M (Q (i + 1)) s2.h (k, 1) = _
     rw [stH_get, if_neg hb7]; exact h7'
    ·intro x hx hxn
     show stH M (Q (i + 1)) s2.h x = _
     rw [stH_get, if_neg (fun h => hxn (by simp [eachN, h]))]
     exact hold x hx (fun e => hxn (by rw [e]; simp [eachN]))
   ·have h0 : ((ans i).2 == 0) = false := by simpa using a4
    cases h2 : ((ans i).2 == 2) with
    | true =>
     have e2 : (ans i).2 = 2 := by simpa using h2
     rw [e2] at hRi hDo
     repeat' (first | refine awpR_seq_k fun K hK => ?_ | ((first | refine awpR_region_k (by kernel_rfl) fun R hR => ?_ | refine awpR_draw mixed (by kernel_rfl) (by kernel_rfl) fun R hR => ?_); simp only [go_sem, q4, q7, q8, h7', h8, n7', n8, hNs]) | ((first | (refine hR _ ?_; clear hR R) | refine awpR_skip ?_ | refine awpR_exit ?_ | refine awpR_ret ?_); try simp only [thenA, inBlockA, reduceIte, reduceCtorEq, Nat.reduceEqDiff, if_false, if_true]) | ((repeat (fail_if_success refine hK _ ?_); clear hK K); refine hK _ ?_; clear hK K) | refine awpR_true rfl rfl ?_ | refine awpR_false rfl rfl ?_ | refine awpR_block ?_ | ((first | refine CallK.pure (enter24) (hRi) ?_ ?_ | refine CallD.pure (enter24) (hRi) ?_ ?_ | refine CallK.vchg rfl (hent) (hDo) ?_ (by assumption) frA ?_ | refine CallD.vchg rfl (hent) (hDo) ?_ (by assumption) frA (by assumption) ?_); (focus exact aC); simp only [go_sem, q4, q7, q8, h7', h8, n7', n8, hNs]) | refine aN ?_ | fail)
     refine ⟨?_, fin _ _ _ _ ?_ ?_ ?_⟩
     ·show stH M (Q (i + 1)) s2.h (s1.k, 1) = _
      rw [stH_get, if_neg hnL]; exact hLb.symm
     ·intro n hn
      show stH M (Q (i + 1)) s2.h n = _
      rw [stH_get, if_pos hn]
     ·show stH M (Q (i + 1)) s2.h (k, 1) = _
      rw [stH_get, if_neg hb7]; exact h7'
     ·intro x hx hxn
      show stH M (Q (i + 1)) s2.h x = _
      rw [stH_get, if_neg (fun h => hxn (by simp [eachN, h]))]
      exact hold x hx (fun e => hxn (by rw [e]; simp [eachN]))
    | false =>
     repeat' (first | refine awpR_seq_k fun K hK => ?_ | ((first | refine awpR_region_k (by kernel_rfl) fun R hR => ?_ | refine awpR_draw mixed (by kernel_rfl) (by kernel_rfl) fun R hR => ?_); simp only [go_sem, q4, q7, q8, h7', h8, n7', n8, hNs, h0, h2]) | ((first | (refine hR _ ?_; clear hR R) | refine awpR_skip ?_ | refine awpR_exit ?_ | refine awpR_ret ?_); try simp only [thenA, inBlockA, reduceIte, reduceCtorEq, Nat.reduceEqDiff, if_false, if_true]) | ((repeat (fail_if_success refine hK _ ?_); clear hK K); refine hK _ ?_; clear hK K) | refine awpR_true rfl rfl ?_ | refine awpR_false rfl rfl ?_ | refine awpR_block ?_ | ((first | refine CallK.pure (enter24) (hRi) ?_ ?_ | refine CallD.pure (enter24) (hRi) ?_ ?_); (focus exact aC); simp only [go_sem, q4, q7, q8, h7', h8, n7', n8, hNs, h0, h2]) | refine aN ?_ | fail)
     refine ⟨hLb.symm, fin _ _ _ _ ?_ ?_ ?_⟩
     ·intro n hn
      rw [hQ4]
      exact (hA2.get n hn).2
     ·exact h7'
     ·intro x hx hxn
      exact hold x hx (fun e => hxn (by rw [e]; simp [eachN]))
 ·intro f0 d x hx
  obtain ⟨n, hn, rfl⟩ := List.mem_map.1 hx
  exact hin f0 d _ _ _ n hn
 ·intro f0 d x hx
  obtain ⟨n, hn, rfl⟩ := List.mem_map.1 hx
  rw [hin f0 d _ _ _ n hn]; simp
 ·intro f0 d
  rw [stE_ap, if_neg hN0]
  exact (upd_ne _ _ h0L).trans (upd_self _ _ _)
 ·intro f0 d
  rw [stE_ap, if_pos (by simp [eachN]), eachO_nL]
 ·intro h k'
  rw [Tryz.results46]; trivial
 ·intro f0 d
  refine ret_st (by rw [Tryz.results46]; trivial) (by rw [Tryz.results46]; exact .refl fun n hn => by cases hn) ⟨fun n hn => ⟨(hag.get n hn).1, ?_⟩⟩ (fun x hx hxn => ?_) (hcl 6 k fun n hn => (hag.get n hn).1)
  ·refine ((upd_ne _ _ (hne0 _ hn)).trans (upd_ne _ _ (hneL _ hn))).trans ?_
   rw [stE_ap, if_pos (by simp [eachN, hn]), eachO_M (hneL _ hn) (hne7 _ hn)]
  ·have e0 : x ≠ (s1.k, 0) := fun e => by rw [e] at hx; simp at hx; omega
   have eL : x ≠ (s1.k, 1) := fun e => by rw [e] at hx; simp at hx; omega
   have e7 : x ≠ (k, 1) := fun e => by rw [e] at hx; simp at hx
   refine ((upd_ne _ _ e0).trans (upd_ne _ _ eL)).trans ?_
   rw [stE_ap, if_neg (fun h => by
    rcases eachN_cases h with h | h | h
    ·exact eL h
    ·exact e7 h
    ·exact hxn h)]
   exact ((upd_ne _ _ eL).trans (upd_ne _ _ e0)).trans (hf1 x hx)
end Go.Proofs.YtmeekpinkfpnhabGreat
namespace Go.Proofs.YtmeekpinkfpnhabGreat
def lookA {α : Type} (k : Int) : List (Int × α) → Option α
 | [] => none
 | p :: m => if k = p.1 then some p.2 else lookA k m
def putA {α : Type} (k : Int) (x : α) : List (Int × α) → List (Int × α)
 | [] => [(k, x)]
 | p :: m => if k = p.1 then (k, x) :: m else p :: putA k x m
def mapE' {α : Type} (f : α → DV) (l : List (Int × α)) : List (Int × DV) := l.map fun p => (p.1, f p.2)
theorem getM_A {α : Type} (f : α → DV) (k : Int) (l : List (Int × α)) : getM k (mapE' f l) = (lookA k l).map f := by
 induction l with
 | nil => rfl
 | cons p l ih =>
  simp only [mapE', List.map_cons, getM, lookA] at ih ⊢
  by_cases h : k = p.1
  ·rw [if_pos h, if_pos h]; rfl
  ·rw [if_neg h, if_neg h]; exact ih
theorem putM_A {α : Type} (f : α → DV) (k : Int) (x : α) (l : List (Int × α)) : putM k (f x) (mapE' f l) = mapE' f (putA k x l) := by
 induction l with
 | nil => rfl
 | cons p l ih =>
  simp only [mapE', List.map_cons, putM, putA] at ih ⊢
  by_cases h : k = p.1
  ·rw [if_pos h, if_pos h]; rfl
  ·rw [if_neg h, if_neg h, ih]; rfl
theorem lookB_A (k : Int) (b : Bs) : lookB k b = lookA k b := by
 induction b with
 | nil => rfl
 | cons p b ih => rw [lookB, lookA, ih]
def rootF : Nat → Bs → Tm → Option Tm
 | 0, _, _ => none
 | n + 1, b, t => if t.v > 0 then (match lookB t.v b with | none => some t | some x => if x.v = 0 then some t else rootF n b x) else some t
def anyO {S : Type} (step : Tm → S → Option (Bool × S)) : List Tm → S → Option (Bool × S)
 | [], s => some (false, s)
 | u :: us, s => match step u s with
  | none => none
  | some (true, s') => some (true, s')
  | some (false, s') => anyO step us s'
def eqO {S : Type} (step : Tm → Tm → S → Option (Bool × S)) : List Tm → List Tm → S → Option (Bool × S)
 | x :: xs, y :: ys, s => match step x y s with
  | none => none
  | some (true, s') => eqO step xs ys s'
  | some (false, s') => some (false, s')
 | _, _, s => some (true, s)
def leadsF : Nat → Bs → Int → Tm → List (Int × Bool) → Option (Bool × List (Int × Bool))
 | 0, _, _, _, _ => none
 | n + 1, b, v, t, met =>
  if t.v = 0 then anyO (leadsF n b v) t.us met
  else if t.v = v then some (true, met)
  else if lookA t.v met = some true then some (false, met)
  else match lookB t.v b with
   | none => some (false, putA t.v true met)
   | some x => leadsF n b v x (putA t.v true met)
def bindF (n : Nat) (b : Bs) (v : Int) (t : Tm) : Option (Bool × Bs) := (leadsF n (putA v t b) v t []).map fun r => (!r.1, putA v t b)
def oneV (one : Bs → Tm → Tm → Option (Bool × Bs)) (n : Nat) (b : Bs) (a c : Tm) : Option (Bool × Bs) :=
 if c.v = 0 then (match lookB a.v b with | some x => one b x c | none => bindF n b a.v c)
 else if a.v = c.v then some (true, b)
 else match lookB a.v b, lookB c.v b with
  | some x, some y => (match bindF n b c.v a with
   | none => none
   | some (false, b') => some (false, b')
   | some (true, b') => one b' x y)
  | some _, none => bindF n b c.v a
  | none, some _ => bindF n b a.v c
  | none, none => bindF n b (if c.v > a.v then c.v else a.v) (.mk (if c.v < a.v then c.v else a.v) 0 [])
def oneF : Nat → Bs → Tm → Tm → Option (Bool × Bs)
 | 0, _, _, _ => none
 | n + 1, b, x, y =>
  match rootF n b x, rootF n b y with
  | some a, some c =>
   if a.v = 0 ∧ c.v = 0 then
    if a.f = c.f then (if a.us.length = c.us.length then eqO (fun x y s => oneF n s x y) a.us c.us b else some (false, b)) else some (false, b)
   else if a.v = 0 then oneV (oneF n) n b c a else oneV (oneF n) n b a c
  | _, _ => none
def sizeL (step : Tm → List (Int × Int) → Option (Int × List (Int × Int))) : List Tm → Int → List (Int × Int) → Option (Int × List (Int × Int))
 | [], a, kn => some (a, kn)
 | u :: us, a, kn => match step u kn with
  | none => none
  | some r => sizeL step us (if 1000 < a + r.1 then 1000 else a + r.1) r.2
def sizeF : Nat → Bs → Tm → List (Int × Int) → Option (Int × List (Int × Int))
 | 0, _, _, _ => none
 | n + 1, b, t, kn =>
  if t.v > 0 then (match lookB t.v b with
   | none => some (1, kn)
   | some x => (match lookA t.v kn with
    | some s => some (s, kn)
    | none => (sizeF n b x kn).map fun r => (r.1, putA t.v r.1 r.2)))
  else sizeL (sizeF n b) t.us 1 kn
def thruS (thru : Tm → Tm) (b : Bs) (x : Tm) : Tm × Bool := match lookB x.v b with
 | some y => if x.v > 0 then (thru y, true) else (x, false)
 | none => (x, false)
def thruT : Nat → Bs → Tm → Tm
 | 0, _, t => t
 | n + 1, b, t => mapM (thruS (thruT n b) b) t
def thruOk : Nat → Bs → Tm → Bool
 | 0, _, _ => false
 | n + 1, b, t => (pre t).all fun x => match lookB x.v b with
  | some y => !decide (x.v > 0) || thruOk n b y
  | none => true
end Go.Proofs.YtmeekpinkfpnhabGreat
namespace Go.Proofs.YtmeekpinkfpnhabGreat
open Go.RowKit
theorem awp_loopN {P : Program} {w0 : World} {n : Nat} {Q : Exit → St → Prop} {s : St} {c : Code} (I : Nat → St → Prop) (h0 : ∃ j, I j s) (round : ∀ j s, I j s → awp P w0 n c (thenA (fun s' => ∃ j', j' < j ∧ I j' s') Q) s) : awp P w0 n (.loop c) Q s := by
 obtain ⟨j0, h0⟩ := h0
 intro m β a w h1 h2 h3 b k cs
 have key : ∀ N s m β a w, I N s → a.tmps.size = n → HRel P w0 s.h s.k m β w → TRel m β s.t a.tmps →
   ∃ e a' w', (∃ s' m' β', Q e s' ∧ a'.tmps.size = n ∧ a'.defers = a.defers ∧ s.k ≤ s'.k ∧ Goes P w0 m β s' m' β' a' w' ∧ ∀ x, x.1 < s.k → β x = none → β' x = none) ∧ Arrives P (lone (b.at a (.code c :: .inLoop c :: k)) cs w) b k cs e a' w' := by
  intro N
  induction N using Nat.strongRecOn with
  | _ N ih =>
   intro s m β a w hI h1 h2 h3
   obtain ⟨e, a₁, w₁, ⟨s', m', β', hq, g1, g2, g3, g4, g5⟩, harr⟩ := round N s hI m β a w h1 h2 h3 b (.inLoop c :: k) cs
   cases e with
   | normal =>
    obtain ⟨j', hlt, hI₁⟩ := hq
    obtain ⟨e₂, a₂, w₂, ⟨s'', m'', β'', hq₂, k1, k2, k3, k4, k5⟩, harr₂⟩ := ih j' hlt s' m' β' a₁ w₁ hI₁ g1 g4.heap g4.slots
    exact ⟨e₂, a₂, w₂, ⟨s'', m'', β'', hq₂, k1, k2.trans g2, by omega, ⟨g4.mem.trans k4.mem, g4.bl.trans k4.bl, k4.heap, k4.slots⟩, fun x hx h0 => k5 x (by omega) (g5 x hx h0)⟩, .of_steps (Steps.trans harr (.one step_inLoop)) harr₂⟩
   | exit id => exact ⟨_, a₁, w₁, ⟨s', m', β', hq, g1, g2, g3, g4, g5⟩, .pass (x := .inLoop c) rfl (fun _ _ => .inl (by simp)) harr⟩
   | goto l => exact ⟨_, a₁, w₁, ⟨s', m', β', hq, g1, g2, g3, g4, g5⟩, .pass (x := .inLoop c) rfl (fun _ _ => .inl (by simp)) harr⟩
   | ret => exact ⟨_, a₁, w₁, ⟨s', m', β', hq, g1, g2, g3, g4, g5⟩, .pass (x := .inLoop c) rfl (fun _ _ => .inl (by simp)) harr⟩
   | panic ch => exact ⟨_, a₁, w₁, ⟨s', m', β', hq, g1, g2, g3, g4, g5⟩, .pass (x := .inLoop c) rfl (fun _ _ => .inl (by simp)) harr⟩
   | outgrown => exact ⟨_, a₁, w₁, ⟨s', m', β', hq, g1, g2, g3, g4, g5⟩, .pass (x := .inLoop c) rfl (fun _ _ => .inl (by simp)) harr⟩
 obtain ⟨e, a', w', hq, harr⟩ := key j0 s m β a w h0 h1 h2 h3
 exact ⟨e, a', w', hq, .of_steps (.one step_loop) harr⟩
theorem lookB_key {v : Int} {b : Bs} {t : Tm} (h : lookB v b = some t) : getM v (bsE b) = some (tmDV t) := by rw [getM_bs, h]; rfl
theorem lookB_no {v : Int} {b : Bs} (h : lookB v b = none) : getM v (bsE b) = none := by rw [getM_bs, h]; rfl
abbrev unR (u mm : Nm) (b : Bs) : List (Nm × Ob) := [(u, .cells 161 [.map mm]), (mm, .map (bsE b))]
theorem unR_ok {u mm : Nm} {b : Bs} {k : Nat} {h : Heap} (h1 : u.1 < k) (h2 : mm.1 < k) (e1 : h u = some (.cells 161 [.map mm])) (e2 : h mm = some (.map (bsE b))) : RoOK k (unR u mm b) h := ⟨fun x hx => by
 simp only [List.mem_cons, List.not_mem_nil, or_false] at hx
 rcases hx with rfl | rfl
 ·exact ⟨h1, e1⟩
 ·exact ⟨h2, e2⟩⟩
theorem rootF_none {n : Nat} {b : Bs} {t : Tm} (hv : t.v > 0) (h : lookB t.v b = none) : rootF (n + 1) b t = some t := by rw [rootF, if_pos hv, h]
theorem rootF_term {n : Nat} {b : Bs} {t x : Tm} (hv : t.v > 0) (h : lookB t.v b = some x) (hx : x.v = 0) : rootF (n + 1) b t = some t := by rw [rootF, if_pos hv, h]; simp [hx]
theorem rootF_var {n : Nat} {b : Bs} {t x : Tm} (hv : t.v > 0) (h : lookB t.v b = some x) (hx : x.v ≠ 0) : rootF (n + 1) b t = rootF n b x := by rw [rootF, if_pos hv, h]; simp [hx]
set_option maxHeartbeats 2000000 in
set_option maxRecDepth 20000 in
theorem root_tri (u mm : Nm) (b : Bs) (n : Nat) (t r : Tm) (hr : rootF n b t = some r) : Tri Tryz.prog 138 [.ptr u 0, .d (tmDV t)] (rdE (unR u mm b) (.d (tmDV r))) := by
 refine aER Tryz.func138 rfl Tryz.ntmps138 fun w0 h0 k hro => ?_
 obtain ⟨n1, eu⟩ := hro.get _ (List.mem_cons_self ..)
 obtain ⟨n2, em⟩ := hro.get _ (List.mem_cons_of_mem _ (List.mem_cons_self ..))
 have q1 := nmne n1
 have q2 := nmne n2
 repeat' (first | refine aQ fun K hK => ?_ | ((first | refine aK fun R hR => ?_ | refine aD mixed fun R hR => ?_); simp only [go_sem]) | ((first | (refine hR _ ?_; clear hR R) | refine aZ rfl ?_); try refine aP ?_) | ((repeat (fail_if_success refine hK _ ?_); clear hK K); refine hK _ ?_; clear hK K) | refine aT ?_ | refine aF ?_ | refine aB ?_ | refine aN ?_ | fail)
 refine awp_loopN (fun j σ => ∃ t' : Tm, σ.t 0 = .ptr u 0 ∧ σ.t 3 = .ptr (k, 0) 0 ∧ σ.t 4 = .ptr (k, 1) 0 ∧ σ.h (k, 0) = some (.cells 63 [iA t'.v, iA t'.f, .d (.sl (t'.us.map tmDV))]) ∧ σ.h (k, 1) = some (.cells 63 [iA 0, iA 0, .nil]) ∧ Fr k h0 σ.h ∧ k < σ.k ∧ rootF j b t' = some r) ?_ ?_
 ·refine ⟨n, t, ?_⟩
  simp only [go_sem, ]
  and_intros; all_goals try (first | rfl | omega | assumption | exact anA)
 ·rintro j σ ⟨t', s0, s3, s4, sh, sh', hF, hk, hv⟩
  have eu' : σ.h u = some (.cells 161 [.map mm]) := (hF u n1).trans eu
  have em' : σ.h mm = some (.map (bsE b)) := (hF mm n2).trans em
  have hne := ltne hk
  have q3 := nmne (b := σ.k) (Nat.lt_trans n1 hk)
  have q4 := nmne (b := σ.k) (Nat.lt_trans n2 hk)
  cases j with
  | zero => simp [rootF] at hv
  | succ j =>
   cases hv0 : decide (t'.v > 0) with
   | false =>
    have : rootF (j + 1) b t' = some t' := by rw [rootF, if_neg (by simpa using hv0)]
    rw [this] at hv; cases hv
    repeat' (first | refine aQ fun K hK => ?_ | ((first | refine aK fun R hR => ?_ | refine aD mixed fun R hR => ?_); simp only [go_sem, s0, s3, s4, sh, sh', hv0, hne]) | ((first | (refine hR _ ?_; clear hR R) | refine aZ rfl ?_); try refine aP ?_) | ((repeat (fail_if_success refine hK _ ?_); clear hK K); refine hK _ ?_; clear hK K) | refine aT ?_ | refine aF ?_ | refine aB ?_ | refine aN ?_ | fail)
    (first | refine ret_pure ?_ ?_ ?_ | refine ret_ro ?_ ?_ ?_); focus exact (by simp only [Tryz.results138, resOkL, resOk, Tryz.ntmps138, List.toList_toArray]; first | decide | (simp only [go_sem, s4, sh', hne]; done) | (simp only [go_sem, s4, sh', hne]; and_intros <;> first | omega | rfl | decide))
    rotate_left; focus exact frA
    simp only [resA, resV, Tryz.results138, go_sem, s4, sh', hne]
    all_goals try exact coA
    all_goals exact co_tm' rfl
   | true =>
    have hv0' : t'.v > 0 := by simpa using hv0
    cases hb : lookB t'.v b with
    | none =>
     have hg := lookB_no hb
     rw [rootF_none hv0' hb] at hv; cases hv
     repeat' (first | refine aQ fun K hK => ?_ | ((first | refine aK fun R hR => ?_ | refine aD mixed fun R hR => ?_); simp only [go_sem, s0, s3, s4, sh, sh', hv0, hne, eu', em', q3, q4, hg, Option.isSome_none, AV.toD, Option.getD_none]) | ((first | (refine hR _ ?_; clear hR R) | refine aZ rfl ?_); try refine aP ?_) | ((repeat (fail_if_success refine hK _ ?_); clear hK K); refine hK _ ?_; clear hK K) | refine aT ?_ | refine aF ?_ | refine aB ?_ | refine aN ?_ | fail)
     (first | refine ret_pure ?_ ?_ ?_ | refine ret_ro ?_ ?_ ?_); focus exact (by simp only [Tryz.results138, resOkL, resOk, Tryz.ntmps138, List.toList_toArray]; first | decide | (simp only [go_sem, s4, sh', hne]; done) | (simp only [go_sem, s4, sh', hne]; and_intros <;> first | omega | rfl | decide))
     rotate_left; focus exact frA
     simp only [resA, resV, Tryz.results138, go_sem, s4, sh', hne]
     all_goals try exact coA
     all_goals exact co_tm' rfl
    | some x =>
     have hg := lookB_key hb
     cases hx : (x.v == 0) with
     | true =>
      rw [rootF_term hv0' hb (by simpa using hx)] at hv; cases hv
      repeat' (first | refine aQ fun K hK => ?_ | ((first | refine aK fun R hR => ?_ | refine aD mixed fun R hR => ?_); simp only [go_sem, s0, s3, s4, sh, sh', hv0, hne, eu', em', q3, q4, hg, hx, Option.isSome_some]) | ((first | (refine hR _ ?_; clear hR R) | refine aZ rfl ?_); try refine aP ?_) | ((repeat (fail_if_success refine hK _ ?_); clear hK K); refine hK _ ?_; clear hK K) | refine aT ?_ | refine aF ?_ | refine aB ?_ | refine aN ?_ | fail)
      (first | refine ret_pure ?_ ?_ ?_ | refine ret_ro ?_ ?_ ?_); focus exact (by simp only [Tryz.results138, resOkL, resOk, Tryz.ntmps138, List.toList_toArray]; first | decide | (simp only [go_sem, s4, sh', hne]; done) | (simp only [go_sem, s4, sh', hne]; and_intros <;> first | omega | rfl | decide))
      rotate_left; focus exact frA
      simp only [resA, resV, Tryz.results138, go_sem, s4, sh', hne]
      all_goals try exact coA
      all_goals exact co_tm' rfl
     | false =>
      rw [rootF_var hv0' hb (by simpa using hx)] at hv
      repeat' (first | refine aQ fun K hK => ?_ | ((first | refine aK fun R hR => ?_ | refine aD mixed fun R hR => ?_); simp only [go_sem, s0, s3, s4, sh, sh', hv0, hne, eu', em', q3, q4, hg, hx, Option.isSome_some]) | ((first | (refine hR _ ?_; clear hR R) | refine aZ rfl ?_); try refine aP ?_) | ((repeat (fail_if_success refine hK _ ?_); clear hK K); refine hK _ ?_; clear hK K) | refine aT ?_ | refine aF ?_ | refine aB ?_ | refine aN ?_ | fail)
      refine ⟨j, Nat.lt_succ_self j, x, ?_⟩
      simp only [go_sem, s0, s3, s4, sh, sh', hne]
      and_intros; all_goals try (first | rfl | omega | assumption | exact anA)
end Go.Proofs.YtmeekpinkfpnhabGreat
