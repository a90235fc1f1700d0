/- Texts: superposeref. -/
import Derived.Test.YtmeekpinkfpnhabDoorP07
import Derived.Test.YtmeekpinkfpnhabDoorP08
import Derived.Test.YtmeekpinkfpnhabDoorP09
import Derived.Test.YtmeekpinkfpnhabDoorP10
import Derived.Test.YtmeekpinkfpnhabDoorP11
set_option linter.all false
namespace Go.Proofs.YtmeekpinkfpnhabDoor
open Go.RowKit
abbrev tmO (t : Tm) : Ob := .cells 27 [iA t.v, iA t.f, .d (.sl (t.us.map tmDV))]
abbrev tmZ : Ob := .cells 27 [iA 0, iA 0, .nil]
set_option maxHeartbeats 1000000 in
set_option maxRecDepth 20000 in
theorem pterm1_tri (l : By) (hl : l.length ≤ 4000000) (f : Nat) (t : Tm) (j : Nat) (h : rdT l f 0 = some (t, j)) (rb tb : Nm) (hne : rb ≠ tb) : Tri Tryd.prog 32 [.ptr rb 0, .ptr tb 0] (stE [rb, tb] (fun x => if x = rb then rdO l 0 else tmZ) (fun x => if x = rb then rdO l j else tmO t) .junk) := by
 refine tri_enter_st Tryd.func32 rfl Tryd.ntmps32 (by simp only [List.length_cons, List.length_nil]; omega) fun w0 h0 k hag => ?_
 obtain ⟨hrb, er⟩ := hag.get rb (by simp)
 obtain ⟨htb, et⟩ := hag.get tb (by simp)
 rw [if_pos rfl, rdO_eq] at er
 rw [if_neg (Ne.symm hne)] at et
 have n1 : (rb = tb) = False := eq_false hne
 have n2 : (tb = rb) = False := eq_false (Ne.symm hne)
 have qr := nmne hrb
 have qt := nmne htb
 have hT := term_tri l hl f rb 0 t j (Nat.zero_le _) h
 repeat' (first | refine awp_seq_k fun K hK => ?_ | ((first | refine awp_region_k (by kernel_rfl) fun R hR => ?_ | refine awp_draw mixed (by kernel_rfl) (by kernel_rfl) fun R hR => ?_); simp only [go_sem, er, et, n1, n2, qr, qt]) | ((first | (refine hR _ ?_; clear hR R) | refine awp_skip ?_ | refine awp_exit ?_ | refine awp_ret ?_); try simp only [thenA, inBlockA, reduceIte, reduceCtorEq, Nat.reduceEqDiff, if_false, if_true]) | ((first | refine hK _ ?_ | (clear hK K; first | refine hK _ ?_ | (clear hK K; first | refine hK _ ?_ | (clear hK K; first | refine hK _ ?_ | (clear hK K; refine hK _ ?_))))); clear hK K) | refine awp_true rfl rfl ?_ | refine awp_false rfl rfl ?_ | refine awp_block ?_ | ((first | refine CallK.chg (enter33) (hT) ?_ (agRd hrb (by first | (simp only [go_sem, er, qr]; done) | fail)) (Fr.rfl' _ _) ?_ | refine CallD.chg (enter33) (hT) ?_ (agRd hrb (by first | (simp only [go_sem, er, qr]; done) | fail)) (Fr.rfl' _ _) (by first | assumption | exact List.cons_ne_nil _ _) ?_); (focus first | ((repeat (first | exact trivial | refine ⟨(by first | exact Or.inl rfl | exact Or.inr rfl), ?_⟩)); done) | (simp only [coL, AV.dat, true_or, or_true, AV.d.injEq, go_sem]; done)); simp only [go_sem, er, et, n1, n2, qr, qt]) | refine And.intro (by first | ((repeat' first | omega | exact trivial | rfl | assumption | (intro a e; subst e; rfl) | exact map_sz fun a => (by simp only [go_sem]) | refine And.intro ?_ ?_); done) | fail) ?_ | fail)
 refine (ret_st (fn := Tryd.f32) (v := .junk) trivial .junk ?_ ?_ ?_).2
 ·refine ⟨fun n hn => ?_⟩
  simp only [List.mem_cons, List.not_mem_nil, or_false] at hn
  rcases hn with rfl | rfl
  ·exact ⟨hrb, by simp only [go_sem, n1, n2]⟩
  ·exact ⟨htb, by simp only [go_sem, n1, n2, if_neg (Ne.symm hne)]⟩
 ·intro x hx hn
  have qx := nmne hx
  have hn : x ≠ rb ∧ x ≠ tb := by simpa using hn
  have x1 : (x = rb) = False := eq_false hn.1
  have x2 : (x = tb) = False := eq_false hn.2
  simp only [go_sem, qx, x1, x2]
 ·intro n hn x hx
  simp only at hx
  split at hx
  ·simp [rdO, Ob.names, namesL, AV.names] at hx
  ·simp [Ob.names, namesL, AV.names] at hx
abbrev clO1 (c : List Lt) : Ob := .cells 29 [.d (clDV c)]
abbrev clZ : Ob := .cells 29 [.nil]
set_option maxHeartbeats 1000000 in
set_option maxRecDepth 20000 in
theorem pclause1_tri (l : By) (hl : l.length ≤ 4000000) (f Q : Nat) (hQ : Q ≤ 4000000) (c : List Lt) (j : Nat) (h : rdK l f Q 0 = some (c, j)) (rb tb : Nm) (hne : rb ≠ tb) : Tri Tryd.prog 35 [.ptr rb 0, .ptr tb 0] (stE [rb, tb] (fun x => if x = rb then rdO l 0 else clZ) (fun x => if x = rb then rdO l j else clO1 c) .junk) := by
 refine tri_enter_st Tryd.func35 rfl Tryd.ntmps35 (by simp only [List.length_cons, List.length_nil]; omega) fun w0 h0 k hag => ?_
 obtain ⟨hrb, er⟩ := hag.get rb (by simp)
 obtain ⟨htb, et⟩ := hag.get tb (by simp)
 rw [if_pos rfl, rdO_eq] at er
 rw [if_neg (Ne.symm hne)] at et
 have n1 : (rb = tb) = False := eq_false hne
 have n2 : (tb = rb) = False := eq_false (Ne.symm hne)
 have qr := nmne hrb
 have qt := nmne htb
 have hT := clause_tri l hl f Q hQ rb 0 j c (Nat.zero_le _) h
 repeat' (first | refine awp_seq_k fun K hK => ?_ | ((first | refine awp_region_k (by kernel_rfl) fun R hR => ?_ | refine awp_draw mixed (by kernel_rfl) (by kernel_rfl) fun R hR => ?_); simp only [go_sem, er, et, n1, n2, qr, qt]) | ((first | (refine hR _ ?_; clear hR R) | refine awp_skip ?_ | refine awp_exit ?_ | refine awp_ret ?_); try simp only [thenA, inBlockA, reduceIte, reduceCtorEq, Nat.reduceEqDiff, if_false, if_true]) | ((first | refine hK _ ?_ | (clear hK K; first | refine hK _ ?_ | (clear hK K; first | refine hK _ ?_ | (clear hK K; first | refine hK _ ?_ | (clear hK K; refine hK _ ?_))))); clear hK K) | refine awp_true rfl rfl ?_ | refine awp_false rfl rfl ?_ | refine awp_block ?_ | ((first | refine CallK.chg (enter36) (hT) ?_ (agRd hrb (by first | (simp only [go_sem, er, qr]; done) | fail)) (Fr.rfl' _ _) ?_ | refine CallD.chg (enter36) (hT) ?_ (agRd hrb (by first | (simp only [go_sem, er, qr]; done) | fail)) (Fr.rfl' _ _) (by first | assumption | exact List.cons_ne_nil _ _) ?_); (focus first | ((repeat (first | exact trivial | refine ⟨(by first | exact Or.inl rfl | exact Or.inr rfl), ?_⟩)); done) | (simp only [coL, AV.dat, true_or, or_true, AV.d.injEq, go_sem]; done)); simp only [go_sem, er, et, n1, n2, qr, qt]) | refine And.intro (by first | ((repeat' first | omega | exact trivial | rfl | assumption | (intro a e; subst e; rfl) | exact map_sz fun a => (by simp only [go_sem]) | refine And.intro ?_ ?_); done) | fail) ?_ | fail)
 refine (ret_st (fn := Tryd.f35) (v := .junk) trivial .junk ?_ ?_ ?_).2
 ·refine ⟨fun n hn => ?_⟩
  simp only [List.mem_cons, List.not_mem_nil, or_false] at hn
  rcases hn with rfl | rfl
  ·exact ⟨hrb, by simp only [go_sem, n1, n2]⟩
  ·exact ⟨htb, by simp only [go_sem, n1, n2, if_neg (Ne.symm hne)]⟩
 ·intro x hx hn
  have qx := nmne hx
  have hn : x ≠ rb ∧ x ≠ tb := by simpa using hn
  have x1 : (x = rb) = False := eq_false hn.1
  have x2 : (x = tb) = False := eq_false hn.2
  simp only [go_sem, qx, x1, x2]
 ·intro n hn x hx
  simp only at hx
  split at hx
  ·simp [rdO, Ob.names, namesL, AV.names] at hx
  ·simp [Ob.names, namesL, AV.names] at hx
theorem ag1 {tb : Nm} {k : Nat} {h : Heap} {A : Ob} (h2 : tb.1 < k) (e2 : h tb = some A) : Ag k [tb] (fun _ => A) h := by
 refine ⟨fun n hn => ?_⟩
 simp only [List.mem_cons, List.not_mem_nil, or_false] at hn
 subst hn
 exact ⟨h2, e2⟩
set_option maxHeartbeats 2000000 in
set_option maxRecDepth 20000 in
theorem parseTerm_ok (g : List Int) (hg : sigOk g = 0) (l : By) (hl : l.length ≤ 3000) (f : Nat) (t : Tm) (h : rdT l f 0 = some (t, l.length)) (ho : own g t = 0) : Tri Tryd.prog 14 [.d (sgDV g), sA l] (pure' (.tup [.d (tmDV t), iA 0])) := by
 refine tri_enter Tryd.func14 rfl Tryd.ntmps14 (by simp only [List.length_cons, List.length_nil]; omega) fun w0 h0 k hrd hwr => ?_
 have hREAD := read_tri g hg l hl 32 (enter32) [.ptr (k + 1, 0) 0] (k + 1, 0) tmZ (tmO t) (by simp [Ob.names, namesL, AV.names]) fun rb hne => pterm1_tri l (by omega) f t l.length h rb (k + 1, 0) hne
 have hw := own_tri g t
 rw [ho] at hw
 repeat' (first | refine awp_seq_k fun K hK => ?_ | ((first | refine awp_region_k (by kernel_rfl) fun R hR => ?_ | refine awp_draw mixed (by kernel_rfl) (by kernel_rfl) fun R hR => ?_); simp only [go_sem, beq_self_eq_true, bne_self_eq_false]) | ((first | (refine hR _ ?_; clear hR R) | refine awp_skip ?_ | refine awp_exit ?_ | refine awp_ret ?_); try simp only [thenA, inBlockA, reduceIte, reduceCtorEq, Nat.reduceEqDiff, if_false, if_true]) | ((first | refine hK _ ?_ | (clear hK K; first | refine hK _ ?_ | (clear hK K; first | refine hK _ ?_ | (clear hK K; first | refine hK _ ?_ | (clear hK K; refine hK _ ?_))))); clear hK K) | refine awp_true rfl rfl ?_ | refine awp_false rfl rfl ?_ | refine awp_block ?_ | ((first | refine CallK.chg (enter31) (hREAD) ?_ (ag1 (k := k + 1 + 1 + 1) (by simp only; omega) (by first | (simp only [go_sem, ]; done) | (simp only [go_sem, ]; rfl) | fail)) (Fr.rfl' _ _) ?_ | refine CallD.chg (enter31) (hREAD) ?_ (ag1 (k := k + 1 + 1 + 1) (by simp only; omega) (by first | (simp only [go_sem, ]; done) | (simp only [go_sem, ]; rfl) | fail)) (Fr.rfl' _ _) (by first | assumption | exact List.cons_ne_nil _ _) ?_ | refine CallK.pure (enter34) (hw) ?_ ?_ | refine CallD.pure (enter34) (hw) ?_ ?_); (focus first | ((repeat (first | exact trivial | refine ⟨(by first | exact Or.inl rfl | exact Or.inr rfl), ?_⟩)); done) | (simp only [coL, AV.dat, true_or, or_true, AV.d.injEq, go_sem]; done)); simp only [go_sem, beq_self_eq_true, bne_self_eq_false]) | refine And.intro (by first | ((repeat' first | omega | exact trivial | rfl | assumption | (intro a e; subst e; rfl) | exact map_sz fun a => (by simp only [go_sem]) | refine And.intro ?_ ?_); done) | fail) ?_ | fail)
 (first | refine ret_pure ?_ ?_ ?_ | refine ret_ro ?_ ?_ ?_); focus exact (by simp only [Tryd.results14, resOkL, resOk, Tryd.ntmps14, List.toList_toArray]; first | decide | (simp only [go_sem]; done) | (simp only [go_sem]; and_intros <;> first | omega | rfl | decide))
 rotate_left; focus exact (by repeat (first | exact Fr.rfl' _ _ | assumption | refine Fr.updk ?_ (by omega) _ | refine Fr.stH ?_ _ (by intro n hn; simp only [List.mem_cons, List.not_mem_nil, or_false] at hn; subst hn; simp only; omega)))
 simp only [resA, resV, Tryd.results14, go_sem]
 all_goals try (first | exact Co.t2 (.dat rfl) (.dat rfl) | exact Co.t3 (.dat rfl) (.dat rfl) (.dat rfl))
 exact Co.t2 (by have := co_tm (k := k) (ren := none) (v := t.v) (f := t.f) (us := t.us) (a := .d (.sl (t.us.map tmDV))) rfl; rwa [t.eta] at this) (.dat rfl)
set_option maxHeartbeats 2000000 in
set_option maxRecDepth 20000 in
theorem parseClause_ok (g : List Int) (hg : sigOk g = 0) (l : By) (hl : l.length ≤ 3000) (f Q : Nat) (hQ : Q ≤ 4000000) (c : List Lt) (hcl : c.length ≤ 4000000) (h : rdK l f Q 0 = some (c, l.length)) (ho : clOk g c = 0) : Tri Tryd.prog 15 [.d (sgDV g), sA l] (pure' (.tup [.d (clDV c), iA 0])) := by
 refine tri_enter Tryd.func15 rfl Tryd.ntmps15 (by simp only [List.length_cons, List.length_nil]; omega) fun w0 h0 k hrd hwr => ?_
 have hREAD := read_tri g hg l hl 35 (enter35) [.ptr (k + 1, 0) 0] (k + 1, 0) clZ (clO1 c) (by simp [Ob.names, namesL, AV.names]) fun rb hne => pclause1_tri l (by omega) f Q hQ c l.length h rb (k + 1, 0) hne
 have hw := right_tri g c hcl
 rw [ho] at hw
 repeat' (first | refine awp_seq_k fun K hK => ?_ | ((first | refine awp_region_k (by kernel_rfl) fun R hR => ?_ | refine awp_draw mixed (by kernel_rfl) (by kernel_rfl) fun R hR => ?_); simp only [go_sem, beq_self_eq_true, bne_self_eq_false]) | ((first | (refine hR _ ?_; clear hR R) | refine awp_skip ?_ | refine awp_exit ?_ | refine awp_ret ?_); try simp only [thenA, inBlockA, reduceIte, reduceCtorEq, Nat.reduceEqDiff, if_false, if_true]) | ((first | refine hK _ ?_ | (clear hK K; first | refine hK _ ?_ | (clear hK K; first | refine hK _ ?_ | (clear hK K; first | refine hK _ ?_ | (clear hK K; refine hK _ ?_))))); clear hK K) | refine awp_true rfl rfl ?_ | refine awp_false rfl rfl ?_ | refine awp_block ?_ | ((first | refine CallK.chg (enter31) (hREAD) ?_ (ag1 (k := k + 1 + 1 + 1) (by simp only; omega) (by first | (simp only [go_sem, ]; done) | (simp only [go_sem, ]; rfl) | fail)) (Fr.rfl' _ _) ?_ | refine CallD.chg (enter31) (hREAD) ?_ (ag1 (k := k + 1 + 1 + 1) (by simp only; omega) (by first | (simp only [go_sem, ]; done) | (simp only [go_sem, ]; rfl) | fail)) (Fr.rfl' _ _) (by first | assumption | exact List.cons_ne_nil _ _) ?_ | refine CallK.pure (enter23) (hw) ?_ ?_ | refine CallD.pure (enter23) (hw) ?_ ?_); (focus first | ((repeat (first | exact trivial | refine ⟨(by first | exact Or.inl rfl | exact Or.inr rfl), ?_⟩)); done) | (simp only [coL, AV.dat, true_or, or_true, AV.d.injEq, go_sem]; done)); simp only [go_sem, beq_self_eq_true, bne_self_eq_false]) | refine And.intro (by first | ((repeat' first | omega | exact trivial | rfl | assumption | (intro a e; subst e; rfl) | exact map_sz fun a => (by simp only [go_sem]) | refine And.intro ?_ ?_); done) | fail) ?_ | fail)
 (first | refine ret_pure ?_ ?_ ?_ | refine ret_ro ?_ ?_ ?_); focus exact (by simp only [Tryd.results15, resOkL, resOk, Tryd.ntmps15, List.toList_toArray]; first | decide | (simp only [go_sem]; done) | (simp only [go_sem]; and_intros <;> first | omega | rfl | decide))
 rotate_left; focus exact (by repeat (first | exact Fr.rfl' _ _ | assumption | refine Fr.updk ?_ (by omega) _ | refine Fr.stH ?_ _ (by intro n hn; simp only [List.mem_cons, List.not_mem_nil, or_false] at hn; subst hn; simp only; omega)))
 simp only [resA, resV, Tryd.results15, go_sem]
 all_goals try (first | exact Co.t2 (.dat rfl) (.dat rfl) | exact Co.t3 (.dat rfl) (.dat rfl) (.dat rfl))
theorem co_s {k : Nat} {a b : By} (h : a = b) : Co k none (sA a) (sA b) := by rw [h]; exact .dat rfl
def WriteSpec (t : Tm) : Prop := smT t → t.size ≤ 4000000 → Tri Tryd.prog 21 [.d (tmDV t)] (pure' (sA (tmT t)))
set_option maxHeartbeats 2000000 in
set_option maxRecDepth 20000 in
theorem write_step (t : Tm) (ih : ∀ u ∈ t.us, WriteSpec u) : WriteSpec t := by
 intro hs hsz
 obtain ⟨v0, v1, f0, f1⟩ := smT_self hs
 have hlen := t.len_lt
 have hdv : (dig t.v).length ≤ 20 := dig_len (n := t.v.toNat) (by omega)
 have hdf : (dig t.f).length ≤ 20 := dig_len (n := t.f.toNat) (by omega)
 rw [tmT_eq]
 refine tri_enter Tryd.func21 rfl Tryd.ntmps21 (by simp only [List.length_cons, List.length_nil]; omega) fun w0 h0 k hrd hwr => ?_
 cases hv : decide (t.v > 0) with
 | true =>
  have hv' : t.v > 0 := by simpa using hv
  rw [if_pos hv']
  repeat' (first | refine awp_seq_k fun K hK => ?_ | ((first | refine awp_region_k (by kernel_rfl) fun R hR => ?_ | refine awp_draw mixed (by kernel_rfl) (by kernel_rfl) fun R hR => ?_); simp only [go_sem, hv]) | ((first | (refine hR _ ?_; clear hR R) | refine awp_skip ?_ | refine awp_exit ?_ | refine awp_ret ?_); try simp only [thenA, inBlockA, reduceIte, reduceCtorEq, Nat.reduceEqDiff, if_false, if_true]) | ((first | refine hK _ ?_ | (clear hK K; first | refine hK _ ?_ | (clear hK K; first | refine hK _ ?_ | (clear hK K; first | refine hK _ ?_ | (clear hK K; refine hK _ ?_))))); clear hK K) | refine awp_true rfl rfl ?_ | refine awp_false rfl rfl ?_ | refine awp_block ?_ | ((first | refine CallK.pure (enter39) (itoa_tri t.v (by omega) (by omega)) ?_ ?_ | refine CallD.pure (enter39) (itoa_tri t.v (by omega) (by omega)) ?_ ?_); (focus first | ((repeat (first | exact trivial | refine ⟨(by first | exact Or.inl rfl | exact Or.inr rfl), ?_⟩)); done) | (simp only [coL, AV.dat, true_or, or_true, AV.d.injEq, go_sem]; done)); simp only [go_sem, hv]) | refine And.intro (by first | ((repeat' first | omega | exact trivial | rfl | assumption | (intro a e; subst e; rfl) | exact map_sz fun a => (by simp only [go_sem]) | refine And.intro ?_ ?_); done) | fail) ?_ | fail)
  (first | refine ret_pure ?_ ?_ ?_ | refine ret_ro ?_ ?_ ?_); focus exact (by simp only [Tryd.results21, resOkL, resOk, Tryd.ntmps21, List.toList_toArray]; first | decide | (simp only [go_sem]; done) | (simp only [go_sem]; and_intros <;> first | omega | rfl | decide))
  rotate_left; focus exact (by repeat (first | exact Fr.rfl' _ _ | assumption | refine Fr.updk ?_ (by omega) _))
  simp only [resA, resV, Tryd.results21, go_sem]
  all_goals try (first | exact Co.t2 (.dat rfl) (.dat rfl) | exact Co.t3 (.dat rfl) (.dat rfl) (.dat rfl))
  exact co_s rfl
 | false =>
  have hv' : ¬ t.v > 0 := by simpa using hv
  rw [if_neg hv']
  cases he : decide (((t.us.length : Nat) : Int) = 0) with
  | true =>
   have he' : t.us = [] := by simpa using he
   have he2 : (((t.us.length : Nat) : Int) == 0) = true := by rw [he']; rfl
   have e4 : argT t.us = [] := by rw [he']; rfl
   rw [e4, List.append_nil]
   repeat' (first | refine awp_seq_k fun K hK => ?_ | ((first | refine awp_region_k (by kernel_rfl) fun R hR => ?_ | refine awp_draw mixed (by kernel_rfl) (by kernel_rfl) fun R hR => ?_); simp only [go_sem, hv, he2]) | ((first | (refine hR _ ?_; clear hR R) | refine awp_skip ?_ | refine awp_exit ?_ | refine awp_ret ?_); try simp only [thenA, inBlockA, reduceIte, reduceCtorEq, Nat.reduceEqDiff, if_false, if_true]) | ((first | refine hK _ ?_ | (clear hK K; first | refine hK _ ?_ | (clear hK K; first | refine hK _ ?_ | (clear hK K; first | refine hK _ ?_ | (clear hK K; refine hK _ ?_))))); clear hK K) | refine awp_true rfl rfl ?_ | refine awp_false rfl rfl ?_ | refine awp_block ?_ | ((first | refine CallK.pure (enter39) (itoa_tri t.f (by omega) (by omega)) ?_ ?_ | refine CallD.pure (enter39) (itoa_tri t.f (by omega) (by omega)) ?_ ?_); (focus first | ((repeat (first | exact trivial | refine ⟨(by first | exact Or.inl rfl | exact Or.inr rfl), ?_⟩)); done) | (simp only [coL, AV.dat, true_or, or_true, AV.d.injEq, go_sem]; done)); simp only [go_sem, hv, he2]) | refine And.intro (by first | ((repeat' first | omega | exact trivial | rfl | assumption | (intro a e; subst e; rfl) | exact map_sz fun a => (by simp only [go_sem]) | refine And.intro ?_ ?_); done) | fail) ?_ | fail)
   (first | refine ret_pure ?_ ?_ ?_ | refine ret_ro ?_ ?_ ?_); focus exact (by simp only [Tryd.results21, resOkL, resOk, Tryd.ntmps21, List.toList_toArray]; first | decide | (simp only [go_sem]; done) | (simp only [go_sem]; and_intros <;> first | omega | rfl | decide))
   rotate_left; focus exact (by repeat (first | exact Fr.rfl' _ _ | assumption | refine Fr.updk ?_ (by omega) _))
   simp only [resA, resV, Tryd.results21, go_sem]
   all_goals try (first | exact Co.t2 (.dat rfl) (.dat rfl) | exact Co.t3 (.dat rfl) (.dat rfl) (.dat rfl))
   exact co_s rfl
  | false =>
   have he' : t.us ≠ [] := by intro h; rw [h] at he; simp at he
   have he2 : (((t.us.length : Nat) : Int) == 0) = false := by
    have : t.us.length ≠ 0 := by simpa using he'
    simpa using this
   have e4 : argT t.us = 40 :: Lib.join (t.us.map tmT) [44] ++ [41] := by unfold argT; rw [if_neg he']
   have hj := join_sum [44] (t.us.map tmT)
   have hj2 : ((t.us.map tmT).map fun x => x.length + ([44] : By).length).sum ≤ (t.us.map fun u => 26 * u.size).sum := by
    rw [List.map_map]
    exact sum_le fun u hu => tmT_len u (smT_arg hs hu)
   rw [sum_mul] at hj2
   have hts : t.size = 1 + (t.us.map Tm.size).sum := by cases t; rw [Tm.size, Tm.sizes_sum]; rfl
   rw [e4]
   repeat' (first | refine awp_ghost (ghost_nil (i := 4) (e := 9) rfl) ?_ | refine awp_seq_k fun K hK => ?_ | ((first | refine awp_region_k (by kernel_rfl) fun R hR => ?_ | refine awp_draw mixed (by kernel_rfl) (by kernel_rfl) fun R hR => ?_); simp only [go_sem, hv, he2]) | ((first | (refine hR _ ?_; clear hR R) | refine awp_skip ?_ | refine awp_exit ?_ | refine awp_ret ?_); try simp only [thenA, inBlockA, reduceIte, reduceCtorEq, Nat.reduceEqDiff, if_false, if_true]) | ((first | refine hK _ ?_ | (clear hK K; first | refine hK _ ?_ | (clear hK K; first | refine hK _ ?_ | (clear hK K; first | refine hK _ ?_ | (clear hK K; refine hK _ ?_))))); clear hK K) | refine awp_true rfl rfl ?_ | refine awp_false rfl rfl ?_ | refine awp_block ?_ | ((first | refine CallK.pure (enter39) (itoa_tri t.f (by omega) (by omega)) ?_ ?_ | refine CallD.pure (enter39) (itoa_tri t.f (by omega) (by omega)) ?_ ?_); (focus first | ((repeat (first | exact trivial | refine ⟨(by first | exact Or.inl rfl | exact Or.inr rfl), ?_⟩)); done) | (simp only [coL, AV.dat, true_or, or_true, AV.d.injEq, go_sem]; done)); simp only [go_sem, hv, he2]) | refine And.intro (by first | ((repeat' first | omega | exact trivial | rfl | assumption | (intro a e; subst e; rfl) | exact map_sz fun a => (by simp only [go_sem]) | refine And.intro ?_ ?_); done) | fail) ?_ | fail)
   refine awp_loop (fun σ => ∃ i : Nat, σ.t 3 = sA (102 :: dig t.f) ∧ σ.t 4 = .own (k + 1 + 1 + 1 + 1 + 1, 0) (((t.us.take i).map tmT).map sD) ∧ σ.t 24 = .d (.sl (t.us.map tmDV)) ∧ σ.t 25 = iA t.us.length ∧ σ.t 26 = iA i ∧ σ.h (k + 1 + 1 + 1 + 1 + 1, 0) = some (.perm 9 i) ∧ Fr k h0 σ.h ∧ k + 1 + 1 + 1 + 1 + 1 < σ.k ∧ i ≤ t.us.length) (fun σ => t.us.length - (intOf' (σ.t 26)).toNat) ?_ ?_
   ·refine ⟨0, ?_⟩
    simp only [go_sem, List.take_zero]
    and_intros; all_goals try (first | rfl | omega | assumption | ((repeat (first | exact Fr.rfl' _ _ | assumption | refine Fr.updk ?_ (by omega) _)); done))
   ·rintro σ ⟨i, s3, s4, s24, s25, s26, sh, hF, hk, hi⟩
    have hne := ltne (show k + 1 + 1 + 1 + 1 + 1 < σ.k by omega)
    have hml : (((t.us.take i).map tmT).map sD).length = i := by simp; omega
    rcases Nat.lt_or_ge i t.us.length with hlt | hge
    ·have hz : (i : Int) < (t.us.length : Int) := by omega
     have e1 : (t.us.map tmDV).getD i default = tmDV t.us[i] := nth_map tmDV hlt _
     have hs1 := Tm.size_at hlt
     have h2 := ih _ (List.getElem_mem hlt) (smT_arg hs (List.getElem_mem hlt)) (by omega)
     have etk : ((t.us.take i).map tmT).map sD ++ [sD (tmT t.us[i])] = ((t.us.take (i + 1)).map tmT).map sD := by rw [List.take_succ_eq_append_getElem hlt, List.map_append, List.map_append]; rfl
     have htl : (t.us.take (i + 1)).length = i + 1 := by rw [List.length_take]; omega
     repeat' (first | refine awp_seq_k fun K hK => ?_ | ((first | refine awp_region_k (by kernel_rfl) fun R hR => ?_ | refine awp_draw mixed (by kernel_rfl) (by kernel_rfl) fun R hR => ?_); simp only [go_sem, s3, s4, s24, s25, s26, sh, hz, e1, hne, hml, List.length_map, Int.toNat_natCast]) | ((first | (refine hR _ ?_; clear hR R) | refine awp_skip ?_ | refine awp_exit ?_ | refine awp_ret ?_); try simp only [thenA, inBlockA, reduceIte, reduceCtorEq, Nat.reduceEqDiff, if_false, if_true]) | ((first | refine hK _ ?_ | (clear hK K; first | refine hK _ ?_ | (clear hK K; first | refine hK _ ?_ | (clear hK K; first | refine hK _ ?_ | (clear hK K; refine hK _ ?_))))); clear hK K) | refine awp_true rfl rfl ?_ | refine awp_false rfl rfl ?_ | refine awp_block ?_ | ((first | refine CallK.pure (enter21) (h2) ?_ ?_ | refine CallD.pure (enter21) (h2) ?_ ?_); (focus first | ((repeat (first | exact trivial | refine ⟨(by first | exact Or.inl rfl | exact Or.inr rfl), ?_⟩)); done) | (simp only [coL, AV.dat, true_or, or_true, AV.d.injEq, go_sem]; done)); simp only [go_sem, s3, s4, s24, s25, s26, sh, hz, e1, hne, hml, List.length_map, Int.toNat_natCast]) | refine And.intro (by first | ((repeat' first | omega | exact trivial | rfl | assumption | (intro a e; subst e; rfl) | exact map_sz fun a => (by simp only [go_sem]) | refine And.intro ?_ ?_); done) | fail) ?_ | fail)
     refine ⟨⟨i + 1, ?_⟩, ?_⟩
     rotate_left
     ·simp only [go_sem, s3, s4, s24, s25, s26, sh, hne, etk, hml, htl, List.length_map]; omega
     simp only [go_sem, s3, s4, s24, s25, s26, sh, hne, etk, hml, htl, List.length_map]
     and_intros; all_goals try (first | rfl | omega | assumption | ((repeat (first | exact Fr.rfl' _ _ | assumption | refine Fr.updk ?_ (by omega) _)); done))
    ·have hz : ¬ ((i : Int) < (t.us.length : Int)) := by omega
     obtain rfl : i = t.us.length := by omega
     rw [List.take_length] at s4
     repeat' (first | refine awp_seq_k fun K hK => ?_ | ((first | refine awp_region_k (by kernel_rfl) fun R hR => ?_ | refine awp_draw mixed (by kernel_rfl) (by kernel_rfl) fun R hR => ?_); simp only [go_sem, s3, s4, s24, s25, s26, sh, hz, hne, List.length_append, List.length_cons]) | ((first | (refine hR _ ?_; clear hR R) | refine awp_skip ?_ | refine awp_exit ?_ | refine awp_ret ?_); try simp only [thenA, inBlockA, reduceIte, reduceCtorEq, Nat.reduceEqDiff, if_false, if_true]) | ((first | refine hK _ ?_ | (clear hK K; first | refine hK _ ?_ | (clear hK K; first | refine hK _ ?_ | (clear hK K; first | refine hK _ ?_ | (clear hK K; refine hK _ ?_))))); clear hK K) | refine awp_true rfl rfl ?_ | refine awp_false rfl rfl ?_ | refine awp_block ?_ | ((first | refine CallK.pure (enter24) (join_tri (t.us.map tmT) [44] (by simp; omega) (by omega)) ?_ ?_ | refine CallD.pure (enter24) (join_tri (t.us.map tmT) [44] (by simp; omega) (by omega)) ?_ ?_); (focus first | ((repeat (first | exact trivial | refine ⟨(by first | exact Or.inl rfl | exact Or.inr rfl), ?_⟩)); done) | (simp only [coL, AV.dat, true_or, or_true, AV.d.injEq, go_sem]; done)); simp only [go_sem, s3, s4, s24, s25, s26, sh, hz, hne, List.length_append, List.length_cons]) | refine And.intro (by first | ((repeat' first | omega | exact trivial | rfl | assumption | (intro a e; subst e; rfl) | exact map_sz fun a => (by simp only [go_sem]) | refine And.intro ?_ ?_); done) | fail) ?_ | fail)
     (first | refine ret_pure ?_ ?_ ?_ | refine ret_ro ?_ ?_ ?_); focus exact (by simp only [Tryd.results21, resOkL, resOk, Tryd.ntmps21, List.toList_toArray]; first | decide | (simp only [go_sem, hne]; done) | (simp only [go_sem, hne]; and_intros <;> first | omega | rfl | decide))
     rotate_left; focus exact (by repeat (first | exact Fr.rfl' _ _ | assumption | refine Fr.updk ?_ (by omega) _))
     simp only [resA, resV, Tryd.results21, go_sem, hne]
     all_goals try (first | exact Co.t2 (.dat rfl) (.dat rfl) | exact Co.t3 (.dat rfl) (.dat rfl) (.dat rfl))
     exact co_s (by simp)
theorem write_tri : ∀ t : Tm, WriteSpec t := Tm.ind write_step
end Go.Proofs.YtmeekpinkfpnhabDoor
