/- Texts read: a function that defers what catches. -/
import Derived.Test.YtmeekpinkfpnhabDoorP18
set_option linter.all false
namespace Go.Proofs.YtmeekpinkfpnhabDoor
open Go.RowKit
def retTP (P : Program) (fn : Func) (e : Eff) (h0 : Heap) (k : Nat) (ch : List PanicEntry) (E : TypeId) : Exit → St → Option AV → Prop
 | .ret, s, _ => RetOK P fn e h0 k s
 | .normal, s, _ => RetOK P fn e h0 k s
 | .panic c, s, o => c = ch ∧ ∃ nm x, o = some (.ptr nm 0) ∧ s.h nm = some (.cells E [x]) ∧ RetOK P fn e h0 k ⟨s.t, upd s.h nm (some (.cells E [iA 1])), s.k + 1⟩
 | _, _, _ => False
theorem tri_enterTP {P : Program} {C f : FuncId} {fn : Func} {c : Code} {args : List AV} {e : Eff} {n : Nat} {ch : List PanicEntry} {E : TypeId} (hf : P.funcs[f]? = some fn) (hb : fn.body = some c) (hnt : fn.ntmps = n) (hlen : args.length ≤ n) (hent : enterOk P C)
  (hidle : ∀ v w, CallsD P C #[v] .returning w fun e u' w' => e = .returned (.tuple #[]) ∧ u' = .returning ∧ w' = w)
  (hcatch : ∀ {w0 : GW} {h : Heap} {k : Nat} {m : Mem} {β : Bl} {w : World} {v : Value} {nm : Nm} {x : AV}, HRel P w0 h k m β w → R m β v (.ptr nm 0) → h nm = some (.cells E [x]) →
   CallsD P C #[v] (.panicking ch) w fun e u' w' => (∃ r, e = .returned r) ∧ settle u' = .returning ∧ ∃ m' β', m.le m' ∧ β.le β' ∧ (∀ n, n.1 < k → β n = none → β' n = none) ∧ HRel P w0 (upd h nm (some (.cells E [iA 1]))) (k + 1) m' β' w')
  (h : ∀ (w0 : GW) (h0 : Heap) (k : Nat), (∀ x ∈ e.rd, h0 x.1 = x.2) → (∀ x ∈ e.wr, x.1.1 < k) → awpT P w0 n C c none (retTP P fn e h0 k ch E) ⟨slotsOf args, h0, k⟩) : Tri P f args e := by
 subst hnt
 intro w0 h0 k m β w cargs H hrd hwr hsz hargs
 refine calls_of_wp_defers hf hb (wp_mono (h w0 h0 k hrd (fun x hx => (hwr x hx).1) m β _ w ?_ rfl H ?_) ?_)
 ·simp; omega
 ·intro i v hi
  show R m β v (args.getD i .junk)
  by_cases hlt : i < cargs.size
  ·rw [Array.getElem?_append_left hlt] at hi
   have ha : args[i]? = some (args[i]'(by omega)) := List.getElem?_eq_getElem (by omega)
   have := hargs i v _ hi ha
   rwa [show args.getD i AV.junk = args[i]'(by omega) from by simp only [List.getD_eq_getElem?_getD, ha, Option.getD_some]]
  ·rw [show args.getD i AV.junk = .junk from by simp only [List.getD_eq_getElem?_getD, List.getElem?_eq_none (show args.length ≤ i by omega)]; rfl]
   exact .junk
 ·rintro en a' w' ⟨s', m', β', o', hq, g1, gd, g3, g4, g5⟩
  have fin : ∀ (sf : St) (mf : Mem) (βf : Bl) (wf : World), HRel P w0 sf.h sf.k mf βf wf → TRel mf βf sf.t a'.tmps → m.le mf → β.le βf → (∀ x, x.1 < k → β x = none → βf x = none) → RetOK P fn e h0 k sf →
    ∃ v, (results fn a'.tmps).run P wf = .ok v wf ∧ ∃ v' m' β', Ending.returned v = .returned v' ∧ m.le m' ∧ β.le β' ∧ (∀ n, (∀ x ∈ e.wr, x.1 ≠ n) → β n = none → β' n = none) ∧ HRel P w0 (e.ap h0) k m' β' wf ∧ R m' β' v' e.val := by
   rintro sf mf βf wf HF TF hm hbl hnm ⟨h1, ren, h2, h3⟩
   obtain ⟨v, hv, hR⟩ := results_ok HF TF g1 h1
   obtain ⟨β'', k1, k2, k3, k4, k5⟩ := leave H hbl hnm HF h3 (fun x hx => (hwr x hx).1) (fun y hy => by
    obtain ⟨_, _, q1, ⟨z, hz, hz'⟩, _⟩ := h3.2.1 y hy
    rw [← hz'] at q1 ⊢
    exact (hwr z hz).2 q1)
   exact ⟨v, hv, v, mf, β'', rfl, hm, k1, k2, k3, h2.R hR k4 k5⟩
  have all : RetOK P fn e h0 k s' → Leaves P fn a'.tmps (fun en w' => ∃ v m' β', en = .returned v ∧ m.le m' ∧ β.le β' ∧ (∀ n, (∀ x ∈ e.wr, x.1 ≠ n) → β n = none → β' n = none) ∧ HRel P w0 (e.ap h0) k m' β' w' ∧ R m' β' v e.val) a'.defers .returning w' := by
   intro hr
   have hfin := fin s' m' β' w' g4.heap g4.slots g4.mem g4.bl g5 hr
   cases o' with
   | none => rw [show a'.defers = [] from gd]; exact hfin
   | some A =>
    obtain ⟨v, hd, _⟩ := gd
    rw [hd]
    refine leaves_cons (f := C) (args := #[v]) (by simp) (by simp [invoke, hent _ w']) ((hidle v w').mono ?_)
    rintro en u w'' ⟨rfl, rfl, rfl⟩
    exact hfin
  cases en with
  | normal => exact all hq
  | ret => exact all hq
  | panic c =>
   obtain ⟨rfl, nm, x, rfl, hx, hr⟩ := hq
   obtain ⟨v, hd, hv⟩ := gd
   show Leaves P fn a'.tmps _ a'.defers (.panicking c) w'
   rw [hd]
   refine leaves_cons (f := C) (args := #[v]) (by simp) (by simp [invoke, hent _ w']) ((hcatch g4.heap hv hx).mono ?_)
   rintro en u w'' ⟨⟨r, rfl⟩, hset, m'', β'', k1, k2, k3, k4⟩
   show Leaves P fn a'.tmps _ [] (settle u) w''
   rw [hset]
   exact fin ⟨s'.t, upd s'.h nm (some (.cells E [iA 1])), s'.k + 1⟩ m'' β'' w'' k4 (g4.slots.mono k1 k2) (g4.mem.trans k1) (g4.bl.trans k2) (fun x hx h0 => k3 x (by have : k ≤ s'.k := g3; omega) (g5 x hx h0)) hr
  | _ => exact hq.elim
set_option maxHeartbeats 4000000 in
set_option maxRecDepth 20000 in
theorem read_sig (g : List Int) (e : Int) (hg : sigOk g = e) (he : e ≠ 0) (l : By) (d : AV) : Tri Tryd.prog 31 [.d (sgDV g), sA l, d] (pure' (iA e)) := by
 refine tri_enterTP (ch := CH) (E := 30) (C := 47) Tryd.func31 rfl Tryd.ntmps31 (by simp only [List.length_cons, List.length_nil]; omega) (enter47) idle catch_tri fun w0 h0 k hrd hwr => ?_
 have h1 := signature_tri g
 rw [hg] at h1
 have hne : (e != 0) = true := by simpa using he
 refine awpT_first ?_
 repeat' (first | refine awp_seq_k fun K hK => ?_ | ((first | refine awp_region_k (by kernel_rfl) fun R hR => ?_ | refine awp_draw mixed (by kernel_rfl) (by kernel_rfl) fun R hR => ?_); simp only [go_sem]) | ((first | (refine hR _ ?_; clear hR R) | refine awp_skip ?_ | refine awp_exit ?_ | refine awp_ret ?_); try simp only [thenA, inBlockA, reduceIte, reduceCtorEq, Nat.reduceEqDiff, if_false, if_true]) | ((first | refine hK _ ?_ | (clear hK K; first | refine hK _ ?_ | (clear hK K; first | refine hK _ ?_ | (clear hK K; first | refine hK _ ?_ | (clear hK K; refine hK _ ?_))))); clear hK K) | refine awp_true rfl rfl ?_ | refine awp_false rfl rfl ?_ | refine awp_block ?_ | refine And.intro (by first | ((repeat' first | omega | exact trivial | rfl | assumption | (intro a e; subst e; rfl) | exact map_sz fun a => (by simp only [go_sem]) | refine And.intro ?_ ?_); done) | fail) ?_ | fail)
 refine awpT_first ?_
 repeat' (first | refine awp_seq_k fun K hK => ?_ | ((first | refine awp_region_k (by kernel_rfl) fun R hR => ?_ | refine awp_draw mixed (by kernel_rfl) (by kernel_rfl) fun R hR => ?_); simp only [go_sem, hne]) | ((first | (refine hR _ ?_; clear hR R) | refine awp_skip ?_ | refine awp_exit ?_ | refine awp_ret ?_); try simp only [thenA, inBlockA, reduceIte, reduceCtorEq, Nat.reduceEqDiff, if_false, if_true]) | ((first | refine hK _ ?_ | (clear hK K; first | refine hK _ ?_ | (clear hK K; first | refine hK _ ?_ | (clear hK K; first | refine hK _ ?_ | (clear hK K; refine hK _ ?_))))); clear hK K) | refine awp_true rfl rfl ?_ | refine awp_false rfl rfl ?_ | refine awp_block ?_ | ((first | refine CallK.pure (enter22) (h1) ?_ ?_ | refine CallD.pure (enter22) (h1) ?_ ?_); (focus first | ((repeat (first | exact trivial | refine ⟨(by first | exact Or.inl rfl | exact Or.inr rfl), ?_⟩)); done) | (simp only [coL, AV.dat, true_or, or_true, AV.d.injEq, go_sem]; done)); simp only [go_sem, hne]) | refine And.intro (by first | ((repeat' first | omega | exact trivial | rfl | assumption | (intro a e; subst e; rfl) | exact map_sz fun a => (by simp only [go_sem]) | refine And.intro ?_ ?_); done) | fail) ?_ | fail)
 simp only [retTP]
 (first | refine ret_pure ?_ ?_ ?_ | refine ret_ro ?_ ?_ ?_); focus exact (by simp only [Tryd.results31, resOkL, resOk, Tryd.ntmps31, List.toList_toArray]; first | decide | (simp only [go_sem]; done) | (simp only [go_sem]; and_intros <;> first | omega | rfl | decide))
 rotate_left; focus exact (by repeat (first | exact Fr.rfl' _ _ | assumption | refine Fr.updk ?_ (by omega) _))
 simp only [resA, resV, Tryd.results31, go_sem]
 all_goals try (first | exact Co.t2 (.dat rfl) (.dat rfl) | exact Co.t3 (.dat rfl) (.dat rfl) (.dat rfl))
 exact .dat rfl
set_option maxHeartbeats 4000000 in
set_option maxRecDepth 20000 in
theorem read_long (g : List Int) (hg : sigOk g = 0) (l : By) (hl : ¬ l.length ≤ 3000) (d : AV) : Tri Tryd.prog 31 [.d (sgDV g), sA l, d] (pure' (iA 2)) := by
 refine tri_enterTP (ch := CH) (E := 30) (C := 47) Tryd.func31 rfl Tryd.ntmps31 (by simp only [List.length_cons, List.length_nil]; omega) (enter47) idle catch_tri fun w0 h0 k hrd hwr => ?_
 have h1 := signature_tri g
 rw [hg] at h1
 have hl3 : decide (((l.length : Nat) : Int) > 3000) = true := by simp; omega
 refine awpT_first ?_
 repeat' (first | refine awp_seq_k fun K hK => ?_ | ((first | refine awp_region_k (by kernel_rfl) fun R hR => ?_ | refine awp_draw mixed (by kernel_rfl) (by kernel_rfl) fun R hR => ?_); simp only [go_sem]) | ((first | (refine hR _ ?_; clear hR R) | refine awp_skip ?_ | refine awp_exit ?_ | refine awp_ret ?_); try simp only [thenA, inBlockA, reduceIte, reduceCtorEq, Nat.reduceEqDiff, if_false, if_true]) | ((first | refine hK _ ?_ | (clear hK K; first | refine hK _ ?_ | (clear hK K; first | refine hK _ ?_ | (clear hK K; first | refine hK _ ?_ | (clear hK K; refine hK _ ?_))))); clear hK K) | refine awp_true rfl rfl ?_ | refine awp_false rfl rfl ?_ | refine awp_block ?_ | refine And.intro (by first | ((repeat' first | omega | exact trivial | rfl | assumption | (intro a e; subst e; rfl) | exact map_sz fun a => (by simp only [go_sem]) | refine And.intro ?_ ?_); done) | fail) ?_ | fail)
 refine awpT_first ?_
 repeat' (first | refine awp_seq_k fun K hK => ?_ | ((first | refine awp_region_k (by kernel_rfl) fun R hR => ?_ | refine awp_draw mixed (by kernel_rfl) (by kernel_rfl) fun R hR => ?_); simp only [go_sem, bne_self_eq_false]) | ((first | (refine hR _ ?_; clear hR R) | refine awp_skip ?_ | refine awp_exit ?_ | refine awp_ret ?_); try simp only [thenA, inBlockA, reduceIte, reduceCtorEq, Nat.reduceEqDiff, if_false, if_true]) | ((first | refine hK _ ?_ | (clear hK K; first | refine hK _ ?_ | (clear hK K; first | refine hK _ ?_ | (clear hK K; first | refine hK _ ?_ | (clear hK K; refine hK _ ?_))))); clear hK K) | refine awp_true rfl rfl ?_ | refine awp_false rfl rfl ?_ | refine awp_block ?_ | ((first | refine CallK.pure (enter22) (h1) ?_ ?_ | refine CallD.pure (enter22) (h1) ?_ ?_); (focus first | ((repeat (first | exact trivial | refine ⟨(by first | exact Or.inl rfl | exact Or.inr rfl), ?_⟩)); done) | (simp only [coL, AV.dat, true_or, or_true, AV.d.injEq, go_sem]; done)); simp only [go_sem, bne_self_eq_false]) | refine And.intro (by first | ((repeat' first | omega | exact trivial | rfl | assumption | (intro a e; subst e; rfl) | exact map_sz fun a => (by simp only [go_sem]) | refine And.intro ?_ ?_); done) | fail) ?_ | fail)
 refine awpT_first ?_
 repeat' (first | refine awp_seq_k fun K hK => ?_ | ((first | refine awp_region_k (by kernel_rfl) fun R hR => ?_ | refine awp_draw mixed (by kernel_rfl) (by kernel_rfl) fun R hR => ?_); simp only [go_sem, hl3]) | ((first | (refine hR _ ?_; clear hR R) | refine awp_skip ?_ | refine awp_exit ?_ | refine awp_ret ?_); try simp only [thenA, inBlockA, reduceIte, reduceCtorEq, Nat.reduceEqDiff, if_false, if_true]) | ((first | refine hK _ ?_ | (clear hK K; first | refine hK _ ?_ | (clear hK K; first | refine hK _ ?_ | (clear hK K; first | refine hK _ ?_ | (clear hK K; refine hK _ ?_))))); clear hK K) | refine awp_true rfl rfl ?_ | refine awp_false rfl rfl ?_ | refine awp_block ?_ | refine And.intro (by first | ((repeat' first | omega | exact trivial | rfl | assumption | (intro a e; subst e; rfl) | exact map_sz fun a => (by simp only [go_sem]) | refine And.intro ?_ ?_); done) | fail) ?_ | fail)
 simp only [retTP]
 (first | refine ret_pure ?_ ?_ ?_ | refine ret_ro ?_ ?_ ?_); focus exact (by simp only [Tryd.results31, resOkL, resOk, Tryd.ntmps31, List.toList_toArray]; first | decide | (simp only [go_sem]; done) | (simp only [go_sem]; and_intros <;> first | omega | rfl | decide))
 rotate_left; focus exact (by repeat (first | exact Fr.rfl' _ _ | assumption | refine Fr.updk ?_ (by omega) _))
 simp only [resA, resV, Tryd.results31, go_sem]
 all_goals try (first | exact Co.t2 (.dat rfl) (.dat rfl) | exact Co.t3 (.dat rfl) (.dat rfl) (.dat rfl))
 exact .dat rfl
set_option maxHeartbeats 4000000 in
set_option maxRecDepth 20000 in
theorem read_boom (g : List Int) (hg : sigOk g = 0) (l : By) (hl : l.length ≤ 3000) (c : FuncId) (hc : enterOk Tryd.prog c) (caps : List AV) (hdo : ∀ rb : Nm, TriP Tryd.prog CH c ([.ptr rb 0] ++ caps) rb (rdO l 0)) : Tri Tryd.prog 31 [.d (sgDV g), sA l, .fn (.func c) [] caps] (pure' (iA 1)) := by
 refine tri_enterTP (ch := CH) (E := 30) (C := 47) Tryd.func31 rfl Tryd.ntmps31 (by simp only [List.length_cons, List.length_nil]; omega) (enter47) idle catch_tri fun w0 h0 k hrd hwr => ?_
 have h1 := signature_tri g
 rw [hg] at h1
 have hl3 : decide (((l.length : Nat) : Int) > 3000) = false := by simp; omega
 refine awpT_first ?_
 repeat' (first | refine awp_seq_k fun K hK => ?_ | ((first | refine awp_region_k (by kernel_rfl) fun R hR => ?_ | refine awp_draw mixed (by kernel_rfl) (by kernel_rfl) fun R hR => ?_); simp only [go_sem]) | ((first | (refine hR _ ?_; clear hR R) | refine awp_skip ?_ | refine awp_exit ?_ | refine awp_ret ?_); try simp only [thenA, inBlockA, reduceIte, reduceCtorEq, Nat.reduceEqDiff, if_false, if_true]) | ((first | refine hK _ ?_ | (clear hK K; first | refine hK _ ?_ | (clear hK K; first | refine hK _ ?_ | (clear hK K; first | refine hK _ ?_ | (clear hK K; refine hK _ ?_))))); clear hK K) | refine awp_true rfl rfl ?_ | refine awp_false rfl rfl ?_ | refine awp_block ?_ | refine And.intro (by first | ((repeat' first | omega | exact trivial | rfl | assumption | (intro a e; subst e; rfl) | exact map_sz fun a => (by simp only [go_sem]) | refine And.intro ?_ ?_); done) | fail) ?_ | fail)
 refine awpT_first ?_
 repeat' (first | refine awp_seq_k fun K hK => ?_ | ((first | refine awp_region_k (by kernel_rfl) fun R hR => ?_ | refine awp_draw mixed (by kernel_rfl) (by kernel_rfl) fun R hR => ?_); simp only [go_sem, bne_self_eq_false]) | ((first | (refine hR _ ?_; clear hR R) | refine awp_skip ?_ | refine awp_exit ?_ | refine awp_ret ?_); try simp only [thenA, inBlockA, reduceIte, reduceCtorEq, Nat.reduceEqDiff, if_false, if_true]) | ((first | refine hK _ ?_ | (clear hK K; first | refine hK _ ?_ | (clear hK K; first | refine hK _ ?_ | (clear hK K; first | refine hK _ ?_ | (clear hK K; refine hK _ ?_))))); clear hK K) | refine awp_true rfl rfl ?_ | refine awp_false rfl rfl ?_ | refine awp_block ?_ | ((first | refine CallK.pure (enter22) (h1) ?_ ?_ | refine CallD.pure (enter22) (h1) ?_ ?_); (focus first | ((repeat (first | exact trivial | refine ⟨(by first | exact Or.inl rfl | exact Or.inr rfl), ?_⟩)); done) | (simp only [coL, AV.dat, true_or, or_true, AV.d.injEq, go_sem]; done)); simp only [go_sem, bne_self_eq_false]) | refine And.intro (by first | ((repeat' first | omega | exact trivial | rfl | assumption | (intro a e; subst e; rfl) | exact map_sz fun a => (by simp only [go_sem]) | refine And.intro ?_ ?_); done) | fail) ?_ | fail)
 refine awpT_first ?_
 repeat' (first | refine awp_seq_k fun K hK => ?_ | ((first | refine awp_region_k (by kernel_rfl) fun R hR => ?_ | refine awp_draw mixed (by kernel_rfl) (by kernel_rfl) fun R hR => ?_); simp only [go_sem, hl3]) | ((first | (refine hR _ ?_; clear hR R) | refine awp_skip ?_ | refine awp_exit ?_ | refine awp_ret ?_); try simp only [thenA, inBlockA, reduceIte, reduceCtorEq, Nat.reduceEqDiff, if_false, if_true]) | ((first | refine hK _ ?_ | (clear hK K; first | refine hK _ ?_ | (clear hK K; first | refine hK _ ?_ | (clear hK K; first | refine hK _ ?_ | (clear hK K; refine hK _ ?_))))); clear hK K) | refine awp_true rfl rfl ?_ | refine awp_false rfl rfl ?_ | refine awp_block ?_ | refine And.intro (by first | ((repeat' first | omega | exact trivial | rfl | assumption | (intro a e; subst e; rfl) | exact map_sz fun a => (by simp only [go_sem]) | refine And.intro ?_ ?_); done) | fail) ?_ | fail)
 refine awpT_seq (awpT_defer (by decide) (by decide) ?_)
 simp only [thenT]
 refine awpT_of ?_
 have hC := hdo (k + 1 + 1 + 1 + 1 + 1, 2)
 repeat' (first | (refine awp_boom (ch := CH) (id := 8) 2 (by kernel_rfl) rfl fun R hR => ?_; simp only [go_sem, List.take_succ_cons, List.take_zero, rdO]) | refine awp_seq_k fun K hK => ?_ | ((first | refine awp_region_k (by kernel_rfl) fun R hR => ?_ | refine awp_draw mixed (by kernel_rfl) (by kernel_rfl) fun R hR => ?_); simp only [go_sem, rdO]) | ((first | (refine hR _ ?_; clear hR R) | refine awp_skip ?_ | refine awp_exit ?_ | refine awp_ret ?_); try simp only [thenA, inBlockA, reduceIte, reduceCtorEq, Nat.reduceEqDiff, if_false, if_true]) | ((first | refine hK _ ?_ | (clear hK K; first | refine hK _ ?_ | (clear hK K; first | refine hK _ ?_ | (clear hK K; first | refine hK _ ?_ | (clear hK K; refine hK _ ?_))))); clear hK K) | refine awp_true rfl rfl ?_ | refine awp_false rfl rfl ?_ | refine awp_block ?_ | refine And.intro (by first | ((repeat' first | omega | exact trivial | rfl | assumption | (intro a e; subst e; rfl) | exact map_sz fun a => (by simp only [go_sem]) | refine And.intro ?_ ?_); done) | fail) ?_ | fail)
 refine BoomK.mkv (g := c) (first := []) (caps := caps) (az := [.ptr (k + 1 + 1 + 1 + 1 + 1, 2) 0]) rfl hc hC ?_ ?_ ?_
 ·simp only [go_sem, coL]
 ·simp only [go_sem, rdO]; rfl
 ·simp only [thenA, retTP]
  refine ⟨trivial, (k, 1), iA 0, rfl, ?_, ?_⟩
  ·simp only [go_sem, ]
  ·(first | refine ret_pure ?_ ?_ ?_ | refine ret_ro ?_ ?_ ?_); focus exact (by simp only [Tryd.results31, resOkL, resOk, Tryd.ntmps31, List.toList_toArray]; first | decide | (simp only [go_sem]; done) | (simp only [go_sem]; and_intros <;> first | omega | rfl | decide))
   rotate_left; focus exact (by repeat (first | exact Fr.rfl' _ _ | assumption | refine Fr.updk ?_ (by omega) _))
   simp only [resA, resV, Tryd.results31, go_sem]
   all_goals try (first | exact Co.t2 (.dat rfl) (.dat rfl) | exact Co.t3 (.dat rfl) (.dat rfl) (.dat rfl))
   exact .dat rfl
set_option maxHeartbeats 4000000 in
set_option maxRecDepth 20000 in
theorem read_rest (g : List Int) (hg : sigOk g = 0) (l : By) (hl : l.length ≤ 3000) (c : FuncId) (hc : enterOk Tryd.prog c) (caps : List AV) (j : Nat) (hj : j ≠ l.length) (tb : Nm) (A B : Ob) (hB : B.names = [])
  (hdo : ∀ rb : Nm, rb ≠ tb → Tri Tryd.prog c ([.ptr rb 0] ++ caps) (stE [rb, tb] (fun x => if x = rb then rdO l 0 else A) (fun x => if x = rb then rdO l j else B) .junk)) :
  Tri Tryd.prog 31 [.d (sgDV g), sA l, .fn (.func c) [] caps] (stE [tb] (fun _ => A) (fun _ => B) (iA 1)) := by
 refine tri_enterTP (ch := CH) (E := 30) (C := 47) Tryd.func31 rfl Tryd.ntmps31 (by simp only [List.length_cons, List.length_nil]; omega) (enter47) idle catch_tri fun w0 h0 k hrd hwr => ?_
 have etb : h0 tb = some A := hrd (tb, some A) (by simp [stE])
 have ht : tb.1 < k := hwr (tb, some B) (by simp [stE])
 have qb := nmne ht
 have h1 := signature_tri g
 rw [hg] at h1
 have hl3 : decide (((l.length : Nat) : Int) > 3000) = false := by simp; omega
 have hjl : ((j : Int) == ((l.length : Nat) : Int)) = false := by simp; omega
 refine awpT_first ?_
 repeat' (first | refine awp_seq_k fun K hK => ?_ | ((first | refine awp_region_k (by kernel_rfl) fun R hR => ?_ | refine awp_draw mixed (by kernel_rfl) (by kernel_rfl) fun R hR => ?_); simp only [go_sem]) | ((first | (refine hR _ ?_; clear hR R) | refine awp_skip ?_ | refine awp_exit ?_ | refine awp_ret ?_); try simp only [thenA, inBlockA, reduceIte, reduceCtorEq, Nat.reduceEqDiff, if_false, if_true]) | ((first | refine hK _ ?_ | (clear hK K; first | refine hK _ ?_ | (clear hK K; first | refine hK _ ?_ | (clear hK K; first | refine hK _ ?_ | (clear hK K; refine hK _ ?_))))); clear hK K) | refine awp_true rfl rfl ?_ | refine awp_false rfl rfl ?_ | refine awp_block ?_ | refine And.intro (by first | ((repeat' first | omega | exact trivial | rfl | assumption | (intro a e; subst e; rfl) | exact map_sz fun a => (by simp only [go_sem]) | refine And.intro ?_ ?_); done) | fail) ?_ | fail)
 refine awpT_first ?_
 repeat' (first | refine awp_seq_k fun K hK => ?_ | ((first | refine awp_region_k (by kernel_rfl) fun R hR => ?_ | refine awp_draw mixed (by kernel_rfl) (by kernel_rfl) fun R hR => ?_); simp only [go_sem, bne_self_eq_false]) | ((first | (refine hR _ ?_; clear hR R) | refine awp_skip ?_ | refine awp_exit ?_ | refine awp_ret ?_); try simp only [thenA, inBlockA, reduceIte, reduceCtorEq, Nat.reduceEqDiff, if_false, if_true]) | ((first | refine hK _ ?_ | (clear hK K; first | refine hK _ ?_ | (clear hK K; first | refine hK _ ?_ | (clear hK K; first | refine hK _ ?_ | (clear hK K; refine hK _ ?_))))); clear hK K) | refine awp_true rfl rfl ?_ | refine awp_false rfl rfl ?_ | refine awp_block ?_ | ((first | refine CallK.pure (enter22) (h1) ?_ ?_ | refine CallD.pure (enter22) (h1) ?_ ?_); (focus first | ((repeat (first | exact trivial | refine ⟨(by first | exact Or.inl rfl | exact Or.inr rfl), ?_⟩)); done) | (simp only [coL, AV.dat, true_or, or_true, AV.d.injEq, go_sem]; done)); simp only [go_sem, bne_self_eq_false]) | refine And.intro (by first | ((repeat' first | omega | exact trivial | rfl | assumption | (intro a e; subst e; rfl) | exact map_sz fun a => (by simp only [go_sem]) | refine And.intro ?_ ?_); done) | fail) ?_ | fail)
 refine awpT_first ?_
 repeat' (first | refine awp_seq_k fun K hK => ?_ | ((first | refine awp_region_k (by kernel_rfl) fun R hR => ?_ | refine awp_draw mixed (by kernel_rfl) (by kernel_rfl) fun R hR => ?_); simp only [go_sem, hl3]) | ((first | (refine hR _ ?_; clear hR R) | refine awp_skip ?_ | refine awp_exit ?_ | refine awp_ret ?_); try simp only [thenA, inBlockA, reduceIte, reduceCtorEq, Nat.reduceEqDiff, if_false, if_true]) | ((first | refine hK _ ?_ | (clear hK K; first | refine hK _ ?_ | (clear hK K; first | refine hK _ ?_ | (clear hK K; first | refine hK _ ?_ | (clear hK K; refine hK _ ?_))))); clear hK K) | refine awp_true rfl rfl ?_ | refine awp_false rfl rfl ?_ | refine awp_block ?_ | refine And.intro (by first | ((repeat' first | omega | exact trivial | rfl | assumption | (intro a e; subst e; rfl) | exact map_sz fun a => (by simp only [go_sem]) | refine And.intro ?_ ?_); done) | fail) ?_ | fail)
 refine awpT_seq (awpT_defer (by decide) (by decide) ?_)
 simp only [thenT]
 refine awpT_of ?_
 have hne : ((k + 1 + 1 + 1 + 1 + 1, 2) : Nm) ≠ tb := fun e => by have := congrArg Prod.fst e; simp only at this; omega
 have hC : Tri Tryd.prog c ([] ++ [.ptr (k + 1 + 1 + 1 + 1 + 1, 2) 0] ++ caps) _ := hdo (k + 1 + 1 + 1 + 1 + 1, 2) hne
 repeat' (first | (refine awp_boom (ch := CH) (id := 9) 8 (by kernel_rfl) rfl fun R hR => ?_; simp only [go_sem, List.take_succ_cons, List.take_zero, qb, rdO, hjl]) | refine awp_seq_k fun K hK => ?_ | ((first | refine awp_region_k (by kernel_rfl) fun R hR => ?_ | refine awp_draw mixed (by kernel_rfl) (by kernel_rfl) fun R hR => ?_); simp only [go_sem, qb, rdO, hjl]) | ((first | (refine hR _ ?_; clear hR R) | refine awp_skip ?_ | refine awp_exit ?_ | refine awp_ret ?_); try simp only [thenA, inBlockA, reduceIte, reduceCtorEq, Nat.reduceEqDiff, if_false, if_true]) | ((first | refine hK _ ?_ | (clear hK K; first | refine hK _ ?_ | (clear hK K; first | refine hK _ ?_ | (clear hK K; first | refine hK _ ?_ | (clear hK K; refine hK _ ?_))))); clear hK K) | refine awp_true rfl rfl ?_ | refine awp_false rfl rfl ?_ | refine awp_block ?_ | ((first | refine CallK.vchg rfl (hc) (hC) ?_ (ag2 (k := k + 1 + 1 + 1 + 1 + 1 + 1 + 1) (by simp only; omega) (by omega) (by first | (simp only [go_sem, qb, rdO]; rfl) | fail) (by first | (simp only [go_sem, qb, etb]; done) | fail) hne) (Fr.rfl' _ _) ?_ | refine CallD.vchg rfl (hc) (hC) ?_ (ag2 (k := k + 1 + 1 + 1 + 1 + 1 + 1 + 1) (by simp only; omega) (by omega) (by first | (simp only [go_sem, qb, rdO]; rfl) | fail) (by first | (simp only [go_sem, qb, etb]; done) | fail) hne) (Fr.rfl' _ _) (by first | assumption | exact List.cons_ne_nil _ _) ?_); (focus first | ((repeat (first | exact trivial | refine ⟨(by first | exact Or.inl rfl | exact Or.inr rfl), ?_⟩)); done) | (simp only [coL, AV.dat, true_or, or_true, AV.d.injEq, go_sem]; done)); simp only [go_sem, qb, rdO, hjl]) | refine And.intro (by first | ((repeat' first | omega | exact trivial | rfl | assumption | (intro a e; subst e; rfl) | exact map_sz fun a => (by simp only [go_sem]) | refine And.intro ?_ ?_); done) | fail) ?_ | fail)
 refine BoomK.mk1 (enter48) (need_boom (k + 1 + 1 + 1 + 1 + 1, 2) (.cells 86 [sA l, iA j])) ?_ ?_ ?_
 ·simp only [go_sem, coL, true_or, or_true]
 ·simp only [go_sem, rdO, qb]
 ·simp only [thenA, retTP]
  refine ⟨trivial, (k, 1), iA 0, rfl, ?_, ?_⟩
  ·simp only [go_sem, qb]
  ·refine ret_st (by simp only [Tryd.results31, resOkL, resOk, Tryd.ntmps31, List.toList_toArray]; first | decide | (simp only [go_sem, qb]; done) | (simp only [go_sem, qb]; and_intros <;> first | omega | rfl | decide)) (by simp only [resA, resV, Tryd.results31, go_sem, qb]; first | exact .dat rfl | exact Co.t2 (.dat rfl) (.dat rfl) | exact Co.t3 (.dat rfl) (.dat rfl) (.dat rfl)) ?_ ?_ ?_
   ·refine ⟨fun n hn => ?_⟩
    simp only [List.mem_cons, List.not_mem_nil, or_false] at hn
    subst hn
    exact ⟨ht, by simp only [go_sem, qb]⟩
   ·intro x hx hn
    have qx := nmne hx
    have hxt : (x = tb) = False := eq_false (by simpa using hn)
    simp only [go_sem, qx, hxt]
   ·intro n hn x hx
    simp only [hB] at hx
    cases hx
end Go.Proofs.YtmeekpinkfpnhabDoor
