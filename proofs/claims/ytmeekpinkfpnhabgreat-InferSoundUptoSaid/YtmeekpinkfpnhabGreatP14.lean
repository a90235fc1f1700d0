/- infer. -/
import Derived.Test.YtmeekpinkfpnhabGreatP08
import Derived.Test.YtmeekpinkfpnhabGreatP10
import Derived.Test.YtmeekpinkfpnhabGreatP11
import Derived.Test.YtmeekpinkfpnhabGreatP12
import Derived.Test.YtmeekpinkfpnhabGreatP13
import Derived.RangeFuncIn
import Derived.RangeFuncSeq
import Derived.RangeFuncLeaves
import Derived.TacticsIn
import Derived.RangeFuncRecord
set_option linter.all false
namespace Go.Proofs.YtmeekpinkfpnhabGreat
open Go.RowKit
structure Inf where
 kind : Int
 left : Int
 right : Int
 leftAt : Int
 rightAt : Int
 leftT : Bool
 rightT : Bool
 place : List Int
def ifDV (i : Inf) : DV := .st [iD i.kind, iD i.left, iD i.right, iD i.leftAt, iD i.rightAt, bD i.leftT, bD i.rightT, .sl (i.place.map iD)]
set_option maxRecDepth 20000 in
theorem ifSides_tri (l : Lt) (turned : Bool) : Tri Tryz.prog 98 [.d (ltDV l), bA turned] (pure' (.tup [.d (tmDV (sideG l turned).1), .d (tmDV (sideG l turned).2)])) := by
 refine aE Tryz.func98 rfl Tryz.ntmps98 fun w0 h0 k hrd hwr => ?_
 cases turned with
 | true =>
  have e : sideG l true = (l.b, l.a) := rfl
  rw [e]
  repeat' (first | refine aQ fun K hK => ?_ | ((first | refine aK fun R hR => ?_ | refine aD mixed fun R hR => ?_); simp only [go_sem]) | ((first | (refine hR _ ?_; clear hR R) | refine aZ rfl ?_); try refine aP ?_) | ((repeat (fail_if_success refine hK _ ?_); clear hK K); refine hK _ ?_; clear hK K) | refine aT ?_ | refine aF ?_ | refine aB ?_ | refine aN ?_ | fail)
  (first | refine ret_pure ?_ ?_ ?_ | refine ret_ro ?_ ?_ ?_); focus exact (okA Tryz.ntmps98 Tryz.results98)
  rotate_left; focus exact frA
  simp only [resA, resV, Tryz.results98, go_sem]
  all_goals try exact coA
  all_goals exact .t2 (co_tm' rfl) (co_tm' rfl)
 | false =>
  have e : sideG l false = (l.a, l.b) := rfl
  rw [e]
  repeat' (first | refine aQ fun K hK => ?_ | ((first | refine aK fun R hR => ?_ | refine aD mixed fun R hR => ?_); simp only [go_sem]) | ((first | (refine hR _ ?_; clear hR R) | refine aZ rfl ?_); try refine aP ?_) | ((repeat (fail_if_success refine hK _ ?_); clear hK K); refine hK _ ?_; clear hK K) | refine aT ?_ | refine aF ?_ | refine aB ?_ | refine aN ?_ | fail)
  (first | refine ret_pure ?_ ?_ ?_ | refine ret_ro ?_ ?_ ?_); focus exact (okA Tryz.ntmps98 Tryz.results98)
  rotate_left; focus exact frA
  simp only [resA, resV, Tryz.results98, go_sem]
  all_goals try exact coA
  all_goals exact .t2 (co_tm' rfl) (co_tm' rfl)
set_option maxRecDepth 20000 in
theorem is_tri (n many : Int) : Tri Tryz.prog 45 [iA n, iA many] (pure' (bA (decide (0 ≤ n) && decide (n < many)))) := by
 refine aE Tryz.func45 rfl Tryz.ntmps45 fun w0 h0 k hrd hwr => ?_
 cases h : decide (0 ≤ n) with
 | true =>
  repeat' (first | refine aQ fun K hK => ?_ | ((first | refine aK fun R hR => ?_ | refine aD mixed fun R hR => ?_); simp only [go_sem, h, ge_iff_le]) | ((first | (refine hR _ ?_; clear hR R) | refine aZ rfl ?_); try refine aP ?_) | ((repeat (fail_if_success refine hK _ ?_); clear hK K); refine hK _ ?_; clear hK K) | refine aT ?_ | refine aF ?_ | refine aB ?_ | refine aN ?_ | fail)
  (first | refine ret_pure ?_ ?_ ?_ | refine ret_ro ?_ ?_ ?_); focus exact (okA Tryz.ntmps45 Tryz.results45)
  rotate_left; focus exact frA
  simp only [resA, resV, Tryz.results45, go_sem]
  all_goals try exact coA
  all_goals exact .dat rfl
 | false =>
  repeat' (first | refine aQ fun K hK => ?_ | ((first | refine aK fun R hR => ?_ | refine aD mixed fun R hR => ?_); simp only [go_sem, h, ge_iff_le]) | ((first | (refine hR _ ?_; clear hR R) | refine aZ rfl ?_); try refine aP ?_) | ((repeat (fail_if_success refine hK _ ?_); clear hK K); refine hK _ ?_; clear hK K) | refine aT ?_ | refine aF ?_ | refine aB ?_ | refine aN ?_ | fail)
  (first | refine ret_pure ?_ ?_ ?_ | refine ret_ro ?_ ?_ ?_); focus exact (okA Tryz.ntmps45 Tryz.results45)
  rotate_left; focus exact frA
  simp only [resA, resV, Tryz.results45, go_sem]
  all_goals try exact coA
  all_goals exact .dat rfl
def nothingB (i : Inf) : Bool :=
 if i.kind = 1 then decide (i.right = 0) && decide (i.rightAt = 0) && !i.leftT && !i.rightT && i.place.isEmpty
 else if i.kind = 2 then decide (i.right = 0) && i.place.isEmpty else true
@[go_sem] theorem ifDV_cells (i : Inf) : (ifDV i).cells = [iD i.kind, iD i.left, iD i.right, iD i.leftAt, iD i.rightAt, bD i.leftT, bD i.rightT, .sl (i.place.map iD)] := (Eq.trans rfl (Eq.refl _))
@[go_sem] theorem ifDV_fold (i : Inf) : DV.st [iD i.kind, iD i.left, iD i.right, iD i.leftAt, iD i.rightAt, bD i.leftT, bD i.rightT, .sl (i.place.map iD)] = ifDV i := (Eq.trans rfl (Eq.refl _))
def thereB (l : Lt) (i : Inf) : Bool := (atA (sideG l i.rightT).1 i.place).2
set_option maxRecDepth 20000 in
theorem there_tri (l : Lt) (i : Inf) (hp : i.place.length ≤ 4000000) (hl : (sideG l i.rightT).1.size ≤ 4000000) : Tri Tryz.prog 94 [.d (ltDV l), .d (ifDV i)] (pure' (bA (thereB l i))) := by
 have h1 := ifSides_tri l i.rightT
 have h2 := find_tri i.place _ hp hl
 unfold thereB
 refine aE Tryz.func94 rfl Tryz.ntmps94 fun w0 h0 k hrd hwr => ?_
 repeat' (first | refine aQ fun K hK => ?_ | ((first | refine aK fun R hR => ?_ | refine aD mixed fun R hR => ?_); simp only [go_sem]) | ((first | (refine hR _ ?_; clear hR R) | refine aZ rfl ?_); try refine aP ?_) | ((repeat (fail_if_success refine hK _ ?_); clear hK K); refine hK _ ?_; clear hK K) | refine aT ?_ | refine aF ?_ | refine aB ?_ | ((first | refine CallK.pure (enter98) (h1) ?_ ?_ | refine CallD.pure (enter98) (h1) ?_ ?_ | refine CallK.pure (enter100) (h2) ?_ ?_ | refine CallD.pure (enter100) (h2) ?_ ?_); (focus exact aC); simp only [go_sem]) | refine aN ?_ | fail)
 (first | refine ret_pure ?_ ?_ ?_ | refine ret_ro ?_ ?_ ?_); focus exact (okA Tryz.ntmps94 Tryz.results94)
 rotate_left; focus exact frA
 simp only [resA, resV, Tryz.results94, go_sem]
 all_goals try exact coA
 all_goals exact .dat rfl
end Go.Proofs.YtmeekpinkfpnhabGreat
namespace Go.Proofs.YtmeekpinkfpnhabGreat
open Go.ChangeShapes Go.WideShapes Go.RowKit
def Inf.size (i : Inf) : Nat := i.place.length + 8
set_option maxRecDepth 20000 in
theorem inf_reads : Reads Tryz.prog 40 ifDV (fun _ => True) Inf.size := by
 intro n
 refine ReadsN.map (reads_struct Tryz.underlying40 rfl (by kernel_rfl) fun m hm => readsF_cons rfl (reads_int Tryz.underlying3 m) (readsF_cons rfl (reads_int Tryz.underlying3 m) (readsF_cons rfl (reads_int Tryz.underlying3 m) (readsF_cons rfl (reads_int Tryz.underlying3 m) (readsF_cons rfl (reads_int Tryz.underlying3 m) (readsF_cons rfl (reads_bool Tryz.underlying4 m) (readsF_cons rfl (reads_bool Tryz.underlying4 m) (readsF_cons rfl (ints_reads m) readsF_nil))))))))
  (fun p => ⟨p.1, p.2.1, p.2.2.1, p.2.2.2.1, p.2.2.2.2.1, p.2.2.2.2.2.1, p.2.2.2.2.2.2.1, p.2.2.2.2.2.2.2.1⟩) fun p _ => ⟨rfl, trivial, ?_⟩
 unfold Inf.size; simp only; omega
theorem inf_arg : ArgOf Tryz.prog 40 ifDV (fun _ => True) Inf.size := argOf_struct Tryz.underlying40 inf_reads fun a => ⟨_, rfl⟩
def clsSize (l : List (List Lt)) : Nat := (l.map fun c => (c.map Lt.size).sum + 1).sum + 1
set_option maxRecDepth 20000 in
theorem clauses_reads : Reads Tryz.prog 25 (fun l : List (List Lt) => .sl (l.map clDV)) (fun _ => True) clsSize := by
 intro n
 exact ReadsN.map (reads_slice Tryz.underlying25 (by decide +kernel) fun m _ => clause_reads m) (fun l => l) fun l _ => ⟨rfl, trivial, Nat.le_refl _⟩
theorem clauses_arg : ArgOf Tryz.prog 25 (fun l : List (List Lt) => .sl (l.map clDV)) (fun _ => True) clsSize := argOf_slice Tryz.underlying25 clauses_reads
theorem sum_mem {α : Type} (f : α → Nat) : ∀ (l : List α), (∀ a, 1 ≤ f a) → l.length ≤ (l.map f).sum ∧ ∀ a ∈ l, f a ≤ (l.map f).sum
 | [], _ => ⟨by simp, by simp⟩
 | x :: l, h => by
  obtain ⟨h1, h2⟩ := sum_mem f l h
  have h0 := h x
  refine ⟨by simp only [List.map_cons, List.sum_cons, List.length_cons]; omega, fun a ha => ?_⟩
  simp only [List.map_cons, List.sum_cons]
  rcases List.mem_cons.1 ha with rfl | ha
  ·omega
  ·have := h2 a ha; omega
theorem cls_sizes {l : List (List Lt)} {b : Nat} (h : clsSize l ≤ b) : l.length ≤ b ∧ ∀ c ∈ l, c.length ≤ b := by
 unfold clsSize at h
 obtain ⟨h1, h2⟩ := sum_mem (fun c : List Lt => (c.map Lt.size).sum + 1) l fun _ => by omega
 refine ⟨by omega, fun c hc => ?_⟩
 have := h2 c hc
 have h3 := (sum_mem Lt.size c fun a => by unfold Lt.size; omega).1
 omega
end Go.Proofs.YtmeekpinkfpnhabGreat
namespace Go.Proofs.YtmeekpinkfpnhabGreat
open Go.RowKit
abbrev Fnc (r : Option Nat) : Fence := { Fence.wide with round := r }
theorem callsIn_R {r : Option Nat} {n : Nat} {P : Program} {f : FuncId} {args : Array Value} {w : World} {Q : Ending → World → Prop} (h : Calls P f args w Q) : CallsIn (Fnc r) n P f args w Q := (callsIn_wide (n := n)).2 h
def TriY (P : Program) (l : Nat) (args : List AV) (e : Eff) : Prop :=
 ∀ (mx : Nat) (w0 : World) (h : Heap) (k : Nat) (m : Mem) (β : Bl) (w : World) (cargs : Array Value), HRel P w0 h k m β w → (∀ x ∈ e.rd, h x.1 = x.2) → (∀ x ∈ e.wr, x.1.1 < k ∧ (h x.1 = none → β x.1 = none)) →
  cargs.size = args.length → (∀ (i : Nat) (v : Value) (a : AV), cargs[i]? = some v → args[i]? = some a → R m β v a) →
  YieldAt Fence.wide mx P l cargs w fun en w' => ∃ v m' β', en = .returned v ∧ m.le m' ∧ β.le β' ∧ (∀ n, (∀ x ∈ e.wr, x.1 ≠ n) → β n = none → β' n = none) ∧ HRel P w0 (e.ap h) k m' β' w' ∧ R m' β' v e.val
def YieldOK (P : Program) (tick i : Nat) (f : Operand) (args : Array Operand) (s : St) (e : Eff) : Prop :=
 ∃ l az, s.ev f = .fn (.yield l) [] [] ∧ coL (args.toList.map s.ev) az ∧ TriY P l az e ∧ (∀ x ∈ e.rd, s.h x.1 = x.2) ∧ (∀ x ∈ e.wr, s.h x.1 ≠ none ∨ x.1.1 = tick ∧ x.1.2 % 1000 = i)
def ActY (P : Program) (tick i : Nat) (o : Oper) (s : St) (e : Eff) : Prop :=
 ActOK P tick i o s e ∨ ∃ f args ats, o.op = .call ⟨.value f, args, ats⟩ ∧ YieldOK P tick i f args s e
def runY (P : Program) (ops : Array Oper) (tick : Nat) : List Oper → Nat → St → (St → Prop) → Prop
 | [], _, s, K => K s
 | o :: rest, i, s, K =>
  match o.guard with
  | none => ∃ e, ActY P tick i o s e ∧ runY P ops tick rest (i + 1) (s.step o e) K
  | some (j, b) => guardOk (gval ops s j) ∧ (guardB b (gval ops s j) = true → ∃ e, ActY P tick i o s e ∧ runY P ops tick rest (i + 1) (s.step o e) K) ∧
    (guardB b (gval ops s j) = false → runY P ops tick rest (i + 1) (s.step o nop) K)
theorem runY_of {P : Program} {ops : Array Oper} {tick : Nat} {K : St → Prop} : ∀ (l : List Oper) (i : Nat) (s : St), runF P ops tick l i s K → runY P ops tick l i s K
 | [], _, _, h => h
 | o :: rest, i, s, h => by
  unfold runY
  rw [runF] at h
  split at h
  ·rename_i hg
   simp only [hg]
   obtain ⟨e, h1, h2⟩ := h; exact ⟨e, .inl h1, runY_of rest _ _ h2⟩
  ·rename_i hg
   simp only [hg]
   obtain ⟨h1, h2, h3⟩ := h
   exact ⟨h1, fun hb => let ⟨e, k1, k2⟩ := h2 hb; ⟨e, .inl k1, runY_of rest _ _ k2⟩, fun hb => runY_of rest _ _ (h3 hb)⟩
section
variable {P : Program} {w0 w : World} {m : Mem} {β : Bl} {s : St} {a : Act} {n : Nat} {r : Option Nat} {mx : Nat}
theorem okOf_defer {op : Op} {ev : Operand → AV} {h : Heap} (hh : okOf P op ev h) : ∀ c, op ≠ .defer c := fun c e => by subst e; exact hh
theorem upon_in {o : Oper} {K : Act → World → Prop} {Q : Exit → Act → World → Prop} {res : Result Next} (h : o.upon P a K Q res) : o.uponIn (Fnc r) mx P a K Q res := by
 cases res with
 | ok nx w' =>
  cases nx with
  | value v => exact h
  | skip => exact h
  | defer d => exact h
  | enter f args => exact ⟨fun h' => by simp [Fence.wide] at h', callsIn_R h⟩
  | row row args => exact ⟨fun h' => by simp [Fence.wide] at h', fun c cs _ => let ⟨v, w'', k1, k2⟩ := h c cs; ⟨v, w'', k1, stepsIn_wide.2 k2⟩⟩
  | _ => exact h.elim
 | halt hl w' =>
  cases hl with
  | panic v => exact h
  | _ => exact h.elim
theorem actY_sound {tick i : Nat} {o : Oper} {e : Eff} {K : Act → World → Prop} {Q : Exit → Act → World → Prop} (hact : ActY P tick i o s e) (hop : opOk n o.op = true) (hn : a.tmps.size = n) (hk : tick < s.k) (hi : i < 1000)
  (H : HRel P w0 s.h s.k m β w) (hT : TRel m β s.t a.tmps) (hfresh : ∀ j, j % 1000 = i → β (tick, j) = none)
  (hK : ∀ v m' β' w', Goes P w0 m β (s.step o e) m' β' (a.put o.dst v) w' → (∀ x, ¬ (x.1 = tick ∧ x.2 % 1000 = i) → β x = none → β' x = none) → K (a.put o.dst v) w') : o.wpIn (Fnc r) mx P a w K Q := by
 rcases hact with hact | ⟨f, args, ats, heq, l, az, hf, hco, htri, hrd, hwr⟩
 ·have hw := act_sound (Q := Q) hact hop hn hk hi H hT hfresh hK
  obtain ⟨dst, op, ty, pos, after, guard⟩ := o
  refine ⟨fun _ _ => trivial, ?_⟩
  have hsem : Oper.semAt (Fnc r).round a.eval ⟨dst, op, ty, pos, after, guard⟩ = execOp a.eval ⟨dst, op, ty, pos, after, guard⟩ := Oper.semAt_eq _ _ _ fun c => by
   unfold ActOK at hact
   simp only at hact ⊢
   split at hact
   ·intro e; cases e
   ·exact okOf_defer hact.1 c
  rw [hsem]
  exact upon_in hw
 ·obtain ⟨dst, op, ty, pos, after, guard⟩ := o
  simp only at heq
  subst heq
  simp only [opOk, Array.all_eq_true_iff_forall_mem] at hop
  have hfv := ev_ok hT hn (hop f (by simp [Op.operands, Call.operands]))
  rw [hf] at hfv
  obtain ⟨ha1, ha2⟩ := evs_ok hT hn (xs := args) (fun x hx => hop x (by simp [Op.operands, Call.operands, hx]))
  generalize hV : a.eval f = V at hfv
  cases hfv with
  | @fn _ fs cs _ _ h1 h2 h3 h4 =>
   obtain rfl : fs = #[] := Array.eq_empty_of_size_eq_zero (by simpa using h1)
   obtain ⟨hl, hcR⟩ := coL_R hco
   have hlen : (args.map a.eval).size = az.length := by rw [ha1, hl]
   have hargs : ∀ (q : Nat) (v : Value) (b : AV), (args.map a.eval)[q]? = some v → az[q]? = some b → R m β v b := fun q v b hv hb => by
    have hq : q < (args.toList.map s.ev).length := by rw [hl]; exact (List.getElem?_eq_some_iff.1 hb).1
    exact hcR _ v _ b (List.getElem?_eq_getElem hq) hb (ha2 _ v _ hv (List.getElem?_eq_getElem hq))
   obtain ⟨fn, tmps, assign, body, hy, hround⟩ := htri (mx - 1) w0 s.h s.k m β w _ H hrd (fun x hx => by
    rcases hwr x hx with h | ⟨h, h'⟩
    ·obtain ⟨ob, hob⟩ := Option.ne_none_iff_exists'.1 h
     obtain ⟨p, hp, _⟩ := H.obj _ _ hob
     exact ⟨H.dom _ _ hp, fun h0 => absurd h0 h⟩
    ·exact ⟨by omega, fun _ => by have := hfresh x.1.2 h'; rw [← h] at this; exact this⟩) hlen hargs
   refine ⟨fun _ _ => trivial, ?_⟩
   have hres : (Oper.semAt (Fnc r).round a.eval ⟨dst, .call ⟨.value f, args, ats⟩, ty, pos, after, guard⟩).run P w = .ok (.round l fn tmps assign body) w := by
    rw [Oper.semAt_eq _ _ _ (fun c e => by cases e)]
    simp [execOp, resolve, Deferred.ofValue, hV, invoke, hy]
   rw [hres]
   refine ⟨fun h' => by simp [Fence.wide] at h', RoundIn.mono (F := Fence.wide) hround ?_⟩
   rintro en w' ⟨v, m', β', rfl, g1, g2, g3, g4, g5⟩
   refine hK v m' β' w' ⟨g1, g2, g4, step_slots hT g1 g2 g5⟩ fun x hx h0 => ?_
   by_cases hin : ∃ y ∈ e.wr, y.1 = x
   ·obtain ⟨y, hy, rfl⟩ := hin
    rcases hwr y hy with h | h
    ·obtain ⟨ob, hob⟩ := Option.ne_none_iff_exists'.1 h
     obtain ⟨p, hp, _⟩ := H.obj _ _ hob
     rw [hp] at h0; cases h0
    ·exact absurd h hx
   ·exact g3 x (fun y hy e => hin ⟨y, hy, e⟩) h0
theorem runY_sound {ops : Array Oper} {tick : Nat} {Q : Exit → Act → World → Prop} {K : St → Prop} (hd : ∀ o ∈ ops, dstOk n o = true) : ∀ (l : List Oper) (i : Nat) (s : St) (m : Mem) (β : Bl) (a : Act) (w : World), runY P ops tick l i s K → (∀ o ∈ l, opOk n o.op = true) → i + l.length ≤ 1000 → a.tmps.size = n → tick < s.k →
  HRel P w0 s.h s.k m β w → TRel m β s.t a.tmps → (∀ j, i ≤ j % 1000 → β (tick, j) = none) →
  (∀ s' m' β' a' w', K s' → a'.tmps.size = n → a'.defers = a.defers → s'.k = s.k → Goes P w0 m β s' m' β' a' w' → (∀ x, x.1 ≠ tick → β x = none → β' x = none) → Q .normal a' w') → wpListIn (Fnc r) mx P ops Q l a w
 | [], i, s, m, β, a, w, hr, _, _, hn, _, H, hT, _, hQ => hQ s m β a w hr hn rfl rfl ⟨.rfl' m, .rfl' β, H, hT⟩ fun _ _ h => h
 | o :: rest, i, s, m, β, a, w, hr, hop, hi, hn, hk, H, hT, hfr, hQ => by
  have hlen : i < 1000 := by simp at hi; omega
  have hop1 := hop o (by simp)
  have next : ∀ (e : Eff), runY P ops tick rest (i + 1) (s.step o e) K → ∀ v m' β' w', Goes P w0 m β (s.step o e) m' β' (a.put o.dst v) w' → (∀ x, ¬ (x.1 = tick ∧ x.2 % 1000 = i) → β x = none → β' x = none) → wpListIn (Fnc r) mx P ops Q rest (a.put o.dst v) w' := by
   intro e hre v m' β' w' hg hb
   refine runY_sound hd rest (i + 1) (s.step o e) m' β' (a.put o.dst v) w' hre (fun o ho => hop o (by simp [ho])) (by simp at hi; omega) (by rw [put_size, hn]) hk hg.heap hg.slots (fun j hj => ?_) ?_
   ·exact hb (tick, j) (fun h => by have := h.2; simp at this; omega) (hfr j (by omega))
   ·intro s' m'' β'' a' w'' h1 h2 h3 h4 h5 h6
    refine hQ s' m'' β'' a' w'' h1 h2 (h3.trans (put_defers _ _ _)) h4 ⟨hg.mem.trans h5.mem, hg.bl.trans h5.bl, h5.heap, h5.slots⟩ fun x hx h0 => h6 x hx (hb x (fun h => hx h.1) h0)
  have act : (∃ e, ActY P tick i o s e ∧ runY P ops tick rest (i + 1) (s.step o e) K) → o.wpIn (Fnc r) mx P a w (wpListIn (Fnc r) mx P ops Q rest) Q := by
   rintro ⟨e, h1, h2⟩
   exact actY_sound h1 hop1 hn hk hlen H hT (fun j hj => hfr j (by omega)) fun v m' β' w' hg hb => next e h2 v m' β' w' hg hb
  unfold wpListIn
  rw [runY] at hr
  split at hr
  ·rename_i hg
   rw [if_pos (by simp [Region.wanted, hg])]
   exact act hr
  ·rename_i j b hg
   obtain ⟨h1, h2, h3⟩ := hr
   have hy := gval_sound (b := b) hT hn hd h1
   by_cases hb : guardB b (gval ops s j) = true
   ·rw [if_pos (by simp [Region.wanted, hg, hb] at hy ⊢; exact hy)]
    exact act (h2 hb)
   ·have hb' : guardB b (gval ops s j) = false := by simpa using hb
    rw [if_neg (by simp [Region.wanted, hg, hb'] at hy ⊢; exact hy)]
    exact ⟨fun _ _ => trivial, next nop (h3 hb') undef m β w ⟨.rfl' m, .rfl' β, H, step_slots (e := nop) hT (.rfl' m) (.rfl' β) .un⟩ fun _ _ h => h⟩
end
def awpR (r : Option Nat) (P : Program) (w0 : World) (n : Nat) (c : Code) (Q : Exit → St → Prop) (s : St) : Prop :=
 ∀ (mx : Nat) (m : Mem) (β : Bl) (a : Act) (w : World), a.tmps.size = n → HRel P w0 s.h s.k m β w → TRel m β s.t a.tmps →
  c.wpIn (Fnc r) mx P (fun e a' w' => ∃ s' m' β', Q e s' ∧ a'.tmps.size = n ∧ a'.defers = a.defers ∧ s.k ≤ s'.k ∧ Goes P w0 m β s' m' β' a' w' ∧ ∀ x, x.1 < s.k → β x = none → β' x = none) a w
section
variable {r : Option Nat} {P : Program} {w0 : World} {n : Nat} {Q Q' : Exit → St → Prop} {s : St}
theorem awpR_skip (h : Q .normal s) : awpR r P w0 n .skip Q s := fun _ m β _ _ h1 h2 h3 => wpIn_skip ⟨s, m, β, h, h1, rfl, Nat.le_refl _, ⟨.rfl' m, .rfl' β, h2, h3⟩, fun _ _ h => h⟩
theorem awpR_ret (h : Q .ret s) : awpR r P w0 n .ret Q s := fun _ m β _ _ h1 h2 h3 => wpIn_ret ⟨s, m, β, h, h1, rfl, Nat.le_refl _, ⟨.rfl' m, .rfl' β, h2, h3⟩, fun _ _ h => h⟩
theorem awpR_seq {x y : Code} (h : awpR r P w0 n x (thenA (awpR r P w0 n y Q) Q) s) : awpR r P w0 n (.seq x y) Q s := by
 intro mx m β a w h1 h2 h3
 refine wpIn_seq (wpIn_mono (h mx m β a w h1 h2 h3) fun e a' w' hq => ?_)
 obtain ⟨s', m', β', q, g1, g2, g3, g4, g5⟩ := hq
 cases e with
 | normal =>
  refine wpIn_mono (q mx m' β' a' w' g1 g4.heap g4.slots) fun e a'' w'' hq => ?_
  obtain ⟨s'', m'', β'', q', k1, k2, k3, k4, k5⟩ := hq
  exact ⟨s'', m'', β'', q', k1, k2.trans g2, by omega, ⟨g4.mem.trans k4.mem, g4.bl.trans k4.bl, k4.heap, k4.slots⟩, fun x hx h0 => k5 x (by omega) (g5 x hx h0)⟩
 | _ => exact ⟨s', m', β', q, g1, g2, g3, g4, g5⟩
theorem awpR_seq_k {x y : Code} (h : ∀ K : St → Prop, (∀ s, awpR r P w0 n y Q s → K s) → awpR r P w0 n x (thenA K Q) s) : awpR r P w0 n (.seq x y) Q s := awpR_seq (h _ fun _ h => h)
theorem awpR_cond {c : Operand} {x y : Code} (hb : isBool (s.ev c) = true) (hc : opndOk n c = true) (ht : boolOf' (s.ev c) = true → awpR r P w0 n x Q s) (hf : boolOf' (s.ev c) = false → awpR r P w0 n y Q s) : awpR r P w0 n (.cond c x y) Q s := by
 intro mx m β a w h1 h2 h3
 have hv := (ev_ok h3 h1 hc).bool hb
 cases hbb : boolOf' (s.ev c) with
 | true => rw [hbb] at hv; exact wpIn_cond (t := true) hv (ht hbb mx m β a w h1 h2 h3)
 | false => rw [hbb] at hv; exact wpIn_cond (t := false) hv (hf hbb mx m β a w h1 h2 h3)
theorem awpR_true {c : Operand} {x y : Code} (hb : s.ev c = .d (.v (.bool true))) (hc : opndOk n c = true) (ht : awpR r P w0 n x Q s) : awpR r P w0 n (.cond c x y) Q s :=
 awpR_cond (by rw [hb]; rfl) hc (fun _ => ht) (fun h => by rw [hb] at h; cases h)
theorem awpR_false {c : Operand} {x y : Code} (hb : s.ev c = .d (.v (.bool false))) (hc : opndOk n c = true) (hf : awpR r P w0 n y Q s) : awpR r P w0 n (.cond c x y) Q s :=
 awpR_cond (by rw [hb]; rfl) hc (fun h => by rw [hb] at h; cases h) (fun _ => hf)
theorem awpR_block {id : Nat} {c : Code} (h : awpR r P w0 n c (inBlockA id Q) s) : awpR r P w0 n (.block id c) Q s := by
 intro mx m β a w h1 h2 h3
 refine wpIn_block (wpIn_mono (h mx m β a w h1 h2 h3) fun e a' w' hq => ?_)
 obtain ⟨s', m', β', q, r⟩ := hq
 cases e with
 | exit id' =>
  simp only [inBlockA, Exit.inBlock] at q ⊢
  split
  ·rename_i he; rw [if_pos he] at q; exact ⟨s', m', β', q, r⟩
  ·rename_i he; rw [if_neg he] at q; exact ⟨s', m', β', q, r⟩
 | _ => exact ⟨s', m', β', q, r⟩
theorem awpR_regionY {id : Nat} {l : List Oper} (hreg : regOk n l = true) (h : runY P l.toArray s.k l 0 { s with k := s.k + 1 } (fun s' => Q .normal s')) : awpR r P w0 n (.region id l.toArray false) Q s := by
 intro mx m β a w h1 h2 h3
 simp only [regOk, Bool.and_eq_true, List.all_eq_true, decide_eq_true_eq] at hreg
 obtain ⟨hreg, hlen⟩ := hreg
 refine wpIn_region_lit ?_
 refine runY_sound (tick := s.k) (n := n) (ops := l.toArray) (fun o ho => (hreg o (by simpa using ho)).2) l 0 { s with k := s.k + 1 } m β a w h (fun o ho => (hreg o ho).1) (by omega) h1 (Nat.lt_succ_self _) (h2.tick (Nat.le_succ _)) h3 (fun j _ => ?_) ?_
 ·cases hb : β (s.k, j) with
  | none => rfl
  | some p => have := h2.dom _ _ hb; simp at this
 ·intro s' m' β' a' w' hK k1 k2 k3 k4 k5
  exact ⟨s', m', β', hK, k1, k2, by rw [k3]; exact Nat.le_succ _, k4, fun x hx => k5 x (by omega)⟩
theorem awpR_region_k {id : Nat} {l : List Oper} (hreg : regOk n l = true) (h : ∀ K : St → Prop, (∀ s', Q .normal s' → K s') → runL P l.toArray s.k l 0 { s with k := s.k + 1 } K) : awpR r P w0 n (.region id l.toArray false) Q s :=
 awpR_regionY hreg (runY_of _ _ _ (runF_of _ _ _ (h _ fun _ h => h)))
end
section
variable {P : Program} {w0 w : World} {n : Nat} {s : St}
theorem awp_ofR {c : Code} {Q : Exit → St → Prop} (h : awpR none P w0 n c Q s) : awp P w0 n c Q s := fun m β a w h1 h2 h3 => wpIn_wide.1 (h 0 m β a w h1 h2 h3)
theorem runY_cut {ops : Array Oper} {tick : Nat} {K : St → Prop} : ∀ (l1 l2 : List Oper) (i : Nat) (s : St), runF P ops tick l1 i s (fun s1 => runY P ops tick l2 (i + l1.length) s1 K) → runY P ops tick (l1 ++ l2) i s K
 | [], l2, i, s, h => by rw [runF] at h; simpa using h
 | o :: l1, l2, i, s, h => by
  have e : i + (o :: l1).length = i + 1 + l1.length := by simp only [List.length_cons]; omega
  rw [e] at h
  rw [List.cons_append]
  unfold runY
  rw [runF] at h
  split at h
  ·rename_i hg
   simp only [hg]
   obtain ⟨e, h1, h2⟩ := h; exact ⟨e, .inl h1, runY_cut l1 l2 _ _ h2⟩
  ·rename_i hg
   simp only [hg]
   obtain ⟨h1, h2, h3⟩ := h
   exact ⟨h1, fun hb => let ⟨e, k1, k2⟩ := h2 hb; ⟨e, .inl k1, runY_cut l1 l2 _ _ k2⟩, fun hb => runY_cut l1 l2 _ _ (h3 hb)⟩
theorem awp_regionY {id : Nat} {l l2 : List Oper} {o : Oper} {f : Operand} {args : Array Operand} {ats : Array TypeId} {Q : Exit → St → Prop} (q : Nat) (hreg : regOk n l = true) (hq : (l.take q).length = q) (hl : l.drop q = o :: l2) (hg : o.guard = none) (hop : o.op = .call ⟨.value f, args, ats⟩)
  (h : ∀ K : St → Prop, (∀ s1, (∃ e, YieldOK P s.k q f args s1 e ∧ runL P l.toArray s.k l2 (q + 1) (s1.step o e) (fun s' => Q .normal s')) → K s1) → runL P l.toArray s.k (l.take q) 0 { s with k := s.k + 1 } K) : awp P w0 n (.region id l.toArray false) Q s := by
 refine awp_ofR (awpR_regionY hreg ?_)
 have key := runY_cut (P := P) (ops := l.toArray) (tick := s.k) (K := fun s' => Q .normal s') (l.take q) (l.drop q) 0 { s with k := s.k + 1 } (runF_of _ _ _ (h _ fun s1 ⟨e, hy, hr⟩ => ?_))
 ·rwa [List.take_append_drop] at key
 ·rw [hl, hq, Nat.zero_add]
  unfold runY
  simp only [hg]
  exact ⟨e, .inr ⟨f, args, ats, hop, hy⟩, runY_of _ _ _ (runF_of _ _ _ hr)⟩
theorem nocell {b o : Nat} {x : Obj} (h : w.heap[b]? = some x) (hx : ∀ c e y, x ≠ .cells c e y) : w.cell? ⟨b, o, none⟩ = none := by
 unfold World.cell?
 simp only [h]
 cases x <;> first | rfl | exact absurd rfl (hx _ _ _)
theorem cell_putObj {b r o : Nat} {x : Obj} (h : b ≠ r) : (w.putObj r x).cell? ⟨b, o, none⟩ = w.cell? ⟨b, o, none⟩ := by
 unfold World.cell?
 rw [World.putObj_heap_other h]
variable {h : Heap} {k : Nat} {m : Mem} {β : Bl}
theorem HRel.turn (H : HRel P w0 h k m β w) {nm : Nm} {p : Bk} {ob ob' : Ob} {x y : Obj} (hn : h nm = some ob) (hp : β nm = some p) (hr : ob.real p) (hx : w.heap[p.1]? = some x) (hxc : ∀ c e y, x ≠ .cells c e y) (hob : ObOK P m β (w.putObj p.1 y) p ob') : HRel P w0 (upd h nm (some ob')) k m β (w.putObj p.1 y) := by
 have hB := H.new nm p ob hp hn hr
 have e1 : updB β nm p = β := by
  funext x; unfold updB; split
  ·subst_vars; exact hp.symm
  ·rfl
 have hm : ∀ o, m p.1 o = none := fun o => by
  cases hm : m p.1 o with
  | none => rfl
  | some v => have := (H.mem _ _ _ hm).1; rw [nocell hx hxc] at this; cases this
 have := H.upd1 (n := nm) (p := p) (ob := ob') (m' := m) (w' := w.putObj p.1 y) (le_old hp) (H.dom nm p hp) (H.ext.trans ⟨rfl, rfl, rfl, by simp, fun k hk => World.putObj_heap_other (by omega)⟩) (.rfl' m) (fun b o v hv => ?_) ?_ (fun _ => hB) ?_
 ·rwa [e1] at this
 ·have hb : b ≠ p.1 := fun e => by subst e; rw [hm o] at hv; cases hv
  exact ⟨(cell_putObj hb).trans (H.mem b o v hv).1, (H.mem b o v hv).2⟩
 ·rw [e1]; exact hob
 ·intro x p' ob'' hx' hob' hp' hr'
  have hne : p'.1 ≠ p.1 := fun e => hx' (H.inj x nm p' p ob'' _ hob' hn hp' hp hr' hr e)
  exact ⟨fun _ => hne, World.putObj_heap_other hne, fun _ => rfl⟩
abbrev recL (st : LoopState) (fn : FuncId) (tmps : Array Value) (ps : Array Tmp) (assign body : Code) (d : Nat) : Loop := { state := st, pending := none, fn, tmps, params := ps, assign, body, defers := d }
theorem HRel.reloop (H : HRel P w0 h k m β w) {nm : Nm} {l : Nat} {st : LoopState} {fn : FuncId} {ps : Array Tmp} {assign body : Code} {d : Nat} {ts : List AV} (hn : h nm = some (.loop l st fn ps assign body d ts)) :
  ∃ tmps : Array Value, w.heap[l]? = some (.loop (recL st fn tmps ps assign body d)) ∧ tmps.size = ts.length ∧ (∀ (i : Nat) (v : Value) (a : AV), tmps[i]? = some v → ts[i]? = some a → R m β v a) ∧
   ∀ st', HRel P w0 (upd h nm (some (.loop l st' fn ps assign body d ts))) k m β (w.putObj l (.loop (recL st' fn tmps ps assign body d))) := by
 obtain ⟨p, hp, hv, hl, tmps, h1, h2, h3⟩ := H.obj nm _ hn
 subst hl
 refine ⟨tmps, h1, h2, h3, fun st' => H.turn hn hp trivial h1 (fun _ _ _ e => by cases e) ⟨hv, rfl, tmps, World.putObj_heap_same (Array.getElem?_eq_some_iff.1 h1).1, h2, h3⟩⟩
theorem HRel.newRaw (H : HRel P w0 h k m β w) {nm : Nm} (hbn : β nm = none) (hk : nm.1 < k) (x : Obj) : HRel P w0 (upd h nm (some (.raw w.heap.size x))) k m (updB β nm ⟨w.heap.size, 0, none⟩) (w.alloc x) := by
 refine H.upd1 (le_new hbn) hk (Below.alloc H.ext H.size _) (.rfl' m) (fun b o v hv => ?_) ⟨rfl, rfl, heap_alloc_new w _⟩ (fun _ => H.size) ?_
 ·obtain ⟨h1, h2⟩ := H.mem b o v hv
  exact ⟨(World.cell?_alloc_lt w _ ⟨b, o, none⟩ (H.mem_lt hv)).trans h1, h2⟩
 ·intro x p' ob' _ hx hp hr
  have := H.lt hx hp hr
  exact ⟨fun _ => Nat.ne_of_lt this, heap_alloc_old w _ this, fun _ => rfl⟩
theorem HRel.newLoop (H : HRel P w0 h k m β w) {nm : Nm} (hbn : β nm = none) (hk : nm.1 < k) {st : LoopState} {fn : FuncId} {ps : Array Tmp} {assign body : Code} {d : Nat} {ts : List AV} {tmps : Array Value} (hsz : tmps.size = ts.length) (hR : ∀ (i : Nat) (v : Value) (a : AV), tmps[i]? = some v → ts[i]? = some a → R m β v a) :
  HRel P w0 (upd h nm (some (.loop w.heap.size st fn ps assign body d ts))) k m (updB β nm ⟨w.heap.size, 0, none⟩) (w.alloc (.loop (recL st fn tmps ps assign body d))) := by
 refine H.upd1 (le_new hbn) hk (Below.alloc H.ext H.size _) (.rfl' m) (fun b o v hv => ?_) ⟨rfl, rfl, tmps, heap_alloc_new w _, hsz, fun i v a hi ha => (hR i v a hi ha).mono (.rfl' m) (updB_le (le_new hbn))⟩ (fun _ => H.size) ?_
 ·obtain ⟨h1, h2⟩ := H.mem b o v hv
  exact ⟨(World.cell?_alloc_lt w _ ⟨b, o, none⟩ (H.mem_lt hv)).trans h1, h2⟩
 ·intro x p' ob' _ hx hp hr
  have := H.lt hx hp hr
  exact ⟨fun _ => Nat.ne_of_lt this, heap_alloc_old w _ this, fun _ => rfl⟩
theorem triY_of {nL : Nm} {l : Nat} {fn : FuncId} {p : Tmp} {assign body : Code} {d : Nat} {ts : List AV} {a : AV} {e : Eff} (hrd : (nL, some (.loop l .ready fn #[p] assign body d ts)) ∈ e.rd)
  (h : ∀ (w0 : World) (h0 : Heap) (k : Nat), (∀ x ∈ e.rd, h0 x.1 = x.2) → (∀ x ∈ e.wr, x.1.1 < k) → nL.1 < k →
   awpR (some l) P w0 ts.length assign (fun ex s1 => ex = .normal ∧ s1.h nL = some (.loop l .ready fn #[p] assign body d ts) ∧
    awpR (some l) P w0 ts.length body (fun ex s2 => ex = .normal ∧ s2.h nL = some (.loop l .busy fn #[p] assign body d ts) ∧ HeapOK k none e h0 (upd s2.h nL (some (.loop l .ready fn #[p] assign body d ts)))) ⟨s1.t, upd s1.h nL (some (.loop l .busy fn #[p] assign body d ts)), s1.k⟩) ⟨set (slotsOf ts) p a, h0, k⟩)
  (hv : e.val = bA true) : TriY P l [a] e := by
 intro mx w0 h0 k m β w cargs H hrd' hwr hsz hargs
 have hL : h0 nL = _ := hrd' _ hrd
 obtain ⟨tmps, hh, hts, hR, _⟩ := H.reloop hL
 obtain ⟨pL, hpL, _⟩ := H.obj nL _ hL
 have hk := H.dom _ _ hpL
 obtain ⟨c0, rfl⟩ : ∃ c, cargs = #[c] := by
  have h1 : cargs.size = 1 := hsz
  exact ⟨cargs[0], by
   apply Array.ext
   ·simpa using h1
   ·intro i hi _
    have : i = 0 := by omega
    subst this; rfl⟩
 have hc := hargs 0 c0 a rfl rfl
 refine ⟨fn, _, assign, body, run_yield hh rfl, roundIn_of_wpIn (F := Fence.wide) trivial ?_⟩
 have hfold : ((recL LoopState.ready fn tmps #[p] assign body d).params.zip #[c0]).foldl (fun tmps (x : Tmp × Value) => tmps.setIfInBounds x.1 x.2) tmps = tmps.setIfInBounds p c0 := by simp
 have hT : TRel m β (set (slotsOf ts) p a) (tmps.setIfInBounds p c0) := by
  refine TRel.put (a := { tmps := tmps, defers := [] }) (fun i v hi => ?_) hc
  have hi : tmps[i]? = some v := hi
  have hlt : i < ts.length := by have := (Array.getElem?_eq_some_iff.1 hi).1; omega
  have ha : ts[i]? = some ts[i] := List.getElem?_eq_getElem hlt
  have := hR i v _ hi ha
  show R m β v (ts.getD i AV.junk)
  rwa [show ts.getD i AV.junk = ts[i] from by simp only [List.getD_eq_getElem?_getD, ha, Option.getD_some]]
 show assign.wpIn (Fnc (some l)) mx P _ { tmps := ((recL LoopState.ready fn tmps #[p] assign body d).params.zip #[c0]).foldl (fun tmps (x : Tmp × Value) => tmps.setIfInBounds x.1 x.2) tmps, defers := [] } w
 rw [hfold]
 refine wpIn_mono (h w0 h0 k hrd' (fun x hx => (hwr x hx).1) hk mx m β _ w (by simpa using hts) H hT) fun ex a1 w1 hq => ?_
 obtain ⟨s1, m1, β1, ⟨rfl, q1, q2⟩, g1, g2, g3, g4, g5⟩ := hq
 obtain ⟨tmps1, hh1, _, _, hput1⟩ := g4.heap.reloop q1
 refine ⟨_, run_beginRound hh1 rfl, ?_⟩
 refine wpIn_mono (q2 mx m1 β1 a1 _ g1 (hput1 .busy) g4.slots) fun ex a2 w2 hq => ?_
 obtain ⟨s2, m2, β2, ⟨rfl, r1, r2⟩, k1, k2, k3, k4, k5⟩ := hq
 obtain ⟨tmps2, hh2, _, _, hput2⟩ := k4.heap.reloop r1
 refine ⟨_, _, run_endRound none hh2, ?_⟩
 have H3 := hput2 .ready
 obtain ⟨β', j1, j2, j3, j4, j5⟩ := leave (s := ⟨s2.t, upd s2.h nL (some (.loop l .ready fn #[p] assign body d ts)), s2.k⟩) H (g4.bl.trans k4.bl) (fun x hx h0 => k5 x (Nat.lt_of_lt_of_le hx g3) (g5 x hx h0)) H3 r2 (fun x hx => (hwr x hx).1) (fun y hy => by cases hy)
 refine ⟨_, m2, β', rfl, g4.mem.trans k4.mem, j1, j2, j3, ?_⟩
 rw [hv]
 exact .d (.v rfl)
def EndOK (P : Program) (w0 : World) (fn : Func) (Q : St → Prop) (s : St) (m : Mem) (β : Bl) (en : Ending) (w' : World) : Prop :=
 ∃ v s' m' β', en = .returned v ∧ Q s' ∧ R m' β' v (resA P s' fn.results.toList) ∧ s.k ≤ s'.k ∧ m.le m' ∧ β.le β' ∧ HRel P w0 s'.h s'.k m' β' w' ∧ ∀ x, x.1 < s.k → β x = none → β' x = none
def awpM (P : Program) (w0 : World) (fn : Func) (Q : St → Prop) (c : Code) (s : St) : Prop :=
 ∀ (mx : Nat) (m : Mem) (β : Bl) (a : Act) (w : World) (R : Ending → World → Prop), (∀ en w', EndOK P w0 fn Q s m β en w' → R en w') → a.tmps.size = fn.ntmps → a.defers = [] → HRel P w0 s.h s.k m β w → TRel m β s.t a.tmps →
  c.wpIn Fence.wide mx P (bodyPostM Fence.wide mx P fn R) a w
theorem awpM_seq {fn : Func} {Q : St → Prop} {x y : Code} (h : awp P w0 fn.ntmps x (thenA (awpM P w0 fn Q y) fun _ _ => False) s) : awpM P w0 fn Q (.seq x y) s := by
 intro mx m β a w R hR h1 hd h2 h3
 refine wpIn_seq (wpIn_mono (wpIn_wide.2 (h m β a w h1 h2 h3)) fun e a' w' hq => ?_)
 obtain ⟨s', m', β', q, g1, g2, g3, g4, g5⟩ := hq
 cases e with
 | normal =>
  refine q mx m' β' a' w' R (fun en w'' hE => hR en w'' ?_) g1 (g2.trans hd) g4.heap g4.slots
  obtain ⟨v, s'', m'', β'', k1, k2, k3, k4, k5, k6, k7, k8⟩ := hE
  exact ⟨v, s'', m'', β'', k1, k2, k3, by omega, g4.mem.trans k5, g4.bl.trans k6, k7, fun x hx h0 => k8 x (by omega) (g5 x hx h0)⟩
 | _ => exact q.elim
theorem awpM_seq_k {fn : Func} {Q : St → Prop} {x y : Code} (h : ∀ K : St → Prop, (∀ s, awpM P w0 fn Q y s → K s) → awp P w0 fn.ntmps x (thenA K fun _ _ => False) s) : awpM P w0 fn Q (.seq x y) s := awpM_seq (h _ fun _ h => h)
theorem tri_enterM {f : FuncId} {fn : Func} {c : Code} {args : List AV} {e : Eff} (hf : P.funcs[f]? = some fn) (hb : fn.body = some c) (hlen : args.length ≤ fn.ntmps)
  (h : ∀ (w0 : World) (h0 : Heap) (k : Nat), (∀ x ∈ e.rd, h0 x.1 = x.2) → (∀ x ∈ e.wr, x.1.1 < k) → awpM P w0 fn (RetOK P fn e h0 k) c ⟨slotsOf args, h0, k⟩) : Tri P f args e := by
 intro w0 h0 k m β w cargs H hrd hwr hsz hargs
 refine (callsIn_wide (n := 0)).1 (callsIn_of_wp_marks hf hb trivial (h w0 h0 k hrd (fun x hx => (hwr x hx).1) 0 m β _ w _ (fun en w' hE => ?_) ?_ rfl H ?_))
 ·obtain ⟨v, s', m', β', rfl, ⟨h1, ren, h2, h3⟩, hR, k0, g1, g2, g3, g4⟩ := hE
  obtain ⟨β'', k1, k2, k3, k4, k5⟩ := leave H g2 g4 g3 h3 (fun x hx => (hwr x hx).1) (fun y hy => by
    obtain ⟨_, _, q1, ⟨z, hz, hz'⟩, _⟩ := h3.2.1 y hy
    rw [← hz'] at q1 ⊢
    exact (hwr z hz).2 q1)
  exact ⟨v, m', β'', rfl, g1, k1, k2, k3, h2.R hR k4 k5⟩
 ·simp; omega
 ·intro i v hi
  show R m β v (args.getD i .junk)
  by_cases hlt : i < cargs.size
  ·rw [Array.getElem?_append_left hlt] at hi
   have ha : args[i]? = some (args[i]'(by omega)) := List.getElem?_eq_getElem (by omega)
   have := hargs i v _ hi ha
   rwa [show args.getD i AV.junk = args[i]'(by omega) from by simp only [List.getD_eq_getElem?_getD, ha, Option.getD_some]]
  ·rw [show args.getD i AV.junk = .junk from by simp only [List.getD_eq_getElem?_getD, List.getElem?_eq_none (show args.length ≤ i by omega)]; rfl]
   exact .junk
def loopH (s : St) (f0 : FuncId) (d : Nat) (ps : Array Tmp) (assign body : Code) (ts : List AV) : Heap :=
 upd (upd s.h (s.k, 0) (some (.raw d (.deferred (some []))))) (s.k, 1) (some (.loop (d + 1) .ready f0 ps assign body d ts))
theorem awpM_loop {fn : Func} {Q : St → Prop} {id : Nat} {g : Operand} {ps : Array Tmp} {assign body : Code} {gf : FuncId} {caps : List AV} {ts : List AV} {E : Array Tmp → Code → Code → FuncId → Nat → Eff} (hg : s.ev g = .fn (.func gf) [] caps) (hgo : opndOk fn.ntmps g = true) (hent : enterOk P gf)
  (htl : ts.length = fn.ntmps) (hts : ∀ (i : Nat) (a : AV), ts[i]? = some a → a = s.t i)
  (htri : ∀ f0 d, Tri P gf (.fn (.yield (d + 1)) [] [] :: caps) (E ps assign body f0 d))
  (hrd : ∀ f0 d, ∀ x ∈ (E ps assign body f0 d).rd, loopH s f0 d ps assign body ts x.1 = x.2) (hwr : ∀ f0 d, ∀ x ∈ (E ps assign body f0 d).wr, loopH s f0 d ps assign body ts x.1 ≠ none)
  (hk0 : ∀ f0 d, (E ps assign body f0 d).ap (loopH s f0 d ps assign body ts) (s.k, 0) = some (.raw d (.deferred (some []))))
  (hk1 : ∀ f0 d, (E ps assign body f0 d).ap (loopH s f0 d ps assign body ts) (s.k, 1) = some (.loop (d + 1) .ready f0 ps assign body d ts))
  (hres : ∀ h k, resOkL P fn.ntmps ⟨s.t, h, k⟩ fn.results.toList)
  (hQ : ∀ f0 d, Q ⟨s.t, upd (upd ((E ps assign body f0 d).ap (loopH s f0 d ps assign body ts)) (s.k, 1) none) (s.k, 0) none, s.k + 1⟩) : awpM P w0 fn Q (.block id (.rangeFunc g ps assign body)) s := by
 intro mx m β a w R' hR hn hd H hT
 refine wpIn_block (wpIn_rangeFunc fun f0 hf0 => ?_)
 have hgv := ev_ok hT hn hgo
 rw [hg] at hgv
 generalize hV : a.eval g = V at hgv
 cases hgv with
 | @fn _ fs cs _ _ h1 h2 h3 h4 =>
  obtain rfl : fs = #[] := Array.eq_empty_of_size_eq_zero (by simpa using h1)
  have hb0 : ∀ j, β (s.k, j) = none := fun j => by
   cases hb : β (s.k, j) with
   | none => rfl
   | some p => have := H.dom _ _ hb; simp at this
  have H1 := (H.tick (Nat.le_succ s.k)).newRaw (nm := (s.k, 0)) (hb0 0) (Nat.lt_succ_self _) (.deferred (some []))
  have hle1 : β.le (updB β (s.k, 0) ⟨w.heap.size, 0, none⟩) := updB_le (le_new (hb0 0))
  have hb1 : updB β (s.k, 0) ⟨w.heap.size, 0, none⟩ (s.k, 1) = none := updB_none (by simp) (hb0 1)
  have H2 := H1.newLoop (nm := (s.k, 1)) (st := .ready) (fn := f0) (ps := ps) (assign := assign) (body := body) (d := w.heap.size) (ts := ts) (tmps := a.tmps) hb1 (Nat.lt_succ_self _) (hn.trans htl.symm) (fun i v x hi hx => by
   rw [hts i x hx]; exact (hT i v hi).mono (.rfl' m) hle1)
  rw [World.size_alloc] at H2
  have hle2 := hle1.trans (updB_le (le_new (p := ⟨w.heap.size + 1, 0, none⟩) hb1))
  obtain ⟨W1, hW1⟩ : ∃ W1, ((w.alloc (.deferred (some []))).alloc (.loop (recL .ready f0 a.tmps ps assign body w.heap.size))) = W1 := ⟨_, rfl⟩
  rw [hW1] at H2
  replace H2 : HRel P w0 (loopH s f0 w.heap.size ps assign body ts) (s.k + 1) m _ W1 := H2
  refine ⟨w.heap.size + 1, [{ target := .collected w.heap.size, args := #[] }], W1, { target := .fn (.func gf) cs, args := #[.func (.yield (w.heap.size + 1)) #[] #[]] }, W1, gf, #[.func (.yield (w.heap.size + 1)) #[] #[]] ++ cs, W1, by rw [← hW1]; exact run_enterLoop_outer _ _ _ _ _, ?_, fun _ _ => trivial, ?_, fun h' => by simp [Fence.wide] at h', ?_⟩
  ·simp only [resolve, hV]
   simp [Deferred.ofValue, Act.eval]
  ·exact hent _ _
  refine callsIn_wide.2 ((htri f0 w.heap.size w0 _ (s.k + 1) m _ _ _ H2 (hrd f0 _) (fun x hx => ?_) ?_ ?_).mono ?_)
  ·obtain ⟨ob, hob⟩ := Option.ne_none_iff_exists'.1 (hwr f0 w.heap.size x hx)
   obtain ⟨p, hp, _⟩ := H2.obj _ _ hob
   exact ⟨H2.dom _ _ hp, fun h0 => absurd h0 (hwr f0 w.heap.size x hx)⟩
  ·simp [← h2]; omega
  ·intro i v x hi hx
   match i with
   | 0 =>
    rw [Array.getElem?_append_left (by simp)] at hi
    simp at hi hx; subst hi; subst hx
    exact .fn (by rfl) (by rfl) (fun i v a h1 => by simp at h1) (fun i v a h1 => by simp at h1)
   | i + 1 =>
    have hi : cs[i]? = some v := by simpa [Array.getElem?_append, Nat.add_sub_cancel] using hi
    exact (h4 i v x hi (by simpa using hx)).mono (.rfl' m) hle2
  rintro en w3 ⟨v, m', β', rfl, g1, g2, g3, g4, g5⟩
  obtain ⟨tmps', hh, _, _, hput⟩ := g4.reloop (hk1 f0 w.heap.size)
  refine ⟨none, _, run_endLoop hh (by simp), ?_⟩
  show LeavesInM Fence.wide mx P fn a.tmps R' ([{ target := .collected w.heap.size, args := #[] }] ++ a.defers) .returning _
  rw [hd]
  have H4 := hput .exhausted
  obtain ⟨p, hp, hver, hpb, hraw⟩ := H4.obj (s.k, 0) (.raw w.heap.size (.deferred (some []))) ((upd_ne _ _ (by simp)).trans (hk0 f0 w.heap.size))
  have H5 := H4.turn (nm := (s.k, 0)) (p := p) (ob' := .raw w.heap.size (.deferred none)) (y := .deferred none) ((upd_ne _ _ (by simp)).trans (hk0 f0 w.heap.size)) hp trivial (by rw [hpb]; exact hraw) (fun _ _ _ e => by cases e) ⟨hver, hpb, by
   rw [hpb]; exact World.putObj_heap_same (Array.getElem?_eq_some_iff.1 hraw).1⟩
  rw [hpb] at H5
  have H6 := (H5.del (s.k, 1)).del (s.k, 0)
  have eh : upd (upd (upd (upd ((E ps assign body f0 w.heap.size).ap (loopH s f0 w.heap.size ps assign body ts)) (s.k, 1) (some (.loop (w.heap.size + 1) .exhausted f0 ps assign body w.heap.size ts))) (s.k, 0) (some (.raw w.heap.size (.deferred none)))) (s.k, 1) none) (s.k, 0) none = upd (upd ((E ps assign body f0 w.heap.size).ap (loopH s f0 w.heap.size ps assign body ts)) (s.k, 1) none) (s.k, 0) none := by
   funext x
   simp only [upd]
   by_cases h0 : x = (s.k, 0)
   ·simp only [h0, if_true]
   ·by_cases h1 : x = (s.k, 1)
    ·simp only [h1, if_true]
    ·simp only [if_neg h0, if_neg h1]
  rw [show upd (upd (upd (upd _ _ _) _ _) _ _) _ _ = _ from eh] at H6
  refine ⟨by simp, .inl ⟨w.heap.size, _, rfl, run_takeDeferred hraw, ?_⟩⟩
  obtain ⟨v', hv, hRv⟩ := results_ok (s := ⟨s.t, upd (upd ((E ps assign body f0 w.heap.size).ap (loopH s f0 w.heap.size ps assign body ts)) (s.k, 1) none) (s.k, 0) none, s.k + 1⟩) H6 (hT.mono g1 (hle2.trans g2)) hn (hres _ _)
  refine ⟨v', hv, hR _ _ ⟨v', _, m', β', rfl, hQ f0 w.heap.size, hRv, Nat.le_succ _, g1, hle2.trans g2, H6, fun x hx h0 => ?_⟩⟩
  have hx0 : x ≠ (s.k, 0) := fun e => by subst e; simp at hx
  have hx1 : x ≠ (s.k, 1) := fun e => by subst e; simp at hx
  have hbx := updB_none (p := ⟨w.heap.size + 1, 0, none⟩) hx1 (updB_none (p := ⟨w.heap.size, 0, none⟩) hx0 h0)
  refine g3 x (fun y hy e => ?_) hbx
  subst e
  obtain ⟨ob, hob⟩ := Option.ne_none_iff_exists'.1 (hwr f0 w.heap.size y hy)
  obtain ⟨q, hq, _⟩ := H2.obj _ _ hob
  rw [hbx] at hq; cases hq
end
section
variable {P : Program} {w0 : World} {nn : Nat} {Q : Exit → St → Prop} {s : St}
def flatC (ys : List DV) : List AV := ys.flatMap fun y => y.cells.map AV.d
theorem flatC_len {sz : Nat} : ∀ {ys : List DV}, (∀ y ∈ ys, y.cells.length = sz) → (flatC ys).length = ys.length * sz
 | [], _ => by simp [flatC]
 | y :: ys, h => by
  have h1 := h y (by simp)
  have h2 := flatC_len (ys := ys) fun z hz => h z (List.mem_cons_of_mem _ hz)
  simp only [flatC, List.flatMap_cons, List.length_append, List.length_map, List.length_cons] at h2 ⊢
  rw [h1, h2, Nat.add_mul]; omega
theorem flatC_at {sz : Nat} : ∀ {ys : List DV}, (∀ y ∈ ys, y.cells.length = sz) → ∀ {i j : Nat} {x d : DV}, ys[i]? = some x → x.cells[j]? = some d → (flatC ys)[i * sz + j]? = some (.d d)
 | y :: ys, h, i, j, x, d, hx, hd => by
  have h1 := h y (by simp)
  simp only [flatC, List.flatMap_cons]
  cases i with
  | zero =>
   simp at hx; subst hx
   have hj := (List.getElem?_eq_some_iff.1 hd).1
   rw [Nat.zero_mul, Nat.zero_add, List.getElem?_append_left (by rw [List.length_map]; exact hj), List.getElem?_map, hd]; rfl
  | succ i =>
   have hx : ys[i]? = some x := by simpa using hx
   have h2 := flatC_at (fun z hz => h z (List.mem_cons_of_mem _ hz)) hx hd
   have e : (i + 1) * sz + j = sz + (i * sz + j) := by rw [Nat.add_mul]; omega
   rw [e, List.getElem?_append_right (by rw [List.length_map, h1]; omega), List.length_map, h1]
   rw [show sz + (i * sz + j) - sz = i * sz + j by omega]
   exact h2
theorem R.dat2 {m : Mem} {β : Bl} {x : Value} {d : DV} (h : R m β x (.d d)) : RD m x d := by cases h; assumption
theorem ghost_freeze {i : Nat} {n : Nm} {e : TypeId} {ys : List DV} {len sz : Nat} (hi : s.t i = .arr n 0 len) (hob : s.h n = some (.cells e (flatC ys))) (hl : len = ys.length) (hsz : ∀ y ∈ ys, y.cells.length = sz) : Ghost P w0 nn s ⟨set s.t i (.d (.sl ys)), upd s.h n none, s.k⟩ := by
 intro m β a w h1 h2 h3
 obtain ⟨p, hp, hv, c, c1, c2, c3, c4⟩ := h2.obj n _ hob
 have hlen := flatC_len hsz
 obtain ⟨f, hf⟩ : ∃ f : Nat → Option Value, ∀ o, f o = if o < ys.length * sz then c[o]? else none := ⟨_, fun _ => rfl⟩
 have hle := Mem.add_le m p.1 f
 have hnew : ∀ o, m.add p.1 f p.1 o = f o := fun o => Mem.add_new _ _ (c4 o)
 refine ⟨m.add p.1 f, β, Nat.le_refl _, ⟨hle, .rfl' β, ⟨h2.ext, fun b o v hm => ?_, h2.dom, fun x q ob hx ho hr => ?_, fun x ob ho => ?_, fun x y q q' ob ob' g1 g2 g3 g4 g5 g6 => ?_⟩, fun j v hj => ?_⟩, fun _ _ h => h⟩
 ·by_cases hb : b = p.1
  ·subst hb
   rw [hnew, hf] at hm
   split at hm
   ·rename_i hlt
    refine ⟨?_, ?_⟩
    ·unfold World.cell?
     rw [c1]; exact hm
    ·exact (c3 o v _ hm (List.getElem?_eq_getElem (by rw [hlen]; exact hlt))).1
   ·cases hm
  ·rw [Mem.add_ne _ _ hb] at hm; exact h2.mem b o v hm
 ·have hxn : x ≠ n := fun e => by subst e; simp [upd] at ho
  have ho : upd s.h n none x = some ob := ho
  rw [upd_ne _ _ hxn] at ho
  exact h2.new x q ob hx ho hr
 ·have hxn : x ≠ n := fun e => by subst e; simp [upd] at ho
  have ho : upd s.h n none x = some ob := ho
  rw [upd_ne _ _ hxn] at ho
  obtain ⟨q, hq, hobk⟩ := h2.obj x ob ho
  refine ⟨q, hq, hobk.keep hle (.rfl' β) fun hr => ⟨rfl, fun o => ?_⟩⟩
  refine Mem.add_ne _ _ (fun e => hxn (h2.inj x n q p ob _ ho hob hq hp hr trivial e)) o
 ·have hxn : x ≠ n := fun e => by subst e; simp [upd] at g1
  have hyn : y ≠ n := fun e => by subst e; simp [upd] at g2
  have g1 : upd s.h n none x = some ob := g1
  have g2 : upd s.h n none y = some ob' := g2
  rw [upd_ne _ _ hxn] at g1
  rw [upd_ne _ _ hyn] at g2
  exact h2.inj x y q q' ob ob' g1 g2 g3 g4 g5 g6
 ·show R _ _ v (set s.t i _ j)
  unfold set
  split
  ·subst_vars
   have := h3 _ v hj
   rw [hi] at this
   generalize hA : AV.arr n 0 ys.length = A at this
   cases this with
   | @arr n' off' len' cap o q hb hver hc hm ho =>
    cases hA
    rw [hp] at hb; cases hb
    refine .d ?_
    by_cases h0 : ys.length = 0
    ·have : ys = [] := List.eq_nil_of_length_eq_zero h0
     subst this
     exact .sl (sz := sz) rfl hc hm hsz (fun i j x d hx => by simp at hx) (fun i j x d cv hx => by simp at hx)
    ·have ho : o = 0 := by rcases ho with ho | ho; exact absurd ho h0; exact ho
     subst ho
     have cell : ∀ (i j : Nat) (x d : DV), ys[i]? = some x → x.cells[j]? = some d → ∃ cv, m.add p.1 f p.1 (0 + i * sz + j) = some cv ∧ RD (m.add p.1 f) cv d := by
      intro i j x d hx hd
      have h4 := flatC_at hsz hx hd
      have hlt : i * sz + j < ys.length * sz := by rw [← hlen]; exact (List.getElem?_eq_some_iff.1 h4).1
      have hcs : i * sz + j < c.size := by omega
      have h5 := Array.getElem?_eq_getElem hcs
      refine ⟨c[i * sz + j], ?_, ?_⟩
      ·rw [Nat.zero_add, hnew, hf, if_pos hlt]; exact h5
      ·have hr := (c3 _ _ _ h5 h4).2
       exact hr.dat2.mono hle
     exact .sl (sz := sz) rfl hc hm hsz (fun i j x d hx hd => let ⟨cv, q1, _⟩ := cell i j x d hx hd; ⟨cv, q1⟩) fun i j x d cv hx hd hcv => by
      obtain ⟨cv', q1, q2⟩ := cell i j x d hx hd
      rw [hcv] at q1; cases q1; exact q2
   | _ => cases hA
  ·exact (h3 j v hj).mono hle (.rfl' β)
def arrE (e : TypeId) (n' : Nm) (len : Nat) (cs : List AV) : Eff := ⟨.arr n' 0 len, [(n', none)], [(n', some (.cells e cs))]⟩
end
attribute [go_sem] arrE
attribute [local irreducible] CallK CallD
section
variable {P : Program} {w0 : World} {nn : Nat} {s : St}
theorem ghost_el {i : Nat} {n : Nm} {e : TypeId} {ds : List DV} (hi : s.t i = .ptr n 0) (hob : s.h n = some (.cells e (ds.map .d))) : Ghost P w0 nn s ⟨set s.t i (.el (.st ds) 0), upd s.h n none, s.k⟩ := by
 intro m β a w h1 h2 h3
 obtain ⟨p, hp, hv, c, c1, c2, c3, c4⟩ := h2.obj n _ hob
 obtain ⟨f, hf⟩ : ∃ f : Nat → Option Value, ∀ o, f o = if o < ds.length then c[o]? else none := ⟨_, fun _ => rfl⟩
 have hle := Mem.add_le m p.1 f
 have hnew : ∀ o, m.add p.1 f p.1 o = f o := fun o => Mem.add_new _ _ (c4 o)
 refine ⟨m.add p.1 f, β, Nat.le_refl _, ⟨hle, .rfl' β, ⟨h2.ext, fun b o v hm => ?_, h2.dom, fun x q ob hx ho hr => ?_, fun x ob ho => ?_, fun x y q q' ob ob' g1 g2 g3 g4 g5 g6 => ?_⟩, fun j v hj => ?_⟩, fun _ _ h => h⟩
 ·by_cases hb : b = p.1
  ·subst hb
   rw [hnew, hf] at hm
   split at hm
   ·rename_i hlt
    refine ⟨?_, ?_⟩
    ·unfold World.cell?
     rw [c1]; exact hm
    ·exact (c3 o v _ hm (List.getElem?_eq_getElem (by simpa using hlt))).1
   ·cases hm
  ·rw [Mem.add_ne _ _ hb] at hm; exact h2.mem b o v hm
 ·have hxn : x ≠ n := fun e => by subst e; simp [upd] at ho
  have ho : upd s.h n none x = some ob := ho
  rw [upd_ne _ _ hxn] at ho
  exact h2.new x q ob hx ho hr
 ·have hxn : x ≠ n := fun e => by subst e; simp [upd] at ho
  have ho : upd s.h n none x = some ob := ho
  rw [upd_ne _ _ hxn] at ho
  obtain ⟨q, hq, hobk⟩ := h2.obj x ob ho
  refine ⟨q, hq, hobk.keep hle (.rfl' β) fun hr => ⟨rfl, fun o => ?_⟩⟩
  refine Mem.add_ne _ _ (fun e => hxn (h2.inj x n q p ob _ ho hob hq hp hr trivial e)) o
 ·have hxn : x ≠ n := fun e => by subst e; simp [upd] at g1
  have hyn : y ≠ n := fun e => by subst e; simp [upd] at g2
  have g1 : upd s.h n none x = some ob := g1
  have g2 : upd s.h n none y = some ob' := g2
  rw [upd_ne _ _ hxn] at g1
  rw [upd_ne _ _ hyn] at g2
  exact h2.inj x y q q' ob ob' g1 g2 g3 g4 g5 g6
 ·show R _ _ v (set s.t i _ j)
  unfold set
  split
  ·subst_vars
   have := h3 _ v hj
   rw [hi] at this
   generalize hA : AV.ptr n 0 = A at this
   cases this with
   | @ptr n' off' q hb hver =>
    cases hA
    rw [hp] at hb; cases hb
    have := R.el (m := m.add p.1 f) (β := β) (b := p.1) (o := 0) (y := .st ds) (off := 0) fun j d hd => by
     have hd : ds[j]? = some d := hd
     have hlt : j < ds.length := (List.getElem?_eq_some_iff.1 hd).1
     have hcs : j < c.size := by simp at c2; omega
     have h5 := Array.getElem?_eq_getElem hcs
     refine ⟨c[j], ?_, ?_⟩
     ·rw [Nat.zero_add, hnew, hf, if_pos hlt]; exact h5
     ·have hr := (c3 j _ (.d d) h5 (by rw [List.getElem?_map, hd]; rfl)).2
      exact hr.dat2.mono hle
    exact this
   | _ => cases hA
  ·exact (h3 j v hj).mono hle (.rfl' β)
end
def triesV (l : List (List Lt)) (left right : Int) : AV := .fn (.func 109) [] [.el (.st [iD right]) 0, .el (.st [.sl (l.map clDV)]) 0, .el (.st [iD left]) 0]
set_option maxRecDepth 20000 in
theorem tries_tri (l : List (List Lt)) (left right : Int) : Tri Tryz.prog 80 [.d (.sl (l.map clDV)), iA left, iA right] (pure' (triesV l left right)) := by
 refine aE Tryz.func80 rfl Tryz.ntmps80 fun w0 h0 k hrd hwr => ?_
 repeat' (first | (refine awp_ghost (ghost_el (i := 3) (n := (k, 0)) (e := 25) (ds := [.sl (l.map clDV)]) ?_ ?_) ?_; (focus (simp only [go_sem, ]; done)); (focus (simp only [go_sem, ]; done)); simp only [go_sem]) | (refine awp_ghost (ghost_el (i := 4) (n := (k, 1)) (e := 3) (ds := [iD left]) ?_ ?_) ?_; (focus (simp only [go_sem, ]; done)); (focus (simp only [go_sem, ]; done)); simp only [go_sem]) | (refine awp_ghost (ghost_el (i := 5) (n := (k, 2)) (e := 3) (ds := [iD right]) ?_ ?_) ?_; (focus (simp only [go_sem, ]; done)); (focus (simp only [go_sem, ]; done)); simp only [go_sem]) | refine aQ fun K hK => ?_ | ((first | refine aK fun R hR => ?_ | refine aD mixed fun R hR => ?_); simp only [go_sem]) | ((first | (refine hR _ ?_; clear hR R) | refine aZ rfl ?_); try refine aP ?_) | ((repeat (fail_if_success refine hK _ ?_); clear hK K); refine hK _ ?_; clear hK K) | refine aT ?_ | refine aF ?_ | refine aB ?_ | refine aN ?_ | fail)
 (first | refine ret_pure ?_ ?_ ?_ | refine ret_ro ?_ ?_ ?_); focus exact (okA Tryz.ntmps80 Tryz.results80)
 rotate_left; focus exact frA
 simp only [resA, resV, Tryz.results80, go_sem]
 all_goals try exact coA
 exact .refl (fun n hn => by simp [AV.names, namesL] at hn)
end Go.Proofs.YtmeekpinkfpnhabGreat
