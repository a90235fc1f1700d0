/- Package infer: what is simple. What inferences and lists of clauses, handed in, read as. The unifier of the program, in plain words: how it goes on while there is fuel. No program in sight. A loop whose rounds are counted down by a number that no slot need hold. The unifier: root. -/
import Derived.Test.YtmeekpinkfpnhabP01
import Derived.Test.YtmeekpinkfpnhabP05
import Derived.Test.YtmeekpinkfpnhabP10
import Derived.Test.YtmeekpinkfpnhabP12
import Derived.Test.YtmeekpinkfpnhabP13
import Derived.Test.YtmeekpinkfpnhabP14
import Derived.Test.YtmeekpinkfpnhabP15
set_option linter.unusedSimpArgs false
set_option linter.unusedSectionVars false
set_option linter.unusedVariables false
set_option linter.unnecessarySimpa false
set_option linter.all false
namespace Go.Proofs.Ytmeekpinkfpnhab
open Go.RowKit
structure Inf where
  kind : Int
  left : Int
  right : Int
  leftAt : Int
  rightAt : Int
  leftT : Bool
  rightT : Bool
  place : List Int
def ifDV (i : Inf) : DV := .st [iD i.kind, iD i.left, iD i.right, iD i.leftAt, iD i.rightAt, bD i.leftT, bD i.rightT, .sl (i.place.map iD)]
set_option maxRecDepth 20000 in
theorem ifSides_tri (l : Lt) (turned : Bool) : Tri Try.prog 116 [.d (ltDV l), bA turned] (pure' (.tup [.d (tmDV (sideG l turned).1), .d (tmDV (sideG l turned).2)])) := by
  refine tri_enter Try.func116 rfl Try.ntmps116 (by simp only [List.length_cons, List.length_nil]; omega) fun w0 h0 k hrd hwr => ?_
  cases turned with
  | true =>
    have e : sideG l true = (l.b, l.a) := rfl
    rw [e]
    repeat' (first | refine awp_seq_k fun K hK => ?_ | ((first | refine aK fun R hR => ?_ | refine aD mixed fun R hR => ?_); simp only [go_sem]) | ((first | (refine hR _ ?_; clear hR R) | refine awp_skip ?_ | refine awp_exit ?_ | refine awp_ret ?_); try refine aP ?_) | ((repeat (fail_if_success refine hK _ ?_); clear hK K); refine hK _ ?_; clear hK K) | refine aT ?_ | refine aF ?_ | refine awp_block ?_ | refine aN ?_ | fail)
    (first | refine ret_pure ?_ ?_ ?_ | refine ret_ro ?_ ?_ ?_); focus exact (okA Try.ntmps116 Try.results116)
    rotate_left; focus exact frA
    simp only [resA, resV, Try.results116, go_sem]
    all_goals try exact coA
    all_goals exact .t2 (co_tm' rfl) (co_tm' rfl)
  | false =>
    have e : sideG l false = (l.a, l.b) := rfl
    rw [e]
    repeat' (first | refine awp_seq_k fun K hK => ?_ | ((first | refine aK fun R hR => ?_ | refine aD mixed fun R hR => ?_); simp only [go_sem]) | ((first | (refine hR _ ?_; clear hR R) | refine awp_skip ?_ | refine awp_exit ?_ | refine awp_ret ?_); try refine aP ?_) | ((repeat (fail_if_success refine hK _ ?_); clear hK K); refine hK _ ?_; clear hK K) | refine aT ?_ | refine aF ?_ | refine awp_block ?_ | refine aN ?_ | fail)
    (first | refine ret_pure ?_ ?_ ?_ | refine ret_ro ?_ ?_ ?_); focus exact (okA Try.ntmps116 Try.results116)
    rotate_left; focus exact frA
    simp only [resA, resV, Try.results116, go_sem]
    all_goals try exact coA
    all_goals exact .t2 (co_tm' rfl) (co_tm' rfl)
set_option maxRecDepth 20000 in
theorem is_tri (n many : Int) : Tri Try.prog 111 [iA n, iA many] (pure' (bA (decide (0 ≤ n) && decide (n < many)))) := by
  refine tri_enter Try.func111 rfl Try.ntmps111 (by simp only [List.length_cons, List.length_nil]; omega) fun w0 h0 k hrd hwr => ?_
  cases h : decide (0 ≤ n) with
  | true =>
    repeat' (first | refine awp_seq_k fun K hK => ?_ | ((first | refine aK fun R hR => ?_ | refine aD mixed fun R hR => ?_); simp only [go_sem, h, ge_iff_le]) | ((first | (refine hR _ ?_; clear hR R) | refine awp_skip ?_ | refine awp_exit ?_ | refine awp_ret ?_); try refine aP ?_) | ((repeat (fail_if_success refine hK _ ?_); clear hK K); refine hK _ ?_; clear hK K) | refine aT ?_ | refine aF ?_ | refine awp_block ?_ | refine aN ?_ | fail)
    (first | refine ret_pure ?_ ?_ ?_ | refine ret_ro ?_ ?_ ?_); focus exact (okA Try.ntmps111 Try.results111)
    rotate_left; focus exact frA
    simp only [resA, resV, Try.results111, go_sem]
    all_goals try exact coA
    all_goals exact .dat rfl
  | false =>
    repeat' (first | refine awp_seq_k fun K hK => ?_ | ((first | refine aK fun R hR => ?_ | refine aD mixed fun R hR => ?_); simp only [go_sem, h, ge_iff_le]) | ((first | (refine hR _ ?_; clear hR R) | refine awp_skip ?_ | refine awp_exit ?_ | refine awp_ret ?_); try refine aP ?_) | ((repeat (fail_if_success refine hK _ ?_); clear hK K); refine hK _ ?_; clear hK K) | refine aT ?_ | refine aF ?_ | refine awp_block ?_ | refine aN ?_ | fail)
    (first | refine ret_pure ?_ ?_ ?_ | refine ret_ro ?_ ?_ ?_); focus exact (okA Try.ntmps111 Try.results111)
    rotate_left; focus exact frA
    simp only [resA, resV, Try.results111, go_sem]
    all_goals try exact coA
    all_goals exact .dat rfl
def nothingB (i : Inf) : Bool :=
  if i.kind = 1 then decide (i.right = 0) && decide (i.rightAt = 0) && !i.leftT && !i.rightT && i.place.isEmpty
  else if i.kind = 2 then decide (i.right = 0) && i.place.isEmpty else true
@[go_sem] theorem ifDV_cells (i : Inf) : (ifDV i).cells = [iD i.kind, iD i.left, iD i.right, iD i.leftAt, iD i.rightAt, bD i.leftT, bD i.rightT, .sl (i.place.map iD)] := (Eq.trans rfl (Eq.refl _))
@[go_sem] theorem ifDV_fold (i : Inf) : DV.st [iD i.kind, iD i.left, iD i.right, iD i.leftAt, iD i.rightAt, bD i.leftT, bD i.rightT, .sl (i.place.map iD)] = ifDV i := (Eq.trans rfl (Eq.refl _))
def thereB (l : Lt) (i : Inf) : Bool := (atA (sideG l i.rightT).1 i.place).2
set_option maxRecDepth 20000 in
theorem there_tri (l : Lt) (i : Inf) (hp : i.place.length ≤ 4000000) (hl : (sideG l i.rightT).1.size ≤ 4000000) : Tri Try.prog 112 [.d (ltDV l), .d (ifDV i)] (pure' (bA (thereB l i))) := by
  have h1 := ifSides_tri l i.rightT
  have h2 := find_tri i.place _ hp hl
  unfold thereB
  refine tri_enter Try.func112 rfl Try.ntmps112 (by simp only [List.length_cons, List.length_nil]; omega) fun w0 h0 k hrd hwr => ?_
  repeat' (first | refine awp_seq_k fun K hK => ?_ | ((first | refine aK fun R hR => ?_ | refine aD mixed fun R hR => ?_); simp only [go_sem]) | ((first | (refine hR _ ?_; clear hR R) | refine awp_skip ?_ | refine awp_exit ?_ | refine awp_ret ?_); try refine aP ?_) | ((repeat (fail_if_success refine hK _ ?_); clear hK K); refine hK _ ?_; clear hK K) | refine aT ?_ | refine aF ?_ | refine awp_block ?_ | ((first | refine CallK.pure (enter116) (h1) ?_ ?_ | refine CallD.pure (enter116) (h1) ?_ ?_ | refine CallK.pure (enter118) (h2) ?_ ?_ | refine CallD.pure (enter118) (h2) ?_ ?_); (focus exact aC); simp only [go_sem]) | refine aN ?_ | fail)
  (first | refine ret_pure ?_ ?_ ?_ | refine ret_ro ?_ ?_ ?_); focus exact (okA Try.ntmps112 Try.results112)
  rotate_left; focus exact frA
  simp only [resA, resV, Try.results112, go_sem]
  all_goals try exact coA
  all_goals exact .dat rfl
end Go.Proofs.Ytmeekpinkfpnhab
namespace Go.Proofs.Ytmeekpinkfpnhab
open Go.ChangeShapes Go.WideShapes Go.RowKit
def Inf.size (i : Inf) : Nat := i.place.length + 8
set_option maxRecDepth 20000 in
theorem inf_reads : Reads Try.prog 93 ifDV (fun _ => True) Inf.size := by
  intro n
  refine ReadsN.map (reads_struct Try.underlying93 rfl (by kernel_rfl) fun m hm => readsF_cons rfl (reads_int Try.underlying3 m) (readsF_cons rfl (reads_int Try.underlying3 m) (readsF_cons rfl (reads_int Try.underlying3 m) (readsF_cons rfl (reads_int Try.underlying3 m) (readsF_cons rfl (reads_int Try.underlying3 m) (readsF_cons rfl (reads_bool Try.underlying4 m) (readsF_cons rfl (reads_bool Try.underlying4 m) (readsF_cons rfl (ints_reads m) readsF_nil))))))))
    (fun p => ⟨p.1, p.2.1, p.2.2.1, p.2.2.2.1, p.2.2.2.2.1, p.2.2.2.2.2.1, p.2.2.2.2.2.2.1, p.2.2.2.2.2.2.2.1⟩) fun p _ => ⟨rfl, trivial, ?_⟩
  unfold Inf.size; simp only; omega
set_option maxRecDepth 20000 in
theorem infs_reads : Reads Try.prog 51 (fun l : List Inf => .sl (l.map ifDV)) (fun _ => True) (fun l => (l.map Inf.size).sum + 1) := by
  intro n
  exact ReadsN.map (reads_slice Try.underlying51 (by decide +kernel) fun m _ => inf_reads m) (fun l => l) fun l _ => ⟨rfl, trivial, Nat.le_refl _⟩
theorem infs_arg : ArgOf Try.prog 51 (fun l : List Inf => .sl (l.map ifDV)) (fun _ => True) (fun l => (l.map Inf.size).sum + 1) := argOf_slice Try.underlying51 infs_reads
def clsSize (l : List (List Lt)) : Nat := (l.map fun c => (c.map Lt.size).sum + 1).sum + 1
set_option maxRecDepth 20000 in
theorem clauses_reads : Reads Try.prog 50 (fun l : List (List Lt) => .sl (l.map clDV)) (fun _ => True) clsSize := by
  intro n
  exact ReadsN.map (reads_slice Try.underlying50 (by decide +kernel) fun m _ => clause_reads m) (fun l => l) fun l _ => ⟨rfl, trivial, Nat.le_refl _⟩
theorem clauses_arg : ArgOf Try.prog 50 (fun l : List (List Lt) => .sl (l.map clDV)) (fun _ => True) clsSize := argOf_slice Try.underlying50 clauses_reads
theorem sum_mem {α : Type} (f : α → Nat) : ∀ (l : List α), (∀ a, 1 ≤ f a) → l.length ≤ (l.map f).sum ∧ ∀ a ∈ l, f a ≤ (l.map f).sum
  | [], _ => ⟨by simp, by simp⟩
  | x :: l, h => by
    obtain ⟨h1, h2⟩ := sum_mem f l h
    have h0 := h x
    refine ⟨by simp only [List.map_cons, List.sum_cons, List.length_cons]; omega, fun a ha => ?_⟩
    simp only [List.map_cons, List.sum_cons]
    rcases List.mem_cons.1 ha with rfl | ha
    · omega
    · have := h2 a ha; omega
theorem cls_sizes {l : List (List Lt)} {b : Nat} (h : clsSize l ≤ b) : l.length ≤ b ∧ ∀ c ∈ l, c.length ≤ b := by
  unfold clsSize at h
  obtain ⟨h1, h2⟩ := sum_mem (fun c : List Lt => (c.map Lt.size).sum + 1) l fun _ => by omega
  refine ⟨by omega, fun c hc => ?_⟩
  have := h2 c hc
  have h3 := (sum_mem Lt.size c fun a => by unfold Lt.size; omega).1
  omega
end Go.Proofs.Ytmeekpinkfpnhab
namespace Go.Proofs.Ytmeekpinkfpnhab
def lookA {α : Type} (k : Int) : List (Int × α) → Option α
  | [] => none
  | p :: m => if k = p.1 then some p.2 else lookA k m
def putA {α : Type} (k : Int) (x : α) : List (Int × α) → List (Int × α)
  | [] => [(k, x)]
  | p :: m => if k = p.1 then (k, x) :: m else p :: putA k x m
def mapE' {α : Type} (f : α → DV) (l : List (Int × α)) : List (Int × DV) := l.map fun p => (p.1, f p.2)
theorem getM_A {α : Type} (f : α → DV) (k : Int) (l : List (Int × α)) : getM k (mapE' f l) = (lookA k l).map f := by
  induction l with
  | nil => rfl
  | cons p l ih =>
    simp only [mapE', List.map_cons, getM, lookA] at ih ⊢
    by_cases h : k = p.1
    · rw [if_pos h, if_pos h]; rfl
    · rw [if_neg h, if_neg h]; exact ih
theorem putM_A {α : Type} (f : α → DV) (k : Int) (x : α) (l : List (Int × α)) : putM k (f x) (mapE' f l) = mapE' f (putA k x l) := by
  induction l with
  | nil => rfl
  | cons p l ih =>
    simp only [mapE', List.map_cons, putM, putA] at ih ⊢
    by_cases h : k = p.1
    · rw [if_pos h, if_pos h]; rfl
    · rw [if_neg h, if_neg h, ih]; rfl
theorem lookB_A (k : Int) (b : Bs) : lookB k b = lookA k b := by
  induction b with
  | nil => rfl
  | cons p b ih => rw [lookB, lookA, ih]
def rootF : Nat → Bs → Tm → Option Tm
  | 0, _, _ => none
  | n + 1, b, t => if t.v > 0 then (match lookB t.v b with | none => some t | some x => if x.v = 0 then some t else rootF n b x) else some t
def anyO {S : Type} (step : Tm → S → Option (Bool × S)) : List Tm → S → Option (Bool × S)
  | [], s => some (false, s)
  | u :: us, s => match step u s with
    | none => none
    | some (true, s') => some (true, s')
    | some (false, s') => anyO step us s'
def eqO {S : Type} (step : Tm → Tm → S → Option (Bool × S)) : List Tm → List Tm → S → Option (Bool × S)
  | x :: xs, y :: ys, s => match step x y s with
    | none => none
    | some (true, s') => eqO step xs ys s'
    | some (false, s') => some (false, s')
  | _, _, s => some (true, s)
def leadsF : Nat → Bs → Int → Tm → List (Int × Bool) → Option (Bool × List (Int × Bool))
  | 0, _, _, _, _ => none
  | n + 1, b, v, t, met =>
    if t.v = 0 then anyO (leadsF n b v) t.us met
    else if t.v = v then some (true, met)
    else if lookA t.v met = some true then some (false, met)
    else match lookB t.v b with
      | none => some (false, putA t.v true met)
      | some x => leadsF n b v x (putA t.v true met)
def bindF (n : Nat) (b : Bs) (v : Int) (t : Tm) : Option (Bool × Bs) := (leadsF n (putA v t b) v t []).map fun r => (!r.1, putA v t b)
def oneV (one : Bs → Tm → Tm → Option (Bool × Bs)) (n : Nat) (b : Bs) (a c : Tm) : Option (Bool × Bs) :=
  if c.v = 0 then (match lookB a.v b with | some x => one b x c | none => bindF n b a.v c)
  else if a.v = c.v then some (true, b)
  else match lookB a.v b, lookB c.v b with
    | some x, some y => (match bindF n b c.v a with
      | none => none
      | some (false, b') => some (false, b')
      | some (true, b') => one b' x y)
    | some _, none => bindF n b c.v a
    | none, some _ => bindF n b a.v c
    | none, none => bindF n b (if c.v > a.v then c.v else a.v) (.mk (if c.v < a.v then c.v else a.v) 0 [])
def oneF : Nat → Bs → Tm → Tm → Option (Bool × Bs)
  | 0, _, _, _ => none
  | n + 1, b, x, y =>
    match rootF n b x, rootF n b y with
    | some a, some c =>
      if a.v = 0 ∧ c.v = 0 then
        if a.f = c.f then (if a.us.length = c.us.length then eqO (fun x y s => oneF n s x y) a.us c.us b else some (false, b)) else some (false, b)
      else if a.v = 0 then oneV (oneF n) n b c a else oneV (oneF n) n b a c
    | _, _ => none
def sizeL (step : Tm → List (Int × Int) → Option (Int × List (Int × Int))) : List Tm → Int → List (Int × Int) → Option (Int × List (Int × Int))
  | [], a, kn => some (a, kn)
  | u :: us, a, kn => match step u kn with
    | none => none
    | some r => sizeL step us (if 1000 < a + r.1 then 1000 else a + r.1) r.2
def sizeF : Nat → Bs → Tm → List (Int × Int) → Option (Int × List (Int × Int))
  | 0, _, _, _ => none
  | n + 1, b, t, kn =>
    if t.v > 0 then (match lookB t.v b with
      | none => some (1, kn)
      | some x => (match lookA t.v kn with
        | some s => some (s, kn)
        | none => (sizeF n b x kn).map fun r => (r.1, putA t.v r.1 r.2)))
    else sizeL (sizeF n b) t.us 1 kn
def thruS (thru : Tm → Tm) (b : Bs) (x : Tm) : Tm × Bool := match lookB x.v b with
  | some y => if x.v > 0 then (thru y, true) else (x, false)
  | none => (x, false)
def thruT : Nat → Bs → Tm → Tm
  | 0, _, t => t
  | n + 1, b, t => mapM (thruS (thruT n b) b) t
def thruOk : Nat → Bs → Tm → Bool
  | 0, _, _ => false
  | n + 1, b, t => (pre t).all fun x => match lookB x.v b with
    | some y => !decide (x.v > 0) || thruOk n b y
    | none => true
end Go.Proofs.Ytmeekpinkfpnhab
namespace Go.Proofs.Ytmeekpinkfpnhab
open Go.RowKit
theorem awp_loopN {P : Program} {w0 : World} {n : Nat} {Q : Exit → St → Prop} {s : St} {c : Code} (I : Nat → St → Prop) (h0 : ∃ j, I j s) (round : ∀ j s, I j s → awp P w0 n c (thenA (fun s' => ∃ j', j' < j ∧ I j' s') Q) s) : awp P w0 n (.loop c) Q s := by
  obtain ⟨j0, h0⟩ := h0
  intro m β a w h1 h2 h3 b k cs
  have key : ∀ N s m β a w, I N s → a.tmps.size = n → HRel P w0 s.h s.k m β w → TRel m β s.t a.tmps →
      ∃ e a' w', (∃ s' m' β', Q e s' ∧ a'.tmps.size = n ∧ a'.defers = a.defers ∧ s.k ≤ s'.k ∧ Goes P w0 m β s' m' β' a' w' ∧ ∀ x, x.1 < s.k → β x = none → β' x = none) ∧ Arrives P (lone (b.at a (.code c :: .inLoop c :: k)) cs w) b k cs e a' w' := by
    intro N
    induction N using Nat.strongRecOn with
    | _ N ih =>
      intro s m β a w hI h1 h2 h3
      obtain ⟨e, a₁, w₁, ⟨s', m', β', hq, g1, g2, g3, g4, g5⟩, harr⟩ := round N s hI m β a w h1 h2 h3 b (.inLoop c :: k) cs
      cases e with
      | normal =>
        obtain ⟨j', hlt, hI₁⟩ := hq
        obtain ⟨e₂, a₂, w₂, ⟨s'', m'', β'', hq₂, k1, k2, k3, k4, k5⟩, harr₂⟩ := ih j' hlt s' m' β' a₁ w₁ hI₁ g1 g4.heap g4.slots
        exact ⟨e₂, a₂, w₂, ⟨s'', m'', β'', hq₂, k1, k2.trans g2, by omega, ⟨g4.mem.trans k4.mem, g4.bl.trans k4.bl, k4.heap, k4.slots⟩, fun x hx h0 => k5 x (by omega) (g5 x hx h0)⟩, .of_steps (Steps.trans harr (.one step_inLoop)) harr₂⟩
      | exit id => exact ⟨_, a₁, w₁, ⟨s', m', β', hq, g1, g2, g3, g4, g5⟩, .pass (x := .inLoop c) rfl (fun _ _ => .inl (by simp)) harr⟩
      | goto l => exact ⟨_, a₁, w₁, ⟨s', m', β', hq, g1, g2, g3, g4, g5⟩, .pass (x := .inLoop c) rfl (fun _ _ => .inl (by simp)) harr⟩
      | ret => exact ⟨_, a₁, w₁, ⟨s', m', β', hq, g1, g2, g3, g4, g5⟩, .pass (x := .inLoop c) rfl (fun _ _ => .inl (by simp)) harr⟩
      | panic ch => exact ⟨_, a₁, w₁, ⟨s', m', β', hq, g1, g2, g3, g4, g5⟩, .pass (x := .inLoop c) rfl (fun _ _ => .inl (by simp)) harr⟩
      | outgrown => exact ⟨_, a₁, w₁, ⟨s', m', β', hq, g1, g2, g3, g4, g5⟩, .pass (x := .inLoop c) rfl (fun _ _ => .inl (by simp)) harr⟩
  obtain ⟨e, a', w', hq, harr⟩ := key j0 s m β a w h0 h1 h2 h3
  exact ⟨e, a', w', hq, .of_steps (.one step_loop) harr⟩
theorem lookB_key {v : Int} {b : Bs} {t : Tm} (h : lookB v b = some t) : getM v (bsE b) = some (tmDV t) := by rw [getM_bs, h]; rfl
theorem lookB_no {v : Int} {b : Bs} (h : lookB v b = none) : getM v (bsE b) = none := by rw [getM_bs, h]; rfl
abbrev unR (u mm : Nm) (b : Bs) : List (Nm × Ob) := [(u, .cells 122 [.map mm]), (mm, .map (bsE b))]
theorem unR_ok {u mm : Nm} {b : Bs} {k : Nat} {h : Heap} (h1 : u.1 < k) (h2 : mm.1 < k) (e1 : h u = some (.cells 122 [.map mm])) (e2 : h mm = some (.map (bsE b))) : RoOK k (unR u mm b) h := ⟨fun x hx => by
  simp only [List.mem_cons, List.not_mem_nil, or_false] at hx
  rcases hx with rfl | rfl
  · exact ⟨h1, e1⟩
  · exact ⟨h2, e2⟩⟩
theorem rootF_none {n : Nat} {b : Bs} {t : Tm} (hv : t.v > 0) (h : lookB t.v b = none) : rootF (n + 1) b t = some t := by rw [rootF, if_pos hv, h]
theorem rootF_term {n : Nat} {b : Bs} {t x : Tm} (hv : t.v > 0) (h : lookB t.v b = some x) (hx : x.v = 0) : rootF (n + 1) b t = some t := by rw [rootF, if_pos hv, h]; simp [hx]
theorem rootF_var {n : Nat} {b : Bs} {t x : Tm} (hv : t.v > 0) (h : lookB t.v b = some x) (hx : x.v ≠ 0) : rootF (n + 1) b t = rootF n b x := by rw [rootF, if_pos hv, h]; simp [hx]
set_option maxHeartbeats 2000000 in
set_option maxRecDepth 20000 in
theorem root_tri (u mm : Nm) (b : Bs) (n : Nat) (t r : Tm) (hr : rootF n b t = some r) : Tri Try.prog 107 [.ptr u 0, .d (tmDV t)] (rdE (unR u mm b) (.d (tmDV r))) := by
  refine tri_enter_ro Try.func107 rfl Try.ntmps107 (by simp only [List.length_cons, List.length_nil]; omega) fun w0 h0 k hro => ?_
  obtain ⟨n1, eu⟩ := hro.get _ (List.mem_cons_self ..)
  obtain ⟨n2, em⟩ := hro.get _ (List.mem_cons_of_mem _ (List.mem_cons_self ..))
  have q1 := nmne n1
  have q2 := nmne n2
  repeat' (first | refine awp_seq_k fun K hK => ?_ | ((first | refine aK fun R hR => ?_ | refine aD mixed fun R hR => ?_); simp only [go_sem]) | ((first | (refine hR _ ?_; clear hR R) | refine awp_skip ?_ | refine awp_exit ?_ | refine awp_ret ?_); try refine aP ?_) | ((repeat (fail_if_success refine hK _ ?_); clear hK K); refine hK _ ?_; clear hK K) | refine aT ?_ | refine aF ?_ | refine awp_block ?_ | refine aN ?_ | fail)
  refine awp_loopN (fun j σ => ∃ t' : Tm, σ.t 0 = .ptr u 0 ∧ σ.t 3 = .ptr (k, 0) 0 ∧ σ.t 4 = .ptr (k, 1) 0 ∧ σ.h (k, 0) = some (.cells 28 [iA t'.v, iA t'.f, .d (.sl (t'.us.map tmDV))]) ∧ σ.h (k, 1) = some (.cells 28 [iA 0, iA 0, .nil]) ∧ Fr k h0 σ.h ∧ k < σ.k ∧ rootF j b t' = some r) ?_ ?_
  · refine ⟨n, t, ?_⟩
    simp only [go_sem, ]
    and_intros; all_goals try (first | rfl | omega | assumption | exact anA)
  · rintro j σ ⟨t', s0, s3, s4, sh, sh', hF, hk, hv⟩
    have eu' : σ.h u = some (.cells 122 [.map mm]) := (hF u n1).trans eu
    have em' : σ.h mm = some (.map (bsE b)) := (hF mm n2).trans em
    have hne := ltne hk
    have q3 := nmne (b := σ.k) (Nat.lt_trans n1 hk)
    have q4 := nmne (b := σ.k) (Nat.lt_trans n2 hk)
    cases j with
    | zero => simp [rootF] at hv
    | succ j =>
      cases hv0 : decide (t'.v > 0) with
      | false =>
        have : rootF (j + 1) b t' = some t' := by rw [rootF, if_neg (by simpa using hv0)]
        rw [this] at hv; cases hv
        repeat' (first | refine awp_seq_k fun K hK => ?_ | ((first | refine aK fun R hR => ?_ | refine aD mixed fun R hR => ?_); simp only [go_sem, s0, s3, s4, sh, sh', hv0, hne]) | ((first | (refine hR _ ?_; clear hR R) | refine awp_skip ?_ | refine awp_exit ?_ | refine awp_ret ?_); try refine aP ?_) | ((repeat (fail_if_success refine hK _ ?_); clear hK K); refine hK _ ?_; clear hK K) | refine aT ?_ | refine aF ?_ | refine awp_block ?_ | refine aN ?_ | fail)
        (first | refine ret_pure ?_ ?_ ?_ | refine ret_ro ?_ ?_ ?_); focus exact (by simp only [Try.results107, resOkL, resOk, Try.ntmps107, List.toList_toArray]; first | decide | (simp only [go_sem, s4, sh', hne]; done) | (simp only [go_sem, s4, sh', hne]; and_intros <;> first | omega | rfl | decide))
        rotate_left; focus exact frA
        simp only [resA, resV, Try.results107, go_sem, s4, sh', hne]
        all_goals try exact coA
        all_goals exact co_tm' rfl
      | true =>
        have hv0' : t'.v > 0 := by simpa using hv0
        cases hb : lookB t'.v b with
        | none =>
          have hg := lookB_no hb
          rw [rootF_none hv0' hb] at hv; cases hv
          repeat' (first | refine awp_seq_k fun K hK => ?_ | ((first | refine aK fun R hR => ?_ | refine aD mixed fun R hR => ?_); simp only [go_sem, s0, s3, s4, sh, sh', hv0, hne, eu', em', q3, q4, hg, Option.isSome_none, AV.toD, Option.getD_none]) | ((first | (refine hR _ ?_; clear hR R) | refine awp_skip ?_ | refine awp_exit ?_ | refine awp_ret ?_); try refine aP ?_) | ((repeat (fail_if_success refine hK _ ?_); clear hK K); refine hK _ ?_; clear hK K) | refine aT ?_ | refine aF ?_ | refine awp_block ?_ | refine aN ?_ | fail)
          (first | refine ret_pure ?_ ?_ ?_ | refine ret_ro ?_ ?_ ?_); focus exact (by simp only [Try.results107, resOkL, resOk, Try.ntmps107, List.toList_toArray]; first | decide | (simp only [go_sem, s4, sh', hne]; done) | (simp only [go_sem, s4, sh', hne]; and_intros <;> first | omega | rfl | decide))
          rotate_left; focus exact frA
          simp only [resA, resV, Try.results107, go_sem, s4, sh', hne]
          all_goals try exact coA
          all_goals exact co_tm' rfl
        | some x =>
          have hg := lookB_key hb
          cases hx : (x.v == 0) with
          | true =>
            rw [rootF_term hv0' hb (by simpa using hx)] at hv; cases hv
            repeat' (first | refine awp_seq_k fun K hK => ?_ | ((first | refine aK fun R hR => ?_ | refine aD mixed fun R hR => ?_); simp only [go_sem, s0, s3, s4, sh, sh', hv0, hne, eu', em', q3, q4, hg, hx, Option.isSome_some]) | ((first | (refine hR _ ?_; clear hR R) | refine awp_skip ?_ | refine awp_exit ?_ | refine awp_ret ?_); try refine aP ?_) | ((repeat (fail_if_success refine hK _ ?_); clear hK K); refine hK _ ?_; clear hK K) | refine aT ?_ | refine aF ?_ | refine awp_block ?_ | refine aN ?_ | fail)
            (first | refine ret_pure ?_ ?_ ?_ | refine ret_ro ?_ ?_ ?_); focus exact (by simp only [Try.results107, resOkL, resOk, Try.ntmps107, List.toList_toArray]; first | decide | (simp only [go_sem, s4, sh', hne]; done) | (simp only [go_sem, s4, sh', hne]; and_intros <;> first | omega | rfl | decide))
            rotate_left; focus exact frA
            simp only [resA, resV, Try.results107, go_sem, s4, sh', hne]
            all_goals try exact coA
            all_goals exact co_tm' rfl
          | false =>
            rw [rootF_var hv0' hb (by simpa using hx)] at hv
            repeat' (first | refine awp_seq_k fun K hK => ?_ | ((first | refine aK fun R hR => ?_ | refine aD mixed fun R hR => ?_); simp only [go_sem, s0, s3, s4, sh, sh', hv0, hne, eu', em', q3, q4, hg, hx, Option.isSome_some]) | ((first | (refine hR _ ?_; clear hR R) | refine awp_skip ?_ | refine awp_exit ?_ | refine awp_ret ?_); try refine aP ?_) | ((repeat (fail_if_success refine hK _ ?_); clear hK K); refine hK _ ?_; clear hK K) | refine aT ?_ | refine aF ?_ | refine awp_block ?_ | refine aN ?_ | fail)
            refine ⟨j, Nat.lt_succ_self j, x, ?_⟩
            simp only [go_sem, s0, s3, s4, sh, sh', hne]
            and_intros; all_goals try (first | rfl | omega | assumption | exact anA)
end Go.Proofs.Ytmeekpinkfpnhab
