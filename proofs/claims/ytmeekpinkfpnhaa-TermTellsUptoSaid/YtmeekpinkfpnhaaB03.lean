/- A function's contract from its body. Regions that draw their order: the text's order is enough, where operations that have no order meet no object of each other. Regions that draw their order (2): any order does what the text's order does. Regions that draw their order (3): the rule. Facts on types and functions of the program, written by a program of ours. -/
import Derived.Test.YtmeekpinkfpnhaaB02
import Derived.Test.YtmeekpinkfpnhaaProg
set_option linter.unusedSimpArgs false
set_option linter.unusedSectionVars false
set_option linter.unusedVariables false
set_option linter.unnecessarySimpa false
set_option linter.all false
namespace Go.Proofs.Ytmeekpinkfpnhaa
open Go.RowKit
abbrev Ren := Option (Nm × Nm)
inductive Co (k : Nat) (ren : Ren) : AV → AV → Prop
  | refl {a : AV} (h : ∀ n ∈ a.names, n.1 < k) : Co k ren a a
  | dat {a : AV} {x : DV} (h : a.toD? = some x) : Co k ren a (.d x)
  | junk {a : AV} : Co k ren a .junk
  | own {n n' : Nm} {xs : List DV} (h : ren = some (n', n)) : Co k ren (.own n xs) (.own n' xs)
  | arr {n n' : Nm} {off len : Nat} (h : ren = some (n', n)) : Co k ren (.arr n off len) (.arr n' off len)
  | map {n n' : Nm} (h : ren = some (n', n)) : Co k ren (.map n) (.map n')
  | ptr {n n' : Nm} {off : Nat} (h : ren = some (n', n)) : Co k ren (.ptr n off) (.ptr n' off)
  | tup {az bs : List AV} (hl : az.length = bs.length) (h : ∀ (i : Nat) (a b : AV), az[i]? = some a → bs[i]? = some b → Co k ren a b) : Co k ren (.tup az) (.tup bs)
theorem Co.t2 {k : Nat} {ren : Ren} {a b a' b' : AV} (h1 : Co k ren a a') (h2 : Co k ren b b') : Co k ren (.tup [a, b]) (.tup [a', b']) :=
  .tup rfl fun i x y hx hy => by
    match i with
    | 0 => simp at hx hy; subst hx; subst hy; exact h1
    | 1 => simp at hx hy; subst hx; subst hy; exact h2
    | i + 2 => simp at hx
theorem Co.t3 {k : Nat} {ren : Ren} {a b c a' b' c' : AV} (h1 : Co k ren a a') (h2 : Co k ren b b') (h3 : Co k ren c c') : Co k ren (.tup [a, b, c]) (.tup [a', b', c']) :=
  .tup rfl fun i x y hx hy => by
    match i with
    | 0 => simp at hx hy; subst hx; subst hy; exact h1
    | 1 => simp at hx hy; subst hx; subst hy; exact h2
    | 2 => simp at hx hy; subst hx; subst hy; exact h3
    | i + 3 => simp at hx
theorem Co.t4 {k : Nat} {ren : Ren} {a b c d a' b' c' d' : AV} (h1 : Co k ren a a') (h2 : Co k ren b b') (h3 : Co k ren c c') (h4 : Co k ren d d') : Co k ren (.tup [a, b, c, d]) (.tup [a', b', c', d']) :=
  .tup rfl fun i x y hx hy => by
    match i with
    | 0 => simp at hx hy; subst hx; subst hy; exact h1
    | 1 => simp at hx hy; subst hx; subst hy; exact h2
    | 2 => simp at hx hy; subst hx; subst hy; exact h3
    | 3 => simp at hx hy; subst hx; subst hy; exact h4
    | i + 4 => simp at hx
def Ob.names : Ob → List Nm
  | .cells _ cs => namesL cs
  | .iter src _ _ => [src]
  | _ => []
def resV (P : Program) (s : St) : ResultVar → AV
  | .tmp t => s.t t
  | .cell a t => (effLoad P t (s.t a) s.h).val
def resOk (P : Program) (n : Nat) (s : St) : ResultVar → Prop
  | .tmp t => t < n
  | .cell a t => a < n ∧ hasT P t = true ∧ okLoad P t (s.t a) s.h
def resA (P : Program) (s : St) : List ResultVar → AV
  | [r] => resV P s r
  | rs => .tup (rs.map (resV P s))
def resOkL (P : Program) (n : Nat) (s : St) : List ResultVar → Prop
  | [] => True
  | r :: rs => resOk P n s r ∧ resOkL P n s rs
def HeapOK (k : Nat) (ren : Ren) (e : Eff) (h0 h : Heap) : Prop :=
  (∀ x, x.1 < k → (∀ y, ren = some y → x ≠ y.1) → h x = e.ap h0 x) ∧ (∀ y, ren = some y → y.1.1 < k ∧ k ≤ y.2.1 ∧ h0 y.1 = none ∧ (∃ z ∈ e.wr, z.1 = y.1) ∧ ∃ ob, e.ap h0 y.1 = some ob ∧ h y.2 = some ob ∧ ob.names = []) ∧
    ∀ x ∈ e.wr, ∀ ob, x.2 = some ob → ∀ n ∈ ob.names, n.1 < k
def RetOK (P : Program) (fn : Func) (e : Eff) (h0 : Heap) (k : Nat) (s : St) : Prop :=
  resOkL P fn.ntmps s fn.results.toList ∧ ∃ ren, Co k ren (resA P s fn.results.toList) e.val ∧ HeapOK k ren e h0 s.h
def retQ (P : Program) (fn : Func) (e : Eff) (h0 : Heap) (k : Nat) : Exit → St → Prop
  | .ret, s => RetOK P fn e h0 k s
  | .normal, s => RetOK P fn e h0 k s
  | _, _ => False
section
variable {P : Program} {w0 : World} {m : Mem} {β : Bl} {s : St} {a : Act} {w : World}
def resSem (tmps : Array Value) : ResultVar → Sem Value
  | .tmp t => pure (tmps.getD t undef)
  | .cell a t => do loadVar t (← asAddr (tmps.getD a undef))
theorem results_eq (fn : Func) (tmps : Array Value) : results fn tmps = (do let vs ← fn.results.mapM (resSem tmps); pure (if h : vs.size = 1 then vs[0] else .tuple vs)) := by
  unfold results
  congr 2
theorem res_run {n : Nat} (H : HRel P w0 s.h s.k m β w) (hT : TRel m β s.t a.tmps) (hn : a.tmps.size = n) (r : ResultVar) (hr : resOk P n s r) :
    ∃ v, (resSem a.tmps r).run P w = .ok v w ∧ R m β v (resV P s r) := by
  cases r with
  | tmp t =>
    have hlt : t < a.tmps.size := by rw [hn]; exact hr
    refine ⟨a.tmps[t], ?_, hT t _ (Array.getElem?_eq_getElem hlt)⟩
    simp only [resSem, Sem.run_pure]
    rw [← Array.getElem_eq_getD (h := hlt)]
  | cell x t =>
    obtain ⟨h1, h2, h3⟩ := hr
    have hlt : x < a.tmps.size := by rw [hn]; exact h1
    have hv := hT x _ (Array.getElem?_eq_getElem hlt)
    obtain ⟨v, hrun, hR⟩ := load_same H h2 hv h3
    refine ⟨v, ?_, hR⟩
    have e : a.tmps.getD x undef = a.tmps[x] := (Array.getElem_eq_getD (h := hlt) undef).symm
    simp only [resSem, e]
    clear e
    generalize a.tmps[x] = u at hv hrun
    have hp : ∃ ad, u = .pointer (some ad) := by
      generalize s.t x = b at hv h3
      cases hv <;> first | exact ⟨_, rfl⟩ | exact h3.elim
    obtain ⟨ad, rfl⟩ := hp
    simpa [asAddr, Instr.loadAt, Instr.sureAddr] using hrun
theorem res_runL {n : Nat} (H : HRel P w0 s.h s.k m β w) (hT : TRel m β s.t a.tmps) (hn : a.tmps.size = n) : ∀ (rs : List ResultVar), resOkL P n s rs →
    ∃ vs : List Value, (rs.mapM (resSem a.tmps)).run P w = .ok vs w ∧ vs.length = rs.length ∧ ∀ (i : Nat) (v : Value) (r : ResultVar), vs[i]? = some v → rs[i]? = some r → R m β v (resV P s r)
  | [], _ => ⟨[], rfl, rfl, fun i v r h => by simp at h⟩
  | r :: rs, hr => by
    obtain ⟨v, h1, h2⟩ := res_run H hT hn r hr.1
    obtain ⟨vs, h3, h4, h5⟩ := res_runL H hT hn rs hr.2
    refine ⟨v :: vs, ?_, by simp [h4], fun i u q hu hq => ?_⟩
    · rw [List.mapM_cons]
      simp only [Sem.run_bind, h1, Result.andThen_ok, h3, Sem.run_pure]
    · cases i with
      | zero => simp at hu hq; subst hu; subst hq; exact h2
      | succ i => exact h5 i u q (by simpa using hu) (by simpa using hq)
theorem results_ok {fn : Func} (H : HRel P w0 s.h s.k m β w) (hT : TRel m β s.t a.tmps) (hn : a.tmps.size = fn.ntmps) (hr : resOkL P fn.ntmps s fn.results.toList) : ∃ v, (results fn a.tmps).run P w = .ok v w ∧ R m β v (resA P s fn.results.toList) := by
  obtain ⟨vs, h1, h2, h3⟩ := res_runL H hT hn fn.results.toList hr
  have hrun : (results fn a.tmps).run P w = .ok (if h : vs.toArray.size = 1 then vs.toArray[0] else .tuple vs.toArray) w := by
    rw [results_eq, Array.mapM_eq_mapM_toList]
    simp only [Sem.run_bind, Sem.run_map, h1, Result.andThen_ok, Sem.run_pure]
  refine ⟨_, hrun, ?_⟩
  generalize fn.results.toList = rs at *
  match rs, vs, h2, h3 with
  | [r], [v], _, h3 => exact h3 0 v r rfl rfl
  | [], [], _, _ => exact .tup (by rfl) fun i v a h => by simp at h
  | r1 :: r2 :: rs, v1 :: v2 :: vs, h2, h3 =>
    have : ¬ ((v1 :: v2 :: vs).toArray.size = 1) := by simp
    rw [dif_neg this]
    refine .tup (by simpa using h2) fun i v b hv hb => ?_
    rw [List.getElem?_map, Option.map_eq_some_iff] at hb
    obtain ⟨r, hr, rfl⟩ := hb
    exact h3 i v r (by simpa using hv) hr
theorem Co.R {k : Nat} {ren : Ren} {β' : Bl} {b b' : AV} (hc : Co k ren b b') : ∀ {v : Value}, R m β v b → (∀ n p, n.1 < k → β n = some p → β' n = some p) → (∀ y p, ren = some y → β y.2 = some p → β' y.1 = some p) → R m β' v b' := by
  induction hc with
  | refl h =>
    intro v hr h1 h2
    refine hr.names fun n hn => ?_
    obtain ⟨p, hp⟩ := hr.known n hn
    rw [hp]; exact h1 n p (h n hn) hp
  | dat h => intro v hr _ _; exact .d (hr.toD h)
  | junk => intro v _ _ _; exact .junk
  | own h => intro v hr h1 h2; cases hr with | own hd hb hv hl ha => exact .own hd (h2 _ _ h hb) hv hl ha
  | arr h => intro v hr h1 h2; cases hr with | arr hb hv hc hm ho => exact .arr (h2 _ _ h hb) hv hc hm ho
  | map h => intro v hr h1 h2; cases hr with | map hb hv => exact .map (h2 _ _ h hb) hv
  | ptr h => intro v hr h1 h2; cases hr with | ptr hb hv => exact .ptr (h2 _ _ h hb) hv
  | tup hl h ih =>
    intro v hr h1 h2
    cases hr with
    | tup hl' hr =>
      refine .tup (hl'.trans hl) fun i u b hu hb => ?_
      have hlt := (List.getElem?_eq_some_iff.1 hb).1
      have ha := List.getElem?_eq_getElem (l := _) (i := i) (by rw [hl]; exact hlt)
      exact ih i _ b ha hb (hr i u _ hu ha) h1 h2
def renN (ren : Ren) (n : Nm) : Nm := match ren with | some y => if n = y.1 then y.2 else n | none => n
theorem ap_some {l : List (Nm × Option Ob)} : ∀ {h : Heap} {n : Nm} {ob : Ob}, l.foldl (fun h x => upd h x.1 x.2) h n = some ob → h n = some ob ∨ ∃ x ∈ l, x.1 = n ∧ x.2 = some ob := by
  induction l with
  | nil => intro h n ob hh; exact .inl hh
  | cons x l ih =>
    intro h n ob hh
    rcases ih hh with h1 | ⟨y, hy, h2⟩
    · simp only [upd] at h1
      split at h1
      · rename_i e; exact .inr ⟨x, by simp, e.symm, h1⟩
      · exact .inl h1
    · exact .inr ⟨y, by simp [hy], h2⟩
theorem leave {k : Nat} {ren : Ren} {e : Eff} {h0 : Heap} {β0 : Bl} {m0 : Mem} {w1 : World} (H0 : HRel P w0 h0 k m0 β0 w1) (hb0 : β0.le β) (hbk : ∀ x, x.1 < k → β0 x = none → β x = none) (H : HRel P w0 s.h s.k m β w) (hh : HeapOK k ren e h0 s.h) (hwk : ∀ x ∈ e.wr, x.1.1 < k) (hrd : ∀ y, ren = some y → β0 y.1 = none) :
    ∃ β', β0.le β' ∧ (∀ n, (∀ x ∈ e.wr, x.1 ≠ n) → β0 n = none → β' n = none) ∧ HRel P w0 (e.ap h0) k m β' w ∧ (∀ n p, n.1 < k → β n = some p → β' n = some p) ∧ (∀ y p, ren = some y → β y.2 = some p → β' y.1 = some p) := by
  obtain ⟨hh1, hh2, hh3⟩ := hh
  let ρ : Nm → Nm := renN ren
  let β' : Bl := fun n => if n.1 < k then β (ρ n) else none
  have hρ1 : ∀ n, (∀ y, ren = some y → n ≠ y.1) → ρ n = n := fun n hn => by
    simp only [ρ, renN]
    split
    · rename_i y; rw [if_neg (hn y rfl)]
    · rfl
  have hρ2 : ∀ y, ren = some y → ρ y.1 = y.2 := fun y hy => by subst hy; simp [ρ, renN]
  have hcase : ∀ n, (∀ y, ren = some y → n ≠ y.1) ∨ ∃ y, ren = some y ∧ n = y.1 := fun n => by
    cases hr : ren with
    | none => exact .inl fun y hy => by cases hy
    | some y =>
      by_cases e : n = y.1
      · exact .inr ⟨y, rfl, e⟩
      · exact .inl fun z hz => by cases hz; exact e
  have hβ : ∀ n p, n.1 < k → β n = some p → β' n = some p := fun n p hn hp => by
    simp only [β', if_pos hn]
    rw [hρ1 n ?_]
    · exact hp
    · rintro y hy rfl
      rw [hbk _ hn (hrd y hy)] at hp
      cases hp
  have hobk : ∀ n ob, e.ap h0 n = some ob → n.1 < k := fun n ob ho => by
    rcases ap_some ho with h | ⟨x, hx, rfl, _⟩
    · obtain ⟨p, hp, _⟩ := H0.obj n ob h; exact H0.dom n p hp
    · exact hwk x hx
  have hobρ : ∀ n ob, e.ap h0 n = some ob → s.h (ρ n) = some ob := fun n ob ho => by
    rcases hcase n with h | ⟨y, hy, rfl⟩
    · rw [hρ1 n h, hh1 n (hobk n ob ho) h]; exact ho
    · obtain ⟨_, _, _, _, ob', h1, h2, _⟩ := hh2 y hy
      rw [hρ2 y hy]
      rw [ho] at h1; cases h1; exact h2
  have hnames : ∀ n ob, e.ap h0 n = some ob → ∀ x ∈ ob.names, x.1 < k := fun n ob ho x hx => by
    rcases ap_some ho with h | ⟨y, hy, rfl, h2⟩
    · obtain ⟨p, hp, hob⟩ := H0.obj n ob h
      cases ob with
      | cells e cs =>
        obtain ⟨_, c, c1, c2, c3, c4⟩ := hob
        obtain ⟨i, a, hi, ha⟩ := mem_names hx
        have hlt := (List.getElem?_eq_some_iff.1 hi).1
        obtain ⟨q, hq⟩ := (c3 i _ a (Array.getElem?_eq_getElem (by omega)) hi).2.known x ha
        exact H0.dom x q hq
      | iter src n' seen =>
        obtain ⟨_, q, sn, h1, _⟩ := hob
        simp [Ob.names] at hx; subst hx
        exact H0.dom _ q h1
      | _ => simp [Ob.names] at hx
    · exact hh3 y hy ob h2 x hx
  have hdomβ' : ∀ n p, β' n = some p → n.1 < k ∧ β (ρ n) = some p := fun n p hn => by
    simp only [β'] at hn
    split at hn
    · exact ⟨‹_›, hn⟩
    · cases hn
  have hinjρ : ∀ x y, x.1 < k → y.1 < k → ρ x = ρ y → x = y := fun x y hx hy hxy => by
    rcases hcase x with h | ⟨z, hz, rfl⟩
    · rcases hcase y with h' | ⟨z, hz, rfl⟩
      · rw [hρ1 x h, hρ1 y h'] at hxy; exact hxy
      · rw [hρ1 x h, hρ2 z hz] at hxy
        have := (hh2 z hz).2.1
        rw [hxy] at hx; omega
    · rcases hcase y with h' | ⟨z', hz', rfl⟩
      · rw [hρ1 y h', hρ2 z hz] at hxy
        have := (hh2 z hz).2.1
        rw [← hxy] at hy; omega
      · rw [hz] at hz'; cases hz'; rfl
  refine ⟨β', fun n p hp => let ⟨q, q1, q2⟩ := hb0 n p hp; ⟨q, hβ n q (H0.dom n p hp) q1, q2⟩, fun n hn h0 => ?_, ⟨H.ext, H.mem, fun n p hp => (hdomβ' n p hp).1, ?_, ?_, ?_⟩, hβ, fun y p hy hp => ?_⟩
  · by_cases hk : n.1 < k
    · have hne : ∀ y, ren = some y → n ≠ y.1 := fun y hy e => by
        obtain ⟨_, _, _, ⟨z, hz, hz'⟩, _⟩ := hh2 y hy
        exact hn z hz (hz'.trans e.symm)
      simp only [β', if_pos hk, hρ1 n hne]
      exact hbk n hk h0
    · simp only [β', if_neg hk]
  · intro n p ob hp ho hr
    exact H.new (ρ n) p ob (hdomβ' n p hp).2 (hobρ n ob ho) hr
  · intro n ob ho
    obtain ⟨p, hp, hob⟩ := H.obj (ρ n) ob (hobρ n ob ho)
    refine ⟨p, by simp only [β', if_pos (hobk n ob ho)]; exact hp, ?_⟩
    have hn := hnames n ob ho
    cases ob with
    | cells e cs =>
      obtain ⟨hver, c, c1, c2, c3, c4⟩ := hob
      refine ⟨hver, c, c1, c2, fun i v a hi ha => ⟨(c3 i v a hi ha).1, (c3 i v a hi ha).2.names fun x hx => ?_⟩, c4⟩
      obtain ⟨q, hq⟩ := (c3 i v a hi ha).2.known x hx
      rw [hq]
      exact hβ x q (hn x (names_mem ha hx)) hq
    | perm e len => exact hob
    | map es => exact hob
    | iter src n' seen =>
      obtain ⟨h1, q, sn, h2, h3⟩ := hob
      exact ⟨h1, q, sn, hβ src q (hn src (by simp [Ob.names])) h2, h3⟩
  · intro x y p p' o o' hx hy hp hp' hr hr' hpp
    exact hinjρ x y (hobk x o hx) (hobk y o' hy) (H.inj _ _ p p' o o' (hobρ x o hx) (hobρ y o' hy) (hdomβ' x p hp).2 (hdomβ' y p' hp').2 hr hr' hpp)
  · have hk := (hh2 y hy).1
    simp only [β', if_pos hk, hρ2 y hy]
    exact hp
def slotsOf (args : List AV) (i : Nat) : AV := args.getD i .junk
theorem tri_enter {f : FuncId} {fn : Func} {c : Code} {args : List AV} {e : Eff} {n : Nat} (hf : P.funcs[f]? = some fn) (hb : fn.body = some c) (hnt : fn.ntmps = n) (hlen : args.length ≤ n)
    (h : ∀ (w0 : World) (h0 : Heap) (k : Nat), (∀ x ∈ e.rd, h0 x.1 = x.2) → (∀ x ∈ e.wr, x.1.1 < k) → awp P w0 n c (retQ P fn e h0 k) ⟨slotsOf args, h0, k⟩) : Tri P f args e := by
  subst hnt
  intro w0 h0 k m β w cargs H hrd hwr hsz hargs
  refine calls_of_wp hf hb (wp_mono (h w0 h0 k hrd (fun x hx => (hwr x hx).1) m β _ w ?_ H ?_) ?_)
  · simp; omega
  · intro i v hi
    show R m β v (args.getD i .junk)
    by_cases hlt : i < cargs.size
    · rw [Array.getElem?_append_left hlt] at hi
      have ha : args[i]? = some (args[i]'(by omega)) := List.getElem?_eq_getElem (by omega)
      have := hargs i v _ hi ha
      rwa [show args.getD i AV.junk = args[i]'(by omega) from by simp only [List.getD_eq_getElem?_getD, ha, Option.getD_some]]
    · rw [show args.getD i AV.junk = .junk from by simp only [List.getD_eq_getElem?_getD, List.getElem?_eq_none (show args.length ≤ i by omega)]; rfl]
      exact .junk
  · rintro en a' w' ⟨s', m', β', hq, g1, g2, g3, g4, g5⟩
    have fin : RetOK P fn e h0 k s' → a'.defers = [] ∧ ∃ v, (results fn a'.tmps).run P w' = .ok v w' ∧ ∃ v' m' β', Ending.returned v = .returned v' ∧ m.le m' ∧ β.le β' ∧ (∀ n, (∀ x ∈ e.wr, x.1 ≠ n) → β n = none → β' n = none) ∧ HRel P w0 (e.ap h0) k m' β' w' ∧ R m' β' v' e.val := by
      rintro ⟨h1, ren, h2, h3⟩
      obtain ⟨v, hv, hR⟩ := results_ok g4.heap g4.slots g1 h1
      obtain ⟨β'', k1, k2, k3, k4, k5⟩ := leave H g4.bl g5 g4.heap h3 (fun x hx => (hwr x hx).1) (fun y hy => by
        obtain ⟨_, _, q1, ⟨z, hz, hz'⟩, _⟩ := h3.2.1 y hy
        rw [← hz'] at q1 ⊢
        exact (hwr z hz).2 q1)
      exact ⟨g2, v, hv, v, m', β'', rfl, g4.mem, k1, k2, k3, h2.R hR k4 k5⟩
    cases en with
    | normal => exact fin hq
    | ret => exact fin hq
    | _ => exact hq.elim
def Fr (k : Nat) (h0 h : Heap) : Prop := ∀ x : Nm, x.1 < k → h x = h0 x
theorem Fr.rfl' (k : Nat) (h : Heap) : Fr k h h := fun _ _ => rfl
theorem Fr.upd {k : Nat} {h0 h : Heap} (hf : Fr k h0 h) {n : Nm} (hn : k ≤ n.1) (o : Option Ob) : Fr k h0 (upd h n o) := fun x hx => by
  rw [upd_ne _ _ (fun e => by subst e; omega)]; exact hf x hx
theorem Fr.updk {k : Nat} {h0 h : Heap} (hf : Fr k h0 h) {k' i : Nat} (hn : k ≤ k') (o : Option Ob) : Fr k h0 (Go.Proofs.Ytmeekpinkfpnhaa.upd h (k', i) o) := hf.upd hn o
theorem ret_pure {fn : Func} {v : AV} {h0 : Heap} {k : Nat} {s : St} (h1 : resOkL P fn.ntmps s fn.results.toList) (h2 : Co k none (resA P s fn.results.toList) v) (h3 : Fr k h0 s.h) : RetOK P fn (pure' v) h0 k s :=
  ⟨h1, none, h2, fun x hx _ => h3 x hx, fun y hy => (by cases hy), fun x hx => (by cases hx)⟩
end
end Go.Proofs.Ytmeekpinkfpnhaa
namespace Go.Proofs.Ytmeekpinkfpnhaa
open Go.RowKit
theorem objCells_congr {h h' : Heap} {n : Nm} (e : h' n = h n) : objCells h' n = objCells h n ∧ objTy h' n = objTy h n ∧ (isCells h n → isCells h' n) := by
  unfold objCells objTy isCells; rw [e]; exact ⟨rfl, rfl, id⟩
section
variable {P : Program}
theorem append_h {nm : Nm} {t t' : TypeId} {s x : AV} {h h' : Heap} (hh : ∀ y ∈ (effAppend P nm t s x h).rd, h' y.1 = h y.1) : effAppend P nm t s x h' = effAppend P nm t s x h ∧ (okAppend P t t' s x h → okAppend P t t' s x h') := by
  have hm : ∀ m off len, x = .arr m off len → h' m = h m := fun m off len e => by
    subst e
    refine hh (m, h m) ?_
    unfold effAppend
    split <;> simp [srcRd]
  have hx : newsOf h' x = newsOf h x ∧ (∀ sz, okSrc sz h x → okSrc sz h' x) := by
    cases x with
    | arr m off len =>
      obtain ⟨e1, _, e3⟩ := objCells_congr (hm m off len rfl)
      exact ⟨by simp only [newsOf, e1], fun sz ⟨k1, k2, k3⟩ => ⟨e3 k1, k2, by rw [e1]; exact k3⟩⟩
    | _ => exact ⟨rfl, fun _ h => h⟩
  have hs : ∀ n, okDest P (elT P t) h n s → okDest P (elT P t) h' n s := by
    intro n hd
    cases s with
    | own nm' xs =>
      have e : h' nm' = h nm' := hh (nm', some (.perm (elT P t) xs.length)) (by simp [effAppend])
      exact ⟨by rw [e]; exact hd.1, hd.2⟩
    | _ => exact hd
  refine ⟨?_, fun hok => ?_⟩
  · have hr : srcRd h' x = srcRd h x := by
      cases x with
      | arr m off len => simp only [srcRd, hm m off len rfl]
      | _ => rfl
    unfold effAppend
    rw [hx.1, hr]
  · obtain ⟨k1, k2, k3, k4, k5, k6, k7⟩ := hok
    exact ⟨k1, k2, k3, k4, k5, hx.2 _ k6, by rw [hx.1]; exact hs _ k7⟩
theorem builtin_h {nm : Nm} {b : Builtin} {tl : List TypeId} {az : List AV} {h h' : Heap} (hh : ∀ y ∈ (effBuiltin P nm h b tl az).rd, h' y.1 = h y.1) : effBuiltin P nm h' b tl az = effBuiltin P nm h b tl az ∧ (okBuiltin P h b tl az → okBuiltin P h' b tl az) := by
  by_cases hb : b = .append ∧ ∃ s x t ts, az = [s, x] ∧ tl = t :: ts
  · obtain ⟨rfl, s, x, t, ts, rfl, rfl⟩ := hb
    have := append_h (P := P) (t' := ts.headD 0) (h' := h') hh
    refine ⟨this.1, fun hok => ?_⟩
    match ts, hok with
    | [t'], hok => exact this.2 hok
  · have e1 : effBuiltin P nm h' b tl az = effBuiltin P nm h b tl az := by
      unfold effBuiltin
      split <;> first | rfl | (exfalso; exact hb ⟨rfl, _, _, _, _, rfl, rfl⟩)
    refine ⟨e1, ?_⟩
    unfold okBuiltin
    split <;> first | exact id | (exfalso; exact hb ⟨rfl, _, _, _, _, rfl, rfl⟩)
theorem effOf_h {nm : Nm} {op : Op} {r : Operand → AV} {h h' : Heap} (hh : ∀ x ∈ (effOf P nm op r h).rd, h' x.1 = h x.1) : effOf P nm op r h' = effOf P nm op r h ∧ (okOf P op r h → okOf P op r h') := by
  cases op with
  | load t a =>
    simp only [effOf, okOf] at hh ⊢
    generalize r a = A at *
    cases A with
    | ptr n off =>
      have e : h' n = h n := hh (n, h n) (by simp [effLoad])
      obtain ⟨e1, e2, e3⟩ := objCells_congr e
      exact ⟨by simp only [effLoad, e1, e], fun ⟨k1, k2, k3⟩ => ⟨k1, e3 k2, by rw [e1]; exact k3⟩⟩
    | _ => exact ⟨rfl, id⟩
  | store t a x =>
    simp only [effOf, okOf] at hh ⊢
    generalize r a = A at *
    cases A with
    | ptr n off =>
      have e : h' n = h n := hh (n, h n) (by simp [effStore])
      obtain ⟨e1, e2, e3⟩ := objCells_congr e
      exact ⟨by simp only [effStore, e1, e2, e], fun ⟨k1, k2, k3, k4⟩ => ⟨k1, k2, e3 k3, by rw [e1]; exact k4⟩⟩
    | _ => exact ⟨rfl, id⟩
  | lookup t a k c =>
    simp only [effOf, okOf] at hh ⊢
    generalize r a = A at *
    cases A with
    | map n =>
      have e : h' n = h n := hh (n, h n) (by simp [effLook])
      exact ⟨by simp only [effLook, askM, mapEs, e], fun ⟨k1, k2, k3, k4, k5⟩ => ⟨k1, k2, k3, k4, by simpa only [isMapO, e] using k5⟩⟩
    | _ => exact ⟨rfl, id⟩
  | mapUpdate t a k x =>
    simp only [effOf, okOf] at hh ⊢
    generalize r a = A at *
    cases A with
    | map n =>
      have e : h' n = h n := hh (n, h n) (by simp [effPut])
      exact ⟨by simp only [effPut, mapEs, e], fun ⟨k1, k2, k3, k4⟩ => ⟨k1, k2, k3, by simpa only [isMapO, e] using k4⟩⟩
    | _ => exact ⟨rfl, id⟩
  | insert t a k x =>
    simp only [effOf, okOf] at hh ⊢
    generalize r a = A at *
    cases A with
    | map n =>
      have e : h' n = h n := hh (n, h n) (by simp [effPut])
      exact ⟨by simp only [effPut, mapEs, e], fun ⟨k1, k2, k3, k4⟩ => ⟨k1, k2, k3, by simpa only [isMapO, e] using k4⟩⟩
    | _ => exact ⟨rfl, id⟩
  | makeMap t q => cases q <;> exact ⟨rfl, id⟩
  | entry a =>
    simp only [effOf, okOf] at hh ⊢
    generalize r a = A at *
    cases A with
    | ptr n off =>
      cases off with
      | zero =>
        have e : h' n = h n := hh (n, h n) (by unfold effEntry; simp only; split <;> simp)
        cases hn : h n with
        | none => rw [hn] at e; exact ⟨by simp only [effEntry, hn, e], by simp only [okEntry, hn, e]; exact id⟩
        | some ob =>
          rw [hn] at e
          cases ob with
          | iter src m seen =>
            have e' : h' src = h src := hh (src, h src) (by simp [effEntry, hn])
            exact ⟨by simp only [effEntry, mapEs, e, e', hn], by simp only [okEntry, hn, e, isMapO, mapEs, e']; exact id⟩
          | _ => exact ⟨by simp only [effEntry, hn, e], by simp only [okEntry, hn, e]; exact id⟩
      | succ _ => exact ⟨rfl, id⟩
    | _ => exact ⟨rfl, id⟩
  | range t a =>
    simp only [effOf, okOf] at hh ⊢
    generalize r a = A at *
    cases A with
    | map n =>
      have e : h' n = h n := hh (n, h n) (by simp [effRange])
      exact ⟨by simp only [effRange, mapEs, e], fun ⟨k1, k2⟩ => ⟨k1, by simpa only [isMapO, e] using k2⟩⟩
    | _ => exact ⟨rfl, id⟩
  | call c =>
    obtain ⟨callee, args, ats⟩ := c
    cases callee with
    | builtin b =>
      simp only [effOf, okOf] at hh ⊢
      generalize args.toList.map r = az at *
      generalize ats.toList = tl at *
      exact builtin_h hh
    | _ => exact ⟨rfl, id⟩
  | _ => exact ⟨rfl, id⟩
theorem map_congr_mem {ps : Array (Nat × Operand)} {r r' : Operand → AV} (h : ∀ x ∈ ps, r' x.2 = r x.2) : ps.toList.map (fun x => (x.1, r' x.2)) = ps.toList.map (fun x => (x.1, r x.2)) :=
  List.map_congr_left fun x hx => by rw [h x (by simpa using hx)]
theorem effOf_r {nm : Nm} {op : Op} {r r' : Operand → AV} {h : Heap} (hr : ∀ x ∈ op.operands, r' x = r x) : effOf P nm op r' h = effOf P nm op r h ∧ (okOf P op r h → okOf P op r' h) := by
  cases op with
  | build t ps =>
    have := map_congr_mem (r := r) (r' := r') (ps := ps) fun x hx => hr x.2 (by simp [Op.operands]; exact ⟨x.1, by simpa using hx⟩)
    simp only [effOf, okOf, this]; exact ⟨trivial, id⟩
  | buildSlice t n ps =>
    have := map_congr_mem (r := r) (r' := r') (ps := ps) fun x hx => hr x.2 (by simp [Op.operands]; exact ⟨x.1, by simpa using hx⟩)
    simp only [effOf, okOf, this]; exact ⟨trivial, id⟩
  | slice t x lo hi mx =>
    have key : ∀ l : Option Operand, (∀ x, l = some x → r' x = r x) → l.map r' = l.map r := fun l hl => by
      cases l with
      | none => rfl
      | some x => simp [hl x rfl]
    have e1 := hr x (by simp [Op.operands])
    have e2 := key lo fun x hx => hr x (by subst hx; simp [Op.operands])
    have e3 := key hi fun x hx => hr x (by subst hx; simp [Op.operands])
    have e4 := key mx fun x hx => hr x (by subst hx; simp [Op.operands])
    simp only [effOf, okOf, e1, e2, e3, e4]; exact ⟨trivial, id⟩
  | makeFunc f a b =>
    have e1 : a.toList.map r' = a.toList.map r := List.map_congr_left fun x hx => hr x (by simp [Op.operands] at hx ⊢; exact .inl hx)
    have e2 : b.toList.map r' = b.toList.map r := List.map_congr_left fun x hx => hr x (by simp [Op.operands] at hx ⊢; exact .inr hx)
    simp only [effOf, okOf, e1, e2]; exact ⟨trivial, id⟩
  | call c =>
    obtain ⟨callee, args, ats⟩ := c
    cases callee with
    | builtin b =>
      have e1 : args.toList.map r' = args.toList.map r := List.map_congr_left fun x hx => hr x (by simp [Op.operands, Call.operands] at hx ⊢; exact hx)
      simp only [effOf, okOf, e1]; exact ⟨trivial, id⟩
    | _ => exact ⟨rfl, id⟩
  | move x => have e := hr x (by simp [Op.operands]); simp only [effOf, okOf, e]; exact ⟨trivial, id⟩
  | assign x => have e := hr x (by simp [Op.operands]); simp only [effOf, okOf, e]; exact ⟨trivial, id⟩
  | pick c x y =>
    have e1 := hr c (by simp [Op.operands]); have e2 := hr x (by simp [Op.operands]); have e3 := hr y (by simp [Op.operands])
    simp only [effOf, okOf, e1, e2, e3]; exact ⟨trivial, id⟩
  | box e x => have e := hr x (by simp [Op.operands]); simp only [effOf, okOf, e]; exact ⟨trivial, id⟩
  | load t x => have e := hr x (by simp [Op.operands]); simp only [effOf, okOf, e]; exact ⟨trivial, id⟩
  | store t x y => have e1 := hr x (by simp [Op.operands]); have e2 := hr y (by simp [Op.operands]); simp only [effOf, okOf, e1, e2]; exact ⟨trivial, id⟩
  | nilCheck x => have e := hr x (by simp [Op.operands]); simp only [effOf, okOf, e]; exact ⟨trivial, id⟩
  | binOp b t x y t' => have e1 := hr x (by simp [Op.operands]); have e2 := hr y (by simp [Op.operands]); simp only [effOf, okOf, e1, e2]; exact ⟨trivial, id⟩
  | unOp u t x => have e := hr x (by simp [Op.operands]); simp only [effOf, okOf, e]; exact ⟨trivial, id⟩
  | fieldAddr t x f => have e := hr x (by simp [Op.operands]); simp only [effOf, okOf, e]; exact ⟨trivial, id⟩
  | field t x f => have e := hr x (by simp [Op.operands]); simp only [effOf, okOf, e]; exact ⟨trivial, id⟩
  | indexAddr t x y => have e1 := hr x (by simp [Op.operands]); have e2 := hr y (by simp [Op.operands]); simp only [effOf, okOf, e1, e2]; exact ⟨trivial, id⟩
  | index t x y => have e1 := hr x (by simp [Op.operands]); have e2 := hr y (by simp [Op.operands]); simp only [effOf, okOf, e1, e2]; exact ⟨trivial, id⟩
  | makeSlice t x y => have e1 := hr x (by simp [Op.operands]); have e2 := hr y (by simp [Op.operands]); simp only [effOf, okOf, e1, e2]; exact ⟨trivial, id⟩
  | extract x i => have e := hr x (by simp [Op.operands]); simp only [effOf, okOf, e]; exact ⟨trivial, id⟩
  | lookup t x y c => have e1 := hr x (by simp [Op.operands]); have e2 := hr y (by simp [Op.operands]); simp only [effOf, okOf, e1, e2]; exact ⟨trivial, id⟩
  | mapUpdate t x y z => have e1 := hr x (by simp [Op.operands]); have e2 := hr y (by simp [Op.operands]); have e3 := hr z (by simp [Op.operands]); simp only [effOf, okOf, e1, e2, e3]; exact ⟨trivial, id⟩
  | insert t x y z => have e1 := hr x (by simp [Op.operands]); have e2 := hr y (by simp [Op.operands]); have e3 := hr z (by simp [Op.operands]); simp only [effOf, okOf, e1, e2, e3]; exact ⟨trivial, id⟩
  | makeMap t q => cases q <;> exact ⟨rfl, id⟩
  | entry x => have e := hr x (by simp [Op.operands]); simp only [effOf, okOf, e]; exact ⟨trivial, id⟩
  | range t x => have e := hr x (by simp [Op.operands]); simp only [effOf, okOf, e]; exact ⟨trivial, id⟩
  | _ => exact ⟨rfl, id⟩
/-! ### what an operation meets -/
def Eff.R_ (e : Eff) : List Nm := e.rd.map (·.1)
def Eff.W_ (e : Eff) : List Nm := e.wr.map (·.1)
def Far (r1 w1 r2 w2 : List Nm) : Prop := (∀ x ∈ w1, x ∉ r2 ∧ x ∉ w2) ∧ ∀ x ∈ w2, x ∉ r1
def Eff.far (e f : Eff) : Prop := Far e.R_ e.W_ f.R_ f.W_
theorem fold_far {l : List (Nm × Option Ob)} : ∀ {h : Heap} {n : Nm}, (∀ x ∈ l, x.1 ≠ n) → l.foldl (fun h x => upd h x.1 x.2) h n = h n := by
  induction l with
  | nil => intro h n _; rfl
  | cons x l ih =>
    intro h n hn
    rw [List.foldl_cons, ih fun y hy => hn y (by simp [hy])]
    exact upd_ne _ _ (Ne.symm (hn x (by simp)))
theorem fold_near {l : List (Nm × Option Ob)} : ∀ {h h' : Heap} {n : Nm}, (∃ x ∈ l, x.1 = n) → l.foldl (fun h x => upd h x.1 x.2) h n = l.foldl (fun h x => upd h x.1 x.2) h' n := by
  induction l with
  | nil => rintro h h' n ⟨x, hx, _⟩; cases hx
  | cons x l ih =>
    intro h h' n hn
    rw [List.foldl_cons, List.foldl_cons]
    by_cases hl : ∃ y ∈ l, y.1 = n
    · exact ih hl
    · obtain ⟨y, hy, rfl⟩ := hn
      have hy' : y = x := by
        rcases List.mem_cons.1 hy with h | h
        · exact h
        · exact absurd ⟨y, h, rfl⟩ hl
      subst hy'
      have hne : ∀ z ∈ l, z.1 ≠ y.1 := fun z hz e => hl ⟨z, hz, e⟩
      rw [fold_far hne, fold_far hne, upd_self, upd_self]
theorem ap_far {e : Eff} {h : Heap} {n : Nm} (hn : n ∉ e.W_) : e.ap h n = h n := fold_far fun x hx e' => hn (by subst e'; exact List.mem_map_of_mem hx)
theorem ap_comm {e f : Eff} (hf : ∀ x ∈ e.W_, x ∉ f.W_) (h : Heap) : e.ap (f.ap h) = f.ap (e.ap h) := by
  funext n
  by_cases h1 : n ∈ e.W_
  · rw [ap_far (hf n h1)]
    obtain ⟨x, hx, rfl⟩ := List.mem_map.1 h1
    exact fold_near ⟨x, hx, rfl⟩
  · rw [ap_far h1]
    by_cases h2 : n ∈ f.W_
    · obtain ⟨x, hx, rfl⟩ := List.mem_map.1 h2
      exact fold_near ⟨x, hx, rfl⟩
    · rw [ap_far h2, ap_far h2, ap_far h1]
end
end Go.Proofs.Ytmeekpinkfpnhaa
namespace Go.Proofs.Ytmeekpinkfpnhaa
open Go.RowKit
def OpD (P : Program) (ops : Array Oper) (tick i : Nat) (o : Oper) (s : St) (e : Eff) : Prop :=
  match o.guard with
  | none => ActOK P tick i o s e
  | some (j, b) => guardOk (gval ops s j) ∧ (guardB b (gval ops s j) = true → ActOK P tick i o s e) ∧ (guardB b (gval ops s j) = false → e = nop)
def anyA (P : Program) (ops : Array Oper) (tick : Nat) (es : Nat → Eff) : Nat → Array Bool → St → (St → Prop) → Prop
  | 0, listed, s, K => Region.ready .any ops listed = [] ∧ K s
  | f + 1, listed, s, K => (Region.ready .any ops listed = [] → K s) ∧ ∀ i ∈ Region.ready .any ops listed, ∀ o, ops[i]? = some o → OpD P ops tick i o s (es i) ∧ anyA P ops tick es f (listed.setIfInBounds i true) (s.step o (es i)) K
section
variable {P : Program} {w0 : World} {n : Nat} {ops : Array Oper} {tick : Nat} {es : Nat → Eff}
theorem anyA_sound {Q : Exit → Act → World → Prop} {K : St → Prop} (hd : ∀ o ∈ ops, dstOk n o = true) (hop : ∀ o ∈ ops, opOk n o.op = true) (hsz : ops.size < 1000) : ∀ (fuel : Nat) (listed : Array Bool) (s : St) (m : Mem) (β : Bl) (a : Act) (w : World),
    anyA P ops tick es fuel listed s K → listed.size = ops.size → a.tmps.size = n → tick < s.k → HRel P w0 s.h s.k m β w → TRel m β s.t a.tmps → (∀ j, listed.getD (j % 1000) true = false → β (tick, j) = none) →
    (∀ s' m' β' a' w', K s' → a'.tmps.size = n → a'.defers = a.defers → s'.k = s.k → Goes P w0 m β s' m' β' a' w' → (∀ x, x.1 ≠ tick → β x = none → β' x = none) → Q .normal a' w') → wpAny P .any ops Q fuel listed a w
  | 0, listed, s, m, β, a, w, hr, _, hn, _, H, hT, _, hQ => ⟨hr.1, hQ s m β a w hr.2 hn rfl rfl ⟨.rfl' m, .rfl' β, H, hT⟩ fun _ _ h => h⟩
  | fuel + 1, listed, s, m, β, a, w, hr, hls, hn, hk, H, hT, hfr, hQ => by
    refine ⟨fun h0 => hQ s m β a w (hr.1 h0) hn rfl rfl ⟨.rfl' m, .rfl' β, H, hT⟩ fun _ _ h => h, fun i hi => ?_⟩
    obtain ⟨hun, o, ho, _⟩ := mem_ready.1 hi
    have hlt : i < ops.size := (Array.getElem?_eq_some_iff.1 ho).1
    obtain ⟨hD, hrest⟩ := hr.2 i hi o ho
    have hop1 := hop o (Array.mem_of_getElem? ho)
    have next : ∀ v m' β' w', Goes P w0 m β (s.step o (es i)) m' β' (a.put o.dst v) w' → (∀ x, ¬ (x.1 = tick ∧ x.2 % 1000 = i) → β x = none → β' x = none) → wpAny P .any ops Q fuel (listed.setIfInBounds i true) (a.put o.dst v) w' := by
      intro v m' β' w' hg hb
      refine anyA_sound hd hop hsz fuel _ (s.step o (es i)) m' β' (a.put o.dst v) w' hrest (by simpa using hls) (by rw [put_size, hn]) hk hg.heap hg.slots (fun j hj => ?_) ?_
      · have hne : j % 1000 ≠ i := fun e => by
          subst e
          have hl : j % 1000 < listed.size := by omega
          rw [Array.getD_eq_getD_getElem?, Array.getElem?_setIfInBounds_self_of_lt hl] at hj
          cases hj
        rw [getD_set_ne true (Ne.symm hne)] at hj
        exact hb (tick, j) (fun h => hne h.2) (hfr j hj)
      · intro s' m'' β'' a' w'' h1 h2 h3 h4 h5 h6
        refine hQ s' m'' β'' a' w'' h1 h2 (h3.trans (put_defers _ _ _)) h4 ⟨hg.mem.trans h5.mem, hg.bl.trans h5.bl, h5.heap, h5.slots⟩ fun x hx h0 => h6 x hx (hb x (fun h => hx h.1) h0)
    have act : ActOK P tick i o s (es i) → o.wp P a w (wpAny P .any ops Q fuel (listed.setIfInBounds i true)) Q := fun h1 =>
      act_sound h1 hop1 hn hk (by omega) H hT (fun j hj => hfr j (by rw [hj]; exact hun)) fun v m' β' w' hg hb => next v m' β' w' hg hb
    unfold wpOp
    simp only [ho]
    unfold OpD at hD
    split at hD
    · rename_i hg
      rw [if_pos (by simp [Region.wanted, hg])]
      exact .inl (act hD)
    · rename_i j b hg
      obtain ⟨h1, h2, h3⟩ := hD
      have hy := gval_sound (b := b) hT hn hd h1
      by_cases hb : guardB b (gval ops s j) = true
      · rw [if_pos (by simp [Region.wanted, hg, hb] at hy ⊢; exact hy)]
        exact .inl (act (h2 hb))
      · have hb' : guardB b (gval ops s j) = false := by simpa using hb
        rw [if_neg (by simp [Region.wanted, hg, hb'] at hy ⊢; exact hy)]
        have he := h3 hb'
        exact next undef m β w ⟨.rfl' m, .rfl' β, by rw [he]; exact H, step_slots hT (.rfl' m) (.rfl' β) (by rw [he]; exact .un)⟩ fun _ _ h => h
theorem set_comm (t : Nat → AV) {i j : Nat} (hij : i ≠ j) (a b : AV) : set (set t i a) j b = set (set t j b) i a := by
  funext q
  unfold set
  by_cases h1 : q = i
  · by_cases h2 : q = j
    · exact absurd (h1.symm.trans h2) hij
    · simp [h1, hij]
  · by_cases h2 : q = j <;> simp [h1, h2]
    intro h3; exact absurd (h2 ▸ h3) (fun e => h1 (h2.trans e))
theorem step_comm {oi oj : Oper} {ei ej : Eff} {s : St} (hap : oi.apart ops oj = true) (hf : ei.far ej) : (s.step oi ei).step oj ej = (s.step oj ej).step oi ei := by
  obtain ⟨h1, h2, h3⟩ := Oper.apart_spec hap
  have hh : ej.ap (ei.ap s.h) = ei.ap (ej.ap s.h) := ap_comm (fun x hx hx' => (hf.1 x hx').2 hx) s.h
  unfold St.step
  simp only [hh]
  cases hi : oi.dst with
  | none => rfl
  | some d =>
    cases hj : oj.dst with
    | none => rfl
    | some d' =>
      simp only
      rw [set_comm s.t (fun e => h2 d hi (by rw [hj, e])) ei.val ej.val]
theorem ev_step {oi : Oper} {ei : Eff} {s : St} {x : Operand} (h : ∀ d, oi.dst = some d → x ≠ .tmp d) : (s.step oi ei).ev x = s.ev x := by
  cases x with
  | tmp t =>
    unfold St.ev St.step
    cases hi : oi.dst with
    | none => rfl
    | some d =>
      have : t ≠ d := fun e => h d hi (by rw [e])
      simp [set, this]
  | _ => rfl
theorem act_step {i j : Nat} {oi oj : Oper} {ei ej : Eff} {s : St} (hd : ∀ d, oi.dst = some d → d ∉ oj.looksAt ops) (hw : ∀ x ∈ ei.W_, x ∉ ej.R_ ∧ x ∉ ej.W_) (back : Bool) :
    (if back then ActOK P tick j oj (s.step oi ei) ej → ActOK P tick j oj s ej else ActOK P tick j oj s ej → ActOK P tick j oj (s.step oi ei) ej) := by
  have hev : ∀ x ∈ oj.op.operands, (s.step oi ei).ev x = s.ev x := fun x hx => ev_step fun d hdd hxd => hd d hdd (by
    subst hxd
    exact List.mem_append_left _ (List.mem_filterMap.2 ⟨.tmp d, by simpa using hx, rfl⟩))
  have hh : ∀ x, x ∈ ej.R_ ∨ x ∈ ej.W_ → (s.step oi ei).h x = s.h x := fun x hx => ap_far fun hx' => by
    rcases hx with h | h
    · exact (hw x hx').1 h
    · exact (hw x hx').2 h
  have callEq : ∀ f args ats, oj.op = .call ⟨.value f, args, ats⟩ → (CallOK P tick j f args (s.step oi ei) ej ↔ CallOK P tick j f args s ej) := by
    intro f args ats ho
    have e1 : (s.step oi ei).ev f = s.ev f := hev f (by rw [ho]; simp [Op.operands, Call.operands])
    have e2 : args.toList.map (s.step oi ei).ev = args.toList.map s.ev := List.map_congr_left fun x hx => hev x (by rw [ho]; simp [Op.operands, Call.operands] at hx ⊢; exact .inr hx)
    unfold CallOK
    rw [e1, e2]
    have e3 : (∀ x ∈ ej.rd, (s.step oi ei).h x.1 = x.2) ↔ (∀ x ∈ ej.rd, s.h x.1 = x.2) :=
      ⟨fun h x hx => (hh x.1 (.inl (List.mem_map_of_mem hx))).symm.trans (h x hx), fun h x hx => (hh x.1 (.inl (List.mem_map_of_mem hx))).trans (h x hx)⟩
    have e4 : (∀ x ∈ ej.wr, (s.step oi ei).h x.1 ≠ none ∨ x.1.1 = tick ∧ x.1.2 % 1000 = j) ↔ (∀ x ∈ ej.wr, s.h x.1 ≠ none ∨ x.1.1 = tick ∧ x.1.2 % 1000 = j) :=
      ⟨fun h x hx => by have := h x hx; rwa [hh x.1 (.inr (List.mem_map_of_mem hx))] at this, fun h x hx => by rw [hh x.1 (.inr (List.mem_map_of_mem hx))]; exact h x hx⟩
    rw [e3, e4]
  cases back
  · simp only [Bool.false_eq_true, if_false]
    unfold ActOK
    split
    · rename_i f args ats ho; exact (callEq f args ats ho).2
    · rintro ⟨h1, h2⟩
      obtain ⟨k1, k2⟩ := effOf_r (P := P) (nm := (tick, j)) (h := s.h) hev
      obtain ⟨k3, k4⟩ := effOf_h (P := P) (nm := (tick, j)) (op := oj.op) (r := (s.step oi ei).ev) (h := s.h) (h' := (s.step oi ei).h) (fun x hx => by
        rw [k1, ← h2] at hx
        exact hh x.1 (.inl (List.mem_map_of_mem hx)))
      exact ⟨k4 (k2 h1), by rw [k3, k1]; exact h2⟩
  · simp only [if_true]
    unfold ActOK
    split
    · rename_i f args ats ho; exact (callEq f args ats ho).1
    · rintro ⟨h1, h2⟩
      obtain ⟨k1, k2⟩ := effOf_r (P := P) (nm := (tick, j)) (op := oj.op) (r := (s.step oi ei).ev) (r' := s.ev) (h := (s.step oi ei).h) (fun x hx => (hev x hx).symm)
      obtain ⟨k3, k4⟩ := effOf_h (P := P) (nm := (tick, j)) (op := oj.op) (r := s.ev) (h := (s.step oi ei).h) (h' := s.h) (fun x hx => by
        rw [k1, ← h2] at hx
        exact (hh x.1 (.inl (List.mem_map_of_mem hx))).symm)
      exact ⟨k4 (k2 h1), by rw [k3, k1]; exact h2⟩
theorem opD_step {i j : Nat} {oi oj : Oper} {ei ej : Eff} {s : St} (hd : ∀ d, oi.dst = some d → d ∉ oj.looksAt ops) (hw : ∀ x ∈ ei.W_, x ∉ ej.R_ ∧ x ∉ ej.W_) :
    (OpD P ops tick j oj (s.step oi ei) ej → OpD P ops tick j oj s ej) ∧ (OpD P ops tick j oj s ej → OpD P ops tick j oj (s.step oi ei) ej) := by
  have a1 := act_step (P := P) (tick := tick) (i := i) (j := j) (s := s) hd hw true
  have a2 := act_step (P := P) (tick := tick) (i := i) (j := j) (s := s) hd hw false
  simp only [if_true, Bool.false_eq_true, if_false] at a1 a2
  have hg : ∀ g b, oj.guard = some (g, b) → gval ops (s.step oi ei) g = gval ops s g := by
    intro g b ho
    unfold gval gslot
    cases ht : (ops[g]?).bind (·.dst) with
    | none => rfl
    | some t =>
      have := ev_step (oi := oi) (ei := ei) (s := s) (x := .tmp t) (fun d hdd e => hd d hdd (by cases e; simp [Oper.looksAt, ho, ht]))
      exact this
  unfold OpD
  split
  · exact ⟨a1, a2⟩
  · rename_i g b ho
    rw [hg g b ho]
    exact ⟨fun ⟨h1, h2, h3⟩ => ⟨h1, fun h => a1 (h2 h), h3⟩, fun ⟨h1, h2, h3⟩ => ⟨h1, fun h => a2 (h2 h), h3⟩⟩
def Closd (ops : Array Oper) (listed : Array Bool) : Prop := ∀ j oj, ops[j]? = some oj → listed.getD j false = true → ∀ e ∈ oj.after, Region.binds .any e = true → listed.getD e.on false = true
theorem getD_set_up {l : Array Bool} {i j : Nat} (h : l.getD j false = true) : (l.setIfInBounds i true).getD j false = true := by
  by_cases hij : i = j
  · subst hij
    rcases Nat.lt_or_ge i l.size with h' | h'
    · rw [Array.getD_eq_getD_getElem?, Array.getElem?_setIfInBounds_self_of_lt h']; rfl
    · rw [Array.getD_eq_getD_getElem?, Array.getElem?_eq_none h'] at h; cases h
  · rw [getD_set_ne false hij]; exact h
theorem Closd.set {listed : Array Bool} (h : Closd ops listed) {i : Nat} (hr : i ∈ Region.ready .any ops listed) : Closd ops (listed.setIfInBounds i true) := by
  intro j oj hoj hl e he hb
  obtain ⟨_, oi, hoi, hall⟩ := mem_ready.1 hr
  by_cases hij : i = j
  · subst hij
    rw [hoi] at hoj; cases hoj
    exact getD_set_up (hall e he hb)
  · rw [getD_set_ne false hij] at hl
    exact getD_set_up (h j oj hoj hl e he hb)
def edgeB (o : Oper) (i : Nat) : Bool := o.after.toList.any fun e => Region.binds .any e && e.on == i
def edge2 (ops : Array Oper) (o : Oper) (i : Nat) : Bool := o.after.toList.any fun e => Region.binds .any e && ((ops[e.on]?).map (edgeB · i)).getD false
def edge3 (ops : Array Oper) (o : Oper) (i : Nat) : Bool := o.after.toList.any fun e => Region.binds .any e && ((ops[e.on]?).map (edge2 ops · i)).getD false
def edge23 (ops : Array Oper) (o : Oper) (i : Nat) : Bool := edge2 ops o i || edge3 ops o i
section
variable {ops : Array Oper} {listed : Array Bool} {o : Oper} {i : Nat}
theorem edgeB_listed (hall : ∀ e ∈ o.after, Region.binds .any e = true → listed.getD e.on false = true) (h : edgeB o i = true) : listed.getD i false = true := by
  unfold edgeB at h
  rw [List.any_eq_true] at h
  obtain ⟨e, hem, hb⟩ := h
  simp only [Bool.and_eq_true, beq_iff_eq] at hb
  rw [← hb.2]; exact hall e (by simpa using hem) hb.1
theorem edge2_listed (hcl : Closd ops listed) {o : Oper} (hall : ∀ e ∈ o.after, Region.binds .any e = true → listed.getD e.on false = true) (h : edge2 ops o i = true) : listed.getD i false = true := by
  unfold edge2 at h
  rw [List.any_eq_true] at h
  obtain ⟨e, hem, hb⟩ := h
  simp only [Bool.and_eq_true] at hb
  obtain ⟨hb, hb2⟩ := hb
  cases hoc : ops[e.on]? with
  | none => rw [hoc] at hb2; cases hb2
  | some oc =>
    rw [hoc] at hb2
    exact edgeB_listed (hcl e.on oc hoc (hall e (by simpa using hem) hb)) hb2
theorem edge3_listed (hcl : Closd ops listed) {o : Oper} (hall : ∀ e ∈ o.after, Region.binds .any e = true → listed.getD e.on false = true) (h : edge3 ops o i = true) : listed.getD i false = true := by
  unfold edge3 at h
  rw [List.any_eq_true] at h
  obtain ⟨e, hem, hb⟩ := h
  simp only [Bool.and_eq_true] at hb
  obtain ⟨hb, hb2⟩ := hb
  cases hoc : ops[e.on]? with
  | none => rw [hoc] at hb2; cases hb2
  | some oc =>
    rw [hoc] at hb2
    exact edge2_listed hcl (hcl e.on oc hoc (hall e (by simpa using hem) hb)) hb2
theorem edge23_listed (hcl : Closd ops listed) {o : Oper} (hall : ∀ e ∈ o.after, Region.binds .any e = true → listed.getD e.on false = true) (h : edge23 ops o i = true) : listed.getD i false = true := by
  unfold edge23 at h
  rw [Bool.or_eq_true] at h
  rcases h with h | h
  · exact edge2_listed hcl hall h
  · exact edge3_listed hcl hall h
end
theorem anyA_first {K : St → Prop} {i : Nat} {oi : Oper} (hi : ops[i]? = some oi) : ∀ (fuel : Nat) (listed : Array Bool) (s : St),
    (∀ j oj, ops[j]? = some oj → j ≠ i → listed.getD j true = false → (∀ e ∈ oj.after, Region.binds .any e = true → e.on ≠ i) → (edge23 ops oj i = true → False) → oi.apart ops oj = true ∧ (es i).far (es j)) →
    Closd ops listed → i ∈ Region.ready .any ops listed → OpD P ops tick i oi s (es i) → anyA P ops tick es fuel (listed.setIfInBounds i true) (s.step oi (es i)) K → anyA P ops tick es (fuel + 1) listed s K := by
  intro fuel
  induction fuel with
  | zero =>
    intro listed s _ _ hr hD H
    refine ⟨fun h => (by rw [h] at hr; cases hr), fun j hj oj hoj => ?_⟩
    by_cases hji : j = i
    · subst hji
      rw [hi] at hoj; cases hoj
      exact ⟨hD, H⟩
    · have := ready_mono hj hji
      rw [H.1] at this
      cases this
  | succ fuel ih =>
    intro listed s hfree hcl hr hD H
    refine ⟨fun h => (by rw [h] at hr; cases hr), fun j hj oj hoj => ?_⟩
    by_cases hji : j = i
    · subst hji
      rw [hi] at hoj; cases hoj
      exact ⟨hD, H⟩
    · obtain ⟨h1, h2⟩ := H.2 j (ready_mono hj hji) oj hoj
      obtain ⟨hjun, oj', hoj', hall⟩ := mem_ready.1 hj
      rw [hoj] at hoj'; cases hoj'
      have hnot : ∀ e ∈ oj.after, Region.binds .any e = true → e.on ≠ i := fun e he hb heq => by
        have h1 := hall e he hb
        have h0 := (mem_ready.1 hr).1
        rw [heq] at h1
        rcases Nat.lt_or_ge i listed.size with h' | h'
        · simp [h'] at h0 h1; rw [h0] at h1; cases h1
        · simp [Array.getElem?_eq_none h'] at h1
      have hnot2 : edge23 ops oj i = true → False := fun h => by
        have h1 := edge23_listed hcl hall h
        have h0 := (mem_ready.1 hr).1
        rcases Nat.lt_or_ge i listed.size with h' | h'
        · simp [h'] at h0 h1; rw [h0] at h1; cases h1
        · simp [Array.getElem?_eq_none h'] at h1
      obtain ⟨hap, hfar⟩ := hfree j oj hoj hji hjun hnot hnot2
      obtain ⟨p1, p2, p3⟩ := Oper.apart_spec hap
      have hDj := (opD_step (P := P) (tick := tick) (i := i) (j := j) (s := s) p1 hfar.1).1 h1
      have hDi := (opD_step (P := P) (ops := ops) (tick := tick) (i := j) (j := i) (oi := oj) (oj := oi) (ei := es j) (ej := es i) (s := s) p3 (fun x hx => ⟨hfar.2 x hx, fun hx' => (hfar.1 x hx').2 hx⟩)).2 hD
      have hfree' : ∀ k ok, ops[k]? = some ok → k ≠ i → (listed.setIfInBounds j true).getD k true = false → (∀ e ∈ ok.after, Region.binds .any e = true → e.on ≠ i) → (edge23 ops ok i = true → False) → oi.apart ops ok = true ∧ (es i).far (es k) := fun k ok hk hki hun hno hno2 => by
        refine hfree k ok hk hki ?_ hno hno2
        by_cases hjk : j = k
        · subst hjk; exact hjun
        · rw [getD_set_ne true hjk] at hun; exact hun
      refine ⟨hDj, ih (listed.setIfInBounds j true) (s.step oj (es j)) hfree' (hcl.set hj) (ready_mono hr (Ne.symm hji)) hDi ?_⟩
      rw [Array.setIfInBounds_comm _ _ hji, ← step_comm hap hfar]
      exact h2
end
end Go.Proofs.Ytmeekpinkfpnhaa
namespace Go.Proofs.Ytmeekpinkfpnhaa
open Go.RowKit
abbrev Acc := List (Nat × List Nm × List Nm)
def chk (ops : Array Oper) (o : Oper) : Acc → List Nm → List Nm → Prop
  | [], _, _ => True
  | x :: acc, r, w => (if edgeB o x.1 then True else if edge2 ops o x.1 then True else Far x.2.1 x.2.2 r w ∨ edge3 ops o x.1 = true) ∧ chk ops o acc r w
def addF (acc : Acc) (i : Nat) : List Nm → List Nm → Acc
  | [], [] => acc
  | r, w => (i, r, w) :: acc
def runE (P : Program) (ops : Array Oper) (tick : Nat) : List Oper → Nat → St → Acc → (St → Prop) → Prop
  | [], _, s, _, K => K s
  | o :: rest, i, s, acc, K =>
    match o.guard with
    | none => ∃ e, ActOK P tick i o s e ∧ chk ops o acc e.R_ e.W_ ∧ runE P ops tick rest (i + 1) (s.step o e) (addF acc i e.R_ e.W_) K
    | some (j, b) => guardOk (gval ops s j) ∧ (guardB b (gval ops s j) = true → ∃ e, ActOK P tick i o s e ∧ chk ops o acc e.R_ e.W_ ∧ runE P ops tick rest (i + 1) (s.step o e) (addF acc i e.R_ e.W_) K) ∧
        (guardB b (gval ops s j) = false → runE P ops tick rest (i + 1) (s.step o nop) acc K)
def CallD (P : Program) (ops : Array Oper) (tick i : Nat) (o : Oper) (rest : List Oper) (s : St) (acc : Acc) (K : St → Prop) : Prop :=
  ∃ e, ActOK P tick i o s e ∧ chk ops o acc e.R_ e.W_ ∧ runE P ops tick rest (i + 1) (s.step o e) (addF acc i e.R_ e.W_) K
def runD (P : Program) (ops : Array Oper) (tick : Nat) : List Oper → Nat → St → Acc → (St → Prop) → Prop
  | [], _, s, _, K => K s
  | o :: rest, i, s, acc, K =>
    match o.guard with
    | none => if isCallV o.op then CallD P ops tick i o rest s acc K
        else okOf P o.op s.ev s.h ∧ chk ops o acc (effOf P (tick, i) o.op s.ev s.h).R_ (effOf P (tick, i) o.op s.ev s.h).W_ ∧
          runD P ops tick rest (i + 1) (s.step o (effOf P (tick, i) o.op s.ev s.h)) (addF acc i (effOf P (tick, i) o.op s.ev s.h).R_ (effOf P (tick, i) o.op s.ev s.h).W_) K
    | some (j, b) => guardOk (gval ops s j) ∧
        if guardB b (gval ops s j) = true then (if isCallV o.op then CallD P ops tick i o rest s acc K
          else okOf P o.op s.ev s.h ∧ chk ops o acc (effOf P (tick, i) o.op s.ev s.h).R_ (effOf P (tick, i) o.op s.ev s.h).W_ ∧
            runD P ops tick rest (i + 1) (s.step o (effOf P (tick, i) o.op s.ev s.h)) (addF acc i (effOf P (tick, i) o.op s.ev s.h).R_ (effOf P (tick, i) o.op s.ev s.h).W_) K)
        else runD P ops tick rest (i + 1) (s.step o nop) acc K
def TextOK (P : Program) (ops : Array Oper) (tick : Nat) (es : Nat → Eff) : List Oper → Nat → St → (St → Prop) → Prop
  | [], _, s, K => K s
  | o :: rest, i, s, K => OpD P ops tick i o s (es i) ∧ TextOK P ops tick es rest (i + 1) (s.step o (es i)) K
section
variable {P : Program} {w0 : World} {n : Nat} {ops : Array Oper} {tick : Nat} {K : St → Prop}
theorem runE_of : ∀ (l : List Oper) (i : Nat) (s : St) (acc : Acc), runD P ops tick l i s acc K → runE P ops tick l i s acc K
  | [], _, _, _, h => h
  | o :: rest, i, s, acc, h => by
    have act : (if isCallV o.op then CallD P ops tick i o rest s acc K else okOf P o.op s.ev s.h ∧ chk ops o acc (effOf P (tick, i) o.op s.ev s.h).R_ (effOf P (tick, i) o.op s.ev s.h).W_ ∧
          runD P ops tick rest (i + 1) (s.step o (effOf P (tick, i) o.op s.ev s.h)) (addF acc i (effOf P (tick, i) o.op s.ev s.h).R_ (effOf P (tick, i) o.op s.ev s.h).W_) K) →
        ∃ e, ActOK P tick i o s e ∧ chk ops o acc e.R_ e.W_ ∧ runE P ops tick rest (i + 1) (s.step o e) (addF acc i e.R_ e.W_) K := by
      intro hh
      by_cases hc : isCallV o.op = true
      · rw [if_pos hc] at hh; exact hh
      · rw [if_neg hc] at hh
        refine ⟨_, ?_, hh.2.1, runE_of rest _ _ _ hh.2.2⟩
        unfold ActOK
        split
        · rename_i heq; rw [heq] at hc; simp [isCallV] at hc
        · exact ⟨hh.1, rfl⟩
    unfold runE
    rw [runD] at h
    split at h
    · exact act h
    · rename_i j b _
      refine ⟨h.1, fun hb => act (by have h2 := h.2; rw [if_pos hb] at h2; exact h2), fun hb => runE_of rest _ _ _ (by have h2 := h.2; rw [if_neg (by rw [hb]; decide)] at h2; exact h2)⟩
theorem TextOK.congr {es es' : Nat → Eff} : ∀ (l : List Oper) (i : Nat) (s : St), (∀ q, i ≤ q → es' q = es q) → TextOK P ops tick es l i s K → TextOK P ops tick es' l i s K
  | [], _, _, _, h => h
  | o :: rest, i, s, hq, h => by
    have e := hq i (Nat.le_refl _)
    refine ⟨by rw [e]; exact h.1, ?_⟩
    rw [e]
    exact TextOK.congr rest (i + 1) _ (fun q hq' => hq q (by omega)) h.2
theorem chk_all {o : Oper} : ∀ {acc : Acc} {r w : List Nm}, chk ops o acc r w → ∀ x ∈ acc, edgeB o x.1 = true ∨ edge23 ops o x.1 = true ∨ Far x.2.1 x.2.2 r w
  | [], _, _, _, x, hx => by cases hx
  | y :: acc, r, w, h, x, hx => by
    rcases List.mem_cons.1 hx with rfl | hx
    · have := h.1
      split at this
      · exact .inl ‹_›
      · split at this
        · rename_i h2; exact .inr (.inl (by unfold edge23; rw [h2]; rfl))
        · rcases this with h3 | h3
          · exact .inr (.inr h3)
          · exact .inr (.inl (by unfold edge23; rw [h3, Bool.or_true]))
    · exact chk_all h.2 x hx
theorem addF_mem {acc : Acc} {i : Nat} {r w : List Nm} : (∀ x ∈ acc, x ∈ addF acc i r w) ∧ ((r = [] ∧ w = []) ∨ (i, r, w) ∈ addF acc i r w) := by
  unfold addF
  split
  · exact ⟨fun x hx => hx, .inl ⟨rfl, rfl⟩⟩
  · exact ⟨fun x hx => by simp [hx], .inr (by simp)⟩
theorem runE_es : ∀ (l : List Oper) (i : Nat) (s : St) (acc : Acc), runE P ops tick l i s acc K →
    ∃ es : Nat → Eff, TextOK P ops tick es l i s K ∧ (∀ (a b : Nat) (o : Oper), a < b → l[b]? = some o → edgeB o (i + a) = true ∨ edge23 ops o (i + a) = true ∨ (es (i + a)).far (es (i + b))) ∧
      ∀ x ∈ acc, ∀ (b : Nat) (o : Oper), l[b]? = some o → edgeB o x.1 = true ∨ edge23 ops o x.1 = true ∨ Far x.2.1 x.2.2 (es (i + b)).R_ (es (i + b)).W_
  | [], i, s, acc, h => ⟨fun _ => nop, h, fun a b o _ hb => by simp at hb, fun x _ b o hb => by simp at hb⟩
  | o :: rest, i, s, acc, h => by
    have mk : ∀ (e : Eff) (acc' : Acc), OpD P ops tick i o s e → (∀ x ∈ acc, edgeB o x.1 = true ∨ edge23 ops o x.1 = true ∨ Far x.2.1 x.2.2 e.R_ e.W_) → runE P ops tick rest (i + 1) (s.step o e) acc' K → (∀ x ∈ acc, x ∈ acc') → ((e.R_ = [] ∧ e.W_ = []) ∨ (i, e.R_, e.W_) ∈ acc') →
        ∃ es : Nat → Eff, TextOK P ops tick es (o :: rest) i s K ∧ (∀ (a b : Nat) (o' : Oper), a < b → (o :: rest)[b]? = some o' → edgeB o' (i + a) = true ∨ edge23 ops o' (i + a) = true ∨ (es (i + a)).far (es (i + b))) ∧
          ∀ x ∈ acc, ∀ (b : Nat) (o' : Oper), (o :: rest)[b]? = some o' → edgeB o' x.1 = true ∨ edge23 ops o' x.1 = true ∨ Far x.2.1 x.2.2 (es (i + b)).R_ (es (i + b)).W_ := by
      intro e acc' hD hc hr ha1 ha2
      obtain ⟨es, h1, h2, h3⟩ := runE_es rest (i + 1) (s.step o e) acc' hr
      refine ⟨fun q => if q = i then e else es q, ⟨by simpa using hD, ?_⟩, fun a b o' hab hb => ?_, fun x hx b o' hb => ?_⟩
      · simp only [if_true]
        exact TextOK.congr rest (i + 1) _ (fun q hq => by rw [if_neg (by omega)]) h1
      · cases b with
        | zero => omega
        | succ b =>
          simp only [List.getElem?_cons_succ] at hb
          show edgeB o' (i + a) = true ∨ edge23 ops o' (i + a) = true ∨ (if i + a = i then e else es (i + a)).far (if i + (b + 1) = i then e else es (i + (b + 1)))
          rw [if_neg (show ¬ i + (b + 1) = i by omega)]
          cases a with
          | zero =>
            simp only [Nat.add_zero, if_true]
            rcases ha2 with ⟨e1, e2⟩ | hm
            · right; right
              unfold Eff.far
              rw [e1, e2]
              exact ⟨fun x hx => (by cases hx), fun x _ hx => (by cases hx)⟩
            · have := h3 _ hm b o' hb
              rw [show i + (b + 1) = i + 1 + b by omega]
              exact this
          | succ a =>
            rw [if_neg (show ¬ i + (a + 1) = i by omega)]
            have := h2 a b o' (by omega) hb
            rw [show i + (a + 1) = i + 1 + a by omega, show i + (b + 1) = i + 1 + b by omega]
            exact this
      · cases b with
        | zero =>
          simp only [List.getElem?_cons_zero, Option.some.injEq] at hb
          subst hb
          simp only [Nat.add_zero, if_true]
          exact hc x hx
        | succ b =>
          simp only [List.getElem?_cons_succ] at hb
          show edgeB o' x.1 = true ∨ edge23 ops o' x.1 = true ∨ Far x.2.1 x.2.2 (if i + (b + 1) = i then e else es (i + (b + 1))).R_ (if i + (b + 1) = i then e else es (i + (b + 1))).W_
          rw [if_neg (show ¬ i + (b + 1) = i by omega), show i + (b + 1) = i + 1 + b by omega]
          exact h3 x (ha1 x hx) b o' hb
    have full : ∀ e, OpD P ops tick i o s e → chk ops o acc e.R_ e.W_ → runE P ops tick rest (i + 1) (s.step o e) (addF acc i e.R_ e.W_) K → _ := fun e hD hc hr => mk e _ hD (chk_all hc) hr addF_mem.1 addF_mem.2
    unfold runE at h
    split at h
    · rename_i hg
      obtain ⟨e, h1, h2, h3⟩ := h
      exact full e (by unfold OpD; rw [hg]; exact h1) h2 h3
    · rename_i j b hg
      obtain ⟨h1, h2, h3⟩ := h
      by_cases hb : guardB b (gval ops s j) = true
      · obtain ⟨e, k1, k2, k3⟩ := h2 hb
        exact full e (by unfold OpD; rw [hg]; exact ⟨h1, fun _ => k1, fun hb' => by rw [hb] at hb'; cases hb'⟩) k2 k3
      · have hb' : guardB b (gval ops s j) = false := by simpa using hb
        exact mk nop acc (by unfold OpD; rw [hg]; exact ⟨h1, fun h => absurd h hb, fun _ => rfl⟩) (fun x _ => .inr (.inr ⟨fun y _ => ⟨by simp [Eff.R_, nop], by simp [Eff.W_, nop]⟩, fun y hy => by simp [Eff.W_, nop] at hy⟩)) (h3 hb') (fun x hx => hx) (.inl ⟨rfl, rfl⟩)
theorem anyA_lex {es : Nat → Eff} (hpair : ∀ (a b : Nat) (o : Oper), a < b → ops[b]? = some o → edgeB o a = true ∨ edge23 ops o a = true ∨ (es a).far (es b)) : ∀ (l : List Oper) (k : Nat) (listed : Array Bool) (s : St), (∀ j, l[j]? = ops[k + j]?) → (∀ j, j < k → listed.getD j true = true) →
    Closd ops listed → Region.lexFrom .any ops l.length k listed = true → TextOK P ops tick es l k s K → anyA P ops tick es l.length listed s K
  | [], _, _, s, _, _, _, hB, h => ⟨by simpa [Region.lexFrom] using hB, h⟩
  | o :: l, k, listed, s, hl, hls, hc, hB, h => by
    have h0 : ops[k]? = some o := by simpa using (hl 0).symm
    simp only [List.length_cons, Region.lexFrom, Bool.and_eq_true] at hB
    obtain ⟨⟨hr, hf⟩, hB'⟩ := hB
    have hrk : k ∈ Region.ready .any ops listed := by simpa using hr
    refine anyA_first h0 l.length listed s (fun j oj hoj hne hun hno hno2 => ⟨Region.free_spec h0 hf j oj hoj hne hun hno, ?_⟩) hc hrk h.1 ?_
    · have hkj : k < j := by
        rcases Nat.lt_trichotomy j k with hlt | he | hgt
        · rw [hls j hlt] at hun; cases hun
        · exact absurd he hne
        · exact hgt
      rcases hpair k j oj hkj hoj with he | he | he
      · exfalso
        unfold edgeB at he
        rw [List.any_eq_true] at he
        obtain ⟨e, hem, hb⟩ := he
        simp only [Bool.and_eq_true, beq_iff_eq] at hb
        exact hno e (by simpa using hem) hb.1 hb.2
      · exfalso
        exact hno2 he
      · exact he
    · refine anyA_lex hpair l (k + 1) _ _ (fun j => by have := hl (j + 1); simpa [Nat.add_assoc, Nat.add_comm 1 j] using this) (fun j hj => ?_) (hc.set hrk) hB' h.2
      by_cases hjk : k = j
      · subst hjk
        rcases Nat.lt_or_ge k listed.size with h' | h'
        · rw [Array.getD_eq_getD_getElem?, Array.getElem?_setIfInBounds_self_of_lt h']; rfl
        · rw [Array.getD_eq_getD_getElem?, Array.getElem?_eq_none (by simpa using h')]; rfl
      · rw [getD_set_ne true hjk]; exact hls j (by omega)
theorem awp_draw {Q : Exit → St → Prop} {s : St} {id : Nat} {l : List Oper} (hm : P.follows .mixedOrders = true) (hreg : regOk n l = true) (hB : Region.lexB .any l.toArray = true)
    (h : ∀ K : St → Prop, (∀ s', Q .normal s' → K s') → runD P l.toArray s.k l 0 { s with k := s.k + 1 } [] K) : awp P w0 n (.region id l.toArray true) Q s := by
  have h := h (fun s' => Q .normal s') (fun _ h => h)
  intro m β a w h1 h2 h3
  simp only [regOk, Bool.and_eq_true, List.all_eq_true, decide_eq_true_eq] at hreg
  obtain ⟨hreg, hlen⟩ := hreg
  simp only [Region.lexB, Bool.and_eq_true] at hB
  obtain ⟨es, k1, k2, _⟩ := runE_es l 0 _ [] (runE_of l 0 _ _ h)
  have hA := anyA_lex (ops := l.toArray) (es := es) (fun a b o hab hb => by have := k2 a b o hab (by simpa using hb); simpa using this) l 0 (Array.replicate l.toArray.size false) _ (by simp) (by simp) (fun j oj _ hj => by simp only [Array.getD_eq_getD_getElem?, Array.getElem?_replicate] at hj; split at hj <;> cases hj) (by simpa using hB.2) k1
  refine wp_region_any hm ?_
  have hsz : l.toArray.size = l.length := by simp
  rw [hsz]
  rw [hsz] at hA
  refine anyA_sound (n := n) (fun o ho => (hreg o (by simpa using ho)).2) (fun o ho => (hreg o (by simpa using ho)).1) (by simpa using hlen) l.length _ { s with k := s.k + 1 } m β a _ hA (by simp) h1 (by simp) ((h2.tick (Nat.le_succ _)).draw) h3 (fun j _ => ?_) ?_
  · cases hb : β (s.k, j) with
    | none => rfl
    | some p => have := h2.dom _ _ hb; simp at this
  · intro s' m' β' a' w' hK g1 g2 g3 g4 g5
    exact ⟨s', m', β', hK, g1, g2, by rw [g3]; exact Nat.le_succ _, g4, fun x hx => g5 x (by omega)⟩
theorem CallD.pure {s : St} {i : Nat} {dst : Option Tmp} {g : FuncId} {args : Array Operand} {ats : Array TypeId} {ty : TypeId} {pos : String} {after : Array Edge} {guard : Option (Nat × Bool)} {rest : List Oper} {acc : Acc} {az : List AV} {v : AV} (hent : enterOk P g) (ht : Tri P g az (pure' v))
    (hco : coL (args.toList.map s.ev) az) (hk : chk ops ⟨dst, .call ⟨.value (.func g), args, ats⟩, ty, pos, after, guard⟩ acc [] [] ∧ runD P ops tick rest (i + 1) (s.step ⟨dst, .call ⟨.value (.func g), args, ats⟩, ty, pos, after, guard⟩ (pure' v)) acc K) :
    CallD P ops tick i ⟨dst, .call ⟨.value (.func g), args, ats⟩, ty, pos, after, guard⟩ rest s acc K :=
  ⟨pure' v, ⟨g, [], [], az, rfl, hent, hco, by simpa using ht, fun x hx => (by cases hx), fun x hx => (by cases hx)⟩, hk.1, runE_of _ _ _ _ hk.2⟩
end
end Go.Proofs.Ytmeekpinkfpnhaa
namespace Go.Proofs.Ytmeekpinkfpnhaa
open Go.RowKit
@[go_sem] theorem ty0_has : hasT Try.prog 0 = true := by kernel_rfl
@[go_sem] theorem ty0_agg : aggT Try.prog 0 = false := by kernel_rfl
@[go_sem] theorem ty0_sz : szT Try.prog 0 = 1 := by kernel_rfl
@[go_sem] theorem ty0_sl : slT Try.prog 0 = false := by kernel_rfl
@[go_sem] theorem ty0_str : strT Try.prog 0 = false := by kernel_rfl
@[go_sem] theorem ty0_zok : zeroOk Try.prog 0 = false := by kernel_rfl
@[go_sem] theorem ty0_by : bytesT Try.prog 0 = 0 := by kernel_rfl
@[go_sem] theorem ty0_ar : arT Try.prog 0 = none := by kernel_rfl
@[go_sem] theorem ty0_pl : placesL Try.prog 0 = none := by kernel_rfl
@[go_sem] theorem ty3_has : hasT Try.prog 3 = true := by kernel_rfl
@[go_sem] theorem ty3_agg : aggT Try.prog 3 = false := by kernel_rfl
@[go_sem] theorem ty3_sz : szT Try.prog 3 = 1 := by kernel_rfl
@[go_sem] theorem ty3_sl : slT Try.prog 3 = false := by kernel_rfl
@[go_sem] theorem ty3_str : strT Try.prog 3 = false := by kernel_rfl
@[go_sem] theorem ty3_zok : zeroOk Try.prog 3 = true := by kernel_rfl
@[go_sem] theorem ty3_by : bytesT Try.prog 3 = 8 := by kernel_rfl
@[go_sem] theorem ty3_ar : arT Try.prog 3 = none := by kernel_rfl
@[go_sem] theorem ty3_pl : placesL Try.prog 3 = none := by kernel_rfl
@[go_sem] theorem ty3_z : zeroAV Try.prog 3 = [.d (.v (.int .i64 0))] := by kernel_rfl
@[go_sem] theorem ty4_has : hasT Try.prog 4 = true := by kernel_rfl
@[go_sem] theorem ty4_agg : aggT Try.prog 4 = false := by kernel_rfl
@[go_sem] theorem ty4_sz : szT Try.prog 4 = 1 := by kernel_rfl
@[go_sem] theorem ty4_sl : slT Try.prog 4 = false := by kernel_rfl
@[go_sem] theorem ty4_str : strT Try.prog 4 = false := by kernel_rfl
@[go_sem] theorem ty4_zok : zeroOk Try.prog 4 = true := by kernel_rfl
@[go_sem] theorem ty4_by : bytesT Try.prog 4 = 1 := by kernel_rfl
@[go_sem] theorem ty4_ar : arT Try.prog 4 = none := by kernel_rfl
@[go_sem] theorem ty4_pl : placesL Try.prog 4 = none := by kernel_rfl
@[go_sem] theorem ty4_z : zeroAV Try.prog 4 = [.d (.v (.bool false))] := by kernel_rfl
@[go_sem] theorem ty20_has : hasT Try.prog 20 = true := by kernel_rfl
@[go_sem] theorem ty20_agg : aggT Try.prog 20 = false := by kernel_rfl
@[go_sem] theorem ty20_sz : szT Try.prog 20 = 1 := by kernel_rfl
@[go_sem] theorem ty20_sl : slT Try.prog 20 = false := by kernel_rfl
@[go_sem] theorem ty20_str : strT Try.prog 20 = false := by kernel_rfl
@[go_sem] theorem ty20_zok : zeroOk Try.prog 20 = true := by kernel_rfl
@[go_sem] theorem ty20_by : bytesT Try.prog 20 = 16 := by kernel_rfl
@[go_sem] theorem ty20_ar : arT Try.prog 20 = none := by kernel_rfl
@[go_sem] theorem ty20_pl : placesL Try.prog 20 = none := by kernel_rfl
@[go_sem] theorem ty20_z : zeroAV Try.prog 20 = [.d (.v (.nilIface))] := by kernel_rfl
@[go_sem] theorem ty22_has : hasT Try.prog 22 = true := by kernel_rfl
@[go_sem] theorem ty22_agg : aggT Try.prog 22 = false := by kernel_rfl
@[go_sem] theorem ty22_sz : szT Try.prog 22 = 1 := by kernel_rfl
@[go_sem] theorem ty22_sl : slT Try.prog 22 = true := by kernel_rfl
@[go_sem] theorem ty22_str : strT Try.prog 22 = false := by kernel_rfl
@[go_sem] theorem ty22_zok : zeroOk Try.prog 22 = true := by kernel_rfl
@[go_sem] theorem ty22_by : bytesT Try.prog 22 = 24 := by kernel_rfl
@[go_sem] theorem ty22_el : elT Try.prog 22 = 3 := by kernel_rfl
@[go_sem] theorem ty22_ar : arT Try.prog 22 = none := by kernel_rfl
@[go_sem] theorem ty22_pl : placesL Try.prog 22 = none := by kernel_rfl
@[go_sem] theorem ty22_z : zeroAV Try.prog 22 = [.nil] := by kernel_rfl
@[go_sem] theorem ty24_has : hasT Try.prog 24 = true := by kernel_rfl
@[go_sem] theorem ty24_agg : aggT Try.prog 24 = true := by kernel_rfl
@[go_sem] theorem ty24_sz : szT Try.prog 24 = 1 := by kernel_rfl
@[go_sem] theorem ty24_sl : slT Try.prog 24 = false := by kernel_rfl
@[go_sem] theorem ty24_str : strT Try.prog 24 = false := by kernel_rfl
@[go_sem] theorem ty24_zok : zeroOk Try.prog 24 = true := by kernel_rfl
@[go_sem] theorem ty24_by : bytesT Try.prog 24 = 24 := by kernel_rfl
@[go_sem] theorem ty24_ar : arT Try.prog 24 = none := by kernel_rfl
@[go_sem] theorem ty24_pl : placesL Try.prog 24 = some [(0, 1)] := by kernel_rfl
@[go_sem] theorem ty24_f0 : fldT Try.prog 24 0 = some (0, 22) := by kernel_rfl
@[go_sem] theorem ty24_z : zeroAV Try.prog 24 = [.nil] := by kernel_rfl
@[go_sem] theorem ty25_has : hasT Try.prog 25 = true := by kernel_rfl
@[go_sem] theorem ty25_agg : aggT Try.prog 25 = false := by kernel_rfl
@[go_sem] theorem ty25_sz : szT Try.prog 25 = 1 := by kernel_rfl
@[go_sem] theorem ty25_sl : slT Try.prog 25 = true := by kernel_rfl
@[go_sem] theorem ty25_str : strT Try.prog 25 = false := by kernel_rfl
@[go_sem] theorem ty25_zok : zeroOk Try.prog 25 = true := by kernel_rfl
@[go_sem] theorem ty25_by : bytesT Try.prog 25 = 24 := by kernel_rfl
@[go_sem] theorem ty25_el : elT Try.prog 25 = 27 := by kernel_rfl
@[go_sem] theorem ty25_ar : arT Try.prog 25 = none := by kernel_rfl
@[go_sem] theorem ty25_pl : placesL Try.prog 25 = none := by kernel_rfl
@[go_sem] theorem ty25_z : zeroAV Try.prog 25 = [.nil] := by kernel_rfl
@[go_sem] theorem ty27_has : hasT Try.prog 27 = true := by kernel_rfl
@[go_sem] theorem ty27_agg : aggT Try.prog 27 = true := by kernel_rfl
@[go_sem] theorem ty27_sz : szT Try.prog 27 = 3 := by kernel_rfl
@[go_sem] theorem ty27_sl : slT Try.prog 27 = false := by kernel_rfl
@[go_sem] theorem ty27_str : strT Try.prog 27 = false := by kernel_rfl
@[go_sem] theorem ty27_zok : zeroOk Try.prog 27 = true := by kernel_rfl
@[go_sem] theorem ty27_by : bytesT Try.prog 27 = 40 := by kernel_rfl
@[go_sem] theorem ty27_ar : arT Try.prog 27 = none := by kernel_rfl
@[go_sem] theorem ty27_pl : placesL Try.prog 27 = some [(0, 1), (1, 1), (2, 1)] := by kernel_rfl
@[go_sem] theorem ty27_f0 : fldT Try.prog 27 0 = some (0, 3) := by kernel_rfl
@[go_sem] theorem ty27_f1 : fldT Try.prog 27 1 = some (1, 3) := by kernel_rfl
@[go_sem] theorem ty27_f2 : fldT Try.prog 27 2 = some (2, 25) := by kernel_rfl
@[go_sem] theorem ty27_z : zeroAV Try.prog 27 = [.d (.v (.int .i64 0)), .d (.v (.int .i64 0)), .nil] := by kernel_rfl
@[go_sem] theorem ty28_has : hasT Try.prog 28 = true := by kernel_rfl
@[go_sem] theorem ty28_agg : aggT Try.prog 28 = false := by kernel_rfl
@[go_sem] theorem ty28_sz : szT Try.prog 28 = 1 := by kernel_rfl
@[go_sem] theorem ty28_sl : slT Try.prog 28 = false := by kernel_rfl
@[go_sem] theorem ty28_str : strT Try.prog 28 = false := by kernel_rfl
@[go_sem] theorem ty28_zok : zeroOk Try.prog 28 = true := by kernel_rfl
@[go_sem] theorem ty28_by : bytesT Try.prog 28 = 8 := by kernel_rfl
@[go_sem] theorem ty28_ar : arT Try.prog 28 = none := by kernel_rfl
@[go_sem] theorem ty28_pl : placesL Try.prog 28 = none := by kernel_rfl
@[go_sem] theorem ty28_z : zeroAV Try.prog 28 = [.d (.v (.int .i64 0))] := by kernel_rfl
@[go_sem] theorem ty34_has : hasT Try.prog 34 = true := by kernel_rfl
@[go_sem] theorem ty34_agg : aggT Try.prog 34 = false := by kernel_rfl
@[go_sem] theorem ty34_sz : szT Try.prog 34 = 1 := by kernel_rfl
@[go_sem] theorem ty34_sl : slT Try.prog 34 = false := by kernel_rfl
@[go_sem] theorem ty34_str : strT Try.prog 34 = false := by kernel_rfl
@[go_sem] theorem ty34_zok : zeroOk Try.prog 34 = true := by kernel_rfl
@[go_sem] theorem ty34_by : bytesT Try.prog 34 = 8 := by kernel_rfl
@[go_sem] theorem ty34_ar : arT Try.prog 34 = none := by kernel_rfl
@[go_sem] theorem ty34_pl : placesL Try.prog 34 = none := by kernel_rfl
@[go_sem] theorem ty34_z : zeroAV Try.prog 34 = [.d (.v (.nilFunc))] := by kernel_rfl
@[go_sem] theorem ty37_has : hasT Try.prog 37 = true := by kernel_rfl
@[go_sem] theorem ty37_agg : aggT Try.prog 37 = false := by kernel_rfl
@[go_sem] theorem ty37_sz : szT Try.prog 37 = 1 := by kernel_rfl
@[go_sem] theorem ty37_sl : slT Try.prog 37 = true := by kernel_rfl
@[go_sem] theorem ty37_str : strT Try.prog 37 = false := by kernel_rfl
@[go_sem] theorem ty37_zok : zeroOk Try.prog 37 = true := by kernel_rfl
@[go_sem] theorem ty37_by : bytesT Try.prog 37 = 24 := by kernel_rfl
@[go_sem] theorem ty37_el : elT Try.prog 37 = 22 := by kernel_rfl
@[go_sem] theorem ty37_ar : arT Try.prog 37 = none := by kernel_rfl
@[go_sem] theorem ty37_pl : placesL Try.prog 37 = none := by kernel_rfl
@[go_sem] theorem ty37_z : zeroAV Try.prog 37 = [.nil] := by kernel_rfl
@[go_sem] theorem ty39_has : hasT Try.prog 39 = true := by kernel_rfl
@[go_sem] theorem ty39_agg : aggT Try.prog 39 = true := by kernel_rfl
@[go_sem] theorem ty39_sz : szT Try.prog 39 = 2 := by kernel_rfl
@[go_sem] theorem ty39_sl : slT Try.prog 39 = false := by kernel_rfl
@[go_sem] theorem ty39_str : strT Try.prog 39 = false := by kernel_rfl
@[go_sem] theorem ty39_zok : zeroOk Try.prog 39 = true := by kernel_rfl
@[go_sem] theorem ty39_by : bytesT Try.prog 39 = 32 := by kernel_rfl
@[go_sem] theorem ty39_ar : arT Try.prog 39 = none := by kernel_rfl
@[go_sem] theorem ty39_pl : placesL Try.prog 39 = some [(0, 1), (1, 1)] := by kernel_rfl
@[go_sem] theorem ty39_f0 : fldT Try.prog 39 0 = some (0, 3) := by kernel_rfl
@[go_sem] theorem ty39_f1 : fldT Try.prog 39 1 = some (1, 37) := by kernel_rfl
@[go_sem] theorem ty39_z : zeroAV Try.prog 39 = [.d (.v (.int .i64 0)), .nil] := by kernel_rfl
@[go_sem] theorem ty40_has : hasT Try.prog 40 = true := by kernel_rfl
@[go_sem] theorem ty40_agg : aggT Try.prog 40 = false := by kernel_rfl
@[go_sem] theorem ty40_sz : szT Try.prog 40 = 1 := by kernel_rfl
@[go_sem] theorem ty40_sl : slT Try.prog 40 = true := by kernel_rfl
@[go_sem] theorem ty40_str : strT Try.prog 40 = false := by kernel_rfl
@[go_sem] theorem ty40_zok : zeroOk Try.prog 40 = true := by kernel_rfl
@[go_sem] theorem ty40_by : bytesT Try.prog 40 = 24 := by kernel_rfl
@[go_sem] theorem ty40_el : elT Try.prog 40 = 107 := by kernel_rfl
@[go_sem] theorem ty40_ar : arT Try.prog 40 = none := by kernel_rfl
@[go_sem] theorem ty40_pl : placesL Try.prog 40 = none := by kernel_rfl
@[go_sem] theorem ty40_z : zeroAV Try.prog 40 = [.nil] := by kernel_rfl
@[go_sem] theorem ty41_has : hasT Try.prog 41 = true := by kernel_rfl
@[go_sem] theorem ty41_agg : aggT Try.prog 41 = false := by kernel_rfl
@[go_sem] theorem ty41_sz : szT Try.prog 41 = 1 := by kernel_rfl
@[go_sem] theorem ty41_sl : slT Try.prog 41 = true := by kernel_rfl
@[go_sem] theorem ty41_str : strT Try.prog 41 = false := by kernel_rfl
@[go_sem] theorem ty41_zok : zeroOk Try.prog 41 = true := by kernel_rfl
@[go_sem] theorem ty41_by : bytesT Try.prog 41 = 24 := by kernel_rfl
@[go_sem] theorem ty41_el : elT Try.prog 41 = 107 := by kernel_rfl
@[go_sem] theorem ty41_ar : arT Try.prog 41 = none := by kernel_rfl
@[go_sem] theorem ty41_pl : placesL Try.prog 41 = none := by kernel_rfl
@[go_sem] theorem ty41_z : zeroAV Try.prog 41 = [.nil] := by kernel_rfl
@[go_sem] theorem ty49_has : hasT Try.prog 49 = true := by kernel_rfl
@[go_sem] theorem ty49_agg : aggT Try.prog 49 = false := by kernel_rfl
@[go_sem] theorem ty49_sz : szT Try.prog 49 = 1 := by kernel_rfl
@[go_sem] theorem ty49_sl : slT Try.prog 49 = true := by kernel_rfl
@[go_sem] theorem ty49_str : strT Try.prog 49 = false := by kernel_rfl
@[go_sem] theorem ty49_zok : zeroOk Try.prog 49 = true := by kernel_rfl
@[go_sem] theorem ty49_by : bytesT Try.prog 49 = 24 := by kernel_rfl
@[go_sem] theorem ty49_el : elT Try.prog 49 = 41 := by kernel_rfl
@[go_sem] theorem ty49_ar : arT Try.prog 49 = none := by kernel_rfl
@[go_sem] theorem ty49_pl : placesL Try.prog 49 = none := by kernel_rfl
@[go_sem] theorem ty49_z : zeroAV Try.prog 49 = [.nil] := by kernel_rfl
@[go_sem] theorem ty64_has : hasT Try.prog 64 = true := by kernel_rfl
@[go_sem] theorem ty64_agg : aggT Try.prog 64 = false := by kernel_rfl
@[go_sem] theorem ty64_sz : szT Try.prog 64 = 1 := by kernel_rfl
@[go_sem] theorem ty64_sl : slT Try.prog 64 = true := by kernel_rfl
@[go_sem] theorem ty64_str : strT Try.prog 64 = false := by kernel_rfl
@[go_sem] theorem ty64_zok : zeroOk Try.prog 64 = true := by kernel_rfl
@[go_sem] theorem ty64_by : bytesT Try.prog 64 = 24 := by kernel_rfl
@[go_sem] theorem ty64_el : elT Try.prog 64 = 125 := by kernel_rfl
@[go_sem] theorem ty64_ar : arT Try.prog 64 = none := by kernel_rfl
@[go_sem] theorem ty64_pl : placesL Try.prog 64 = none := by kernel_rfl
@[go_sem] theorem ty64_z : zeroAV Try.prog 64 = [.nil] := by kernel_rfl
@[go_sem] theorem ty93_has : hasT Try.prog 93 = true := by kernel_rfl
@[go_sem] theorem ty93_agg : aggT Try.prog 93 = false := by kernel_rfl
@[go_sem] theorem ty93_sz : szT Try.prog 93 = 1 := by kernel_rfl
@[go_sem] theorem ty93_sl : slT Try.prog 93 = true := by kernel_rfl
@[go_sem] theorem ty93_str : strT Try.prog 93 = false := by kernel_rfl
@[go_sem] theorem ty93_zok : zeroOk Try.prog 93 = true := by kernel_rfl
@[go_sem] theorem ty93_by : bytesT Try.prog 93 = 24 := by kernel_rfl
@[go_sem] theorem ty93_el : elT Try.prog 93 = 94 := by kernel_rfl
@[go_sem] theorem ty93_ar : arT Try.prog 93 = none := by kernel_rfl
@[go_sem] theorem ty93_pl : placesL Try.prog 93 = none := by kernel_rfl
@[go_sem] theorem ty93_z : zeroAV Try.prog 93 = [.nil] := by kernel_rfl
@[go_sem] theorem ty94_has : hasT Try.prog 94 = true := by kernel_rfl
@[go_sem] theorem ty94_agg : aggT Try.prog 94 = false := by kernel_rfl
@[go_sem] theorem ty94_sz : szT Try.prog 94 = 1 := by kernel_rfl
@[go_sem] theorem ty94_sl : slT Try.prog 94 = true := by kernel_rfl
@[go_sem] theorem ty94_str : strT Try.prog 94 = false := by kernel_rfl
@[go_sem] theorem ty94_zok : zeroOk Try.prog 94 = true := by kernel_rfl
@[go_sem] theorem ty94_by : bytesT Try.prog 94 = 24 := by kernel_rfl
@[go_sem] theorem ty94_el : elT Try.prog 94 = 4 := by kernel_rfl
@[go_sem] theorem ty94_ar : arT Try.prog 94 = none := by kernel_rfl
@[go_sem] theorem ty94_pl : placesL Try.prog 94 = none := by kernel_rfl
@[go_sem] theorem ty94_z : zeroAV Try.prog 94 = [.nil] := by kernel_rfl
@[go_sem] theorem ty100_has : hasT Try.prog 100 = true := by kernel_rfl
@[go_sem] theorem ty100_agg : aggT Try.prog 100 = false := by kernel_rfl
@[go_sem] theorem ty100_sz : szT Try.prog 100 = 1 := by kernel_rfl
@[go_sem] theorem ty100_sl : slT Try.prog 100 = false := by kernel_rfl
@[go_sem] theorem ty100_str : strT Try.prog 100 = false := by kernel_rfl
@[go_sem] theorem ty100_zok : zeroOk Try.prog 100 = true := by kernel_rfl
@[go_sem] theorem ty100_by : bytesT Try.prog 100 = 8 := by kernel_rfl
@[go_sem] theorem ty100_ar : arT Try.prog 100 = none := by kernel_rfl
@[go_sem] theorem ty100_pl : placesL Try.prog 100 = none := by kernel_rfl
@[go_sem] theorem ty100_z : zeroAV Try.prog 100 = [.d (.v (.nilFunc))] := by kernel_rfl
@[go_sem] theorem ty102_has : hasT Try.prog 102 = true := by kernel_rfl
@[go_sem] theorem ty102_agg : aggT Try.prog 102 = false := by kernel_rfl
@[go_sem] theorem ty102_sz : szT Try.prog 102 = 1 := by kernel_rfl
@[go_sem] theorem ty102_sl : slT Try.prog 102 = false := by kernel_rfl
@[go_sem] theorem ty102_str : strT Try.prog 102 = false := by kernel_rfl
@[go_sem] theorem ty102_zok : zeroOk Try.prog 102 = true := by kernel_rfl
@[go_sem] theorem ty102_by : bytesT Try.prog 102 = 8 := by kernel_rfl
@[go_sem] theorem ty102_ar : arT Try.prog 102 = none := by kernel_rfl
@[go_sem] theorem ty102_pl : placesL Try.prog 102 = none := by kernel_rfl
@[go_sem] theorem ty102_z : zeroAV Try.prog 102 = [.d (.v (.nilFunc))] := by kernel_rfl
@[go_sem] theorem ty104_has : hasT Try.prog 104 = true := by kernel_rfl
@[go_sem] theorem ty104_agg : aggT Try.prog 104 = false := by kernel_rfl
@[go_sem] theorem ty104_sz : szT Try.prog 104 = 1 := by kernel_rfl
@[go_sem] theorem ty104_sl : slT Try.prog 104 = false := by kernel_rfl
@[go_sem] theorem ty104_str : strT Try.prog 104 = false := by kernel_rfl
@[go_sem] theorem ty104_zok : zeroOk Try.prog 104 = true := by kernel_rfl
@[go_sem] theorem ty104_by : bytesT Try.prog 104 = 8 := by kernel_rfl
@[go_sem] theorem ty104_ar : arT Try.prog 104 = none := by kernel_rfl
@[go_sem] theorem ty104_pl : placesL Try.prog 104 = none := by kernel_rfl
@[go_sem] theorem ty104_z : zeroAV Try.prog 104 = [.d (.v (.map none))] := by kernel_rfl
@[go_sem] theorem ty107_has : hasT Try.prog 107 = true := by kernel_rfl
@[go_sem] theorem ty107_agg : aggT Try.prog 107 = true := by kernel_rfl
@[go_sem] theorem ty107_sz : szT Try.prog 107 = 7 := by kernel_rfl
@[go_sem] theorem ty107_sl : slT Try.prog 107 = false := by kernel_rfl
@[go_sem] theorem ty107_str : strT Try.prog 107 = false := by kernel_rfl
@[go_sem] theorem ty107_zok : zeroOk Try.prog 107 = true := by kernel_rfl
@[go_sem] theorem ty107_by : bytesT Try.prog 107 = 88 := by kernel_rfl
@[go_sem] theorem ty107_ar : arT Try.prog 107 = none := by kernel_rfl
@[go_sem] theorem ty107_pl : placesL Try.prog 107 = some [(0, 1), (1, 3), (4, 3)] := by kernel_rfl
@[go_sem] theorem ty107_f0 : fldT Try.prog 107 0 = some (0, 4) := by kernel_rfl
@[go_sem] theorem ty107_f1 : fldT Try.prog 107 1 = some (1, 27) := by kernel_rfl
@[go_sem] theorem ty107_f2 : fldT Try.prog 107 2 = some (4, 27) := by kernel_rfl
@[go_sem] theorem ty107_z : zeroAV Try.prog 107 = [.d (.v (.bool false)), .d (.v (.int .i64 0)), .d (.v (.int .i64 0)), .nil, .d (.v (.int .i64 0)), .d (.v (.int .i64 0)), .nil] := by kernel_rfl
@[go_sem] theorem ty108_has : hasT Try.prog 108 = true := by kernel_rfl
@[go_sem] theorem ty108_agg : aggT Try.prog 108 = false := by kernel_rfl
@[go_sem] theorem ty108_sz : szT Try.prog 108 = 1 := by kernel_rfl
@[go_sem] theorem ty108_sl : slT Try.prog 108 = false := by kernel_rfl
@[go_sem] theorem ty108_str : strT Try.prog 108 = false := by kernel_rfl
@[go_sem] theorem ty108_zok : zeroOk Try.prog 108 = true := by kernel_rfl
@[go_sem] theorem ty108_by : bytesT Try.prog 108 = 8 := by kernel_rfl
@[go_sem] theorem ty108_ar : arT Try.prog 108 = none := by kernel_rfl
@[go_sem] theorem ty108_pl : placesL Try.prog 108 = none := by kernel_rfl
@[go_sem] theorem ty108_z : zeroAV Try.prog 108 = [.d (.v (.nilFunc))] := by kernel_rfl
@[go_sem] theorem ty113_has : hasT Try.prog 113 = true := by kernel_rfl
@[go_sem] theorem ty113_agg : aggT Try.prog 113 = false := by kernel_rfl
@[go_sem] theorem ty113_sz : szT Try.prog 113 = 1 := by kernel_rfl
@[go_sem] theorem ty113_sl : slT Try.prog 113 = false := by kernel_rfl
@[go_sem] theorem ty113_str : strT Try.prog 113 = false := by kernel_rfl
@[go_sem] theorem ty113_zok : zeroOk Try.prog 113 = true := by kernel_rfl
@[go_sem] theorem ty113_by : bytesT Try.prog 113 = 8 := by kernel_rfl
@[go_sem] theorem ty113_ar : arT Try.prog 113 = none := by kernel_rfl
@[go_sem] theorem ty113_pl : placesL Try.prog 113 = none := by kernel_rfl
@[go_sem] theorem ty113_z : zeroAV Try.prog 113 = [.d (.v (.nilFunc))] := by kernel_rfl
@[go_sem] theorem ty115_has : hasT Try.prog 115 = true := by kernel_rfl
@[go_sem] theorem ty115_agg : aggT Try.prog 115 = false := by kernel_rfl
@[go_sem] theorem ty115_sz : szT Try.prog 115 = 1 := by kernel_rfl
@[go_sem] theorem ty115_sl : slT Try.prog 115 = true := by kernel_rfl
@[go_sem] theorem ty115_str : strT Try.prog 115 = false := by kernel_rfl
@[go_sem] theorem ty115_zok : zeroOk Try.prog 115 = true := by kernel_rfl
@[go_sem] theorem ty115_by : bytesT Try.prog 115 = 24 := by kernel_rfl
@[go_sem] theorem ty115_el : elT Try.prog 115 = 117 := by kernel_rfl
@[go_sem] theorem ty115_ar : arT Try.prog 115 = none := by kernel_rfl
@[go_sem] theorem ty115_pl : placesL Try.prog 115 = none := by kernel_rfl
@[go_sem] theorem ty115_z : zeroAV Try.prog 115 = [.nil] := by kernel_rfl
@[go_sem] theorem ty117_has : hasT Try.prog 117 = true := by kernel_rfl
@[go_sem] theorem ty117_agg : aggT Try.prog 117 = true := by kernel_rfl
@[go_sem] theorem ty117_sz : szT Try.prog 117 = 4 := by kernel_rfl
@[go_sem] theorem ty117_sl : slT Try.prog 117 = false := by kernel_rfl
@[go_sem] theorem ty117_str : strT Try.prog 117 = false := by kernel_rfl
@[go_sem] theorem ty117_zok : zeroOk Try.prog 117 = true := by kernel_rfl
@[go_sem] theorem ty117_by : bytesT Try.prog 117 = 48 := by kernel_rfl
@[go_sem] theorem ty117_ar : arT Try.prog 117 = none := by kernel_rfl
@[go_sem] theorem ty117_pl : placesL Try.prog 117 = some [(0, 1), (1, 3)] := by kernel_rfl
@[go_sem] theorem ty117_f0 : fldT Try.prog 117 0 = some (0, 3) := by kernel_rfl
@[go_sem] theorem ty117_f1 : fldT Try.prog 117 1 = some (1, 27) := by kernel_rfl
@[go_sem] theorem ty117_z : zeroAV Try.prog 117 = [.d (.v (.int .i64 0)), .d (.v (.int .i64 0)), .d (.v (.int .i64 0)), .nil] := by kernel_rfl
@[go_sem] theorem ty123_has : hasT Try.prog 123 = true := by kernel_rfl
@[go_sem] theorem ty123_agg : aggT Try.prog 123 = false := by kernel_rfl
@[go_sem] theorem ty123_sz : szT Try.prog 123 = 1 := by kernel_rfl
@[go_sem] theorem ty123_sl : slT Try.prog 123 = false := by kernel_rfl
@[go_sem] theorem ty123_str : strT Try.prog 123 = false := by kernel_rfl
@[go_sem] theorem ty123_zok : zeroOk Try.prog 123 = true := by kernel_rfl
@[go_sem] theorem ty123_by : bytesT Try.prog 123 = 8 := by kernel_rfl
@[go_sem] theorem ty123_ar : arT Try.prog 123 = none := by kernel_rfl
@[go_sem] theorem ty123_pl : placesL Try.prog 123 = none := by kernel_rfl
@[go_sem] theorem ty123_z : zeroAV Try.prog 123 = [.d (.v (.nilFunc))] := by kernel_rfl
@[go_sem] theorem ty125_has : hasT Try.prog 125 = true := by kernel_rfl
@[go_sem] theorem ty125_agg : aggT Try.prog 125 = true := by kernel_rfl
@[go_sem] theorem ty125_sz : szT Try.prog 125 = 6 := by kernel_rfl
@[go_sem] theorem ty125_sl : slT Try.prog 125 = false := by kernel_rfl
@[go_sem] theorem ty125_str : strT Try.prog 125 = false := by kernel_rfl
@[go_sem] theorem ty125_zok : zeroOk Try.prog 125 = true := by kernel_rfl
@[go_sem] theorem ty125_by : bytesT Try.prog 125 = 80 := by kernel_rfl
@[go_sem] theorem ty125_ar : arT Try.prog 125 = none := by kernel_rfl
@[go_sem] theorem ty125_pl : placesL Try.prog 125 = some [(0, 3), (3, 3)] := by kernel_rfl
@[go_sem] theorem ty125_f0 : fldT Try.prog 125 0 = some (0, 27) := by kernel_rfl
@[go_sem] theorem ty125_f1 : fldT Try.prog 125 1 = some (3, 27) := by kernel_rfl
@[go_sem] theorem ty125_z : zeroAV Try.prog 125 = [.d (.v (.int .i64 0)), .d (.v (.int .i64 0)), .nil, .d (.v (.int .i64 0)), .d (.v (.int .i64 0)), .nil] := by kernel_rfl
@[go_sem] theorem ty129_has : hasT Try.prog 129 = true := by kernel_rfl
@[go_sem] theorem ty129_agg : aggT Try.prog 129 = false := by kernel_rfl
@[go_sem] theorem ty129_sz : szT Try.prog 129 = 1 := by kernel_rfl
@[go_sem] theorem ty129_sl : slT Try.prog 129 = false := by kernel_rfl
@[go_sem] theorem ty129_str : strT Try.prog 129 = false := by kernel_rfl
@[go_sem] theorem ty129_zok : zeroOk Try.prog 129 = true := by kernel_rfl
@[go_sem] theorem ty129_by : bytesT Try.prog 129 = 8 := by kernel_rfl
@[go_sem] theorem ty129_ar : arT Try.prog 129 = none := by kernel_rfl
@[go_sem] theorem ty129_pl : placesL Try.prog 129 = none := by kernel_rfl
@[go_sem] theorem ty129_z : zeroAV Try.prog 129 = [.d (.v (.pointer none))] := by kernel_rfl
@[go_sem] theorem ty130_has : hasT Try.prog 130 = true := by kernel_rfl
@[go_sem] theorem ty130_agg : aggT Try.prog 130 = false := by kernel_rfl
@[go_sem] theorem ty130_sz : szT Try.prog 130 = 1 := by kernel_rfl
@[go_sem] theorem ty130_sl : slT Try.prog 130 = true := by kernel_rfl
@[go_sem] theorem ty130_str : strT Try.prog 130 = false := by kernel_rfl
@[go_sem] theorem ty130_zok : zeroOk Try.prog 130 = true := by kernel_rfl
@[go_sem] theorem ty130_by : bytesT Try.prog 130 = 24 := by kernel_rfl
@[go_sem] theorem ty130_el : elT Try.prog 130 = 157 := by kernel_rfl
@[go_sem] theorem ty130_ar : arT Try.prog 130 = none := by kernel_rfl
@[go_sem] theorem ty130_pl : placesL Try.prog 130 = none := by kernel_rfl
@[go_sem] theorem ty130_z : zeroAV Try.prog 130 = [.nil] := by kernel_rfl
@[go_sem] theorem ty132_has : hasT Try.prog 132 = true := by kernel_rfl
@[go_sem] theorem ty132_agg : aggT Try.prog 132 = false := by kernel_rfl
@[go_sem] theorem ty132_sz : szT Try.prog 132 = 1 := by kernel_rfl
@[go_sem] theorem ty132_sl : slT Try.prog 132 = false := by kernel_rfl
@[go_sem] theorem ty132_str : strT Try.prog 132 = false := by kernel_rfl
@[go_sem] theorem ty132_zok : zeroOk Try.prog 132 = true := by kernel_rfl
@[go_sem] theorem ty132_by : bytesT Try.prog 132 = 8 := by kernel_rfl
@[go_sem] theorem ty132_ar : arT Try.prog 132 = none := by kernel_rfl
@[go_sem] theorem ty132_pl : placesL Try.prog 132 = none := by kernel_rfl
@[go_sem] theorem ty132_z : zeroAV Try.prog 132 = [.d (.v (.map none))] := by kernel_rfl
@[go_sem] theorem ty134_has : hasT Try.prog 134 = true := by kernel_rfl
@[go_sem] theorem ty134_agg : aggT Try.prog 134 = true := by kernel_rfl
@[go_sem] theorem ty134_sz : szT Try.prog 134 = 4 := by kernel_rfl
@[go_sem] theorem ty134_sl : slT Try.prog 134 = false := by kernel_rfl
@[go_sem] theorem ty134_str : strT Try.prog 134 = false := by kernel_rfl
@[go_sem] theorem ty134_zok : zeroOk Try.prog 134 = true := by kernel_rfl
@[go_sem] theorem ty134_by : bytesT Try.prog 134 = 64 := by kernel_rfl
@[go_sem] theorem ty134_ar : arT Try.prog 134 = none := by kernel_rfl
@[go_sem] theorem ty134_pl : placesL Try.prog 134 = some [(0, 1), (1, 1), (2, 1), (3, 1)] := by kernel_rfl
@[go_sem] theorem ty134_f0 : fldT Try.prog 134 0 = some (0, 130) := by kernel_rfl
@[go_sem] theorem ty134_f1 : fldT Try.prog 134 1 = some (1, 130) := by kernel_rfl
@[go_sem] theorem ty134_f2 : fldT Try.prog 134 2 = some (2, 132) := by kernel_rfl
@[go_sem] theorem ty134_f3 : fldT Try.prog 134 3 = some (3, 132) := by kernel_rfl
@[go_sem] theorem ty134_z : zeroAV Try.prog 134 = [.nil, .nil, .d (.v (.map none)), .d (.v (.map none))] := by kernel_rfl
@[go_sem] theorem ty136_has : hasT Try.prog 136 = true := by kernel_rfl
@[go_sem] theorem ty136_agg : aggT Try.prog 136 = true := by kernel_rfl
@[go_sem] theorem ty136_sz : szT Try.prog 136 = 2 := by kernel_rfl
@[go_sem] theorem ty136_sl : slT Try.prog 136 = false := by kernel_rfl
@[go_sem] theorem ty136_str : strT Try.prog 136 = false := by kernel_rfl
@[go_sem] theorem ty136_zok : zeroOk Try.prog 136 = true := by kernel_rfl
@[go_sem] theorem ty136_by : bytesT Try.prog 136 = 16 := by kernel_rfl
@[go_sem] theorem ty136_el : elT Try.prog 136 = 3 := by kernel_rfl
@[go_sem] theorem ty136_ar : arT Try.prog 136 = some 2 := by kernel_rfl
@[go_sem] theorem ty136_pl : placesL Try.prog 136 = none := by kernel_rfl
@[go_sem] theorem ty136_z : zeroAV Try.prog 136 = [.d (.v (.int .i64 0)), .d (.v (.int .i64 0))] := by kernel_rfl
@[go_sem] theorem ty139_has : hasT Try.prog 139 = true := by kernel_rfl
@[go_sem] theorem ty139_agg : aggT Try.prog 139 = false := by kernel_rfl
@[go_sem] theorem ty139_sz : szT Try.prog 139 = 1 := by kernel_rfl
@[go_sem] theorem ty139_sl : slT Try.prog 139 = false := by kernel_rfl
@[go_sem] theorem ty139_str : strT Try.prog 139 = false := by kernel_rfl
@[go_sem] theorem ty139_zok : zeroOk Try.prog 139 = true := by kernel_rfl
@[go_sem] theorem ty139_by : bytesT Try.prog 139 = 8 := by kernel_rfl
@[go_sem] theorem ty139_ar : arT Try.prog 139 = none := by kernel_rfl
@[go_sem] theorem ty139_pl : placesL Try.prog 139 = none := by kernel_rfl
@[go_sem] theorem ty139_z : zeroAV Try.prog 139 = [.d (.v (.nilFunc))] := by kernel_rfl
@[go_sem] theorem ty142_has : hasT Try.prog 142 = true := by kernel_rfl
@[go_sem] theorem ty142_agg : aggT Try.prog 142 = false := by kernel_rfl
@[go_sem] theorem ty142_sz : szT Try.prog 142 = 1 := by kernel_rfl
@[go_sem] theorem ty142_sl : slT Try.prog 142 = false := by kernel_rfl
@[go_sem] theorem ty142_str : strT Try.prog 142 = false := by kernel_rfl
@[go_sem] theorem ty142_zok : zeroOk Try.prog 142 = true := by kernel_rfl
@[go_sem] theorem ty142_by : bytesT Try.prog 142 = 8 := by kernel_rfl
@[go_sem] theorem ty142_ar : arT Try.prog 142 = none := by kernel_rfl
@[go_sem] theorem ty142_pl : placesL Try.prog 142 = none := by kernel_rfl
@[go_sem] theorem ty142_z : zeroAV Try.prog 142 = [.d (.v (.map none))] := by kernel_rfl
@[go_sem] theorem ty151_has : hasT Try.prog 151 = true := by kernel_rfl
@[go_sem] theorem ty151_agg : aggT Try.prog 151 = false := by kernel_rfl
@[go_sem] theorem ty151_sz : szT Try.prog 151 = 1 := by kernel_rfl
@[go_sem] theorem ty151_sl : slT Try.prog 151 = false := by kernel_rfl
@[go_sem] theorem ty151_str : strT Try.prog 151 = false := by kernel_rfl
@[go_sem] theorem ty151_zok : zeroOk Try.prog 151 = true := by kernel_rfl
@[go_sem] theorem ty151_by : bytesT Try.prog 151 = 8 := by kernel_rfl
@[go_sem] theorem ty151_ar : arT Try.prog 151 = none := by kernel_rfl
@[go_sem] theorem ty151_pl : placesL Try.prog 151 = none := by kernel_rfl
@[go_sem] theorem ty151_z : zeroAV Try.prog 151 = [.d (.v (.nilFunc))] := by kernel_rfl
@[go_sem] theorem ty154_has : hasT Try.prog 154 = true := by kernel_rfl
@[go_sem] theorem ty154_agg : aggT Try.prog 154 = false := by kernel_rfl
@[go_sem] theorem ty154_sz : szT Try.prog 154 = 1 := by kernel_rfl
@[go_sem] theorem ty154_sl : slT Try.prog 154 = false := by kernel_rfl
@[go_sem] theorem ty154_str : strT Try.prog 154 = false := by kernel_rfl
@[go_sem] theorem ty154_zok : zeroOk Try.prog 154 = true := by kernel_rfl
@[go_sem] theorem ty154_by : bytesT Try.prog 154 = 8 := by kernel_rfl
@[go_sem] theorem ty154_ar : arT Try.prog 154 = none := by kernel_rfl
@[go_sem] theorem ty154_pl : placesL Try.prog 154 = none := by kernel_rfl
@[go_sem] theorem ty154_z : zeroAV Try.prog 154 = [.d (.v (.int .u64 0))] := by kernel_rfl
@[go_sem] theorem ty157_has : hasT Try.prog 157 = true := by kernel_rfl
@[go_sem] theorem ty157_agg : aggT Try.prog 157 = true := by kernel_rfl
@[go_sem] theorem ty157_sz : szT Try.prog 157 = 4 := by kernel_rfl
@[go_sem] theorem ty157_sl : slT Try.prog 157 = false := by kernel_rfl
@[go_sem] theorem ty157_str : strT Try.prog 157 = false := by kernel_rfl
@[go_sem] theorem ty157_zok : zeroOk Try.prog 157 = true := by kernel_rfl
@[go_sem] theorem ty157_by : bytesT Try.prog 157 = 64 := by kernel_rfl
@[go_sem] theorem ty157_ar : arT Try.prog 157 = none := by kernel_rfl
@[go_sem] theorem ty157_pl : placesL Try.prog 157 = some [(0, 3), (3, 1)] := by kernel_rfl
@[go_sem] theorem ty157_f0 : fldT Try.prog 157 0 = some (0, 27) := by kernel_rfl
@[go_sem] theorem ty157_f1 : fldT Try.prog 157 1 = some (3, 22) := by kernel_rfl
@[go_sem] theorem ty157_z : zeroAV Try.prog 157 = [.d (.v (.int .i64 0)), .d (.v (.int .i64 0)), .nil, .nil] := by kernel_rfl
@[go_sem] theorem ty159_has : hasT Try.prog 159 = true := by kernel_rfl
@[go_sem] theorem ty159_agg : aggT Try.prog 159 = false := by kernel_rfl
@[go_sem] theorem ty159_sz : szT Try.prog 159 = 1 := by kernel_rfl
@[go_sem] theorem ty159_sl : slT Try.prog 159 = false := by kernel_rfl
@[go_sem] theorem ty159_str : strT Try.prog 159 = false := by kernel_rfl
@[go_sem] theorem ty159_zok : zeroOk Try.prog 159 = true := by kernel_rfl
@[go_sem] theorem ty159_by : bytesT Try.prog 159 = 8 := by kernel_rfl
@[go_sem] theorem ty159_ar : arT Try.prog 159 = none := by kernel_rfl
@[go_sem] theorem ty159_pl : placesL Try.prog 159 = none := by kernel_rfl
@[go_sem] theorem ty159_z : zeroAV Try.prog 159 = [.d (.v (.nilFunc))] := by kernel_rfl
@[go_sem] theorem ty168_has : hasT Try.prog 168 = true := by kernel_rfl
@[go_sem] theorem ty168_agg : aggT Try.prog 168 = false := by kernel_rfl
@[go_sem] theorem ty168_sz : szT Try.prog 168 = 1 := by kernel_rfl
@[go_sem] theorem ty168_sl : slT Try.prog 168 = false := by kernel_rfl
@[go_sem] theorem ty168_str : strT Try.prog 168 = false := by kernel_rfl
@[go_sem] theorem ty168_zok : zeroOk Try.prog 168 = true := by kernel_rfl
@[go_sem] theorem ty168_by : bytesT Try.prog 168 = 8 := by kernel_rfl
@[go_sem] theorem ty168_ar : arT Try.prog 168 = none := by kernel_rfl
@[go_sem] theorem ty168_pl : placesL Try.prog 168 = none := by kernel_rfl
@[go_sem] theorem ty168_z : zeroAV Try.prog 168 = [.d (.v (.int .i64 0))] := by kernel_rfl
@[go_sem] theorem ty180_has : hasT Try.prog 180 = true := by kernel_rfl
@[go_sem] theorem ty180_agg : aggT Try.prog 180 = false := by kernel_rfl
@[go_sem] theorem ty180_sz : szT Try.prog 180 = 1 := by kernel_rfl
@[go_sem] theorem ty180_sl : slT Try.prog 180 = false := by kernel_rfl
@[go_sem] theorem ty180_str : strT Try.prog 180 = false := by kernel_rfl
@[go_sem] theorem ty180_zok : zeroOk Try.prog 180 = true := by kernel_rfl
@[go_sem] theorem ty180_by : bytesT Try.prog 180 = 8 := by kernel_rfl
@[go_sem] theorem ty180_ar : arT Try.prog 180 = none := by kernel_rfl
@[go_sem] theorem ty180_pl : placesL Try.prog 180 = none := by kernel_rfl
@[go_sem] theorem ty180_z : zeroAV Try.prog 180 = [.d (.v (.int .u64 0))] := by kernel_rfl
@[go_sem] theorem ty184_has : hasT Try.prog 184 = true := by kernel_rfl
@[go_sem] theorem ty184_agg : aggT Try.prog 184 = false := by kernel_rfl
@[go_sem] theorem ty184_sz : szT Try.prog 184 = 1 := by kernel_rfl
@[go_sem] theorem ty184_sl : slT Try.prog 184 = false := by kernel_rfl
@[go_sem] theorem ty184_str : strT Try.prog 184 = false := by kernel_rfl
@[go_sem] theorem ty184_zok : zeroOk Try.prog 184 = true := by kernel_rfl
@[go_sem] theorem ty184_by : bytesT Try.prog 184 = 8 := by kernel_rfl
@[go_sem] theorem ty184_ar : arT Try.prog 184 = none := by kernel_rfl
@[go_sem] theorem ty184_pl : placesL Try.prog 184 = none := by kernel_rfl
@[go_sem] theorem ty184_z : zeroAV Try.prog 184 = [.d (.v (.pointer none))] := by kernel_rfl
theorem enter3 : enterOk Try.prog 3 := by intro a w; go_simp
theorem enter4 : enterOk Try.prog 4 := by intro a w; go_simp
theorem enter5 : enterOk Try.prog 5 := by intro a w; go_simp
theorem enter6 : enterOk Try.prog 6 := by intro a w; go_simp
theorem enter7 : enterOk Try.prog 7 := by intro a w; go_simp
theorem enter8 : enterOk Try.prog 8 := by intro a w; go_simp
theorem enter9 : enterOk Try.prog 9 := by intro a w; go_simp
theorem enter10 : enterOk Try.prog 10 := by intro a w; go_simp
theorem enter11 : enterOk Try.prog 11 := by intro a w; go_simp
theorem enter12 : enterOk Try.prog 12 := by intro a w; go_simp
theorem enter13 : enterOk Try.prog 13 := by intro a w; go_simp
theorem enter14 : enterOk Try.prog 14 := by intro a w; go_simp
theorem enter15 : enterOk Try.prog 15 := by intro a w; go_simp
theorem enter16 : enterOk Try.prog 16 := by intro a w; go_simp
theorem enter17 : enterOk Try.prog 17 := by intro a w; go_simp
theorem enter18 : enterOk Try.prog 18 := by intro a w; go_simp
theorem enter19 : enterOk Try.prog 19 := by intro a w; go_simp
theorem enter20 : enterOk Try.prog 20 := by intro a w; go_simp
theorem enter21 : enterOk Try.prog 21 := by intro a w; go_simp
theorem enter22 : enterOk Try.prog 22 := by intro a w; go_simp
theorem enter23 : enterOk Try.prog 23 := by intro a w; go_simp
theorem enter24 : enterOk Try.prog 24 := by intro a w; go_simp
theorem enter25 : enterOk Try.prog 25 := by intro a w; go_simp
theorem enter26 : enterOk Try.prog 26 := by intro a w; go_simp
theorem enter27 : enterOk Try.prog 27 := by intro a w; go_simp
theorem enter28 : enterOk Try.prog 28 := by intro a w; go_simp
theorem enter29 : enterOk Try.prog 29 := by intro a w; go_simp
theorem enter30 : enterOk Try.prog 30 := by intro a w; go_simp
theorem enter31 : enterOk Try.prog 31 := by intro a w; go_simp
theorem enter32 : enterOk Try.prog 32 := by intro a w; go_simp
theorem enter33 : enterOk Try.prog 33 := by intro a w; go_simp
theorem enter34 : enterOk Try.prog 34 := by intro a w; go_simp
theorem enter35 : enterOk Try.prog 35 := by intro a w; go_simp
theorem enter36 : enterOk Try.prog 36 := by intro a w; go_simp
theorem enter37 : enterOk Try.prog 37 := by intro a w; go_simp
theorem enter38 : enterOk Try.prog 38 := by intro a w; go_simp
theorem enter39 : enterOk Try.prog 39 := by intro a w; go_simp
theorem enter40 : enterOk Try.prog 40 := by intro a w; go_simp
theorem enter41 : enterOk Try.prog 41 := by intro a w; go_simp
theorem enter42 : enterOk Try.prog 42 := by intro a w; go_simp
theorem enter43 : enterOk Try.prog 43 := by intro a w; go_simp
theorem enter44 : enterOk Try.prog 44 := by intro a w; go_simp
theorem enter45 : enterOk Try.prog 45 := by intro a w; go_simp
theorem enter46 : enterOk Try.prog 46 := by intro a w; go_simp
theorem enter47 : enterOk Try.prog 47 := by intro a w; go_simp
theorem enter48 : enterOk Try.prog 48 := by intro a w; go_simp
theorem enter49 : enterOk Try.prog 49 := by intro a w; go_simp
theorem enter50 : enterOk Try.prog 50 := by intro a w; go_simp
theorem enter51 : enterOk Try.prog 51 := by intro a w; go_simp
theorem enter52 : enterOk Try.prog 52 := by intro a w; go_simp
theorem enter53 : enterOk Try.prog 53 := by intro a w; go_simp
theorem enter54 : enterOk Try.prog 54 := by intro a w; go_simp
theorem enter55 : enterOk Try.prog 55 := by intro a w; go_simp
theorem enter56 : enterOk Try.prog 56 := by intro a w; go_simp
theorem enter57 : enterOk Try.prog 57 := by intro a w; go_simp
theorem enter58 : enterOk Try.prog 58 := by intro a w; go_simp
theorem enter59 : enterOk Try.prog 59 := by intro a w; go_simp
theorem enter60 : enterOk Try.prog 60 := by intro a w; go_simp
theorem enter61 : enterOk Try.prog 61 := by intro a w; go_simp
theorem enter62 : enterOk Try.prog 62 := by intro a w; go_simp
theorem enter63 : enterOk Try.prog 63 := by intro a w; go_simp
theorem enter64 : enterOk Try.prog 64 := by intro a w; go_simp
theorem enter65 : enterOk Try.prog 65 := by intro a w; go_simp
theorem enter66 : enterOk Try.prog 66 := by intro a w; go_simp
theorem enter67 : enterOk Try.prog 67 := by intro a w; go_simp
theorem enter68 : enterOk Try.prog 68 := by intro a w; go_simp
theorem enter69 : enterOk Try.prog 69 := by intro a w; go_simp
theorem enter70 : enterOk Try.prog 70 := by intro a w; go_simp
theorem enter71 : enterOk Try.prog 71 := by intro a w; go_simp
theorem enter72 : enterOk Try.prog 72 := by intro a w; go_simp
theorem enter73 : enterOk Try.prog 73 := by intro a w; go_simp
theorem enter74 : enterOk Try.prog 74 := by intro a w; go_simp
theorem enter75 : enterOk Try.prog 75 := by intro a w; go_simp
theorem enter76 : enterOk Try.prog 76 := by intro a w; go_simp
theorem enter77 : enterOk Try.prog 77 := by intro a w; go_simp
theorem enter78 : enterOk Try.prog 78 := by intro a w; go_simp
theorem enter79 : enterOk Try.prog 79 := by intro a w; go_simp
theorem enter80 : enterOk Try.prog 80 := by intro a w; go_simp
theorem enter81 : enterOk Try.prog 81 := by intro a w; go_simp
theorem enter82 : enterOk Try.prog 82 := by intro a w; go_simp
theorem enter83 : enterOk Try.prog 83 := by intro a w; go_simp
theorem enter84 : enterOk Try.prog 84 := by intro a w; go_simp
theorem enter85 : enterOk Try.prog 85 := by intro a w; go_simp
theorem enter86 : enterOk Try.prog 86 := by intro a w; go_simp
theorem enter87 : enterOk Try.prog 87 := by intro a w; go_simp
theorem enter88 : enterOk Try.prog 88 := by intro a w; go_simp
theorem enter89 : enterOk Try.prog 89 := by intro a w; go_simp
theorem enter90 : enterOk Try.prog 90 := by intro a w; go_simp
theorem enter91 : enterOk Try.prog 91 := by intro a w; go_simp
theorem enter92 : enterOk Try.prog 92 := by intro a w; go_simp
theorem enter93 : enterOk Try.prog 93 := by intro a w; go_simp
theorem enter94 : enterOk Try.prog 94 := by intro a w; go_simp
theorem enter95 : enterOk Try.prog 95 := by intro a w; go_simp
theorem enter96 : enterOk Try.prog 96 := by intro a w; go_simp
theorem enter97 : enterOk Try.prog 97 := by intro a w; go_simp
theorem enter98 : enterOk Try.prog 98 := by intro a w; go_simp
theorem enter99 : enterOk Try.prog 99 := by intro a w; go_simp
theorem enter100 : enterOk Try.prog 100 := by intro a w; go_simp
theorem enter101 : enterOk Try.prog 101 := by intro a w; go_simp
theorem enter102 : enterOk Try.prog 102 := by intro a w; go_simp
theorem enter103 : enterOk Try.prog 103 := by intro a w; go_simp
theorem enter104 : enterOk Try.prog 104 := by intro a w; go_simp
theorem enter105 : enterOk Try.prog 105 := by intro a w; go_simp
theorem enter106 : enterOk Try.prog 106 := by intro a w; go_simp
theorem enter107 : enterOk Try.prog 107 := by intro a w; go_simp
theorem enter108 : enterOk Try.prog 108 := by intro a w; go_simp
theorem enter109 : enterOk Try.prog 109 := by intro a w; go_simp
theorem enter110 : enterOk Try.prog 110 := by intro a w; go_simp
theorem enter111 : enterOk Try.prog 111 := by intro a w; go_simp
theorem enter112 : enterOk Try.prog 112 := by intro a w; go_simp
theorem enter113 : enterOk Try.prog 113 := by intro a w; go_simp
theorem enter114 : enterOk Try.prog 114 := by intro a w; go_simp
theorem enter115 : enterOk Try.prog 115 := by intro a w; go_simp
theorem enter116 : enterOk Try.prog 116 := by intro a w; go_simp
theorem enter117 : enterOk Try.prog 117 := by intro a w; go_simp
theorem enter118 : enterOk Try.prog 118 := by intro a w; go_simp
theorem enter119 : enterOk Try.prog 119 := by intro a w; go_simp
theorem enter120 : enterOk Try.prog 120 := by intro a w; go_simp
theorem enter121 : enterOk Try.prog 121 := by intro a w; go_simp
theorem enter122 : enterOk Try.prog 122 := by intro a w; go_simp
theorem enter123 : enterOk Try.prog 123 := by intro a w; go_simp
theorem enter124 : enterOk Try.prog 124 := by intro a w; go_simp
theorem enter125 : enterOk Try.prog 125 := by intro a w; go_simp
theorem enter126 : enterOk Try.prog 126 := by intro a w; go_simp
theorem enter127 : enterOk Try.prog 127 := by intro a w; go_simp
theorem enter128 : enterOk Try.prog 128 := by intro a w; go_simp
theorem enter129 : enterOk Try.prog 129 := by intro a w; go_simp
theorem enter130 : enterOk Try.prog 130 := by intro a w; go_simp
theorem enter132 : enterOk Try.prog 132 := by intro a w; go_simp
theorem enter133 : enterOk Try.prog 133 := by intro a w; go_simp
theorem enter134 : enterOk Try.prog 134 := by intro a w; go_simp
theorem enter135 : enterOk Try.prog 135 := by intro a w; go_simp
theorem enter136 : enterOk Try.prog 136 := by intro a w; go_simp
theorem enter137 : enterOk Try.prog 137 := by intro a w; go_simp
theorem enter138 : enterOk Try.prog 138 := by intro a w; go_simp
theorem enter139 : enterOk Try.prog 139 := by intro a w; go_simp
theorem enter140 : enterOk Try.prog 140 := by intro a w; go_simp
theorem enter141 : enterOk Try.prog 141 := by intro a w; go_simp
theorem enter142 : enterOk Try.prog 142 := by intro a w; go_simp
theorem enter143 : enterOk Try.prog 143 := by intro a w; go_simp
theorem enter144 : enterOk Try.prog 144 := by intro a w; go_simp
theorem enter145 : enterOk Try.prog 145 := by intro a w; go_simp
theorem enter146 : enterOk Try.prog 146 := by intro a w; go_simp
theorem enter147 : enterOk Try.prog 147 := by intro a w; go_simp
theorem enter148 : enterOk Try.prog 148 := by intro a w; go_simp
theorem enter150 : enterOk Try.prog 150 := by intro a w; go_simp
theorem enter151 : enterOk Try.prog 151 := by intro a w; go_simp
theorem enter154 : enterOk Try.prog 154 := by intro a w; go_simp
theorem enter155 : enterOk Try.prog 155 := by intro a w; go_simp
theorem enter156 : enterOk Try.prog 156 := by intro a w; go_simp
theorem enter158 : enterOk Try.prog 158 := by intro a w; go_simp
theorem enter159 : enterOk Try.prog 159 := by intro a w; go_simp
theorem enter160 : enterOk Try.prog 160 := by intro a w; go_simp
theorem enter161 : enterOk Try.prog 161 := by intro a w; go_simp
theorem enter163 : enterOk Try.prog 163 := by intro a w; go_simp
theorem enter164 : enterOk Try.prog 164 := by intro a w; go_simp
theorem enter166 : enterOk Try.prog 166 := by intro a w; go_simp
theorem mixed : Try.prog.follows .mixedOrders = true := by kernel_rfl
end Go.Proofs.Ytmeekpinkfpnhaa
