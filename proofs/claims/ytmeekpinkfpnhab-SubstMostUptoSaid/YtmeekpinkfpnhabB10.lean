/- Walks through maps: the next entry, whichever comes. A call that hands back a new map. The unifier: Both, where one variable comes to be bound. slices.SortFunc of at most one binding. subst.list of one binding. clause.Covers, superposeref.CoversOf: what is plain. No program in sight. Substitutions, and clauses that subsume others: what is plain. No program in sight. Places of terms: what stands there, what is put there: what is plain. No program in sight. Variables numbered anew; what is tidied twice is tidied once: what is plain. No program in sight. The order of terms, in plain words; and that the tables which the program and the reference fill hold it. -/
import Derived.Test.YtmeekpinkfpnhabB03
import Derived.Test.YtmeekpinkfpnhabB04
import Derived.Test.YtmeekpinkfpnhabB05
import Derived.Test.YtmeekpinkfpnhabB06
import Derived.Test.YtmeekpinkfpnhabB08
import Derived.Test.YtmeekpinkfpnhabB09
import Derived.Shelf.Small.Bits
import Derived.Ground.NamesProg
set_option linter.unusedSimpArgs false
set_option linter.unusedSectionVars false
set_option linter.unusedVariables false
set_option linter.unnecessarySimpa false
set_option linter.all false
namespace Go.Proofs.Ytmeekpinkfpnhab
open Go.RowKit
section
variable {P : Program} {w0 w : World} {m : Mem} {β : Bl} {s : St} {a : Act} {n : Nat}
def comesE (nm src : Nm) (sz : Nat) (seen : List Nat) (es : List (Int × DV)) (i : Nat) : Eff :=
  ⟨.tup [.d (.v (.bool true)), .d (.v (.int .i64 (es.getD i default).1)), .d (es.getD i default).2], [], [(nm, some (.iter src sz (seen ++ [i])))]⟩
def endE : Eff := ⟨.tup [.d (.v (.bool false))], [], []⟩
theorem next_run {ty : TypeId} {p q : Bk} {l : Array MapEntry} {sn : Array Nat} {sz : Nat} (hp : w.heap[p.1]? = some (.mapIter (some q.1) sz sn sz)) (hq : w.heap[q.1]? = some (.map l sz)) (hl : l.size = sz) (hb : ∀ (i : Nat) (x : MapEntry), l[i]? = some x → x.born = i) :
    ((∀ i, i < sz → sn.contains i = true) ∧ (Instr.next (.pointer (some ⟨p.1, 0, none⟩)) false ty).run P w = .ok (.tuple #[.bool false]) w) ∨
    ∃ (i : Nat) (e : MapEntry) (d : Nat), l[i]? = some e ∧ sn.contains i = false ∧ (Instr.next (.pointer (some ⟨p.1, 0, none⟩)) false ty).run P w = .ok (.tuple #[.bool true, e.key, e.val]) { w.drewN d with heap := w.heap.setIfInBounds p.1 (.mapIter (some q.1) sz (sn.push i) sz) } := by
  have hold : ∀ x ∈ l.toList, x.born < sz := fun x hx => by
    obtain ⟨i, hi, rfl⟩ := List.mem_iff_getElem.1 hx
    have hi' : i < l.size := by simpa using hi
    have := hb i l[i] (Array.getElem?_eq_getElem hi')
    simp only [Array.getElem_toList] at this ⊢
    omega
  simp only [Instr.next, getObj, Sem.run_bind, Sem.run, hp, hq, Result.andThen, next_test_false sn l sz sz hold (Nat.le_refl _), Bool.false_eq_true, if_false]
  have hmem : ∀ x ∈ (Array.filter (fun e => !sn.contains e.born) l).toList, x.born < sz := fun x hx => hold x (by simp at hx ⊢; exact hx.1)
  have hin : ∀ x ∈ (Array.filter (fun e => !sn.contains e.born) l).toList, l[x.born]? = some x ∧ sn.contains x.born = false := fun x hx => by
    simp at hx
    obtain ⟨hx, hs⟩ := hx
    obtain ⟨i, hi, rfl⟩ := Array.mem_iff_getElem.1 hx
    have := hb i l[i] (Array.getElem?_eq_getElem hi)
    rw [this] at hs ⊢
    exact ⟨Array.getElem?_eq_getElem hi, by simpa using hs⟩
  have hall : Array.filter (fun e => !sn.contains e.born) l = #[] → ∀ i, i < sz → sn.contains i = true := fun h i hi => by
    rw [Array.filter_eq_empty_iff] at h
    have hi' : i < l.size := by omega
    have h1 := h l[i] (Array.getElem_mem hi')
    rw [hb i l[i] (Array.getElem?_eq_getElem hi')] at h1
    simpa using h1
  generalize Array.filter (fun e => !sn.contains e.born) l = L at hmem hin hall ⊢
  have e1 : L.filter (fun x => decide (x.born < sz)) = L := Array.filter_eq_self.2 (fun x hx => by simpa using hmem x (by simpa using hx))
  have e2 : L.filter (fun x => decide (x.born ≥ sz)) = #[] := by
    rw [Array.filter_eq_empty_iff]
    intro x hx
    have := hmem x (by simpa using hx)
    simp
    omega
  simp only [e1, e2, Array.append_empty]
  by_cases h0 : L.size = 0
  · left
    have : L = #[] := Array.eq_empty_of_size_eq_zero h0
    subst this
    refine ⟨hall rfl, ?_⟩
    simp [choose, Sem.run, Question.forced]
  · right
    have hne : L.isEmpty = false := by simp [Array.isEmpty, h0]
    simp only [hne, Bool.false_eq_true, if_false, Array.empty_append, Array.size_map]
    have hch : ∃ (j d : Nat), j < L.size ∧ (choose (Question.mapNext L.size)).run P w = .ok j (w.drewN d) := by
      by_cases hf : L.size ≤ 1
      · exact ⟨0, 0, by omega, by simp [choose, Sem.run, Question.forced, hf, World.drewN]⟩
      · exact ⟨_, 1, Nat.mod_lt _ (by omega), by
          simp only [choose, Sem.run, Question.forced, decide_eq_true_eq, hf, if_false, Question.cut]
          rfl⟩
    obtain ⟨j, d, hj, hrun⟩ := hch
    obtain ⟨i1, i2⟩ := hin L[j] (by simp)
    refine ⟨L[j].born, L[j], d, i1, i2, ?_⟩
    have hpd : (w.drewN d).heap[p.1]? = some (.mapIter (some q.1) sz sn sz) := hp
    simp only [hrun, Array.getElem?_map, Array.getElem?_eq_getElem hj, Option.map_some, Sem.run_bind, setObj, Sem.run, hpd, Result.andThen]
    rfl
theorem awp_next {id sz : Nat} {nm src : Nm} {d : Tmp} {x : Operand} {ty : TypeId} {pos : String} {after : Array Edge} {rest : List Oper} {Q : Exit → St → Prop} {seen : List Nat} {es : List (Int × DV)}
    (hreg : regOk n (⟨some d, .next x false, ty, pos, after, none⟩ :: rest) = true) (hx : s.ev x = .ptr nm 0) (h1 : s.h nm = some (.iter src sz seen)) (h2 : s.h src = some (.map es)) (h3 : es.length = sz)
    (hE : (∀ i, i < es.length → i ∈ seen) → runL P (⟨some d, .next x false, ty, pos, after, none⟩ :: rest).toArray s.k rest 1 (St.step { s with k := s.k + 1 } ⟨some d, .next x false, ty, pos, after, none⟩ endE) (fun s' => Q .normal s'))
    (hN : ∀ i, i < es.length → i ∉ seen → runL P (⟨some d, .next x false, ty, pos, after, none⟩ :: rest).toArray s.k rest 1 (St.step { s with k := s.k + 1 } ⟨some d, .next x false, ty, pos, after, none⟩ (comesE nm src sz seen es i)) (fun s' => Q .normal s')) :
    awp P w0 n (.region id (⟨some d, .next x false, ty, pos, after, none⟩ :: rest).toArray false) Q s := by
  intro m β a w g1 H hT
  simp only [regOk, Bool.and_eq_true, List.all_eq_true, decide_eq_true_eq] at hreg
  obtain ⟨hreg, hlen⟩ := hreg
  refine wp_region_list ?_
  have hop := hreg _ (List.mem_cons_self ..)
  have hxv : R m β (a.eval x) (.ptr nm 0) := by
    rw [← hx]; exact ev_ok hT g1 (by have := hop.1; simp only [opOk, Array.all_eq_true_iff_forall_mem] at this; exact this x (by simp [Op.operands]))
  have hxe : ∃ p : Bk, a.eval x = .pointer (some ⟨p.1, 0, none⟩) ∧ β nm = some p := by
    generalize a.eval x = v at hxv
    cases hxv with
    | ptr hb hv => exact ⟨_, rfl, hb⟩
  obtain ⟨p, hxe, hbp⟩ := hxe
  obtain ⟨p', hp', _, q, sn, f1, f2, f3, f4⟩ := H.obj nm _ h1
  rw [hbp] at hp'; cases hp'
  obtain ⟨q', hq', _, l, clock, k1, ⟨k2, kc, kb⟩, k3⟩ := H.obj src _ h2
  rw [f1] at hq'; cases hq'
  have hcl : clock = sz := by rw [kc, h3]
  subst hcl
  have hne : p.1 ≠ q.1 := fun e => by rw [e, k1] at f3; cases f3
  have hcont : ∀ i, sn.contains i = true ↔ i ∈ seen := fun i => by rw [← f4]; simp
  -- what follows
  have go : ∀ (e : Eff) (v : Value) (w' : World) , runL P (⟨some d, .next x false, ty, pos, after, none⟩ :: rest).toArray s.k rest 1 (St.step { s with k := s.k + 1 } ⟨some d, .next x false, ty, pos, after, none⟩ e) (fun s' => Q .normal s') →
      HRel P w0 (e.ap s.h) (s.k + 1) m β w' → R m β v e.val → wpList P (⟨some d, .next x false, ty, pos, after, none⟩ :: rest).toArray (fun e' a' w'' => ∃ s' m' β', Q e' s' ∧ a'.tmps.size = n ∧ a'.defers = a.defers ∧ s.k ≤ s'.k ∧ Goes P w0 m β s' m' β' a' w'' ∧ ∀ x, x.1 < s.k → β x = none → β' x = none) rest (a.put (some d) v) w' := by
    intro e v w' hr hH hR
    refine runF_sound (tick := s.k) (n := n) (ops := (⟨some d, .next x false, ty, pos, after, none⟩ :: rest).toArray) (fun o ho => (hreg o (by simpa using ho)).2) rest 1 _ m β (a.put (some d) v) w' (runF_of _ _ _ hr) (fun o ho => (hreg o (List.mem_cons_of_mem _ ho)).1) (by simp at hlen; omega) (by rw [put_size, g1]) (Nat.lt_succ_self _) hH (step_slots (o := ⟨some d, .next x false, ty, pos, after, none⟩) (s := { s with k := s.k + 1 }) hT (.rfl' m) (.rfl' β) hR) (fun j _ => ?_) ?_
    · cases hb : β (s.k, j) with
      | none => rfl
      | some p => have := H.dom _ _ hb; simp at this
    · intro s' m' β' a' w'' hK j1 j2 j3 j4 j5
      exact ⟨s', m', β', hK, j1, j2.trans (put_defers _ _ _), by rw [j3]; exact Nat.le_succ _, j4, fun x hx => j5 x (by omega)⟩
  show wpList P _ _ (_ :: rest) a w
  unfold wpList
  rw [if_pos (by simp [Region.wanted])]
  refine .inl ?_
  unfold Oper.wp
  have hex : ∀ y, (execOp a.eval ⟨some d, .next x false, ty, pos, after, none⟩).run P w = y ↔ ((do let v ← Instr.next (.pointer (some ⟨p.1, 0, none⟩)) false ty; pure (.value v) : Sem Next)).run P w = y := fun y => by
    simp [execOp, hxe]
  rcases next_run (P := P) (ty := ty) f3 k1 (by rw [k2, h3]) kb with ⟨hall, hrun⟩ | ⟨i, e, dr, hie, hsn, hrun⟩
  · have : (execOp a.eval ⟨some d, .next x false, ty, pos, after, none⟩).run P w = .ok (.value (.tuple #[.bool false])) w := by
      rw [hex]; simp [hrun]
    rw [this]
    refine go endE _ w (hE fun i hi => (hcont i).1 (hall i (by omega))) (H.tick (Nat.le_succ _)) (.tup rfl fun j v a hj ha => ?_)
    match j, hj, ha with
    | 0, hj, ha => simp at hj ha; subst hj; subst ha; exact .d (.v rfl)
    | j + 1, hj, ha => simp at hj
  · have : (execOp a.eval ⟨some d, .next x false, ty, pos, after, none⟩).run P w = .ok (.value (.tuple #[.bool true, e.key, e.val])) { w.drewN dr with heap := w.heap.setIfInBounds p.1 (.mapIter (some q.1) clock (sn.push i) clock) } := by
      rw [hex]; simp [hrun]
    rw [this]
    have hil : i < l.size := (Array.getElem?_eq_some_iff.1 hie).1
    have hie2 : i < es.length := by omega
    have hxx := k3 i e es[i] hie (List.getElem?_eq_getElem hie2)
    have hgd : es.getD i default = es[i] := by rw [List.getD_eq_getElem?_getD, List.getElem?_eq_getElem hie2, Option.getD_some]
    have hplt : p.1 < w.heap.size := (Array.getElem?_eq_some_iff.1 f3).1
    refine go (comesE nm src clock seen es i) _ _ (hN i hie2 fun h => by rw [(hcont i).2 h] at hsn; cases hsn) ?_ (.tup rfl fun j v a hj ha => ?_)
    · have hB : w0.heap.size ≤ p.1 := H.new nm p _ hbp h1 trivial
      have eβ : updB β nm p = β := by
        funext y; unfold updB; split
        · subst_vars; exact hbp.symm
        · rfl
      have hother : ∀ o b, b ≠ p.1 → ({ w.drewN dr with heap := w.heap.setIfInBounds p.1 o } : World).heap[b]? = w.heap[b]? := fun o b hne => by simp [Ne.symm hne]
      have hat : ∀ o, ({ w.drewN dr with heap := w.heap.setIfInBounds p.1 o } : World).heap[p.1]? = some o := fun o => by simp [hplt]
      have := (H.draws dr).upd1 (n := nm) (p := p) (ob := .iter src clock (seen ++ [i])) (m' := m) (w' := { w.drewN dr with heap := w.heap.setIfInBounds p.1 (.mapIter (some q.1) clock (sn.push i) clock) }) (le_old hbp) (H.dom nm p hbp) ((H.draws dr).ext.trans ⟨rfl, rfl, rfl, by simp [World.drewN], fun b hbb => hother _ b (by omega)⟩) (.rfl' m) (fun b o v hmv => ?_) ?_ (fun _ => hB) ?_
      · rw [eβ] at this
        exact this.tick (Nat.le_succ _)
      · obtain ⟨q1, q2⟩ := H.mem b o v hmv
        refine ⟨?_, q2⟩
        have hne : b ≠ p.1 := fun e => by
          subst e
          unfold World.cell? at q1
          simp [f3] at q1
        unfold World.cell? at q1 ⊢
        rw [hother _ b hne]; exact q1
      · rw [eβ]
        exact ⟨by assumption, q, sn.push i, f1, f2, hat _, by simp [f4]⟩
      · intro y p' ob' hy hob hp' hr
        have hne : p'.1 ≠ p.1 := fun e => hy (H.inj y nm p' p ob' _ hob h1 hp' hbp hr trivial e)
        exact ⟨fun _ => hne, hother _ _ hne, fun _ => rfl⟩
    · rw [hgd] at ha
      match j, hj, ha with
      | 0, hj, ha => simp at hj ha; subst hj; subst ha; exact .d (.v rfl)
      | 1, hj, ha => simp at hj ha; subst hj; subst ha; rw [hxx.1]; exact .d (.v rfl)
      | 2, hj, ha => simp at hj ha; subst hj; subst ha; exact .d hxx.2
      | j + 3, hj, ha => simp at hj
theorem awp_next_k {id sz : Nat} {nm src : Nm} {d : Tmp} {x : Operand} {ty : TypeId} {pos : String} {after : Array Edge} {rest : List Oper} {Q : Exit → St → Prop} {seen : List Nat} {es : List (Int × DV)}
    (hreg : regOk n (⟨some d, .next x false, ty, pos, after, none⟩ :: rest) = true) (hx : s.ev x = .ptr nm 0) (h1 : s.h nm = some (.iter src sz seen)) (h2 : s.h src = some (.map es)) (h3 : es.length = sz)
    (h : ∀ R : St → Prop, (∀ s', Q .normal s' → R s') →
      ((∀ i, i < es.length → i ∈ seen) → runL P (⟨some d, .next x false, ty, pos, after, none⟩ :: rest).toArray s.k rest 1 (St.step { s with k := s.k + 1 } ⟨some d, .next x false, ty, pos, after, none⟩ endE) R) ∧
      (∀ i, i < es.length → i ∉ seen → runL P (⟨some d, .next x false, ty, pos, after, none⟩ :: rest).toArray s.k rest 1 (St.step { s with k := s.k + 1 } ⟨some d, .next x false, ty, pos, after, none⟩ (comesE nm src sz seen es i)) R)) :
    awp P w0 n (.region id (⟨some d, .next x false, ty, pos, after, none⟩ :: rest).toArray false) Q s :=
  awp_next hreg hx h1 h2 h3 (h _ fun _ h => h).1 (h _ fun _ h => h).2
end
end Go.Proofs.Ytmeekpinkfpnhab
namespace Go.Proofs.Ytmeekpinkfpnhab
open Go.RowKit
def mapE (n' : Nm) (es : List (Int × DV)) (v : AV) : Eff := ⟨v, [(n', none)], [(n', some (.map es))]⟩
attribute [go_sem] mapE
theorem ret_mapE {P : Program} {fn : Func} {n' q : Nm} {es : List (Int × DV)} {v val : AV} {h0 : Heap} {k : Nat} {s : St} (h1 : resOkL P fn.ntmps s fn.results.toList) (h2 : resA P s fn.results.toList = v) (hco : Co k (some (n', q)) v val) (hq : k ≤ q.1) (hn' : n'.1 < k) (h0' : h0 n' = none)
    (hp : s.h q = some (.map es)) (hfr : Fr k h0 s.h) : RetOK P fn (mapE n' es val) h0 k s := by
  have e1 : (mapE n' es val).ap h0 n' = some (.map es) := by simp [mapE, Eff.ap, upd]
  refine ⟨h1, some (n', q), ?_, fun x hx hxn => ?_, ?_, ?_⟩
  · rw [h2]; exact hco
  · have hxn := hxn _ rfl
    simp only at hxn
    simp [mapE, Eff.ap, upd, hxn, hfr x hx]
  · rintro y hy
    cases hy
    exact ⟨hn', hq, h0', ⟨_, by simp only [mapE]; exact List.mem_cons_self .., rfl⟩, _, e1, hp, rfl⟩
  · intro x hx ob ho y hy
    simp only [mapE, List.mem_cons, List.not_mem_nil, or_false] at hx
    subst hx
    cases ho; cases hy
end Go.Proofs.Ytmeekpinkfpnhab
namespace Go.Proofs.Ytmeekpinkfpnhab
open Go.RowKit
theorem nmk1 {k i : Nat} (j : Nat) : ((k + 1, i) : Nm) ≠ (k + 1 + 1 + 1, j) := fun e => by have := congrArg Prod.fst e; simp only at this; omega
set_option maxHeartbeats 4000000 in
set_option maxRecDepth 20000 in
theorem both1_tri (n : Nat) (x y : Tm) (p : Int × Tm) (hp : p.2.size ≤ 4000000) (h1 : oneF n [] x y = some (true, [p])) (s0 s1 : Int) (kn0 kn1 : List (Int × Int)) (h2 : sizeF n [p] x [] = some (s0, kn0)) (h2' : s0 ≤ 120) (h3 : sizeF n [p] p.2 kn0 = some (s1, kn1)) (h3' : s1 ≤ 120) (h4 : thruOk n [p] p.2 = true) (n' : Nm) :
    Tri Try.prog 46 [.d (tmDV x), .d (tmDV y)] (mapE n' (bsE [(p.1, thruT n [p] p.2)]) (.tup [.map n', bA true, iA 0])) := by
  have hk0 : KnOk [] := fun q hq => by cases hq
  have hk1 := (sizeF_bd [p] n x [] _ hk0 h2).2
  refine tri_enter Try.func46 rfl Try.ntmps46 (by simp only [List.length_cons, List.length_nil]; omega) fun w0 h0 k hrd hwr => ?_
  have hn1 : n'.1 < k := hwr (n', some (.map (bsE [(p.1, thruT n [p] p.2)]))) (by simp [mapE])
  have hn2 : h0 n' = none := hrd (n', none) (by simp [mapE])
  clear hrd hwr
  have hnd : [((k + 1, 2) : Nm), (k + 1, 0)].Nodup := by simp
  have hnd3 : [((k + 1, 2) : Nm), (k + 1, 0), (k + 1 + 1 + 1, 0)].Nodup := by simp
  have hT1 := uone_tri (k + 1, 2) (k + 1, 0) hnd n [] x y _ h1
  have hT2 := usize_tri (k + 1, 2) (k + 1, 0) (k + 1 + 1 + 1, 0) hnd3 [p] n x [] _ hk0 h2
  have hz2 : ¬ s0 > 120 := by omega
  have hA1 : ∀ h : Heap, h (k + 1, 2) = some (.cells 122 [.map (k + 1, 0)]) → h (k + 1, 0) = some (.map []) → Ag (k + 1 + 1 + 1) [(k + 1, 2), (k + 1, 0)] (oL (unL (k + 1, 2) (k + 1, 0) [])) h := fun h e1 e2 => unL_ag hnd (by simp only; omega) (by simp only; omega) e1 e2
  have hA2 : ∀ h : Heap, h (k + 1, 2) = some (.cells 122 [.map (k + 1, 0)]) → h (k + 1, 0) = some (.map (bsE [p])) → h (k + 1 + 1 + 1, 0) = some (.map []) → Ag (k + 1 + 1 + 1 + 1) [(k + 1, 2), (k + 1, 0), (k + 1 + 1 + 1, 0)] (oL (szL (k + 1, 2) (k + 1, 0) (k + 1 + 1 + 1, 0) [p] [])) h := fun h e1 e2 e3 => szL_ag hnd3 (by simp only; omega) (by simp only; omega) (by simp only; omega) e1 e2 e3
  have eo1 : ∀ kn, oL (szL (k + 1, 2) (k + 1, 0) (k + 1 + 1 + 1, 0) [p] kn) (k + 1, 2) = .cells 122 [.map (k + 1, 0)] := fun kn => oL_mem (l := szL (k + 1, 2) (k + 1, 0) (k + 1 + 1 + 1, 0) [p] kn) (p := ((k + 1, 2), _)) hnd3 (List.mem_cons_self ..)
  have eo2 : ∀ kn, oL (szL (k + 1, 2) (k + 1, 0) (k + 1 + 1 + 1, 0) [p] kn) (k + 1, 0) = .map (bsE [p]) := fun kn => oL_mem (l := szL (k + 1, 2) (k + 1, 0) (k + 1 + 1 + 1, 0) [p] kn) (p := ((k + 1, 0), _)) hnd3 (List.mem_cons_of_mem _ (List.mem_cons_self ..))
  have eo3 : ∀ kn, oL (szL (k + 1, 2) (k + 1, 0) (k + 1 + 1 + 1, 0) [p] kn) (k + 1 + 1 + 1, 0) = .map (knE kn) := fun kn => oL_mem (l := szL (k + 1, 2) (k + 1, 0) (k + 1 + 1 + 1, 0) [p] kn) (p := ((k + 1 + 1 + 1, 0), _)) hnd3 (List.mem_cons_of_mem _ (List.mem_cons_of_mem _ (List.mem_cons_self ..)))
  repeat' (first | refine awp_seq_k fun K hK => ?_ | ((first | refine awp_region_k (by kernel_rfl) fun R hR => ?_ | refine awp_draw mixed (by kernel_rfl) (by kernel_rfl) fun R hR => ?_); simp only [go_sem, hz2, decide_false, effRange, okRange, eo1, eo2]) | ((first | (refine hR _ ?_; clear hR R) | refine awp_skip ?_ | refine awp_exit ?_ | refine awp_ret ?_); try simp only [thenA, inBlockA, reduceIte, reduceCtorEq, Nat.reduceEqDiff, if_false, if_true]) | ((first | refine hK _ ?_ | (clear hK K; first | refine hK _ ?_ | (clear hK K; first | refine hK _ ?_ | (clear hK K; first | refine hK _ ?_ | (clear hK K; refine hK _ ?_))))); clear hK K) | refine awp_true rfl rfl ?_ | refine awp_false rfl rfl ?_ | refine awp_block ?_ | ((first | refine CallK.chg (enter78) (hT1) ?_ (hA1 _ (by simp only [go_sem, ]) (by simp only [go_sem, ])) (Fr.rfl' _ _) ?_ | refine CallD.chg (enter78) (hT1) ?_ (hA1 _ (by simp only [go_sem, ]) (by simp only [go_sem, ])) (Fr.rfl' _ _) (by first | assumption | exact List.cons_ne_nil _ _) ?_); (focus first | ((repeat (first | exact trivial | refine ⟨(by first | exact Or.inl rfl | exact Or.inr rfl), ?_⟩)); done) | (simp only [coL, AV.dat, true_or, or_true, AV.d.injEq, go_sem]; done)); simp only [go_sem, hz2, decide_false, effRange, okRange, eo1, eo2]) | ((first | refine CallK.chg (enter79) (hT2) ?_ (hA2 _ (by show upd _ _ _ _ = _; rw [upd_ne _ _ (nmk1 _)]; exact (unL_st hnd).1) (by show upd _ _ _ _ = _; rw [upd_ne _ _ (nmk1 _)]; exact (unL_st hnd).2) (by show upd _ _ _ _ = _; rw [upd_self])) (Fr.rfl' _ _) ?_ | refine CallD.chg (enter79) (hT2) ?_ (hA2 _ (by show upd _ _ _ _ = _; rw [upd_ne _ _ (nmk1 _)]; exact (unL_st hnd).1) (by show upd _ _ _ _ = _; rw [upd_ne _ _ (nmk1 _)]; exact (unL_st hnd).2) (by show upd _ _ _ _ = _; rw [upd_self])) (Fr.rfl' _ _) (by first | assumption | exact List.cons_ne_nil _ _) ?_); (focus first | ((repeat (first | exact trivial | refine ⟨(by first | exact Or.inl rfl | exact Or.inr rfl), ?_⟩)); done) | (simp only [coL, AV.dat, true_or, or_true, AV.d.injEq, go_sem]; done)); simp only [go_sem, hz2, decide_false, effRange, okRange, eo1, eo2]) | refine And.intro (by first | ((repeat' first | omega | exact trivial | rfl | assumption | (intro a e; subst e; rfl) | exact map_sz fun a => (by simp only [go_sem]) | refine And.intro ?_ ?_); done) | fail) ?_ | fail)
  refine awp_loopN (fun j σ => σ.t 7 = .ptr (k + 1, 2) 0 ∧ σ.t 8 = .map (k + 1 + 1 + 1, 0) ∧ σ.t 9 = bA false ∧ σ.t 33 = .ptr (k + 1 + 1 + 1 + 1 + 1, 4) 0 ∧ σ.h (k + 1, 2) = some (.cells 122 [.map (k + 1, 0)]) ∧ σ.h (k + 1, 0) = some (.map (bsE [p])) ∧ Fr k h0 σ.h ∧ k + 1 + 1 + 1 + 1 + 1 < σ.k ∧
    ((j = 1 ∧ σ.h (k + 1 + 1 + 1, 0) = some (.map (knE kn0)) ∧ σ.h (k + 1 + 1 + 1 + 1 + 1, 4) = some (.iter (k + 1, 0) 1 [])) ∨ (j = 0 ∧ σ.h (k + 1 + 1 + 1, 0) = some (.map (knE kn1)) ∧ σ.h (k + 1 + 1 + 1 + 1 + 1, 4) = some (.iter (k + 1, 0) 1 [0])))) ?_ ?_
  · refine ⟨1, ?_, ?_, ?_, ?_, ?_, ?_, ?_, ?_, .inl ⟨rfl, ?_, ?_⟩⟩
    · simp only [go_sem, ]
    · simp only [go_sem, ]
    · simp only [go_sem, ]
    · simp only [go_sem, ]
    · simp only [go_sem, eo1]
    · simp only [go_sem, eo2]
    · exact (by repeat (first | exact Fr.rfl' _ _ | assumption | refine Fr.updk ?_ (by omega) _ | refine Fr.stH ?_ _ (by intro n hn; simp only [List.mem_cons, List.not_mem_nil, or_false] at hn; rcases hn with rfl | rfl | rfl <;> (simp only; omega)) | refine Fr.stH ?_ _ (by intro n hn; simp only [List.mem_cons, List.not_mem_nil, or_false] at hn; rcases hn with rfl | rfl <;> (simp only; omega))))
    · show k + 1 + 1 + 1 + 1 + 1 < k + 1 + 1 + 1 + 1 + 1 + 1; omega
    · simp only [go_sem, eo3]
    · simp only [go_sem, eo1, eo2]; rfl
  · rintro j σ ⟨s7, s8, s9, s33, su, sm, hF, hk, hc⟩
    have l1 := ltne (show k + 1 < σ.k by omega)
    have l3 := ltne (show k + 1 + 1 + 1 < σ.k by omega)
    have l5 := ltne hk
    have hz3 : ¬ s1 > 120 := by omega
    rcases hc with ⟨rfl, sk, sI⟩ | ⟨rfl, sk, sI⟩
    · have hT3 := usize_tri (k + 1, 2) (k + 1, 0) (k + 1 + 1 + 1, 0) hnd3 [p] n p.2 kn0 _ hk1 h3
      have hA3 : ∀ h : Heap, h (k + 1, 2) = some (.cells 122 [.map (k + 1, 0)]) → h (k + 1, 0) = some (.map (bsE [p])) → h (k + 1 + 1 + 1, 0) = some (.map (knE kn0)) → Ag (k + 1 + 1 + 1 + 1) [(k + 1, 2), (k + 1, 0), (k + 1 + 1 + 1, 0)] (oL (szL (k + 1, 2) (k + 1, 0) (k + 1 + 1 + 1, 0) [p] kn0)) h := fun h e1 e2 e3 => szL_ag hnd3 (by simp only; omega) (by simp only; omega) (by simp only; omega) e1 e2 e3
      refine awp_seq_k fun K hK => ?_
      refine awp_next_k (by kernel_rfl) s33 sI sm rfl fun R hR => ⟨fun hall => absurd (hall 0 (by simp [bsE])) (by simp), fun i hi hns => ?_⟩
      obtain rfl : i = 0 := by simp [bsE] at hi; exact hi
      simp only [go_sem, comesE]
      repeat' (first | refine awp_seq_k fun K hK => ?_ | ((first | refine awp_region_k (by kernel_rfl) fun R hR => ?_ | refine awp_draw mixed (by kernel_rfl) (by kernel_rfl) fun R hR => ?_); simp only [go_sem, s7, s8, s9, s33, su, sm, sk, l1, l3, l5, hz3, decide_false, effEntry, okEntry, bsE, List.map_cons, List.map_nil, List.getLast?_singleton, Option.getD_some, List.getD_cons_zero]) | ((first | (refine hR _ ?_; clear hR R) | refine awp_skip ?_ | refine awp_exit ?_ | refine awp_ret ?_); try simp only [thenA, inBlockA, reduceIte, reduceCtorEq, Nat.reduceEqDiff, if_false, if_true]) | ((first | refine hK _ ?_ | (clear hK K; first | refine hK _ ?_ | (clear hK K; first | refine hK _ ?_ | (clear hK K; first | refine hK _ ?_ | (clear hK K; refine hK _ ?_))))); clear hK K) | refine awp_true rfl rfl ?_ | refine awp_false rfl rfl ?_ | refine awp_block ?_ | ((first | refine CallK.chg (enter79) (hT3) ?_ (hA3 _ (by simp only [go_sem, su, l1]) (by simp only [go_sem, sm, l1]) (by simp only [go_sem, sk, l3])) (Fr.rfl' _ _) ?_ | refine CallD.chg (enter79) (hT3) ?_ (hA3 _ (by simp only [go_sem, su, l1]) (by simp only [go_sem, sm, l1]) (by simp only [go_sem, sk, l3])) (Fr.rfl' _ _) (by first | assumption | exact List.cons_ne_nil _ _) ?_); (focus first | ((repeat (first | exact trivial | refine ⟨(by first | exact Or.inl rfl | exact Or.inr rfl), ?_⟩)); done) | (simp only [coL, AV.dat, true_or, or_true, AV.d.injEq, go_sem]; done)); simp only [go_sem, s7, s8, s9, s33, su, sm, sk, l1, l3, l5, hz3, decide_false, effEntry, okEntry, bsE, List.map_cons, List.map_nil, List.getLast?_singleton, Option.getD_some, List.getD_cons_zero]) | refine And.intro (by first | ((repeat' first | omega | exact trivial | rfl | assumption | (intro a e; subst e; rfl) | exact map_sz fun a => (by simp only [go_sem]) | refine And.intro ?_ ?_); done) | fail) ?_ | fail)
      refine ⟨0, Nat.zero_lt_one, ?_, ?_, ?_, ?_, ?_, ?_, ?_, ?_, .inr ⟨rfl, ?_, ?_⟩⟩
      · simp only [go_sem, s7]
      · simp only [go_sem, s8]
      · simp only [go_sem, ]
      · simp only [go_sem, s33]
      · simp only [go_sem, eo1]
      · simp only [go_sem, eo2]
      · exact (by repeat (first | exact Fr.rfl' _ _ | assumption | refine Fr.updk ?_ (by omega) _ | refine Fr.stH ?_ _ (by intro n hn; simp only [List.mem_cons, List.not_mem_nil, or_false] at hn; rcases hn with rfl | rfl | rfl <;> (simp only; omega)) | refine Fr.stH ?_ _ (by intro n hn; simp only [List.mem_cons, List.not_mem_nil, or_false] at hn; rcases hn with rfl | rfl <;> (simp only; omega))))
      · show k + 1 + 1 + 1 + 1 + 1 < σ.k + 1 + 1 + 1; omega
      · simp only [go_sem, eo3]
      · simp only [go_sem, l5]
    · refine awp_seq_k fun K hK => ?_
      refine awp_next_k (by kernel_rfl) s33 sI sm rfl fun R hR => ⟨fun hall => ?_, fun i hi hns => absurd hns (by simp [bsE] at hi; subst hi; simp)⟩
      simp only [go_sem, endE]
      repeat' (first | refine awp_seq_k fun K hK => ?_ | ((first | refine awp_region_k (by kernel_rfl) fun R hR => ?_ | refine awp_draw mixed (by kernel_rfl) (by kernel_rfl) fun R hR => ?_); simp only [go_sem, s7, s8, s9, su, sm, l1, l3, effRange, okRange]) | ((first | (refine hR _ ?_; clear hR R) | refine awp_skip ?_ | refine awp_exit ?_ | refine awp_ret ?_); try simp only [thenA, inBlockA, reduceIte, reduceCtorEq, Nat.reduceEqDiff, if_false, if_true]) | ((first | refine hK _ ?_ | (clear hK K; first | refine hK _ ?_ | (clear hK K; first | refine hK _ ?_ | (clear hK K; first | refine hK _ ?_ | (clear hK K; refine hK _ ?_))))); clear hK K) | refine awp_true rfl rfl ?_ | refine awp_false rfl rfl ?_ | refine awp_block ?_ | refine And.intro (by first | ((repeat' first | omega | exact trivial | rfl | assumption | (intro a e; subst e; rfl) | exact map_sz fun a => (by simp only [go_sem]) | refine And.intro ?_ ?_); done) | fail) ?_ | fail)
      have hT4 := through_tri (k + 1, 2) (k + 1, 0) [p] (fun q hq => by simp at hq; subst hq; exact hp) n p.2 hp h4
      refine awp_loopN (fun j τ => τ.t 7 = .ptr (k + 1, 2) 0 ∧ τ.t 12 = .map (σ.k + 1 + 1, 0) ∧ τ.t 52 = .ptr (σ.k + 1 + 1 + 1, 4) 0 ∧ τ.h (k + 1, 2) = some (.cells 122 [.map (k + 1, 0)]) ∧ τ.h (k + 1, 0) = some (.map (bsE [p])) ∧ Fr k h0 τ.h ∧ σ.k + 1 + 1 + 1 < τ.k ∧
        ((j = 1 ∧ τ.h (σ.k + 1 + 1, 0) = some (.map []) ∧ τ.h (σ.k + 1 + 1 + 1, 4) = some (.iter (k + 1, 0) 1 [])) ∨ (j = 0 ∧ τ.h (σ.k + 1 + 1, 0) = some (.map (bsE [(p.1, thruT n [p] p.2)])) ∧ τ.h (σ.k + 1 + 1 + 1, 4) = some (.iter (k + 1, 0) 1 [0])))) ?_ ?_
      · refine ⟨1, ?_, ?_, ?_, ?_, ?_, ?_, ?_, .inl ⟨rfl, ?_, ?_⟩⟩
        · simp only [go_sem, s7]
        · simp only [go_sem, ]
        · simp only [go_sem, ]
        · simp only [go_sem, su, l1]
        · simp only [go_sem, sm, l1]
        · exact (by repeat (first | exact Fr.rfl' _ _ | assumption | refine Fr.updk ?_ (by omega) _))
        · show σ.k + 1 + 1 + 1 < σ.k + 1 + 1 + 1 + 1; omega
        · simp only [go_sem, ]
        · simp only [go_sem, sm, l1]; rfl
      · rintro j τ ⟨t7, t12, t52, tu, tm, tF, tk, tc⟩
        have m1 := ltne (show k + 1 < τ.k by omega)
        have m2 := ltne (show σ.k + 1 + 1 < τ.k by omega)
        have m3 := ltne tk
        rcases tc with ⟨rfl, to, tI⟩ | ⟨rfl, to, tI⟩
        · refine awp_seq_k fun K hK => ?_
          refine awp_next_k (by kernel_rfl) t52 tI tm rfl fun R hR => ⟨fun hall => absurd (hall 0 (by simp [bsE])) (by simp), fun i hi hns => ?_⟩
          obtain rfl : i = 0 := by simp [bsE] at hi; exact hi
          simp only [go_sem, comesE]
          repeat' (first | refine awp_seq_k fun K hK => ?_ | ((first | refine awp_region_k (by kernel_rfl) fun R hR => ?_ | refine awp_draw mixed (by kernel_rfl) (by kernel_rfl) fun R hR => ?_); simp only [go_sem, t7, t12, t52, tu, tm, to, l1, m1, m2, m3, effEntry, okEntry, bsE, putM, AV.toD, List.map_cons, List.map_nil, List.getLast?_singleton, Option.getD_some, List.getD_cons_zero]) | ((first | (refine hR _ ?_; clear hR R) | refine awp_skip ?_ | refine awp_exit ?_ | refine awp_ret ?_); try simp only [thenA, inBlockA, reduceIte, reduceCtorEq, Nat.reduceEqDiff, if_false, if_true]) | ((first | refine hK _ ?_ | (clear hK K; first | refine hK _ ?_ | (clear hK K; first | refine hK _ ?_ | (clear hK K; first | refine hK _ ?_ | (clear hK K; refine hK _ ?_))))); clear hK K) | refine awp_true rfl rfl ?_ | refine awp_false rfl rfl ?_ | refine awp_block ?_ | ((first | refine CallK.look (enter80) (hT4) ?_ (unR_ok (k := τ.k) (by simp only; omega) (by simp only; omega) (by simp only [go_sem, tu, m1, l1]) (by simp only [go_sem, tm, m1, l1])) (Fr.rfl' _ _) ?_ | refine CallD.look (enter80) (hT4) ?_ (unR_ok (k := τ.k) (by simp only; omega) (by simp only; omega) (by simp only [go_sem, tu, m1, l1]) (by simp only [go_sem, tm, m1, l1])) (Fr.rfl' _ _) (by first | assumption | exact List.cons_ne_nil _ _) ?_); (focus first | ((repeat (first | exact trivial | refine ⟨(by first | exact Or.inl rfl | exact Or.inr rfl), ?_⟩)); done) | (simp only [coL, AV.dat, true_or, or_true, AV.d.injEq, go_sem]; done)); simp only [go_sem, t7, t12, t52, tu, tm, to, l1, m1, m2, m3, effEntry, okEntry, bsE, putM, AV.toD, List.map_cons, List.map_nil, List.getLast?_singleton, Option.getD_some, List.getD_cons_zero]) | refine And.intro (by first | ((repeat' first | omega | exact trivial | rfl | assumption | (intro a e; subst e; rfl) | exact map_sz fun a => (by simp only [go_sem]) | refine And.intro ?_ ?_); done) | fail) ?_ | fail)
          refine ⟨0, Nat.zero_lt_one, ?_, ?_, ?_, ?_, ?_, ?_, ?_, .inr ⟨rfl, ?_, ?_⟩⟩
          · simp only [go_sem, t7]
          · simp only [go_sem, t12]
          · simp only [go_sem, t52]
          · simp only [go_sem, tu, m1, l1]
          · simp only [go_sem, tm, m1, l1]
          · exact (by repeat (first | exact Fr.rfl' _ _ | assumption | refine Fr.updk ?_ (by omega) _))
          · show σ.k + 1 + 1 + 1 < τ.k + 1 + 1 + 1; omega
          · simp only [go_sem, m2]; rfl
          · simp only [go_sem, m3]
        · refine awp_seq_k fun K hK => ?_
          refine awp_next_k (by kernel_rfl) t52 tI tm rfl fun R hR => ⟨fun hall => ?_, fun i hi hns => absurd hns (by simp [bsE] at hi; subst hi; simp)⟩
          simp only [go_sem, endE]
          repeat' (first | refine awp_seq_k fun K hK => ?_ | ((first | refine awp_region_k (by kernel_rfl) fun R hR => ?_ | refine awp_draw mixed (by kernel_rfl) (by kernel_rfl) fun R hR => ?_); simp only [go_sem, t12, to]) | ((first | (refine hR _ ?_; clear hR R) | refine awp_skip ?_ | refine awp_exit ?_ | refine awp_ret ?_); try simp only [thenA, inBlockA, reduceIte, reduceCtorEq, Nat.reduceEqDiff, if_false, if_true]) | ((first | refine hK _ ?_ | (clear hK K; first | refine hK _ ?_ | (clear hK K; first | refine hK _ ?_ | (clear hK K; first | refine hK _ ?_ | (clear hK K; refine hK _ ?_))))); clear hK K) | refine awp_true rfl rfl ?_ | refine awp_false rfl rfl ?_ | refine awp_block ?_ | refine And.intro (by first | ((repeat' first | omega | exact trivial | rfl | assumption | (intro a e; subst e; rfl) | exact map_sz fun a => (by simp only [go_sem]) | refine And.intro ?_ ?_); done) | fail) ?_ | fail)
          refine ret_mapE (q := (σ.k + 1 + 1, 0)) (by simp only [Try.results46, resOkL, resOk, Try.ntmps46, List.toList_toArray]; decide) (by simp only [resA, resV, Try.results46, go_sem]; rfl) (Co.t3 (.map rfl) (.dat rfl) (.dat rfl)) (by simp only; omega) hn1 hn2 ?_ ?_
          · simp only [go_sem, to, m2]
          · exact (by repeat (first | exact Fr.rfl' _ _ | assumption | refine Fr.updk ?_ (by omega) _))
end Go.Proofs.Ytmeekpinkfpnhab
namespace Go.Proofs
open Go.Shelf
def YtmeekpinkfpnhabbitsLen_ren : Go.Shelf.Ren := ⟨fun | 125 => 106 | 128 => 135 | 129 => 136 | n => n, fun | 46 => 148 | 3 => 3 | 51 => 179 | 53 => 181 | 4 => 4 | 5 => 5 | 9 => 9 | n => n, fun | n => n⟩
theorem YtmeekpinkfpnhabbitsLen : Go.Proofs.Lays.n125 Try.prog YtmeekpinkfpnhabbitsLen_ren := {
  mixed := by kernel_rfl
  f125 := Try.func106.trans (congrArg some (by kernel_rfl))
  f128 := Try.func135.trans (congrArg some (by kernel_rfl))
  f129 := Try.func136.trans (congrArg some (by kernel_rfl))
  t3 := Try.underlying3
  a3 := Try.isAgg3
  z3 := Try.sizeOf3
  v3 := Try.zeroValue3
  t4 := Try.underlying4
  a4 := Try.isAgg4
  z4 := Try.sizeOf4
  v4 := Try.zeroValue4
  t5 := Try.underlying5
  a5 := Try.isAgg5
  z5 := Try.sizeOf5
  v5 := Try.zeroValue5
  t9 := Try.underlying9
  a9 := Try.isAgg9
  z9 := Try.sizeOf9
  v9 := Try.zeroValue9
  t46 := Try.underlying148
  a46 := Try.isAgg148
  z46 := Try.sizeOf148
  v46 := Try.zeroValue148
  t51 := Try.underlying179
  a51 := Try.isAgg179
  z51 := Try.sizeOf179
  v51 := Try.zeroValue179
  t53 := Try.underlying181
  a53 := Try.isAgg181
  z53 := Try.sizeOf181
  v53 := Try.zeroValue181 }
end Go.Proofs
namespace Go.Proofs.Ytmeekpinkfpnhab
open Go.RowKit Go.Shelf
set_option maxHeartbeats 1000000 in
set_option maxRecDepth 20000 in
theorem ins1_tri (x f : AV) (n : Int) (hn : n ≤ 1) : Tri Try.prog 127 [x, iA 0, iA n, f] (pure' .junk) := by
  refine tri_enter Try.func127 rfl Try.ntmps127 (by simp only [List.length_cons, List.length_nil]; omega) fun w0 h0 k hrd hwr => ?_
  repeat' (first | refine awp_seq_k fun K hK => ?_ | ((first | refine awp_region_k (by kernel_rfl) fun R hR => ?_ | refine awp_draw mixed (by kernel_rfl) (by kernel_rfl) fun R hR => ?_); simp only [go_sem]) | ((first | (refine hR _ ?_; clear hR R) | refine awp_skip ?_ | refine awp_exit ?_ | refine awp_ret ?_); try simp only [thenA, inBlockA, reduceIte, reduceCtorEq, Nat.reduceEqDiff, if_false, if_true]) | ((first | refine hK _ ?_ | (clear hK K; first | refine hK _ ?_ | (clear hK K; first | refine hK _ ?_ | (clear hK K; first | refine hK _ ?_ | (clear hK K; refine hK _ ?_))))); clear hK K) | refine awp_true rfl rfl ?_ | refine awp_false rfl rfl ?_ | refine awp_block ?_ | refine And.intro (by first | ((repeat' first | omega | exact trivial | rfl | assumption | (intro a e; subst e; rfl) | exact map_sz fun a => (by simp only [go_sem]) | refine And.intro ?_ ?_); done) | fail) ?_ | fail)
  refine awp_loop (fun σ => σ.t 2 = iA n ∧ σ.t 8 = iA 1 ∧ Fr k h0 σ.h) (fun _ => 0) ?_ ?_
  · simp only [go_sem, ]
    and_intros; all_goals try (first | rfl | omega | assumption | ((repeat (first | exact Fr.rfl' _ _ | assumption | refine Fr.updk ?_ (by omega) _)); done))
  · rintro σ ⟨s2, s8, hF⟩
    have hz : ¬ ((1 : Int) < n) := by omega
    repeat' (first | refine awp_seq_k fun K hK => ?_ | ((first | refine awp_region_k (by kernel_rfl) fun R hR => ?_ | refine awp_draw mixed (by kernel_rfl) (by kernel_rfl) fun R hR => ?_); simp only [go_sem, s2, s8, hz]) | ((first | (refine hR _ ?_; clear hR R) | refine awp_skip ?_ | refine awp_exit ?_ | refine awp_ret ?_); try simp only [thenA, inBlockA, reduceIte, reduceCtorEq, Nat.reduceEqDiff, if_false, if_true]) | ((first | refine hK _ ?_ | (clear hK K; first | refine hK _ ?_ | (clear hK K; first | refine hK _ ?_ | (clear hK K; first | refine hK _ ?_ | (clear hK K; refine hK _ ?_))))); clear hK K) | refine awp_true rfl rfl ?_ | refine awp_false rfl rfl ?_ | refine awp_block ?_ | refine And.intro (by first | ((repeat' first | omega | exact trivial | rfl | assumption | (intro a e; subst e; rfl) | exact map_sz fun a => (by simp only [go_sem]) | refine And.intro ?_ ?_); done) | fail) ?_ | fail)
    exact (ret_pure (by simp only [Try.results127, resOkL]) .junk (by repeat (first | exact Fr.rfl' _ _ | assumption | refine Fr.updk ?_ (by omega) _)) : RetOK Try.prog Try.f127 (pure' .junk) h0 k _).2
set_option maxHeartbeats 1000000 in
set_option maxRecDepth 20000 in
theorem pdq1_tri (x f : AV) (n l : Int) (hn : n ≤ 1) (hn0 : 0 ≤ n) : Tri Try.prog 105 [x, iA 0, iA n, iA l, f] (pure' .junk) := by
  have hT := ins1_tri x f n hn
  refine tri_enter Try.func105 rfl Try.ntmps105 (by simp only [List.length_cons, List.length_nil]; omega) fun w0 h0 k hrd hwr => ?_
  repeat' (first | refine awp_seq_k fun K hK => ?_ | ((first | refine awp_region_k (by kernel_rfl) fun R hR => ?_ | refine awp_draw mixed (by kernel_rfl) (by kernel_rfl) fun R hR => ?_); simp only [go_sem]) | ((first | (refine hR _ ?_; clear hR R) | refine awp_skip ?_ | refine awp_exit ?_ | refine awp_ret ?_); try simp only [thenA, inBlockA, reduceIte, reduceCtorEq, Nat.reduceEqDiff, if_false, if_true]) | ((first | refine hK _ ?_ | (clear hK K; first | refine hK _ ?_ | (clear hK K; first | refine hK _ ?_ | (clear hK K; first | refine hK _ ?_ | (clear hK K; refine hK _ ?_))))); clear hK K) | refine awp_true rfl rfl ?_ | refine awp_false rfl rfl ?_ | refine awp_block ?_ | refine And.intro (by first | ((repeat' first | omega | exact trivial | rfl | assumption | (intro a e; subst e; rfl) | exact map_sz fun a => (by simp only [go_sem]) | refine And.intro ?_ ?_); done) | fail) ?_ | fail)
  refine awp_loop (fun σ => σ.t 0 = x ∧ σ.t 1 = iA 0 ∧ σ.t 2 = iA n ∧ σ.t 4 = f ∧ σ.h = h0) (fun _ => 0) ?_ ?_
  · simp only [go_sem, ]
    and_intros; all_goals try (first | rfl | omega | assumption | ((repeat (first | exact Fr.rfl' _ _ | assumption | refine Fr.updk ?_ (by omega) _)); done))
  · rintro σ ⟨s0, s1, s2, s4, sh⟩
    have hF : Fr k h0 σ.h := by rw [sh]; exact Fr.rfl' _ _
    have hz : n ≤ 12 := by omega
    repeat' (first | refine awp_seq_k fun K hK => ?_ | ((first | refine awp_region_k (by kernel_rfl) fun R hR => ?_ | refine awp_draw mixed (by kernel_rfl) (by kernel_rfl) fun R hR => ?_); simp only [go_sem, s0, s1, s2, s4, hz, Int.sub_zero]) | ((first | (refine hR _ ?_; clear hR R) | refine awp_skip ?_ | refine awp_exit ?_ | refine awp_ret ?_); try simp only [thenA, inBlockA, reduceIte, reduceCtorEq, Nat.reduceEqDiff, if_false, if_true]) | ((first | refine hK _ ?_ | (clear hK K; first | refine hK _ ?_ | (clear hK K; first | refine hK _ ?_ | (clear hK K; first | refine hK _ ?_ | (clear hK K; refine hK _ ?_))))); clear hK K) | refine awp_true rfl rfl ?_ | refine awp_false rfl rfl ?_ | refine awp_block ?_ | ((first | refine CallK.pure (enter127) (hT) ?_ ?_ | refine CallD.pure (enter127) (hT) ?_ ?_); (focus first | ((repeat (first | exact trivial | refine ⟨(by first | exact Or.inl rfl | exact Or.inr rfl), ?_⟩)); done) | (simp only [coL, AV.dat, true_or, or_true, AV.d.injEq, go_sem]; done)); simp only [go_sem, s0, s1, s2, s4, hz, Int.sub_zero]) | refine And.intro (by first | ((repeat' first | omega | exact trivial | rfl | assumption | (intro a e; subst e; rfl) | exact map_sz fun a => (by simp only [go_sem]) | refine And.intro ?_ ?_); done) | fail) ?_ | fail)
    exact (ret_pure (by simp only [Try.results105, resOkL]) .junk (by repeat (first | exact Fr.rfl' _ _ | assumption | refine Fr.updk ?_ (by omega) _)) : RetOK Try.prog Try.f105 (pure' .junk) h0 k _).2
set_option maxHeartbeats 1000000 in
set_option maxRecDepth 20000 in
theorem sort1_tri (xs : List DV) (f : AV) (hx : xs.length ≤ 1) : Tri Try.prog 76 [.d (.sl xs), f] (pure' .junk) := by
  intro w0 h k m β w cargs H hrd hwr hsz hargs
  obtain ⟨v, fv, rfl⟩ : ∃ v fv, cargs = #[v, fv] := by
    obtain ⟨l⟩ := cargs
    match l, hsz with
    | [v, fv], _ => exact ⟨v, fv, rfl⟩
  have hv := hargs 0 v (.d (.sl xs)) (by simp) (by simp)
  have hf := hargs 1 fv f (by simp) (by simp)
  obtain ⟨a, cap, rfl⟩ : ∃ a cap, v = .slice a xs.length cap := by
    cases hv with
    | d hd =>
      generalize hy : DV.sl xs = y at hd
      cases hd with
      | nil => cases hy; exact ⟨_, _, rfl⟩
      | sl q1 => cases hy; subst q1; exact ⟨_, _, rfl⟩
      | _ => cases hy
  have hP : ∀ l : Int, Calls Try.prog 105 #[.slice a xs.length cap, .int .i64 0, .int .i64 xs.length, .int .i64 l, fv] w fun en w' => ∃ v m' β', en = .returned v ∧ m.le m' ∧ β.le β' ∧ (∀ n, (∀ x ∈ (pure' AV.junk).wr, x.1 ≠ n) → β n = none → β' n = none) ∧ HRel Try.prog w0 ((pure' AV.junk).ap h) k m' β' w' ∧ R m' β' v .junk := fun l =>
    pdq1_tri (.d (.sl xs)) f xs.length l (by omega) (by omega) w0 h k m β w _ H (fun x hx => by cases hx) (fun x hx => by cases hx) rfl fun i v b hi hb => by
      match i, hi, hb with
      | 0, hi, hb => simp at hi hb; subst hi; subst hb; exact hv
      | 1, hi, hb => simp at hi hb; subst hi; subst hb; exact .d (.v rfl)
      | 2, hi, hb => simp at hi hb; subst hi; subst hb; exact .d (.v rfl)
      | 3, hi, hb => simp at hi hb; subst hi; subst hb; exact .d (.v rfl)
      | 4, hi, hb => simp at hi hb; subst hi; subst hb; exact hf
      | i + 5, hi, hb => simp at hi
  have hB : ∀ W : World, Calls Try.prog 106 #[.int .u64 (xs.length : Int)] W fun e w' => e = .returned (.int .i64 (Lib.bitLen (xs.length : Int).toNat)) ∧ w' = W := fun W => Any.bits_Len YtmeekpinkfpnhabbitsLen xs.length W (by omega) (by omega)
  have hq0 : (0 : Int) ≤ xs.length := by omega
  have hq1 : (xs.length : Int) ≤ 1 := by omega
  go_enter Try.func76, Try.ntmps76
  go_wp2_with fail
  refine (hB _).mono ?_
  rintro e w' ⟨rfl, rfl⟩
  go_wp2_with fail
  refine (hP _).mono ?_
  rintro e w' ⟨v, m', β', rfl, p1, p2, p3, p4, p5⟩
  go_wp2_with fail
  go_end0
  exact ⟨_, m', β', rfl, p1, p2, p3, p4, .junk⟩
end Go.Proofs.Ytmeekpinkfpnhab
namespace Go.Proofs.Ytmeekpinkfpnhab
open Go.RowKit
set_option maxHeartbeats 2000000 in
set_option maxRecDepth 20000 in
theorem list1_tri (mm : Nm) (p : Int × Tm) (hp : p.2.size ≤ 4000000) : Tri Try.prog 45 [.map mm] (rdE [(mm, .map (bsE [p]))] (.d (.sl [bdDV p]))) := by
  refine tri_enter_ro Try.func45 rfl Try.ntmps45 (by simp only [List.length_cons, List.length_nil]; omega) fun w0 h0 k hro => ?_
  obtain ⟨n1, em⟩ := hro.get (mm, .map (bsE [p])) (by simp)
  have q1 := nmne n1
  repeat' (first | refine awp_seq_k fun K hK => ?_ | ((first | refine awp_region_k (by kernel_rfl) fun R hR => ?_ | refine awp_draw mixed (by kernel_rfl) (by kernel_rfl) fun R hR => ?_); simp only [go_sem, em, q1, effRange, okRange]) | ((first | (refine hR _ ?_; clear hR R) | refine awp_skip ?_ | refine awp_exit ?_ | refine awp_ret ?_); try simp only [thenA, inBlockA, reduceIte, reduceCtorEq, Nat.reduceEqDiff, if_false, if_true]) | ((first | refine hK _ ?_ | (clear hK K; first | refine hK _ ?_ | (clear hK K; first | refine hK _ ?_ | (clear hK K; first | refine hK _ ?_ | (clear hK K; refine hK _ ?_))))); clear hK K) | refine awp_true rfl rfl ?_ | refine awp_false rfl rfl ?_ | refine awp_block ?_ | refine And.intro (by first | ((repeat' first | omega | exact trivial | rfl | assumption | (intro a e; subst e; rfl) | exact map_sz fun a => (by simp only [go_sem]) | refine And.intro ?_ ?_); done) | fail) ?_ | fail)
  refine awp_loopN (fun j σ => σ.t 7 = .ptr (k + 1 + 1, 1) 0 ∧ Fr k h0 σ.h ∧ k + 1 + 1 < σ.k ∧
    ((j = 1 ∧ σ.t 3 = .nil ∧ σ.h (k + 1 + 1, 1) = some (.iter mm 1 [])) ∨ (j = 0 ∧ (∃ nm, σ.t 3 = .own nm [bdDV p]) ∧ σ.h (k + 1 + 1, 1) = some (.iter mm 1 [0])))) ?_ ?_
  · refine ⟨1, ?_⟩
    simp only [go_sem, ]
    and_intros; all_goals try (first | rfl | omega | assumption | ((repeat (first | exact Fr.rfl' _ _ | assumption | refine Fr.updk ?_ (by omega) _)); done))
    exact .inl rfl
  · rintro j σ ⟨s7, hF, hk, hc⟩
    have em' : σ.h mm = some (.map (bsE [p])) := (hF mm n1).trans em
    have hne := ltne hk
    have q3 := nmne (b := σ.k) (Nat.lt_trans n1 (show k < σ.k by omega))
    rcases hc with ⟨rfl, s3, sI⟩ | ⟨rfl, ⟨nm, s3⟩, sI⟩
    · refine awp_seq_k fun K hK => ?_
      refine awp_next_k (by kernel_rfl) s7 sI em' rfl fun R hR => ⟨fun hall => absurd (hall 0 (by simp [bsE])) (by simp), fun i hi hns => ?_⟩
      obtain rfl : i = 0 := by simp [bsE] at hi; exact hi
      simp only [go_sem, comesE]
      repeat' (first | refine awp_seq_k fun K hK => ?_ | ((first | refine awp_region_k (by kernel_rfl) fun R hR => ?_ | refine awp_draw mixed (by kernel_rfl) (by kernel_rfl) fun R hR => ?_); simp only [go_sem, s3, s7, em', hne, q1, q3, effEntry, okEntry, bsE, List.map_cons, List.map_nil, List.getLast?_singleton, Option.getD_some, List.getD_cons_zero]) | ((first | (refine hR _ ?_; clear hR R) | refine awp_skip ?_ | refine awp_exit ?_ | refine awp_ret ?_); try simp only [thenA, inBlockA, reduceIte, reduceCtorEq, Nat.reduceEqDiff, if_false, if_true]) | ((first | refine hK _ ?_ | (clear hK K; first | refine hK _ ?_ | (clear hK K; first | refine hK _ ?_ | (clear hK K; first | refine hK _ ?_ | (clear hK K; refine hK _ ?_))))); clear hK K) | refine awp_true rfl rfl ?_ | refine awp_false rfl rfl ?_ | refine awp_block ?_ | ((first | refine CallK.pure (enter56) (copied_tri p.2 hp) ?_ ?_ | refine CallD.pure (enter56) (copied_tri p.2 hp) ?_ ?_); (focus first | ((repeat (first | exact trivial | refine ⟨(by first | exact Or.inl rfl | exact Or.inr rfl), ?_⟩)); done) | (simp only [coL, AV.dat, true_or, or_true, AV.d.injEq, go_sem]; done)); simp only [go_sem, s3, s7, em', hne, q1, q3, effEntry, okEntry, bsE, List.map_cons, List.map_nil, List.getLast?_singleton, Option.getD_some, List.getD_cons_zero]) | refine And.intro (by first | ((repeat' first | omega | exact trivial | rfl | assumption | (intro a e; subst e; rfl) | exact map_sz fun a => (by simp only [go_sem]) | refine And.intro ?_ ?_); done) | fail) ?_ | fail)
      refine ⟨0, Nat.zero_lt_one, ?_, (by repeat (first | exact Fr.rfl' _ _ | assumption | refine Fr.updk ?_ (by omega) _)), ?_, .inr ⟨rfl, ⟨(σ.k + 1 + 1, 6), ?_⟩, ?_⟩⟩
      · simp only [go_sem, s7]
      · show k + 1 + 1 < σ.k + 1 + 1 + 1; omega
      · simp only [go_sem, s3, hne]; rfl
      · simp only [go_sem, hne]
    · refine awp_seq_k fun K hK => ?_
      refine awp_next_k (by kernel_rfl) s7 sI em' rfl fun R hR => ⟨fun hall => ?_, fun i hi hns => absurd hns (by simp [bsE] at hi; subst hi; simp)⟩
      simp only [go_sem, endE]
      repeat' (first | refine awp_seq_k fun K hK => ?_ | ((first | refine awp_region_k (by kernel_rfl) fun R hR => ?_ | refine awp_draw mixed (by kernel_rfl) (by kernel_rfl) fun R hR => ?_); simp only [go_sem, s3]) | ((first | (refine hR _ ?_; clear hR R) | refine awp_skip ?_ | refine awp_exit ?_ | refine awp_ret ?_); try simp only [thenA, inBlockA, reduceIte, reduceCtorEq, Nat.reduceEqDiff, if_false, if_true]) | ((first | refine hK _ ?_ | (clear hK K; first | refine hK _ ?_ | (clear hK K; first | refine hK _ ?_ | (clear hK K; first | refine hK _ ?_ | (clear hK K; refine hK _ ?_))))); clear hK K) | refine awp_true rfl rfl ?_ | refine awp_false rfl rfl ?_ | refine awp_block ?_ | ((first | refine CallK.pure (enter76) (sort1_tri [bdDV p] (.fn (.func 77) [] []) (by simp)) ?_ ?_ | refine CallD.pure (enter76) (sort1_tri [bdDV p] (.fn (.func 77) [] []) (by simp)) ?_ ?_); (focus first | ((repeat (first | exact trivial | refine ⟨(by first | exact Or.inl rfl | exact Or.inr rfl), ?_⟩)); done) | (simp only [coL, AV.dat, true_or, or_true, AV.d.injEq, go_sem]; done)); simp only [go_sem, s3]) | refine And.intro (by first | ((repeat' first | omega | exact trivial | rfl | assumption | (intro a e; subst e; rfl) | exact map_sz fun a => (by simp only [go_sem]) | refine And.intro ?_ ?_); done) | fail) ?_ | fail)
      (first | refine ret_pure ?_ ?_ ?_ | refine ret_ro ?_ ?_ ?_); focus exact (by simp only [Try.results45, resOkL, resOk, Try.ntmps45, List.toList_toArray]; first | decide | (simp only [go_sem, s3]; done) | (simp only [go_sem, s3]; and_intros <;> first | omega | rfl | decide))
      rotate_left; focus exact (by repeat (first | exact Fr.rfl' _ _ | assumption | refine Fr.updk ?_ (by omega) _))
      simp only [resA, resV, Try.results45, go_sem, s3]
      all_goals try (first | exact Co.t2 (.dat rfl) (.dat rfl) | exact Co.t3 (.dat rfl) (.dat rfl) (.dat rfl))
      all_goals exact .dat rfl
end Go.Proofs.Ytmeekpinkfpnhab
namespace Go.Proofs.Ytmeekpinkfpnhab
theorem any_same {α : Type} {f g : α → Bool} : ∀ {l : List α}, (∀ x ∈ l, f x = g x) → l.any f = l.any g
  | [], _ => rfl
  | a :: l, h => by rw [List.any_cons, List.any_cons, h a (by simp), any_same fun x hx => h x (by simp [hx])]
def turnL (x : Lt) : Lt := ⟨x.y, x.b, x.a⟩
section
variable (f : Tm → Tm → Bs → Bool × Bs)
def tryG (l x : Lt) (b : Bs) : Bool × Bs := if (f l.a x.a b).1 = true then f l.b x.b (f l.a x.a b).2 else (false, (f l.a x.a b).2)
def covG : List Lt → List Lt → Bs → Bool
  | [], _, _ => true
  | l :: c, d, b => d.any fun x => (x.y == l.y) && (((tryG f l x b).1 && covG c d (tryG f l x b).2) || ((tryG f l (turnL x) b).1 && covG c d (tryG f l (turnL x) b).2))
end
theorem tryG_eq (l x : Lt) (b : Bs) (h1 : ∀ z ∈ parts x.a, 0 ≤ z.v) (h2 : ∀ z ∈ parts x.b, 0 ≤ z.v) : (tryG meet l x b).1 = (tryG grow l x b).1 ∧ ((tryG meet l x b).1 = true → (tryG meet l x b).2 = (tryG grow l x b).2) := by
  obtain ⟨a1, a2⟩ := meet_grow l.a x.a b h1
  unfold tryG
  rw [← a1]
  by_cases hc : (meet l.a x.a b).1 = true
  · rw [if_pos hc, if_pos hc, a2 hc]
    exact meet_grow l.b x.b _ h2
  · rw [if_neg hc, if_neg hc]; exact ⟨rfl, fun h => by cases h⟩
theorem covG_eq : ∀ (c d : List Lt) (b : Bs), (∀ x ∈ d, (∀ z ∈ parts x.a, 0 ≤ z.v) ∧ ∀ z ∈ parts x.b, 0 ≤ z.v) → covG meet c d b = covG grow c d b
  | [], _, _, _ => rfl
  | l :: c, d, b, h => by
    have key : ∀ x : Lt, (∀ z ∈ parts x.a, 0 ≤ z.v) → (∀ z ∈ parts x.b, 0 ≤ z.v) → ((tryG meet l x b).1 && covG meet c d (tryG meet l x b).2) = ((tryG grow l x b).1 && covG grow c d (tryG grow l x b).2) := by
      intro x h1 h2
      obtain ⟨a1, a2⟩ := tryG_eq l x b h1 h2
      rw [← a1]
      cases hc : (tryG meet l x b).1 with
      | false => rfl
      | true => rw [a2 hc, covG_eq c d _ h]
    rw [covG, covG]
    refine any_same fun x hx => ?_
    obtain ⟨h1, h2⟩ := h x hx
    rw [key x h1 h2, key (turnL x) h2 h1]
theorem tryG_len {l x : Lt} {b : Bs} (h : (tryG grow l x b).1 = true) : (tryG grow l x b).2.length ≤ b.length + (l.a.size + l.b.size) := by
  unfold tryG at h ⊢
  by_cases hc : (grow l.a x.a b).1 = true
  · rw [if_pos hc]
    have := grow_len l.a x.a b
    have := grow_len l.b x.b (grow l.a x.a b).2
    omega
  · rw [if_neg hc] at h; cases h
def szC (c : List Lt) : Nat := (c.map fun l => l.a.size + l.b.size).sum
end Go.Proofs.Ytmeekpinkfpnhab
namespace Go.Proofs.Ytmeekpinkfpnhab
mutual
def sub (σ : Int → Tm) : Tm → Tm
  | .mk v f us => if v > 0 then σ v else .mk v f (subL σ us)
def subL (σ : Int → Tm) : List Tm → List Tm
  | [] => []
  | x :: xs => sub σ x :: subL σ xs
end
theorem sub_eq (σ : Int → Tm) (t : Tm) : sub σ t = if t.v > 0 then σ t.v else .mk t.v t.f (subL σ t.us) := by cases t; rw [sub]; rfl
theorem subL_map (σ : Int → Tm) (us : List Tm) : subL σ us = us.map (sub σ) := by
  induction us with
  | nil => rfl
  | cons x xs ih => rw [subL, ih, List.map_cons]
mutual
theorem sub_sub (σ τ : Int → Tm) : ∀ t : Tm, sub τ (sub σ t) = sub (fun v => sub τ (σ v)) t
  | .mk v f us => by
    rw [sub, sub]
    by_cases hv : v > 0
    · rw [if_pos hv, if_pos hv]
    · rw [if_neg hv, if_neg hv, sub, if_neg hv, subL_subL σ τ us]
theorem subL_subL (σ τ : Int → Tm) : ∀ us : List Tm, subL τ (subL σ us) = subL (fun v => sub τ (σ v)) us
  | [] => rfl
  | x :: xs => by rw [subL, subL, subL, sub_sub σ τ x, subL_subL σ τ xs]
end
mutual
theorem sub_congr {σ τ : Int → Tm} : ∀ t : Tm, (∀ x ∈ parts t, x.v > 0 → σ x.v = τ x.v) → sub σ t = sub τ t
  | .mk v f us, h => by
    rw [sub, sub]
    by_cases hv : v > 0
    · rw [if_pos hv, if_pos hv]; exact h (.mk v f us) (by rw [parts]; simp) hv
    · rw [if_neg hv, if_neg hv, subL_congr us fun x hx => h x (by rw [parts]; exact List.mem_append_left _ hx)]
theorem subL_congr {σ τ : Int → Tm} : ∀ us : List Tm, (∀ x ∈ partsL us, x.v > 0 → σ x.v = τ x.v) → subL σ us = subL τ us
  | [], _ => rfl
  | x :: xs, h => by
    rw [subL, subL, sub_congr x fun y hy => h y (by rw [partsL]; exact List.mem_append_left _ hy), subL_congr xs fun y hy => h y (by rw [partsL]; exact List.mem_append_right _ hy)]
end
abbrev vt (v : Int) : Tm := .mk v 0 []
def Pure (t : Tm) : Prop := ∀ x ∈ parts t, 0 ≤ x.v ∧ (x.v > 0 → x = vt x.v)
theorem Pure.good {t : Tm} (h : Pure t) : Good t := fun x hx => ⟨(h x hx).1, fun hv => by rw [(h x hx).2 hv]; rfl⟩
theorem parts_kid {t u : Tm} (hu : u ∈ t.us) {x : Tm} (hx : x ∈ parts u) : x ∈ parts t := by
  rw [parts_eq]
  refine List.mem_append_left _ ?_
  generalize t.us = us at hu
  induction us with
  | nil => cases hu
  | cons y ys ih =>
    rw [partsL, List.mem_append]
    rcases List.mem_cons.1 hu with rfl | hu
    · exact .inl hx
    · exact .inr (ih hu)
theorem parts_self (t : Tm) : t ∈ parts t := by rw [parts_eq]; simp
theorem partsL_mem {us : List Tm} {x : Tm} (h : x ∈ partsL us) : ∃ u ∈ us, x ∈ parts u := by
  induction us with
  | nil => simp [partsL] at h
  | cons y ys ih =>
    rw [partsL, List.mem_append] at h
    rcases h with h | h
    · exact ⟨y, by simp, h⟩
    · obtain ⟨u, hu, hx⟩ := ih h
      exact ⟨u, by simp [hu], hx⟩
theorem partsL_of {us : List Tm} {u x : Tm} (hu : u ∈ us) (hx : x ∈ parts u) : x ∈ partsL us := by
  induction us with
  | nil => cases hu
  | cons y ys ih =>
    rw [partsL, List.mem_append]
    rcases List.mem_cons.1 hu with rfl | hu
    · exact .inl hx
    · exact .inr (ih hu)
theorem Pure.kid {t u : Tm} (h : Pure t) (hu : u ∈ t.us) : Pure u := fun x hx => h x (parts_kid hu hx)
theorem Pure.nn {t : Tm} (h : Pure t) : ∀ x ∈ parts t, 0 ≤ x.v := fun x hx => (h x hx).1
theorem own_pure {g : List Int} {t : Tm} (h : own g t = 0) : Pure t := fun x hx => by
  refine ⟨own_v h hx, fun hv => ?_⟩
  have h1 := own_each h hx
  have h2 := own_bare h x hx hv
  unfold formOne at h1
  rw [if_pos (by omega)] at h1
  split at h1
  · cases h1
  · split at h1
    · cases h1
    · rename_i h3
      obtain ⟨v, f, us⟩ := x
      simp only [Tm.us, Tm.f, Tm.v] at *
      subst h2
      have : f = 0 := by
        rcases Classical.em (f = 0) with h | h
        · exact h
        · exact absurd (.inr h) h3
      rw [this]
mutual
theorem sub_id : ∀ t : Tm, Pure t → sub vt t = t
  | .mk v f us, h => by
    rw [sub]
    by_cases hv : v > 0
    · rw [if_pos hv]; exact ((h (.mk v f us) (parts_self _)).2 hv).symm
    · rw [if_neg hv, subL_id us fun u hu => h.kid (t := .mk v f us) hu]
theorem subL_id : ∀ us : List Tm, (∀ u ∈ us, Pure u) → subL vt us = us
  | [], _ => rfl
  | x :: xs, h => by rw [subL, sub_id x (h x (by simp)), subL_id xs fun u hu => h u (by simp [hu])]
end
def ExB (σ : Int → Tm) (b : Bs) : Prop := ∀ v u, lookB v b = some u → σ v = u
def sbOf (b : Bs) (v : Int) : Tm := (lookB v b).getD (vt v)
theorem sbOf_ext (b : Bs) : ExB (sbOf b) b := fun v u h => by unfold sbOf; rw [h]; rfl
theorem lookB_append (v : Int) (a b : Bs) : lookB v (a ++ b) = match lookB v a with | some u => some u | none => lookB v b := by
  induction a with
  | nil => rfl
  | cons p a ih =>
    rw [List.cons_append, lookB, lookB, ih]
    by_cases h : v = p.1
    · rw [if_pos h, if_pos h]
    · rw [if_neg h, if_neg h]
theorem ExB.snoc {σ : Int → Tm} {b : Bs} {v : Int} {t : Tm} (h : ExB σ (b ++ [(v, t)])) (hn : lookB v b = none) : ExB σ b ∧ σ v = t := by
  refine ⟨fun x u hx => h x u (by rw [lookB_append, hx]), h v t (by rw [lookB_append, hn]; simp [lookB])⟩
theorem ExB.mk {σ : Int → Tm} {b : Bs} {v : Int} {t : Tm} (h : ExB σ b) (hv : σ v = t) : ExB σ (b ++ [(v, t)]) := fun x u hx => by
  rw [lookB_append] at hx
  cases hb : lookB x b with
  | some w => rw [hb] at hx; cases hx; exact h x _ hb
  | none =>
    rw [hb] at hx
    simp only [lookB] at hx
    split at hx
    · cases hx; subst_vars; rfl
    · cases hx
mutual
theorem meet_sound {σ : Int → Tm} : ∀ (p t : Tm) (b : Bs), (∀ x ∈ parts p, 0 ≤ x.v) → (meet p t b).1 = true → ExB σ (meet p t b).2 → ExB σ b ∧ sub σ p = t
  | .mk v f us, t, b, hp, h, he => by
    rw [meet] at h he
    rw [sub]
    by_cases hv : v > 0
    · rw [if_pos hv] at h he ⊢
      cases hb : lookB v b with
      | some u =>
        rw [hb] at h he
        simp only at h he
        rw [same_iff] at h
        exact ⟨he, by rw [← h]; exact he v u hb⟩
      | none =>
        rw [hb] at he
        simp only at he
        exact he.snoc hb
    · rw [if_neg hv] at h he ⊢
      by_cases hc : t.v = 0 ∧ f = t.f ∧ us.length = t.us.length
      · rw [if_pos hc] at h he
        obtain ⟨c1, c2, c3⟩ := hc
        obtain ⟨h1, h2⟩ := meetL_sound us t.us b (fun x hx => hp x (by rw [parts]; exact List.mem_append_left _ hx)) c3 h he
        refine ⟨h1, ?_⟩
        have hv0 : v = 0 := by have := hp (.mk v f us) (parts_self _); simp only [Tm.v] at this; omega
        rw [h2, hv0, ← c1, c2, Tm.eta]
      · rw [if_neg hc] at h; cases h
theorem meetL_sound {σ : Int → Tm} : ∀ (xs ys : List Tm) (b : Bs), (∀ x ∈ partsL xs, 0 ≤ x.v) → xs.length = ys.length → (meetL xs ys b).1 = true → ExB σ (meetL xs ys b).2 → ExB σ b ∧ subL σ xs = ys
  | [], [], b, _, _, _, he => ⟨he, rfl⟩
  | x :: xs, y :: ys, b, hp, hl, h, he => by
    rw [meetL] at h he
    by_cases hc : (meet x y b).1 = true
    · rw [if_pos hc] at h he
      obtain ⟨h1, h2⟩ := meetL_sound xs ys _ (fun z hz => hp z (by rw [partsL]; exact List.mem_append_right _ hz)) (by simpa using hl) h he
      obtain ⟨h3, h4⟩ := meet_sound x y b (fun z hz => hp z (by rw [partsL]; exact List.mem_append_left _ hz)) hc h1
      exact ⟨h3, by rw [subL, h4, h2]⟩
    · rw [if_neg hc] at h; cases h
end
mutual
theorem meet_compl {σ : Int → Tm} : ∀ (p t : Tm) (b : Bs), (∀ x ∈ parts p, 0 ≤ x.v) → ExB σ b → sub σ p = t → (meet p t b).1 = true ∧ ExB σ (meet p t b).2
  | .mk v f us, t, b, hp, he, h => by
    rw [meet]
    rw [sub] at h
    by_cases hv : v > 0
    · rw [if_pos hv] at h ⊢
      cases hb : lookB v b with
      | some u =>
        simp only
        refine ⟨?_, he⟩
        rw [same_iff, ← h]; exact (he v u hb).symm
      | none => exact ⟨rfl, he.mk h⟩
    · rw [if_neg hv] at h ⊢
      have hv0 : v = 0 := by have := hp (.mk v f us) (parts_self _); simp only [Tm.v] at this; omega
      subst h
      rw [if_pos ⟨hv0, rfl, by simp only [Tm.us]; rw [subL_map, List.length_map]⟩]
      exact meetL_compl us (subL σ us) b (fun x hx => hp x (by rw [parts]; exact List.mem_append_left _ hx)) he rfl
theorem meetL_compl {σ : Int → Tm} : ∀ (xs ys : List Tm) (b : Bs), (∀ x ∈ partsL xs, 0 ≤ x.v) → ExB σ b → subL σ xs = ys → (meetL xs ys b).1 = true ∧ ExB σ (meetL xs ys b).2
  | [], _, b, _, he, h => by subst h; exact ⟨rfl, he⟩
  | x :: xs, ys, b, hp, he, h => by
    rw [subL] at h
    subst h
    rw [meetL]
    obtain ⟨h1, h2⟩ := meet_compl x (sub σ x) b (fun z hz => hp z (by rw [partsL]; exact List.mem_append_left _ hz)) he rfl
    rw [if_pos h1]
    exact meetL_compl xs _ _ (fun z hz => hp z (by rw [partsL]; exact List.mem_append_right _ hz)) h2 rfl
end
def subLt (σ : Int → Tm) : Lt → Lt := mapLt (sub σ)
theorem turn_turn (l : Lt) : turnL (turnL l) = l := rfl
theorem subLt_turn (σ : Int → Tm) (l : Lt) : subLt σ (turnL l) = turnL (subLt σ l) := rfl
def InC (l : Lt) (d : List Lt) : Prop := l ∈ d ∨ turnL l ∈ d
theorem InC.turn {l : Lt} {d : List Lt} (h : InC l d) : InC (turnL l) d := h.symm
def Subs (σ : Int → Tm) (c d : List Lt) : Prop := ∀ l ∈ c, InC (subLt σ l) d
def NnC (c : List Lt) : Prop := ∀ l ∈ c, (∀ x ∈ parts l.a, 0 ≤ x.v) ∧ ∀ x ∈ parts l.b, 0 ≤ x.v
theorem tryG_sound {σ : Int → Tm} {l x : Lt} {b : Bs} (hl : (∀ x ∈ parts l.a, 0 ≤ x.v) ∧ ∀ x ∈ parts l.b, 0 ≤ x.v) (h : (tryG meet l x b).1 = true) (he : ExB σ (tryG meet l x b).2) : ExB σ b ∧ sub σ l.a = x.a ∧ sub σ l.b = x.b := by
  unfold tryG at h he
  by_cases hc : (meet l.a x.a b).1 = true
  · rw [if_pos hc] at h he
    obtain ⟨h1, h2⟩ := meet_sound l.b x.b _ hl.2 h he
    obtain ⟨h3, h4⟩ := meet_sound l.a x.a b hl.1 hc h1
    exact ⟨h3, h4, h2⟩
  · rw [if_neg hc] at h; cases h
theorem tryG_compl {σ : Int → Tm} {l x : Lt} {b : Bs} (hl : (∀ x ∈ parts l.a, 0 ≤ x.v) ∧ ∀ x ∈ parts l.b, 0 ≤ x.v) (he : ExB σ b) (h1 : sub σ l.a = x.a) (h2 : sub σ l.b = x.b) : (tryG meet l x b).1 = true ∧ ExB σ (tryG meet l x b).2 := by
  unfold tryG
  obtain ⟨h3, h4⟩ := meet_compl l.a x.a b hl.1 he h1
  rw [if_pos h3]
  exact meet_compl l.b x.b _ hl.2 h4 h2
theorem cov_sound : ∀ (c d : List Lt) (b : Bs), NnC c → covG meet c d b = true → ∃ σ, ExB σ b ∧ Subs σ c d
  | [], d, b, _, _ => ⟨sbOf b, sbOf_ext b, fun l hl => by cases hl⟩
  | l :: c, d, b, hn, h => by
    rw [covG, List.any_eq_true] at h
    obtain ⟨x, hx, h⟩ := h
    rw [Bool.and_eq_true, beq_iff_eq, Bool.or_eq_true, Bool.and_eq_true, Bool.and_eq_true] at h
    obtain ⟨hy, h⟩ := h
    have hn' : NnC c := fun z hz => hn z (by simp [hz])
    rcases h with ⟨h1, h2⟩ | ⟨h1, h2⟩
    · obtain ⟨σ, he, hs⟩ := cov_sound c d _ hn' h2
      obtain ⟨e1, e2, e3⟩ := tryG_sound (hn l (by simp)) h1 he
      refine ⟨σ, e1, fun z hz => ?_⟩
      rcases List.mem_cons.1 hz with rfl | hz
      · left
        have : subLt σ z = x := by
          obtain ⟨y, a, b'⟩ := x
          simp only [subLt, mapLt] at *
          rw [e2, e3, hy]
        rw [this]; exact hx
      · exact hs z hz
    · obtain ⟨σ, he, hs⟩ := cov_sound c d _ hn' h2
      obtain ⟨e1, e2, e3⟩ := tryG_sound (hn l (by simp)) h1 he
      refine ⟨σ, e1, fun z hz => ?_⟩
      rcases List.mem_cons.1 hz with rfl | hz
      · right
        have : turnL (subLt σ z) = x := by
          obtain ⟨y, a, b'⟩ := x
          simp only [subLt, mapLt, turnL] at *
          rw [e2, e3, hy]
        rw [this]; exact hx
      · exact hs z hz
theorem cov_compl {σ : Int → Tm} : ∀ (c d : List Lt) (b : Bs), NnC c → ExB σ b → Subs σ c d → covG meet c d b = true
  | [], _, _, _, _, _ => rfl
  | l :: c, d, b, hn, he, hs => by
    have hn' : NnC c := fun z hz => hn z (by simp [hz])
    have hs' : Subs σ c d := fun z hz => hs z (by simp [hz])
    rw [covG, List.any_eq_true]
    rcases hs l (by simp) with h | h
    · refine ⟨_, h, ?_⟩
      obtain ⟨h1, h2⟩ := tryG_compl (x := subLt σ l) (hn l (by simp)) he rfl rfl
      rw [h1, Bool.true_and, cov_compl c d _ hn' h2 hs']
      simp [subLt, mapLt]
    · refine ⟨_, h, ?_⟩
      obtain ⟨h1, h2⟩ := tryG_compl (x := turnL (turnL (subLt σ l))) (hn l (by simp)) he rfl rfl
      rw [h1, Bool.true_and, cov_compl c d _ hn' h2 hs']
      simp [subLt, mapLt, turnL]
theorem cov_iff {c d : List Lt} (hn : NnC c) : covG meet c d [] = true ↔ ∃ σ, Subs σ c d := by
  constructor
  · intro h
    obtain ⟨σ, _, hs⟩ := cov_sound c d [] hn h
    exact ⟨σ, hs⟩
  · rintro ⟨σ, hs⟩
    exact cov_compl c d [] hn (fun v u h => by cases h) hs
theorem Subs.trans {σ τ : Int → Tm} {c d e : List Lt} (h1 : Subs σ c d) (h2 : Subs τ d e) : Subs (fun v => sub τ (σ v)) c e := by
  intro l hl
  have hss : ∀ l : Lt, subLt (fun v => sub τ (σ v)) l = subLt τ (subLt σ l) := fun l => by
    simp only [subLt, mapLt, sub_sub]
  rw [hss]
  rcases h1 l hl with h | h
  · exact h2 _ h
  · have := h2 _ h
    rw [subLt_turn] at this
    exact this.turn
theorem cov_trans {c d e : List Lt} (hc : NnC c) (hd : NnC d) (h1 : covG meet c d [] = true) (h2 : covG meet d e [] = true) : covG meet c e [] = true := by
  rw [cov_iff hc] at h1 ⊢
  rw [cov_iff hd] at h2
  obtain ⟨σ, h1⟩ := h1
  obtain ⟨τ, h2⟩ := h2
  exact ⟨_, h1.trans h2⟩
theorem cov_self {c : List Lt} (hc : ∀ l ∈ c, Pure l.a ∧ Pure l.b) : covG meet c c [] = true := by
  rw [cov_iff fun l hl => ⟨(hc l hl).1.nn, (hc l hl).2.nn⟩]
  refine ⟨vt, fun l hl => .inl ?_⟩
  have : subLt vt l = l := by
    obtain ⟨y, a, b⟩ := l
    simp only [subLt, mapLt, sub_id a (hc _ hl).1, sub_id b (hc _ hl).2]
  rw [this]; exact hl
end Go.Proofs.Ytmeekpinkfpnhab
namespace Go.Proofs.Ytmeekpinkfpnhab
abbrev tm0 : Tm := .mk 0 0 []
def atG : Tm → List Int → Option Tm
  | t, [] => some t
  | t, i :: p => if 0 ≤ i ∧ i < t.us.length then atG (t.us.getD i.toNat tm0) p else none
def layG : Tm → List Int → Tm → Tm
  | _, [], u => u
  | t, i :: p, u => .mk t.v t.f (t.us.set i.toNat (layG (t.us.getD i.toNat tm0) p u))
def putG : Tm → List Int → Tm → Tm
  | _, [], u => u
  | t, i :: p, u => .mk 0 t.f (if 0 ≤ i then t.us.set i.toNat (putG (t.us.getD i.toNat tm0) p u) else t.us)
theorem atG_some {t x : Tm} {i : Int} {p : List Int} (h : atG t (i :: p) = some x) : ∃ n : Nat, ∃ hn : n < t.us.length, i = n ∧ atG t.us[n] p = some x := by
  rw [atG] at h
  by_cases hc : 0 ≤ i ∧ i < t.us.length
  · rw [if_pos hc] at h
    refine ⟨i.toNat, by omega, by omega, ?_⟩
    rw [getD_at (by omega)] at h; exact h
  · rw [if_neg hc] at h; cases h
theorem atG_at {t : Tm} {n : Nat} (hn : n < t.us.length) (p : List Int) : atG t ((n : Int) :: p) = atG t.us[n] p := by
  rw [atG, if_pos (by omega), Int.toNat_natCast, getD_at hn]
theorem put_lay : ∀ (p : List Int) (t u x : Tm), Good t → atG t p = some x → putG t p u = layG t p u
  | [], _, _, _, _, _ => rfl
  | i :: p, t, u, x, hg, h => by
    obtain ⟨n, hn, rfl, k⟩ := atG_some h
    rw [putG, layG, if_pos (by omega), Int.toNat_natCast, getD_at hn, put_lay p t.us[n] u x (hg.kid (List.getElem_mem hn)) k]
    have h0 := hg t (parts_self t)
    have : t.v = 0 := by
      rcases Int.lt_or_le 0 t.v with h1 | h1
      · have := h0.2 h1; rw [this] at hn; exact absurd hn (Nat.not_lt_zero _)
      · omega
    rw [this]
theorem at_parts : ∀ (p : List Int) (t x : Tm), atG t p = some x → ∀ y ∈ parts x, y ∈ parts t
  | [], t, x, h, y, hy => by rw [atG] at h; cases h; exact hy
  | i :: p, t, x, h, y, hy => by
    obtain ⟨n, hn, rfl, k⟩ := atG_some h
    exact parts_kid (List.getElem_mem hn) (at_parts p t.us[n] x k y hy)
theorem us_cut {t : Tm} {n : Nat} (hn : n < t.us.length) : t.us = t.us.take n ++ t.us[n] :: t.us.drop (n + 1) := by
  rw [← List.drop_eq_getElem_cons hn, List.take_append_drop]
theorem set_cut {l : List Tm} {n : Nat} (hn : n < l.length) (x : Tm) : l.set n x = l.take n ++ x :: l.drop (n + 1) := by
  rw [List.set_eq_take_append_cons_drop, if_pos hn]
theorem at_lay : ∀ (p : List Int) (t u x : Tm), atG t p = some x → atG (layG t p u) p = some u
  | [], _, _, _, _ => rfl
  | i :: p, t, u, x, h => by
    obtain ⟨n, hn, rfl, k⟩ := atG_some h
    rw [layG, Int.toNat_natCast, getD_at hn]
    have hn' : n < (Tm.mk t.v t.f (t.us.set n (layG t.us[n] p u))).us.length := by show n < (t.us.set n _).length; rw [List.length_set]; exact hn
    rw [atG_at hn']
    have e : (Tm.mk t.v t.f (t.us.set n (layG t.us[n] p u))).us[n] = layG t.us[n] p u := by
      show (t.us.set n (layG t.us[n] p u))[n]'(by rw [List.length_set]; exact hn) = _
      rw [List.getElem_set_self]
    rw [e]
    exact at_lay p t.us[n] u x k
theorem lay_back : ∀ (p : List Int) (t u x : Tm), atG t p = some x → layG (layG t p u) p x = t
  | [], t, u, x, h => by rw [atG] at h; cases h; rfl
  | i :: p, t, u, x, h => by
    obtain ⟨n, hn, rfl, k⟩ := atG_some h
    rw [layG, layG, Int.toNat_natCast, getD_at hn]
    show Tm.mk t.v t.f ((t.us.set n (layG t.us[n] p u)).set n (layG ((t.us.set n (layG t.us[n] p u)).getD n tm0) p x)) = t
    have e : (t.us.set n (layG t.us[n] p u)).getD n tm0 = layG t.us[n] p u := by
      rw [getD_at (by rw [List.length_set]; exact hn), List.getElem_set_self]
    rw [e, lay_back p t.us[n] u x k, List.set_set, List.set_getElem_self, Tm.eta]
theorem lay_form (g : List Int) : ∀ (p : List Int) (t u x : Tm), atG t p = some x → form g t = 0 → form g u = 0 → form g (layG t p u) = 0
  | [], _, _, _, _, _, hu => hu
  | i :: p, t, u, x, h, ht, hu => by
    obtain ⟨n, hn, rfl, k⟩ := atG_some h
    rw [layG, Int.toNat_natCast, getD_at hn]
    rw [form_eq] at ht
    by_cases hl : formL g t.us = 0
    · rw [if_neg (by simp [hl])] at ht
      have each : ∀ (l : List Tm), formL g l = 0 ↔ ∀ y ∈ l, form g y = 0 := by
        intro l
        induction l with
        | nil => simp [formL]
        | cons y l ih =>
          rw [formL]
          by_cases hy : form g y = 0
          · rw [if_neg (by simp [hy]), ih]; simp [hy]
          · rw [if_pos hy]; simp [hy]
      have h1 := (each _).1 hl
      have h2 := lay_form g p t.us[n] u x k (h1 _ (List.getElem_mem hn)) hu
      rw [form]
      have h3 : formL g (t.us.set n (layG t.us[n] p u)) = 0 := (each _).2 fun y hy => by
        rcases List.mem_or_eq_of_mem_set hy with hy | rfl
        · exact h1 y hy
        · exact h2
      rw [if_neg (by simp [h3]), List.length_set]; exact ht
    · rw [if_pos hl] at ht; exact absurd ht hl
mutual
def plP : Tm → List (List Int × Tm)
  | .mk v f us => plPL us 0 ++ [([], .mk v f us)]
def plPL : List Tm → Nat → List (List Int × Tm)
  | [], _ => []
  | x :: xs, i => (plP x).map (fun q => ((i : Int) :: q.1, q.2)) ++ plPL xs (i + 1)
end
theorem plP_eq (t : Tm) : plP t = plPL t.us 0 ++ [([], t)] := by cases t; rw [plP]; rfl
mutual
theorem plP_snd : ∀ t : Tm, (plP t).map (·.2) = parts t
  | .mk v f us => by rw [plP, List.map_append, plPL_snd us 0, parts]; rfl
theorem plPL_snd : ∀ (us : List Tm) (i : Nat), (plPL us i).map (·.2) = partsL us
  | [], _ => rfl
  | x :: xs, i => by rw [plPL, List.map_append, List.map_map, plPL_snd xs, partsL, ← plP_snd x]; rfl
end
theorem plPL_mem : ∀ (us : List Tm) (i : Nat) (q : List Int × Tm), q ∈ plPL us i → ∃ (j : Nat) (hj : j < us.length) (p : List Int), q.1 = ((i + j : Nat) : Int) :: p ∧ (p, q.2) ∈ plP us[j]
  | x :: xs, i, q, h => by
    rw [plPL, List.mem_append] at h
    rcases h with h | h
    · obtain ⟨r, hr, rfl⟩ := List.mem_map.1 h
      exact ⟨0, by simp, r.1, by simp, hr⟩
    · obtain ⟨j, hj, p, h1, h2⟩ := plPL_mem xs (i + 1) q h
      exact ⟨j + 1, by simpa using hj, p, by rw [h1]; congr 2; omega, h2⟩
theorem plP_at : ∀ (t : Tm) (q : List Int × Tm), q ∈ plP t → atG t q.1 = some q.2 := by
  refine Tm.ind fun t ih q hq => ?_
  rw [plP_eq, List.mem_append] at hq
  rcases hq with hq | hq
  · obtain ⟨j, hj, p, h1, h2⟩ := plPL_mem _ _ _ hq
    rw [h1, Nat.zero_add, atG_at hj]
    exact ih _ (List.getElem_mem hj) (p, q.2) h2
  · rw [List.mem_singleton.1 hq]; rfl
end Go.Proofs.Ytmeekpinkfpnhab
namespace Go.Proofs.Ytmeekpinkfpnhab
theorem v_mk (v f : Int) (us : List Tm) : (Tm.mk v f us).v = v := rfl
mutual
theorem applyR_sub (bs : Bs) : ∀ t : Tm, Pure t → applyR bs t = sub (sbOf bs) t
  | .mk v f us, h => by
    obtain ⟨h1, h2⟩ := h (.mk v f us) (parts_self _)
    simp only [Tm.v] at h1 h2
    rw [applyR, sub]
    by_cases hv : v > 0
    · rw [if_pos hv, if_pos hv]
      unfold sbOf
      cases lookB v bs with
      | some u => rfl
      | none => exact h2 hv
    · rw [if_neg hv, if_neg hv, applyRL_sub bs us fun u hu => h.kid (t := .mk v f us) hu]
      obtain rfl : v = 0 := by omega
      rfl
theorem applyRL_sub (bs : Bs) : ∀ us : List Tm, (∀ u ∈ us, Pure u) → applyRL bs us = subL (sbOf bs) us
  | [], _ => rfl
  | x :: xs, h => by rw [applyRL, subL, applyR_sub bs x (h x (by simp)), applyRL_sub bs xs fun u hu => h u (by simp [hu])]
end
theorem addV_vt (o : List Int) (v : Int) : addV o (vt v) = if v > 0 ∧ o.contains v = false then o ++ [v] else o := rfl
theorem Pure.part {t x : Tm} (h : Pure t) (hx : x ∈ parts t) : Pure x := by
  revert h hx
  refine Tm.ind (P := fun t => Pure t → x ∈ parts t → Pure x) (fun t ih h hx => ?_) t
  rw [parts_eq, List.mem_append] at hx
  rcases hx with hx | hx
  · obtain ⟨u, hu, hx⟩ := partsL_mem hx
    exact ih u hu (h.kid hu) hx
  · rw [List.mem_singleton.1 hx]; exact h
structure Rn (ρ : Int → Tm) (r : Int → Int) (V : List Int) : Prop where
  eq : ∀ v ∈ V, ρ v = vt (r v)
  pos : ∀ v ∈ V, r v > 0
  inj : ∀ v ∈ V, ∀ u ∈ V, r v = r u → v = u
def Vin (V : List Int) (t : Tm) : Prop := Pure t ∧ ∀ x ∈ parts t, x.v > 0 → x.v ∈ V
theorem Vin.kid {V : List Int} {t u : Tm} (h : Vin V t) (hu : u ∈ t.us) : Vin V u := ⟨h.1.kid hu, fun x hx => h.2 x (parts_kid hu hx)⟩
section
variable {ρ : Int → Tm} {r : Int → Int} {V : List Int} (H : Rn ρ r V)
include H
mutual
theorem rn_parts : ∀ t : Tm, Vin V t → parts (sub ρ t) = (parts t).map (sub ρ)
  | .mk v f us, h => by
    by_cases hv : v > 0
    · obtain ⟨h1, h2⟩ := h.1 (.mk v f us) (parts_self _)
      have hin := h.2 (.mk v f us) (parts_self _) hv
      have e := h2 hv
      rw [e]
      simp only [Tm.v] at hin ⊢
      rw [sub, if_pos hv, H.eq v hin]
      simp only [parts, partsL, List.nil_append, List.map_cons, List.map_nil, sub, if_pos hv, H.eq v hin]
    · rw [sub, if_neg hv, parts, parts, List.map_append, rn_partsL us fun u hu => h.kid (t := .mk v f us) hu, List.map_cons, List.map_nil, sub, if_neg hv]
theorem rn_partsL : ∀ us : List Tm, (∀ u ∈ us, Vin V u) → partsL (subL ρ us) = (partsL us).map (sub ρ)
  | [], _ => rfl
  | x :: xs, h => by rw [subL, partsL, partsL, List.map_append, rn_parts x (h x (by simp)), rn_partsL xs fun u hu => h u (by simp [hu])]
end
mutual
theorem rn_count : ∀ (t : Tm) (most : Int), Vin V t → count (sub ρ t) most = count t most
  | .mk v f us, most, h => by
    by_cases hv : v > 0
    · obtain ⟨h1, h2⟩ := h.1 (.mk v f us) (parts_self _)
      have hin := h.2 (.mk v f us) (parts_self _) hv
      have e := h2 hv
      rw [e]
      simp only [Tm.v] at hin ⊢
      rw [sub, if_pos hv, H.eq v hin]
      rfl
    · rw [sub, if_neg hv, count, count, rn_countL us 1 most fun u hu => h.kid (t := .mk v f us) hu]
theorem rn_countL : ∀ (us : List Tm) (n most : Int), (∀ u ∈ us, Vin V u) → countL (subL ρ us) n most = countL us n most
  | [], _, _, _ => rfl
  | x :: xs, n, most, h => by
    rw [subL, countL, countL, rn_count x _ (h x (by simp)), rn_countL xs _ most fun u hu => h u (by simp [hu])]
end
mutual
theorem rn_form (g : List Int) (hr : ∀ v ∈ V, r v ≤ 1000) : ∀ t : Tm, Vin V t → form g t = 0 → form g (sub ρ t) = 0
  | .mk v f us, h, hf => by
    by_cases hv : v > 0
    · have hin := h.2 (.mk v f us) (parts_self _) hv
      simp only [Tm.v] at hin
      rw [sub, if_pos hv, H.eq v hin]
      have := H.pos v hin
      have := hr v hin
      simp [form, formL, formOne]; omega
    · rw [form] at hf
      rw [sub, if_neg hv, form]
      by_cases hl : formL g us = 0
      · rw [if_neg (by simp [hl])] at hf
        rw [if_neg (by simp [rn_formL g hr us (fun u hu => h.kid (t := .mk v f us) hu) hl]), subL_map, List.length_map]
        exact hf
      · rw [if_pos hl] at hf; exact absurd hf hl
theorem rn_formL (g : List Int) (hr : ∀ v ∈ V, r v ≤ 1000) : ∀ us : List Tm, (∀ u ∈ us, Vin V u) → formL g us = 0 → formL g (subL ρ us) = 0
  | [], _, _ => rfl
  | x :: xs, h, hf => by
    rw [formL] at hf
    rw [subL, formL]
    by_cases hx : form g x = 0
    · rw [if_neg (by simp [hx])] at hf
      rw [if_neg (by simp [rn_form g hr x (h x (by simp)) hx])]
      exact rn_formL g hr xs (fun u hu => h u (by simp [hu])) hf
    · rw [if_pos hx] at hf; exact absurd hf hx
end
theorem rn_own (g : List Int) (hr : ∀ v ∈ V, r v ≤ 1000) {t : Tm} (h : Vin V t) (ho : own g t = 0) : own g (sub ρ t) = 0 := by
  obtain ⟨h1, h2⟩ := own_form ho
  unfold own
  rw [rn_count H t 120 h, if_neg (by omega)]
  exact rn_form H g hr t h h1
mutual
theorem rn_inj : ∀ (a b : Tm), Vin V a → Vin V b → sub ρ a = sub ρ b → a = b
  | .mk v f us, b, ha, hb, h => by
    by_cases hv : v > 0
    · have hin := ha.2 (.mk v f us) (parts_self _) hv
      have ea := (ha.1 (.mk v f us) (parts_self _)).2 hv
      simp only [Tm.v] at hin ea
      rw [sub, if_pos hv, H.eq v hin, sub_eq] at h
      by_cases hb2 : b.v > 0
      · have hin' := hb.2 b (parts_self _) hb2
        have eb := (hb.1 b (parts_self _)).2 hb2
        rw [if_pos hb2, H.eq _ hin'] at h
        have : v = b.v := H.inj v hin _ hin' (by injection h)
        rw [ea, eb, this]
      · rw [if_neg hb2] at h
        have := H.pos v hin
        injection h; omega
    · rw [sub, if_neg hv, sub_eq] at h
      by_cases hb2 : b.v > 0
      · have hin' := hb.2 b (parts_self _) hb2
        rw [if_pos hb2, H.eq _ hin'] at h
        have := H.pos _ hin'
        injection h; omega
      · rw [if_neg hb2] at h
        injection h with h1 h2 h3
        have := rn_injL us b.us (fun u hu => ha.kid (t := .mk v f us) hu) (fun u hu => hb.kid hu) h3
        rw [h1, h2, this, Tm.eta]
theorem rn_injL : ∀ (xs ys : List Tm), (∀ u ∈ xs, Vin V u) → (∀ u ∈ ys, Vin V u) → subL ρ xs = subL ρ ys → xs = ys
  | [], [], _, _, _ => rfl
  | [], y :: ys, _, _, h => by rw [subL, subL] at h; cases h
  | x :: xs, [], _, _, h => by rw [subL, subL] at h; cases h
  | x :: xs, y :: ys, h1, h2, h => by
    rw [subL, subL] at h
    injection h with h3 h4
    rw [rn_inj x y (h1 x (by simp)) (h2 y (by simp)) h3, rn_injL xs ys (fun u hu => h1 u (by simp [hu])) (fun u hu => h2 u (by simp [hu])) h4]
end
theorem rn_same {a b : Tm} (ha : Vin V a) (hb : Vin V b) : same (sub ρ a) (sub ρ b) = same a b := by
  rw [Bool.eq_iff_iff, same_iff, same_iff]
  exact ⟨rn_inj H a b ha hb, fun h => by rw [h]⟩
theorem rn_sides {x y : Lt} (hx : Vin V x.a ∧ Vin V x.b) (hy : Vin V y.a ∧ Vin V y.b) : sidesB (subLt ρ x) (subLt ρ y) = sidesB x y := by
  unfold sidesB
  simp only [subLt, mapLt]
  rw [rn_same H hx.1 hy.1, rn_same H hx.2 hy.2, rn_same H hx.1 hy.2, rn_same H hx.2 hy.1]
theorem rn_drop {o : List Lt} {l : Lt} (ho : ∀ x ∈ o, Vin V x.a ∧ Vin V x.b) (hl : Vin V l.a ∧ Vin V l.b) : dropB (o.map (subLt ρ)) (subLt ρ l) = dropB o l := by
  unfold dropB
  have e : same (subLt ρ l).a (subLt ρ l).b = same l.a l.b := rn_same H hl.1 hl.2
  rw [e, List.any_map]
  congr 1
  refine any_same fun x hx => ?_
  simp only [Function.comp]
  rw [rn_sides H (ho x hx) hl]
  rfl
theorem rn_keep : ∀ (c p : List Lt), (∀ x ∈ p, Vin V x.a ∧ Vin V x.b) → (∀ x ∈ c, Vin V x.a ∧ Vin V x.b) → keepR (p.map (subLt ρ)) (c.map (subLt ρ)) = (keepR p c).map (subLt ρ)
  | [], p, _, _ => rfl
  | l :: c, p, hp, hc => by
    have hl := hc l (by simp)
    have h1 := rn_keep c (p ++ [l]) (fun x hx => by
      rcases List.mem_append.1 hx with hx | hx
      · exact hp x hx
      · rw [List.mem_singleton.1 hx]; exact hl) (fun x hx => hc x (by simp [hx]))
    rw [List.map_append, List.map_cons, List.map_nil] at h1
    rw [List.map_cons, keepR, keepR, rn_drop H hp hl, h1]
    by_cases hd : dropB p l = true
    · rw [if_pos hd, if_pos hd]
    · rw [if_neg hd, if_neg hd, List.map_cons]
theorem rn_addV {o : List Int} (ho : ∀ v ∈ o, v ∈ V) {x : Tm} (hx : Pure x) (hv : x.v > 0 → x.v ∈ V) : addV (o.map r) (sub ρ x) = (addV o x).map r := by
  by_cases h : x.v > 0
  · have hin := hv h
    rw [sub_eq, if_pos h, H.eq _ hin, addV_vt]
    have hp := H.pos _ hin
    have hc : (o.map r).contains (r x.v) = o.contains x.v := by
      rw [Bool.eq_iff_iff, List.contains_iff_mem, List.contains_iff_mem, List.mem_map]
      constructor
      · rintro ⟨u, hu, e⟩; rw [← H.inj u (ho u hu) _ hin e]; exact hu
      · intro hm; exact ⟨_, hm, rfl⟩
    rw [hc]
    unfold addV
    by_cases h2 : o.contains x.v = false
    · rw [if_pos ⟨hp, h2⟩, if_pos ⟨h, h2⟩, List.map_append]; rfl
    · rw [if_neg (fun e => h2 e.2), if_neg (fun e => h2 e.2)]
  · rw [sub_eq, if_neg h]
    unfold addV
    rw [if_neg (fun e => h e.1), if_neg (fun e => h (by simpa only [v_mk] using e.1))]
theorem rn_addVs : ∀ (l : List Tm) (o : List Int), (∀ v ∈ o, v ∈ V) → (∀ x ∈ l, Pure x ∧ (x.v > 0 → x.v ∈ V)) → addVs (o.map r) (l.map (sub ρ)) = (addVs o l).map r
  | [], _, _, _ => rfl
  | x :: l, o, ho, hl => by
    obtain ⟨h1, h2⟩ := hl x (by simp)
    show addVs (addV (o.map r) (sub ρ x)) (l.map (sub ρ)) = (addVs (addV o x) l).map r
    rw [rn_addV H ho h1 h2]
    refine rn_addVs l (addV o x) (fun v hv => ?_) (fun y hy => hl y (by simp [hy]))
    rcases addV_mem hv with h | ⟨h, h3⟩
    · exact ho v h
    · rw [h]; exact h2 h3
theorem rn_firstVars (l : List Tm) (hl : ∀ t ∈ l, Vin V t) : firstVars (l.map (sub ρ)) = (firstVars l).map r := by
  unfold firstVars
  have e : (l.map (sub ρ)).flatMap parts = (l.flatMap parts).map (sub ρ) := by
    induction l with
    | nil => rfl
    | cons t l ih => rw [List.map_cons, List.flatMap_cons, List.flatMap_cons, List.map_append, rn_parts H t (hl t (by simp)), ih fun u hu => hl u (by simp [hu])]
  rw [e]
  exact rn_addVs H _ [] (fun v hv => by cases hv) fun x hx => by
    obtain ⟨t, ht, hx⟩ := List.mem_flatMap.1 hx
    exact ⟨Pure.part (hl t ht).1 hx, (hl t ht).2 x hx⟩
end
theorem look_num : ∀ (vs : List Int) (i j : Nat) (h : j < vs.length), vs.Nodup → lookB vs[j] (numBs vs i) = some (vt ((i : Int) + j + 1))
  | v :: vs, i, 0, _, _ => by simp [numBs, lookB]
  | v :: vs, i, j + 1, h, hn => by
    rw [List.nodup_cons] at hn
    have hj : j < vs.length := by simpa using h
    have hne : ¬ vs[j] = v := fun e => hn.1 (by rw [← e]; exact List.getElem_mem _)
    rw [List.getElem_cons_succ, numBs, lookB, if_neg hne, look_num vs (i + 1) j hj hn.2]
    congr 2; omega
def posV (V : List Int) (v : Int) : Int := (V.idxOf v : Int) + 1
theorem num_rn {V : List Int} (hn : V.Nodup) : Rn (sbOf (numBs V 0)) (posV V) V := by
  refine ⟨fun v hv => ?_, fun v hv => by unfold posV; omega, fun v hv u hu h => ?_⟩
  · have hi := List.idxOf_lt_length_of_mem hv
    have := look_num V 0 (V.idxOf v) hi hn
    rw [List.getElem_idxOf hi] at this
    unfold sbOf posV
    rw [this]; simp
  · have h1 := List.getElem_idxOf (List.idxOf_lt_length_of_mem hv)
    have h2 := List.getElem_idxOf (List.idxOf_lt_length_of_mem hu)
    have : V.idxOf v = V.idxOf u := by unfold posV at h; omega
    rw [← h1, ← h2]
    congr 1
theorem pos_map {V : List Int} (hn : V.Nodup) : ∀ (i : Nat) (h : i < (V.map (posV V)).length), (V.map (posV V))[i] = (i : Int) + 1 := by
  intro i h
  have hl : i < V.length := by simpa using h
  rw [List.getElem_map]
  unfold posV
  have : V.idxOf V[i] = i := by
    have h1 := List.idxOf_lt_length_of_mem (List.getElem_mem hl)
    have h2 := List.getElem_idxOf h1
    exact (List.getElem_inj hn).1 h2
  rw [this]
theorem nodup_le : ∀ (n : Nat) (l : List Int), l.Nodup → (∀ v ∈ l, 1 ≤ v ∧ v ≤ n) → l.length ≤ n
  | 0, l, _, h => by
    cases l with
    | nil => simp
    | cons v l => have := h v (by simp); omega
  | n + 1, l, hn, h => by
    have h1 := nodup_le n (l.erase ((n : Int) + 1)) (hn.erase _) fun v hv => by
      have h2 := (hn.mem_erase_iff).1 hv
      have := h v h2.2
      have := h2.1
      omega
    rw [List.length_erase] at h1
    split at h1 <;> omega
theorem numBs_ident : ∀ (V : List Int) (k : Nat), (∀ (i : Nat) (h : i < V.length), V[i] = (k : Int) + i + 1) → ∀ v u, lookB v (numBs V k) = some u → u = vt v
  | [], _, _, v, u, h => by cases h
  | x :: V, k, hV, v, u, h => by
    rw [numBs, lookB] at h
    have h0 := hV 0 (by simp)
    simp only [List.getElem_cons_zero] at h0
    by_cases hv : v = x
    · rw [if_pos hv] at h; cases h; rw [hv, h0]; simp
    · rw [if_neg hv] at h
      exact numBs_ident V (k + 1) (fun i hi => by
        have := hV (i + 1) (by simpa using hi)
        simp only [List.getElem_cons_succ] at this
        rw [this]; omega) v u h
abbrev varsC (c : List Lt) : List Int := firstVars (termsOf c)
theorem termsOf_in {c : List Lt} {l : Lt} (hl : l ∈ c) : l.a ∈ termsOf c ∧ l.b ∈ termsOf c :=
  ⟨List.mem_flatMap.2 ⟨l, hl, by simp⟩, List.mem_flatMap.2 ⟨l, hl, by simp⟩⟩
theorem firstVars_has {l : List Tm} {t x : Tm} (ht : t ∈ l) (hx : x ∈ parts t) (hv : x.v > 0) : x.v ∈ firstVars l := addVs_has (List.mem_flatMap.2 ⟨t, ht, hx⟩) hv
def PureC (c : List Lt) : Prop := ∀ l ∈ c, Pure l.a ∧ Pure l.b
theorem PureC.vin {c : List Lt} (h : PureC c) : ∀ l ∈ c, Vin (varsC c) l.a ∧ Vin (varsC c) l.b := fun l hl =>
  ⟨⟨(h l hl).1, fun _ hx hv => firstVars_has (termsOf_in hl).1 hx hv⟩, ⟨(h l hl).2, fun _ hx hv => firstVars_has (termsOf_in hl).2 hx hv⟩⟩
theorem PureC.vinT {c : List Lt} (h : PureC c) : ∀ t ∈ termsOf c, Vin (varsC c) t := fun t ht => by
  obtain ⟨l, hl, rfl | rfl⟩ := termsOf_mem ht
  · exact (h.vin l hl).1
  · exact (h.vin l hl).2
theorem varsC_nodup (c : List Lt) : (varsC c).Nodup := addVs_nodup (by simp)
theorem termsOf_map (f : Tm → Tm) (c : List Lt) : termsOf (c.map (mapLt f)) = (termsOf c).map f := by
  induction c with
  | nil => rfl
  | cons l c ih => simp only [termsOf, List.map_cons, List.flatMap_cons, List.map_append, List.map_nil] at ih ⊢; rw [ih]; rfl
theorem tidyR_sub {c : List Lt} (h : PureC c) : tidyR c = (keepR [] c).map (subLt (sbOf (numBs (varsC (keepR [] c)) 0))) := by
  unfold tidyR
  exact mapLt_same fun l hl => ⟨applyR_sub _ _ (h l (keepR_mem hl)).1, applyR_sub _ _ (h l (keepR_mem hl)).2⟩
theorem keepR_keep : ∀ (c p q : List Lt), (∀ x, dropB q x = dropB p x) → keepR q (keepR p c) = keepR p c
  | [], _, _, _ => rfl
  | l :: c, p, q, h => by
    rw [keepR]
    by_cases hd : dropB p l = true
    · rw [if_pos hd]
      exact keepR_keep c (p ++ [l]) q fun x => by rw [h x, dropB_dropped hd]
    · rw [if_neg hd, keepR, h l, if_neg hd, keepR_keep c (p ++ [l]) (q ++ [l]) fun x => by rw [dropB_snoc, dropB_snoc, h x]]
theorem keepR_twice (c : List Lt) : keepR [] (keepR [] c) = keepR [] c := keepR_keep c [] [] fun _ => rfl
theorem tidy_vars {c : List Lt} (h : PureC c) : varsC (tidyR c) = (varsC (keepR [] c)).map (posV (varsC (keepR [] c))) := by
  have hk : PureC (keepR [] c) := fun l hl => h l (keepR_mem hl)
  have H := num_rn (varsC_nodup (keepR [] c))
  rw [tidyR_sub h]
  show firstVars (termsOf (List.map (mapLt (sub _)) _)) = _
  rw [termsOf_map, rn_firstVars H _ hk.vinT]
theorem tidy_pure {c : List Lt} (h : PureC c) : PureC (tidyR c) := by
  have hk : PureC (keepR [] c) := fun l hl => h l (keepR_mem hl)
  have H := num_rn (varsC_nodup (keepR [] c))
  rw [tidyR_sub h]
  generalize sbOf (numBs (varsC (keepR [] c)) 0) = ρ at *
  intro l hl
  obtain ⟨x, hx, rfl⟩ := List.mem_map.1 hl
  have key : ∀ t, Vin (varsC (keepR [] c)) t → Pure (sub ρ t) := by
    intro t ht y hy
    rw [rn_parts H t ht] at hy
    obtain ⟨z, hz, rfl⟩ := List.mem_map.1 hy
    obtain ⟨z1, z2⟩ := ht.1 z hz
    rw [sub_eq]
    by_cases hv : z.v > 0
    · have := ht.2 z hz hv
      rw [if_pos hv, H.eq _ this]
      have := H.pos _ this
      exact ⟨by simp only [v_mk]; omega, fun _ => rfl⟩
    · rw [if_neg hv]
      exact ⟨z1, fun h => absurd h hv⟩
  exact ⟨key _ (hk.vin x hx).1, key _ (hk.vin x hx).2⟩
theorem tidy_twice {c : List Lt} (h : PureC c) : tidyR (tidyR c) = tidyR c := by
  have hk : PureC (keepR [] c) := fun l hl => h l (keepR_mem hl)
  have H := num_rn (varsC_nodup (keepR [] c))
  have e := tidyR_sub h
  have ek : keepR [] (tidyR c) = tidyR c := by
    have := rn_keep H (keepR [] c) [] (fun x hx => by cases hx) hk.vin
    rw [List.map_nil, keepR_twice, ← e] at this
    exact this
  have hp := tidy_pure h
  rw [tidyR_sub hp, ek, tidy_vars h]
  have hid : ∀ t, Pure t → sub (sbOf (numBs ((varsC (keepR [] c)).map (posV (varsC (keepR [] c)))) 0)) t = t := by
    intro t ht
    refine Eq.trans (sub_congr t fun x hx hv => ?_) (sub_id t ht)
    unfold sbOf
    cases hl : lookB x.v (numBs ((varsC (keepR [] c)).map (posV (varsC (keepR [] c)))) 0) with
    | none => rfl
    | some u =>
      have := numBs_ident _ 0 (fun i hi => by rw [pos_map (varsC_nodup _)]; omega) _ _ hl
      rw [this]; rfl
  refine Eq.trans (List.map_congr_left fun l hl => ?_) (List.map_id' _)
  obtain ⟨y, a, b⟩ := l
  simp only [subLt, mapLt]
  rw [hid a (hp _ hl).1, hid b (hp _ hl).2]
theorem sub_len : ∀ (l m : List Int), l.Nodup → (∀ v ∈ l, v ∈ m) → l.length ≤ m.length
  | [], _, _, _ => Nat.zero_le _
  | x :: l, m, hn, h => by
    rw [List.nodup_cons] at hn
    have hx := h x (by simp)
    have h1 := sub_len l (m.erase x) hn.2 fun v hv => (List.mem_erase_of_ne (fun e => hn.1 (by rw [← e]; exact hv))).2 (h v (by simp [hv]))
    rw [List.length_erase_of_mem hx] at h1
    have : 0 < m.length := List.length_pos_of_mem hx
    rw [List.length_cons]; omega
theorem vars_keep {c : List Lt} : ∀ v ∈ varsC (keepR [] c), v ∈ varsC c := fun v hv => by
  rcases addVs_mem hv with h | ⟨x, hx, rfl, h2⟩
  · cases h
  · obtain ⟨t, ht, hx⟩ := List.mem_flatMap.1 hx
    obtain ⟨l, hl, h3⟩ := termsOf_mem ht
    have hl := keepR_mem hl
    refine firstVars_has (t := t) ?_ hx h2
    rcases h3 with rfl | rfl
    · exact (termsOf_in hl).1
    · exact (termsOf_in hl).2
theorem tidy_few {c : List Lt} (h : PureC c) : (varsC (tidyR c)).length ≤ (varsC c).length := by
  rw [tidy_vars h, List.length_map]
  exact sub_len _ _ (varsC_nodup _) vars_keep
theorem tidy_own {g : List Int} {c : List Lt} (h : ∀ l ∈ c, own g l.a = 0 ∧ own g l.b = 0) (hv : ∀ v ∈ varsC (keepR [] c), 1 ≤ v ∧ v ≤ 1000) : ∀ l ∈ tidyR c, own g l.a = 0 ∧ own g l.b = 0 := by
  have hp : PureC c := fun l hl => ⟨own_pure (h l hl).1, own_pure (h l hl).2⟩
  have hk : PureC (keepR [] c) := fun l hl => hp l (keepR_mem hl)
  have H := num_rn (varsC_nodup (keepR [] c))
  have hlen := nodup_le 1000 _ (varsC_nodup (keepR [] c)) hv
  rw [tidyR_sub hp]
  intro l hl
  obtain ⟨x, hx, rfl⟩ := List.mem_map.1 hl
  have hr : ∀ v ∈ varsC (keepR [] c), posV (varsC (keepR [] c)) v ≤ 1000 := fun v hv => by
    have := List.idxOf_lt_length_of_mem hv
    unfold posV; omega
  have ho := h x (keepR_mem hx)
  exact ⟨rn_own H g hr (hk.vin x hx).1 ho.1, rn_own H g hr (hk.vin x hx).2 ho.2⟩
theorem tidyR_len (c : List Lt) : (tidyR c).length ≤ c.length := by
  unfold tidyR; rw [List.length_map]; exact keepR_len c []
end Go.Proofs.Ytmeekpinkfpnhab
namespace Go.Proofs.Ytmeekpinkfpnhab
abbrev tsz (t : Tm) : Nat := (parts t).length
theorem tsz_pos (t : Tm) : 0 < tsz t := by rw [tsz, parts_eq, List.length_append]; simp
theorem tsz_mem {u : Tm} : ∀ {us : List Tm}, u ∈ us → tsz u ≤ (partsL us).length
  | x :: xs, h => by
    rw [partsL, List.length_append]
    rcases List.mem_cons.1 h with rfl | h
    · simp [tsz]
    · have := tsz_mem h; omega
theorem tsz_lt {u t : Tm} (h : u ∈ t.us) : tsz u < tsz t := by
  have := tsz_mem h
  rw [tsz, tsz, parts_eq t, List.length_append]; simp; exact Nat.lt_succ_of_le this
def lexG (g : Tm → Tm → Bool) : List Tm → List Tm → Bool
  | a :: l, b :: m => if same a b then lexG g l m else g a b
  | _, _ => false
theorem lexG_congr {g g' : Tm → Tm → Bool} : ∀ {l m : List Tm}, (∀ a ∈ l, ∀ b ∈ m, g a b = g' a b) → lexG g l m = lexG g' l m
  | [], _, _ => by cases ‹List Tm› <;> rfl
  | _ :: _, [], _ => rfl
  | a :: l, b :: m, h => by
    rw [lexG, lexG, h a (by simp) b (by simp), lexG_congr fun x hx y hy => h x (by simp [hx]) y (by simp [hy])]
def gtStep (g : Tm → Tm → Bool) (s t : Tm) : Bool :=
  if s.v > 0 then false
  else if s.us.any (fun a => same a t || g a t) then true
  else if t.v > 0 ∨ s.f < t.f ∨ t.us.any (fun b => !g s b) = true then false
  else if s.f > t.f then true
  else lexG g s.us t.us
theorem gtStep_congr {g g' : Tm → Tm → Bool} {s t : Tm} (h1 : ∀ a ∈ s.us, g a t = g' a t) (h2 : ∀ b ∈ t.us, g s b = g' s b) (h3 : ∀ a ∈ s.us, ∀ b ∈ t.us, g a b = g' a b) : gtStep g s t = gtStep g' s t := by
  have e1 : s.us.any (fun a => same a t || g a t) = s.us.any (fun a => same a t || g' a t) := by
    rw [Bool.eq_iff_iff, List.any_eq_true, List.any_eq_true]
    exact ⟨fun ⟨a, ha, h⟩ => ⟨a, ha, by rw [← h1 a ha]; exact h⟩, fun ⟨a, ha, h⟩ => ⟨a, ha, by rw [h1 a ha]; exact h⟩⟩
  have e2 : t.us.any (fun b => !g s b) = t.us.any (fun b => !g' s b) := by
    rw [Bool.eq_iff_iff, List.any_eq_true, List.any_eq_true]
    exact ⟨fun ⟨a, ha, h⟩ => ⟨a, ha, by rw [← h2 a ha]; exact h⟩, fun ⟨a, ha, h⟩ => ⟨a, ha, by rw [h2 a ha]; exact h⟩⟩
  unfold gtStep
  rw [e1, e2, lexG_congr h3]
def gtF : Nat → Tm → Tm → Bool
  | 0, _, _ => false
  | n + 1, s, t => gtStep (gtF n) s t
theorem gtF_enough : ∀ (n m : Nat) (s t : Tm), tsz s + tsz t ≤ n → tsz s + tsz t ≤ m → gtF n s t = gtF m s t
  | 0, _, s, t, h, _ => by have := tsz_pos s; omega
  | _ + 1, 0, s, t, _, h => by have := tsz_pos s; omega
  | n + 1, m + 1, s, t, h, h' => by
    rw [gtF, gtF]
    refine gtStep_congr (fun a ha => ?_) (fun b hb => ?_) (fun a ha b hb => ?_)
    · have := tsz_lt ha; exact gtF_enough n m _ _ (by omega) (by omega)
    · have := tsz_lt hb; exact gtF_enough n m _ _ (by omega) (by omega)
    · have := tsz_lt ha; have := tsz_lt hb; exact gtF_enough n m _ _ (by omega) (by omega)
def gt (s t : Tm) : Bool := gtF (tsz s + tsz t) s t
theorem gt_eq (s t : Tm) : gt s t = gtStep gt s t := by
  unfold gt
  obtain ⟨n, hn⟩ : ∃ n, tsz s + tsz t = n + 1 := ⟨tsz s + tsz t - 1, by have := tsz_pos s; omega⟩
  rw [hn, gtF]
  refine gtStep_congr (fun a ha => ?_) (fun b hb => ?_) (fun a ha b hb => ?_)
  · have := tsz_lt ha; exact gtF_enough _ _ _ _ (by omega) (by omega)
  · have := tsz_lt hb; exact gtF_enough _ _ _ _ (by omega) (by omega)
  · have := tsz_lt ha; have := tsz_lt hb; exact gtF_enough _ _ _ _ (by omega) (by omega)
/-! ### parts with the numbers of their arguments -/
def WellN (L : List (Tm × List Int)) (i : Nat) : Prop := ∀ p, L[i]? = some p → p.2.length = p.1.us.length ∧ ∀ (m : Nat) (u : Tm), p.1.us[m]? = some u → ∃ j : Nat, p.2[m]? = some (j : Int) ∧ j < i ∧ (L[j]?).map (·.1) = some u
theorem WellN.more {L M : List (Tm × List Int)} {i : Nat} (hi : i < L.length) (h : WellN L i) : WellN (L ++ M) i := by
  intro p hp
  rw [List.getElem?_append_left hi] at hp
  obtain ⟨h1, h2⟩ := h p hp
  refine ⟨h1, fun m u hu => ?_⟩
  obtain ⟨j, h3, h4, h5⟩ := h2 m u hu
  exact ⟨j, h3, h4, by rw [List.getElem?_append_left (by omega)]; exact h5⟩
theorem pn_last (t : Tm) (n : Nat) : (pn t n)[tsz t - 1]? = some (t, idxs t.us n) := by
  have : tsz t - 1 = (pnL t.us n).length := by rw [pnL_len, tsz, parts_eq, List.length_append]; simp
  rw [this, pn_eq, List.getElem?_append_right (Nat.le_refl _)]
  simp
theorem idxs_at (M : List (Tm × List Int)) : ∀ (us : List Tm) (pre : List (Tm × List Int)) (m : Nat) (u : Tm), us[m]? = some u → ∃ j : Nat, (idxs us pre.length)[m]? = some (j : Int) ∧ j < pre.length + (pnL us pre.length).length ∧ ((pre ++ pnL us pre.length ++ M)[j]?).map (·.1) = some u
  | [], _, m, _, h => by simp at h
  | x :: xs, pre, 0, u, h => by
    simp at h
    subst h
    have hp := tsz_pos x
    refine ⟨pre.length + tsz x - 1, ?_, ?_, ?_⟩
    · simp [idxs, tsz]; unfold tsz at hp; omega
    · rw [pnL, List.length_append, pn_len]; unfold tsz at *; omega
    · rw [pnL, List.append_assoc, List.getElem?_append_right (by omega), List.append_assoc, List.getElem?_append_left (by rw [pn_len]; unfold tsz at *; omega)]
      rw [show pre.length + tsz x - 1 - pre.length = tsz x - 1 by omega, pn_last]
      rfl
  | x :: xs, pre, m + 1, u, h => by
    have h' : xs[m]? = some u := by simpa using h
    obtain ⟨j, h1, h2, h3⟩ := idxs_at M xs (pre ++ pn x pre.length) m u h'
    have e : (pre ++ pn x pre.length).length = pre.length + (parts x).length := by rw [List.length_append, pn_len]
    rw [e] at h1 h2 h3
    refine ⟨j, by simpa [idxs] using h1, by rw [pnL, List.length_append, pn_len]; omega, ?_⟩
    rw [pnL, ← List.append_assoc]
    exact h3
mutual
theorem pn_well : ∀ (t : Tm) (pre : List (Tm × List Int)) (i : Nat), pre.length ≤ i → i < pre.length + tsz t → WellN (pre ++ pn t pre.length) i
  | .mk v f us, pre, i, h1, h2 => by
    rw [tsz, parts, List.length_append] at h2
    simp only [List.length_singleton] at h2
    rw [pn, ← List.append_assoc]
    by_cases hi : i < pre.length + (partsL us).length
    · exact (pnL_well us pre i h1 hi).more (by rw [List.length_append, pnL_len]; exact hi)
    · have he : i = (pre ++ pnL us pre.length).length := by rw [List.length_append, pnL_len]; omega
      intro p hp
      rw [he, List.getElem?_append_right (Nat.le_refl _), Nat.sub_self] at hp
      simp at hp
      subst hp
      refine ⟨by simp [idxs_len, Tm.us], fun m u hu => ?_⟩
      obtain ⟨j, g1, g2, g3⟩ := idxs_at [(Tm.mk v f us, idxs us pre.length)] us pre m u hu
      exact ⟨j, g1, by rw [he, List.length_append]; exact g2, g3⟩
theorem pnL_well : ∀ (us : List Tm) (pre : List (Tm × List Int)) (i : Nat), pre.length ≤ i → i < pre.length + (partsL us).length → WellN (pre ++ pnL us pre.length) i
  | [], pre, i, h1, h2 => by simp [partsL] at h2; omega
  | x :: xs, pre, i, h1, h2 => by
    rw [partsL, List.length_append] at h2
    rw [pnL, ← List.append_assoc]
    have e : (pre ++ pn x pre.length).length = pre.length + (parts x).length := by rw [List.length_append, pn_len]
    by_cases hi : i < pre.length + (parts x).length
    · exact (pn_well x pre i h1 hi).more (by rw [e]; exact hi)
    · have := pnL_well xs (pre ++ pn x pre.length) i (by omega) (by omega)
      rw [e] at this
      exact this
end
theorem pn_well0 (t : Tm) (i : Nat) (h : i < (pn t 0).length) : WellN (pn t 0) i := by
  rw [pn_len] at h
  simpa using pn_well t [] i (Nat.zero_le _) (by simpa [tsz] using h)
end Go.Proofs.Ytmeekpinkfpnhab
