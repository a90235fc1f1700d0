/- Terms, signatures, clauses as pure values. How terms, lists of numbers and signatures lie in memory, and that this stays so while a call only makes memory. Walks through package term and its reference: sizes, signatures, what is wrong with a term. Walks: signatures, and what is wrong with a term, of package term and of the reference. Walks: what is wrong with a term, by package term and by the reference. Walks: are two terms the same, by package term and by the reference. -/
import Derived.Test.YtmeekpinkfpnhabP07
import Derived.Test.YtmeekpinkfpnhabProg
import Derived.WalkKit
import Derived.WalkSpells
import Derived.WalkLawsBesides
import Derived.Deep.AppendLies
import Derived.Deep.QuietTactic
import Derived.BigQuiet
set_option linter.unusedSimpArgs false
set_option linter.unusedSectionVars false
set_option linter.unusedVariables false
set_option linter.unnecessarySimpa false
set_option linter.all false
namespace Go.Proofs.Ytmeekpinkfpnhab
open Go.RowKit
abbrev iD (n : Int) : DV := .v (.int .i64 n)
abbrev bD (b : Bool) : DV := .v (.bool b)
abbrev iA (n : Int) : AV := .d (.v (.int .i64 n))
abbrev bA (b : Bool) : AV := .d (.v (.bool b))
theorem Tm.size_eq (t : Tm) : t.size = 1 + Tm.size.sizes t.us := by cases t; rfl
theorem Tm.sizes_at : ∀ (ts : List Tm) (i : Nat) (h : i < ts.length), ts[i].size ≤ Tm.size.sizes ts
  | t :: ts, 0, _ => by simp only [Tm.size.sizes, List.getElem_cons_zero]; omega
  | t :: ts, i + 1, h => by simp only [Tm.size.sizes, List.getElem_cons_succ]; have := Tm.sizes_at ts i (by simpa using h); omega
theorem Tm.sizes_len : ∀ (ts : List Tm), ts.length ≤ Tm.size.sizes ts
  | [] => Nat.le_refl _
  | t :: ts => by simp only [Tm.size.sizes, List.length_cons]; have := Tm.sizes_len ts; have := t.size_eq; omega
theorem Tm.size_at {t : Tm} {i : Nat} (h : i < t.us.length) : t.us[i].size < t.size := by have := Tm.sizes_at t.us i h; rw [t.size_eq]; omega
theorem Tm.len_lt (t : Tm) : t.us.length < t.size := by have := Tm.sizes_len t.us; rw [t.size_eq]; omega
def tmDV (t : Tm) : DV := .st [.v (.int .i64 t.v), .v (.int .i64 t.f), .sl (t.us.attach.map fun u => tmDV u.1)]
termination_by t.size
decreasing_by
  obtain ⟨i, hi, e⟩ := List.mem_iff_getElem.1 u.2
  rw [← e]; exact Tm.size_at hi
theorem tmDV_eq (t : Tm) : tmDV t = .st [.v (.int .i64 t.v), .v (.int .i64 t.f), .sl (t.us.map tmDV)] := by
  rw [tmDV]
  simp only [List.map_subtype, List.unattach_attach]
@[go_sem] theorem tmDV_cells (t : Tm) : (tmDV t).cells = [.v (.int .i64 t.v), .v (.int .i64 t.f), .sl (t.us.map tmDV)] := by rw [tmDV_eq]; rfl
@[go_sem] theorem tmDV_fold (t : Tm) : DV.st [.v (.int .i64 t.v), .v (.int .i64 t.f), .sl (t.us.map tmDV)] = tmDV t := (tmDV_eq t).symm
theorem nth_map {α : Type} (g : α → DV) {l : List α} {k : Nat} (hk : k < l.length) (d : DV) : (l.map g).getD k d = g l[k] := by
  rw [List.getD_eq_getElem?_getD, List.getElem?_map, List.getElem?_eq_getElem hk]; rfl
@[go_sem] theorem allD_nil : allD [] = some [] := rfl
@[go_sem] theorem allD_d (x : DV) (l : List AV) : allD (.d x :: l) = (allD l).map (x :: ·) := by
  rw [allD]; cases allD l <;> rfl
@[go_sem] theorem allD_n (l : List AV) : allD (.nil :: l) = (allD l).map (.sl [] :: ·) := by
  rw [allD]; cases allD l <;> rfl
@[go_sem] theorem allD_own (n : Nm) (xs : List DV) (l : List AV) : allD (.own n xs :: l) = (allD l).map (.sl xs :: ·) := by
  rw [allD]; cases allD l <;> rfl
@[go_sem] theorem map_append' {α β : Type} (f : α → β) (l r : List α) : l.map f ++ r.map f = (l ++ r).map f := List.map_append.symm
def ownEff (e : TypeId) (n : Nm) (xs ys : List DV) : Eff := ⟨.own n ys, [(n, some (.perm e xs.length))], [(n, some (.perm e ys.length))]⟩
def newEff (e : TypeId) (n' : Nm) (ys : List DV) : Eff := ⟨.own n' ys, [(n', none)], [(n', some (.perm e ys.length))]⟩
theorem ret_own {P : Program} {fn : Func} {n : Nm} {e : TypeId} {xs ys : List DV} {h0 : Heap} {k : Nat} {s : St} (h1 : resOkL P fn.ntmps s fn.results.toList) (h2 : resA P s fn.results.toList = .own n ys) (hn : n.1 < k)
    (hp : s.h n = some (.perm e ys.length)) (hfr : ∀ x : Nm, x.1 < k → x ≠ n → s.h x = h0 x) : RetOK P fn (ownEff e n xs ys) h0 k s := by
  refine ⟨h1, none, ?_, fun x hx _ => ?_, fun y hy => (by cases hy), ?_⟩
  · rw [h2]; exact .refl fun m hm => by simp [ownEff, AV.names] at hm; subst hm; exact hn
  · by_cases hx2 : x = n
    · subst hx2; simp [ownEff, Eff.ap, upd, hp]
    · simp [ownEff, Eff.ap, upd, hx2, hfr x hx hx2]
  · intro x hx ob ho y hy
    simp only [ownEff, List.mem_cons, List.not_mem_nil, or_false] at hx
    subst hx
    cases ho; cases hy
theorem ret_new {P : Program} {fn : Func} {n' q : Nm} {e : TypeId} {ys : List DV} {h0 : Heap} {k : Nat} {s : St} (h1 : resOkL P fn.ntmps s fn.results.toList) (h2 : resA P s fn.results.toList = .own q ys) (hq : k ≤ q.1) (hn' : n'.1 < k) (h0' : h0 n' = none)
    (hp : s.h q = some (.perm e ys.length)) (hfr : Fr k h0 s.h) : RetOK P fn (newEff e n' ys) h0 k s := by
  have e1 : (newEff e n' ys).ap h0 n' = some (.perm e ys.length) := by simp [newEff, Eff.ap, upd]
  refine ⟨h1, some (n', q), ?_, fun x hx hxn => ?_, ?_, ?_⟩
  · rw [h2]; exact .own rfl
  · have hxn := hxn _ rfl
    simp only at hxn
    simp [newEff, Eff.ap, upd, hxn, hfr x hx]
  · rintro y hy
    cases hy
    exact ⟨hn', hq, h0', ⟨_, by simp only [newEff]; exact List.mem_cons_self .., rfl⟩, _, e1, hp, rfl⟩
  · intro x hx ob ho y hy
    simp only [newEff, List.mem_cons, List.not_mem_nil, or_false] at hx
    subst hx
    cases ho; cases hy
theorem HRel.hide {P : Program} {w0 w : World} {h h' : Heap} {k : Nat} {m : Mem} {β : Bl} {n : Nm} (H : HRel P w0 h' k m β w) (hh : ∀ x, x ≠ n → h' x = h x) (hn : h n = none) (hnm : ∀ x ob, h x = some ob → n ∉ ob.names) : HRel P w0 h k m (fun x => if x = n then none else β x) w := by
  have hne : ∀ x ob, h x = some ob → x ≠ n := fun x ob ho e => by subst e; rw [hn] at ho; cases ho
  have hb : ∀ x p, (if x = n then none else β x) = some p → x ≠ n ∧ β x = some p := fun x p hx => by
    split at hx
    · cases hx
    · exact ⟨by assumption, hx⟩
  refine ⟨H.ext, H.mem, fun x p hx => H.dom x p (hb x p hx).2, fun x p ob hx ho hr => ?_, fun x ob ho => ?_, fun x y p q ob ob' h1 h2 h3 h4 h5 h6 => ?_⟩
  · obtain ⟨h1, h2⟩ := hb x p hx
    exact H.new x p ob h2 ((hh x h1).trans ho) hr
  · obtain ⟨p, hp, hob⟩ := H.obj x ob ((hh x (hne x ob ho)).trans ho)
    refine ⟨p, by show (if x = n then none else β x) = _; rw [if_neg (hne x ob ho)]; exact hp, ?_⟩
    have hnn := hnm x ob ho
    cases ob with
    | cells ty cs =>
      obtain ⟨hv, c, c1, c2, c3, c4⟩ := hob
      refine ⟨hv, c, c1, c2, fun i u a hi ha => ⟨(c3 i u a hi ha).1, (c3 i u a hi ha).2.names fun y hy => ?_⟩, c4⟩
      have : y ≠ n := fun e => hnn (by subst e; exact names_mem ha hy)
      show (if y = n then none else β y) = _
      rw [if_neg this]
    | perm ty len => exact hob
    | map es => exact hob
    | iter src n' seen =>
      obtain ⟨h1, q, sn, h2, h3⟩ := hob
      have : src ≠ n := fun e => hnn (by subst e; simp [Ob.names])
      exact ⟨h1, q, sn, by show (if src = n then none else β src) = _; rw [if_neg this]; exact h2, h3⟩
    | bag es0 => exact hob
    | gro e len cs =>
      obtain ⟨hver, hob⟩ := hob
      refine ⟨hver, ?_⟩
      rcases hob with h | ⟨c, c1, c2, c3, c4, c5, c6, c7⟩
      · exact .inl h
      · refine .inr ⟨c, c1, c2, c3, c4, c5, fun i v a hi ha => ⟨(c6 i v a hi ha).1, (c6 i v a hi ha).2.names fun y hy => ?_⟩, c7⟩
        have : y ≠ n := fun e => hnn (by subst e; exact names_mem ha hy)
        show (if y = n then none else β y) = _
        rw [if_neg this]
  · exact H.inj x y p q ob ob' ((hh x (hne x ob h1)).trans h1) ((hh y (hne y ob' h2)).trans h2) (hb x p h3).2 (hb y q h4).2 h5 h6
theorem HRel.obk {P : Program} {w0 w : World} {h : Heap} {k : Nat} {m : Mem} {β : Bl} (H : HRel P w0 h k m β w) {n : Nm} {ob : Ob} (hn : h n = some ob) : ∀ y ∈ ob.names, ∃ p, β y = some p := by
  obtain ⟨q, hq, hob⟩ := H.obj n ob hn
  cases ob with
  | cells ty cs =>
    obtain ⟨_, c, c1, c2, c3, c4⟩ := hob
    intro y hy
    obtain ⟨i, a, hi, ha⟩ := mem_names hy
    have hlt := (List.getElem?_eq_some_iff.1 hi).1
    exact (c3 i _ a (Array.getElem?_eq_getElem (by omega)) hi).2.known y ha
  | iter src n' seen =>
    obtain ⟨_, q, sn, h2, _⟩ := hob
    intro y hy
    simp [Ob.names] at hy; subst hy
    exact ⟨q, h2⟩
  | gro e len cs =>
    intro y hy
    obtain ⟨i, a, hi, ha⟩ := mem_names hy
    have hlt := (List.getElem?_eq_some_iff.1 hi).1
    rcases hob.2 with ⟨_, _, h3⟩ | ⟨c, c1, c2, c3, c4, c5, c6, c7⟩
    · subst h3; cases hi
    · have hm : len * szT P e ≤ q.2 * szT P e := Nat.mul_le_mul_right _ c3
      exact (c6 i _ a (Array.getElem?_eq_getElem (by omega)) hi).2.known y ha
  | _ => intro y hy; simp [Ob.names] at hy
theorem Tri.data {P : Program} {f : FuncId} {args : List AV} {e : TypeId} {ys : List DV} (h : ∀ n', Tri P f args (newEff e n' ys)) : Tri P f args (pure' (.d (.sl ys))) := by
  intro w0 hh k m β w cargs H _ _ hsz hargs
  have hb : β (k, 0) = none := by
    cases hb : β (k, 0) with
    | none => rfl
    | some p => have := H.dom _ _ hb; simp at this
  have hn : hh (k, 0) = none := by
    cases hn : hh (k, 0) with
    | none => rfl
    | some ob => obtain ⟨p, hp, _⟩ := H.obj _ _ hn; rw [hb] at hp; cases hp
  refine (h (k, 0) w0 hh (k + 1) m β w cargs (H.tick (Nat.le_succ _)) (fun x hx => ?_) (fun x hx => ?_) hsz hargs).mono ?_
  · simp only [newEff, List.mem_cons, List.not_mem_nil, or_false] at hx; subst hx; exact hn
  · simp only [newEff, List.mem_cons, List.not_mem_nil, or_false] at hx; subst hx; exact ⟨Nat.lt_succ_self _, fun _ => hb⟩
  rintro en w' ⟨v, m', β', rfl, g1, g2, g3, g4, g5⟩
  have g3 : ∀ n, n ≠ (k, 0) → β n = none → β' n = none := fun n hne => g3 n fun x hx => by
    simp only [newEff, List.mem_cons, List.not_mem_nil, or_false] at hx; subst hx; exact Ne.symm hne
  have hap : ∀ n, n ≠ (k, 0) → (newEff e (k, 0) ys).ap hh n = hh n := fun n hne => by simp [newEff, Eff.ap, upd, hne]
  have H' := g4.hide hap hn fun x ob ho hx => by
    obtain ⟨p, hp⟩ := H.obk ho _ hx
    rw [hb] at hp; cases hp
  refine ⟨v, m', _, rfl, g1, fun n p hp => ?_, fun n _ h0 => ?_, ⟨H'.ext, H'.mem, fun n p hn => ?_, H'.new, H'.obj, H'.inj⟩, ?_⟩
  · obtain ⟨p', q1, q2⟩ := g2 n p hp
    refine ⟨p', ?_, q2⟩
    show (if n = (k, 0) then none else β' n) = _
    rw [if_neg (fun e => by subst e; rw [hb] at hp; cases hp)]; exact q1
  · show (if n = (k, 0) then none else β' n) = _
    split
    · rfl
    · rename_i hne; exact g3 n hne h0
  · have hne : n ≠ (k, 0) := fun e => by subst e; simp at hn
    have hn : β' n = some p := by simpa [hne] using hn
    cases h0 : β n with
    | none => rw [g3 n hne h0] at hn; cases hn
    | some q => exact H.dom n q h0
  · simp only [newEff] at g5
    cases g5 with
    | own hd _ _ _ _ => exact .d hd
def codeAt : List Bool → Code → Option Code
  | [], c => some c
  | false :: p, .seq a _ => codeAt p a
  | true :: p, .seq _ b => codeAt p b
  | false :: p, .cond _ a _ => codeAt p a
  | true :: p, .cond _ _ b => codeAt p b
  | _ :: p, .block _ a => codeAt p a
  | _ :: p, .loop a => codeAt p a
  | _, _ => none
def bodyAt (f : Func) (p : List Bool) : Option Code := f.body.bind (codeAt p)
theorem hid {p : Prop} (h : p) : Hid p := h
abbrev Ext (w w' : World) : Prop := Below w.heap.size w w'
theorem Ext.rfl' (w : World) : Ext w w := Below.refl _ _
theorem Ext.step {a b c : World} (h : Ext a b) (k : Ext b c) : Ext a c := h.trans (k.mono h.size)
theorem Ext.new {a b : World} (h : Ext a b) (o : Obj) : Ext a (b.alloc o) := Below.alloc h h.size o
theorem Ext.draw {a b : World} (h : Ext a b) : Ext a b.drew := Below.drew h
theorem Ext.draws {a b : World} (h : Ext a b) (n : Nat) : Ext a (b.drewN n) := ⟨h.os, h.tape, h.output, h.size, h.block⟩
theorem Ext.one (w : World) (o : Obj) : Ext w (w.alloc o) := (Ext.rfl' w).new o
theorem add_none (b o n : Nat) : (⟨b, o, none⟩ : Addr).add n = ⟨b, o + n, none⟩ := by
  unfold Addr.add; split <;> simp_all
theorem cell_lt {w : World} {p : Addr} {v : Value} (h : w.cell? p = some v) : p.block < w.heap.size := by
  rcases Nat.lt_or_ge p.block w.heap.size with hlt | hge
  · exact hlt
  · rw [World.cell?, Array.getElem?_eq_none hge] at h; cases h
theorem Ext.some_ {w w' : World} (h : Ext w w') {p : Addr} {v : Value} (hc : w.cell? p = some v) : w'.cell? p = some v := (h.cell (cell_lt hc)).trans hc
theorem wp_region_mild {P : Program} {id : Nat} {Q : Exit → Act → World → Prop} {a : Act} {w : World} {l : List Oper} (hm : P.follows .mixedOrders = true) (hB : Region.lexB .any l.toArray = true)
    (h : ∀ (I : Type) [Nonempty I] (W : I → World), (∀ i, Ext w (W i)) → (∀ w', Ext w w' → ∃ i, w' = W i) → wpQuiet P l.toArray (fun w' => ∃ i, w' = W i) (fun a' => ∀ w', (∃ i, w' = W i) → Q .normal a' w') l a) : (Code.region id l.toArray true).wp P Q a w := by
  have hC : ∀ w', Ext w w' → ∃ i : { w' // Ext w w' }, w' = i.1 := fun w' h => ⟨⟨w', h⟩, rfl⟩
  refine wp_region_quiet (C := fun w' => ∃ i : { w' // Ext w w' }, w' = i.1) hm hB (hC _ (Ext.draw (Ext.rfl' w))) ?_
  haveI : Nonempty { w' // Ext w w' } := ⟨⟨w, Ext.rfl' w⟩⟩
  simpa using h { w' // Ext w w' } (fun i => i.1) (fun i => i.2) hC
theorem mild_cell {I : Type} {W : I → World} {w : World} (hE : ∀ i, Ext w (W i)) {p : Addr} {v : Value} (hc : w.cell? p = some v) : ∀ i, (W i).cell? p = some v := fun i => (hE i).some_ hc
theorem mild_call {P : Program} {I : Type} {W : I → World} {w : World} (hE : ∀ i, Ext w (W i)) (hC : ∀ w', Ext w w' → ∃ i, w' = W i) {f : FuncId} {args : Array Value} {v : Value} {i : I}
    (h : Calls P f args (W i) fun e w' => e = .returned v ∧ Ext (W i) w') : Calls P f args (W i) fun e w'' => e = .returned v ∧ ∃ j, w'' = W j :=
  h.mono fun _ _ ⟨he, hx⟩ => ⟨he, hC _ ((hE i).step hx)⟩
theorem Ext.boxed {w wr : World} {c : Array Value} {t : TypeId} (h : Ext (w.alloc (.cells c t)) wr) (i : Nat) : wr.cell? ⟨w.heap.size, i, none⟩ = c[i]? := by
  rw [h.cell (p := ⟨w.heap.size, i, none⟩) (by simp), World.cell?_alloc_new]
theorem Ext.boxed2 {w wr : World} {c : Array Value} {t : TypeId} {o : Obj} (h : Ext ((w.alloc (.cells c t)).alloc o) wr) (i : Nat) : wr.cell? ⟨w.heap.size, i, none⟩ = c[i]? :=
  Ext.boxed ((Ext.one _ o).step h) i
theorem Ext.boxed2' {w wr : World} {c : Array Value} {t : TypeId} {o : Obj} (h : Ext ((w.alloc o).alloc (.cells c t)) wr) (i : Nat) : wr.cell? ⟨w.heap.size + 1, i, none⟩ = c[i]? := by
  have := Ext.boxed h i
  simpa using this
theorem Ext.sz2 {w wr : World} {o o' : Obj} (h : Ext ((w.alloc o).alloc o') wr) : w.heap.size < wr.heap.size ∧ w.heap.size + 1 < wr.heap.size := by have := h.size; simp at this; omega
theorem Ext.two (w : World) (o o' : Obj) : Ext w ((w.alloc o).alloc o') := (Ext.one _ _).new _
def Keeps (S : Nat → Prop) (w w' : World) : Prop := w.heap.size ≤ w'.heap.size ∧ ∀ b, S b → b < w.heap.size → w'.heap[b]? = w.heap[b]?
theorem Keeps.ext {S : Nat → Prop} {w w' : World} (h : Ext w w') : Keeps S w w' := ⟨h.size, fun b _ hb => h.block b hb⟩
theorem Keeps.grown {S : Nat → Prop} {w w' : World} {r : Option Nat} (h : w.grownBy w' r) (hr : ∀ b, S b → some b ≠ r) : Keeps S w w' := ⟨h.size, fun b hb hl => h.block b hl (hr b hb)⟩
theorem Keeps.cell {S : Nat → Prop} {w w' : World} (h : Keeps S w w') {ad : Addr} (hs : S ad.block) (hb : ad.block < w.heap.size) : w'.cell? ad = w.cell? ad :=
  World.cell?_of_block (h.2 _ hs hb)
def Sl (w : World) (S : Nat → Prop) (sz : Nat) {α : Type} (R : α → Addr → Prop) (ts : List α) (a : Option Addr) : Prop :=
  ∀ i (h : i < ts.length), ∃ b o, a = some ⟨b, o, none⟩ ∧ S b ∧ b < w.heap.size ∧ R ts[i] ⟨b, o + i * sz, none⟩
section
variable {α : Type} {w w' : World} {S S' : Nat → Prop} {sz : Nat} {R R' : α → Addr → Prop} {ts : List α} {a : Option Addr}
theorem Sl.nil_ : Sl w S sz R [] a := fun i h => absurd h (by simp)
theorem Sl.some_ (h : Sl w S sz R ts a) (hn : 0 < ts.length) : ∃ b o, a = some ⟨b, o, none⟩ := by
  obtain ⟨b, o, e, _⟩ := h 0 hn; exact ⟨b, o, e⟩
theorem Sl.at_ {b o : Nat} (h : Sl w S sz R ts (some ⟨b, o, none⟩)) {i : Nat} (hi : i < ts.length) :
    S b ∧ b < w.heap.size ∧ R ts[i] ⟨b, o + i * sz, none⟩ := by
  obtain ⟨b', o', e, h1, h2, h3⟩ := h i hi
  cases e; exact ⟨h1, h2, h3⟩
theorem Sl.mono (h : Sl w S sz R ts a) (hl : ∀ b, S b → b < w.heap.size → S' b) (hw : w.heap.size ≤ w'.heap.size) (hR : ∀ t ∈ ts, ∀ ad : Addr, S ad.block → ad.block < w.heap.size → R t ad → R' t ad) : Sl w' S' sz R' ts a :=
  fun i hi => by
    obtain ⟨b, o, e, h1, h2, h3⟩ := h i hi
    exact ⟨b, o, e, hl _ h1 h2, by omega, hR _ (List.getElem_mem hi) _ h1 h2 h3⟩
end
abbrev IntC (w : World) (n : Int) (ad : Addr) : Prop := w.cell? ad = some (.int .i64 n)
abbrev SlI (w : World) (S : Nat → Prop) (is : List Int) (a : Option Addr) : Prop := Sl w S 1 (IntC w) is a
theorem SlI.keep {w w' : World} {S S' : Nat → Prop} {is : List Int} {a : Option Addr} (h : SlI w S is a) (hk : Keeps S w w') (hs : ∀ b, S b → b < w.heap.size → S' b) : SlI w' S' is a :=
  Sl.mono h hs hk.1 fun _ _ _ h1 hb hc => (hk.cell h1 hb).trans hc
theorem SlI.ext {w w' : World} {S : Nat → Prop} {is : List Int} {a : Option Addr} (h : SlI w S is a) (hx : Ext w w') : SlI w' S is a := h.keep (.ext hx) fun _ h _ => h
mutual
def TmC (w : World) (S : Nat → Prop) : Tm → Addr → Prop
  | .mk v f us, ad => w.cell? ad = some (.int .i64 v) ∧ w.cell? (ad.add 1) = some (.int .i64 f) ∧
      ∃ a cap, w.cell? (ad.add 2) = some (.slice a us.length cap) ∧ us.length ≤ cap ∧ cap ≤ maxLen ∧ TmsC w S us a
def TmsC (w : World) (S : Nat → Prop) : List Tm → Option Addr → Prop
  | [], _ => True
  | t :: ts, a => ∃ b o, a = some ⟨b, o, none⟩ ∧ S b ∧ b < w.heap.size ∧ TmC w S t ⟨b, o, none⟩ ∧ TmsC w S ts (some ⟨b, o + 3, none⟩)
end
abbrev SlT (w : World) (S : Nat → Prop) (ts : List Tm) (a : Option Addr) : Prop := Sl w S 3 (TmC w S) ts a
theorem TmsC.to {w : World} {S : Nat → Prop} : ∀ {ts : List Tm} {a : Option Addr}, TmsC w S ts a → SlT w S ts a := by
  intro ts
  induction ts with
  | nil => intro a _; exact Sl.nil_
  | cons t ts ih =>
    rintro a ⟨b, o, rfl, h1, h2, h3, h4⟩ i hi
    cases i with
    | zero => exact ⟨b, o, rfl, h1, h2, by simpa using h3⟩
    | succ i =>
      obtain ⟨b', o', e, g1, g2, g3⟩ := ih h4 i (by simpa using hi)
      cases e
      refine ⟨b, o, rfl, h1, h2, ?_⟩
      rw [show o + (i + 1) * 3 = o + 3 + i * 3 by omega]
      simpa using g3
theorem TmsC.of {w : World} {S : Nat → Prop} : ∀ {ts : List Tm} {a : Option Addr}, SlT w S ts a → TmsC w S ts a := by
  intro ts
  induction ts with
  | nil => intro a _; exact trivial
  | cons t ts ih =>
    intro a h
    obtain ⟨b, o, rfl⟩ := h.some_ (by simp)
    obtain ⟨h1, h2, h3⟩ := h.at_ (i := 0) (by simp)
    refine ⟨b, o, rfl, h1, h2, by simpa using h3, ih ?_⟩
    intro i hi
    obtain ⟨g1, g2, g3⟩ := h.at_ (i := i + 1) (by simpa using hi)
    refine ⟨b, o + 3, rfl, g1, g2, ?_⟩
    rw [show o + 3 + i * 3 = o + (i + 1) * 3 by omega]
    simpa using g3
theorem TmC.iff {w : World} {S : Nat → Prop} {t : Tm} {ad : Addr} : TmC w S t ad ↔ (w.cell? ad = some (.int .i64 t.v) ∧ w.cell? (ad.add 1) = some (.int .i64 t.f) ∧
      ∃ a cap, w.cell? (ad.add 2) = some (.slice a t.us.length cap) ∧ t.us.length ≤ cap ∧ cap ≤ maxLen ∧ SlT w S t.us a) := by
  obtain ⟨v, f, us⟩ := t
  constructor
  · rintro ⟨h1, h2, a, cap, h3, h4, h5, h6⟩; exact ⟨h1, h2, a, cap, h3, h4, h5, h6.to⟩
  · rintro ⟨h1, h2, a, cap, h3, h4, h5, h6⟩; exact ⟨h1, h2, a, cap, h3, h4, h5, TmsC.of h6⟩
theorem TmC.read {w : World} {S : Nat → Prop} {t : Tm} {b o : Nat} (h : TmC w S t ⟨b, o, none⟩) : w.cell? ⟨b, o, none⟩ = some (.int .i64 t.v) ∧ w.cell? ⟨b, o + 1, none⟩ = some (.int .i64 t.f) ∧
      ∃ a cap, w.cell? ⟨b, o + 2, none⟩ = some (.slice a t.us.length cap) ∧ t.us.length ≤ cap ∧ cap ≤ maxLen ∧ SlT w S t.us a := by
  have := TmC.iff.1 h
  rwa [add_none, add_none] at this
theorem TmC.keep {w w' : World} {S S' : Nat → Prop} (hk : Keeps S w w') (hs : ∀ b, S b → b < w.heap.size → S' b) : ∀ (t : Tm) (ad : Addr), S ad.block → ad.block < w.heap.size → TmC w S t ad → TmC w' S' t ad := by
  intro t
  induction t using Tm.ind with
  | h t ih =>
    intro ad h0 hb ht
    obtain ⟨h1, h2, a, cap, h3, h4, h5, h6⟩ := TmC.iff.1 ht
    have e : ∀ n, (ad.add n).block = ad.block := by intro n; unfold Addr.add; split <;> rfl
    exact TmC.iff.2 ⟨(hk.cell h0 hb).trans h1, (hk.cell (by rw [e]; exact h0) (by rw [e]; exact hb)).trans h2, a, cap, (hk.cell (by rw [e]; exact h0) (by rw [e]; exact hb)).trans h3, h4, h5,
      Sl.mono h6 hs hk.1 fun u hu ad h0 hb hc => ih u hu ad h0 hb hc⟩
theorem SlT.keep {w w' : World} {S S' : Nat → Prop} {ts : List Tm} {a : Option Addr} (h : SlT w S ts a) (hk : Keeps S w w') (hs : ∀ b, S b → b < w.heap.size → S' b) : SlT w' S' ts a :=
  Sl.mono h hs hk.1 fun _ _ _ h0 hb hc => TmC.keep hk hs _ _ h0 hb hc
theorem SlT.ext {w w' : World} {S : Nat → Prop} {ts : List Tm} {a : Option Addr} (h : SlT w S ts a) (hx : Ext w w') : SlT w' S ts a := h.keep (.ext hx) fun _ h _ => h
theorem SlT.wide {w : World} {S S' : Nat → Prop} {ts : List Tm} {a : Option Addr} (h : SlT w S ts a) (hs : ∀ b, S b → b < w.heap.size → S' b) : SlT w S' ts a := h.keep (.ext (Ext.rfl' w)) hs
theorem SlT.readAt {w : World} {S : Nat → Prop} {ts : List Tm} {b o : Nat} (h : SlT w S ts (some ⟨b, o, none⟩)) {i : Nat} (hi : i < ts.length) :
    b < w.heap.size ∧ w.cell? ⟨b, o + i * 3, none⟩ = some (.int .i64 ts[i].v) ∧ w.cell? ⟨b, o + i * 3 + 1, none⟩ = some (.int .i64 ts[i].f) ∧
      ∃ a cap, w.cell? ⟨b, o + i * 3 + 2, none⟩ = some (.slice a ts[i].us.length cap) ∧ ts[i].us.length ≤ cap ∧ cap ≤ maxLen ∧ SlT w S ts[i].us a := by
  obtain ⟨_, h2, h3⟩ := h.at_ hi
  exact ⟨h2, h3.read⟩
def TmV (w : World) (S : Nat → Prop) (t : Tm) (x : Value) : Prop :=
  ∃ a cap, x = .agg #[.int .i64 t.v, .int .i64 t.f, .slice a t.us.length cap] ∧ t.us.length ≤ cap ∧ cap ≤ maxLen ∧ SlT w S t.us a
theorem TmV.keep {w w' : World} {S S' : Nat → Prop} {t : Tm} {x : Value} (h : TmV w S t x) (hk : Keeps S w w') (hs : ∀ b, S b → b < w.heap.size → S' b) : TmV w' S' t x := by
  obtain ⟨a, cap, e, h1, h2, h3⟩ := h; exact ⟨a, cap, e, h1, h2, h3.keep hk hs⟩
theorem TmV.ext {w w' : World} {S : Nat → Prop} {t : Tm} {x : Value} (h : TmV w S t x) (hx : Ext w w') : TmV w' S t x := h.keep (.ext hx) fun _ h _ => h
def SlIV (w : World) (S : Nat → Prop) (is : List Int) (x : Value) : Prop := ∃ a cap, x = .slice a is.length cap ∧ is.length ≤ cap ∧ cap ≤ maxLen ∧ SlI w S is a
def SgV (w : World) (S : Nat → Prop) (g : List Int) (x : Value) : Prop := ∃ a cap, x = .agg #[.slice a g.length cap] ∧ g.length ≤ cap ∧ cap ≤ maxLen ∧ SlI w S g a
theorem SgV.ext {w w' : World} {S : Nat → Prop} {g : List Int} {x : Value} (h : SgV w S g x) (hx : Ext w w') : SgV w' S g x := by
  obtain ⟨a, cap, e, h1, h2, h3⟩ := h; exact ⟨a, cap, e, h1, h2, h3.ext hx⟩
theorem ret_int {k : IntKind} {a b : Int} (h : a = b) : Ending.returned (.int k a) = .returned (.int k b) := by rw [h]
theorem ret_bool {a b : Bool} (h : a = b) : Ending.returned (.bool a) = .returned (.bool b) := by rw [h]
def Own (w : World) (base e sz : Nat) (xs : List Value) (v : Value) : Prop := w.ownsRow base e sz v xs.length (xs.flatMap (·.cells.toList)) ∧ ∀ x ∈ xs, x.cells.size = sz
section
variable {w w' : World} {base e sz : Nat} {xs : List Value} {v : Value}
theorem Own.nil_ (w : World) (base e sz : Nat) : Own w base e sz [] (.slice none 0 0) := ⟨⟨by simp, .inl ⟨rfl, rfl⟩⟩, by simp⟩
theorem Own.grown {r : Option Nat} (h : Own w base e sz xs v) (hg : w.grownBy w' r) (hne : v.ownBlock ≠ r ∨ v.ownBlock = none) : Own w' base e sz xs v := by
  refine ⟨?_, h.2⟩
  obtain ⟨h1, h2⟩ := h.1
  refine ⟨h1, ?_⟩
  rcases h2 with h2 | ⟨g, cap, cur, hv, hb, hh, hr⟩
  · exact .inl h2
  · right
    have hlt : g < w.heap.size := by
      rcases Nat.lt_or_ge g w.heap.size with hlt | hge
      · exact hlt
      · rw [Array.getElem?_eq_none hge] at hh; cases hh
    have : some g ≠ r := by
      subst hv
      rcases hne with hne | hne
      · exact hne
      · cases hne
    exact ⟨g, cap, cur, hv, hb, (hg.block g hlt this).trans hh, hr⟩
theorem Own.ext (h : Own w base e sz xs v) (hx : Ext w w') : Own w' base e sz xs v := by
  refine ⟨?_, h.2⟩
  obtain ⟨h1, h2⟩ := h.1
  refine ⟨h1, ?_⟩
  rcases h2 with h2 | ⟨g, cap, cur, hv, hb, hh, hr⟩
  · exact .inl h2
  · right
    have hlt : g < w.heap.size := by
      rcases Nat.lt_or_ge g w.heap.size with hlt | hge
      · exact hlt
      · rw [Array.getElem?_eq_none hge] at hh; cases hh
    exact ⟨g, cap, cur, hv, hb, (hx.block g hlt).trans hh, hr⟩
theorem Own.form (h : Own w base e sz xs v) : (xs = [] ∧ v = .slice none 0 0) ∨ ∃ g cap, v = .slice (some ⟨g, 0, none⟩) xs.length cap ∧ base ≤ g ∧ g < w.heap.size ∧ xs.length ≤ cap ∧ cap ≤ maxLen := by
  rcases h.1.2 with ⟨h1, h2⟩ | ⟨g, cap, cur, hv, hb, hh, h3, h4, _⟩
  · exact .inl ⟨List.eq_nil_of_length_eq_zero h2, h1⟩
  · refine .inr ⟨g, cap, hv, hb, ?_, h3, h4⟩
    rcases Nat.lt_or_ge g w.heap.size with hlt | hge
    · exact hlt
    · rw [Array.getElem?_eq_none hge] at hh; cases hh
theorem Own.slice (h : Own w base e sz xs v) : ∃ a cap, v = .slice a xs.length cap ∧ xs.length ≤ cap ∧ cap ≤ maxLen := by
  rcases h.form with ⟨rfl, rfl⟩ | ⟨g, cap, hv, _, _, h1, h2⟩
  · exact ⟨none, 0, rfl, by simp, by simp [maxLen]⟩
  · exact ⟨_, cap, hv, h1, h2⟩
theorem Own.block (h : Own w base e sz xs v) {g : Nat} (hg : v.ownBlock = some g) : base ≤ g ∧ g < w.heap.size := by
  rcases h.form with ⟨_, rfl⟩ | ⟨g', cap, rfl, h1, h2, _⟩
  · cases hg
  · cases hg; exact ⟨h1, h2⟩
theorem flatMap_at {sz : Nat} : ∀ (xs : List Value), (∀ x ∈ xs, x.cells.size = sz) → ∀ i (hi : i < xs.length) j, j < sz → (xs.flatMap (·.cells.toList))[i * sz + j]? = xs[i].cells[j]? := by
  intro xs
  induction xs with
  | nil => intro _ i hi; simp at hi
  | cons x xs ih =>
    intro h i hi j hj
    have hx := h x (by simp)
    cases i with
    | zero =>
      rw [List.flatMap_cons, List.getElem?_append_left (by simp [hx]; omega)]
      simp
    | succ i =>
      rw [List.flatMap_cons, List.getElem?_append_right (by simp [hx, Nat.add_mul]; omega)]
      have := ih (fun x hx => h x (by simp [hx])) i (by simpa using hi) j hj
      simp only [List.getElem_cons_succ]
      rw [← this]
      congr 1
      simp [hx, Nat.add_mul]
      omega
theorem Own.cell {g n cap : Nat} (h : Own w base e sz xs (.slice (some ⟨g, 0, none⟩) n cap)) {i : Nat} (hi : i < xs.length) {j : Nat} (hj : j < sz) : w.cell? ⟨g, i * sz + j, none⟩ = xs[i].cells[j]? := by
  obtain ⟨h1, h2⟩ := h.1
  rcases h2 with ⟨h2, _⟩ | ⟨g', cap', cur, hv, hb, hh, h3, h4, h5, h6⟩
  · cases h2
  · cases hv
    rw [← flatMap_at xs h.2 i hi j hj, ← h6, List.getElem?_take]
    have : i * sz + j < xs.length * sz := by
      have : (i + 1) * sz ≤ xs.length * sz := Nat.mul_le_mul_right _ hi
      rw [Nat.add_mul] at this
      omega
    rw [if_pos this, World.cell?, hh]
    simp
end
structure ElemOk (P : Program) (t e sz bytes : Nat) : Prop where
  ht : P.underlying t = some (.slice e)
  info : ∃ i z, P.info? e = some i ∧ i.zero = some z ∧ i.size = sz ∧ i.bytes = bytes ∧ z.cells.size = sz
  pos : 0 < sz
theorem ElemOk.mk' {P : Program} {t e sz bytes : Nat} {z : Value} (ht : P.underlying t = some (.slice e)) (h : (P.info? e).map (fun i => (i.zero, i.size, i.bytes)) = some (some z, sz, bytes)) (hz : z.cells.size = sz) (hs : 0 < sz) : ElemOk P t e sz bytes := by
  obtain ⟨i, h1, h2, h3, h4⟩ := info_parts h
  exact ⟨ht, ⟨i, z, h1, h2, h3, h4, hz⟩, hs⟩
theorem wpList_push {P : Program} {t e sz bytes : Nat} (hE : ElemOk P t e sz bytes) {ops : Array Oper} {rest : List Oper} {o : Oper} {a : Act} {Q : Exit → Act → World → Prop} (hgd : o.guard = none) (s x : Operand)
    (ho : o.op = .call { callee := .builtin .append, args := #[s, x], argTypes := #[t, t] }) {w : World} (y : Value) (hy : y.cells.size = sz) (h1 : ∀ u ∈ y.cells.toList, u.oneCell' = true)
    {base : Nat} {v : Value} {xs : List Value} (hs : a.eval s = v) (hown : Own w base e sz xs v) (hx : a.eval x = .slice (some ⟨w.heap.size, 0, none⟩) 1 1)
    (hbytes : (xs.length + 1) * bytes ≤ 140737488355328) (hlen : xs.length + 1 ≤ maxLen) (hbase : base ≤ w.heap.size)
    (k : ∀ g cap w', Own w' base e sz (xs ++ [y]) (.slice (some ⟨g, 0, none⟩) (xs.length + 1) cap) → w.grownBy w' v.ownBlock → (v.ownBlock = some g ∨ w.heap.size < g) → g < w'.heap.size →
      wpList P ops Q rest (a.put o.dst (.slice (some ⟨g, 0, none⟩) (xs.length + 1) cap)) w') : wpList P ops Q (o :: rest) a (w.alloc (.cells y.cells e)) := by
  obtain ⟨i, z, hi, hz, hz1, hz2, hzs⟩ := hE.info
  have hown' : (w.alloc (.cells y.cells e)).ownsRow base e sz v xs.length (xs.flatMap (·.cells.toList)) := (hown.ext (Ext.one _ _)).1
  refine wpList_append_lies _ hgd s x t ho base e i z sz bytes hE.ht hi hz hz1 hz2 hzs hE.pos v xs.length _ hs hown' ⟨w.heap.size, 0, none⟩ 1 1 y.cells.toList hx (by simp [hy])
    (World.news_of_block (heap_alloc_new w _)) h1 (by omega) hlen hbytes (by simp; omega) (w.heap.size + 1) (by simp) ?_
  intro g cap w' h2 h3 h4 h5
  refine k g cap w' ⟨by simpa using h2, ?_⟩ ?_ (h4.imp id (by omega)) h5
  · intro u hu
    rcases List.mem_append.1 hu with hu | hu
    · exact hown.2 _ hu
    · rw [List.mem_singleton.1 hu]; exact hy
  · refine ⟨h3.os, h3.tape, h3.output, by have := h3.size; simp at this; omega, fun k hk hne => ?_⟩
    rw [h3.block k (by simp; omega) hne]
    exact Below.heap_alloc _ _ _ hk
theorem grown_trans {a b c : World} {r r' : Option Nat} (h : a.grownBy b r) (hr : r' = r ∨ ∃ g, r' = some g ∧ a.heap.size ≤ g) (k : b.grownBy c r') : a.grownBy c r :=
  ⟨k.os.trans h.os, k.tape.trans h.tape, k.output.trans h.output, Nat.le_trans h.size k.size, fun i hi hne => by
    have := h.size
    rw [k.block i (by omega) (by
      rcases hr with rfl | ⟨g, rfl, hg⟩
      · exact hne
      · intro e; cases e; omega), h.block i hi hne]⟩
theorem grown_ext {a b : World} (h : Ext a b) (r : Option Nat) : a.grownBy b r := ⟨h.os, h.tape, h.output, h.size, fun i hi _ => h.block i hi⟩
theorem grown_box {w wr : World} {c : Array Value} {t : TypeId} {r : Option Nat} (h : (w.alloc (.cells c t)).grownBy wr r) (hr : ∀ g, r = some g → g < w.heap.size) (i : Nat) : wr.cell? ⟨w.heap.size, i, none⟩ = c[i]? := by
  rw [World.cell?_of_block (h.block w.heap.size (by simp) (fun e => by have := hr _ e.symm; omega)), World.cell?_alloc_new]
def CountSpec (t : Tm) : Prop := ∀ (S : Nat → Prop) (x : Value) (w : World) (most : Int), TmV w S t x → 0 ≤ most → most ≤ 1000000 →
    Calls Try.prog 69 #[x, .int .i64 most] w fun e w' => e = .returned (.int .i64 (count t most)) ∧ Ext w w'
set_option maxHeartbeats 400000 in
theorem count_step (t : Tm) (ih : ∀ u ∈ t.us, CountSpec u) : CountSpec t := by
  rintro S x w most ⟨a, cap, rfl, h1, h2, h3⟩ hm0 hm1
  unfold maxLen at h2
  go_enter Try.func69, Try.ntmps69
  go_wp2_with fail
  go_loopw [5, 11] (fun n i wr => ∃ (k : Nat) (m : Int), k ≤ t.us.length ∧ i = .int .i64 k ∧ n = .int .i64 m ∧ 1 ≤ m ∧ m ≤ most + 1 ∧ countL (t.us.drop k) m most = count t most ∧ Ext w wr) (fun _ i _ => t.us.length - (intOf i).toNat)
  case atStart => exact ⟨0, 1, by omega, rfl, rfl, by omega, by omega, (count_eq t most).symm, Ext.one _ _⟩
  case round =>
    obtain ⟨k, m, hk, rfl, rfl, hm2, hm3, hc, hx⟩ := hrel
    have HC := hid hc; clear hc
    by_cases hlt : k < t.us.length
    · obtain ⟨b, o, rfl⟩ := h3.some_ (by omega)
      obtain ⟨c1, c2, a1, cap1, c3, l1, l2, s1⟩ := ((h3.ext hx).readAt hlt).2
      have IH := hid (ih _ (List.getElem_mem hlt)); clear ih
      go_wp2_with fail
      · have hgt : most < m := by assumption
        go_ret
        refine ⟨ret_int ?_, hx.new _⟩
        rw [← HC.out, countL_stop (by omega)]
      · have hle : m ≤ most := by assumption
        refine (IH.out S _ _ (most - m) ⟨a1, cap1, rfl, l1, l2, s1.ext (Ext.one _ _)⟩ (by omega) (by omega)).mono ?_
        rintro e w' ⟨rfl, hx'⟩
        obtain ⟨hq1, hq2⟩ := count_le t.us[k] (most - m) (by omega)
        have HCL := hid (countL_go hlt hle)
        generalize hgc : count t.us[k] (most - m) = q at *
        clear hgc
        go_wp2_with fail
        go_roundw
        case rel => exact ⟨k + 1, m + q, by omega, by go_num, rfl, by omega, by omega, by rw [← HC.out, HCL.out], (hx.new _).step hx'⟩
        case measure => simp [intOf]; omega
    · obtain rfl : k = t.us.length := by omega
      go_wp2_with fail
      go_ret
      refine ⟨ret_int ?_, hx⟩
      rw [← HC.out, countL_end]
theorem count_any (t : Tm) : CountSpec t := Tm.ind count_step t
def FormSpec (g : List Int) (t : Tm) : Prop := ∀ (S S' : Nat → Prop) (y x : Value) (w : World), SgV w S' g y → TmV w S t x →
    Calls Try.prog 70 #[y, x] w fun e w' => e = .returned (.int .i64 (form g t)) ∧ Ext w w'
set_option maxHeartbeats 400000 in
theorem form_step (g : List Int) (t : Tm) (ih : ∀ u ∈ t.us, FormSpec g u) : FormSpec g t := by
  rintro S S' y x w ⟨ga, gc, rfl, g1, g2, g3⟩ ⟨a, cap, rfl, h1, h2, h3⟩
  unfold maxLen at h2 g2
  go_enter Try.func70, Try.ntmps70
  go_wp2_with fail
  go_loopw [11] (fun i wr => ∃ (k : Nat), k ≤ t.us.length ∧ i = .int .i64 k ∧ formL g t.us = formL g (t.us.drop k) ∧ Ext ((w.alloc (.cells #[.slice ga g.length gc] 24)).alloc (.cells #[.int .i64 t.v, .int .i64 t.f, .slice a t.us.length cap] 28)) wr) (fun i _ => t.us.length - (intOf i).toNat)
  case atStart => exact ⟨0, by omega, rfl, rfl, Ext.rfl' _⟩
  case round =>
    obtain ⟨k, hk, rfl, hc, hx⟩ := hrel
    have HC := hid hc; clear hc
    have hx0 := (Ext.two _ _ _).step hx
    have b0 : wr.cell? ⟨w.heap.size, 0, none⟩ = some (.slice ga g.length gc) := hx.boxed2 0
    obtain ⟨hz0, hz1⟩ := hx.sz2
    have c0 : wr.cell? ⟨w.heap.size + 1, 0, none⟩ = some (.int .i64 t.v) := hx.boxed2' 0
    have c1 : wr.cell? ⟨w.heap.size + 1, 1, none⟩ = some (.int .i64 t.f) := hx.boxed2' 1
    have c2 : wr.cell? ⟨w.heap.size + 1, 2, none⟩ = some (.slice a t.us.length cap) := hx.boxed2' 2
    by_cases hlt : k < t.us.length
    · obtain ⟨b, o, rfl⟩ := h3.some_ (by omega)
      obtain ⟨d1, d2, a1, cap1, d3, l1, l2, s1⟩ := ((h3.ext hx0).readAt hlt).2
      have IH := hid (ih _ (List.getElem_mem hlt)); clear ih
      go_wp2_with fail
      refine (IH.out S S' _ _ _ ⟨ga, gc, rfl, g1, g2, g3.ext (hx0.new _)⟩ ⟨a1, cap1, rfl, l1, l2, s1.ext (Ext.one _ _)⟩).mono ?_
      rintro e w' ⟨rfl, hx'⟩
      have hfl := hid (show formL g (t.us.drop k) = if form g t.us[k] ≠ 0 then form g t.us[k] else formL g (t.us.drop (k + 1)) by rw [List.drop_eq_getElem_cons hlt, formL])
      generalize hq : form g t.us[k] = q at *
      have HQ := hid hq; clear hq
      by_cases hq0 : q = 0
      · subst hq0
        go_wp2_with fail
        go_roundw
        case rel => exact ⟨k + 1, by omega, by go_num, by rw [HC.out, hfl.out]; rfl, (hx.new _).step hx'⟩
        case measure => simp [intOf]; omega
      · have hq1 : (q != 0) = true := by simpa using hq0
        go_wp2_with fail
        go_ret
        refine ⟨ret_int ?_, (hx0.new _).step hx'⟩
        have : formL g t.us = q := by rw [HC.out, hfl.out, if_pos hq0]
        rw [form_eq, this, if_pos hq0]
    · obtain rfl : k = t.us.length := by omega
      have HF := hid (show form g t = formOne g t.v t.f t.us.length by rw [form_eq, if_neg]; rw [HC.out, List.drop_length, formL]; simp)
      clear ih HC
      by_cases hv : t.v = 0
      · by_cases hf0 : 0 ≤ t.f ∧ t.f < g.length
        · obtain ⟨f1, f2⟩ := hf0
          obtain ⟨b, o, rfl⟩ := g3.some_ (by omega)
          obtain ⟨_, hb, hgc⟩ := g3.at_ (i := t.f.toNat) (by omega)
          have hgc' := hx0.cell (p := ⟨b, o + t.f.toNat * 1, none⟩) hb
          rw [hgc] at hgc'
          simp only [Nat.mul_one] at hgc'
          clear hgc
          have HG := hid (show g.getD t.f.toNat 0 = g[t.f.toNat] from getD_at (by omega) _)
          generalize g[t.f.toNat] = gn at *
          go_wp2_with fail
          go_quiet (fail)
          go_wp2_with fail
          · have hne : (↑t.us.length != gn) = true := by assumption
            go_ret
            refine ⟨ret_int ?_, hx0.draws _⟩
            rw [HF.out, formOne, if_neg (by simpa using hv), if_neg (by omega), HG.out, if_pos (by simpa using hne)]
          · have hne : (↑t.us.length != gn) = false := by assumption
            go_ret
            refine ⟨ret_int ?_, hx0.draws _⟩
            rw [HF.out, formOne, if_neg (by simpa using hv), if_neg (by omega), HG.out, if_neg (by simpa using hne)]
        · have HV := hid (show form g t = 5 by rw [HF.out, formOne, if_neg (by simpa using hv), if_pos (by omega)])
          by_cases f1 : t.f < 0
          · go_wp2_with fail
            go_ret
            exact ⟨ret_int HV.out.symm, hx0⟩
          · have f2 : (g.length : Int) ≤ t.f := by omega
            go_wp2_with fail
            go_ret
            exact ⟨ret_int HV.out.symm, hx0⟩
      · have hv' : (t.v != 0) = true := by simpa using hv
        by_cases h1 : t.v < 1
        · have HV := hid (show form g t = 3 by rw [HF.out, formOne, if_pos hv, if_pos (by omega)])
          go_wp2_with fail
          go_ret
          exact ⟨ret_int HV.out.symm, hx0⟩
        · by_cases h2 : 1000 < t.v
          · have HV := hid (show form g t = 3 by rw [HF.out, formOne, if_pos hv, if_pos (by omega)])
            go_wp2_with fail
            go_ret
            exact ⟨ret_int HV.out.symm, hx0⟩
          · by_cases h3 : 0 < t.us.length
            · have HV := hid (show form g t = 1 by rw [HF.out, formOne, if_pos hv, if_neg (by omega), if_pos (by omega)])
              go_wp2_with fail
              go_ret
              exact ⟨ret_int HV.out.symm, hx0⟩
            · by_cases h4 : t.f = 0
              · have HV := hid (show form g t = 0 by rw [HF.out, formOne, if_pos hv, if_neg (by omega), if_neg (by omega)])
                have h4' : (t.f != 0) = false := by simpa using h4
                clear h4
                go_wp2_with fail
                go_ret
                exact ⟨ret_int HV.out.symm, hx0⟩
              · have HV := hid (show form g t = 1 by rw [HF.out, formOne, if_pos hv, if_neg (by omega), if_pos (by omega)])
                have h4' : (t.f != 0) = true := by simpa using h4
                clear h4
                go_wp2_with fail
                go_ret
                exact ⟨ret_int HV.out.symm, hx0⟩
theorem form_any (g : List Int) (t : Tm) : FormSpec g t := Tm.ind (form_step g) t
def btw (n a b : Int) : Bool := decide (a ≤ n) && decide (n ≤ b)
set_option maxHeartbeats 400000 in
theorem between_any (n a b : Int) (w : World) : Calls Try.prog 36 #[.int .i64 n, .int .i64 a, .int .i64 b] w fun e w' => e = .returned (.bool (btw n a b)) ∧ w = w' := by
  by_cases h1 : a ≤ n
  · go_enter Try.func36, Try.ntmps36
    go_wp2_with fail
    go_ret
    exact ⟨ret_bool (by simp [btw, h1]), rfl⟩
  · have e : btw n a b = false := by simp only [btw, decide_eq_false h1, Bool.false_and]
    go_enter Try.func36, Try.ntmps36
    go_wp2_with fail
    go_ret
    exact ⟨rfl, rfl⟩
def idx {α : Type} (p : α → Bool) (l : List α) : Int := if l.any p then (l.findIdx p : Nat) else -1
theorem idx_nonneg {α : Type} (p : α → Bool) (l : List α) : decide (0 ≤ idx p l) = l.any p := by
  unfold idx; split <;> simp_all
theorem idx_yes {α : Type} {p : α → Bool} {l : List α} {k : Nat} (hk : k < l.length) (h0 : (l.take k).any p = false) (h1 : p l[k] = true) : idx p l = k := by
  have hm : l.any p = true := List.any_eq_true.2 ⟨_, List.getElem_mem hk, h1⟩
  rw [idx, if_pos hm]
  congr 1
  rw [List.findIdx_eq hk]
  refine ⟨h1, fun j hj => ?_⟩
  have := List.any_eq_false.1 h0 l[j] (List.mem_take_iff_getElem.2 ⟨j, by omega, rfl⟩)
  simpa using this
theorem idx_no {α : Type} {p : α → Bool} {l : List α} (h : (l.take l.length).any p = false) : idx p l = -1 := by
  rw [List.take_length] at h; rw [idx, h]; rfl
theorem any_take_succ {α : Type} {p : α → Bool} {l : List α} {k : Nat} (hk : k < l.length) (h0 : (l.take k).any p = false) (h1 : p l[k] = false) : (l.take (k + 1)).any p = false := by
  rw [List.take_succ_eq_append_getElem hk, List.any_append, h0]; simp [h1]
set_option maxRecDepth 10000 in
set_option maxHeartbeats 400000 in
theorem indexInt_any (S : Nat → Prop) (is : List Int) (p : Int → Bool) (a : Option Addr) (cap fk : Nat) (caps : Array Value) (w : World) (hc1 : is.length ≤ cap) (hc2 : cap ≤ maxLen) (hs : SlI w S is a)
    (hfk : ∀ args w, Sem.run Try.prog (callFunc fk args) w = .ok (.enter fk args) w)
    (hf : ∀ i (_ : i < is.length) (wr : World), Ext w wr → Calls Try.prog fk (#[.int .i64 is[i]] ++ caps) wr fun e w' => e = .returned (.bool (p is[i])) ∧ Ext wr w') :
    Calls Try.prog 102 #[.slice a is.length cap, .func (.func fk) #[] caps] w fun e w' => e = .returned (.int .i64 (idx p is)) ∧ Ext w w' := by
  unfold maxLen at hc2
  have HF := hid hf; clear hf
  go_enter Try.func102, Try.ntmps102
  go_wp2_with fail
  go_loopw [8] (fun i wr => ∃ k : Nat, k ≤ is.length ∧ i = .int .i64 k ∧ (is.take k).any p = false ∧ Ext w wr) (fun i _ => is.length - (intOf i).toNat)
  case atStart => exact ⟨0, by omega, rfl, by simp, Ext.rfl' _⟩
  case round =>
    obtain ⟨k, hk, rfl, hn, hx⟩ := hrel
    have HN := hid hn; clear hn
    by_cases hlt : k < is.length
    · obtain ⟨b, o, rfl⟩ := hs.some_ (by omega)
      obtain ⟨_, _, hc⟩ := (hs.ext hx).at_ hlt
      have hc : wr.cell? ⟨b, o + k, none⟩ = some (.int .i64 is[k]) := by simpa using hc
      have HC := hid (HF.out k hlt wr hx)
      have HY := hid (fun h1 => idx_yes hlt HN.out (p := p) h1)
      have HZ := hid (fun h1 => any_take_succ hlt HN.out (p := p) h1)
      generalize hp : p is[k] = q at *
      clear hp
      go_wp2_with fail
      refine HC.out.mono ?_
      rintro e w' ⟨rfl, hx'⟩
      cases q
      · go_wp2_with fail
        go_roundw
        case rel => exact ⟨k + 1, by omega, by go_num, HZ.out trivial, hx.step hx'⟩
        case measure => simp [intOf]; omega
      · go_wp2_with fail
        go_ret
        exact ⟨ret_int (HY.out trivial).symm, hx.step hx'⟩
    · obtain rfl : k = is.length := by omega
      go_wp2_with fail
      go_ret
      exact ⟨ret_int (idx_no HN.out).symm, hx⟩
set_option maxHeartbeats 400000 in
theorem containsInt_any (S : Nat → Prop) (is : List Int) (p : Int → Bool) (a : Option Addr) (cap fk : Nat) (caps : Array Value) (w : World) (hc1 : is.length ≤ cap) (hc2 : cap ≤ maxLen) (hs : SlI w S is a)
    (hfk : ∀ args w, Sem.run Try.prog (callFunc fk args) w = .ok (.enter fk args) w)
    (hf : ∀ i (_ : i < is.length) (wr : World), Ext w wr → Calls Try.prog fk (#[.int .i64 is[i]] ++ caps) wr fun e w' => e = .returned (.bool (p is[i])) ∧ Ext wr w') :
    Calls Try.prog 67 #[.slice a is.length cap, .func (.func fk) #[] caps] w fun e w' => e = .returned (.bool (is.any p)) ∧ Ext w w' := by
  have HF := hid hf; clear hf
  go_enter Try.func67, Try.ntmps67
  go_wp2_with fail
  refine (indexInt_any S is p a cap fk caps w hc1 hc2 hs hfk HF.out).mono ?_
  rintro e w' ⟨rfl, hx⟩
  clear hfk
  have he := idx_nonneg p is
  generalize idx p is = q at *
  generalize hr : is.any p = r at *
  have HR := hid hr
  clear hr
  go_wp2_with fail
  go_ret
  exact ⟨ret_bool HR.out.symm, hx⟩
set_option maxHeartbeats 400000 in
theorem sigNot_any (n : Int) (w : World) : Calls Try.prog 68 #[.int .i64 n] w fun e w' => e = .returned (.bool (decide (n < 0) || decide (n > 3))) ∧ w = w' := by
  by_cases h1 : n < 0
  · go_enter Try.func68, Try.ntmps68
    go_wp2_with fail
    go_ret
    exact ⟨ret_bool (by simp [h1]), rfl⟩
  · go_enter Try.func68, Try.ntmps68
    go_wp2_with fail
    go_ret
    exact ⟨ret_bool (by simp; omega), rfl⟩
theorem sigNot_enter (args : Array Value) (w : World) : Sem.run Try.prog (callFunc 68 args) w = .ok (.enter 68 args) w := by
  go_simp
set_option maxHeartbeats 400000 in
theorem signature_any (S : Nat → Prop) (g : List Int) (y : Value) (w : World) (hg : SgV w S g y) : Calls Try.prog 31 #[y] w fun e w' => e = .returned (.int .i64 (sigOk g)) ∧ Ext w w' := by
  obtain ⟨a, cap, rfl, h1, h2, h3⟩ := hg
  by_cases h12 : 12 < g.length
  · go_enter Try.func31, Try.ntmps31
    go_wp2_with fail
    go_ret
    exact ⟨ret_int (by rw [sigOk, if_pos h12]), Ext.one _ _⟩
  · go_enter Try.func31, Try.ntmps31
    go_wp2_with fail
    refine (containsInt_any S g (fun n => decide (n < 0) || decide (n > 3)) a cap 68 #[] _ h1 h2 (h3.ext (Ext.one _ _)) sigNot_enter (fun i hi wr _ => (sigNot_any _ wr).mono ?_)).mono ?_
    · rintro e w' ⟨rfl, rfl⟩; exact ⟨rfl, Ext.rfl' _⟩
    rintro e w' ⟨rfl, hx⟩
    have HS := hid (show sigOk g = if g.any (fun n => decide (n < 0) || decide (n > 3)) then 3 else 0 by rw [sigOk, if_neg h12])
    generalize g.any (fun n => decide (n < 0) || decide (n > 3)) = q at *
    cases q
    · go_wp2_with fail
      go_ret
      exact ⟨ret_int HS.out.symm, (Ext.one _ _).step hx⟩
    · go_wp2_with fail
      go_ret
      exact ⟨ret_int HS.out.symm, (Ext.one _ _).step hx⟩
set_option maxHeartbeats 400000 in
theorem own_any (S S' : Nat → Prop) (g : List Int) (t : Tm) (y x : Value) (w : World) (hg : SgV w S' g y) (ht : TmV w S t x) :
    Calls Try.prog 32 #[y, x] w fun e w' => e = .returned (.int .i64 (own g t)) ∧ Ext w w' := by
  have hct := count_any t S x
  have hfm := form_any g t S S' y x
  have hg0 := hg
  have ht0 := ht
  obtain ⟨ga, gc, rfl, g1, g2, g3⟩ := hg
  obtain ⟨a, cap, rfl, h1, h2, h3⟩ := ht
  have HC := hid hct; clear hct
  have HF := hid hfm; clear hfm
  have HO := hid (show own g t = if count t 120 > 120 then 2 else form g t from rfl)
  go_enter Try.func32, Try.ntmps32
  go_wp2_with fail
  refine (HC.out _ 120 (ht0.ext (Ext.two _ _ _)) (by omega) (by omega)).mono ?_
  rintro e w1 ⟨rfl, hx1⟩
  have b0 : w1.cell? ⟨w.heap.size, 0, none⟩ = some (.slice ga g.length gc) := hx1.boxed2 0
  have c0 : w1.cell? ⟨w.heap.size + 1, 0, none⟩ = some (.int .i64 t.v) := hx1.boxed2' 0
  have c1 : w1.cell? ⟨w.heap.size + 1, 1, none⟩ = some (.int .i64 t.f) := hx1.boxed2' 1
  have c2 : w1.cell? ⟨w.heap.size + 1, 2, none⟩ = some (.slice a t.us.length cap) := hx1.boxed2' 2
  have hx0 := (Ext.two _ _ _).step hx1
  generalize hq : count t 120 = q at *
  clear hq
  by_cases hgt : 120 < q
  · go_wp2_with fail
    go_ret
    exact ⟨ret_int (by rw [HO.out, if_pos hgt]), hx0⟩
  · go_wp2_with fail
    refine (HF.out _ (hg0.ext hx0) (ht0.ext hx0)).mono ?_
    rintro e w2 ⟨rfl, hx2⟩
    go_wp2_with fail
    go_ret
    exact ⟨ret_int (by rw [HO.out, if_neg (by omega)]), hx0.step hx2⟩
def EqPost (I J : World → Prop) (e : Ending) (w' : World) : Prop := ∃ r : Bool, e = .returned (.bool r) ∧ (r = true → I w') ∧ (r = false → J w')
set_option maxRecDepth 10000 in
set_option maxHeartbeats 400000 in
theorem equalT_any (S S' : Nat → Prop) (xs ys : List Tm) (hlen : xs.length = ys.length) (a a' : Option Addr) (cap cap' fk : Nat) (caps : Array Value) (w : World) (I : Nat → World → Prop) (J : World → Prop)
    (hc1 : xs.length ≤ cap) (hc2 : cap ≤ maxLen) (_hc1' : ys.length ≤ cap') (_hc2' : cap' ≤ maxLen)
    (hI : ∀ i wr, I i wr → SlT wr S xs a ∧ SlT wr S' ys a') (hA : ∀ i wr o, I i wr → I i (wr.alloc o)) (h0 : I 0 w)
    (hfk : ∀ args w, Sem.run Try.prog (callFunc fk args) w = .ok (.enter fk args) w)
    (hf : ∀ i (h : i < xs.length) (h' : i < ys.length) (wr : World) (x y : Value), I i wr → TmV wr S xs[i] x → TmV wr S' ys[i] y → Calls Try.prog fk (#[x, y] ++ caps) wr (EqPost (I (i + 1)) J)) :
    Calls Try.prog 74 #[.slice a xs.length cap, .slice a' ys.length cap', .func (.func fk) #[] caps] w (EqPost (I xs.length) J) := by
  unfold maxLen at hc2
  have HF := hid hf; clear hf
  have HI := hid hI; clear hI
  have HA := hid hA; clear hA
  have hne : ((xs.length : Int) != ys.length) = false := by simp [hlen]
  have HL := hid hlen; clear hlen
  have H0 := hid h0; clear h0
  go_enter Try.func74, Try.ntmps74
  go_wp2_with fail
  clear hne
  go_loopw [17] (fun i wr => ∃ k : Nat, k ≤ xs.length ∧ i = .int .i64 k ∧ Hid (I k wr)) (fun i _ => xs.length - (intOf i).toNat)
  case atStart => exact ⟨0, by omega, rfl, H0.out⟩
  case round =>
    obtain ⟨k, hk, rfl, hi⟩ := hrel
    obtain ⟨h1, h2⟩ := HI.out k wr hi.out
    by_cases hlt : k < xs.length
    · have hlt' : k < ys.length := by have := HL.out; omega
      obtain ⟨b, o, rfl⟩ := h1.some_ (by omega)
      obtain ⟨b', o', rfl⟩ := h2.some_ (by omega)
      obtain ⟨hz, d1, d2, a1, cap1, d3, l1, l2, s1⟩ := SlT.readAt h1 hlt
      obtain ⟨hz', d1', d2', a1', cap1', d3', l1', l2', s1'⟩ := SlT.readAt h2 hlt'
      go_wp2_with fail
      refine (HF.out k hlt hlt' _ _ _ (HA.out _ _ _ (HA.out _ _ _ hi.out)) ⟨a1, cap1, rfl, l1, l2, s1.ext (Ext.two _ _ _)⟩ ⟨a1', cap1', rfl, l1', l2', s1'.ext (Ext.two _ _ _)⟩).mono ?_
      rintro e w' ⟨r, rfl, hr1, hr2⟩
      have HR1 := hid hr1; clear hr1
      have HR2 := hid hr2; clear hr2
      cases r
      · go_wp2_with fail
        go_ret
        exact ⟨false, rfl, fun h => by simp at h, fun _ => HR2.out trivial⟩
      · go_wp2_with fail
        go_roundw
        case rel => exact ⟨k + 1, by omega, by go_num, HR1.out trivial⟩
        case measure => simp [intOf]; omega
    · obtain rfl : k = xs.length := by omega
      go_wp2_with fail
      go_ret
      exact ⟨true, rfl, fun _ => hi.out, fun h => by simp at h⟩
set_option maxHeartbeats 400000 in
theorem equalT_no (xs ys : List Tm) (hlen : xs.length ≠ ys.length) (a a' : Option Addr) (cap cap' : Nat) (fv : Value) (w : World) :
    Calls Try.prog 74 #[.slice a xs.length cap, .slice a' ys.length cap', fv] w fun e w' => e = .returned (.bool false) ∧ w = w' := by
  have hne : ((xs.length : Int) != ys.length) = true := by simp; omega
  clear hlen
  go_enter Try.func74, Try.ntmps74
  go_wp2_with fail
  go_ret
  exact ⟨rfl, rfl⟩
theorem same_enter (args : Array Value) (w : World) : Sem.run Try.prog (callFunc 73 args) w = .ok (.enter 73 args) w := by
  go_simp
def SameSpec (t : Tm) : Prop := ∀ (S S' : Nat → Prop) (u : Tm) (x y : Value) (w : World), TmV w S t x → TmV w S' u y →
    Calls Try.prog 73 #[x, y] w fun e w' => e = .returned (.bool (same t u)) ∧ Ext w w'
set_option maxHeartbeats 400000 in
theorem same_step (t : Tm) (ih : ∀ u ∈ t.us, SameSpec u) : SameSpec t := by
  rintro S S' u x y w ⟨a, cap, rfl, h1, h2, h3⟩ ⟨a', cap', rfl, h1', h2', h3'⟩
  have HE := hid (same_eq t u)
  by_cases hv : t.v = u.v
  · have hv' : (t.v == u.v) = true := by simpa using hv
    clear hv
    by_cases hf : t.f = u.f
    · have hf' : (t.f == u.f) = true := by simpa using hf
      clear hf
      by_cases hl : t.us.length = u.us.length
      · have HL := hid hl; clear hl
        go_enter Try.func73, Try.ntmps73
        go_wp2_with fail
        refine (equalT_any S S' t.us u.us HL.out a a' cap cap' 73 #[] _ (fun i wr => Ext w wr ∧ sameL (t.us.take i) (u.us.take i) = true) (fun wr => Ext w wr ∧ sameL t.us u.us = false) h1 h2 h1' h2'
          (fun i wr h => ⟨h3.ext h.1, h3'.ext h.1⟩) (fun i wr o h => ⟨h.1.new _, h.2⟩) ⟨Ext.two _ _ _, rfl⟩ same_enter ?hf).mono ?_
        case hf =>
          intro i hi hi' wr x y hw hx hy
          refine (ih _ (List.getElem_mem hi) S S' _ x y wr hx hy).mono ?_
          rintro e w' ⟨rfl, hx'⟩
          refine ⟨_, rfl, fun h => ⟨hw.1.step hx', ?_⟩, fun h => ⟨hw.1.step hx', ?_⟩⟩
          · exact sameL_take hi hi' hw.2 h
          · exact sameL_not hi hi' h
        rintro e w' ⟨r, rfl, hr1, hr2⟩
        have HR1 := hid hr1; clear hr1
        have HR2 := hid hr2; clear hr2
        clear ih
        cases r
        · go_wp2_with fail
          go_ret
          obtain ⟨hx, hn⟩ := HR2.out trivial
          exact ⟨ret_bool (by rw [HE.out, hn]; simp), hx⟩
        · go_wp2_with fail
          go_ret
          obtain ⟨hx, hn⟩ := HR1.out trivial
          rw [HL.out, List.take_length, ← HL.out, List.take_length] at hn
          exact ⟨ret_bool (by rw [HE.out, hn, hv', hf']; rfl), hx⟩
      · go_enter Try.func73, Try.ntmps73
        go_wp2_with fail
        refine (equalT_no t.us u.us hl a a' cap cap' _ _).mono ?_
        rintro e w' ⟨rfl, rfl⟩
        have HN := hid (show sameL t.us u.us = false from sameL_len hl)
        clear hl ih
        go_wp2_with fail
        go_ret
        exact ⟨ret_bool (by rw [HE.out, HN.out]; simp), Ext.two _ _ _⟩
    · have hf' : (t.f == u.f) = false := by simpa using hf
      clear hf ih
      go_enter Try.func73, Try.ntmps73
      go_wp2_with fail
      go_ret
      exact ⟨ret_bool (by rw [HE.out, hf']; simp), Ext.two _ _ _⟩
  · have hv' : (t.v == u.v) = false := by simpa using hv
    clear hv ih
    go_enter Try.func73, Try.ntmps73
    go_wp2_with fail
    go_ret
    exact ⟨ret_bool (by rw [HE.out, hv']; simp), Ext.two _ _ _⟩
theorem same_any (t : Tm) : SameSpec t := Tm.ind same_step t
end Go.Proofs.Ytmeekpinkfpnhab
