/- What arguments read as, as pure values: number, truth, text, list, struct. -/
import Derived.Test.YtmeekpinkfpnhabGreatP04
import Derived.Test.YtmeekpinkfpnhabGreatP06
import Derived.Test.YtmeekpinkfpnhabGreatProg
import Derived.WalkKit
import Derived.WalkSpells
import Derived.WalkLawsBesides
import Derived.Deep.AppendLies
import Derived.Deep.QuietTactic
import Derived.BigQuiet
import Derived.ProofKit
set_option linter.all false
namespace Go.Proofs.YtmeekpinkfpnhabGreat
open Go.RowKit
theorem hid {p : Prop} (h : p) : Hid p := h
abbrev Ext (w w' : World) : Prop := Below w.heap.size w w'
theorem Ext.rfl' (w : World) : Ext w w := Below.refl _ _
theorem Ext.step {a b c : World} (h : Ext a b) (k : Ext b c) : Ext a c := h.trans (k.mono h.size)
theorem Ext.new {a b : World} (h : Ext a b) (o : Obj) : Ext a (b.alloc o) := Below.alloc h h.size o
theorem Ext.draw {a b : World} (h : Ext a b) : Ext a b.drew := Below.drew h
theorem Ext.draws {a b : World} (h : Ext a b) (n : Nat) : Ext a (b.drewN n) := ⟨h.os, h.tape, h.output, h.size, h.block⟩
theorem Ext.one (w : World) (o : Obj) : Ext w (w.alloc o) := (Ext.rfl' w).new o
theorem add_none (b o n : Nat) : (⟨b, o, none⟩ : Addr).add n = ⟨b, o + n, none⟩ := by
 unfold Addr.add; split <;> simp_all
theorem cell_lt {w : World} {p : Addr} {v : Value} (h : w.cell? p = some v) : p.block < w.heap.size := by
 rcases Nat.lt_or_ge p.block w.heap.size with hlt | hge
 ·exact hlt
 ·rw [World.cell?, Array.getElem?_eq_none hge] at h; cases h
theorem Ext.some_ {w w' : World} (h : Ext w w') {p : Addr} {v : Value} (hc : w.cell? p = some v) : w'.cell? p = some v := (h.cell (cell_lt hc)).trans hc
theorem wp_region_mild {P : Program} {id : Nat} {Q : Exit → Act → World → Prop} {a : Act} {w : World} {l : List Oper} (hm : P.follows .mixedOrders = true) (hB : Region.lexB .any l.toArray = true)
  (h : ∀ (I : Type) [Nonempty I] (W : I → World), (∀ i, Ext w (W i)) → (∀ w', Ext w w' → ∃ i, w' = W i) → wpQuiet P l.toArray (fun w' => ∃ i, w' = W i) (fun a' => ∀ w', (∃ i, w' = W i) → Q .normal a' w') l a) : (Code.region id l.toArray true).wp P Q a w := by
 have hC : ∀ w', Ext w w' → ∃ i : { w' // Ext w w' }, w' = i.1 := fun w' h => ⟨⟨w', h⟩, rfl⟩
 refine wp_region_quiet (C := fun w' => ∃ i : { w' // Ext w w' }, w' = i.1) hm hB (hC _ (Ext.draw (Ext.rfl' w))) ?_
 haveI : Nonempty { w' // Ext w w' } := ⟨⟨w, Ext.rfl' w⟩⟩
 simpa using h { w' // Ext w w' } (fun i => i.1) (fun i => i.2) hC
theorem mild_cell {I : Type} {W : I → World} {w : World} (hE : ∀ i, Ext w (W i)) {p : Addr} {v : Value} (hc : w.cell? p = some v) : ∀ i, (W i).cell? p = some v := fun i => (hE i).some_ hc
theorem mild_call {P : Program} {I : Type} {W : I → World} {w : World} (hE : ∀ i, Ext w (W i)) (hC : ∀ w', Ext w w' → ∃ i, w' = W i) {f : FuncId} {args : Array Value} {v : Value} {i : I}
  (h : Calls P f args (W i) fun e w' => e = .returned v ∧ Ext (W i) w') : Calls P f args (W i) fun e w'' => e = .returned v ∧ ∃ j, w'' = W j :=
 h.mono fun _ _ ⟨he, hx⟩ => ⟨he, hC _ ((hE i).step hx)⟩
theorem Ext.boxed {w wr : World} {c : Array Value} {t : TypeId} (h : Ext (w.alloc (.cells c t)) wr) (i : Nat) : wr.cell? ⟨w.heap.size, i, none⟩ = c[i]? := by
 rw [h.cell (p := ⟨w.heap.size, i, none⟩) (by simp), World.cell?_alloc_new]
theorem Ext.boxed2 {w wr : World} {c : Array Value} {t : TypeId} {o : Obj} (h : Ext ((w.alloc (.cells c t)).alloc o) wr) (i : Nat) : wr.cell? ⟨w.heap.size, i, none⟩ = c[i]? :=
 Ext.boxed ((Ext.one _ o).step h) i
theorem Ext.boxed2' {w wr : World} {c : Array Value} {t : TypeId} {o : Obj} (h : Ext ((w.alloc o).alloc (.cells c t)) wr) (i : Nat) : wr.cell? ⟨w.heap.size + 1, i, none⟩ = c[i]? := by
 have := Ext.boxed h i
 simpa using this
theorem Ext.sz2 {w wr : World} {o o' : Obj} (h : Ext ((w.alloc o).alloc o') wr) : w.heap.size < wr.heap.size ∧ w.heap.size + 1 < wr.heap.size := by have := h.size; simp at this; omega
theorem Ext.two (w : World) (o o' : Obj) : Ext w ((w.alloc o).alloc o') := (Ext.one _ _).new _
def Keeps (S : Nat → Prop) (w w' : World) : Prop := w.heap.size ≤ w'.heap.size ∧ ∀ b, S b → b < w.heap.size → w'.heap[b]? = w.heap[b]?
theorem Keeps.ext {S : Nat → Prop} {w w' : World} (h : Ext w w') : Keeps S w w' := ⟨h.size, fun b _ hb => h.block b hb⟩
theorem Keeps.grown {S : Nat → Prop} {w w' : World} {r : Option Nat} (h : w.grownBy w' r) (hr : ∀ b, S b → some b ≠ r) : Keeps S w w' := ⟨h.size, fun b hb hl => h.block b hl (hr b hb)⟩
theorem Keeps.cell {S : Nat → Prop} {w w' : World} (h : Keeps S w w') {ad : Addr} (hs : S ad.block) (hb : ad.block < w.heap.size) : w'.cell? ad = w.cell? ad :=
 World.cell?_of_block (h.2 _ hs hb)
def Sl (w : World) (S : Nat → Prop) (sz : Nat) {α : Type} (R : α → Addr → Prop) (ts : List α) (a : Option Addr) : Prop :=
 ∀ i (h : i < ts.length), ∃ b o, a = some ⟨b, o, none⟩ ∧ S b ∧ b < w.heap.size ∧ R ts[i] ⟨b, o + i * sz, none⟩
section
variable {α : Type} {w w' : World} {S S' : Nat → Prop} {sz : Nat} {R R' : α → Addr → Prop} {ts : List α} {a : Option Addr}
theorem Sl.nil_ : Sl w S sz R [] a := fun i h => absurd h (by simp)
theorem Sl.some_ (h : Sl w S sz R ts a) (hn : 0 < ts.length) : ∃ b o, a = some ⟨b, o, none⟩ := by
 obtain ⟨b, o, e, _⟩ := h 0 hn; exact ⟨b, o, e⟩
theorem Sl.at_ {b o : Nat} (h : Sl w S sz R ts (some ⟨b, o, none⟩)) {i : Nat} (hi : i < ts.length) :
  S b ∧ b < w.heap.size ∧ R ts[i] ⟨b, o + i * sz, none⟩ := by
 obtain ⟨b', o', e, h1, h2, h3⟩ := h i hi
 cases e; exact ⟨h1, h2, h3⟩
theorem Sl.mono (h : Sl w S sz R ts a) (hl : ∀ b, S b → b < w.heap.size → S' b) (hw : w.heap.size ≤ w'.heap.size) (hR : ∀ t ∈ ts, ∀ ad : Addr, S ad.block → ad.block < w.heap.size → R t ad → R' t ad) : Sl w' S' sz R' ts a :=
 fun i hi => by
  obtain ⟨b, o, e, h1, h2, h3⟩ := h i hi
  exact ⟨b, o, e, hl _ h1 h2, by omega, hR _ (List.getElem_mem hi) _ h1 h2 h3⟩
end
abbrev IntC (w : World) (n : Int) (ad : Addr) : Prop := w.cell? ad = some (.int .i64 n)
abbrev SlI (w : World) (S : Nat → Prop) (is : List Int) (a : Option Addr) : Prop := Sl w S 1 (IntC w) is a
theorem SlI.keep {w w' : World} {S S' : Nat → Prop} {is : List Int} {a : Option Addr} (h : SlI w S is a) (hk : Keeps S w w') (hs : ∀ b, S b → b < w.heap.size → S' b) : SlI w' S' is a :=
 Sl.mono h hs hk.1 fun _ _ _ h1 hb hc => (hk.cell h1 hb).trans hc
theorem SlI.ext {w w' : World} {S : Nat → Prop} {is : List Int} {a : Option Addr} (h : SlI w S is a) (hx : Ext w w') : SlI w' S is a := h.keep (.ext hx) fun _ h _ => h
mutual
def TmC (w : World) (S : Nat → Prop) : Tm → Addr → Prop
 | .mk v f us, ad => w.cell? ad = some (.int .i64 v) ∧ w.cell? (ad.add 1) = some (.int .i64 f) ∧
   ∃ a cap, w.cell? (ad.add 2) = some (.slice a us.length cap) ∧ us.length ≤ cap ∧ cap ≤ maxLen ∧ TmsC w S us a
def TmsC (w : World) (S : Nat → Prop) : List Tm → Option Addr → Prop
 | [], _ => True
 | t :: ts, a => ∃ b o, a = some ⟨b, o, none⟩ ∧ S b ∧ b < w.heap.size ∧ TmC w S t ⟨b, o, none⟩ ∧ TmsC w S ts (some ⟨b, o + 3, none⟩)
end
abbrev SlT (w : World) (S : Nat → Prop) (ts : List Tm) (a : Option Addr) : Prop := Sl w S 3 (TmC w S) ts a
theorem TmsC.to {w : World} {S : Nat → Prop} : ∀ {ts : List Tm} {a : Option Addr}, TmsC w S ts a → SlT w S ts a := by
 intro ts
 induction ts with
 | nil => intro a _; exact Sl.nil_
 | cons t ts ih =>
  rintro a ⟨b, o, rfl, h1, h2, h3, h4⟩ i hi
  cases i with
  | zero => exact ⟨b, o, rfl, h1, h2, by simpa using h3⟩
  | succ i =>
   obtain ⟨b', o', e, g1, g2, g3⟩ := ih h4 i (by simpa using hi)
   cases e
   refine ⟨b, o, rfl, h1, h2, ?_⟩
   rw [show o + (i + 1) * 3 = o + 3 + i * 3 by omega]
   simpa using g3
theorem TmsC.of {w : World} {S : Nat → Prop} : ∀ {ts : List Tm} {a : Option Addr}, SlT w S ts a → TmsC w S ts a := by
 intro ts
 induction ts with
 | nil => intro a _; exact trivial
 | cons t ts ih =>
  intro a h
  obtain ⟨b, o, rfl⟩ := h.some_ (by simp)
  obtain ⟨h1, h2, h3⟩ := h.at_ (i := 0) (by simp)
  refine ⟨b, o, rfl, h1, h2, by simpa using h3, ih ?_⟩
  intro i hi
  obtain ⟨g1, g2, g3⟩ := h.at_ (i := i + 1) (by simpa using hi)
  refine ⟨b, o + 3, rfl, g1, g2, ?_⟩
  rw [show o + 3 + i * 3 = o + (i + 1) * 3 by omega]
  simpa using g3
theorem TmC.iff {w : World} {S : Nat → Prop} {t : Tm} {ad : Addr} : TmC w S t ad ↔ (w.cell? ad = some (.int .i64 t.v) ∧ w.cell? (ad.add 1) = some (.int .i64 t.f) ∧
   ∃ a cap, w.cell? (ad.add 2) = some (.slice a t.us.length cap) ∧ t.us.length ≤ cap ∧ cap ≤ maxLen ∧ SlT w S t.us a) := by
 obtain ⟨v, f, us⟩ := t
 constructor
 ·rintro ⟨h1, h2, a, cap, h3, h4, h5, h6⟩; exact ⟨h1, h2, a, cap, h3, h4, h5, h6.to⟩
 ·rintro ⟨h1, h2, a, cap, h3, h4, h5, h6⟩; exact ⟨h1, h2, a, cap, h3, h4, h5, TmsC.of h6⟩
theorem TmC.read {w : World} {S : Nat → Prop} {t : Tm} {b o : Nat} (h : TmC w S t ⟨b, o, none⟩) : w.cell? ⟨b, o, none⟩ = some (.int .i64 t.v) ∧ w.cell? ⟨b, o + 1, none⟩ = some (.int .i64 t.f) ∧
   ∃ a cap, w.cell? ⟨b, o + 2, none⟩ = some (.slice a t.us.length cap) ∧ t.us.length ≤ cap ∧ cap ≤ maxLen ∧ SlT w S t.us a := by
 have := TmC.iff.1 h
 rwa [add_none, add_none] at this
theorem TmC.keep {w w' : World} {S S' : Nat → Prop} (hk : Keeps S w w') (hs : ∀ b, S b → b < w.heap.size → S' b) : ∀ (t : Tm) (ad : Addr), S ad.block → ad.block < w.heap.size → TmC w S t ad → TmC w' S' t ad := by
 intro t
 induction t using Tm.ind with
 | h t ih =>
  intro ad h0 hb ht
  obtain ⟨h1, h2, a, cap, h3, h4, h5, h6⟩ := TmC.iff.1 ht
  have e : ∀ n, (ad.add n).block = ad.block := by intro n; unfold Addr.add; split <;> rfl
  exact TmC.iff.2 ⟨(hk.cell h0 hb).trans h1, (hk.cell (by rw [e]; exact h0) (by rw [e]; exact hb)).trans h2, a, cap, (hk.cell (by rw [e]; exact h0) (by rw [e]; exact hb)).trans h3, h4, h5,
   Sl.mono h6 hs hk.1 fun u hu ad h0 hb hc => ih u hu ad h0 hb hc⟩
theorem SlT.keep {w w' : World} {S S' : Nat → Prop} {ts : List Tm} {a : Option Addr} (h : SlT w S ts a) (hk : Keeps S w w') (hs : ∀ b, S b → b < w.heap.size → S' b) : SlT w' S' ts a :=
 Sl.mono h hs hk.1 fun _ _ _ h0 hb hc => TmC.keep hk hs _ _ h0 hb hc
theorem SlT.ext {w w' : World} {S : Nat → Prop} {ts : List Tm} {a : Option Addr} (h : SlT w S ts a) (hx : Ext w w') : SlT w' S ts a := h.keep (.ext hx) fun _ h _ => h
theorem SlT.wide {w : World} {S S' : Nat → Prop} {ts : List Tm} {a : Option Addr} (h : SlT w S ts a) (hs : ∀ b, S b → b < w.heap.size → S' b) : SlT w S' ts a := h.keep (.ext (Ext.rfl' w)) hs
theorem SlT.readAt {w : World} {S : Nat → Prop} {ts : List Tm} {b o : Nat} (h : SlT w S ts (some ⟨b, o, none⟩)) {i : Nat} (hi : i < ts.length) :
  b < w.heap.size ∧ w.cell? ⟨b, o + i * 3, none⟩ = some (.int .i64 ts[i].v) ∧ w.cell? ⟨b, o + i * 3 + 1, none⟩ = some (.int .i64 ts[i].f) ∧
   ∃ a cap, w.cell? ⟨b, o + i * 3 + 2, none⟩ = some (.slice a ts[i].us.length cap) ∧ ts[i].us.length ≤ cap ∧ cap ≤ maxLen ∧ SlT w S ts[i].us a := by
 obtain ⟨_, h2, h3⟩ := h.at_ hi
 exact ⟨h2, h3.read⟩
def TmV (w : World) (S : Nat → Prop) (t : Tm) (x : Value) : Prop :=
 ∃ a cap, x = .agg #[.int .i64 t.v, .int .i64 t.f, .slice a t.us.length cap] ∧ t.us.length ≤ cap ∧ cap ≤ maxLen ∧ SlT w S t.us a
theorem TmV.keep {w w' : World} {S S' : Nat → Prop} {t : Tm} {x : Value} (h : TmV w S t x) (hk : Keeps S w w') (hs : ∀ b, S b → b < w.heap.size → S' b) : TmV w' S' t x := by
 obtain ⟨a, cap, e, h1, h2, h3⟩ := h; exact ⟨a, cap, e, h1, h2, h3.keep hk hs⟩
theorem TmV.ext {w w' : World} {S : Nat → Prop} {t : Tm} {x : Value} (h : TmV w S t x) (hx : Ext w w') : TmV w' S t x := h.keep (.ext hx) fun _ h _ => h
def SlIV (w : World) (S : Nat → Prop) (is : List Int) (x : Value) : Prop := ∃ a cap, x = .slice a is.length cap ∧ is.length ≤ cap ∧ cap ≤ maxLen ∧ SlI w S is a
def SgV (w : World) (S : Nat → Prop) (g : List Int) (x : Value) : Prop := ∃ a cap, x = .agg #[.slice a g.length cap] ∧ g.length ≤ cap ∧ cap ≤ maxLen ∧ SlI w S g a
theorem SgV.ext {w w' : World} {S : Nat → Prop} {g : List Int} {x : Value} (h : SgV w S g x) (hx : Ext w w') : SgV w' S g x := by
 obtain ⟨a, cap, e, h1, h2, h3⟩ := h; exact ⟨a, cap, e, h1, h2, h3.ext hx⟩
theorem ret_int {k : IntKind} {a b : Int} (h : a = b) : Ending.returned (.int k a) = .returned (.int k b) := by rw [h]
theorem ret_bool {a b : Bool} (h : a = b) : Ending.returned (.bool a) = .returned (.bool b) := by rw [h]
def Own (w : World) (base e sz : Nat) (xs : List Value) (v : Value) : Prop := w.ownsRow base e sz v xs.length (xs.flatMap (·.cells.toList)) ∧ ∀ x ∈ xs, x.cells.size = sz
section
variable {w w' : World} {base e sz : Nat} {xs : List Value} {v : Value}
theorem Own.nil_ (w : World) (base e sz : Nat) : Own w base e sz [] (.slice none 0 0) := ⟨⟨by simp, .inl ⟨rfl, rfl⟩⟩, by simp⟩
theorem Own.grown {r : Option Nat} (h : Own w base e sz xs v) (hg : w.grownBy w' r) (hne : v.ownBlock ≠ r ∨ v.ownBlock = none) : Own w' base e sz xs v := by
 refine ⟨?_, h.2⟩
 obtain ⟨h1, h2⟩ := h.1
 refine ⟨h1, ?_⟩
 rcases h2 with h2 | ⟨g, cap, cur, hv, hb, hh, hr⟩
 ·exact .inl h2
 ·right
  have hlt : g < w.heap.size := by
   rcases Nat.lt_or_ge g w.heap.size with hlt | hge
   ·exact hlt
   ·rw [Array.getElem?_eq_none hge] at hh; cases hh
  have : some g ≠ r := by
   subst hv
   rcases hne with hne | hne
   ·exact hne
   ·cases hne
  exact ⟨g, cap, cur, hv, hb, (hg.block g hlt this).trans hh, hr⟩
theorem Own.ext (h : Own w base e sz xs v) (hx : Ext w w') : Own w' base e sz xs v := by
 refine ⟨?_, h.2⟩
 obtain ⟨h1, h2⟩ := h.1
 refine ⟨h1, ?_⟩
 rcases h2 with h2 | ⟨g, cap, cur, hv, hb, hh, hr⟩
 ·exact .inl h2
 ·right
  have hlt : g < w.heap.size := by
   rcases Nat.lt_or_ge g w.heap.size with hlt | hge
   ·exact hlt
   ·rw [Array.getElem?_eq_none hge] at hh; cases hh
  exact ⟨g, cap, cur, hv, hb, (hx.block g hlt).trans hh, hr⟩
theorem Own.form (h : Own w base e sz xs v) : (xs = [] ∧ v = .slice none 0 0) ∨ ∃ g cap, v = .slice (some ⟨g, 0, none⟩) xs.length cap ∧ base ≤ g ∧ g < w.heap.size ∧ xs.length ≤ cap ∧ cap ≤ maxLen := by
 rcases h.1.2 with ⟨h1, h2⟩ | ⟨g, cap, cur, hv, hb, hh, h3, h4, _⟩
 ·exact .inl ⟨List.eq_nil_of_length_eq_zero h2, h1⟩
 ·refine .inr ⟨g, cap, hv, hb, ?_, h3, h4⟩
  rcases Nat.lt_or_ge g w.heap.size with hlt | hge
  ·exact hlt
  ·rw [Array.getElem?_eq_none hge] at hh; cases hh
theorem Own.slice (h : Own w base e sz xs v) : ∃ a cap, v = .slice a xs.length cap ∧ xs.length ≤ cap ∧ cap ≤ maxLen := by
 rcases h.form with ⟨rfl, rfl⟩ | ⟨g, cap, hv, _, _, h1, h2⟩
 ·exact ⟨none, 0, rfl, by simp, by simp [maxLen]⟩
 ·exact ⟨_, cap, hv, h1, h2⟩
theorem Own.block (h : Own w base e sz xs v) {g : Nat} (hg : v.ownBlock = some g) : base ≤ g ∧ g < w.heap.size := by
 rcases h.form with ⟨_, rfl⟩ | ⟨g', cap, rfl, h1, h2, _⟩
 ·cases hg
 ·cases hg; exact ⟨h1, h2⟩
theorem flatMap_at {sz : Nat} : ∀ (xs : List Value), (∀ x ∈ xs, x.cells.size = sz) → ∀ i (hi : i < xs.length) j, j < sz → (xs.flatMap (·.cells.toList))[i * sz + j]? = xs[i].cells[j]? := by
 intro xs
 induction xs with
 | nil => intro _ i hi; simp at hi
 | cons x xs ih =>
  intro h i hi j hj
  have hx := h x (by simp)
  cases i with
  | zero =>
   rw [List.flatMap_cons, List.getElem?_append_left (by simp [hx]; omega)]
   simp
  | succ i =>
   rw [List.flatMap_cons, List.getElem?_append_right (by simp [hx, Nat.add_mul]; omega)]
   have := ih (fun x hx => h x (by simp [hx])) i (by simpa using hi) j hj
   simp only [List.getElem_cons_succ]
   rw [← this]
   congr 1
   simp [hx, Nat.add_mul]
   omega
theorem Own.cell {g n cap : Nat} (h : Own w base e sz xs (.slice (some ⟨g, 0, none⟩) n cap)) {i : Nat} (hi : i < xs.length) {j : Nat} (hj : j < sz) : w.cell? ⟨g, i * sz + j, none⟩ = xs[i].cells[j]? := by
 obtain ⟨h1, h2⟩ := h.1
 rcases h2 with ⟨h2, _⟩ | ⟨g', cap', cur, hv, hb, hh, h3, h4, h5, h6⟩
 ·cases h2
 ·cases hv
  rw [← flatMap_at xs h.2 i hi j hj, ← h6, List.getElem?_take]
  have : i * sz + j < xs.length * sz := by
   have : (i + 1) * sz ≤ xs.length * sz := Nat.mul_le_mul_right _ hi
   rw [Nat.add_mul] at this
   omega
  rw [if_pos this, World.cell?, hh]
  simp
end
structure ElemOk (P : Program) (t e sz bytes : Nat) : Prop where
 ht : P.underlying t = some (.slice e)
 info : ∃ i z, P.info? e = some i ∧ i.zero = some z ∧ i.size = sz ∧ i.bytes = bytes ∧ z.cells.size = sz
 pos : 0 < sz
theorem ElemOk.mk' {P : Program} {t e sz bytes : Nat} {z : Value} (ht : P.underlying t = some (.slice e)) (h : (P.info? e).map (fun i => (i.zero, i.size, i.bytes)) = some (some z, sz, bytes)) (hz : z.cells.size = sz) (hs : 0 < sz) : ElemOk P t e sz bytes := by
 obtain ⟨i, h1, h2, h3, h4⟩ := info_parts h
 exact ⟨ht, ⟨i, z, h1, h2, h3, h4, hz⟩, hs⟩
theorem wpList_push {P : Program} {t e sz bytes : Nat} (hE : ElemOk P t e sz bytes) {ops : Array Oper} {rest : List Oper} {o : Oper} {a : Act} {Q : Exit → Act → World → Prop} (hgd : o.guard = none) (s x : Operand)
  (ho : o.op = .call { callee := .builtin .append, args := #[s, x], argTypes := #[t, t] }) {w : World} (y : Value) (hy : y.cells.size = sz) (h1 : ∀ u ∈ y.cells.toList, u.oneCell' = true)
  {base : Nat} {v : Value} {xs : List Value} (hs : a.eval s = v) (hown : Own w base e sz xs v) (hx : a.eval x = .slice (some ⟨w.heap.size, 0, none⟩) 1 1)
  (hbytes : (xs.length + 1) * bytes ≤ 140737488355328) (hlen : xs.length + 1 ≤ maxLen) (hbase : base ≤ w.heap.size)
  (k : ∀ g cap w', Own w' base e sz (xs ++ [y]) (.slice (some ⟨g, 0, none⟩) (xs.length + 1) cap) → w.grownBy w' v.ownBlock → (v.ownBlock = some g ∨ w.heap.size < g) → g < w'.heap.size →
   wpList P ops Q rest (a.put o.dst (.slice (some ⟨g, 0, none⟩) (xs.length + 1) cap)) w') : wpList P ops Q (o :: rest) a (w.alloc (.cells y.cells e)) := by
 obtain ⟨i, z, hi, hz, hz1, hz2, hzs⟩ := hE.info
 have hown' : (w.alloc (.cells y.cells e)).ownsRow base e sz v xs.length (xs.flatMap (·.cells.toList)) := (hown.ext (Ext.one _ _)).1
 refine wpList_append_lies _ hgd s x t ho base e i z sz bytes hE.ht hi hz hz1 hz2 hzs hE.pos v xs.length _ hs hown' ⟨w.heap.size, 0, none⟩ 1 1 y.cells.toList hx (by simp [hy])
  (World.news_of_block (heap_alloc_new w _)) h1 (by omega) hlen hbytes (by simp; omega) (w.heap.size + 1) (by simp) ?_
 intro g cap w' h2 h3 h4 h5
 refine k g cap w' ⟨by simpa using h2, ?_⟩ ?_ (h4.imp id (by omega)) h5
 ·intro u hu
  rcases List.mem_append.1 hu with hu | hu
  ·exact hown.2 _ hu
  ·rw [List.mem_singleton.1 hu]; exact hy
 ·refine ⟨h3.os, h3.tape, h3.output, by have := h3.size; simp at this; omega, fun k hk hne => ?_⟩
  rw [h3.block k (by simp; omega) hne]
  exact Below.heap_alloc _ _ _ hk
theorem grown_trans {a b c : World} {r r' : Option Nat} (h : a.grownBy b r) (hr : r' = r ∨ ∃ g, r' = some g ∧ a.heap.size ≤ g) (k : b.grownBy c r') : a.grownBy c r :=
 ⟨k.os.trans h.os, k.tape.trans h.tape, k.output.trans h.output, Nat.le_trans h.size k.size, fun i hi hne => by
  have := h.size
  rw [k.block i (by omega) (by
   rcases hr with rfl | ⟨g, rfl, hg⟩
   ·exact hne
   ·intro e; cases e; omega), h.block i hi hne]⟩
theorem grown_ext {a b : World} (h : Ext a b) (r : Option Nat) : a.grownBy b r := ⟨h.os, h.tape, h.output, h.size, fun i hi _ => h.block i hi⟩
theorem grown_box {w wr : World} {c : Array Value} {t : TypeId} {r : Option Nat} (h : (w.alloc (.cells c t)).grownBy wr r) (hr : ∀ g, r = some g → g < w.heap.size) (i : Nat) : wr.cell? ⟨w.heap.size, i, none⟩ = c[i]? := by
 rw [World.cell?_of_block (h.block w.heap.size (by simp) (fun e => by have := hr _ e.symm; omega)), World.cell?_alloc_new]
def CountSpec (t : Tm) : Prop := ∀ (S : Nat → Prop) (x : Value) (w : World) (most : Int), TmV w S t x → 0 ≤ most → most ≤ 1000000 →
  Calls Tryz.prog 112 #[x, .int .i64 most] w fun e w' => e = .returned (.int .i64 (count t most)) ∧ Ext w w'
set_option maxHeartbeats 400000 in
theorem count_step (t : Tm) (ih : ∀ u ∈ t.us, CountSpec u) : CountSpec t := by
 rintro S x w most ⟨a, cap, rfl, h1, h2, h3⟩ hm0 hm1
 unfold maxLen at h2
 go_enter Tryz.func112, Tryz.ntmps112
 go_wp2_with fail
 go_loopw [5, 11] (fun n i wr => ∃ (k : Nat) (m : Int), k ≤ t.us.length ∧ i = .int .i64 k ∧ n = .int .i64 m ∧ 1 ≤ m ∧ m ≤ most + 1 ∧ countL (t.us.drop k) m most = count t most ∧ Ext w wr) (fun _ i _ => t.us.length - (intOf i).toNat)
 case atStart => exact ⟨0, 1, by omega, rfl, rfl, by omega, by omega, (count_eq t most).symm, Ext.one _ _⟩
 case round =>
  obtain ⟨k, m, hk, rfl, rfl, hm2, hm3, hc, hx⟩ := hrel
  have HC := hid hc; clear hc
  by_cases hlt : k < t.us.length
  ·obtain ⟨b, o, rfl⟩ := h3.some_ (by omega)
   obtain ⟨c1, c2, a1, cap1, c3, l1, l2, s1⟩ := ((h3.ext hx).readAt hlt).2
   have IH := hid (ih _ (List.getElem_mem hlt)); clear ih
   go_wp2_with fail
   ·have hgt : most < m := by assumption
    go_ret
    refine ⟨ret_int ?_, hx.new _⟩
    rw [← HC.out, countL_stop (by omega)]
   ·have hle : m ≤ most := by assumption
    refine (IH.out S _ _ (most - m) ⟨a1, cap1, rfl, l1, l2, s1.ext (Ext.one _ _)⟩ (by omega) (by omega)).mono ?_
    rintro e w' ⟨rfl, hx'⟩
    obtain ⟨hq1, hq2⟩ := count_le t.us[k] (most - m) (by omega)
    have HCL := hid (countL_go hlt hle)
    generalize hgc : count t.us[k] (most - m) = q at *
    clear hgc
    go_wp2_with fail
    go_roundw
    case rel => exact ⟨k + 1, m + q, by omega, by go_num, rfl, by omega, by omega, by rw [← HC.out, HCL.out], (hx.new _).step hx'⟩
    case measure => simp [intOf]; omega
  ·obtain rfl : k = t.us.length := by omega
   go_wp2_with fail
   go_ret
   refine ⟨ret_int ?_, hx⟩
   rw [← HC.out, countL_end]
theorem count_any (t : Tm) : CountSpec t := Tm.ind count_step t
def FormSpec (g : List Int) (t : Tm) : Prop := ∀ (S S' : Nat → Prop) (y x : Value) (w : World), SgV w S' g y → TmV w S t x →
  Calls Tryz.prog 113 #[y, x] w fun e w' => e = .returned (.int .i64 (form g t)) ∧ Ext w w'
set_option maxHeartbeats 400000 in
theorem form_step (g : List Int) (t : Tm) (ih : ∀ u ∈ t.us, FormSpec g u) : FormSpec g t := by
 rintro S S' y x w ⟨ga, gc, rfl, g1, g2, g3⟩ ⟨a, cap, rfl, h1, h2, h3⟩
 unfold maxLen at h2 g2
 go_enter Tryz.func113, Tryz.ntmps113
 go_wp2_with fail
 go_loopw [11] (fun i wr => ∃ (k : Nat), k ≤ t.us.length ∧ i = .int .i64 k ∧ formL g t.us = formL g (t.us.drop k) ∧ Ext ((w.alloc (.cells #[.slice ga g.length gc] 24)).alloc (.cells #[.int .i64 t.v, .int .i64 t.f, .slice a t.us.length cap] 63)) wr) (fun i _ => t.us.length - (intOf i).toNat)
 case atStart => exact ⟨0, by omega, rfl, rfl, Ext.rfl' _⟩
 case round =>
  obtain ⟨k, hk, rfl, hc, hx⟩ := hrel
  have HC := hid hc; clear hc
  have hx0 := (Ext.two _ _ _).step hx
  have b0 : wr.cell? ⟨w.heap.size, 0, none⟩ = some (.slice ga g.length gc) := hx.boxed2 0
  obtain ⟨hz0, hz1⟩ := hx.sz2
  have c0 : wr.cell? ⟨w.heap.size + 1, 0, none⟩ = some (.int .i64 t.v) := hx.boxed2' 0
  have c1 : wr.cell? ⟨w.heap.size + 1, 1, none⟩ = some (.int .i64 t.f) := hx.boxed2' 1
  have c2 : wr.cell? ⟨w.heap.size + 1, 2, none⟩ = some (.slice a t.us.length cap) := hx.boxed2' 2
  by_cases hlt : k < t.us.length
  ·obtain ⟨b, o, rfl⟩ := h3.some_ (by omega)
   obtain ⟨d1, d2, a1, cap1, d3, l1, l2, s1⟩ := ((h3.ext hx0).readAt hlt).2
   have IH := hid (ih _ (List.getElem_mem hlt)); clear ih
   go_wp2_with fail
   refine (IH.out S S' _ _ _ ⟨ga, gc, rfl, g1, g2, g3.ext (hx0.new _)⟩ ⟨a1, cap1, rfl, l1, l2, s1.ext (Ext.one _ _)⟩).mono ?_
   rintro e w' ⟨rfl, hx'⟩
   have hfl := hid (show formL g (t.us.drop k) = if form g t.us[k] ≠ 0 then form g t.us[k] else formL g (t.us.drop (k + 1)) by rw [List.drop_eq_getElem_cons hlt, formL])
   generalize hq : form g t.us[k] = q at *
   have HQ := hid hq; clear hq
   by_cases hq0 : q = 0
   ·subst hq0
    go_wp2_with fail
    go_roundw
    case rel => exact ⟨k + 1, by omega, by go_num, by rw [HC.out, hfl.out]; rfl, (hx.new _).step hx'⟩
    case measure => simp [intOf]; omega
   ·have hq1 : (q != 0) = true := by simpa using hq0
    go_wp2_with fail
    go_ret
    refine ⟨ret_int ?_, (hx0.new _).step hx'⟩
    have : formL g t.us = q := by rw [HC.out, hfl.out, if_pos hq0]
    rw [form_eq, this, if_pos hq0]
  ·obtain rfl : k = t.us.length := by omega
   have HF := hid (show form g t = formOne g t.v t.f t.us.length by rw [form_eq, if_neg]; rw [HC.out, List.drop_length, formL]; simp)
   clear ih HC
   by_cases hv : t.v = 0
   ·by_cases hf0 : 0 ≤ t.f ∧ t.f < g.length
    ·obtain ⟨f1, f2⟩ := hf0
     obtain ⟨b, o, rfl⟩ := g3.some_ (by omega)
     obtain ⟨_, hb, hgc⟩ := g3.at_ (i := t.f.toNat) (by omega)
     have hgc' := hx0.cell (p := ⟨b, o + t.f.toNat * 1, none⟩) hb
     rw [hgc] at hgc'
     simp only [Nat.mul_one] at hgc'
     clear hgc
     have HG := hid (show g.getD t.f.toNat 0 = g[t.f.toNat] from getD_at (by omega) _)
     generalize g[t.f.toNat] = gn at *
     go_wp2_with fail
     go_quiet (fail)
     go_wp2_with fail
     ·have hne : (↑t.us.length != gn) = true := by assumption
      go_ret
      refine ⟨ret_int ?_, hx0.draws _⟩
      rw [HF.out, formOne, if_neg (by simpa using hv), if_neg (by omega), HG.out, if_pos (by simpa using hne)]
     ·have hne : (↑t.us.length != gn) = false := by assumption
      go_ret
      refine ⟨ret_int ?_, hx0.draws _⟩
      rw [HF.out, formOne, if_neg (by simpa using hv), if_neg (by omega), HG.out, if_neg (by simpa using hne)]
    ·have HV := hid (show form g t = 5 by rw [HF.out, formOne, if_neg (by simpa using hv), if_pos (by omega)])
     by_cases f1 : t.f < 0
     ·go_wp2_with fail
      go_ret
      exact ⟨ret_int HV.out.symm, hx0⟩
     ·have f2 : (g.length : Int) ≤ t.f := by omega
      go_wp2_with fail
      go_ret
      exact ⟨ret_int HV.out.symm, hx0⟩
   ·have hv' : (t.v != 0) = true := by simpa using hv
    by_cases h1 : t.v < 1
    ·have HV := hid (show form g t = 3 by rw [HF.out, formOne, if_pos hv, if_pos (by omega)])
     go_wp2_with fail
     go_ret
     exact ⟨ret_int HV.out.symm, hx0⟩
    ·by_cases h2 : 1000 < t.v
     ·have HV := hid (show form g t = 3 by rw [HF.out, formOne, if_pos hv, if_pos (by omega)])
      go_wp2_with fail
      go_ret
      exact ⟨ret_int HV.out.symm, hx0⟩
     ·by_cases h3 : 0 < t.us.length
      ·have HV := hid (show form g t = 1 by rw [HF.out, formOne, if_pos hv, if_neg (by omega), if_pos (by omega)])
       go_wp2_with fail
       go_ret
       exact ⟨ret_int HV.out.symm, hx0⟩
      ·by_cases h4 : t.f = 0
       ·have HV := hid (show form g t = 0 by rw [HF.out, formOne, if_pos hv, if_neg (by omega), if_neg (by omega)])
        have h4' : (t.f != 0) = false := by simpa using h4
        clear h4
        go_wp2_with fail
        go_ret
        exact ⟨ret_int HV.out.symm, hx0⟩
       ·have HV := hid (show form g t = 1 by rw [HF.out, formOne, if_pos hv, if_neg (by omega), if_pos (by omega)])
        have h4' : (t.f != 0) = true := by simpa using h4
        clear h4
        go_wp2_with fail
        go_ret
        exact ⟨ret_int HV.out.symm, hx0⟩
theorem form_any (g : List Int) (t : Tm) : FormSpec g t := Tm.ind (form_step g) t
def btw (n a b : Int) : Bool := decide (a ≤ n) && decide (n ≤ b)
set_option maxHeartbeats 400000 in
theorem between_any (n a b : Int) (w : World) : Calls Tryz.prog 32 #[.int .i64 n, .int .i64 a, .int .i64 b] w fun e w' => e = .returned (.bool (btw n a b)) ∧ w = w' := by
 by_cases h1 : a ≤ n
 ·go_enter Tryz.func32, Tryz.ntmps32
  go_wp2_with fail
  go_ret
  exact ⟨ret_bool (by simp [btw, h1]), rfl⟩
 ·have e : btw n a b = false := by simp only [btw, decide_eq_false h1, Bool.false_and]
  go_enter Tryz.func32, Tryz.ntmps32
  go_wp2_with fail
  go_ret
  exact ⟨rfl, rfl⟩
def idx {α : Type} (p : α → Bool) (l : List α) : Int := if l.any p then (l.findIdx p : Nat) else -1
theorem idx_nonneg {α : Type} (p : α → Bool) (l : List α) : decide (0 ≤ idx p l) = l.any p := by
 unfold idx; split <;> simp_all
theorem idx_yes {α : Type} {p : α → Bool} {l : List α} {k : Nat} (hk : k < l.length) (h0 : (l.take k).any p = false) (h1 : p l[k] = true) : idx p l = k := by
 have hm : l.any p = true := List.any_eq_true.2 ⟨_, List.getElem_mem hk, h1⟩
 rw [idx, if_pos hm]
 congr 1
 rw [List.findIdx_eq hk]
 refine ⟨h1, fun j hj => ?_⟩
 have := List.any_eq_false.1 h0 l[j] (List.mem_take_iff_getElem.2 ⟨j, by omega, rfl⟩)
 simpa using this
theorem idx_no {α : Type} {p : α → Bool} {l : List α} (h : (l.take l.length).any p = false) : idx p l = -1 := by
 rw [List.take_length] at h; rw [idx, h]; rfl
theorem any_take_succ {α : Type} {p : α → Bool} {l : List α} {k : Nat} (hk : k < l.length) (h0 : (l.take k).any p = false) (h1 : p l[k] = false) : (l.take (k + 1)).any p = false := by
 rw [List.take_succ_eq_append_getElem hk, List.any_append, h0]; simp [h1]
set_option maxRecDepth 10000 in
set_option maxHeartbeats 400000 in
theorem indexInt_any (S : Nat → Prop) (is : List Int) (p : Int → Bool) (a : Option Addr) (cap fk : Nat) (caps : Array Value) (w : World) (hc1 : is.length ≤ cap) (hc2 : cap ≤ maxLen) (hs : SlI w S is a)
  (hfk : ∀ args w, Sem.run Tryz.prog (callFunc fk args) w = .ok (.enter fk args) w)
  (hf : ∀ i (_ : i < is.length) (wr : World), Ext w wr → Calls Tryz.prog fk (#[.int .i64 is[i]] ++ caps) wr fun e w' => e = .returned (.bool (p is[i])) ∧ Ext wr w') :
  Calls Tryz.prog 114 #[.slice a is.length cap, .func (.func fk) #[] caps] w fun e w' => e = .returned (.int .i64 (idx p is)) ∧ Ext w w' := by
 unfold maxLen at hc2
 have HF := hid hf; clear hf
 go_enter Tryz.func114, Tryz.ntmps114
 go_wp2_with fail
 go_loopw [8] (fun i wr => ∃ k : Nat, k ≤ is.length ∧ i = .int .i64 k ∧ (is.take k).any p = false ∧ Ext w wr) (fun i _ => is.length - (intOf i).toNat)
 case atStart => exact ⟨0, by omega, rfl, by simp, Ext.rfl' _⟩
 case round =>
  obtain ⟨k, hk, rfl, hn, hx⟩ := hrel
  have HN := hid hn; clear hn
  by_cases hlt : k < is.length
  ·obtain ⟨b, o, rfl⟩ := hs.some_ (by omega)
   obtain ⟨_, _, hc⟩ := (hs.ext hx).at_ hlt
   have hc : wr.cell? ⟨b, o + k, none⟩ = some (.int .i64 is[k]) := by simpa using hc
   have HC := hid (HF.out k hlt wr hx)
   have HY := hid (fun h1 => idx_yes hlt HN.out (p := p) h1)
   have HZ := hid (fun h1 => any_take_succ hlt HN.out (p := p) h1)
   generalize hp : p is[k] = q at *
   clear hp
   go_wp2_with fail
   refine HC.out.mono ?_
   rintro e w' ⟨rfl, hx'⟩
   cases q
   ·go_wp2_with fail
    go_roundw
    case rel => exact ⟨k + 1, by omega, by go_num, HZ.out trivial, hx.step hx'⟩
    case measure => simp [intOf]; omega
   ·go_wp2_with fail
    go_ret
    exact ⟨ret_int (HY.out trivial).symm, hx.step hx'⟩
  ·obtain rfl : k = is.length := by omega
   go_wp2_with fail
   go_ret
   exact ⟨ret_int (idx_no HN.out).symm, hx⟩
set_option maxHeartbeats 400000 in
theorem containsInt_any (S : Nat → Prop) (is : List Int) (p : Int → Bool) (a : Option Addr) (cap fk : Nat) (caps : Array Value) (w : World) (hc1 : is.length ≤ cap) (hc2 : cap ≤ maxLen) (hs : SlI w S is a)
  (hfk : ∀ args w, Sem.run Tryz.prog (callFunc fk args) w = .ok (.enter fk args) w)
  (hf : ∀ i (_ : i < is.length) (wr : World), Ext w wr → Calls Tryz.prog fk (#[.int .i64 is[i]] ++ caps) wr fun e w' => e = .returned (.bool (p is[i])) ∧ Ext wr w') :
  Calls Tryz.prog 82 #[.slice a is.length cap, .func (.func fk) #[] caps] w fun e w' => e = .returned (.bool (is.any p)) ∧ Ext w w' := by
 have HF := hid hf; clear hf
 go_enter Tryz.func82, Tryz.ntmps82
 go_wp2_with fail
 refine (indexInt_any S is p a cap fk caps w hc1 hc2 hs hfk HF.out).mono ?_
 rintro e w' ⟨rfl, hx⟩
 clear hfk
 have he := idx_nonneg p is
 generalize idx p is = q at *
 generalize hr : is.any p = r at *
 have HR := hid hr
 clear hr
 go_wp2_with fail
 go_ret
 exact ⟨ret_bool HR.out.symm, hx⟩
set_option maxHeartbeats 400000 in
theorem sigNot_any (n : Int) (w : World) : Calls Tryz.prog 93 #[.int .i64 n] w fun e w' => e = .returned (.bool (decide (n < 0) || decide (n > 3))) ∧ w = w' := by
 by_cases h1 : n < 0
 ·go_enter Tryz.func93, Tryz.ntmps93
  go_wp2_with fail
  go_ret
  exact ⟨ret_bool (by simp [h1]), rfl⟩
 ·go_enter Tryz.func93, Tryz.ntmps93
  go_wp2_with fail
  go_ret
  exact ⟨ret_bool (by simp; omega), rfl⟩
theorem sigNot_enter (args : Array Value) (w : World) : Sem.run Tryz.prog (callFunc 93 args) w = .ok (.enter 93 args) w := by
 go_simp
set_option maxHeartbeats 400000 in
theorem signature_any (S : Nat → Prop) (g : List Int) (y : Value) (w : World) (hg : SgV w S g y) : Calls Tryz.prog 59 #[y] w fun e w' => e = .returned (.int .i64 (sigOk g)) ∧ Ext w w' := by
 obtain ⟨a, cap, rfl, h1, h2, h3⟩ := hg
 by_cases h12 : 12 < g.length
 ·go_enter Tryz.func59, Tryz.ntmps59
  go_wp2_with fail
  go_ret
  exact ⟨ret_int (by rw [sigOk, if_pos h12]), Ext.one _ _⟩
 ·go_enter Tryz.func59, Tryz.ntmps59
  go_wp2_with fail
  refine (containsInt_any S g (fun n => decide (n < 0) || decide (n > 3)) a cap 93 #[] _ h1 h2 (h3.ext (Ext.one _ _)) sigNot_enter (fun i hi wr _ => (sigNot_any _ wr).mono ?_)).mono ?_
  ·rintro e w' ⟨rfl, rfl⟩; exact ⟨rfl, Ext.rfl' _⟩
  rintro e w' ⟨rfl, hx⟩
  have HS := hid (show sigOk g = if g.any (fun n => decide (n < 0) || decide (n > 3)) then 3 else 0 by rw [sigOk, if_neg h12])
  generalize g.any (fun n => decide (n < 0) || decide (n > 3)) = q at *
  cases q
  ·go_wp2_with fail
   go_ret
   exact ⟨ret_int HS.out.symm, (Ext.one _ _).step hx⟩
  ·go_wp2_with fail
   go_ret
   exact ⟨ret_int HS.out.symm, (Ext.one _ _).step hx⟩
set_option maxHeartbeats 400000 in
theorem own_any (S S' : Nat → Prop) (g : List Int) (t : Tm) (y x : Value) (w : World) (hg : SgV w S' g y) (ht : TmV w S t x) :
  Calls Tryz.prog 81 #[y, x] w fun e w' => e = .returned (.int .i64 (own g t)) ∧ Ext w w' := by
 have hct := count_any t S x
 have hfm := form_any g t S S' y x
 have hg0 := hg
 have ht0 := ht
 obtain ⟨ga, gc, rfl, g1, g2, g3⟩ := hg
 obtain ⟨a, cap, rfl, h1, h2, h3⟩ := ht
 have HC := hid hct; clear hct
 have HF := hid hfm; clear hfm
 have HO := hid (show own g t = if count t 120 > 120 then 2 else form g t from rfl)
 go_enter Tryz.func81, Tryz.ntmps81
 go_wp2_with fail
 refine (HC.out _ 120 (ht0.ext (Ext.two _ _ _)) (by omega) (by omega)).mono ?_
 rintro e w1 ⟨rfl, hx1⟩
 have b0 : w1.cell? ⟨w.heap.size, 0, none⟩ = some (.slice ga g.length gc) := hx1.boxed2 0
 have c0 : w1.cell? ⟨w.heap.size + 1, 0, none⟩ = some (.int .i64 t.v) := hx1.boxed2' 0
 have c1 : w1.cell? ⟨w.heap.size + 1, 1, none⟩ = some (.int .i64 t.f) := hx1.boxed2' 1
 have c2 : w1.cell? ⟨w.heap.size + 1, 2, none⟩ = some (.slice a t.us.length cap) := hx1.boxed2' 2
 have hx0 := (Ext.two _ _ _).step hx1
 generalize hq : count t 120 = q at *
 clear hq
 by_cases hgt : 120 < q
 ·go_wp2_with fail
  go_ret
  exact ⟨ret_int (by rw [HO.out, if_pos hgt]), hx0⟩
 ·go_wp2_with fail
  refine (HF.out _ (hg0.ext hx0) (ht0.ext hx0)).mono ?_
  rintro e w2 ⟨rfl, hx2⟩
  go_wp2_with fail
  go_ret
  exact ⟨ret_int (by rw [HO.out, if_neg (by omega)]), hx0.step hx2⟩
def EqPost (I J : World → Prop) (e : Ending) (w' : World) : Prop := ∃ r : Bool, e = .returned (.bool r) ∧ (r = true → I w') ∧ (r = false → J w')
set_option maxRecDepth 10000 in
set_option maxHeartbeats 400000 in
theorem equalT_any (S S' : Nat → Prop) (xs ys : List Tm) (hlen : xs.length = ys.length) (a a' : Option Addr) (cap cap' fk : Nat) (caps : Array Value) (w : World) (I : Nat → World → Prop) (J : World → Prop)
  (hc1 : xs.length ≤ cap) (hc2 : cap ≤ maxLen) (_hc1' : ys.length ≤ cap') (_hc2' : cap' ≤ maxLen)
  (hI : ∀ i wr, I i wr → SlT wr S xs a ∧ SlT wr S' ys a') (hA : ∀ i wr o, I i wr → I i (wr.alloc o)) (h0 : I 0 w)
  (hfk : ∀ args w, Sem.run Tryz.prog (callFunc fk args) w = .ok (.enter fk args) w)
  (hf : ∀ i (h : i < xs.length) (h' : i < ys.length) (wr : World) (x y : Value), I i wr → TmV wr S xs[i] x → TmV wr S' ys[i] y → Calls Tryz.prog fk (#[x, y] ++ caps) wr (EqPost (I (i + 1)) J)) :
  Calls Tryz.prog 139 #[.slice a xs.length cap, .slice a' ys.length cap', .func (.func fk) #[] caps] w (EqPost (I xs.length) J) := by
 unfold maxLen at hc2
 have HF := hid hf; clear hf
 have HI := hid hI; clear hI
 have HA := hid hA; clear hA
 have hne : ((xs.length : Int) != ys.length) = false := by simp [hlen]
 have HL := hid hlen; clear hlen
 have H0 := hid h0; clear h0
 go_enter Tryz.func139, Tryz.ntmps139
 go_wp2_with fail
 clear hne
 go_loopw [17] (fun i wr => ∃ k : Nat, k ≤ xs.length ∧ i = .int .i64 k ∧ Hid (I k wr)) (fun i _ => xs.length - (intOf i).toNat)
 case atStart => exact ⟨0, by omega, rfl, H0.out⟩
 case round =>
  obtain ⟨k, hk, rfl, hi⟩ := hrel
  obtain ⟨h1, h2⟩ := HI.out k wr hi.out
  by_cases hlt : k < xs.length
  ·have hlt' : k < ys.length := by have := HL.out; omega
   obtain ⟨b, o, rfl⟩ := h1.some_ (by omega)
   obtain ⟨b', o', rfl⟩ := h2.some_ (by omega)
   obtain ⟨hz, d1, d2, a1, cap1, d3, l1, l2, s1⟩ := SlT.readAt h1 hlt
   obtain ⟨hz', d1', d2', a1', cap1', d3', l1', l2', s1'⟩ := SlT.readAt h2 hlt'
   go_wp2_with fail
   refine (HF.out k hlt hlt' _ _ _ (HA.out _ _ _ (HA.out _ _ _ hi.out)) ⟨a1, cap1, rfl, l1, l2, s1.ext (Ext.two _ _ _)⟩ ⟨a1', cap1', rfl, l1', l2', s1'.ext (Ext.two _ _ _)⟩).mono ?_
   rintro e w' ⟨r, rfl, hr1, hr2⟩
   have HR1 := hid hr1; clear hr1
   have HR2 := hid hr2; clear hr2
   cases r
   ·go_wp2_with fail
    go_ret
    exact ⟨false, rfl, fun h => by simp at h, fun _ => HR2.out trivial⟩
   ·go_wp2_with fail
    go_roundw
    case rel => exact ⟨k + 1, by omega, by go_num, HR1.out trivial⟩
    case measure => simp [intOf]; omega
  ·obtain rfl : k = xs.length := by omega
   go_wp2_with fail
   go_ret
   exact ⟨true, rfl, fun _ => hi.out, fun h => by simp at h⟩
set_option maxHeartbeats 400000 in
theorem equalT_no (xs ys : List Tm) (hlen : xs.length ≠ ys.length) (a a' : Option Addr) (cap cap' : Nat) (fv : Value) (w : World) :
  Calls Tryz.prog 139 #[.slice a xs.length cap, .slice a' ys.length cap', fv] w fun e w' => e = .returned (.bool false) ∧ w = w' := by
 have hne : ((xs.length : Int) != ys.length) = true := by simp; omega
 clear hlen
 go_enter Tryz.func139, Tryz.ntmps139
 go_wp2_with fail
 go_ret
 exact ⟨rfl, rfl⟩
theorem same_enter (args : Array Value) (w : World) : Sem.run Tryz.prog (callFunc 132 args) w = .ok (.enter 132 args) w := by
 go_simp
def SameSpec (t : Tm) : Prop := ∀ (S S' : Nat → Prop) (u : Tm) (x y : Value) (w : World), TmV w S t x → TmV w S' u y →
  Calls Tryz.prog 132 #[x, y] w fun e w' => e = .returned (.bool (same t u)) ∧ Ext w w'
set_option maxHeartbeats 400000 in
theorem same_step (t : Tm) (ih : ∀ u ∈ t.us, SameSpec u) : SameSpec t := by
 rintro S S' u x y w ⟨a, cap, rfl, h1, h2, h3⟩ ⟨a', cap', rfl, h1', h2', h3'⟩
 have HE := hid (same_eq t u)
 by_cases hv : t.v = u.v
 ·have hv' : (t.v == u.v) = true := by simpa using hv
  clear hv
  by_cases hf : t.f = u.f
  ·have hf' : (t.f == u.f) = true := by simpa using hf
   clear hf
   by_cases hl : t.us.length = u.us.length
   ·have HL := hid hl; clear hl
    go_enter Tryz.func132, Tryz.ntmps132
    go_wp2_with fail
    refine (equalT_any S S' t.us u.us HL.out a a' cap cap' 132 #[] _ (fun i wr => Ext w wr ∧ sameL (t.us.take i) (u.us.take i) = true) (fun wr => Ext w wr ∧ sameL t.us u.us = false) h1 h2 h1' h2'
     (fun i wr h => ⟨h3.ext h.1, h3'.ext h.1⟩) (fun i wr o h => ⟨h.1.new _, h.2⟩) ⟨Ext.two _ _ _, rfl⟩ same_enter ?hf).mono ?_
    case hf =>
     intro i hi hi' wr x y hw hx hy
     refine (ih _ (List.getElem_mem hi) S S' _ x y wr hx hy).mono ?_
     rintro e w' ⟨rfl, hx'⟩
     refine ⟨_, rfl, fun h => ⟨hw.1.step hx', ?_⟩, fun h => ⟨hw.1.step hx', ?_⟩⟩
     ·exact sameL_take hi hi' hw.2 h
     ·exact sameL_not hi hi' h
    rintro e w' ⟨r, rfl, hr1, hr2⟩
    have HR1 := hid hr1; clear hr1
    have HR2 := hid hr2; clear hr2
    clear ih
    cases r
    ·go_wp2_with fail
     go_ret
     obtain ⟨hx, hn⟩ := HR2.out trivial
     exact ⟨ret_bool (by rw [HE.out, hn]; simp), hx⟩
    ·go_wp2_with fail
     go_ret
     obtain ⟨hx, hn⟩ := HR1.out trivial
     rw [HL.out, List.take_length, ← HL.out, List.take_length] at hn
     exact ⟨ret_bool (by rw [HE.out, hn, hv', hf']; rfl), hx⟩
   ·go_enter Tryz.func132, Tryz.ntmps132
    go_wp2_with fail
    refine (equalT_no t.us u.us hl a a' cap cap' _ _).mono ?_
    rintro e w' ⟨rfl, rfl⟩
    have HN := hid (show sameL t.us u.us = false from sameL_len hl)
    clear hl ih
    go_wp2_with fail
    go_ret
    exact ⟨ret_bool (by rw [HE.out, HN.out]; simp), Ext.two _ _ _⟩
  ·have hf' : (t.f == u.f) = false := by simpa using hf
   clear hf ih
   go_enter Tryz.func132, Tryz.ntmps132
   go_wp2_with fail
   go_ret
   exact ⟨ret_bool (by rw [HE.out, hf']; simp), Ext.two _ _ _⟩
 ·have hv' : (t.v == u.v) = false := by simpa using hv
  clear hv ih
  go_enter Tryz.func132, Tryz.ntmps132
  go_wp2_with fail
  go_ret
  exact ⟨ret_bool (by rw [HE.out, hv']; simp), Ext.two _ _ _⟩
theorem same_any (t : Tm) : SameSpec t := Tm.ind same_step t
section
variable {P : Program} {w0 w w' : World} {h : Heap} {k : Nat} {m : Mem} {β : Bl}
theorem HRel.grow (H : HRel P w0 h k m β w) (hx : Ext w w') : HRel P w0 h k m β w' := by
 refine ⟨H.ext.trans (hx.mono H.size), fun b o v hv => ?_, H.dom, H.new, fun n ob ho => ?_, H.inj⟩
 ·obtain ⟨h1, h2⟩ := H.mem b o v hv
  exact ⟨hx.some_ h1, h2⟩
 ·obtain ⟨p, hp, hob⟩ := H.obj n ob ho
  refine ⟨p, hp, hob.keep (.rfl' m) (.rfl' β) fun hr => ⟨hx.block _ (hob.lt hr), fun _ => rfl⟩⟩
def CellsAt (m : Mem) (b o : Nat) (x : DV) : Prop := ∀ (j : Nat) (d : DV), x.cells[j]? = some d → ∃ c, m b (o + j) = some c ∧ RD m c d
theorem RD.int_ {x : Value} {n : Int} (h : RD m x (iD n)) : x = .int .i64 n := by cases h; rfl
theorem RD.slice_ {x : Value} {xs : List DV} (h : RD m x (.sl xs)) : ((∃ a, x = .slice a 0 0) ∧ xs = []) ∨ ∃ b o cap, x = .slice (some ⟨b, o, none⟩) xs.length cap ∧ xs.length ≤ cap ∧ cap ≤ maxLen := by
 cases h with
 | nil => exact .inl ⟨⟨_, rfl⟩, rfl⟩
 | sl hn hc hm _ _ _ => subst hn; exact .inr ⟨_, _, _, rfl, hc, hm⟩
theorem RD.sl_at {b o n cap sz : Nat} {α : Type} {g : α → DV} {ts : List α} (hg : ∀ t, (g t).cells.length = sz) (h : RD m (.slice (some ⟨b, o, none⟩) n cap) (.sl (ts.map g))) {i : Nat} (hi : i < ts.length) : CellsAt m b (o + i * sz) (g ts[i]) := by
 intro j d hj
 refine h.cell (sz := sz) (fun x hx => ?_) (i := i) (x := g ts[i]) ?_ hj
 ·obtain ⟨t, _, rfl⟩ := List.mem_map.1 hx; exact hg t
 ·rw [List.getElem?_map, List.getElem?_eq_getElem hi]; rfl
variable {S : Nat → Prop} (hm : ∀ b o v, m b o = some v → w.cell? ⟨b, o, none⟩ = some v) (hS : ∀ b, b < w.heap.size → S b)
include hm hS
theorem slice_sl {α : Type} {g : α → DV} {sz : Nat} (hg : ∀ t, (g t).cells.length = sz) (hsz : 0 < sz) {Rr : α → Addr → Prop} {ts : List α} {x : Value} (h : RD m x (.sl (ts.map g))) (hc : ∀ t ∈ ts, ∀ b o, CellsAt m b o (g t) → Rr t ⟨b, o, none⟩) :
  ∃ a cap, x = .slice a ts.length cap ∧ ts.length ≤ cap ∧ cap ≤ maxLen ∧ Sl w S sz Rr ts a := by
 rcases h.slice_ with ⟨⟨a, rfl⟩, h0⟩ | ⟨b, o, cap, rfl, h1, h2⟩
 ·have : ts = [] := by simpa using h0
  subst this
  exact ⟨a, 0, rfl, by simp, by simp [maxLen], fun i hi => absurd hi (Nat.not_lt_zero _)⟩
 ·rw [List.length_map] at h1 h ⊢
  refine ⟨_, cap, rfl, h1, h2, fun i hi => ?_⟩
  have hca := h.sl_at hg hi
  obtain ⟨d, hd⟩ : ∃ d, (g ts[i]).cells[0]? = some d := ⟨_, List.getElem?_eq_getElem (l := (g ts[i]).cells) (by rw [hg ts[i]]; exact hsz)⟩
  obtain ⟨c, hc0, _⟩ := hca 0 d hd
  have hb := cell_lt (hm _ _ _ hc0)
  exact ⟨b, o, rfl, hS b hb, hb, hc _ (List.getElem_mem hi) _ _ hca⟩
theorem tm_cells (t : Tm) : ∀ b o, CellsAt m b o (tmDV t) → TmC w S t ⟨b, o, none⟩ := by
 induction t using Tm.ind with
 | h t ih =>
  intro b o hc
  rw [TmC.iff]
  unfold CellsAt at hc
  simp only [tmDV_cells] at hc
  obtain ⟨c0, h0, r0⟩ := hc 0 _ rfl
  obtain ⟨c1, h1, r1⟩ := hc 1 _ rfl
  obtain ⟨c2, h2, r2⟩ := hc 2 _ rfl
  rw [r0.int_] at h0; rw [r1.int_] at h1
  simp only [add_none]
  obtain ⟨a, cap, rfl, k1, k2, k3⟩ := slice_sl hm hS (sz := 3) (fun t => by rw [tmDV_cells]; rfl) (by decide) (Rr := TmC w S) r2 fun u hu b o hcc => ih u hu b o hcc
  exact ⟨hm _ _ _ h0, hm _ _ _ h1, a, cap, hm _ _ _ h2, k1, k2, k3⟩
theorem tm_val {t : Tm} {x : Value} (h : RD m x (tmDV t)) : TmV w S t x := by
 rw [tmDV_eq] at h
 cases h with
 | st hl h1 hc =>
  rename_i cs
  obtain ⟨l⟩ := cs
  match l, hl with
  | [c0, c1, c2], _ =>
   have r0 := hc 0 c0 _ rfl rfl
   have r1 := hc 1 c1 _ rfl rfl
   have r2 := hc 2 c2 _ rfl rfl
   rw [r0.int_, r1.int_]
   obtain ⟨a, cap, rfl, k1, k2, k3⟩ := slice_sl hm hS (sz := 3) (fun t => by rw [tmDV_cells]; rfl) (by decide) (Rr := TmC w S) r2 fun u hu b o hcc => tm_cells hm hS u b o hcc
   exact ⟨a, cap, rfl, k1, k2, k3⟩
theorem ints_val {is : List Int} {x : Value} (h : RD m x (.sl (is.map iD))) : SlIV w S is x :=
 slice_sl hm hS (sz := 1) (fun t => rfl) (by decide) (Rr := IntC w) h fun n _ b o hcc => by
  obtain ⟨c, hc, r⟩ := hcc 0 _ rfl
  rw [r.int_] at hc
  exact hm _ _ _ hc
end
def sgDV (g : List Int) : DV := .st [.sl (g.map iD)]
@[go_sem] theorem sgDV_cells (g : List Int) : (sgDV g).cells = [.sl (g.map iD)] := rfl
@[go_sem] theorem sgDV_fold (g : List Int) : DV.st [.sl (g.map iD)] = sgDV g := rfl
theorem sg_val {w : World} {m : Mem} {S : Nat → Prop} (hm : ∀ b o v, m b o = some v → w.cell? ⟨b, o, none⟩ = some v) (hS : ∀ b, b < w.heap.size → S b) {g : List Int} {x : Value} (h : RD m x (sgDV g)) : SgV w S g x := by
 unfold sgDV at h
 cases h with
 | st hl h1 hc =>
  rename_i cs
  obtain ⟨l⟩ := cs
  match l, hl with
  | [c0], _ =>
   obtain ⟨a, cap, rfl, k1, k2, k3⟩ := ints_val hm hS (hc 0 c0 _ rfl rfl)
   exact ⟨a, cap, rfl, k1, k2, k3⟩
abbrev Here (w : World) : Nat → Prop := fun b => b < w.heap.size
theorem tri_of {P : Program} {f : FuncId} {args : List AV} {v : Value} (h : ∀ (w : World) (m : Mem) (β : Bl) (cargs : Array Value), (∀ b o v, m b o = some v → w.cell? ⟨b, o, none⟩ = some v) → cargs.size = args.length →
  (∀ (i : Nat) (x : Value) (a : AV), cargs[i]? = some x → args[i]? = some a → R m β x a) → Calls P f cargs w fun e w' => e = .returned v ∧ Ext w w') (hv : v.oneCell' = true) : Tri P f args (pure' (.d (.v v))) := by
 intro w0 hh k m β w cargs H _ _ hsz hargs
 refine (h w m β cargs (fun b o v hv => (H.mem b o v hv).1) hsz hargs).mono ?_
 rintro e w' ⟨rfl, hx⟩
 exact ⟨v, m, β, rfl, .rfl' m, .rfl' β, fun _ _ h => h, H.grow hx, .d (.v hv)⟩
theorem R.dat_ {m : Mem} {β : Bl} {x : Value} {d : DV} (h : R m β x (.d d)) : RD m x d := by cases h; assumption
theorem tri_of1 {P : Program} {f : FuncId} {a : DV} {v : Value} (hv : v.oneCell' = true) (h : ∀ (w : World) (m : Mem) (x : Value), (∀ b o v, m b o = some v → w.cell? ⟨b, o, none⟩ = some v) → RD m x a → Calls P f #[x] w fun e w' => e = .returned v ∧ Ext w w') :
  Tri P f [.d a] (pure' (.d (.v v))) := tri_of (fun w m β cargs hm hsz hargs => by
 obtain ⟨l⟩ := cargs
 match l, hsz with
 | [x], _ => exact h w m x hm (hargs 0 x _ rfl rfl).dat_) hv
theorem tri_of2 {P : Program} {f : FuncId} {a b : DV} {v : Value} (hv : v.oneCell' = true) (h : ∀ (w : World) (m : Mem) (x y : Value), (∀ b o v, m b o = some v → w.cell? ⟨b, o, none⟩ = some v) → RD m x a → RD m y b → Calls P f #[x, y] w fun e w' => e = .returned v ∧ Ext w w') :
  Tri P f [.d a, .d b] (pure' (.d (.v v))) := tri_of (fun w m β cargs hm hsz hargs => by
 obtain ⟨l⟩ := cargs
 match l, hsz with
 | [x, y], _ => exact h w m x y hm (hargs 0 x _ rfl rfl).dat_ (hargs 1 y _ rfl rfl).dat_) hv
section
variable (g : List Int) (t u : Tm) (l : List Tm)
theorem signature_tri : Tri Tryz.prog 59 [.d (sgDV g)] (pure' (iA (sigOk g))) := tri_of1 rfl fun w m x hm hx => signature_any (Here w) g x w (sg_val hm (fun _ h => h) hx)
theorem own_tri : Tri Tryz.prog 81 [.d (sgDV g), .d (tmDV t)] (pure' (iA (own g t))) := tri_of2 rfl fun w m x y hm hx hy => own_any (Here w) (Here w) g t x y w (sg_val hm (fun _ h => h) hx) (tm_val hm (fun _ h => h) hy)
theorem count_tri (most : Int) (h0 : 0 ≤ most) (h1 : most ≤ 1000000) : Tri Tryz.prog 112 [.d (tmDV t), iA most] (pure' (iA (count t most))) := tri_of2 rfl fun w m x y hm hx hy => by rw [hy.int_]; exact count_any t (Here w) x w most (tm_val hm (fun _ h => h) hx) h0 h1
theorem same_tri : Tri Tryz.prog 132 [.d (tmDV t), .d (tmDV u)] (pure' (bA (same t u))) := tri_of2 rfl fun w m x y hm hx hy => same_any t (Here w) (Here w) u x y w (tm_val hm (fun _ h => h) hx) (tm_val hm (fun _ h => h) hy)
end
mutual
def bk {H : Type} : DataW H → Nat
 | .lit (.string bytes) => bytes.length + 1
 | .lit _ => 1
 | .nil => 1
 | .ptr d => bk d + 1
 | .slice elems spare => bkL elems + bkL spare + 1
 | .agg parts => bkL parts + 1
 | .iface _ d => bk d + 1
 | .map _ => 1
 | .held _ => 1
def bkL {H : Type} : List (DataW H) → Nat
 | [] => 0
 | d :: r => bk d + bkL r
end
def fullM (w : World) : Mem := fun b o => match w.cell? ⟨b, o, none⟩ with | some v => if v.oneCell' = true then some v else none | none => none
theorem fullM_of {w : World} {b o : Nat} {v : Value} (h : w.cell? ⟨b, o, none⟩ = some v) (h1 : v.oneCell' = true) : fullM w b o = some v := by
 unfold fullM; rw [h]; simp [h1]
theorem fullM_cell {w : World} {b o : Nat} {v : Value} (h : fullM w b o = some v) : w.cell? ⟨b, o, none⟩ = some v ∧ v.oneCell' = true := by
 unfold fullM at h
 split at h
 ·split at h
  ·cases h; exact ⟨by assumption, by assumption⟩
  ·cases h
 ·cases h
theorem HRel.start (P : Program) (w : World) : HRel P w (fun _ => none) 0 (fullM w) (fun _ => none) w :=
 ⟨.refl _ _, fun _ _ _ h => fullM_cell h, fun _ _ h => (by cases h), fun _ _ _ h => (by cases h), fun _ _ h => (by cases h), fun _ _ _ _ _ _ h => (by cases h)⟩
theorem add_add (a : Addr) (i j : Nat) : (a.add i).add j = a.add (i + j) := by
 unfold Addr.add
 by_cases hi : i = 0
 ·subst hi; simp
 ·by_cases hj : j = 0
  ·subst hj; simp
  ·simp [hi, hj, Nat.add_assoc]
def Holds (w : World) (cs : List Value) (x : DV) : Prop := x.cells.length = cs.length ∧ ∀ (j : Nat) (c : Value) (y : DV), cs[j]? = some c → x.cells[j]? = some y → c.oneCell' = true ∧ RD (fullM w) c y
def ReadsN (P : Program) (n : Nat) (T : TypeId) {α : Type} (g : α → DV) (ok : α → Prop) (sz : α → Nat) : Prop :=
 ∀ {H : Type} {enc : TypeId × Value → H} {w : World} {base : Nat} {spare : Nat → Bool} {held : Bool} {cs : List Value} {d : DataW H} {ps : List MemPlace}, (∀ b, spare b = true) → DataW.trod enc P w base spare held n T cs = some (d, ps) → ∃ a, ok a ∧ sz a ≤ bk d ∧ Holds w cs (g a)
abbrev Reads (P : Program) (T : TypeId) {α : Type} (g : α → DV) (ok : α → Prop) (sz : α → Nat) : Prop := ∀ n, ReadsN P n T g ok sz
section
variable {P : Program} {T E : TypeId} {α : Type} {g : α → DV} {ok : α → Prop} {sz : α → Nat}
theorem Holds.one {w : World} {c : Value} {x y : DV} (h : x.cells = [y]) (h1 : c.oneCell' = true) (hr : RD (fullM w) c y) : Holds w [c] x := by
 refine ⟨by rw [h]; rfl, fun j c' y' hc hy => ?_⟩
 rw [h] at hy
 cases j with
 | zero => simp at hc hy; subst hc; subst hy; exact ⟨h1, hr⟩
 | succ j => simp at hc
def I64 (n : Int) : Prop := -9223372036854775808 ≤ n ∧ n ≤ 9223372036854775807
theorem reads_int (ht : P.underlying T = some (.int .i64)) : Reads P T (fun n : Int => DV.v (.int .i64 n)) I64 (fun _ => 1) := by
 intro n H enc w base spare held cs d ps _ h
 obtain ⟨x, rfl, hx, hw⟩ := DataW.trod_int ht h
 cases hx
 refine ⟨x, ?_, by simp [bk], .one rfl rfl (.v rfl)⟩
 simpa [I64, Lit.wf, IntKind.min, IntKind.max, IntKind.signed, IntKind.bits] using hw
theorem reads_bool (ht : P.underlying T = some .bool) : Reads P T (fun b : Bool => DV.v (.bool b)) (fun _ => True) (fun _ => 1) := by
 intro n H enc w base spare held cs d ps _ h
 obtain ⟨x, rfl, hx⟩ := DataW.trod_bool ht h
 cases hx
 exact ⟨x, trivial, by simp [bk], .one rfl rfl (.v rfl)⟩
theorem cells_spot {w : World} {base : Nat} {a : Addr} {k : Nat} {cs : List Value} (h : w.cells? base a k = some cs) : cs.length = k ∧ ∀ j c, cs[j]? = some c → w.cell? (a.add j) = some c := by
 unfold World.cells? at h
 split at h
 ·refine ⟨by simpa using mapM_some_length h, fun j c hj => ?_⟩
  have hlt : j < k := by
   have h1 := mapM_some_length h
   have h2 := (List.getElem?_eq_some_iff.1 hj).1
   simp at h1; omega
  have := mapM_some_get h j j (by simp [hlt])
  rw [this]; exact hj
 ·cases h
theorem spot_none {w : World} {a : Addr} {c : Value} (h : w.cell? a = some c) : a.spot = none := by
 unfold World.cell? at h
 split at h
 ·split at h
  ·cases h
  ·rename_i hs
   simpa using hs
 ·cases h
theorem elems_of {w : World} {H : Type} {k : Nat} {a : Addr} {el : List (DataW H × List MemPlace)} {f : List Value → Option (DataW H × List MemPlace)} (hf : ∀ cs y, f cs = some y → ∃ x, ok x ∧ sz x ≤ bk y.1 ∧ Holds w cs (g x))
  {base : Nat} : ∀ (len : Nat), el.length = len → (∀ i, i < len → (w.cells? base (a.add (i * k)) k).bind f = el[i]?) →
  ∃ l : List α, l.length = len ∧ (∀ x ∈ l, ok x) ∧ (l.map sz).sum ≤ bkL (el.map (·.1)) ∧ ∀ (i : Nat) (x : α), l[i]? = some x → (g x).cells.length = k ∧ ∀ (j : Nat) (y : DV), (g x).cells[j]? = some y → ∃ c, w.cell? (a.add (i * k + j)) = some c ∧ c.oneCell' = true ∧ RD (fullM w) c y := by
 have key : ∀ i y, el[i]? = some y → (w.cells? base (a.add (i * k)) k).bind f = el[i]? → ∃ x, ok x ∧ sz x ≤ bk y.1 ∧ (g x).cells.length = k ∧ ∀ (j : Nat) (z : DV), (g x).cells[j]? = some z → ∃ c, w.cell? (a.add (i * k + j)) = some c ∧ c.oneCell' = true ∧ RD (fullM w) c z := by
  intro i y hy hb
  rw [hy, Option.bind_eq_some_iff] at hb
  obtain ⟨cs, h1, h2⟩ := hb
  obtain ⟨x, h3, h4, h5, h6⟩ := hf cs y h2
  obtain ⟨h7, h8⟩ := cells_spot h1
  refine ⟨x, h3, h4, by omega, fun j z hz => ?_⟩
  have hlt : j < cs.length := by have := (List.getElem?_eq_some_iff.1 hz).1; omega
  have hc : cs[j]? = some cs[j] := List.getElem?_eq_getElem hlt
  have h9 := h8 j _ hc
  exact ⟨_, by rw [add_add] at h9; exact h9, h6 j _ z hc hz⟩
 intro len hlen hall
 induction el generalizing len a with
 | nil =>
  subst hlen
  exact ⟨[], rfl, by simp, by simp [bkL], fun i x hx => by simp at hx⟩
 | cons y el ih =>
  obtain ⟨len, rfl⟩ : ∃ m, len = m + 1 := ⟨el.length, by simpa using hlen.symm⟩
  obtain ⟨x, h1, h2, h3, h4⟩ := key 0 y rfl (hall 0 (Nat.succ_pos _))
  have e : ∀ i, (a.add k).add (i * k) = a.add ((i + 1) * k) := fun i => by rw [add_add, Nat.add_mul, Nat.one_mul, Nat.add_comm]
  have e' : ∀ i j, (a.add k).add (i * k + j) = a.add ((i + 1) * k + j) := fun i j => by rw [add_add, Nat.add_mul, Nat.one_mul]; congr 1; omega
  obtain ⟨l, g1, g2, g3, g4⟩ := ih (a := a.add k) (fun i z hz hb => by
   rw [e] at hb
   obtain ⟨x, q1, q2, q3, q4⟩ := key (i + 1) z (by simpa using hz) (by simpa using hb)
   refine ⟨x, q1, q2, q3, fun j z' hz' => ?_⟩
   obtain ⟨c, r1, r2⟩ := q4 j z' hz'
   refine ⟨c, ?_, r2⟩
   rw [e']; exact r1) len (by simpa using hlen) (fun i hi => by rw [e]; simpa using hall (i + 1) (by omega))
  refine ⟨x :: l, by simp [g1], ?_, by simp only [List.map_cons, List.sum_cons, bkL]; omega, fun i z hz => ?_⟩
  ·intro z hz
   rcases List.mem_cons.1 hz with rfl | hz
   ·exact h1
   ·exact g2 z hz
  ·cases i with
   | zero => simp at hz; subst hz; exact ⟨h3, by simpa using h4⟩
   | succ i =>
    obtain ⟨r1, r2⟩ := g4 i z (by simpa using hz)
    refine ⟨r1, fun j y hy => ?_⟩
    obtain ⟨c, r3, r4⟩ := r2 j y hy
    refine ⟨c, ?_, r4⟩
    rw [← e']; exact r3
theorem reads_slice {n : Nat} (ht : P.underlying T = some (.slice E)) (hE : 0 < P.cellsOf E) (h : ∀ m, m < n → ReadsN P m E g ok sz) : ReadsN P n T (fun l : List α => .sl (l.map g)) (fun l => ∀ a ∈ l, ok a) (fun l => (l.map sz).sum + 1) := by
 intro H enc w base spare held cs d ps hsp hd
 rcases DataW.trod_slice ht hd with ⟨rfl, hx⟩ | ⟨a, len, cap, elems, rest, m, rfl, rfl, hx, hb, hle, hmax, hel, hat, hrest, _⟩
 ·cases hx
  exact ⟨[], by simp, by simp [bk], .one rfl rfl .nil⟩
 ·cases hx
  obtain ⟨l, g1, g2, g3, g4⟩ := elems_of (g := g) (ok := ok) (sz := sz) (w := w) (k := P.cellsOf E) (a := a) (el := elems) (f := DataW.trod enc P w base spare held m E) (base := base) (fun cs y hy => h m (Nat.lt_succ_self _) (d := y.1) (ps := y.2) hsp hy) len hel hat
  refine ⟨l, g2, by simp only [bk]; omega, .one rfl rfl ?_⟩
  by_cases hcap : cap = 0
  ·have : len = 0 := by omega
   subst hcap; subst this
   have : l = [] := List.eq_nil_of_length_eq_zero g1
   subst this
   exact .nil
  ·have hspot : a.spot = none := by
    have key : ∀ i (y : DataW H × List MemPlace), i = 0 → (w.cells? base (a.add (i * P.cellsOf E)) (P.cellsOf E)).bind (DataW.trod enc P w base spare held m E) = some y → a.spot = none := by
     intro i y hi hy
     subst hi
     rw [Option.bind_eq_some_iff] at hy
     obtain ⟨cs, h1, _⟩ := hy
     obtain ⟨h2, h3⟩ := cells_spot h1
     have hc : cs[0]? = some (cs[0]'(by omega)) := List.getElem?_eq_getElem (by omega)
     exact spot_none (by simpa [Addr.add] using h3 0 _ hc)
    by_cases hl0 : len = 0
    ·obtain ⟨hr1, hr2⟩ := hrest (hsp _)
     have h0 := hr2 0 (by omega)
     rw [hl0] at h0
     obtain ⟨y, hy⟩ : ∃ y, rest[0]? = some y := ⟨_, List.getElem?_eq_getElem (by omega)⟩
     exact key _ y (by omega) (h0.trans hy)
    ·have h0 := hat 0 (by omega)
     obtain ⟨y, hy⟩ : ∃ y, elems[0]? = some y := ⟨_, List.getElem?_eq_getElem (by omega)⟩
     exact key _ y rfl (h0.trans hy)
   obtain ⟨ab, ao, az⟩ := a
   simp only at hspot
   subst hspot
   have hmem : ∀ (i j : Nat) (x d : DV), (l.map g)[i]? = some x → x.cells[j]? = some d → ∃ c, fullM w ab (ao + i * P.cellsOf E + j) = some c ∧ RD (fullM w) c d := by
    intro i j x d hx hd'
    rw [List.getElem?_map, Option.map_eq_some_iff] at hx
    obtain ⟨z, hz, rfl⟩ := hx
    obtain ⟨_, h2⟩ := g4 i z hz
    obtain ⟨c, h3, h4, h5⟩ := h2 j d hd'
    refine ⟨c, fullM_of ?_ h4, h5⟩
    rwa [add_none', ← Nat.add_assoc] at h3
   refine .sl (sz := P.cellsOf E) (by simp [g1]) hle hmax (fun x hx => ?_) (fun i j x d hx hd' => ?_) (fun i j x d c hx hd' hc => ?_)
   ·obtain ⟨z, hz, rfl⟩ := List.mem_map.1 hx
    obtain ⟨i, hi, rfl⟩ := List.mem_iff_getElem.1 hz
    exact (g4 i _ (List.getElem?_eq_getElem hi)).1
   ·obtain ⟨c, h1, _⟩ := hmem i j x d hx hd'; exact ⟨c, h1⟩
   ·obtain ⟨c', h1, h2⟩ := hmem i j x d hx hd'
    rw [hc] at h1; cases h1; exact h2
theorem ReadsN.map {β : Type} {n : Nat} {g' : β → DV} {ok' : β → Prop} {sz' : β → Nat} (h : ReadsN P n T g ok sz) (f : α → β) (hg : ∀ a, ok a → g' (f a) = g a ∧ ok' (f a) ∧ sz' (f a) ≤ sz a) : ReadsN P n T g' ok' sz' := by
 intro H enc w base spare held cs d ps hsp hd
 obtain ⟨a, h1, h2, h3⟩ := h hsp hd
 obtain ⟨k1, k2, k3⟩ := hg a h1
 exact ⟨f a, k2, by omega, by rw [k1]; exact h3⟩
def ReadsF (P : Program) (n : Nat) (fs : List Field) (off : Nat) {α : Type} (g : α → List DV) (ok : α → Prop) (sz : α → Nat) : Prop :=
 ∀ {H : Type} {enc : TypeId × Value → H} {w : World} {base : Nat} {spare : Nat → Bool} {held : Bool} {cs : List Value} {xs : List (DataW H × List MemPlace)}, (∀ b, spare b = true) → xs.length = fs.length →
  (∀ (i : Nat) (f : Field), fs[i]? = some f → DataW.trod enc P w base spare held n f.type ((cs.drop f.offset).take (P.cellsOf f.type)) = xs[i]?) →
  ∃ a, ok a ∧ sz a ≤ bkL (xs.map (·.1)) ∧ Holds w ((cs.drop off).take ((fs.map fun f => P.cellsOf f.type).sum)) (.st (g a))
theorem readsF_nil {n off : Nat} : ReadsF P n [] off (fun _ : Unit => []) (fun _ => True) (fun _ => 0) := by
 intro H enc w base spare held cs xs _ hl _
 exact ⟨(), trivial, Nat.zero_le _, by simp [DV.cells], fun j c y hc => by simp at hc⟩
theorem readsF_cons {n off : Nat} {f : Field} {fs : List Field} {β : Type} {gs : β → List DV} {oks : β → Prop} {szs : β → Nat} (ho : f.offset = off) (h : ReadsN P n f.type g ok sz) (hs : ReadsF P n fs (off + P.cellsOf f.type) gs oks szs) :
  ReadsF P n (f :: fs) off (fun p : α × β => (g p.1).cells ++ gs p.2) (fun p => ok p.1 ∧ oks p.2) (fun p => sz p.1 + szs p.2) := by
 intro H enc w base spare held cs xs hsp hl hf
 match xs, hl with
 | x :: xs, hl =>
  have h0 := hf 0 f rfl
  simp only [List.getElem?_cons_zero] at h0
  obtain ⟨a, h1, h2, h3, h4⟩ := h hsp (d := x.1) (ps := x.2) h0
  obtain ⟨b, k1, k2, k3, k4⟩ := hs hsp (xs := xs) (by simpa using hl) (fun i f' hi => by have := hf (i + 1) f' (by simpa using hi); simpa using this)
  rw [ho] at h3 h4
  have e : (cs.drop off).take (P.cellsOf f.type + (fs.map fun f => P.cellsOf f.type).sum) = (cs.drop off).take (P.cellsOf f.type) ++ (cs.drop (off + P.cellsOf f.type)).take ((fs.map fun f => P.cellsOf f.type).sum) := by
   rw [← List.drop_drop, ← List.take_add]
  refine ⟨(a, b), ⟨h1, k1⟩, by simp only [List.map_cons, bkL]; omega, ?_⟩
  simp only [List.map_cons, List.sum_cons, e]
  refine ⟨by simp only [DV.cells, List.length_append] at h3 k3 ⊢; omega, fun j c y hc hy => ?_⟩
  simp only [DV.cells_st] at hy k4
  by_cases hj : j < ((cs.drop off).take (P.cellsOf f.type)).length
  ·rw [List.getElem?_append_left hj] at hc
   rw [List.getElem?_append_left (by omega)] at hy
   exact h4 j c y hc hy
  ·rw [List.getElem?_append_right (by omega)] at hc
   rw [List.getElem?_append_right (by omega), h3] at hy
   exact k4 _ c y hc hy
theorem reads_struct {n : Nat} {fs : Array Field} {l : List Field} {gs : α → List DV} (ht : P.underlying T = some (.struct fs)) (hfs : fs.toList = l) (hsz : P.cellsOf T = (l.map fun f => P.cellsOf f.type).sum) (h : ∀ m, m < n → ReadsF P m l 0 gs ok sz) : ReadsN P n T (fun a => .st (gs a)) ok (fun a => sz a + 1) := by
 subst hfs
 intro H enc w base spare held cs d ps hsp hd
 obtain ⟨xs, m, rfl, hx, hl, hlen, hf⟩ := DataW.trod_struct ht hd
 cases hx
 obtain ⟨a, h1, h2, h3⟩ := h m (Nat.lt_succ_self _) hsp (xs := xs) (by simpa using hlen) (fun i f hi => hf i f (by simpa using hi))
 refine ⟨a, h1, by simp only [bk]; omega, ?_⟩
 rw [← hsz, List.drop_zero, ← hl, List.take_length] at h3
 exact h3
theorem arg_struct {w : World} {m : Mem} {β : Bl} {cs : Array Value} {x : DV} {ds : List DV} (hx : x = .st ds) (h : Holds w cs.toList x) (hm : (fullM w).le m) : R m β (.agg cs) (.d x) := by
 subst hx
 obtain ⟨h1, h2⟩ := h
 refine .d (.st (by simpa [DV.cells] using h1.symm) (fun i c hc => ?_) (fun i c d hc hd => ?_))
 ·have hlt : i < cs.size := (Array.getElem?_eq_some_iff.1 hc).1
  obtain ⟨y, hy⟩ : ∃ y, (DV.st ds).cells[i]? = some y := ⟨_, List.getElem?_eq_getElem (by simp at h1 ⊢; omega)⟩
  exact (h2 i c y (by simpa using hc) hy).1
 ·exact (h2 i c d (by simpa using hc) hd).2.mono hm
theorem arg_cell {w : World} {m : Mem} {β : Bl} {c : Value} {x : DV} (hx : x.cells = [x]) (h : Holds w [c] x) (hm : (fullM w).le m) : R m β c (.d x) :=
 .d ((h.2 0 c x rfl (by rw [hx]; rfl)).2.mono hm)
end
theorem Tri.start {P : Program} {f : FuncId} {args : List AV} {v : Value} (h : Tri P f args (pure' (.d (.v v)))) {W : World} {cargs : Array Value} (hsz : cargs.size = args.length) (hargs : ∀ (i : Nat) (x : Value) (a : AV), cargs[i]? = some x → args[i]? = some a → R (fullM W) (fun _ => none) x a) :
  Calls P f cargs W fun e W' => e = .returned v ∧ Below W.heap.size W W' := by
 refine (h W (fun _ => none) 0 (fullM W) (fun _ => none) W cargs (HRel.start P W) (fun x hx => by cases hx) (fun x hx => by cases hx) hsz hargs).mono ?_
 rintro e W' ⟨u, m', β', rfl, _, _, _, h5, h6⟩
 cases h6 with
 | d hd => cases hd with | v _ => exact ⟨rfl, h5.ext⟩
theorem post_below {H : Type} {enc : TypeId × Value → H} {P : Program} {f : Func} {s : ChangeSpec} {apart fresh handsOn again : Bool} {W W' : World} {args : Array Value} {v : Value} {ds gs : List (DataW H)} {before pa pv : List MemPlace}
  (hW : DataW.Whole enc P f.params.toList s.vars apart W args.toList ds gs before) (hb : Below W.heap.size W W')
  (hres : ∀ (b : Nat) (sp : Nat → Bool) (hd : Bool), DataW.TrodAll enc P W' b sp hd f.resultTypes.toList (v.resultList f.resultTypes.size) (s.fn H (ds ++ gs)).results [])
  (hargs : ∀ sp : Nat → Bool, (∀ p ∈ before, sp p.block = true) → DataW.TrodAll enc P W' 0 sp true f.params.toList args.toList (s.fn H (ds ++ gs)).args pa)
  (hvars : ∀ sp : Nat → Bool, (∀ p ∈ before, sp p.block = true) → DataW.TrodVars enc P W' sp s.vars (s.fn H (ds ++ gs)).vars pv)
  (hps : before = pa ++ pv)
  (hok : ∀ (j : Nat) (t : TypeId) (r : Value), f.resultTypes[j]? = some t → (v.resultList f.resultTypes.size)[j]? = some r → Value.okWide P W' .any 0 t r) :
  s.post enc P f apart fresh handsOn again W args v W' := by
 have hlt : ∀ p ∈ before, p.block < W.heap.size := fun p hp => hW.lt p hp
 have hold : ∀ p ∈ before, (fun b => decide (b < W.heap.size)) p.block = true := fun p hp => by simpa using hlt p hp
 refine ⟨ds, gs, before, [], pa, pv, hW, hres _ _ _, hargs _ hold, hvars _ hold, hb.frame _, fun _ => ?_⟩
 obtain ⟨_, _, _, _, _, hz, hn⟩ := hW
 refine ⟨hok, _, _, ([] ++ pa) ++ pv, ⟨[] ++ pa, pv, Go.ChangeShapes.trodAll_append (hargs _ (fun _ _ => rfl)) (hres _ _ _), hvars _ (fun _ _ => rfl), rfl, ?_, ?_⟩, ?_⟩
 ·intro b off hp
  have hp' : MemPlace.cell b off ∈ before := by rw [hps]; simpa using hp
  rw [hb.frozen (p := ⟨b, off, none⟩) (hlt _ hp')]
  exact hz b off hp'
 ·intro ha
  have := hn ha
  rw [hps] at this
  simpa using this
 ·intro p hp _
  rw [hps]
  simpa using hp
theorem args_below {H : Type} {enc : TypeId × Value → H} {P : Program} (hl : laidOutB P = true) {W W' : World} (hb : Below W.heap.size W W') {sp : Nat → Bool} : ∀ {ts : List TypeId} {vs : List Value} {ds : List (DataW H)} {ps : List MemPlace},
  DataW.TrodAll enc P W 0 (fun _ => true) true ts vs ds ps → (∀ t ∈ ts, P.readableRec t = true ∧ t < P.types.size) → (∀ p ∈ ps, p.block < W.heap.size) → (∀ p ∈ ps, sp p.block = true) → DataW.TrodAll enc P W' 0 sp true ts vs ds ps
 | [], _, _, _, h, _, _, _ => by
  obtain ⟨rfl, rfl, rfl⟩ := Go.ChangeShapes.trodAll_nil h
  exact rfl
 | t :: ts, _, _, _, h, ht, h1, h2 => by
  obtain ⟨v, vs, d, ds, a, b, rfl, rfl, rfl, h3, h4⟩ := Go.ChangeShapes.trodAll_cons h
  obtain ⟨r1, r2⟩ := ht t (by simp)
  exact ⟨a, b, WideElems.Trod_stays hl r1 r2 h3 (fun x hx => hb.same (h1 x (by simp [hx]))) (fun x hx => h2 x (by simp [hx])), args_below hl hb h4 (fun t' ht' => ht t' (by simp [ht'])) (fun p hp => h1 p (by simp [hp])) (fun p hp => h2 p (by simp [hp])), rfl⟩
end Go.Proofs.YtmeekpinkfpnhabGreat
