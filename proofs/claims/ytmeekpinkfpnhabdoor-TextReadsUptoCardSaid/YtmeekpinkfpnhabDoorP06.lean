/- Walks: what is wrong with a term, by package term and by the reference. -/
import Derived.Test.YtmeekpinkfpnhabDoorP05
import Derived.Test.YtmeekpinkfpnhabDoorProg
import Derived.WalkKit
import Derived.WalkSpells
import Derived.WalkLawsBesides
import Derived.Deep.AppendLies
import Derived.Deep.QuietTactic
import Derived.BigQuiet
set_option linter.all false
namespace Go.Proofs.YtmeekpinkfpnhabDoor
inductive Tm where
 | mk (v f : Int) (us : List Tm)
def Tm.v : Tm → Int | .mk v _ _ => v
def Tm.f : Tm → Int | .mk _ f _ => f
def Tm.us : Tm → List Tm | .mk _ _ us => us
theorem Tm.eta : ∀ t : Tm, Tm.mk t.v t.f t.us = t | .mk _ _ _ => rfl
theorem Tm.ind {P : Tm → Prop} (h : ∀ t, (∀ u ∈ t.us, P u) → P t) : ∀ t, P t := by
 intro t
 refine Tm.rec (motive_1 := P) (motive_2 := fun us => ∀ u ∈ us, P u) ?_ ?_ ?_ t
 ·intro v f us ih; exact h _ ih
 ·intro u hu; cases hu
 ·intro t ts h1 h2 u hu
  cases hu with
  | head => exact h1
  | tail _ hu => exact h2 u hu
def Tm.size : Tm → Nat
 | .mk _ _ us => 1 + sizes us
where sizes : List Tm → Nat
 | [] => 0
 | t :: ts => t.size + sizes ts
theorem getD_at {α : Type} {l : List α} {i : Nat} (h : i < l.length) (d : α) : l.getD i d = l[i] := by
 rw [List.getD_eq_getElem?_getD, List.getElem?_eq_getElem h]; rfl
mutual
def count : Tm → Int → Int
 | .mk _ _ us, most => countL us 1 most
def countL : List Tm → Int → Int → Int
 | [], n, _ => n
 | x :: xs, n, most => if n > most then n else countL xs (n + count x (most - n)) most
end
theorem count_eq (t : Tm) (most : Int) : count t most = countL t.us 1 most := by cases t; rw [count]; rfl
theorem countL_stop {us : List Tm} {n most : Int} (h : n > most) : countL us n most = n := by
 cases us with
 | nil => rw [countL]
 | cons x xs => rw [countL, if_pos h]
theorem countL_go {us : List Tm} {k : Nat} (hk : k < us.length) {n most : Int} (h : n ≤ most) :
  countL (us.drop k) n most = countL (us.drop (k + 1)) (n + count us[k] (most - n)) most := by
 rw [List.drop_eq_getElem_cons hk, countL, if_neg (by omega)]
theorem countL_end {us : List Tm} {n most : Int} : countL (us.drop us.length) n most = n := by
 rw [List.drop_length, countL]
mutual
theorem count_le : ∀ (t : Tm) (most : Int), 0 ≤ most → 1 ≤ count t most ∧ count t most ≤ most + 1
 | .mk v f us, most, h => by unfold count; exact countL_le us 1 most (by omega) (by omega)
theorem countL_le : ∀ (ts : List Tm) (n most : Int), 1 ≤ n → n ≤ most + 1 → 1 ≤ countL ts n most ∧ countL ts n most ≤ most + 1
 | [], n, most, h1, h2 => by unfold countL; omega
 | x :: xs, n, most, h1, h2 => by
  unfold countL
  split
  ·omega
  ·have := count_le x (most - n) (by omega)
   exact countL_le xs _ most (by omega) (by omega)
end
def formOne (g : List Int) (v f : Int) (n : Nat) : Int :=
 if v ≠ 0 then
  if v < 1 ∨ v > 1000 then 3
  else if n > 0 ∨ f ≠ 0 then 1
  else 0
 else if f < 0 ∨ f ≥ g.length then 5
 else if (n : Int) ≠ g.getD f.toNat 0 then 1
 else 0
mutual
def form (g : List Int) : Tm → Int
 | .mk v f us => if formL g us ≠ 0 then formL g us else formOne g v f us.length
def formL (g : List Int) : List Tm → Int
 | [] => 0
 | x :: xs => if form g x ≠ 0 then form g x else formL g xs
end
theorem form_eq (g : List Int) (t : Tm) : form g t = if formL g t.us ≠ 0 then formL g t.us else formOne g t.v t.f t.us.length := by
 cases t; rw [form]; rfl
def own (g : List Int) (t : Tm) : Int := if count t 120 > 120 then 2 else form g t
def sigOk (g : List Int) : Int := if g.length > 12 then 2 else if g.any (fun n => n < 0 || n > 3) then 3 else 0
def ownL (g : List Int) : List Tm → Int
 | [] => 0
 | x :: xs => if own g x ≠ 0 then own g x else ownL g xs
def allOk (g : List Int) (l : List Tm) : Int := if sigOk g ≠ 0 then sigOk g else ownL g l
mutual
def same : Tm → Tm → Bool
 | .mk v f us, .mk v' f' us' => v == v' && f == f' && sameL us us'
def sameL : List Tm → List Tm → Bool
 | [], [] => true
 | x :: xs, y :: ys => same x y && sameL xs ys
 | _, _ => false
end
theorem same_eq (t u : Tm) : same t u = (t.v == u.v && t.f == u.f && sameL t.us u.us) := by cases t; cases u; rw [same]; rfl
mutual
theorem same_iff : ∀ a b : Tm, same a b = true ↔ a = b
 | .mk v f us, .mk v' f' us' => by
  rw [same, Bool.and_eq_true, Bool.and_eq_true, beq_iff_eq, beq_iff_eq, sameL_iff us us']
  constructor
  ·rintro ⟨⟨rfl, rfl⟩, rfl⟩; rfl
  ·intro h; cases h; exact ⟨⟨rfl, rfl⟩, rfl⟩
theorem sameL_iff : ∀ a b : List Tm, sameL a b = true ↔ a = b
 | [], [] => by simp [sameL]
 | [], _ :: _ => by simp [sameL]
 | _ :: _, [] => by simp [sameL]
 | x :: xs, y :: ys => by
  rw [sameL, Bool.and_eq_true, same_iff x y, sameL_iff xs ys]
  constructor
  ·rintro ⟨rfl, rfl⟩; rfl
  ·intro h; cases h; exact ⟨rfl, rfl⟩
end
def formAll (g : List Int) : List Tm → Int
 | [] => 0
 | x :: xs => if formOne g x.v x.f x.us.length ≠ 0 then formOne g x.v x.f x.us.length else formAll g xs
theorem formAll_append (g : List Int) (a b : List Tm) : formAll g (a ++ b) = if formAll g a ≠ 0 then formAll g a else formAll g b := by
 induction a with
 | nil => simp [formAll]
 | cons x xs ih =>
  simp only [List.cons_append, formAll, ih]
  by_cases h : formOne g x.v x.f x.us.length ≠ 0
  ·simp [h]
  ·simp only [ne_eq, Decidable.not_not] at h; simp [h]
theorem formAll_go {g : List Int} {l : List Tm} {k : Nat} (hk : k < l.length) (h : formOne g l[k].v l[k].f l[k].us.length = 0) : formAll g (l.drop k) = formAll g (l.drop (k + 1)) := by
 rw [List.drop_eq_getElem_cons hk, formAll, if_neg (by simp [h])]
theorem formAll_stop {g : List Int} {l : List Tm} {k : Nat} (hk : k < l.length) (h : formOne g l[k].v l[k].f l[k].us.length ≠ 0) : formAll g (l.drop k) = formOne g l[k].v l[k].f l[k].us.length := by
 rw [List.drop_eq_getElem_cons hk, formAll, if_pos h]
theorem same_rfl (t : Tm) : same t t = true := (same_iff t t).2 rfl
theorem sameL_take {a b : List Tm} {i : Nat} (hi : i < a.length) (hi' : i < b.length) (h : sameL (a.take i) (b.take i) = true) (hs : same a[i] b[i] = true) : sameL (a.take (i + 1)) (b.take (i + 1)) = true := by
 rw [sameL_iff] at h ⊢
 rw [same_iff] at hs
 rw [List.take_succ_eq_append_getElem hi, List.take_succ_eq_append_getElem hi', h, hs]
theorem sameL_not {a b : List Tm} {i : Nat} (hi : i < a.length) (hi' : i < b.length) (hs : same a[i] b[i] = false) : sameL a b = false := by
 rw [← Bool.not_eq_true, sameL_iff]
 rintro rfl
 rw [same_rfl] at hs
 cases hs
theorem sameL_len {a b : List Tm} (h : a.length ≠ b.length) : sameL a b = false := by
 rw [← Bool.not_eq_true, sameL_iff]
 rintro rfl
 exact h rfl
mutual
def parts : Tm → List Tm
 | .mk v f us => partsL us ++ [.mk v f us]
def partsL : List Tm → List Tm
 | [] => []
 | x :: xs => parts x ++ partsL xs
end
theorem parts_eq (t : Tm) : parts t = partsL t.us ++ [t] := by cases t; rw [parts]; rfl
theorem partsL_append (a b : List Tm) : partsL (a ++ b) = partsL a ++ partsL b := by
 induction a with
 | nil => simp [partsL]
 | cons x xs ih => simp [partsL, ih]
theorem partsL_take {us : List Tm} {k : Nat} (hk : k < us.length) : partsL (us.take (k + 1)) = partsL (us.take k) ++ parts us[k] := by
 rw [List.take_succ_eq_append_getElem hk, partsL_append]; simp [partsL]
theorem partsL_le {us : List Tm} (k : Nat) : (partsL (us.take k)).length ≤ (partsL us).length := by
 rw [← List.take_append_drop k us, partsL_append]
 rw [List.take_append_drop, List.length_append]; omega
theorem partsL_at {us : List Tm} {k : Nat} (hk : k < us.length) : (partsL (us.take k)).length + (parts us[k]).length ≤ (partsL us).length := by
 have := partsL_le (us := us) (k + 1)
 rw [partsL_take hk, List.length_append] at this
 exact this
mutual
theorem formAll_parts (g : List Int) : ∀ t : Tm, formAll g (parts t) = form g t
 | .mk v f us => by
  rw [parts, formAll_append, formAll_partsL g us, form]
  simp only [formAll, Tm.v, Tm.f, Tm.us]
  by_cases h : formL g us ≠ 0
  ·simp [h]
  ·simp only [ne_eq, Decidable.not_not] at h
   simp only [h, ne_eq, not_true, if_false]
   by_cases h2 : formOne g v f us.length = 0 <;> simp [h2]
theorem formAll_partsL (g : List Int) : ∀ us : List Tm, formAll g (partsL us) = formL g us
 | [] => rfl
 | x :: xs => by
  rw [partsL, formAll_append, formAll_parts g x, formAll_partsL g xs, formL]
end
mutual
theorem count_parts : ∀ (t : Tm) (most : Int), 0 ≤ most → count t most ≤ most → ((parts t).length : Int) = count t most
 | .mk v f us, most, h, h2 => by
  rw [parts, List.length_append]
  rw [count] at h2 ⊢
  have := countL_parts us 1 most (by omega) h2
  simp
  omega
theorem countL_parts : ∀ (us : List Tm) (n most : Int), 0 ≤ n → countL us n most ≤ most → n + (partsL us).length = countL us n most
 | [], n, most, h0, h => by simp [partsL, countL]
 | x :: xs, n, most, h0, h => by
  rw [countL] at h ⊢
  by_cases hn : n > most
  ·rw [if_pos hn] at h; omega
  ·rw [if_neg hn] at h ⊢
   have h1 := count_le x (most - n) (by omega)
   rw [partsL, List.length_append]
   by_cases hx : count x (most - n) ≤ most - n
   ·have := count_parts x (most - n) (by omega) hx
    have := countL_parts xs (n + count x (most - n)) most (by omega) h
    simp
    omega
   ·rw [countL_stop (by omega)] at h
    omega
end
mutual
def pn : Tm → Nat → List (Tm × List Int)
 | .mk v f us, n => pnL us n ++ [(.mk v f us, idxs us n)]
def pnL : List Tm → Nat → List (Tm × List Int)
 | [], _ => []
 | x :: xs, n => pn x n ++ pnL xs (n + (parts x).length)
def idxs : List Tm → Nat → List Int
 | [], _ => []
 | x :: xs, n => ((n : Int) + (parts x).length - 1) :: idxs xs (n + (parts x).length)
end
end Go.Proofs.YtmeekpinkfpnhabDoor
namespace Go.Proofs.YtmeekpinkfpnhabDoor
open Go.RowKit
abbrev iD (n : Int) : DV := .v (.int .i64 n)
abbrev bD (b : Bool) : DV := .v (.bool b)
abbrev iA (n : Int) : AV := .d (.v (.int .i64 n))
abbrev bA (b : Bool) : AV := .d (.v (.bool b))
theorem Tm.size_eq (t : Tm) : t.size = 1 + Tm.size.sizes t.us := by cases t; rfl
theorem Tm.sizes_at : ∀ (ts : List Tm) (i : Nat) (h : i < ts.length), ts[i].size ≤ Tm.size.sizes ts
 | t :: ts, 0, _ => by simp only [Tm.size.sizes, List.getElem_cons_zero]; omega
 | t :: ts, i + 1, h => by simp only [Tm.size.sizes, List.getElem_cons_succ]; have := Tm.sizes_at ts i (by simpa using h); omega
theorem Tm.sizes_len : ∀ (ts : List Tm), ts.length ≤ Tm.size.sizes ts
 | [] => Nat.le_refl _
 | t :: ts => by simp only [Tm.size.sizes, List.length_cons]; have := Tm.sizes_len ts; have := t.size_eq; omega
theorem Tm.size_at {t : Tm} {i : Nat} (h : i < t.us.length) : t.us[i].size < t.size := by have := Tm.sizes_at t.us i h; rw [t.size_eq]; omega
theorem Tm.len_lt (t : Tm) : t.us.length < t.size := by have := Tm.sizes_len t.us; rw [t.size_eq]; omega
def tmDV (t : Tm) : DV := .st [.v (.int .i64 t.v), .v (.int .i64 t.f), .sl (t.us.attach.map fun u => tmDV u.1)]
termination_by t.size
decreasing_by
 obtain ⟨i, hi, e⟩ := List.mem_iff_getElem.1 u.2
 rw [← e]; exact Tm.size_at hi
theorem tmDV_eq (t : Tm) : tmDV t = .st [.v (.int .i64 t.v), .v (.int .i64 t.f), .sl (t.us.map tmDV)] := by
 rw [tmDV]
 simp only [List.map_subtype, List.unattach_attach]
@[go_sem] theorem tmDV_cells (t : Tm) : (tmDV t).cells = [.v (.int .i64 t.v), .v (.int .i64 t.f), .sl (t.us.map tmDV)] := by rw [tmDV_eq]; rfl
@[go_sem] theorem tmDV_fold (t : Tm) : DV.st [.v (.int .i64 t.v), .v (.int .i64 t.f), .sl (t.us.map tmDV)] = tmDV t := (tmDV_eq t).symm
theorem nth_map {α : Type} (g : α → DV) {l : List α} {k : Nat} (hk : k < l.length) (d : DV) : (l.map g).getD k d = g l[k] := by
 rw [List.getD_eq_getElem?_getD, List.getElem?_map, List.getElem?_eq_getElem hk]; rfl
@[go_sem] theorem allD_nil : allD [] = some [] := rfl
@[go_sem] theorem allD_d (x : DV) (l : List AV) : allD (.d x :: l) = (allD l).map (x :: ·) := by
 rw [allD]; cases allD l <;> rfl
@[go_sem] theorem allD_n (l : List AV) : allD (.nil :: l) = (allD l).map (.sl [] :: ·) := by
 rw [allD]; cases allD l <;> rfl
@[go_sem] theorem allD_own (n : Nm) (xs : List DV) (l : List AV) : allD (.own n xs :: l) = (allD l).map (.sl xs :: ·) := by
 rw [allD]; cases allD l <;> rfl
@[go_sem] theorem map_append' {α β : Type} (f : α → β) (l r : List α) : l.map f ++ r.map f = (l ++ r).map f := List.map_append.symm
def ownEff (e : TypeId) (n : Nm) (xs ys : List DV) : Eff := ⟨.own n ys, [(n, some (.perm e xs.length))], [(n, some (.perm e ys.length))]⟩
def newEff (e : TypeId) (n' : Nm) (ys : List DV) : Eff := ⟨.own n' ys, [(n', none)], [(n', some (.perm e ys.length))]⟩
def codeAt : List Bool → Code → Option Code
 | [], c => some c
 | false :: p, .seq a _ => codeAt p a
 | true :: p, .seq _ b => codeAt p b
 | false :: p, .cond _ a _ => codeAt p a
 | true :: p, .cond _ _ b => codeAt p b
 | _ :: p, .block _ a => codeAt p a
 | _ :: p, .loop a => codeAt p a
 | _, _ => none
def bodyAt (f : Func) (p : List Bool) : Option Code := f.body.bind (codeAt p)
theorem hid {p : Prop} (h : p) : Hid p := h
abbrev Ext (w w' : World) : Prop := Below w.heap.size w w'
theorem Ext.rfl' (w : World) : Ext w w := Below.refl _ _
theorem Ext.step {a b c : World} (h : Ext a b) (k : Ext b c) : Ext a c := h.trans (k.mono h.size)
theorem Ext.new {a b : World} (h : Ext a b) (o : Obj) : Ext a (b.alloc o) := Below.alloc h h.size o
theorem Ext.draw {a b : World} (h : Ext a b) : Ext a b.drew := Below.drew h
theorem Ext.draws {a b : World} (h : Ext a b) (n : Nat) : Ext a (b.drewN n) := ⟨h.os, h.tape, h.output, h.size, h.block⟩
theorem Ext.one (w : World) (o : Obj) : Ext w (w.alloc o) := (Ext.rfl' w).new o
theorem add_none (b o n : Nat) : (⟨b, o, none⟩ : Addr).add n = ⟨b, o + n, none⟩ := by
 unfold Addr.add; split <;> simp_all
theorem cell_lt {w : World} {p : Addr} {v : Value} (h : w.cell? p = some v) : p.block < w.heap.size := by
 rcases Nat.lt_or_ge p.block w.heap.size with hlt | hge
 ·exact hlt
 ·rw [World.cell?, Array.getElem?_eq_none hge] at h; cases h
theorem Ext.some_ {w w' : World} (h : Ext w w') {p : Addr} {v : Value} (hc : w.cell? p = some v) : w'.cell? p = some v := (h.cell (cell_lt hc)).trans hc
theorem wp_region_mild {P : Program} {id : Nat} {Q : Exit → Act → World → Prop} {a : Act} {w : World} {l : List Oper} (hm : P.follows .mixedOrders = true) (hB : Region.lexB .any l.toArray = true)
  (h : ∀ (I : Type) [Nonempty I] (W : I → World), (∀ i, Ext w (W i)) → (∀ w', Ext w w' → ∃ i, w' = W i) → wpQuiet P l.toArray (fun w' => ∃ i, w' = W i) (fun a' => ∀ w', (∃ i, w' = W i) → Q .normal a' w') l a) : (Code.region id l.toArray true).wp P Q a w := by
 have hC : ∀ w', Ext w w' → ∃ i : { w' // Ext w w' }, w' = i.1 := fun w' h => ⟨⟨w', h⟩, rfl⟩
 refine wp_region_quiet (C := fun w' => ∃ i : { w' // Ext w w' }, w' = i.1) hm hB (hC _ (Ext.draw (Ext.rfl' w))) ?_
 haveI : Nonempty { w' // Ext w w' } := ⟨⟨w, Ext.rfl' w⟩⟩
 simpa using h { w' // Ext w w' } (fun i => i.1) (fun i => i.2) hC
theorem mild_cell {I : Type} {W : I → World} {w : World} (hE : ∀ i, Ext w (W i)) {p : Addr} {v : Value} (hc : w.cell? p = some v) : ∀ i, (W i).cell? p = some v := fun i => (hE i).some_ hc
theorem mild_call {P : Program} {I : Type} {W : I → World} {w : World} (hE : ∀ i, Ext w (W i)) (hC : ∀ w', Ext w w' → ∃ i, w' = W i) {f : FuncId} {args : Array Value} {v : Value} {i : I}
  (h : Calls P f args (W i) fun e w' => e = .returned v ∧ Ext (W i) w') : Calls P f args (W i) fun e w'' => e = .returned v ∧ ∃ j, w'' = W j :=
 h.mono fun _ _ ⟨he, hx⟩ => ⟨he, hC _ ((hE i).step hx)⟩
theorem Ext.boxed {w wr : World} {c : Array Value} {t : TypeId} (h : Ext (w.alloc (.cells c t)) wr) (i : Nat) : wr.cell? ⟨w.heap.size, i, none⟩ = c[i]? := by
 rw [h.cell (p := ⟨w.heap.size, i, none⟩) (by simp), World.cell?_alloc_new]
theorem Ext.boxed2 {w wr : World} {c : Array Value} {t : TypeId} {o : Obj} (h : Ext ((w.alloc (.cells c t)).alloc o) wr) (i : Nat) : wr.cell? ⟨w.heap.size, i, none⟩ = c[i]? :=
 Ext.boxed ((Ext.one _ o).step h) i
theorem Ext.boxed2' {w wr : World} {c : Array Value} {t : TypeId} {o : Obj} (h : Ext ((w.alloc o).alloc (.cells c t)) wr) (i : Nat) : wr.cell? ⟨w.heap.size + 1, i, none⟩ = c[i]? := by
 have := Ext.boxed h i
 simpa using this
theorem Ext.sz1 {w wr : World} {o : Obj} (h : Ext (w.alloc o) wr) : w.heap.size < wr.heap.size := by have := h.size; simp at this; omega
theorem Ext.sz2 {w wr : World} {o o' : Obj} (h : Ext ((w.alloc o).alloc o') wr) : w.heap.size < wr.heap.size ∧ w.heap.size + 1 < wr.heap.size := by have := h.size; simp at this; omega
theorem Ext.two (w : World) (o o' : Obj) : Ext w ((w.alloc o).alloc o') := (Ext.one _ _).new _
def Keeps (S : Nat → Prop) (w w' : World) : Prop := w.heap.size ≤ w'.heap.size ∧ ∀ b, S b → b < w.heap.size → w'.heap[b]? = w.heap[b]?
theorem Keeps.ext {S : Nat → Prop} {w w' : World} (h : Ext w w') : Keeps S w w' := ⟨h.size, fun b _ hb => h.block b hb⟩
theorem Keeps.grown {S : Nat → Prop} {w w' : World} {r : Option Nat} (h : w.grownBy w' r) (hr : ∀ b, S b → some b ≠ r) : Keeps S w w' := ⟨h.size, fun b hb hl => h.block b hl (hr b hb)⟩
theorem Keeps.cell {S : Nat → Prop} {w w' : World} (h : Keeps S w w') {ad : Addr} (hs : S ad.block) (hb : ad.block < w.heap.size) : w'.cell? ad = w.cell? ad :=
 World.cell?_of_block (h.2 _ hs hb)
def Sl (w : World) (S : Nat → Prop) (sz : Nat) {α : Type} (R : α → Addr → Prop) (ts : List α) (a : Option Addr) : Prop :=
 ∀ i (h : i < ts.length), ∃ b o, a = some ⟨b, o, none⟩ ∧ S b ∧ b < w.heap.size ∧ R ts[i] ⟨b, o + i * sz, none⟩
section
variable {α : Type} {w w' : World} {S S' : Nat → Prop} {sz : Nat} {R R' : α → Addr → Prop} {ts : List α} {a : Option Addr}
theorem Sl.nil_ : Sl w S sz R [] a := fun i h => absurd h (by simp)
theorem Sl.some_ (h : Sl w S sz R ts a) (hn : 0 < ts.length) : ∃ b o, a = some ⟨b, o, none⟩ := by
 obtain ⟨b, o, e, _⟩ := h 0 hn; exact ⟨b, o, e⟩
theorem Sl.at_ {b o : Nat} (h : Sl w S sz R ts (some ⟨b, o, none⟩)) {i : Nat} (hi : i < ts.length) :
  S b ∧ b < w.heap.size ∧ R ts[i] ⟨b, o + i * sz, none⟩ := by
 obtain ⟨b', o', e, h1, h2, h3⟩ := h i hi
 cases e; exact ⟨h1, h2, h3⟩
theorem Sl.mono (h : Sl w S sz R ts a) (hl : ∀ b, S b → b < w.heap.size → S' b) (hw : w.heap.size ≤ w'.heap.size) (hR : ∀ t ∈ ts, ∀ ad : Addr, S ad.block → ad.block < w.heap.size → R t ad → R' t ad) : Sl w' S' sz R' ts a :=
 fun i hi => by
  obtain ⟨b, o, e, h1, h2, h3⟩ := h i hi
  exact ⟨b, o, e, hl _ h1 h2, by omega, hR _ (List.getElem_mem hi) _ h1 h2 h3⟩
end
abbrev IntC (w : World) (n : Int) (ad : Addr) : Prop := w.cell? ad = some (.int .i64 n)
abbrev SlI (w : World) (S : Nat → Prop) (is : List Int) (a : Option Addr) : Prop := Sl w S 1 (IntC w) is a
theorem SlI.keep {w w' : World} {S S' : Nat → Prop} {is : List Int} {a : Option Addr} (h : SlI w S is a) (hk : Keeps S w w') (hs : ∀ b, S b → b < w.heap.size → S' b) : SlI w' S' is a :=
 Sl.mono h hs hk.1 fun _ _ _ h1 hb hc => (hk.cell h1 hb).trans hc
theorem SlI.ext {w w' : World} {S : Nat → Prop} {is : List Int} {a : Option Addr} (h : SlI w S is a) (hx : Ext w w') : SlI w' S is a := h.keep (.ext hx) fun _ h _ => h
mutual
def TmC (w : World) (S : Nat → Prop) : Tm → Addr → Prop
 | .mk v f us, ad => w.cell? ad = some (.int .i64 v) ∧ w.cell? (ad.add 1) = some (.int .i64 f) ∧
   ∃ a cap, w.cell? (ad.add 2) = some (.slice a us.length cap) ∧ us.length ≤ cap ∧ cap ≤ maxLen ∧ TmsC w S us a
def TmsC (w : World) (S : Nat → Prop) : List Tm → Option Addr → Prop
 | [], _ => True
 | t :: ts, a => ∃ b o, a = some ⟨b, o, none⟩ ∧ S b ∧ b < w.heap.size ∧ TmC w S t ⟨b, o, none⟩ ∧ TmsC w S ts (some ⟨b, o + 3, none⟩)
end
abbrev SlT (w : World) (S : Nat → Prop) (ts : List Tm) (a : Option Addr) : Prop := Sl w S 3 (TmC w S) ts a
theorem TmsC.to {w : World} {S : Nat → Prop} : ∀ {ts : List Tm} {a : Option Addr}, TmsC w S ts a → SlT w S ts a := by
 intro ts
 induction ts with
 | nil => intro a _; exact Sl.nil_
 | cons t ts ih =>
  rintro a ⟨b, o, rfl, h1, h2, h3, h4⟩ i hi
  cases i with
  | zero => exact ⟨b, o, rfl, h1, h2, by simpa using h3⟩
  | succ i =>
   obtain ⟨b', o', e, g1, g2, g3⟩ := ih h4 i (by simpa using hi)
   cases e
   refine ⟨b, o, rfl, h1, h2, ?_⟩
   rw [show o + (i + 1) * 3 = o + 3 + i * 3 by omega]
   simpa using g3
theorem TmsC.of {w : World} {S : Nat → Prop} : ∀ {ts : List Tm} {a : Option Addr}, SlT w S ts a → TmsC w S ts a := by
 intro ts
 induction ts with
 | nil => intro a _; exact trivial
 | cons t ts ih =>
  intro a h
  obtain ⟨b, o, rfl⟩ := h.some_ (by simp)
  obtain ⟨h1, h2, h3⟩ := h.at_ (i := 0) (by simp)
  refine ⟨b, o, rfl, h1, h2, by simpa using h3, ih ?_⟩
  intro i hi
  obtain ⟨g1, g2, g3⟩ := h.at_ (i := i + 1) (by simpa using hi)
  refine ⟨b, o + 3, rfl, g1, g2, ?_⟩
  rw [show o + 3 + i * 3 = o + (i + 1) * 3 by omega]
  simpa using g3
theorem TmC.iff {w : World} {S : Nat → Prop} {t : Tm} {ad : Addr} : TmC w S t ad ↔ (w.cell? ad = some (.int .i64 t.v) ∧ w.cell? (ad.add 1) = some (.int .i64 t.f) ∧
   ∃ a cap, w.cell? (ad.add 2) = some (.slice a t.us.length cap) ∧ t.us.length ≤ cap ∧ cap ≤ maxLen ∧ SlT w S t.us a) := by
 obtain ⟨v, f, us⟩ := t
 constructor
 ·rintro ⟨h1, h2, a, cap, h3, h4, h5, h6⟩; exact ⟨h1, h2, a, cap, h3, h4, h5, h6.to⟩
 ·rintro ⟨h1, h2, a, cap, h3, h4, h5, h6⟩; exact ⟨h1, h2, a, cap, h3, h4, h5, TmsC.of h6⟩
theorem TmC.read {w : World} {S : Nat → Prop} {t : Tm} {b o : Nat} (h : TmC w S t ⟨b, o, none⟩) : w.cell? ⟨b, o, none⟩ = some (.int .i64 t.v) ∧ w.cell? ⟨b, o + 1, none⟩ = some (.int .i64 t.f) ∧
   ∃ a cap, w.cell? ⟨b, o + 2, none⟩ = some (.slice a t.us.length cap) ∧ t.us.length ≤ cap ∧ cap ≤ maxLen ∧ SlT w S t.us a := by
 have := TmC.iff.1 h
 rwa [add_none, add_none] at this
theorem TmC.keep {w w' : World} {S S' : Nat → Prop} (hk : Keeps S w w') (hs : ∀ b, S b → b < w.heap.size → S' b) : ∀ (t : Tm) (ad : Addr), S ad.block → ad.block < w.heap.size → TmC w S t ad → TmC w' S' t ad := by
 intro t
 induction t using Tm.ind with
 | h t ih =>
  intro ad h0 hb ht
  obtain ⟨h1, h2, a, cap, h3, h4, h5, h6⟩ := TmC.iff.1 ht
  have e : ∀ n, (ad.add n).block = ad.block := by intro n; unfold Addr.add; split <;> rfl
  exact TmC.iff.2 ⟨(hk.cell h0 hb).trans h1, (hk.cell (by rw [e]; exact h0) (by rw [e]; exact hb)).trans h2, a, cap, (hk.cell (by rw [e]; exact h0) (by rw [e]; exact hb)).trans h3, h4, h5,
   Sl.mono h6 hs hk.1 fun u hu ad h0 hb hc => ih u hu ad h0 hb hc⟩
theorem SlT.keep {w w' : World} {S S' : Nat → Prop} {ts : List Tm} {a : Option Addr} (h : SlT w S ts a) (hk : Keeps S w w') (hs : ∀ b, S b → b < w.heap.size → S' b) : SlT w' S' ts a :=
 Sl.mono h hs hk.1 fun _ _ _ h0 hb hc => TmC.keep hk hs _ _ h0 hb hc
theorem SlT.ext {w w' : World} {S : Nat → Prop} {ts : List Tm} {a : Option Addr} (h : SlT w S ts a) (hx : Ext w w') : SlT w' S ts a := h.keep (.ext hx) fun _ h _ => h
theorem SlT.wide {w : World} {S S' : Nat → Prop} {ts : List Tm} {a : Option Addr} (h : SlT w S ts a) (hs : ∀ b, S b → b < w.heap.size → S' b) : SlT w S' ts a := h.keep (.ext (Ext.rfl' w)) hs
theorem SlT.readAt {w : World} {S : Nat → Prop} {ts : List Tm} {b o : Nat} (h : SlT w S ts (some ⟨b, o, none⟩)) {i : Nat} (hi : i < ts.length) :
  b < w.heap.size ∧ w.cell? ⟨b, o + i * 3, none⟩ = some (.int .i64 ts[i].v) ∧ w.cell? ⟨b, o + i * 3 + 1, none⟩ = some (.int .i64 ts[i].f) ∧
   ∃ a cap, w.cell? ⟨b, o + i * 3 + 2, none⟩ = some (.slice a ts[i].us.length cap) ∧ ts[i].us.length ≤ cap ∧ cap ≤ maxLen ∧ SlT w S ts[i].us a := by
 obtain ⟨_, h2, h3⟩ := h.at_ hi
 exact ⟨h2, h3.read⟩
def TmV (w : World) (S : Nat → Prop) (t : Tm) (x : Value) : Prop :=
 ∃ a cap, x = .agg #[.int .i64 t.v, .int .i64 t.f, .slice a t.us.length cap] ∧ t.us.length ≤ cap ∧ cap ≤ maxLen ∧ SlT w S t.us a
theorem TmV.keep {w w' : World} {S S' : Nat → Prop} {t : Tm} {x : Value} (h : TmV w S t x) (hk : Keeps S w w') (hs : ∀ b, S b → b < w.heap.size → S' b) : TmV w' S' t x := by
 obtain ⟨a, cap, e, h1, h2, h3⟩ := h; exact ⟨a, cap, e, h1, h2, h3.keep hk hs⟩
theorem TmV.ext {w w' : World} {S : Nat → Prop} {t : Tm} {x : Value} (h : TmV w S t x) (hx : Ext w w') : TmV w' S t x := h.keep (.ext hx) fun _ h _ => h
theorem TmV.wide {w : World} {S S' : Nat → Prop} {t : Tm} {x : Value} (h : TmV w S t x) (hs : ∀ b, S b → b < w.heap.size → S' b) : TmV w S' t x := h.keep (.ext (Ext.rfl' w)) hs
def SlIV (w : World) (S : Nat → Prop) (is : List Int) (x : Value) : Prop := ∃ a cap, x = .slice a is.length cap ∧ is.length ≤ cap ∧ cap ≤ maxLen ∧ SlI w S is a
def SlTV (w : World) (S : Nat → Prop) (ts : List Tm) (x : Value) : Prop := ∃ a cap, x = .slice a ts.length cap ∧ ts.length ≤ cap ∧ cap ≤ maxLen ∧ SlT w S ts a
def SgV (w : World) (S : Nat → Prop) (g : List Int) (x : Value) : Prop := ∃ a cap, x = .agg #[.slice a g.length cap] ∧ g.length ≤ cap ∧ cap ≤ maxLen ∧ SlI w S g a
theorem SgV.ext {w w' : World} {S : Nat → Prop} {g : List Int} {x : Value} (h : SgV w S g x) (hx : Ext w w') : SgV w' S g x := by
 obtain ⟨a, cap, e, h1, h2, h3⟩ := h; exact ⟨a, cap, e, h1, h2, h3.ext hx⟩
theorem ret_int {k : IntKind} {a b : Int} (h : a = b) : Ending.returned (.int k a) = .returned (.int k b) := by rw [h]
theorem ret_bool {a b : Bool} (h : a = b) : Ending.returned (.bool a) = .returned (.bool b) := by rw [h]
def Own (w : World) (base e sz : Nat) (xs : List Value) (v : Value) : Prop := w.ownsRow base e sz v xs.length (xs.flatMap (·.cells.toList)) ∧ ∀ x ∈ xs, x.cells.size = sz
section
variable {w w' : World} {base e sz : Nat} {xs : List Value} {v : Value}
theorem Own.nil_ (w : World) (base e sz : Nat) : Own w base e sz [] (.slice none 0 0) := ⟨⟨by simp, .inl ⟨rfl, rfl⟩⟩, by simp⟩
theorem Own.ext (h : Own w base e sz xs v) (hx : Ext w w') : Own w' base e sz xs v := by
 refine ⟨?_, h.2⟩
 obtain ⟨h1, h2⟩ := h.1
 refine ⟨h1, ?_⟩
 rcases h2 with h2 | ⟨g, cap, cur, hv, hb, hh, hr⟩
 ·exact .inl h2
 ·right
  have hlt : g < w.heap.size := by
   rcases Nat.lt_or_ge g w.heap.size with hlt | hge
   ·exact hlt
   ·rw [Array.getElem?_eq_none hge] at hh; cases hh
  exact ⟨g, cap, cur, hv, hb, (hx.block g hlt).trans hh, hr⟩
theorem Own.form (h : Own w base e sz xs v) : (xs = [] ∧ v = .slice none 0 0) ∨ ∃ g cap, v = .slice (some ⟨g, 0, none⟩) xs.length cap ∧ base ≤ g ∧ g < w.heap.size ∧ xs.length ≤ cap ∧ cap ≤ maxLen := by
 rcases h.1.2 with ⟨h1, h2⟩ | ⟨g, cap, cur, hv, hb, hh, h3, h4, _⟩
 ·exact .inl ⟨List.eq_nil_of_length_eq_zero h2, h1⟩
 ·refine .inr ⟨g, cap, hv, hb, ?_, h3, h4⟩
  rcases Nat.lt_or_ge g w.heap.size with hlt | hge
  ·exact hlt
  ·rw [Array.getElem?_eq_none hge] at hh; cases hh
theorem Own.block (h : Own w base e sz xs v) {g : Nat} (hg : v.ownBlock = some g) : base ≤ g ∧ g < w.heap.size := by
 rcases h.form with ⟨_, rfl⟩ | ⟨g', cap, rfl, h1, h2, _⟩
 ·cases hg
 ·cases hg; exact ⟨h1, h2⟩
theorem flatMap_at {sz : Nat} : ∀ (xs : List Value), (∀ x ∈ xs, x.cells.size = sz) → ∀ i (hi : i < xs.length) j, j < sz → (xs.flatMap (·.cells.toList))[i * sz + j]? = xs[i].cells[j]? := by
 intro xs
 induction xs with
 | nil => intro _ i hi; simp at hi
 | cons x xs ih =>
  intro h i hi j hj
  have hx := h x (by simp)
  cases i with
  | zero =>
   rw [List.flatMap_cons, List.getElem?_append_left (by simp [hx]; omega)]
   simp
  | succ i =>
   rw [List.flatMap_cons, List.getElem?_append_right (by simp [hx, Nat.add_mul]; omega)]
   have := ih (fun x hx => h x (by simp [hx])) i (by simpa using hi) j hj
   simp only [List.getElem_cons_succ]
   rw [← this]
   congr 1
   simp [hx, Nat.add_mul]
   omega
theorem Own.cell {g n cap : Nat} (h : Own w base e sz xs (.slice (some ⟨g, 0, none⟩) n cap)) {i : Nat} (hi : i < xs.length) {j : Nat} (hj : j < sz) : w.cell? ⟨g, i * sz + j, none⟩ = xs[i].cells[j]? := by
 obtain ⟨h1, h2⟩ := h.1
 rcases h2 with ⟨h2, _⟩ | ⟨g', cap', cur, hv, hb, hh, h3, h4, h5, h6⟩
 ·cases h2
 ·cases hv
  rw [← flatMap_at xs h.2 i hi j hj, ← h6, List.getElem?_take]
  have : i * sz + j < xs.length * sz := by
   have : (i + 1) * sz ≤ xs.length * sz := Nat.mul_le_mul_right _ hi
   rw [Nat.add_mul] at this
   omega
  rw [if_pos this, World.cell?, hh]
  simp
end
structure ElemOk (P : Program) (t e sz bytes : Nat) : Prop where
 ht : P.underlying t = some (.slice e)
 info : ∃ i z, P.info? e = some i ∧ i.zero = some z ∧ i.size = sz ∧ i.bytes = bytes ∧ z.cells.size = sz
 pos : 0 < sz
theorem ElemOk.mk' {P : Program} {t e sz bytes : Nat} {z : Value} (ht : P.underlying t = some (.slice e)) (h : (P.info? e).map (fun i => (i.zero, i.size, i.bytes)) = some (some z, sz, bytes)) (hz : z.cells.size = sz) (hs : 0 < sz) : ElemOk P t e sz bytes := by
 obtain ⟨i, h1, h2, h3, h4⟩ := info_parts h
 exact ⟨ht, ⟨i, z, h1, h2, h3, h4, hz⟩, hs⟩
theorem wpList_push {P : Program} {t e sz bytes : Nat} (hE : ElemOk P t e sz bytes) {ops : Array Oper} {rest : List Oper} {o : Oper} {a : Act} {Q : Exit → Act → World → Prop} (hgd : o.guard = none) (s x : Operand)
  (ho : o.op = .call { callee := .builtin .append, args := #[s, x], argTypes := #[t, t] }) {w : World} (y : Value) (hy : y.cells.size = sz) (h1 : ∀ u ∈ y.cells.toList, u.oneCell' = true)
  {base : Nat} {v : Value} {xs : List Value} (hs : a.eval s = v) (hown : Own w base e sz xs v) (hx : a.eval x = .slice (some ⟨w.heap.size, 0, none⟩) 1 1)
  (hbytes : (xs.length + 1) * bytes ≤ 140737488355328) (hlen : xs.length + 1 ≤ maxLen) (hbase : base ≤ w.heap.size)
  (k : ∀ g cap w', Own w' base e sz (xs ++ [y]) (.slice (some ⟨g, 0, none⟩) (xs.length + 1) cap) → w.grownBy w' v.ownBlock → (v.ownBlock = some g ∨ w.heap.size < g) → g < w'.heap.size →
   wpList P ops Q rest (a.put o.dst (.slice (some ⟨g, 0, none⟩) (xs.length + 1) cap)) w') : wpList P ops Q (o :: rest) a (w.alloc (.cells y.cells e)) := by
 obtain ⟨i, z, hi, hz, hz1, hz2, hzs⟩ := hE.info
 have hown' : (w.alloc (.cells y.cells e)).ownsRow base e sz v xs.length (xs.flatMap (·.cells.toList)) := (hown.ext (Ext.one _ _)).1
 refine wpList_append_lies _ hgd s x t ho base e i z sz bytes hE.ht hi hz hz1 hz2 hzs hE.pos v xs.length _ hs hown' ⟨w.heap.size, 0, none⟩ 1 1 y.cells.toList hx (by simp [hy])
  (World.news_of_block (heap_alloc_new w _)) h1 (by omega) hlen hbytes (by simp; omega) (w.heap.size + 1) (by simp) ?_
 intro g cap w' h2 h3 h4 h5
 refine k g cap w' ⟨by simpa using h2, ?_⟩ ?_ (h4.imp id (by omega)) h5
 ·intro u hu
  rcases List.mem_append.1 hu with hu | hu
  ·exact hown.2 _ hu
  ·rw [List.mem_singleton.1 hu]; exact hy
 ·refine ⟨h3.os, h3.tape, h3.output, by have := h3.size; simp at this; omega, fun k hk hne => ?_⟩
  rw [h3.block k (by simp; omega) hne]
  exact Below.heap_alloc _ _ _ hk
theorem grown_trans {a b c : World} {r r' : Option Nat} (h : a.grownBy b r) (hr : r' = r ∨ ∃ g, r' = some g ∧ a.heap.size ≤ g) (k : b.grownBy c r') : a.grownBy c r :=
 ⟨k.os.trans h.os, k.tape.trans h.tape, k.output.trans h.output, Nat.le_trans h.size k.size, fun i hi hne => by
  have := h.size
  rw [k.block i (by omega) (by
   rcases hr with rfl | ⟨g, rfl, hg⟩
   ·exact hne
   ·intro e; cases e; omega), h.block i hi hne]⟩
theorem grown_ext {a b : World} (h : Ext a b) (r : Option Nat) : a.grownBy b r := ⟨h.os, h.tape, h.output, h.size, fun i hi _ => h.block i hi⟩
theorem grown_box {w wr : World} {c : Array Value} {t : TypeId} {r : Option Nat} (h : (w.alloc (.cells c t)).grownBy wr r) (hr : ∀ g, r = some g → g < w.heap.size) (i : Nat) : wr.cell? ⟨w.heap.size, i, none⟩ = c[i]? := by
 rw [World.cell?_of_block (h.block w.heap.size (by simp) (fun e => by have := hr _ e.symm; omega)), World.cell?_alloc_new]
def OwnT (w : World) (base : Nat) (S : Nat → Prop) (ts : List Tm) (v : Value) : Prop :=
 ∃ xs, Own w base 27 3 xs v ∧ xs.length = ts.length ∧ ∀ i (h : i < ts.length) (h' : i < xs.length), TmV w (fun b => S b ∧ some b ≠ v.ownBlock) ts[i] xs[i]
theorem OwnT.nil_ (w : World) (base : Nat) (S : Nat → Prop) : OwnT w base S [] (.slice none 0 0) := ⟨[], Own.nil_ _ _ _ _, rfl, fun i h => absurd h (by simp)⟩
theorem OwnT.block {w : World} {base : Nat} {S : Nat → Prop} {ts : List Tm} {v : Value} (h : OwnT w base S ts v) {g : Nat} (hg : v.ownBlock = some g) : base ≤ g ∧ g < w.heap.size := by
 obtain ⟨xs, h1, _⟩ := h; exact h1.block hg
theorem OwnT.ext {w w' : World} {base : Nat} {S : Nat → Prop} {ts : List Tm} {v : Value} (h : OwnT w base S ts v) (hx : Ext w w') : OwnT w' base S ts v := by
 obtain ⟨xs, h1, h2, h3⟩ := h
 exact ⟨xs, h1.ext hx, h2, fun i hi hi' => (h3 i hi hi').ext hx⟩
theorem OwnT.slTV {w : World} {base : Nat} {S : Nat → Prop} {ts : List Tm} {v : Value} (h : OwnT w base S ts v) : SlTV w (fun b => S b ∨ v.ownBlock = some b) ts v := by
 obtain ⟨xs, h1, h2, h3⟩ := h
 rcases h1.form with ⟨rfl, rfl⟩ | ⟨g, cap, rfl, hb, hlt, hc1, hc2⟩
 ·have : ts = [] := List.eq_nil_of_length_eq_zero (by simpa using h2.symm)
  subst this
  exact ⟨none, 0, rfl, by simp, by simp [maxLen], Sl.nil_⟩
 ·refine ⟨some ⟨g, 0, none⟩, cap, by rw [h2], by omega, hc2, fun i hi => ⟨g, 0, rfl, .inr rfl, hlt, ?_⟩⟩
  have hi' : i < xs.length := by omega
  obtain ⟨a, c, e, l1, l2, l3⟩ := h3 i hi hi'
  have c0 := h1.cell hi' (j := 0) (by omega)
  have c1 := h1.cell hi' (j := 1) (by omega)
  have c2 := h1.cell hi' (j := 2) (by omega)
  rw [e] at c0 c1 c2
  rw [TmC.iff, add_none, add_none]
  simp only [Nat.zero_add]
  exact ⟨c0, c1, a, c, c2, l1, l2, l3.wide fun b hb _ => .inl hb.1⟩
theorem OwnT.push {w w' : World} {base : Nat} {S S' : Nat → Prop} {ts : List Tm} {xs : List Value} {v : Value} {t : Tm} {y : Value} {g n cap : Nat}
  (h2 : xs.length = ts.length) (h3 : ∀ i (h : i < ts.length) (h' : i < xs.length), TmV w (fun b => S b ∧ some b ≠ v.ownBlock) ts[i] xs[i])
  (hy : TmV w S' t y) (hS : ∀ b, S' b → b < w.heap.size → S b ∧ some b ≠ v.ownBlock)
  (k1 : Own w' base 27 3 (xs ++ [y]) (.slice (some ⟨g, 0, none⟩) n cap)) (k2 : w.grownBy w' v.ownBlock) (k3 : v.ownBlock = some g ∨ w.heap.size < g) : OwnT w' base S (ts ++ [t]) (.slice (some ⟨g, 0, none⟩) n cap) := by
 have hk : Keeps (fun b => S b ∧ some b ≠ v.ownBlock) w w' := Keeps.grown k2 fun b hb => hb.2
 have hs : ∀ b, (S b ∧ some b ≠ v.ownBlock) → b < w.heap.size → (S b ∧ some b ≠ (Value.slice (some ⟨g, 0, none⟩) n cap).ownBlock) := by
  rintro b ⟨hb, hne⟩ hlt
  refine ⟨hb, fun e => ?_⟩
  have e' : b = g := by simpa [Value.ownBlock] using e
  subst e'
  rcases k3 with k3 | k3
  ·exact hne k3.symm
  ·omega
 refine ⟨xs ++ [y], k1, by simp [h2], fun i hi hi' => ?_⟩
 by_cases hlt : i < ts.length
 ·rw [List.getElem_append_left hlt, List.getElem_append_left (by omega)]
  exact (h3 i hlt (by omega)).keep hk hs
 ·obtain rfl : i = ts.length := by have := hi; rw [List.length_append, List.length_singleton] at this; omega
  have e1 : (ts ++ [t])[ts.length] = t := by simp
  have e2 : (xs ++ [y])[ts.length]'hi' = y := by simp [← h2]
  rw [e1, e2]
  exact (hy.wide hS).keep hk hs
def CountSpec (t : Tm) : Prop := ∀ (S : Nat → Prop) (x : Value) (w : World) (most : Int), TmV w S t x → 0 ≤ most → most ≤ 1000000 →
  Calls Tryd.prog 51 #[x, .int .i64 most] w fun e w' => e = .returned (.int .i64 (count t most)) ∧ Ext w w'
set_option maxHeartbeats 400000 in
theorem count_step (t : Tm) (ih : ∀ u ∈ t.us, CountSpec u) : CountSpec t := by
 rintro S x w most ⟨a, cap, rfl, h1, h2, h3⟩ hm0 hm1
 unfold maxLen at h2
 go_enter Tryd.func51, Tryd.ntmps51
 go_wp2_with fail
 go_loopw [5, 11] (fun n i wr => ∃ (k : Nat) (m : Int), k ≤ t.us.length ∧ i = .int .i64 k ∧ n = .int .i64 m ∧ 1 ≤ m ∧ m ≤ most + 1 ∧ countL (t.us.drop k) m most = count t most ∧ Ext w wr) (fun _ i _ => t.us.length - (intOf i).toNat)
 case atStart => exact ⟨0, 1, by omega, rfl, rfl, by omega, by omega, (count_eq t most).symm, Ext.one _ _⟩
 case round =>
  obtain ⟨k, m, hk, rfl, rfl, hm2, hm3, hc, hx⟩ := hrel
  have HC := hid hc; clear hc
  by_cases hlt : k < t.us.length
  ·obtain ⟨b, o, rfl⟩ := h3.some_ (by omega)
   obtain ⟨c1, c2, a1, cap1, c3, l1, l2, s1⟩ := ((h3.ext hx).readAt hlt).2
   have IH := hid (ih _ (List.getElem_mem hlt)); clear ih
   go_wp2_with fail
   ·have hgt : most < m := by assumption
    go_ret
    refine ⟨ret_int ?_, hx.new _⟩
    rw [← HC.out, countL_stop (by omega)]
   ·have hle : m ≤ most := by assumption
    refine (IH.out S _ _ (most - m) ⟨a1, cap1, rfl, l1, l2, s1.ext (Ext.one _ _)⟩ (by omega) (by omega)).mono ?_
    rintro e w' ⟨rfl, hx'⟩
    obtain ⟨hq1, hq2⟩ := count_le t.us[k] (most - m) (by omega)
    have HCL := hid (countL_go hlt hle)
    generalize hgc : count t.us[k] (most - m) = q at *
    clear hgc
    go_wp2_with fail
    go_roundw
    case rel => exact ⟨k + 1, m + q, by omega, by go_num, rfl, by omega, by omega, by rw [← HC.out, HCL.out], (hx.new _).step hx'⟩
    case measure => simp [intOf]; omega
  ·obtain rfl : k = t.us.length := by omega
   go_wp2_with fail
   go_ret
   refine ⟨ret_int ?_, hx⟩
   rw [← HC.out, countL_end]
theorem count_any (t : Tm) : CountSpec t := Tm.ind count_step t
def SizeSpec (t : Tm) : Prop := ∀ (S : Nat → Prop) (x : Value) (w : World) (most : Int), TmV w S t x → 0 ≤ most → most ≤ 1000000 →
  Calls Tryd.prog 45 #[x, .int .i64 most] w fun e w' => e = .returned (.int .i64 (count t most)) ∧ Ext w w'
set_option maxHeartbeats 400000 in
theorem size_step (t : Tm) (ih : ∀ u ∈ t.us, SizeSpec u) : SizeSpec t := by
 rintro S x w most ⟨a, cap, rfl, h1, h2, h3⟩ hm0 hm1
 unfold maxLen at h2
 go_enter Tryd.func45, Tryd.ntmps45
 go_wp2_with fail
 go_loopw [5, 6] (fun n i wr => ∃ (k : Nat) (m : Int), k ≤ t.us.length ∧ i = .int .i64 k ∧ n = .int .i64 m ∧ 1 ≤ m ∧ m ≤ most + 1 ∧ countL (t.us.drop k) m most = count t most ∧ Ext (w.alloc (.cells #[.int .i64 t.v, .int .i64 t.f, .slice a t.us.length cap] 27)) wr) (fun _ i _ => t.us.length - (intOf i).toNat)
 case atStart => exact ⟨0, 1, by omega, rfl, rfl, by omega, by omega, (count_eq t most).symm, Ext.rfl' _⟩
 case round =>
  obtain ⟨k, m, hk, rfl, rfl, hm2, hm3, hc, hx⟩ := hrel
  have HC := hid hc; clear hc
  have hx0 := (Ext.one _ _).step hx
  have b2 : wr.cell? ⟨w.heap.size, 2, none⟩ = some (.slice a t.us.length cap) := hx.boxed 2
  by_cases hlt : k < t.us.length
  ·obtain ⟨b, o, rfl⟩ := h3.some_ (by omega)
   obtain ⟨c1, c2, a1, cap1, c3, l1, l2, s1⟩ := ((h3.ext hx0).readAt hlt).2
   have IH := hid (ih _ (List.getElem_mem hlt)); clear ih
   by_cases hle : m ≤ most
   ·go_wp2_with fail
    refine (IH.out S _ _ (most - m) ⟨a1, cap1, rfl, l1, l2, s1⟩ (by omega) (by omega)).mono ?_
    rintro e w' ⟨rfl, hx'⟩
    obtain ⟨hq1, hq2⟩ := count_le t.us[k] (most - m) (by omega)
    have HCL := hid (countL_go hlt hle)
    generalize hgc : count t.us[k] (most - m) = q at *
    clear hgc
    go_wp2_with fail
    go_roundw
    case rel => exact ⟨k + 1, m + q, by omega, by go_num, rfl, by omega, by omega, by rw [← HC.out, HCL.out], hx.step hx'⟩
    case measure => simp [intOf]; omega
   ·go_wp2_with fail
    go_ret
    refine ⟨ret_int ?_, hx0⟩
    rw [← HC.out, countL_stop (by omega)]
  ·obtain rfl : k = t.us.length := by omega
   go_wp2_with fail
   go_ret
   refine ⟨ret_int ?_, hx0⟩
   rw [← HC.out, countL_end]
theorem size_any (t : Tm) : SizeSpec t := Tm.ind size_step t
def FormSpec (g : List Int) (t : Tm) : Prop := ∀ (S S' : Nat → Prop) (y x : Value) (w : World), SgV w S' g y → TmV w S t x →
  Calls Tryd.prog 52 #[y, x] w fun e w' => e = .returned (.int .i64 (form g t)) ∧ Ext w w'
set_option maxHeartbeats 400000 in
theorem form_step (g : List Int) (t : Tm) (ih : ∀ u ∈ t.us, FormSpec g u) : FormSpec g t := by
 rintro S S' y x w ⟨ga, gc, rfl, g1, g2, g3⟩ ⟨a, cap, rfl, h1, h2, h3⟩
 unfold maxLen at h2 g2
 go_enter Tryd.func52, Tryd.ntmps52
 go_wp2_with fail
 go_loopw [11] (fun i wr => ∃ (k : Nat), k ≤ t.us.length ∧ i = .int .i64 k ∧ formL g t.us = formL g (t.us.drop k) ∧ Ext ((w.alloc (.cells #[.slice ga g.length gc] 24)).alloc (.cells #[.int .i64 t.v, .int .i64 t.f, .slice a t.us.length cap] 27)) wr) (fun i _ => t.us.length - (intOf i).toNat)
 case atStart => exact ⟨0, by omega, rfl, rfl, Ext.rfl' _⟩
 case round =>
  obtain ⟨k, hk, rfl, hc, hx⟩ := hrel
  have HC := hid hc; clear hc
  have hx0 := (Ext.two _ _ _).step hx
  have b0 : wr.cell? ⟨w.heap.size, 0, none⟩ = some (.slice ga g.length gc) := hx.boxed2 0
  obtain ⟨hz0, hz1⟩ := hx.sz2
  have c0 : wr.cell? ⟨w.heap.size + 1, 0, none⟩ = some (.int .i64 t.v) := hx.boxed2' 0
  have c1 : wr.cell? ⟨w.heap.size + 1, 1, none⟩ = some (.int .i64 t.f) := hx.boxed2' 1
  have c2 : wr.cell? ⟨w.heap.size + 1, 2, none⟩ = some (.slice a t.us.length cap) := hx.boxed2' 2
  by_cases hlt : k < t.us.length
  ·obtain ⟨b, o, rfl⟩ := h3.some_ (by omega)
   obtain ⟨d1, d2, a1, cap1, d3, l1, l2, s1⟩ := ((h3.ext hx0).readAt hlt).2
   have IH := hid (ih _ (List.getElem_mem hlt)); clear ih
   go_wp2_with fail
   refine (IH.out S S' _ _ _ ⟨ga, gc, rfl, g1, g2, g3.ext (hx0.new _)⟩ ⟨a1, cap1, rfl, l1, l2, s1.ext (Ext.one _ _)⟩).mono ?_
   rintro e w' ⟨rfl, hx'⟩
   have hfl := hid (show formL g (t.us.drop k) = if form g t.us[k] ≠ 0 then form g t.us[k] else formL g (t.us.drop (k + 1)) by rw [List.drop_eq_getElem_cons hlt, formL])
   generalize hq : form g t.us[k] = q at *
   have HQ := hid hq; clear hq
   by_cases hq0 : q = 0
   ·subst hq0
    go_wp2_with fail
    go_roundw
    case rel => exact ⟨k + 1, by omega, by go_num, by rw [HC.out, hfl.out]; rfl, (hx.new _).step hx'⟩
    case measure => simp [intOf]; omega
   ·have hq1 : (q != 0) = true := by simpa using hq0
    go_wp2_with fail
    go_ret
    refine ⟨ret_int ?_, (hx0.new _).step hx'⟩
    have : formL g t.us = q := by rw [HC.out, hfl.out, if_pos hq0]
    rw [form_eq, this, if_pos hq0]
  ·obtain rfl : k = t.us.length := by omega
   have HF := hid (show form g t = formOne g t.v t.f t.us.length by rw [form_eq, if_neg]; rw [HC.out, List.drop_length, formL]; simp)
   clear ih HC
   by_cases hv : t.v = 0
   ·by_cases hf0 : 0 ≤ t.f ∧ t.f < g.length
    ·obtain ⟨f1, f2⟩ := hf0
     obtain ⟨b, o, rfl⟩ := g3.some_ (by omega)
     obtain ⟨_, hb, hgc⟩ := g3.at_ (i := t.f.toNat) (by omega)
     have hgc' := hx0.cell (p := ⟨b, o + t.f.toNat * 1, none⟩) hb
     rw [hgc] at hgc'
     simp only [Nat.mul_one] at hgc'
     clear hgc
     have HG := hid (show g.getD t.f.toNat 0 = g[t.f.toNat] from getD_at (by omega) _)
     generalize g[t.f.toNat] = gn at *
     go_wp2_with fail
     go_quiet (fail)
     go_wp2_with fail
     ·have hne : (↑t.us.length != gn) = true := by assumption
      go_ret
      refine ⟨ret_int ?_, hx0.draws _⟩
      rw [HF.out, formOne, if_neg (by simpa using hv), if_neg (by omega), HG.out, if_pos (by simpa using hne)]
     ·have hne : (↑t.us.length != gn) = false := by assumption
      go_ret
      refine ⟨ret_int ?_, hx0.draws _⟩
      rw [HF.out, formOne, if_neg (by simpa using hv), if_neg (by omega), HG.out, if_neg (by simpa using hne)]
    ·have HV := hid (show form g t = 5 by rw [HF.out, formOne, if_neg (by simpa using hv), if_pos (by omega)])
     by_cases f1 : t.f < 0
     ·go_wp2_with fail
      go_ret
      exact ⟨ret_int HV.out.symm, hx0⟩
     ·have f2 : (g.length : Int) ≤ t.f := by omega
      go_wp2_with fail
      go_ret
      exact ⟨ret_int HV.out.symm, hx0⟩
   ·have hv' : (t.v != 0) = true := by simpa using hv
    by_cases h1 : t.v < 1
    ·have HV := hid (show form g t = 3 by rw [HF.out, formOne, if_pos hv, if_pos (by omega)])
     go_wp2_with fail
     go_ret
     exact ⟨ret_int HV.out.symm, hx0⟩
    ·by_cases h2 : 1000 < t.v
     ·have HV := hid (show form g t = 3 by rw [HF.out, formOne, if_pos hv, if_pos (by omega)])
      go_wp2_with fail
      go_ret
      exact ⟨ret_int HV.out.symm, hx0⟩
     ·by_cases h3 : 0 < t.us.length
      ·have HV := hid (show form g t = 1 by rw [HF.out, formOne, if_pos hv, if_neg (by omega), if_pos (by omega)])
       go_wp2_with fail
       go_ret
       exact ⟨ret_int HV.out.symm, hx0⟩
      ·by_cases h4 : t.f = 0
       ·have HV := hid (show form g t = 0 by rw [HF.out, formOne, if_pos hv, if_neg (by omega), if_neg (by omega)])
        have h4' : (t.f != 0) = false := by simpa using h4
        clear h4
        go_wp2_with fail
        go_ret
        exact ⟨ret_int HV.out.symm, hx0⟩
       ·have HV := hid (show form g t = 1 by rw [HF.out, formOne, if_pos hv, if_neg (by omega), if_pos (by omega)])
        have h4' : (t.f != 0) = true := by simpa using h4
        clear h4
        go_wp2_with fail
        go_ret
        exact ⟨ret_int HV.out.symm, hx0⟩
theorem form_any (g : List Int) (t : Tm) : FormSpec g t := Tm.ind (form_step g) t
theorem ei_term : ElemOk Tryd.prog 25 27 3 40 := ElemOk.mk' (z := .agg #[.int .i64 0, .int .i64 0, .slice none 0 0]) Tryd.underlying25 (by kernel_rfl) rfl (by decide)
def PartsPost (w : World) (base : Nat) (S : Nat → Prop) (ts : List Tm) (r : Option Nat) (e : Ending) (w' : World) : Prop :=
 ∃ v', e = .returned v' ∧ OwnT w' base S ts v' ∧ w.grownBy w' r ∧ (v'.ownBlock = r ∨ ∃ g, v'.ownBlock = some g ∧ w.heap.size ≤ g)
def PartsSpec (t : Tm) : Prop := ∀ (S : Nat → Prop) (base : Nat) (l : List Tm) (vl x : Value) (w : World), OwnT w base S l vl → TmV w S t x → base ≤ w.heap.size → (∀ b, S b → b < base) → l.length + (parts t).length ≤ 1000000 →
  Calls Tryd.prog 46 #[vl, x] w (PartsPost w base S (l ++ parts t) vl.ownBlock)
set_option maxHeartbeats 400000 in
theorem parts_step (t : Tm) (ih : ∀ u ∈ t.us, PartsSpec u) : PartsSpec t := by
 rintro S base l vl x w hl ⟨a, cap, rfl, h1, h2, h3⟩ hbase hS hsz
 unfold maxLen at h2
 have hvl : ∀ g, vl.ownBlock = some g → g < w.heap.size := fun g hg => (hl.block hg).2
 have HVL := hid hvl; clear hvl
 have HSZ := hid hsz; clear hsz
 have HL := hid hl; clear hl
 have HS := hid hS; clear hS
 go_enter Tryd.func46, Tryd.ntmps46
 go_wp2_with fail
 go_loopw [0, 5] (fun v i wr => ∃ (k : Nat), k ≤ t.us.length ∧ i = .int .i64 k ∧ OwnT wr base S (l ++ partsL (t.us.take k)) v ∧ (w.alloc (.cells #[.int .i64 t.v, .int .i64 t.f, .slice a t.us.length cap] 27)).grownBy wr vl.ownBlock ∧ (v.ownBlock = vl.ownBlock ∨ ∃ g, v.ownBlock = some g ∧ w.heap.size < g)) (fun _ i _ => t.us.length - (intOf i).toNat)
 case atStart => exact ⟨0, by omega, rfl, by simpa [partsL] using HL.out.ext (Ext.one _ _), grown_ext (Ext.rfl' _) _, .inl rfl⟩
 case round =>
  obtain ⟨k, hk, rfl, hv, hg, hb⟩ := hrel
  have HB := hid hb; clear hb
  have b2 : wr.cell? ⟨w.heap.size, 2, none⟩ = some (.slice a t.us.length cap) := grown_box hg HVL.out 2
  have hkeep : Keeps S w wr := Keeps.grown (grown_trans (grown_ext (Ext.one _ _) _) (.inl rfl) hg) fun b hb e => by have := (HL.out.block e.symm).1; have := HS.out b hb; omega
  by_cases hlt : k < t.us.length
  ·obtain ⟨b, o, rfl⟩ := h3.some_ (by omega)
   obtain ⟨_, c1, c2, a1, cap1, c3, l1, l2, s1⟩ := SlT.readAt (h3.keep hkeep fun _ h _ => h) hlt
   have IH := hid (ih _ (List.getElem_mem hlt)); clear ih
   have hsz1 : (l ++ partsL (t.us.take k)).length + (parts t.us[k]).length ≤ 1000000 := by
    have := partsL_at hlt
    have := HSZ.out
    rw [parts_eq, List.length_append] at this
    rw [List.length_append]; omega
   have HSZ1 := hid hsz1; clear hsz1
   go_wp2_with fail
   refine (IH.out S base _ _ _ _ hv ⟨a1, cap1, rfl, l1, l2, s1⟩ (by have := hg.size; simp at this; omega) HS.out HSZ1.out).mono ?_
   rintro e w' ⟨v', rfl, hv', hg', hb'⟩
   have HB' := hid hb'; clear hb'
   go_wp2_with fail
   go_roundw
   case rel =>
    refine ⟨k + 1, by omega, by go_num, by rw [partsL_take hlt, ← List.append_assoc]; exact hv', grown_trans hg ?_ hg', ?_⟩
    ·rcases HB.out with e | ⟨g, e, h⟩
     ·exact .inl e
     ·exact .inr ⟨g, e, by simp; omega⟩
    ·rcases HB'.out with e | ⟨g, e, h⟩
     ·rw [e]; exact HB.out
     ·refine .inr ⟨g, e, ?_⟩
      have := hg.size
      simp at this
      omega
   case measure => simp [intOf]; omega
  ·obtain rfl : k = t.us.length := by omega
   have b0 : wr.cell? ⟨w.heap.size, 0, none⟩ = some (.int .i64 t.v) := grown_box hg HVL.out 0
   have b1 : wr.cell? ⟨w.heap.size, 1, none⟩ = some (.int .i64 t.f) := grown_box hg HVL.out 1
   clear ih
   have hy : TmV wr S t (.agg #[.int .i64 t.v, .int .i64 t.f, .slice a t.us.length cap]) := ⟨a, cap, rfl, h1, h2, h3.keep hkeep fun _ h _ => h⟩
   have HY := hid hy; clear hy
   obtain ⟨xs, x1, x2, x3⟩ := hv
   have X2 := hid x2; clear x2
   have X3 := hid x3; clear x3
   have hxs : xs.length ≤ 1000000 - 1 := by
    have := HSZ.out
    rw [parts_eq, List.length_append] at this
    rw [X2.out, List.length_append, List.take_length]
    simp at this
    omega
   go_wp2_with (at_builtin; refine wpList_push ei_term rfl _ _ (by rfl) (.agg #[.int .i64 t.v, .int .i64 t.f, .slice a t.us.length cap]) rfl (by simp [Value.cells, Value.oneCell']) (by rfl) x1 (by rfl) (by omega) (by unfold maxLen; omega) (by have := hg.size; simp at this; omega) ?_; intro g1 cap1 w1 k1 k2 k3 k4)
   go_ret
   have hO := OwnT.push X2.out X3.out HY.out (fun b hb _ => ⟨hb, fun e => by have := (x1.block e.symm).1; have := HS.out b hb; omega⟩) k1 k2 k3
   have hgs := hg.size
   simp at hgs
   refine ⟨_, rfl, ?_, ?_, ?_⟩
   ·rw [parts_eq, ← List.append_assoc]
    rw [List.take_length] at hO
    exact hO
   ·refine grown_trans (grown_trans (grown_ext (Ext.one _ _) _) (.inl rfl) hg) ?_ k2
    rcases HB.out with e | ⟨g, e, h⟩
    ·exact .inl e
    ·exact .inr ⟨g, e, by omega⟩
   ·rcases k3 with k3 | k3
    ·rcases HB.out with e | ⟨g, e, h⟩
     ·left; rw [← e, k3]; rfl
     ·right; exact ⟨g1, rfl, by rw [e] at k3; cases k3; omega⟩
    ·right; exact ⟨g1, rfl, by omega⟩
theorem parts_any (t : Tm) : PartsSpec t := Tm.ind parts_step t
def btw (n a b : Int) : Bool := decide (a ≤ n) && decide (n ≤ b)
set_option maxHeartbeats 400000 in
theorem between_any (n a b : Int) (w : World) : Calls Tryd.prog 26 #[.int .i64 n, .int .i64 a, .int .i64 b] w fun e w' => e = .returned (.bool (btw n a b)) ∧ w = w' := by
 by_cases h1 : a ≤ n
 ·go_enter Tryd.func26, Tryd.ntmps26
  go_wp2_with fail
  go_ret
  exact ⟨ret_bool (by simp [btw, h1]), rfl⟩
 ·have e : btw n a b = false := by simp only [btw, decide_eq_false h1, Bool.false_and]
  go_enter Tryd.func26, Tryd.ntmps26
  go_wp2_with fail
  go_ret
  exact ⟨rfl, rfl⟩
def idx {α : Type} (p : α → Bool) (l : List α) : Int := if l.any p then (l.findIdx p : Nat) else -1
theorem idx_nonneg {α : Type} (p : α → Bool) (l : List α) : decide (0 ≤ idx p l) = l.any p := by
 unfold idx; split <;> simp_all
theorem idx_yes {α : Type} {p : α → Bool} {l : List α} {k : Nat} (hk : k < l.length) (h0 : (l.take k).any p = false) (h1 : p l[k] = true) : idx p l = k := by
 have hm : l.any p = true := List.any_eq_true.2 ⟨_, List.getElem_mem hk, h1⟩
 rw [idx, if_pos hm]
 congr 1
 rw [List.findIdx_eq hk]
 refine ⟨h1, fun j hj => ?_⟩
 have := List.any_eq_false.1 h0 l[j] (List.mem_take_iff_getElem.2 ⟨j, by omega, rfl⟩)
 simpa using this
theorem idx_no {α : Type} {p : α → Bool} {l : List α} (h : (l.take l.length).any p = false) : idx p l = -1 := by
 rw [List.take_length] at h; rw [idx, h]; rfl
theorem any_take_succ {α : Type} {p : α → Bool} {l : List α} {k : Nat} (hk : k < l.length) (h0 : (l.take k).any p = false) (h1 : p l[k] = false) : (l.take (k + 1)).any p = false := by
 rw [List.take_succ_eq_append_getElem hk, List.any_append, h0]; simp [h1]
set_option maxRecDepth 10000 in
set_option maxHeartbeats 400000 in
theorem indexInt_any (S : Nat → Prop) (is : List Int) (p : Int → Bool) (a : Option Addr) (cap fk : Nat) (caps : Array Value) (w : World) (hc1 : is.length ≤ cap) (hc2 : cap ≤ maxLen) (hs : SlI w S is a)
  (hfk : ∀ args w, Sem.run Tryd.prog (callFunc fk args) w = .ok (.enter fk args) w)
  (hf : ∀ i (_ : i < is.length) (wr : World), Ext w wr → Calls Tryd.prog fk (#[.int .i64 is[i]] ++ caps) wr fun e w' => e = .returned (.bool (p is[i])) ∧ Ext wr w') :
  Calls Tryd.prog 55 #[.slice a is.length cap, .func (.func fk) #[] caps] w fun e w' => e = .returned (.int .i64 (idx p is)) ∧ Ext w w' := by
 unfold maxLen at hc2
 have HF := hid hf; clear hf
 go_enter Tryd.func55, Tryd.ntmps55
 go_wp2_with fail
 go_loopw [8] (fun i wr => ∃ k : Nat, k ≤ is.length ∧ i = .int .i64 k ∧ (is.take k).any p = false ∧ Ext w wr) (fun i _ => is.length - (intOf i).toNat)
 case atStart => exact ⟨0, by omega, rfl, by simp, Ext.rfl' _⟩
 case round =>
  obtain ⟨k, hk, rfl, hn, hx⟩ := hrel
  have HN := hid hn; clear hn
  by_cases hlt : k < is.length
  ·obtain ⟨b, o, rfl⟩ := hs.some_ (by omega)
   obtain ⟨_, _, hc⟩ := (hs.ext hx).at_ hlt
   have hc : wr.cell? ⟨b, o + k, none⟩ = some (.int .i64 is[k]) := by simpa using hc
   have HC := hid (HF.out k hlt wr hx)
   have HY := hid (fun h1 => idx_yes hlt HN.out (p := p) h1)
   have HZ := hid (fun h1 => any_take_succ hlt HN.out (p := p) h1)
   generalize hp : p is[k] = q at *
   clear hp
   go_wp2_with fail
   refine HC.out.mono ?_
   rintro e w' ⟨rfl, hx'⟩
   cases q
   ·go_wp2_with fail
    go_roundw
    case rel => exact ⟨k + 1, by omega, by go_num, HZ.out trivial, hx.step hx'⟩
    case measure => simp [intOf]; omega
   ·go_wp2_with fail
    go_ret
    exact ⟨ret_int (HY.out trivial).symm, hx.step hx'⟩
  ·obtain rfl : k = is.length := by omega
   go_wp2_with fail
   go_ret
   exact ⟨ret_int (idx_no HN.out).symm, hx⟩
set_option maxHeartbeats 400000 in
theorem containsInt_any (S : Nat → Prop) (is : List Int) (p : Int → Bool) (a : Option Addr) (cap fk : Nat) (caps : Array Value) (w : World) (hc1 : is.length ≤ cap) (hc2 : cap ≤ maxLen) (hs : SlI w S is a)
  (hfk : ∀ args w, Sem.run Tryd.prog (callFunc fk args) w = .ok (.enter fk args) w)
  (hf : ∀ i (_ : i < is.length) (wr : World), Ext w wr → Calls Tryd.prog fk (#[.int .i64 is[i]] ++ caps) wr fun e w' => e = .returned (.bool (p is[i])) ∧ Ext wr w') :
  Calls Tryd.prog 40 #[.slice a is.length cap, .func (.func fk) #[] caps] w fun e w' => e = .returned (.bool (is.any p)) ∧ Ext w w' := by
 have HF := hid hf; clear hf
 go_enter Tryd.func40, Tryd.ntmps40
 go_wp2_with fail
 refine (indexInt_any S is p a cap fk caps w hc1 hc2 hs hfk HF.out).mono ?_
 rintro e w' ⟨rfl, hx⟩
 clear hfk
 have he := idx_nonneg p is
 generalize idx p is = q at *
 generalize hr : is.any p = r at *
 have HR := hid hr
 clear hr
 go_wp2_with fail
 go_ret
 exact ⟨ret_bool HR.out.symm, hx⟩
set_option maxHeartbeats 400000 in
theorem sigNot_any (n : Int) (w : World) : Calls Tryd.prog 41 #[.int .i64 n] w fun e w' => e = .returned (.bool (decide (n < 0) || decide (n > 3))) ∧ w = w' := by
 by_cases h1 : n < 0
 ·go_enter Tryd.func41, Tryd.ntmps41
  go_wp2_with fail
  go_ret
  exact ⟨ret_bool (by simp [h1]), rfl⟩
 ·go_enter Tryd.func41, Tryd.ntmps41
  go_wp2_with fail
  go_ret
  exact ⟨ret_bool (by simp; omega), rfl⟩
theorem sigNot_enter (args : Array Value) (w : World) : Sem.run Tryd.prog (callFunc 41 args) w = .ok (.enter 41 args) w := by
 go_simp
set_option maxHeartbeats 400000 in
theorem signature_any (S : Nat → Prop) (g : List Int) (y : Value) (w : World) (hg : SgV w S g y) : Calls Tryd.prog 22 #[y] w fun e w' => e = .returned (.int .i64 (sigOk g)) ∧ Ext w w' := by
 obtain ⟨a, cap, rfl, h1, h2, h3⟩ := hg
 by_cases h12 : 12 < g.length
 ·go_enter Tryd.func22, Tryd.ntmps22
  go_wp2_with fail
  go_ret
  exact ⟨ret_int (by rw [sigOk, if_pos h12]), Ext.one _ _⟩
 ·go_enter Tryd.func22, Tryd.ntmps22
  go_wp2_with fail
  refine (containsInt_any S g (fun n => decide (n < 0) || decide (n > 3)) a cap 41 #[] _ h1 h2 (h3.ext (Ext.one _ _)) sigNot_enter (fun i hi wr _ => (sigNot_any _ wr).mono ?_)).mono ?_
  ·rintro e w' ⟨rfl, rfl⟩; exact ⟨rfl, Ext.rfl' _⟩
  rintro e w' ⟨rfl, hx⟩
  have HS := hid (show sigOk g = if g.any (fun n => decide (n < 0) || decide (n > 3)) then 3 else 0 by rw [sigOk, if_neg h12])
  generalize g.any (fun n => decide (n < 0) || decide (n > 3)) = q at *
  cases q
  ·go_wp2_with fail
   go_ret
   exact ⟨ret_int HS.out.symm, (Ext.one _ _).step hx⟩
  ·go_wp2_with fail
   go_ret
   exact ⟨ret_int HS.out.symm, (Ext.one _ _).step hx⟩
set_option maxHeartbeats 400000 in
theorem own_any (S S' : Nat → Prop) (g : List Int) (t : Tm) (y x : Value) (w : World) (hg : SgV w S' g y) (ht : TmV w S t x) :
  Calls Tryd.prog 34 #[y, x] w fun e w' => e = .returned (.int .i64 (own g t)) ∧ Ext w w' := by
 have hct := count_any t S x
 have hfm := form_any g t S S' y x
 have hg0 := hg
 have ht0 := ht
 obtain ⟨ga, gc, rfl, g1, g2, g3⟩ := hg
 obtain ⟨a, cap, rfl, h1, h2, h3⟩ := ht
 have HC := hid hct; clear hct
 have HF := hid hfm; clear hfm
 have HO := hid (show own g t = if count t 120 > 120 then 2 else form g t from rfl)
 go_enter Tryd.func34, Tryd.ntmps34
 go_wp2_with fail
 refine (HC.out _ 120 (ht0.ext (Ext.two _ _ _)) (by omega) (by omega)).mono ?_
 rintro e w1 ⟨rfl, hx1⟩
 have b0 : w1.cell? ⟨w.heap.size, 0, none⟩ = some (.slice ga g.length gc) := hx1.boxed2 0
 have c0 : w1.cell? ⟨w.heap.size + 1, 0, none⟩ = some (.int .i64 t.v) := hx1.boxed2' 0
 have c1 : w1.cell? ⟨w.heap.size + 1, 1, none⟩ = some (.int .i64 t.f) := hx1.boxed2' 1
 have c2 : w1.cell? ⟨w.heap.size + 1, 2, none⟩ = some (.slice a t.us.length cap) := hx1.boxed2' 2
 have hx0 := (Ext.two _ _ _).step hx1
 generalize hq : count t 120 = q at *
 clear hq
 by_cases hgt : 120 < q
 ·go_wp2_with fail
  go_ret
  exact ⟨ret_int (by rw [HO.out, if_pos hgt]), hx0⟩
 ·go_wp2_with fail
  refine (HF.out _ (hg0.ext hx0) (ht0.ext hx0)).mono ?_
  rintro e w2 ⟨rfl, hx2⟩
  go_wp2_with fail
  go_ret
  exact ⟨ret_int (by rw [HO.out, if_neg (by omega)]), hx0.step hx2⟩
set_option maxHeartbeats 1000000 in
theorem checkTerm_any (S S' : Nat → Prop) (g : List Int) (t : Tm) (y x : Value) (w : World) (hg : SgV w S' g y) (ht : TmV w S t x) :
  Calls Tryd.prog 25 #[y, x] w fun e w' => e = .returned (.int .i64 (own g t)) ∧ Ext w w' := by
 have hct := size_any t S x
 have hg0 := hg
 have ht0 := ht
 obtain ⟨ga, gc, rfl, g1, g2, g3⟩ := hg
 obtain ⟨a, cap, rfl, h1, h2, h3⟩ := ht
 have HC := hid hct; clear hct
 have HO := hid (show own g t = if count t 120 > 120 then 2 else form g t from rfl)
 unfold maxLen at g2
 go_enter Tryd.func25, Tryd.ntmps25
 go_wp2_with fail
 refine (HC.out _ 120 (ht0.ext (Ext.two _ _ _)) (by omega) (by omega)).mono ?_
 rintro e w1 ⟨rfl, hx1⟩
 have c0 : w1.cell? ⟨w.heap.size + 1, 0, none⟩ = some (.int .i64 t.v) := hx1.boxed2' 0
 have c1 : w1.cell? ⟨w.heap.size + 1, 1, none⟩ = some (.int .i64 t.f) := hx1.boxed2' 1
 have c2 : w1.cell? ⟨w.heap.size + 1, 2, none⟩ = some (.slice a t.us.length cap) := hx1.boxed2' 2
 have hx0 := (Ext.two _ _ _).step hx1
 have HP := hid (count_parts t 120 (by omega))
 generalize hq : count t 120 = q at *
 clear hq
 by_cases hgt : 120 < q
 ·go_wp2_with fail
  go_ret
  exact ⟨ret_int (by rw [HO.out, if_pos hgt]), hx0⟩
 ·have HO' := hid (show own g t = formAll g (parts t) by rw [HO.out, if_neg (by omega), formAll_parts])
  have hlen : (parts t).length ≤ 120 := by have := HP.out (by omega); omega
  go_wp2_with fail
  have hxt : TmV w1 (fun b => S b ∧ b < w1.heap.size) t (.agg #[.int .i64 t.v, .int .i64 t.f, .slice a t.us.length cap]) := (ht0.ext hx0).wide fun b hb hl => ⟨hb, hl⟩
  refine (parts_any t _ w1.heap.size [] _ _ w1 (OwnT.nil_ _ _ _) hxt (Nat.le_refl _) (fun b hb => hb.2) (by simp; omega)).mono ?_
  rintro e w2 ⟨v', rfl, hv, hgr, _⟩
  have hx2 : Ext w1 w2 := ⟨hgr.os, hgr.tape, hgr.output, hgr.size, fun k hk => hgr.block k hk (by simp [Value.ownBlock])⟩
  obtain ⟨pa, pc, rfl, p1, p2, p3⟩ := hv.slTV
  rw [List.nil_append] at p1 p3 ⊢
  clear hv hgr
  unfold maxLen at p2
  generalize hl : parts t = l at *
  clear hl
  have hx3 := hx1.step hx2
  go_wp2_with fail
  go_loopw [6] (fun i wr => ∃ k : Nat, k ≤ l.length ∧ i = .int .i64 k ∧ formAll g (l.drop k) = formAll g l ∧ Ext w2 wr) (fun i _ => l.length - (intOf i).toNat)
  case atStart => exact ⟨0, by omega, rfl, rfl, Ext.rfl' _⟩
  case round =>
   obtain ⟨k, hk, rfl, hfa, hx⟩ := hrel
   have HFA := hid hfa; clear hfa
   have hx4 := hx3.step hx
   have b0 : wr.cell? ⟨w.heap.size, 0, none⟩ = some (.slice ga g.length gc) := hx4.boxed2 0
   obtain ⟨hz0, hz1⟩ := hx4.sz2
   have hxw := hx0.step (hx2.step hx)
   by_cases hlt : k < l.length
   ·obtain ⟨b, o, rfl⟩ := p3.some_ (by omega)
    obtain ⟨_, d1, d2, a1, cap1, d3, l1, l2, s1⟩ := SlT.readAt (p3.ext hx) hlt
    have HG := hid (fun h => formAll_go (g := g) hlt h)
    have HS := hid (fun h => formAll_stop (g := g) hlt h)
    generalize l[k] = u at *
    unfold maxLen at l2
    by_cases hv : u.v = 0
    ·have hv0 : (u.v != 0) = false := by simpa using hv
     by_cases hf0 : 0 ≤ u.f ∧ u.f < g.length
     ·obtain ⟨f1, f2⟩ := hf0
      obtain ⟨b', o', rfl⟩ := g3.some_ (by omega)
      obtain ⟨_, hb, hgc⟩ := (g3.ext hxw).at_ (i := u.f.toNat) (by omega)
      have hgc' : wr.cell? ⟨b', o' + u.f.toNat, none⟩ = some (.int .i64 g[u.f.toNat]) := by simpa using hgc
      clear hgc
      have hbt : btw u.f 0 (g.length - 1) = true := by simp [btw]; omega
      have HG1 := hid (show formOne g u.v u.f u.us.length = if (u.us.length : Int) ≠ g[u.f.toNat] then 1 else 0 by
       rw [formOne, if_neg (by simpa using hv), if_neg (by omega), getD_at (by omega)])
      generalize g[u.f.toNat] = gn at *
      clear hv
      go_wp2_with (go_at_call 26; refine (between_any _ _ _ _).mono ?_; rintro e w' ⟨rfl, rfl⟩)
      go_quiet (fail)
      by_cases hne : (u.us.length : Int) = gn
      ·have hne' : ((u.us.length : Int) != gn) = false := by simpa using hne
       have HZ := hid (show formOne g u.v u.f u.us.length = 0 by rw [HG1.out, if_neg (by simpa using hne)])
       clear hne
       go_wp2_with fail
       go_roundw
       case rel => exact ⟨k + 1, by omega, by go_num, by rw [← HG.out HZ.out]; exact HFA.out, (hx.new _).draws _⟩
       case measure => simp [intOf]; omega
      ·have hne' : ((u.us.length : Int) != gn) = true := by simpa using hne
       have HZ := hid (show own g t = 1 by rw [HO'.out, ← HFA.out, HS.out (by rw [HG1.out, if_pos hne]; omega), HG1.out, if_pos hne])
       clear hne
       go_wp2_with fail
       go_ret
       exact ⟨ret_int HZ.out.symm, (hxw.new _).draws _⟩
     ·have hbt : btw u.f 0 (g.length - 1) = false := by simp [btw]; omega
      have h5 : formOne g u.v u.f u.us.length = 5 := by rw [formOne, if_neg (by simpa using hv), if_pos (by omega)]
      have HZ := hid (show own g t = 5 by rw [HO'.out, ← HFA.out, HS.out (by omega), h5])
      clear h5 hf0
      go_wp2_with (go_at_call 26; refine (between_any _ _ _ _).mono ?_; rintro e w' ⟨rfl, rfl⟩)
      go_ret
      exact ⟨ret_int HZ.out.symm, hxw.new _⟩
    ·have hv0 : (u.v != 0) = true := by simpa using hv
     by_cases hb1 : 1 ≤ u.v ∧ u.v ≤ 1000
     ·have hbt : btw u.v 1 1000 = true := by simp [btw]; omega
      by_cases h3 : 0 < u.us.length
      ·have h5 : formOne g u.v u.f u.us.length = 1 := by rw [formOne, if_pos hv, if_neg (by omega), if_pos (by omega)]
       have HZ := hid (show own g t = 1 by rw [HO'.out, ← HFA.out, HS.out (by omega), h5])
       clear h5 hb1
       go_wp2_with (go_at_call 26; refine (between_any _ _ _ _).mono ?_; rintro e w' ⟨rfl, rfl⟩)
       go_ret
       exact ⟨ret_int HZ.out.symm, hxw.new _⟩
      ·by_cases h4 : u.f = 0
       ·have h5 : formOne g u.v u.f u.us.length = 0 := by rw [formOne, if_pos hv, if_neg (by omega), if_neg (by omega)]
        have HZ := hid h5
        have h4' : (u.f != 0) = false := by simpa using h4
        clear h5 hb1 h4
        go_wp2_with (go_at_call 26; refine (between_any _ _ _ _).mono ?_; rintro e w' ⟨rfl, rfl⟩)
        go_roundw
        case rel => exact ⟨k + 1, by omega, by go_num, by rw [← HG.out HZ.out]; exact HFA.out, hx.new _⟩
        case measure => simp [intOf]; omega
       ·have h5 : formOne g u.v u.f u.us.length = 1 := by rw [formOne, if_pos hv, if_neg (by omega), if_pos (by omega)]
        have HZ := hid (show own g t = 1 by rw [HO'.out, ← HFA.out, HS.out (by omega), h5])
        have h4' : (u.f != 0) = true := by simpa using h4
        clear h5 hb1 h4
        go_wp2_with (go_at_call 26; refine (between_any _ _ _ _).mono ?_; rintro e w' ⟨rfl, rfl⟩)
        go_ret
        exact ⟨ret_int HZ.out.symm, hxw.new _⟩
     ·have hbt : btw u.v 1 1000 = false := by simp [btw]; omega
      have h5 : formOne g u.v u.f u.us.length = 3 := by rw [formOne, if_pos hv, if_pos (by omega)]
      have HZ := hid (show own g t = 3 by rw [HO'.out, ← HFA.out, HS.out (by omega), h5])
      clear h5 hb1
      go_wp2_with (go_at_call 26; refine (between_any _ _ _ _).mono ?_; rintro e w' ⟨rfl, rfl⟩)
      go_ret
      exact ⟨ret_int HZ.out.symm, hxw.new _⟩
   ·obtain rfl : k = l.length := by omega
    have HN := hid (show own g t = 0 by rw [HO'.out, ← HFA.out, List.drop_length, formAll])
    go_wp2_with fail
    go_ret
    exact ⟨ret_int HN.out.symm, hxw⟩
end Go.Proofs.YtmeekpinkfpnhabDoor
