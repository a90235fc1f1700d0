/- Walks through package term and its reference: sizes, signatures, what is wrong with a term. The walk through superposeref.PartsOf: all that stand in a term, each behind its own. Walks: signatures, and what is wrong with a term, of package term and of the reference. Walks: what is wrong with a term, by package term and by the reference. Walks: term.All, superposeref.CheckSignature, superposeref.CheckTerms. Walks: are two terms the same, by package term and by the reference. Walk: superposeref.SameTerm. The order of terms, in plain words; and that the tables which the program and the reference fill hold it. Maps as lists of keys and values: made, asked, written. Maps as lists of keys and values: what a store does. A law for a region that draws its order: first operations that only read, or call what only makes memory; behind all of them the rest, one after the other. Walks of package order: the maps of pairs, and the functions that ask them. Walk of package order: greater. Operations that enter no function. A law for a region that draws its order: what only reads is taken first; the rest, in whatever order, keeps what was there. -/
import Derived.Test.YtmeekpinkfpnhaaB03
import Derived.MapKept
import Derived.StillTail
import Derived.OrdersHeld
set_option linter.unusedSimpArgs false
set_option linter.unusedSectionVars false
set_option linter.unusedVariables false
set_option linter.unnecessarySimpa false
set_option linter.all false
namespace Go.Proofs.Ytmeekpinkfpnhaa
open Go.RowKit

def CountSpec (t : Tm) : Prop := ∀ (S : Nat → Prop) (x : Value) (w : World) (most : Int), TmV w S t x → 0 ≤ most → most ≤ 1000000 →
    Calls Try.prog 102 #[x, .int .i64 most] w fun e w' => e = .returned (.int .i64 (count t most)) ∧ Ext w w'

set_option maxHeartbeats 400000 in
theorem count_step (t : Tm) (ih : ∀ u ∈ t.us, CountSpec u) : CountSpec t := by
  rintro S x w most ⟨a, cap, rfl, h1, h2, h3⟩ hm0 hm1
  unfold maxLen at h2
  go_enter Try.func102, Try.ntmps102
  go_wp2_with fail
  go_loopw [5, 11] (fun n i wr => ∃ (k : Nat) (m : Int), k ≤ t.us.length ∧ i = .int .i64 k ∧ n = .int .i64 m ∧ 1 ≤ m ∧ m ≤ most + 1 ∧ countL (t.us.drop k) m most = count t most ∧ Ext w wr) (fun _ i _ => t.us.length - (intOf i).toNat)
  case atStart => exact ⟨0, 1, by omega, rfl, rfl, by omega, by omega, (count_eq t most).symm, Ext.one _ _⟩
  case round =>
    obtain ⟨k, m, hk, rfl, rfl, hm2, hm3, hc, hx⟩ := hrel
    have HC := hid hc; clear hc
    by_cases hlt : k < t.us.length
    · obtain ⟨b, o, rfl⟩ := h3.some_ (by omega)
      obtain ⟨c1, c2, a1, cap1, c3, l1, l2, s1⟩ := ((h3.ext hx).readAt hlt).2
      have IH := hid (ih _ (List.getElem_mem hlt)); clear ih
      go_wp2_with fail
      · have hgt : most < m := by assumption
        go_ret
        refine ⟨ret_int ?_, hx.new _⟩
        rw [← HC.out, countL_stop (by omega)]
      · have hle : m ≤ most := by assumption
        refine (IH.out S _ _ (most - m) ⟨a1, cap1, rfl, l1, l2, s1.ext (Ext.one _ _)⟩ (by omega) (by omega)).mono ?_
        rintro e w' ⟨rfl, hx'⟩
        obtain ⟨hq1, hq2⟩ := count_le t.us[k] (most - m) (by omega)
        have HCL := hid (countL_go hlt hle)
        generalize hgc : count t.us[k] (most - m) = q at *
        clear hgc
        go_wp2_with fail
        go_roundw
        case rel => exact ⟨k + 1, m + q, by omega, by go_num, rfl, by omega, by omega, by rw [← HC.out, HCL.out], (hx.new _).step hx'⟩
        case measure => simp [intOf]; omega
    · obtain rfl : k = t.us.length := by omega
      go_wp2_with fail
      go_ret
      refine ⟨ret_int ?_, hx⟩
      rw [← HC.out, countL_end]
theorem count_any (t : Tm) : CountSpec t := Tm.ind count_step t

/-! ### superposeref.SizeOf -/
def SizeSpec (t : Tm) : Prop := ∀ (S : Nat → Prop) (x : Value) (w : World) (most : Int), TmV w S t x → 0 ≤ most → most ≤ 1000000 →
    Calls Try.prog 50 #[x, .int .i64 most] w fun e w' => e = .returned (.int .i64 (count t most)) ∧ Ext w w'

set_option maxHeartbeats 400000 in
theorem size_step (t : Tm) (ih : ∀ u ∈ t.us, SizeSpec u) : SizeSpec t := by
  rintro S x w most ⟨a, cap, rfl, h1, h2, h3⟩ hm0 hm1
  unfold maxLen at h2
  go_enter Try.func50, Try.ntmps50
  go_wp2_with fail
  go_loopw [5, 6] (fun n i wr => ∃ (k : Nat) (m : Int), k ≤ t.us.length ∧ i = .int .i64 k ∧ n = .int .i64 m ∧ 1 ≤ m ∧ m ≤ most + 1 ∧ countL (t.us.drop k) m most = count t most ∧ Ext (w.alloc (.cells #[.int .i64 t.v, .int .i64 t.f, .slice a t.us.length cap] 27)) wr) (fun _ i _ => t.us.length - (intOf i).toNat)
  case atStart => exact ⟨0, 1, by omega, rfl, rfl, by omega, by omega, (count_eq t most).symm, Ext.rfl' _⟩
  case round =>
    obtain ⟨k, m, hk, rfl, rfl, hm2, hm3, hc, hx⟩ := hrel
    have HC := hid hc; clear hc
    have hx0 := (Ext.one _ _).step hx
    have b2 : wr.cell? ⟨w.heap.size, 2, none⟩ = some (.slice a t.us.length cap) := hx.boxed 2
    by_cases hlt : k < t.us.length
    · obtain ⟨b, o, rfl⟩ := h3.some_ (by omega)
      obtain ⟨c1, c2, a1, cap1, c3, l1, l2, s1⟩ := ((h3.ext hx0).readAt hlt).2
      have IH := hid (ih _ (List.getElem_mem hlt)); clear ih
      by_cases hle : m ≤ most
      · go_wp2_with fail
        refine (IH.out S _ _ (most - m) ⟨a1, cap1, rfl, l1, l2, s1⟩ (by omega) (by omega)).mono ?_
        rintro e w' ⟨rfl, hx'⟩
        obtain ⟨hq1, hq2⟩ := count_le t.us[k] (most - m) (by omega)
        have HCL := hid (countL_go hlt hle)
        generalize hgc : count t.us[k] (most - m) = q at *
        clear hgc
        go_wp2_with fail
        go_roundw
        case rel => exact ⟨k + 1, m + q, by omega, by go_num, rfl, by omega, by omega, by rw [← HC.out, HCL.out], hx.step hx'⟩
        case measure => simp [intOf]; omega
      · go_wp2_with fail
        go_ret
        refine ⟨ret_int ?_, hx0⟩
        rw [← HC.out, countL_stop (by omega)]
    · obtain rfl : k = t.us.length := by omega
      go_wp2_with fail
      go_ret
      refine ⟨ret_int ?_, hx0⟩
      rw [← HC.out, countL_end]
theorem size_any (t : Tm) : SizeSpec t := Tm.ind size_step t

/-! ### term.form -/
def FormSpec (g : List Int) (t : Tm) : Prop := ∀ (S S' : Nat → Prop) (y x : Value) (w : World), SgV w S' g y → TmV w S t x →
    Calls Try.prog 109 #[y, x] w fun e w' => e = .returned (.int .i64 (form g t)) ∧ Ext w w'

set_option maxHeartbeats 400000 in
theorem form_step (g : List Int) (t : Tm) (ih : ∀ u ∈ t.us, FormSpec g u) : FormSpec g t := by
  rintro S S' y x w ⟨ga, gc, rfl, g1, g2, g3⟩ ⟨a, cap, rfl, h1, h2, h3⟩
  unfold maxLen at h2 g2
  go_enter Try.func109, Try.ntmps109
  go_wp2_with fail
  go_loopw [11] (fun i wr => ∃ (k : Nat), k ≤ t.us.length ∧ i = .int .i64 k ∧ formL g t.us = formL g (t.us.drop k) ∧ Ext ((w.alloc (.cells #[.slice ga g.length gc] 24)).alloc (.cells #[.int .i64 t.v, .int .i64 t.f, .slice a t.us.length cap] 27)) wr) (fun i _ => t.us.length - (intOf i).toNat)
  case atStart => exact ⟨0, by omega, rfl, rfl, Ext.rfl' _⟩
  case round =>
    obtain ⟨k, hk, rfl, hc, hx⟩ := hrel
    have HC := hid hc; clear hc
    have hx0 := (Ext.two _ _ _).step hx
    have b0 : wr.cell? ⟨w.heap.size, 0, none⟩ = some (.slice ga g.length gc) := hx.boxed2 0
    obtain ⟨hz0, hz1⟩ := hx.sz2
    have c0 : wr.cell? ⟨w.heap.size + 1, 0, none⟩ = some (.int .i64 t.v) := hx.boxed2' 0
    have c1 : wr.cell? ⟨w.heap.size + 1, 1, none⟩ = some (.int .i64 t.f) := hx.boxed2' 1
    have c2 : wr.cell? ⟨w.heap.size + 1, 2, none⟩ = some (.slice a t.us.length cap) := hx.boxed2' 2
    by_cases hlt : k < t.us.length
    · obtain ⟨b, o, rfl⟩ := h3.some_ (by omega)
      obtain ⟨d1, d2, a1, cap1, d3, l1, l2, s1⟩ := ((h3.ext hx0).readAt hlt).2
      have IH := hid (ih _ (List.getElem_mem hlt)); clear ih
      go_wp2_with fail
      refine (IH.out S S' _ _ _ ⟨ga, gc, rfl, g1, g2, g3.ext (hx0.new _)⟩ ⟨a1, cap1, rfl, l1, l2, s1.ext (Ext.one _ _)⟩).mono ?_
      rintro e w' ⟨rfl, hx'⟩
      have hfl := hid (show formL g (t.us.drop k) = if form g t.us[k] ≠ 0 then form g t.us[k] else formL g (t.us.drop (k + 1)) by rw [List.drop_eq_getElem_cons hlt, formL])
      generalize hq : form g t.us[k] = q at *
      have HQ := hid hq; clear hq
      by_cases hq0 : q = 0
      · subst hq0
        go_wp2_with fail
        go_roundw
        case rel => exact ⟨k + 1, by omega, by go_num, by rw [HC.out, hfl.out]; rfl, (hx.new _).step hx'⟩
        case measure => simp [intOf]; omega
      · have hq1 : (q != 0) = true := by simpa using hq0
        go_wp2_with fail
        go_ret
        refine ⟨ret_int ?_, (hx0.new _).step hx'⟩
        have : formL g t.us = q := by rw [HC.out, hfl.out, if_pos hq0]
        rw [form_eq, this, if_pos hq0]
    · obtain rfl : k = t.us.length := by omega
      have HF := hid (show form g t = formOne g t.v t.f t.us.length by rw [form_eq, if_neg]; rw [HC.out, List.drop_length, formL]; simp)
      clear ih HC
      by_cases hv : t.v = 0
      · by_cases hf0 : 0 ≤ t.f ∧ t.f < g.length
        · obtain ⟨f1, f2⟩ := hf0
          obtain ⟨b, o, rfl⟩ := g3.some_ (by omega)
          obtain ⟨_, hb, hgc⟩ := g3.at_ (i := t.f.toNat) (by omega)
          have hgc' := hx0.cell (p := ⟨b, o + t.f.toNat * 1, none⟩) hb
          rw [hgc] at hgc'
          simp only [Nat.mul_one] at hgc'
          clear hgc
          have HG := hid (show g.getD t.f.toNat 0 = g[t.f.toNat] from getD_at (by omega) _)
          generalize g[t.f.toNat] = gn at *
          go_wp2_with fail
          go_quiet (fail)
          go_wp2_with fail
          · have hne : (↑t.us.length != gn) = true := by assumption
            go_ret
            refine ⟨ret_int ?_, hx0.draws _⟩
            rw [HF.out, formOne, if_neg (by simpa using hv), if_neg (by omega), HG.out, if_pos (by simpa using hne)]
          · have hne : (↑t.us.length != gn) = false := by assumption
            go_ret
            refine ⟨ret_int ?_, hx0.draws _⟩
            rw [HF.out, formOne, if_neg (by simpa using hv), if_neg (by omega), HG.out, if_neg (by simpa using hne)]
        · have HV := hid (show form g t = 5 by rw [HF.out, formOne, if_neg (by simpa using hv), if_pos (by omega)])
          by_cases f1 : t.f < 0
          · go_wp2_with fail
            go_ret
            exact ⟨ret_int HV.out.symm, hx0⟩
          · have f2 : (g.length : Int) ≤ t.f := by omega
            go_wp2_with fail
            go_ret
            exact ⟨ret_int HV.out.symm, hx0⟩
      · have hv' : (t.v != 0) = true := by simpa using hv
        by_cases h1 : t.v < 1
        · have HV := hid (show form g t = 3 by rw [HF.out, formOne, if_pos hv, if_pos (by omega)])
          go_wp2_with fail
          go_ret
          exact ⟨ret_int HV.out.symm, hx0⟩
        · by_cases h2 : 1000 < t.v
          · have HV := hid (show form g t = 3 by rw [HF.out, formOne, if_pos hv, if_pos (by omega)])
            go_wp2_with fail
            go_ret
            exact ⟨ret_int HV.out.symm, hx0⟩
          · by_cases h3 : 0 < t.us.length
            · have HV := hid (show form g t = 1 by rw [HF.out, formOne, if_pos hv, if_neg (by omega), if_pos (by omega)])
              go_wp2_with fail
              go_ret
              exact ⟨ret_int HV.out.symm, hx0⟩
            · by_cases h4 : t.f = 0
              · have HV := hid (show form g t = 0 by rw [HF.out, formOne, if_pos hv, if_neg (by omega), if_neg (by omega)])
                have h4' : (t.f != 0) = false := by simpa using h4
                clear h4
                go_wp2_with fail
                go_ret
                exact ⟨ret_int HV.out.symm, hx0⟩
              · have HV := hid (show form g t = 1 by rw [HF.out, formOne, if_pos hv, if_neg (by omega), if_pos (by omega)])
                have h4' : (t.f != 0) = true := by simpa using h4
                clear h4
                go_wp2_with fail
                go_ret
                exact ⟨ret_int HV.out.symm, hx0⟩
theorem form_any (g : List Int) (t : Tm) : FormSpec g t := Tm.ind (form_step g) t
end Go.Proofs.Ytmeekpinkfpnhaa

namespace Go.Proofs.Ytmeekpinkfpnhaa
open Go.RowKit

theorem ei_term : ElemOk Try.prog 25 27 3 40 := ElemOk.mk' (z := .agg #[.int .i64 0, .int .i64 0, .slice none 0 0]) Try.underlying25 (by kernel_rfl) rfl (by decide)

def PartsPost (w : World) (base : Nat) (S : Nat → Prop) (ts : List Tm) (r : Option Nat) (e : Ending) (w' : World) : Prop :=
  ∃ v', e = .returned v' ∧ OwnT w' base S ts v' ∧ w.grownBy w' r ∧ (v'.ownBlock = r ∨ ∃ g, v'.ownBlock = some g ∧ w.heap.size ≤ g)

def PartsSpec (t : Tm) : Prop := ∀ (S : Nat → Prop) (base : Nat) (l : List Tm) (vl x : Value) (w : World), OwnT w base S l vl → TmV w S t x → base ≤ w.heap.size → (∀ b, S b → b < base) → l.length + (parts t).length ≤ 1000000 →
    Calls Try.prog 63 #[vl, x] w (PartsPost w base S (l ++ parts t) vl.ownBlock)

set_option maxHeartbeats 400000 in
theorem parts_step (t : Tm) (ih : ∀ u ∈ t.us, PartsSpec u) : PartsSpec t := by
  rintro S base l vl x w hl ⟨a, cap, rfl, h1, h2, h3⟩ hbase hS hsz
  unfold maxLen at h2
  have hvl : ∀ g, vl.ownBlock = some g → g < w.heap.size := fun g hg => (hl.block hg).2
  have HVL := hid hvl; clear hvl
  have HSZ := hid hsz; clear hsz
  have HL := hid hl; clear hl
  have HS := hid hS; clear hS
  go_enter Try.func63, Try.ntmps63
  go_wp2_with fail
  go_loopw [0, 5] (fun v i wr => ∃ (k : Nat), k ≤ t.us.length ∧ i = .int .i64 k ∧ OwnT wr base S (l ++ partsL (t.us.take k)) v ∧ (w.alloc (.cells #[.int .i64 t.v, .int .i64 t.f, .slice a t.us.length cap] 27)).grownBy wr vl.ownBlock ∧ (v.ownBlock = vl.ownBlock ∨ ∃ g, v.ownBlock = some g ∧ w.heap.size < g)) (fun _ i _ => t.us.length - (intOf i).toNat)
  case atStart => exact ⟨0, by omega, rfl, by simpa [partsL] using HL.out.ext (Ext.one _ _), grown_ext (Ext.rfl' _) _, .inl rfl⟩
  case round =>
    obtain ⟨k, hk, rfl, hv, hg, hb⟩ := hrel
    have HB := hid hb; clear hb
    have b2 : wr.cell? ⟨w.heap.size, 2, none⟩ = some (.slice a t.us.length cap) := grown_box hg HVL.out 2
    have hkeep : Keeps S w wr := Keeps.grown (grown_trans (grown_ext (Ext.one _ _) _) (.inl rfl) hg) fun b hb e => by have := (HL.out.block e.symm).1; have := HS.out b hb; omega
    by_cases hlt : k < t.us.length
    · obtain ⟨b, o, rfl⟩ := h3.some_ (by omega)
      obtain ⟨_, c1, c2, a1, cap1, c3, l1, l2, s1⟩ := SlT.readAt (h3.keep hkeep fun _ h _ => h) hlt
      have IH := hid (ih _ (List.getElem_mem hlt)); clear ih
      have hsz1 : (l ++ partsL (t.us.take k)).length + (parts t.us[k]).length ≤ 1000000 := by
        have := partsL_at hlt
        have := HSZ.out
        rw [parts_eq, List.length_append] at this
        rw [List.length_append]; omega
      have HSZ1 := hid hsz1; clear hsz1
      go_wp2_with fail
      refine (IH.out S base _ _ _ _ hv ⟨a1, cap1, rfl, l1, l2, s1⟩ (by have := hg.size; simp at this; omega) HS.out HSZ1.out).mono ?_
      rintro e w' ⟨v', rfl, hv', hg', hb'⟩
      have HB' := hid hb'; clear hb'
      go_wp2_with fail
      go_roundw
      case rel =>
        refine ⟨k + 1, by omega, by go_num, by rw [partsL_take hlt, ← List.append_assoc]; exact hv', grown_trans hg ?_ hg', ?_⟩
        · rcases HB.out with e | ⟨g, e, h⟩
          · exact .inl e
          · exact .inr ⟨g, e, by simp; omega⟩
        · rcases HB'.out with e | ⟨g, e, h⟩
          · rw [e]; exact HB.out
          · refine .inr ⟨g, e, ?_⟩
            have := hg.size
            simp at this
            omega
      case measure => simp [intOf]; omega
    · obtain rfl : k = t.us.length := by omega
      have b0 : wr.cell? ⟨w.heap.size, 0, none⟩ = some (.int .i64 t.v) := grown_box hg HVL.out 0
      have b1 : wr.cell? ⟨w.heap.size, 1, none⟩ = some (.int .i64 t.f) := grown_box hg HVL.out 1
      clear ih
      have hy : TmV wr S t (.agg #[.int .i64 t.v, .int .i64 t.f, .slice a t.us.length cap]) := ⟨a, cap, rfl, h1, h2, h3.keep hkeep fun _ h _ => h⟩
      have HY := hid hy; clear hy
      obtain ⟨xs, x1, x2, x3⟩ := hv
      have X2 := hid x2; clear x2
      have X3 := hid x3; clear x3
      have hxs : xs.length ≤ 1000000 - 1 := by
        have := HSZ.out
        rw [parts_eq, List.length_append] at this
        rw [X2.out, List.length_append, List.take_length]
        simp at this
        omega
      go_wp2_with (at_builtin; refine wpList_push ei_term rfl _ _ (by rfl) (.agg #[.int .i64 t.v, .int .i64 t.f, .slice a t.us.length cap]) rfl (by simp [Value.cells, Value.oneCell']) (by rfl) x1 (by rfl) (by omega) (by unfold maxLen; omega) (by have := hg.size; simp at this; omega) ?_; intro g1 cap1 w1 k1 k2 k3 k4)
      go_ret
      have hO := OwnT.push X2.out X3.out HY.out (fun b hb _ => ⟨hb, fun e => by have := (x1.block e.symm).1; have := HS.out b hb; omega⟩) k1 k2 k3
      have hgs := hg.size
      simp at hgs
      refine ⟨_, rfl, ?_, ?_, ?_⟩
      · rw [parts_eq, ← List.append_assoc]
        rw [List.take_length] at hO
        exact hO
      · refine grown_trans (grown_trans (grown_ext (Ext.one _ _) _) (.inl rfl) hg) ?_ k2
        rcases HB.out with e | ⟨g, e, h⟩
        · exact .inl e
        · exact .inr ⟨g, e, by omega⟩
      · rcases k3 with k3 | k3
        · rcases HB.out with e | ⟨g, e, h⟩
          · left; rw [← e, k3]; rfl
          · right; exact ⟨g1, rfl, by rw [e] at k3; cases k3; omega⟩
        · right; exact ⟨g1, rfl, by omega⟩
theorem parts_any (t : Tm) : PartsSpec t := Tm.ind parts_step t
end Go.Proofs.Ytmeekpinkfpnhaa

namespace Go.Proofs.Ytmeekpinkfpnhaa
open Go.RowKit

def btw (n a b : Int) : Bool := decide (a ≤ n) && decide (n ≤ b)
set_option maxHeartbeats 400000 in
theorem between_any (n a b : Int) (w : World) : Calls Try.prog 80 #[.int .i64 n, .int .i64 a, .int .i64 b] w fun e w' => e = .returned (.bool (btw n a b)) ∧ w = w' := by
  by_cases h1 : a ≤ n
  · go_enter Try.func80, Try.ntmps80
    go_wp2_with fail
    go_ret
    exact ⟨ret_bool (by simp [btw, h1]), rfl⟩
  · have e : btw n a b = false := by simp only [btw, decide_eq_false h1, Bool.false_and]
    go_enter Try.func80, Try.ntmps80
    go_wp2_with fail
    go_ret
    exact ⟨rfl, rfl⟩

def idx {α : Type} (p : α → Bool) (l : List α) : Int := if l.any p then (l.findIdx p : Nat) else -1
theorem idx_nonneg {α : Type} (p : α → Bool) (l : List α) : decide (0 ≤ idx p l) = l.any p := by
  unfold idx; split <;> simp_all
theorem idx_yes {α : Type} {p : α → Bool} {l : List α} {k : Nat} (hk : k < l.length) (h0 : (l.take k).any p = false) (h1 : p l[k] = true) : idx p l = k := by
  have hm : l.any p = true := List.any_eq_true.2 ⟨_, List.getElem_mem hk, h1⟩
  rw [idx, if_pos hm]
  congr 1
  rw [List.findIdx_eq hk]
  refine ⟨h1, fun j hj => ?_⟩
  have := List.any_eq_false.1 h0 l[j] (List.mem_take_iff_getElem.2 ⟨j, by omega, rfl⟩)
  simpa using this
theorem idx_no {α : Type} {p : α → Bool} {l : List α} (h : (l.take l.length).any p = false) : idx p l = -1 := by
  rw [List.take_length] at h; rw [idx, h]; rfl
theorem any_take_succ {α : Type} {p : α → Bool} {l : List α} {k : Nat} (hk : k < l.length) (h0 : (l.take k).any p = false) (h1 : p l[k] = false) : (l.take (k + 1)).any p = false := by
  rw [List.take_succ_eq_append_getElem hk, List.any_append, h0]; simp [h1]

set_option maxRecDepth 10000 in
set_option maxHeartbeats 400000 in
/-- slices.IndexFunc of numbers: the function value answers p of each, and turns nothing that was there. -/
theorem indexInt_any (S : Nat → Prop) (is : List Int) (p : Int → Bool) (a : Option Addr) (cap fk : Nat) (caps : Array Value) (w : World) (hc1 : is.length ≤ cap) (hc2 : cap ≤ maxLen) (hs : SlI w S is a)
    (hfk : ∀ args w, Sem.run Try.prog (callFunc fk args) w = .ok (.enter fk args) w)
    (hf : ∀ i (_ : i < is.length) (wr : World), Ext w wr → Calls Try.prog fk (#[.int .i64 is[i]] ++ caps) wr fun e w' => e = .returned (.bool (p is[i])) ∧ Ext wr w') :
    Calls Try.prog 110 #[.slice a is.length cap, .func (.func fk) #[] caps] w fun e w' => e = .returned (.int .i64 (idx p is)) ∧ Ext w w' := by
  unfold maxLen at hc2
  have HF := hid hf; clear hf
  go_enter Try.func110, Try.ntmps110
  go_wp2_with fail
  go_loopw [8] (fun i wr => ∃ k : Nat, k ≤ is.length ∧ i = .int .i64 k ∧ (is.take k).any p = false ∧ Ext w wr) (fun i _ => is.length - (intOf i).toNat)
  case atStart => exact ⟨0, by omega, rfl, by simp, Ext.rfl' _⟩
  case round =>
    obtain ⟨k, hk, rfl, hn, hx⟩ := hrel
    have HN := hid hn; clear hn
    by_cases hlt : k < is.length
    · obtain ⟨b, o, rfl⟩ := hs.some_ (by omega)
      obtain ⟨_, _, hc⟩ := (hs.ext hx).at_ hlt
      have hc : wr.cell? ⟨b, o + k, none⟩ = some (.int .i64 is[k]) := by simpa using hc
      have HC := hid (HF.out k hlt wr hx)
      have HY := hid (fun h1 => idx_yes hlt HN.out (p := p) h1)
      have HZ := hid (fun h1 => any_take_succ hlt HN.out (p := p) h1)
      generalize hp : p is[k] = q at *
      clear hp
      go_wp2_with fail
      refine HC.out.mono ?_
      rintro e w' ⟨rfl, hx'⟩
      cases q
      · go_wp2_with fail
        go_roundw
        case rel => exact ⟨k + 1, by omega, by go_num, HZ.out trivial, hx.step hx'⟩
        case measure => simp [intOf]; omega
      · go_wp2_with fail
        go_ret
        exact ⟨ret_int (HY.out trivial).symm, hx.step hx'⟩
    · obtain rfl : k = is.length := by omega
      go_wp2_with fail
      go_ret
      exact ⟨ret_int (idx_no HN.out).symm, hx⟩

set_option maxHeartbeats 400000 in
theorem containsInt_any (S : Nat → Prop) (is : List Int) (p : Int → Bool) (a : Option Addr) (cap fk : Nat) (caps : Array Value) (w : World) (hc1 : is.length ≤ cap) (hc2 : cap ≤ maxLen) (hs : SlI w S is a)
    (hfk : ∀ args w, Sem.run Try.prog (callFunc fk args) w = .ok (.enter fk args) w)
    (hf : ∀ i (_ : i < is.length) (wr : World), Ext w wr → Calls Try.prog fk (#[.int .i64 is[i]] ++ caps) wr fun e w' => e = .returned (.bool (p is[i])) ∧ Ext wr w') :
    Calls Try.prog 69 #[.slice a is.length cap, .func (.func fk) #[] caps] w fun e w' => e = .returned (.bool (is.any p)) ∧ Ext w w' := by
  have HF := hid hf; clear hf
  go_enter Try.func69, Try.ntmps69
  go_wp2_with fail
  refine (indexInt_any S is p a cap fk caps w hc1 hc2 hs hfk HF.out).mono ?_
  rintro e w' ⟨rfl, hx⟩
  clear hfk
  have he := idx_nonneg p is
  generalize idx p is = q at *
  generalize hr : is.any p = r at *
  have HR := hid hr
  clear hr
  go_wp2_with fail
  go_ret
  exact ⟨ret_bool HR.out.symm, hx⟩

set_option maxHeartbeats 400000 in
theorem sigNot_any (n : Int) (w : World) : Calls Try.prog 104 #[.int .i64 n] w fun e w' => e = .returned (.bool (decide (n < 0) || decide (n > 3))) ∧ w = w' := by
  by_cases h1 : n < 0
  · go_enter Try.func104, Try.ntmps104
    go_wp2_with fail
    go_ret
    exact ⟨ret_bool (by simp [h1]), rfl⟩
  · go_enter Try.func104, Try.ntmps104
    go_wp2_with fail
    go_ret
    exact ⟨ret_bool (by simp; omega), rfl⟩

theorem sigNot_enter (args : Array Value) (w : World) : Sem.run Try.prog (callFunc 104 args) w = .ok (.enter 104 args) w := by
  go_simp

set_option maxHeartbeats 400000 in
theorem signature_any (S : Nat → Prop) (g : List Int) (y : Value) (w : World) (hg : SgV w S g y) : Calls Try.prog 53 #[y] w fun e w' => e = .returned (.int .i64 (sigOk g)) ∧ Ext w w' := by
  obtain ⟨a, cap, rfl, h1, h2, h3⟩ := hg
  by_cases h12 : 12 < g.length
  · go_enter Try.func53, Try.ntmps53
    go_wp2_with fail
    go_ret
    exact ⟨ret_int (by rw [sigOk, if_pos h12]), Ext.one _ _⟩
  · go_enter Try.func53, Try.ntmps53
    go_wp2_with fail
    refine (containsInt_any S g (fun n => decide (n < 0) || decide (n > 3)) a cap 104 #[] _ h1 h2 (h3.ext (Ext.one _ _)) sigNot_enter (fun i hi wr _ => (sigNot_any _ wr).mono ?_)).mono ?_
    · rintro e w' ⟨rfl, rfl⟩; exact ⟨rfl, Ext.rfl' _⟩
    rintro e w' ⟨rfl, hx⟩
    have HS := hid (show sigOk g = if g.any (fun n => decide (n < 0) || decide (n > 3)) then 3 else 0 by rw [sigOk, if_neg h12])
    generalize g.any (fun n => decide (n < 0) || decide (n > 3)) = q at *
    cases q
    · go_wp2_with fail
      go_ret
      exact ⟨ret_int HS.out.symm, (Ext.one _ _).step hx⟩
    · go_wp2_with fail
      go_ret
      exact ⟨ret_int HS.out.symm, (Ext.one _ _).step hx⟩
end Go.Proofs.Ytmeekpinkfpnhaa

namespace Go.Proofs.Ytmeekpinkfpnhaa
open Go.RowKit

/-! ### term.Own, superposeref.CheckTerm -/
set_option maxHeartbeats 400000 in
theorem own_any (S S' : Nat → Prop) (g : List Int) (t : Tm) (y x : Value) (w : World) (hg : SgV w S' g y) (ht : TmV w S t x) :
    Calls Try.prog 68 #[y, x] w fun e w' => e = .returned (.int .i64 (own g t)) ∧ Ext w w' := by
  have hct := count_any t S x
  have hfm := form_any g t S S' y x
  have hg0 := hg
  have ht0 := ht
  obtain ⟨ga, gc, rfl, g1, g2, g3⟩ := hg
  obtain ⟨a, cap, rfl, h1, h2, h3⟩ := ht
  have HC := hid hct; clear hct
  have HF := hid hfm; clear hfm
  have HO := hid (show own g t = if count t 120 > 120 then 2 else form g t from rfl)
  go_enter Try.func68, Try.ntmps68
  go_wp2_with fail
  refine (HC.out _ 120 (ht0.ext (Ext.two _ _ _)) (by omega) (by omega)).mono ?_
  rintro e w1 ⟨rfl, hx1⟩
  have b0 : w1.cell? ⟨w.heap.size, 0, none⟩ = some (.slice ga g.length gc) := hx1.boxed2 0
  have c0 : w1.cell? ⟨w.heap.size + 1, 0, none⟩ = some (.int .i64 t.v) := hx1.boxed2' 0
  have c1 : w1.cell? ⟨w.heap.size + 1, 1, none⟩ = some (.int .i64 t.f) := hx1.boxed2' 1
  have c2 : w1.cell? ⟨w.heap.size + 1, 2, none⟩ = some (.slice a t.us.length cap) := hx1.boxed2' 2
  have hx0 := (Ext.two _ _ _).step hx1
  generalize hq : count t 120 = q at *
  clear hq
  by_cases hgt : 120 < q
  · go_wp2_with fail
    go_ret
    exact ⟨ret_int (by rw [HO.out, if_pos hgt]), hx0⟩
  · go_wp2_with fail
    refine (HF.out _ (hg0.ext hx0) (ht0.ext hx0)).mono ?_
    rintro e w2 ⟨rfl, hx2⟩
    go_wp2_with fail
    go_ret
    exact ⟨ret_int (by rw [HO.out, if_neg (by omega)]), hx0.step hx2⟩

set_option maxHeartbeats 1000000 in
theorem checkTerm_any (S S' : Nat → Prop) (g : List Int) (t : Tm) (y x : Value) (w : World) (hg : SgV w S' g y) (ht : TmV w S t x) :
    Calls Try.prog 21 #[y, x] w fun e w' => e = .returned (.int .i64 (own g t)) ∧ Ext w w' := by
  have hct := size_any t S x
  have hg0 := hg
  have ht0 := ht
  obtain ⟨ga, gc, rfl, g1, g2, g3⟩ := hg
  obtain ⟨a, cap, rfl, h1, h2, h3⟩ := ht
  have HC := hid hct; clear hct
  have HO := hid (show own g t = if count t 120 > 120 then 2 else form g t from rfl)
  unfold maxLen at g2
  go_enter Try.func21, Try.ntmps21
  go_wp2_with fail
  refine (HC.out _ 120 (ht0.ext (Ext.two _ _ _)) (by omega) (by omega)).mono ?_
  rintro e w1 ⟨rfl, hx1⟩
  have c0 : w1.cell? ⟨w.heap.size + 1, 0, none⟩ = some (.int .i64 t.v) := hx1.boxed2' 0
  have c1 : w1.cell? ⟨w.heap.size + 1, 1, none⟩ = some (.int .i64 t.f) := hx1.boxed2' 1
  have c2 : w1.cell? ⟨w.heap.size + 1, 2, none⟩ = some (.slice a t.us.length cap) := hx1.boxed2' 2
  have hx0 := (Ext.two _ _ _).step hx1
  have HP := hid (count_parts t 120 (by omega))
  generalize hq : count t 120 = q at *
  clear hq
  by_cases hgt : 120 < q
  · go_wp2_with fail
    go_ret
    exact ⟨ret_int (by rw [HO.out, if_pos hgt]), hx0⟩
  · have HO' := hid (show own g t = formAll g (parts t) by rw [HO.out, if_neg (by omega), formAll_parts])
    have hlen : (parts t).length ≤ 120 := by have := HP.out (by omega); omega
    go_wp2_with fail
    have hxt : TmV w1 (fun b => S b ∧ b < w1.heap.size) t (.agg #[.int .i64 t.v, .int .i64 t.f, .slice a t.us.length cap]) := (ht0.ext hx0).wide fun b hb hl => ⟨hb, hl⟩
    refine (parts_any t _ w1.heap.size [] _ _ w1 (OwnT.nil_ _ _ _) hxt (Nat.le_refl _) (fun b hb => hb.2) (by simp; omega)).mono ?_
    rintro e w2 ⟨v', rfl, hv, hgr, _⟩
    have hx2 : Ext w1 w2 := ⟨hgr.os, hgr.tape, hgr.output, hgr.size, fun k hk => hgr.block k hk (by simp [Value.ownBlock])⟩
    obtain ⟨pa, pc, rfl, p1, p2, p3⟩ := hv.slTV
    rw [List.nil_append] at p1 p3 ⊢
    clear hv hgr
    unfold maxLen at p2
    generalize hl : parts t = l at *
    clear hl
    have hx3 := hx1.step hx2
    go_wp2_with fail
    go_loopw [6] (fun i wr => ∃ k : Nat, k ≤ l.length ∧ i = .int .i64 k ∧ formAll g (l.drop k) = formAll g l ∧ Ext w2 wr) (fun i _ => l.length - (intOf i).toNat)
    case atStart => exact ⟨0, by omega, rfl, rfl, Ext.rfl' _⟩
    case round =>
      obtain ⟨k, hk, rfl, hfa, hx⟩ := hrel
      have HFA := hid hfa; clear hfa
      have hx4 := hx3.step hx
      have b0 : wr.cell? ⟨w.heap.size, 0, none⟩ = some (.slice ga g.length gc) := hx4.boxed2 0
      obtain ⟨hz0, hz1⟩ := hx4.sz2
      have hxw := hx0.step (hx2.step hx)
      by_cases hlt : k < l.length
      · obtain ⟨b, o, rfl⟩ := p3.some_ (by omega)
        obtain ⟨_, d1, d2, a1, cap1, d3, l1, l2, s1⟩ := SlT.readAt (p3.ext hx) hlt
        have HG := hid (fun h => formAll_go (g := g) hlt h)
        have HS := hid (fun h => formAll_stop (g := g) hlt h)
        generalize l[k] = u at *
        unfold maxLen at l2
        by_cases hv : u.v = 0
        · have hv0 : (u.v != 0) = false := by simpa using hv
          by_cases hf0 : 0 ≤ u.f ∧ u.f < g.length
          · obtain ⟨f1, f2⟩ := hf0
            obtain ⟨b', o', rfl⟩ := g3.some_ (by omega)
            obtain ⟨_, hb, hgc⟩ := (g3.ext hxw).at_ (i := u.f.toNat) (by omega)
            have hgc' : wr.cell? ⟨b', o' + u.f.toNat, none⟩ = some (.int .i64 g[u.f.toNat]) := by simpa using hgc
            clear hgc
            have hbt : btw u.f 0 (g.length - 1) = true := by simp [btw]; omega
            have HG1 := hid (show formOne g u.v u.f u.us.length = if (u.us.length : Int) ≠ g[u.f.toNat] then 1 else 0 by
              rw [formOne, if_neg (by simpa using hv), if_neg (by omega), getD_at (by omega)])
            generalize g[u.f.toNat] = gn at *
            clear hv
            go_wp2_with (go_at_call 80; refine (between_any _ _ _ _).mono ?_; rintro e w' ⟨rfl, rfl⟩)
            go_quiet (fail)
            by_cases hne : (u.us.length : Int) = gn
            · have hne' : ((u.us.length : Int) != gn) = false := by simpa using hne
              have HZ := hid (show formOne g u.v u.f u.us.length = 0 by rw [HG1.out, if_neg (by simpa using hne)])
              clear hne
              go_wp2_with fail
              go_roundw
              case rel => exact ⟨k + 1, by omega, by go_num, by rw [← HG.out HZ.out]; exact HFA.out, (hx.new _).draws _⟩
              case measure => simp [intOf]; omega
            · have hne' : ((u.us.length : Int) != gn) = true := by simpa using hne
              have HZ := hid (show own g t = 1 by rw [HO'.out, ← HFA.out, HS.out (by rw [HG1.out, if_pos hne]; omega), HG1.out, if_pos hne])
              clear hne
              go_wp2_with fail
              go_ret
              exact ⟨ret_int HZ.out.symm, (hxw.new _).draws _⟩
          · have hbt : btw u.f 0 (g.length - 1) = false := by simp [btw]; omega
            have h5 : formOne g u.v u.f u.us.length = 5 := by rw [formOne, if_neg (by simpa using hv), if_pos (by omega)]
            have HZ := hid (show own g t = 5 by rw [HO'.out, ← HFA.out, HS.out (by omega), h5])
            clear h5 hf0
            go_wp2_with (go_at_call 80; refine (between_any _ _ _ _).mono ?_; rintro e w' ⟨rfl, rfl⟩)
            go_ret
            exact ⟨ret_int HZ.out.symm, hxw.new _⟩
        · have hv0 : (u.v != 0) = true := by simpa using hv
          by_cases hb1 : 1 ≤ u.v ∧ u.v ≤ 1000
          · have hbt : btw u.v 1 1000 = true := by simp [btw]; omega
            by_cases h3 : 0 < u.us.length
            · have h5 : formOne g u.v u.f u.us.length = 1 := by rw [formOne, if_pos hv, if_neg (by omega), if_pos (by omega)]
              have HZ := hid (show own g t = 1 by rw [HO'.out, ← HFA.out, HS.out (by omega), h5])
              clear h5 hb1
              go_wp2_with (go_at_call 80; refine (between_any _ _ _ _).mono ?_; rintro e w' ⟨rfl, rfl⟩)
              go_ret
              exact ⟨ret_int HZ.out.symm, hxw.new _⟩
            · by_cases h4 : u.f = 0
              · have h5 : formOne g u.v u.f u.us.length = 0 := by rw [formOne, if_pos hv, if_neg (by omega), if_neg (by omega)]
                have HZ := hid h5
                have h4' : (u.f != 0) = false := by simpa using h4
                clear h5 hb1 h4
                go_wp2_with (go_at_call 80; refine (between_any _ _ _ _).mono ?_; rintro e w' ⟨rfl, rfl⟩)
                go_roundw
                case rel => exact ⟨k + 1, by omega, by go_num, by rw [← HG.out HZ.out]; exact HFA.out, hx.new _⟩
                case measure => simp [intOf]; omega
              · have h5 : formOne g u.v u.f u.us.length = 1 := by rw [formOne, if_pos hv, if_neg (by omega), if_pos (by omega)]
                have HZ := hid (show own g t = 1 by rw [HO'.out, ← HFA.out, HS.out (by omega), h5])
                have h4' : (u.f != 0) = true := by simpa using h4
                clear h5 hb1 h4
                go_wp2_with (go_at_call 80; refine (between_any _ _ _ _).mono ?_; rintro e w' ⟨rfl, rfl⟩)
                go_ret
                exact ⟨ret_int HZ.out.symm, hxw.new _⟩
          · have hbt : btw u.v 1 1000 = false := by simp [btw]; omega
            have h5 : formOne g u.v u.f u.us.length = 3 := by rw [formOne, if_pos hv, if_pos (by omega)]
            have HZ := hid (show own g t = 3 by rw [HO'.out, ← HFA.out, HS.out (by omega), h5])
            clear h5 hb1
            go_wp2_with (go_at_call 80; refine (between_any _ _ _ _).mono ?_; rintro e w' ⟨rfl, rfl⟩)
            go_ret
            exact ⟨ret_int HZ.out.symm, hxw.new _⟩
      · obtain rfl : k = l.length := by omega
        have HN := hid (show own g t = 0 by rw [HO'.out, ← HFA.out, List.drop_length, formAll])
        go_wp2_with fail
        go_ret
        exact ⟨ret_int HN.out.symm, hxw⟩
end Go.Proofs.Ytmeekpinkfpnhaa

namespace Go.Proofs.Ytmeekpinkfpnhaa
open Go.RowKit

set_option maxHeartbeats 1000000 in
theorem all_any (S S' : Nat → Prop) (g : List Int) (l : List Tm) (y x : Value) (w : World) (hg : SgV w S' g y) (hl : SlTV w S l x) :
    Calls Try.prog 61 #[y, x] w fun e w' => e = .returned (.int .i64 (allOk g l)) ∧ Ext w w' := by
  have hg0 := hg
  obtain ⟨ga, gc, rfl, g1, g2, g3⟩ := hg
  obtain ⟨a, cap, rfl, h1, h2, h3⟩ := hl
  unfold maxLen at h2
  have HG := hid hg0; clear hg0
  have HA := hid (show allOk g l = if sigOk g ≠ 0 then sigOk g else ownL g l from rfl)
  go_enter Try.func61, Try.ntmps61
  go_wp2_with fail
  refine (signature_any S' g _ _ (HG.out.ext (Ext.one _ _))).mono ?_
  rintro e w1 ⟨rfl, hx1⟩
  have hx0 := (Ext.one _ _).step hx1
  generalize sigOk g = q at *
  by_cases hq : q = 0
  · subst hq
    go_wp2_with fail
    go_loopw [16] (fun i wr => ∃ k : Nat, k ≤ l.length ∧ i = .int .i64 k ∧ ownL g (l.drop k) = ownL g l ∧ Ext w1 wr) (fun i _ => l.length - (intOf i).toNat)
    case atStart => exact ⟨0, by omega, rfl, rfl, Ext.rfl' _⟩
    case round =>
      obtain ⟨k, hk, rfl, hc, hx⟩ := hrel
      have HC := hid hc; clear hc
      have b0 : wr.cell? ⟨w.heap.size, 0, none⟩ = some (.slice ga g.length gc) := (hx1.step hx).boxed 0
      have hz0 := (hx1.step hx).sz1
      have hxw := hx0.step hx
      by_cases hlt : k < l.length
      · obtain ⟨b, o, rfl⟩ := h3.some_ (by omega)
        obtain ⟨hb, d1, d2, a1, cap1, d3, l1, l2, s1⟩ := SlT.readAt (h3.ext hxw) hlt
        have hfl := hid (show ownL g (l.drop k) = if own g l[k] ≠ 0 then own g l[k] else ownL g (l.drop (k + 1)) by rw [List.drop_eq_getElem_cons hlt, ownL])
        go_wp2_with fail
        refine (own_any S S' g l[k] _ _ _ (HG.out.ext (hxw.new _)) ⟨a1, cap1, rfl, l1, l2, s1.ext (Ext.one _ _)⟩).mono ?_
        rintro e w' ⟨rfl, hx'⟩
        generalize own g l[k] = q at *
        by_cases hq0 : q = 0
        · subst hq0
          go_wp2_with fail
          go_roundw
          case rel => exact ⟨k + 1, by omega, by go_num, by rw [← HC.out, hfl.out]; rfl, (hx.new _).step hx'⟩
          case measure => simp [intOf]; omega
        · have hq1 : (q != 0) = true := by simpa using hq0
          go_wp2_with fail
          go_ret
          refine ⟨ret_int ?_, (hxw.new _).step hx'⟩
          rw [HA.out, if_neg (by simp), ← HC.out, hfl.out, if_pos hq0]
      · obtain rfl : k = l.length := by omega
        go_wp2_with fail
        go_ret
        refine ⟨ret_int ?_, hxw⟩
        rw [HA.out, if_neg (by simp), ← HC.out, List.drop_length, ownL]
  · have hq1 : (q != 0) = true := by simpa using hq
    go_wp2_with fail
    go_ret
    exact ⟨ret_int (by rw [HA.out, if_pos hq]), hx0⟩

set_option maxHeartbeats 1000000 in
theorem checkSig_any (S : Nat → Prop) (g : List Int) (y : Value) (w : World) (hg : SgV w S g y) : Calls Try.prog 54 #[y] w fun e w' => e = .returned (.int .i64 (sigOk g)) ∧ Ext w w' := by
  obtain ⟨a, cap, rfl, h1, h2, h3⟩ := hg
  unfold maxLen at h2
  by_cases h12 : 12 < g.length
  · go_enter Try.func54, Try.ntmps54
    go_wp2_with fail
    go_ret
    exact ⟨ret_int (by rw [sigOk, if_pos h12]), Ext.one _ _⟩
  · have HS := hid (show sigOk g = if g.any (fun n => decide (n < 0) || decide (n > 3)) then 3 else 0 by rw [sigOk, if_neg h12])
    go_enter Try.func54, Try.ntmps54
    go_wp2_with fail
    go_loopw [3] (fun i wr => ∃ k : Nat, k ≤ g.length ∧ i = .int .i64 k ∧ (g.take k).any (fun n => decide (n < 0) || decide (n > 3)) = false ∧ Ext (w.alloc (.cells #[.slice a g.length cap] 24)) wr) (fun i _ => g.length - (intOf i).toNat)
    case atStart => exact ⟨0, by omega, rfl, by simp, Ext.rfl' _⟩
    case round =>
      obtain ⟨k, hk, rfl, hc, hx⟩ := hrel
      have HC := hid hc; clear hc
      have b0 : wr.cell? ⟨w.heap.size, 0, none⟩ = some (.slice a g.length cap) := hx.boxed 0
      have hxw := (Ext.one _ _).step hx
      by_cases hlt : k < g.length
      · obtain ⟨b, o, rfl⟩ := h3.some_ (by omega)
        obtain ⟨_, _, hc⟩ := (h3.ext hxw).at_ hlt
        have hc : wr.cell? ⟨b, o + k, none⟩ = some (.int .i64 g[k]) := by simpa using hc
        have HY := hid (show btw g[k] 0 3 = false → g.any (fun n => decide (n < 0) || decide (n > 3)) = true from fun h => List.any_eq_true.2 ⟨g[k], List.getElem_mem hlt, by simp [btw] at h ⊢; omega⟩)
        have HZ := hid (fun h => any_take_succ hlt HC.out (p := fun n => decide (n < 0) || decide (n > 3)) h)
        have HN := hid (show btw g[k] 0 3 = true → (decide (g[k] < 0) || decide (g[k] > 3)) = false from fun h => by simp [btw] at h ⊢; omega)
        generalize g[k] = n at *
        cases hq : btw n 0 3
        · go_wp2_with (go_at_call 80; refine (between_any _ _ _ _).mono ?_; rintro e w' ⟨rfl, rfl⟩)
          go_ret
          exact ⟨ret_int (by rw [HS.out, HY.out hq]; rfl), hxw⟩
        · go_wp2_with (go_at_call 80; refine (between_any _ _ _ _).mono ?_; rintro e w' ⟨rfl, rfl⟩)
          go_roundw
          case rel => exact ⟨k + 1, by omega, by go_num, HZ.out (HN.out hq), hx⟩
          case measure => simp [intOf]; omega
      · obtain rfl : k = g.length := by omega
        have hn := HC.out
        rw [List.take_length] at hn
        have HN := hid (show sigOk g = 0 by rw [HS.out, hn]; rfl)
        clear hn
        go_wp2_with fail
        go_ret
        exact ⟨ret_int HN.out.symm, hxw⟩

set_option maxRecDepth 100000 in
set_option maxHeartbeats 1000000 in
theorem checkTerms_any (S S' : Nat → Prop) (g : List Int) (l : List Tm) (y x : Value) (w : World) (hg : SgV w S' g y) (hl : SlTV w S l x) :
    Calls Try.prog 15 #[y, x] w fun e w' => e = .returned (.int .i64 (allOk g l)) ∧ Ext w w' := by
  have hg0 := hg
  obtain ⟨ga, gc, rfl, g1, g2, g3⟩ := hg
  obtain ⟨a, cap, rfl, h1, h2, h3⟩ := hl
  unfold maxLen at h2
  have HG := hid hg0; clear hg0
  have HA := hid (show allOk g l = if sigOk g ≠ 0 then sigOk g else ownL g l from rfl)
  go_enter Try.func15, Try.ntmps15
  go_wp2_with fail
  refine (checkSig_any S' g _ _ (HG.out.ext (Ext.one _ _))).mono ?_
  rintro e w1 ⟨rfl, hx1⟩
  have hx0 := (Ext.one _ _).step hx1
  go_wp2_with fail
  go_loopw [5, 6] (fun v i wr => ∃ (k : Nat) (q : Int), k ≤ l.length ∧ i = .int .i64 k ∧ v = .int .i64 q ∧ (if q ≠ 0 then q else ownL g (l.drop k)) = allOk g l ∧ Ext w1 wr) (fun _ i _ => l.length - (intOf i).toNat)
  case atStart => exact ⟨0, sigOk g, by omega, rfl, rfl, HA.out.symm, Ext.rfl' _⟩
  case round =>
    obtain ⟨k, q, hk, rfl, rfl, hc, hx⟩ := hrel
    have HC := hid hc; clear hc
    have b0 : wr.cell? ⟨w.heap.size, 0, none⟩ = some (.slice ga g.length gc) := (hx1.step hx).boxed 0
    have hxw := hx0.step hx
    by_cases hlt : k < l.length
    · by_cases hq : q = 0
      · subst hq
        obtain ⟨b, o, rfl⟩ := h3.some_ (by omega)
        obtain ⟨hb, d1, d2, a1, cap1, d3, l1, l2, s1⟩ := SlT.readAt (h3.ext hxw) hlt
        have hfl := hid (show ownL g (l.drop k) = if own g l[k] ≠ 0 then own g l[k] else ownL g (l.drop (k + 1)) by rw [List.drop_eq_getElem_cons hlt, ownL])
        have q1 : (0 : Int) ≤ (k : Int) := by omega
        have q2 : (k : Int) < (l.length : Int) := by omega
        go_wp2_with fail
        refine wp_region_mild (by kernel_rfl) (by kernel_rfl) ?_
        intro I _ W hE hC
        have f1 := mild_cell hE b0
        have f2 := mild_cell hE d1
        have f3 := mild_cell hE d2
        have f4 := mild_cell hE d3
        repeat (go_big_quiet_step ((refine mild_call hE hC (checkTerm_any S S' g l[k] _ _ _ (HG.out.ext (hxw.step (hE _))) ⟨a1, cap1, rfl, l1, l2, s1.ext (hE _)⟩))))
        refine wpQuiet_nil ?_
        intro _ hw'
        obtain ⟨i, hw''⟩ := hw'
        subst hw''
        go_wp2_with fail
        go_roundw
        case rel => exact ⟨k + 1, own g l[k], by omega, by go_num, rfl, by rw [← HC.out, hfl.out]; simp, hx.step (hE i)⟩
        case measure => simp [intOf]; omega
      · have hq1 : (q == 0) = false := by simpa using hq
        go_wp2_with fail
        go_ret
        exact ⟨ret_int (by rw [← HC.out, if_pos hq]), hxw⟩
    · obtain rfl : k = l.length := by omega
      go_wp2_with fail
      go_ret
      refine ⟨ret_int ?_, hxw⟩
      rw [← HC.out, List.drop_length, ownL]
      split <;> omega
end Go.Proofs.Ytmeekpinkfpnhaa

namespace Go.Proofs.Ytmeekpinkfpnhaa
open Go.RowKit

/-- How slices.EqualFunc of terms ends: J: they are not alike; I n: they are. -/
def EqPost (I J : World → Prop) (e : Ending) (w' : World) : Prop := ∃ r : Bool, e = .returned (.bool r) ∧ (r = true → I w') ∧ (r = false → J w')

set_option maxRecDepth 10000 in
set_option maxHeartbeats 400000 in
/-- slices.EqualFunc of terms, the function value one that goes from I i to I (i + 1), or says no. -/
theorem equalT_any (S S' : Nat → Prop) (xs ys : List Tm) (hlen : xs.length = ys.length) (a a' : Option Addr) (cap cap' fk : Nat) (caps : Array Value) (w : World) (I : Nat → World → Prop) (J : World → Prop)
    (hc1 : xs.length ≤ cap) (hc2 : cap ≤ maxLen) (_hc1' : ys.length ≤ cap') (_hc2' : cap' ≤ maxLen)
    (hI : ∀ i wr, I i wr → SlT wr S xs a ∧ SlT wr S' ys a') (hA : ∀ i wr o, I i wr → I i (wr.alloc o)) (h0 : I 0 w)
    (hfk : ∀ args w, Sem.run Try.prog (callFunc fk args) w = .ok (.enter fk args) w)
    (hf : ∀ i (h : i < xs.length) (h' : i < ys.length) (wr : World) (x y : Value), I i wr → TmV wr S xs[i] x → TmV wr S' ys[i] y → Calls Try.prog fk (#[x, y] ++ caps) wr (EqPost (I (i + 1)) J)) :
    Calls Try.prog 138 #[.slice a xs.length cap, .slice a' ys.length cap', .func (.func fk) #[] caps] w (EqPost (I xs.length) J) := by
  unfold maxLen at hc2
  have HF := hid hf; clear hf
  have HI := hid hI; clear hI
  have HA := hid hA; clear hA
  have hne : ((xs.length : Int) != ys.length) = false := by simp [hlen]
  have HL := hid hlen; clear hlen
  have H0 := hid h0; clear h0
  go_enter Try.func138, Try.ntmps138
  go_wp2_with fail
  clear hne
  go_loopw [17] (fun i wr => ∃ k : Nat, k ≤ xs.length ∧ i = .int .i64 k ∧ Hid (I k wr)) (fun i _ => xs.length - (intOf i).toNat)
  case atStart => exact ⟨0, by omega, rfl, H0.out⟩
  case round =>
    obtain ⟨k, hk, rfl, hi⟩ := hrel
    obtain ⟨h1, h2⟩ := HI.out k wr hi.out
    by_cases hlt : k < xs.length
    · have hlt' : k < ys.length := by have := HL.out; omega
      obtain ⟨b, o, rfl⟩ := h1.some_ (by omega)
      obtain ⟨b', o', rfl⟩ := h2.some_ (by omega)
      obtain ⟨hz, d1, d2, a1, cap1, d3, l1, l2, s1⟩ := SlT.readAt h1 hlt
      obtain ⟨hz', d1', d2', a1', cap1', d3', l1', l2', s1'⟩ := SlT.readAt h2 hlt'
      go_wp2_with fail
      refine (HF.out k hlt hlt' _ _ _ (HA.out _ _ _ (HA.out _ _ _ hi.out)) ⟨a1, cap1, rfl, l1, l2, s1.ext (Ext.two _ _ _)⟩ ⟨a1', cap1', rfl, l1', l2', s1'.ext (Ext.two _ _ _)⟩).mono ?_
      rintro e w' ⟨r, rfl, hr1, hr2⟩
      have HR1 := hid hr1; clear hr1
      have HR2 := hid hr2; clear hr2
      cases r
      · go_wp2_with fail
        go_ret
        exact ⟨false, rfl, fun h => by simp at h, fun _ => HR2.out trivial⟩
      · go_wp2_with fail
        go_roundw
        case rel => exact ⟨k + 1, by omega, by go_num, HR1.out trivial⟩
        case measure => simp [intOf]; omega
    · obtain rfl : k = xs.length := by omega
      go_wp2_with fail
      go_ret
      exact ⟨true, rfl, fun _ => hi.out, fun h => by simp at h⟩

set_option maxHeartbeats 400000 in
theorem equalT_no (xs ys : List Tm) (hlen : xs.length ≠ ys.length) (a a' : Option Addr) (cap cap' : Nat) (fv : Value) (w : World) :
    Calls Try.prog 138 #[.slice a xs.length cap, .slice a' ys.length cap', fv] w fun e w' => e = .returned (.bool false) ∧ w = w' := by
  have hne : ((xs.length : Int) != ys.length) = true := by simp; omega
  clear hlen
  go_enter Try.func138, Try.ntmps138
  go_wp2_with fail
  go_ret
  exact ⟨rfl, rfl⟩

theorem same_enter (args : Array Value) (w : World) : Sem.run Try.prog (callFunc 116 args) w = .ok (.enter 116 args) w := by
  go_simp

def SameSpec (t : Tm) : Prop := ∀ (S S' : Nat → Prop) (u : Tm) (x y : Value) (w : World), TmV w S t x → TmV w S' u y →
    Calls Try.prog 116 #[x, y] w fun e w' => e = .returned (.bool (same t u)) ∧ Ext w w'

set_option maxHeartbeats 400000 in
theorem same_step (t : Tm) (ih : ∀ u ∈ t.us, SameSpec u) : SameSpec t := by
  rintro S S' u x y w ⟨a, cap, rfl, h1, h2, h3⟩ ⟨a', cap', rfl, h1', h2', h3'⟩
  have HE := hid (same_eq t u)
  by_cases hv : t.v = u.v
  · have hv' : (t.v == u.v) = true := by simpa using hv
    clear hv
    by_cases hf : t.f = u.f
    · have hf' : (t.f == u.f) = true := by simpa using hf
      clear hf
      by_cases hl : t.us.length = u.us.length
      · have HL := hid hl; clear hl
        go_enter Try.func116, Try.ntmps116
        go_wp2_with fail
        refine (equalT_any S S' t.us u.us HL.out a a' cap cap' 116 #[] _ (fun i wr => Ext w wr ∧ sameL (t.us.take i) (u.us.take i) = true) (fun wr => Ext w wr ∧ sameL t.us u.us = false) h1 h2 h1' h2'
          (fun i wr h => ⟨h3.ext h.1, h3'.ext h.1⟩) (fun i wr o h => ⟨h.1.new _, h.2⟩) ⟨Ext.two _ _ _, rfl⟩ same_enter ?hf).mono ?_
        case hf =>
          intro i hi hi' wr x y hw hx hy
          refine (ih _ (List.getElem_mem hi) S S' _ x y wr hx hy).mono ?_
          rintro e w' ⟨rfl, hx'⟩
          refine ⟨_, rfl, fun h => ⟨hw.1.step hx', ?_⟩, fun h => ⟨hw.1.step hx', ?_⟩⟩
          · exact sameL_take hi hi' hw.2 h
          · exact sameL_not hi hi' h
        rintro e w' ⟨r, rfl, hr1, hr2⟩
        have HR1 := hid hr1; clear hr1
        have HR2 := hid hr2; clear hr2
        clear ih
        cases r
        · go_wp2_with fail
          go_ret
          obtain ⟨hx, hn⟩ := HR2.out trivial
          exact ⟨ret_bool (by rw [HE.out, hn]; simp), hx⟩
        · go_wp2_with fail
          go_ret
          obtain ⟨hx, hn⟩ := HR1.out trivial
          rw [HL.out, List.take_length, ← HL.out, List.take_length] at hn
          exact ⟨ret_bool (by rw [HE.out, hn, hv', hf']; rfl), hx⟩
      · go_enter Try.func116, Try.ntmps116
        go_wp2_with fail
        refine (equalT_no t.us u.us hl a a' cap cap' _ _).mono ?_
        rintro e w' ⟨rfl, rfl⟩
        have HN := hid (show sameL t.us u.us = false from sameL_len hl)
        clear hl ih
        go_wp2_with fail
        go_ret
        exact ⟨ret_bool (by rw [HE.out, HN.out]; simp), Ext.two _ _ _⟩
    · have hf' : (t.f == u.f) = false := by simpa using hf
      clear hf ih
      go_enter Try.func116, Try.ntmps116
      go_wp2_with fail
      go_ret
      exact ⟨ret_bool (by rw [HE.out, hf']; simp), Ext.two _ _ _⟩
  · have hv' : (t.v == u.v) = false := by simpa using hv
    clear hv ih
    go_enter Try.func116, Try.ntmps116
    go_wp2_with fail
    go_ret
    exact ⟨ret_bool (by rw [HE.out, hv']; simp), Ext.two _ _ _⟩
theorem same_any (t : Tm) : SameSpec t := Tm.ind same_step t
end Go.Proofs.Ytmeekpinkfpnhaa

namespace Go.Proofs.Ytmeekpinkfpnhaa
open Go.RowKit

def SameRSpec (t : Tm) : Prop := ∀ (S S' : Nat → Prop) (u : Tm) (x y : Value) (w : World), TmV w S t x → TmV w S' u y →
    Calls Try.prog 47 #[x, y] w fun e w' => e = .returned (.bool (same t u)) ∧ Ext w w'

set_option maxRecDepth 100000 in
set_option maxHeartbeats 1000000 in
theorem sameR_step (t : Tm) (ih : ∀ u ∈ t.us, SameRSpec u) : SameRSpec t := by
  rintro S S' u x y w ⟨a, cap, rfl, h1, h2, h3⟩ ⟨a', cap', rfl, h1', h2', h3'⟩
  have HE := hid (same_eq t u)
  unfold maxLen at h2 h2'
  by_cases hv : t.v = u.v
  · have hv' : (t.v != u.v) = false := by simpa using hv
    by_cases hf : t.f = u.f
    · have hf' : (t.f != u.f) = false := by simpa using hf
      by_cases hl : t.us.length = u.us.length
      · have hl' : ((t.us.length : Int) != u.us.length) = false := by simp [hl]
        have HL := hid hl; clear hl
        have HV := hid (show same t u = sameL t.us u.us by rw [HE.out, hv, hf]; simp)
        clear hv hf
        go_enter Try.func47, Try.ntmps47
        go_wp2_with fail
        go_loopw [5] (fun i wr => ∃ k : Nat, k ≤ t.us.length ∧ i = .int .i64 k ∧ sameL (t.us.take k) (u.us.take k) = true ∧ Ext ((w.alloc (.cells #[.int .i64 t.v, .int .i64 t.f, .slice a t.us.length cap] 27)).alloc (.cells #[.int .i64 u.v, .int .i64 u.f, .slice a' u.us.length cap'] 27)) wr) (fun i _ => t.us.length - (intOf i).toNat)
        case atStart => exact ⟨0, by omega, rfl, rfl, Ext.rfl' _⟩
        case round =>
          obtain ⟨k, hk, rfl, hs, hx⟩ := hrel
          have HS := hid hs; clear hs
          have hx0 := (Ext.two _ _ _).step hx
          have b2 : wr.cell? ⟨w.heap.size, 2, none⟩ = some (.slice a t.us.length cap) := hx.boxed2 2
          have c2 : wr.cell? ⟨w.heap.size + 1, 2, none⟩ = some (.slice a' u.us.length cap') := hx.boxed2' 2
          by_cases hlt : k < t.us.length
          · have hlt' : k < u.us.length := by have := HL.out; omega
            obtain ⟨b, o, rfl⟩ := h3.some_ (by omega)
            obtain ⟨b', o', rfl⟩ := h3'.some_ (by omega)
            obtain ⟨hz, d0, d1, a1, cap1, d2, l1, l2, s1⟩ := SlT.readAt (h3.ext hx0) hlt
            obtain ⟨hz', d0', d1', a1', cap1', d2', l1', l2', s1'⟩ := SlT.readAt (h3'.ext hx0) hlt'
            have IH := hid (ih _ (List.getElem_mem hlt)); clear ih
            have q1 : (0 : Int) ≤ (k : Int) := by omega
            have q2 : (k : Int) < (t.us.length : Int) := by omega
            have q3 : (k : Int) < (u.us.length : Int) := by omega
            go_wp2_with fail
            refine wp_region_mild (by kernel_rfl) (by kernel_rfl) ?_
            intro I _ W hE hC
            have f1 := mild_cell hE b2
            have f2 := mild_cell hE c2
            have f3 := mild_cell hE d0
            have f4 := mild_cell hE d1
            have f5 := mild_cell hE d2
            have f6 := mild_cell hE d0'
            have f7 := mild_cell hE d1'
            have f8 := mild_cell hE d2'
            repeat (go_big_quiet_step ((refine mild_call hE hC (IH.out S S' _ _ _ _ ⟨a1, cap1, rfl, l1, l2, s1.ext (hE _)⟩ ⟨a1', cap1', rfl, l1', l2', s1'.ext (hE _)⟩))))
            refine wpQuiet_nil ?_
            intro _ hw'
            obtain ⟨i, hw''⟩ := hw'
            subst hw''
            have hxi := hx.step (hE i)
            have HS1 := hid (fun h => sameL_take hlt hlt' HS.out h)
            have HS2 := hid (fun h => sameL_not hlt hlt' h)
            generalize same t.us[k] u.us[k] = q at *
            cases q
            · go_wp2_with fail
              go_ret
              exact ⟨ret_bool (by rw [HV.out, HS2.out (by simp)]), (Ext.two _ _ _).step hxi⟩
            · go_wp2_with fail
              go_roundw
              case rel => exact ⟨k + 1, by omega, by go_num, HS1.out (by simp), hxi⟩
              case measure => simp [intOf]; omega
          · obtain rfl : k = t.us.length := by omega
            go_wp2_with fail
            go_ret
            have hs := HS.out
            rw [List.take_length, HL.out, List.take_length] at hs
            exact ⟨ret_bool (by rw [HV.out, hs]), hx0⟩
      · have hl' : ((t.us.length : Int) != u.us.length) = true := by simp; omega
        have HN := hid (show same t u = false by rw [HE.out, sameL_len hl]; simp)
        clear ih hl hv hf
        go_enter Try.func47, Try.ntmps47
        go_wp2_with fail
        go_ret
        exact ⟨ret_bool HN.out.symm, Ext.two _ _ _⟩
    · have hf' : (t.f != u.f) = true := by simpa using hf
      have HN := hid (show same t u = false by rw [HE.out]; simp [hf])
      clear ih hv hf
      go_enter Try.func47, Try.ntmps47
      go_wp2_with fail
      go_ret
      exact ⟨ret_bool HN.out.symm, Ext.two _ _ _⟩
  · have hv' : (t.v != u.v) = true := by simpa using hv
    have HN := hid (show same t u = false by rw [HE.out]; simp [hv])
    clear ih hv
    go_enter Try.func47, Try.ntmps47
    go_wp2_with fail
    go_ret
    exact ⟨ret_bool HN.out.symm, Ext.two _ _ _⟩
theorem sameR_any (t : Tm) : SameRSpec t := Tm.ind sameR_step t
end Go.Proofs.Ytmeekpinkfpnhaa

namespace Go.Proofs.Ytmeekpinkfpnhaa

abbrev tsz (t : Tm) : Nat := (parts t).length
theorem tsz_pos (t : Tm) : 0 < tsz t := by rw [tsz, parts_eq, List.length_append]; simp
theorem tsz_mem {u : Tm} : ∀ {us : List Tm}, u ∈ us → tsz u ≤ (partsL us).length
  | x :: xs, h => by
    rw [partsL, List.length_append]
    rcases List.mem_cons.1 h with rfl | h
    · simp [tsz]
    · have := tsz_mem h; omega
theorem tsz_lt {u t : Tm} (h : u ∈ t.us) : tsz u < tsz t := by
  have := tsz_mem h
  rw [tsz, tsz, parts_eq t, List.length_append]; simp; exact Nat.lt_succ_of_le this

def lexG (g : Tm → Tm → Bool) : List Tm → List Tm → Bool
  | a :: l, b :: m => if same a b then lexG g l m else g a b
  | _, _ => false
theorem lexG_congr {g g' : Tm → Tm → Bool} : ∀ {l m : List Tm}, (∀ a ∈ l, ∀ b ∈ m, g a b = g' a b) → lexG g l m = lexG g' l m
  | [], _, _ => by cases ‹List Tm› <;> rfl
  | _ :: _, [], _ => rfl
  | a :: l, b :: m, h => by
    rw [lexG, lexG, h a (by simp) b (by simp), lexG_congr fun x hx y hy => h x (by simp [hx]) y (by simp [hy])]

/-- One step of the order. -/
def gtStep (g : Tm → Tm → Bool) (s t : Tm) : Bool :=
  if s.v > 0 then false
  else if s.us.any (fun a => same a t || g a t) then true
  else if t.v > 0 ∨ s.f < t.f ∨ t.us.any (fun b => !g s b) = true then false
  else if s.f > t.f then true
  else lexG g s.us t.us
theorem gtStep_congr {g g' : Tm → Tm → Bool} {s t : Tm} (h1 : ∀ a ∈ s.us, g a t = g' a t) (h2 : ∀ b ∈ t.us, g s b = g' s b) (h3 : ∀ a ∈ s.us, ∀ b ∈ t.us, g a b = g' a b) : gtStep g s t = gtStep g' s t := by
  have e1 : s.us.any (fun a => same a t || g a t) = s.us.any (fun a => same a t || g' a t) := by
    rw [Bool.eq_iff_iff, List.any_eq_true, List.any_eq_true]
    exact ⟨fun ⟨a, ha, h⟩ => ⟨a, ha, by rw [← h1 a ha]; exact h⟩, fun ⟨a, ha, h⟩ => ⟨a, ha, by rw [h1 a ha]; exact h⟩⟩
  have e2 : t.us.any (fun b => !g s b) = t.us.any (fun b => !g' s b) := by
    rw [Bool.eq_iff_iff, List.any_eq_true, List.any_eq_true]
    exact ⟨fun ⟨a, ha, h⟩ => ⟨a, ha, by rw [← h2 a ha]; exact h⟩, fun ⟨a, ha, h⟩ => ⟨a, ha, by rw [h2 a ha]; exact h⟩⟩
  unfold gtStep
  rw [e1, e2, lexG_congr h3]
def gtF : Nat → Tm → Tm → Bool
  | 0, _, _ => false
  | n + 1, s, t => gtStep (gtF n) s t
theorem gtF_enough : ∀ (n m : Nat) (s t : Tm), tsz s + tsz t ≤ n → tsz s + tsz t ≤ m → gtF n s t = gtF m s t
  | 0, _, s, t, h, _ => by have := tsz_pos s; omega
  | _ + 1, 0, s, t, _, h => by have := tsz_pos s; omega
  | n + 1, m + 1, s, t, h, h' => by
    rw [gtF, gtF]
    refine gtStep_congr (fun a ha => ?_) (fun b hb => ?_) (fun a ha b hb => ?_)
    · have := tsz_lt ha; exact gtF_enough n m _ _ (by omega) (by omega)
    · have := tsz_lt hb; exact gtF_enough n m _ _ (by omega) (by omega)
    · have := tsz_lt ha; have := tsz_lt hb; exact gtF_enough n m _ _ (by omega) (by omega)
/-- Is s greater than t? -/
def gt (s t : Tm) : Bool := gtF (tsz s + tsz t) s t
theorem gt_eq (s t : Tm) : gt s t = gtStep gt s t := by
  unfold gt
  obtain ⟨n, hn⟩ : ∃ n, tsz s + tsz t = n + 1 := ⟨tsz s + tsz t - 1, by have := tsz_pos s; omega⟩
  rw [hn, gtF]
  refine gtStep_congr (fun a ha => ?_) (fun b hb => ?_) (fun a ha b hb => ?_)
  · have := tsz_lt ha; exact gtF_enough _ _ _ _ (by omega) (by omega)
  · have := tsz_lt hb; exact gtF_enough _ _ _ _ (by omega) (by omega)
  · have := tsz_lt ha; have := tsz_lt hb; exact gtF_enough _ _ _ _ (by omega) (by omega)

/-! ### parts with the numbers of their arguments -/
/-- The numbers at i are those of its arguments, which are ahead of it. -/
def WellN (L : List (Tm × List Int)) (i : Nat) : Prop := ∀ p, L[i]? = some p → p.2.length = p.1.us.length ∧ ∀ (m : Nat) (u : Tm), p.1.us[m]? = some u → ∃ j : Nat, p.2[m]? = some (j : Int) ∧ j < i ∧ (L[j]?).map (·.1) = some u
theorem WellN.more {L M : List (Tm × List Int)} {i : Nat} (hi : i < L.length) (h : WellN L i) : WellN (L ++ M) i := by
  intro p hp
  rw [List.getElem?_append_left hi] at hp
  obtain ⟨h1, h2⟩ := h p hp
  refine ⟨h1, fun m u hu => ?_⟩
  obtain ⟨j, h3, h4, h5⟩ := h2 m u hu
  exact ⟨j, h3, h4, by rw [List.getElem?_append_left (by omega)]; exact h5⟩
theorem pn_last (t : Tm) (n : Nat) : (pn t n)[tsz t - 1]? = some (t, idxs t.us n) := by
  have : tsz t - 1 = (pnL t.us n).length := by rw [pnL_len, tsz, parts_eq, List.length_append]; simp
  rw [this, pn_eq, List.getElem?_append_right (Nat.le_refl _)]
  simp
theorem idxs_at (M : List (Tm × List Int)) : ∀ (us : List Tm) (pre : List (Tm × List Int)) (m : Nat) (u : Tm), us[m]? = some u → ∃ j : Nat, (idxs us pre.length)[m]? = some (j : Int) ∧ j < pre.length + (pnL us pre.length).length ∧ ((pre ++ pnL us pre.length ++ M)[j]?).map (·.1) = some u
  | [], _, m, _, h => by simp at h
  | x :: xs, pre, 0, u, h => by
    simp at h
    subst h
    have hp := tsz_pos x
    refine ⟨pre.length + tsz x - 1, ?_, ?_, ?_⟩
    · simp [idxs, tsz]; unfold tsz at hp; omega
    · rw [pnL, List.length_append, pn_len]; unfold tsz at *; omega
    · rw [pnL, List.append_assoc, List.getElem?_append_right (by omega), List.append_assoc, List.getElem?_append_left (by rw [pn_len]; unfold tsz at *; omega)]
      rw [show pre.length + tsz x - 1 - pre.length = tsz x - 1 by omega, pn_last]
      rfl
  | x :: xs, pre, m + 1, u, h => by
    have h' : xs[m]? = some u := by simpa using h
    obtain ⟨j, h1, h2, h3⟩ := idxs_at M xs (pre ++ pn x pre.length) m u h'
    have e : (pre ++ pn x pre.length).length = pre.length + (parts x).length := by rw [List.length_append, pn_len]
    rw [e] at h1 h2 h3
    refine ⟨j, by simpa [idxs] using h1, by rw [pnL, List.length_append, pn_len]; omega, ?_⟩
    rw [pnL, ← List.append_assoc]
    exact h3
mutual
theorem pn_well : ∀ (t : Tm) (pre : List (Tm × List Int)) (i : Nat), pre.length ≤ i → i < pre.length + tsz t → WellN (pre ++ pn t pre.length) i
  | .mk v f us, pre, i, h1, h2 => by
    rw [tsz, parts, List.length_append] at h2
    simp only [List.length_singleton] at h2
    rw [pn, ← List.append_assoc]
    by_cases hi : i < pre.length + (partsL us).length
    · exact (pnL_well us pre i h1 hi).more (by rw [List.length_append, pnL_len]; exact hi)
    · have he : i = (pre ++ pnL us pre.length).length := by rw [List.length_append, pnL_len]; omega
      intro p hp
      rw [he, List.getElem?_append_right (Nat.le_refl _), Nat.sub_self] at hp
      simp at hp
      subst hp
      refine ⟨by simp [idxs_len, Tm.us], fun m u hu => ?_⟩
      obtain ⟨j, g1, g2, g3⟩ := idxs_at [(Tm.mk v f us, idxs us pre.length)] us pre m u hu
      exact ⟨j, g1, by rw [he, List.length_append]; exact g2, g3⟩
theorem pnL_well : ∀ (us : List Tm) (pre : List (Tm × List Int)) (i : Nat), pre.length ≤ i → i < pre.length + (partsL us).length → WellN (pre ++ pnL us pre.length) i
  | [], pre, i, h1, h2 => by simp [partsL] at h2; omega
  | x :: xs, pre, i, h1, h2 => by
    rw [partsL, List.length_append] at h2
    rw [pnL, ← List.append_assoc]
    have e : (pre ++ pn x pre.length).length = pre.length + (parts x).length := by rw [List.length_append, pn_len]
    by_cases hi : i < pre.length + (parts x).length
    · exact (pn_well x pre i h1 hi).more (by rw [e]; exact hi)
    · have := pnL_well xs (pre ++ pn x pre.length) i (by omega) (by omega)
      rw [e] at this
      exact this
end
theorem pn_well0 (t : Tm) (i : Nat) (h : i < (pn t 0).length) : WellN (pn t 0) i := by
  rw [pn_len] at h
  simpa using pn_well t [] i (Nat.zero_le _) (by simpa [tsz] using h)
end Go.Proofs.Ytmeekpinkfpnhaa

namespace Go.Proofs.Ytmeekpinkfpnhaa
open Go.RowKit

/-- The first entry at a key: which it is, and what it holds. -/
def firstAt {κ : Type} [DecidableEq κ] (k : κ) : List (κ × Value) → Nat → Option (Nat × Value)
  | [], _ => none
  | (k', v) :: m, i => if k = k' then some (i, v) else firstAt k m (i + 1)
def getAt {κ : Type} [DecidableEq κ] (k : κ) : List (κ × Value) → Option Value
  | [] => none
  | (k', v) :: m => if k = k' then some v else getAt k m
/-- What is stored at a key. -/
def putAt {κ : Type} [DecidableEq κ] (k : κ) (v : Value) : List (κ × Value) → List (κ × Value)
  | [] => [(k, v)]
  | (k', v') :: m => if k = k' then (k', v) :: m else (k', v') :: putAt k v m
theorem firstAt_get {κ : Type} [DecidableEq κ] (k : κ) : ∀ (m : List (κ × Value)) (i : Nat), (firstAt k m i).map (·.2) = getAt k m
  | [], _ => rfl
  | (k', v) :: m, i => by
    unfold firstAt getAt
    split
    · rfl
    · exact firstAt_get k m (i + 1)
theorem getAt_put {κ : Type} [DecidableEq κ] (k k' : κ) (v : Value) : ∀ (m : List (κ × Value)), getAt k' (putAt k v m) = if k' = k then some v else getAt k' m
  | [] => by
    unfold putAt getAt
    split <;> simp_all [getAt]
  | (k2, v2) :: m => by
    unfold putAt
    by_cases h : k = k2
    · subst h
      rw [if_pos rfl]
      unfold getAt
      split <;> simp_all
    · rw [if_neg h]
      unfold getAt
      rw [getAt_put k k' v m]
      by_cases h2 : k' = k2
      · subst h2; simp [Ne.symm h]
      · simp [h2]

/-- What is asked of a type of keys. -/
structure KeyOk (P : Program) (kt : TypeId) {κ : Type} [DecidableEq κ] (keyV : κ → Value) : Prop where
  check : ∀ (k : κ) (e : Bool) (w : World), (Instr.checkKey e 10000 kt (keyV k)).run P w = .ok () w
  find : ∀ (k : κ) (es : List MapEntry) (m : List (κ × Value)) (w : World), es.map (fun e => (e.key, e.val)) = m.map (fun p => (keyV p.1, p.2)) → (Instr.findKey kt (keyV k) es).run P w = .ok (firstAt k m 0) w
  bits : ∀ k : κ, Instr.sameBits 10000 (keyV k) (keyV k) = true

set_option maxHeartbeats 1000000 in
theorem keyOk_int {P : Program} {kt : TypeId} (h : P.underlying kt = some (.int .i64)) : KeyOk P kt (fun k : Int => Value.int .i64 k) := by
  refine ⟨fun k e w => ?_, fun k es m w hm => ?_, fun k => ?_⟩
  · have : ∀ d, (Instr.checkKey e (d + 1) kt (.int .i64 k)).run P w = .ok () w := fun d => by simp [Instr.checkKey, run_underlying h]
    obtain ⟨d, hd⟩ : ∃ d, 10000 = d + 1 := ⟨9999, rfl⟩
    rw [hd]; exact this d
  · have hnow : ∀ (es : List MapEntry) (m : List (Int × Value)) (i : Nat), es.map (fun e => (e.key, e.val)) = m.map (fun p => (Value.int .i64 p.1, p.2)) → Instr.findNow (.int .i64) (.int .i64 k) es i = some (firstAt k m i) := by
      intro es
      induction es with
      | nil =>
        intro m i hm
        cases m with
        | nil => rfl
        | cons _ _ => simp at hm
      | cons e es ih =>
        intro m i hm
        cases m with
        | nil => simp at hm
        | cons p m =>
          simp only [List.map_cons, List.cons.injEq, Prod.mk.injEq] at hm
          obtain ⟨⟨h1, h2⟩, h3⟩ := hm
          unfold Instr.findNow firstAt
          rw [h1]
          simp only [Instr.sameNow, if_true]
          by_cases hk : k = p.1
          · have : (k == p.1) = true := by simpa using hk
            rw [this]; simp [h2, hk]
          · have : (k == p.1) = false := by simpa using hk
            rw [this]; simp [hk, ih m (i + 1) h3]
    simp [Instr.findKey, run_underlying h, hnow es m 0 hm]
  · have : ∀ d, Instr.sameBits d (.int .i64 k) (.int .i64 k) = true := fun d => by cases d <;> simp [Instr.sameBits]
    exact this _

set_option maxHeartbeats 1000000 in
theorem keyOk_pair {P : Program} {kt et : TypeId} (h : P.underlying kt = some (.array 2 et)) (h2 : P.underlying et = some (.int .i64)) (hs : (P.info? et).map (·.size) = some 1) :
    KeyOk P kt (fun k : Int × Int => Value.agg #[.int .i64 k.1, .int .i64 k.2]) := by
  have hsz : ∀ w, (sizeOf et).run P w = .ok 1 w := by
    intro w
    obtain ⟨i, hi, hi2⟩ := Option.map_eq_some_iff.1 hs
    simp [sizeOf, typeInfo, hi, hi2]
  have hagg : ∀ w, (isAgg et).run P w = .ok false w := by intro w; simp [isAgg, run_underlying h2]
  refine ⟨fun k e w => ?_, fun k es m w hm => ?_, fun k => ?_⟩
  · have : ∀ d, (Instr.checkKey e (d + 2) kt (.agg #[.int .i64 k.1, .int .i64 k.2])).run P w = .ok () w := fun d => by
      simp [Instr.checkKey, run_underlying h, hsz, part, hagg, run_underlying h2, Std.Legacy.Range.forIn_eq_forIn_range', Std.Legacy.Range.size, List.range', List.forIn_cons]
    obtain ⟨d, hd⟩ : ∃ d, 10000 = d + 2 := ⟨9998, rfl⟩
    rw [hd]; exact this d
  · have heq : ∀ (a b : Int × Int) w, (Op.equal kt (.agg #[.int .i64 a.1, .int .i64 a.2]) (.agg #[.int .i64 b.1, .int .i64 b.2])).run P w = .ok (decide (a = b)) w := by
      intro a b w
      have : ∀ d, (Op.equalIn (d + 2) kt (.agg #[.int .i64 a.1, .int .i64 a.2]) (.agg #[.int .i64 b.1, .int .i64 b.2])).run P w = .ok (decide (a = b)) w := fun d => by
        obtain ⟨a1, a2⟩ := a
        obtain ⟨b1, b2⟩ := b
        by_cases h3 : a1 = b1 <;> by_cases h4 : a2 = b2 <;>
        simp [Op.equalIn, run_underlying h, hsz, part, hagg, run_underlying h2, Std.Legacy.Range.forIn_eq_forIn_range', Std.Legacy.Range.size, List.range', List.forIn_cons, h3, h4]
      obtain ⟨d, hd⟩ : ∃ d, Op.maxDepth = d + 2 := ⟨9998, rfl⟩
      unfold Op.equal
      rw [hd]; exact this d
    have hask : ∀ (es : List MapEntry) (m : List ((Int × Int) × Value)) (i : Nat), es.map (fun e => (e.key, e.val)) = m.map (fun p => (Value.agg #[.int .i64 p.1.1, .int .i64 p.1.2], p.2)) →
        (Instr.findAsking kt (.agg #[.int .i64 k.1, .int .i64 k.2]) es i).run P w = .ok (firstAt k m i) w := by
      intro es
      induction es with
      | nil =>
        intro m i hm
        cases m with
        | nil => rfl
        | cons _ _ => simp at hm
      | cons e es ih =>
        intro m i hm
        cases m with
        | nil => simp at hm
        | cons p m =>
          simp only [List.map_cons, List.cons.injEq, Prod.mk.injEq] at hm
          obtain ⟨⟨h5, h6⟩, h7⟩ := hm
          unfold Instr.findAsking firstAt
          rw [h5]
          simp only [Sem.run_bind, heq, Result.andThen_ok]
          by_cases hk : k = p.1
          · rw [decide_eq_true hk, if_pos hk]; simp [h6]
          · rw [decide_eq_false hk, if_neg hk]; simp [ih m (i + 1) h7]
    cases es with
    | nil =>
      cases m with
      | nil => simp [Instr.findKey, run_underlying h, Instr.findNow, firstAt]
      | cons _ _ => simp at hm
    | cons e es =>
      have h0 := hask (e :: es) m 0 hm
      cases m with
      | nil => simp at hm
      | cons p m =>
        simp only [List.map_cons, List.cons.injEq, Prod.mk.injEq] at hm
        simp [Instr.findKey, run_underlying h, Instr.findNow, hm.1.1, Instr.sameNow, h0]
  · have : ∀ d, Instr.sameBits (d + 1) (.agg #[.int .i64 k.1, .int .i64 k.2]) (.agg #[.int .i64 k.1, .int .i64 k.2]) = true := fun d => by cases d <;> simp [Instr.sameBits]
    obtain ⟨d, hd⟩ : ∃ d, 10000 = d + 1 := ⟨9999, rfl⟩
    rw [hd]; exact this d

section
variable {κ : Type} [DecidableEq κ] {keyV : κ → Value} {P : Program} {kt et T : TypeId} {w w' : World} {b : Nat} {m : List (κ × Value)}
/-- Block b is a map with these keys and values. -/
def MapV (keyV : κ → Value) (w : World) (b : Nat) (m : List (κ × Value)) : Prop :=
  ∃ es clock, w.heap[b]? = some (.map es clock) ∧ es.toList.map (fun e => (e.key, e.val)) = m.map (fun p => (keyV p.1, p.2))
theorem MapV.made (keyV : κ → Value) (w : World) : MapV keyV (w.alloc (.map #[] 0)) w.heap.size [] := ⟨#[], 0, heap_alloc_new w _, rfl⟩
theorem MapV.lt (h : MapV keyV w b m) : b < w.heap.size := by
  obtain ⟨es, clock, hb, _⟩ := h
  exact (Array.getElem?_eq_some_iff.1 hb).1
theorem MapV.ext (h : MapV keyV w b m) (hx : Ext w w') : MapV keyV w' b m := by
  have hl := h.lt
  obtain ⟨es, clock, hb, hm⟩ := h
  exact ⟨es, clock, (hx.block b hl).trans hb, hm⟩
theorem MapV.grown {r : Option Nat} (h : MapV keyV w b m) (hg : w.grownBy w' r) (hr : some b ≠ r) : MapV keyV w' b m := by
  have hl := h.lt
  obtain ⟨es, clock, hb, hm⟩ := h
  exact ⟨es, clock, (hg.block b hl hr).trans hb, hm⟩
/-- 'm[k]' -/
theorem MapV.get (h : MapV keyV w b m) (K : KeyOk P kt keyV) (hT : P.underlying T = some (.map kt et)) {z : Value} (hz : (zeroValue et).run P w = .ok z w) (k : κ) :
    (Instr.lookup T (.map (some b)) (keyV k) false).run P w = .ok ((getAt k m).getD z) w := by
  obtain ⟨es, clock, hb, hm⟩ := h
  have hf := K.find k es.toList m w hm
  have hg := firstAt_get k m 0
  have hgo : (getObj b).run P w = .ok (.map es clock) w := by simp [getObj, Sem.run, hb]
  simp only [Instr.lookup, Sem.run_bind, run_underlying hT, Result.andThen_ok, Sem.run_pure, hgo, K.check, hf]
  cases hq : firstAt k m 0 with
  | none => rw [hq] at hg; simp [← hg, hz]
  | some p => rw [hq] at hg; simp [← hg]
end
end Go.Proofs.Ytmeekpinkfpnhaa

namespace Go.Proofs.Ytmeekpinkfpnhaa
open Go.RowKit

theorem firstAt_some {κ : Type} [DecidableEq κ] {k : κ} {v u : Value} : ∀ (m : List (κ × Value)) (j i : Nat), firstAt k m j = some (i, u) → ∃ d, i = j + d ∧ d < m.length ∧ (∀ p, m[d]? = some p → p.1 = k) ∧ putAt k v m = m.set d (k, v)
  | [], _, _, h => by cases h
  | (k', v') :: m, j, i, h => by
    unfold firstAt at h
    by_cases hk : k = k'
    · subst hk
      rw [if_pos rfl] at h
      cases h
      exact ⟨0, rfl, by simp, by simp, by simp [putAt]⟩
    · rw [if_neg hk] at h
      obtain ⟨d, h1, h2, h3, h4⟩ := firstAt_some (v := v) m (j + 1) i h
      exact ⟨d + 1, by omega, by simpa using h2, by simpa using h3, by simp [putAt, hk, h4]⟩
theorem firstAt_none {κ : Type} [DecidableEq κ] {k : κ} {v : Value} : ∀ (m : List (κ × Value)) (j : Nat), firstAt k m j = none → putAt k v m = m ++ [(k, v)]
  | [], _, _ => rfl
  | (k', v') :: m, j, h => by
    unfold firstAt at h
    by_cases hk : k = k'
    · rw [if_pos hk] at h; cases h
    · rw [if_neg hk] at h
      simp [putAt, hk, firstAt_none m (j + 1) h]

variable {κ : Type} [DecidableEq κ] {keyV : κ → Value} {P : Program} {kt et T : TypeId} {w : World} {b : Nat} {m : List (κ × Value)}

/-- 'm[k] = v' -/
theorem MapV.put (h : MapV keyV w b m) (K : KeyOk P kt keyV) (hT : P.underlying T = some (.map kt et)) (k : κ) (v : Value) :
    ∃ w', (Instr.mapUpdate T (.map (some b)) (keyV k) v).run P w = .ok () w' ∧ MapV keyV w' b (putAt k v m) ∧ w.grownBy w' (some b) := by
  have hlt := h.lt
  obtain ⟨es, clock, hb, hm⟩ := h
  have hf := K.find k es.toList m w hm
  have hgo : (getObj b).run P w = .ok (.map es clock) w := by simp [getObj, Sem.run, hb]
  have hgr : ∀ o, w.grownBy { w with heap := w.heap.setIfInBounds b o } (some b) := fun o =>
    ⟨rfl, rfl, rfl, by simp, fun j _ hj => by
      have : b ≠ j := fun e => hj (by rw [e])
      simp [this]⟩
  have hat : ∀ o, ({ w with heap := w.heap.setIfInBounds b o } : World).heap[b]? = some o := fun o => by simp [hlt]
  cases hq : firstAt k m 0 with
  | none =>
    rw [hq] at hf
    refine ⟨{ w with heap := w.heap.setIfInBounds b (.map (es.push { key := keyV k, val := v, born := clock }) (clock + 1)) }, ?_, ⟨_, _, hat _, ?_⟩, hgr _⟩
    · simp [Instr.mapUpdate, run_underlying hT, hgo, K.check, hf, MapKept.run_setObj_map _ hb]
    · rw [firstAt_none m 0 hq]
      simp [hm]
  | some p =>
    obtain ⟨i, u⟩ := p
    rw [hq] at hf
    obtain ⟨d, h1, h2, h3, h4⟩ := firstAt_some (v := v) m 0 i hq
    obtain rfl : i = d := by omega
    have hes : es.size = m.length := by have := congrArg List.length hm; simpa using this
    have hkey : ((es[i]?).map (·.key)).getD (keyV k) = keyV k := by
      have h5 := congrArg (fun l => l[i]?) hm
      simp only [List.getElem?_map, Array.getElem?_toList] at h5
      have h6 : m[i]? = some m[i] := List.getElem?_eq_getElem h2
      rw [h6] at h5
      have h7 := h3 _ h6
      rw [Array.getElem?_eq_getElem (by omega)] at h5 ⊢
      simp only [Option.map_some, Option.some.injEq, Prod.mk.injEq] at h5
      simp [h5.1, h7]
    have hst : (Instr.keyThatStays (keyV k) (keyV k)).run P w = .ok (keyV k) w := by
      simp only [Instr.keyThatStays]
      rw [if_pos (K.bits k)]
      simp
    refine ⟨{ w with heap := w.heap.setIfInBounds b (.map (es.modify i fun e => { e with key := keyV k, val := v }) clock) }, ?_, ⟨_, _, hat _, ?_⟩, hgr _⟩
    · simp only [Instr.mapUpdate, Sem.run_bind, run_underlying hT, hgo, K.check, hf, Result.andThen_ok, hkey, hst, MapKept.run_setObj_map _ hb]
    · rw [h4]
      apply List.ext_getElem?
      intro j
      have h5 := congrArg (fun l => l[j]?) hm
      simp only [List.getElem?_map, Array.getElem?_toList] at h5
      simp only [List.getElem?_map, Array.getElem?_toList, Array.getElem?_modify, List.getElem?_set]
      by_cases hij : i = j
      · subst hij
        simp [h2, show i < es.size by omega]
      · simp only [if_neg hij]
        exact h5

/-- The store, at the list of operations. -/
theorem wpList_put {ops : Array Oper} {rest : List Oper} {o : Oper} {a : Act} {Q : Exit → Act → World → Prop} (hgd : o.guard = none) (hd : o.dst = none) (xm xk xv : Operand) (ho : o.op = .mapUpdate T xm xk xv)
    (h : MapV keyV w b m) (K : KeyOk P kt keyV) (hT : P.underlying T = some (.map kt et)) (k : κ) (v : Value) (h1 : a.eval xm = .map (some b)) (h2 : a.eval xk = keyV k) (h3 : a.eval xv = v)
    (hK : ∀ w', MapV keyV w' b (putAt k v m) → w.grownBy w' (some b) → wpList P ops Q rest a w') : wpList P ops Q (o :: rest) a w := by
  obtain ⟨w', hr, h4, h5⟩ := h.put K hT k v
  refine wpList_plain hgd fun Kk hKk => ?_
  unfold Oper.wp execOp
  simp only [ho, h1, h2, h3, Sem.run_bind, hr, Result.andThen_ok, Sem.run_pure]
  exact hKk _ _ (by simpa [Act.put, hd] using hK w' h4 h5)
end Go.Proofs.Ytmeekpinkfpnhaa

namespace Go.Proofs.Ytmeekpinkfpnhaa
open Go.RowKit

/-- Each operation waits for earlier ones alone, and its guard is an earlier one. -/
def backB (ops : Array Oper) : Bool := (List.range ops.size).all fun i => match ops[i]? with
  | some o => (o.after.all fun e => !Region.binds .any e || decide (e.on < i)) && (match o.guard with | some (j, _) => decide (j < i) | none => true)
  | none => true
theorem backB_spec {ops : Array Oper} (h : backB ops = true) {i : Nat} {o : Oper} (hi : ops[i]? = some o) : ∀ e ∈ o.after, Region.binds .any e = true → e.on < i := by
  intro e he hb
  have hlt : i < ops.size := (Array.getElem?_eq_some_iff.1 hi).1
  have h1 := List.all_eq_true.1 h i (List.mem_range.2 hlt)
  rw [hi] at h1
  simp only [Bool.and_eq_true] at h1
  have h2 := Array.all_eq_true_iff_forall_mem.1 h1.1 e he
  rw [hb] at h2
  simpa using h2

theorem backB_guard {ops : Array Oper} (h : backB ops = true) {i j : Nat} {o : Oper} {b : Bool} (hi : ops[i]? = some o) (hg : o.guard = some (j, b)) : j < i := by
  have hlt : i < ops.size := (Array.getElem?_eq_some_iff.1 hi).1
  have h1 := List.all_eq_true.1 h i (List.mem_range.2 hlt)
  rw [hi] at h1
  simp only [Bool.and_eq_true, hg] at h1
  simpa using h1.2

section
variable {P : Program} {ops pops : Array Oper} {Q : Exit → Act → World → Prop} {n : Nat}

/-- Behind the first n operations, one after the other. -/
theorem wpAny_tail (hback : backB ops = true) (hchain : Region.chainB .any ops n = true) : ∀ (r k fuel : Nat) (listed : Array Bool) (a : Act) (w : World) (l : List Oper), k + r = ops.size → n ≤ k → r ≤ fuel → listed.size = ops.size →
    (∀ i, i < k → listed.getD i false = true) → (∀ i, k ≤ i → i < ops.size → listed.getD i true = false) → (∀ j, l[j]? = ops[k + j]?) → wpList P ops Q l a w → wpAny P .any ops Q fuel listed a w := by
  intro r
  induction r with
  | zero =>
    intro k fuel listed a w l hk hn hf hs h1 h2 hl h
    have hr : Region.ready .any ops listed = [] := by
      refine List.eq_nil_iff_forall_not_mem.2 fun j hj => ?_
      obtain ⟨hj1, o, ho, _⟩ := mem_ready.1 hj
      have hlt : j < ops.size := (Array.getElem?_eq_some_iff.1 ho).1
      have := h1 j (by omega)
      rw [getD_both hj1] at this
      cases this
    have hl0 : l = [] := by
      cases l with
      | nil => rfl
      | cons x xs =>
        have := hl 0
        rw [Array.getElem?_eq_none (by omega)] at this
        simp at this
    subst hl0
    cases fuel with
    | zero => exact ⟨hr, h⟩
    | succ fuel => exact ⟨fun _ => h, fun i hi => by rw [hr] at hi; cases hi⟩
  | succ r ih =>
    intro k fuel listed a w l hk hn hf hs h1 h2 hl h
    have hklt : k < ops.size := by omega
    have hok : ops[k]? = some ops[k] := Array.getElem?_eq_getElem hklt
    have hkr : k ∈ Region.ready .any ops listed := mem_ready.2 ⟨h2 k (Nat.le_refl _) hklt, _, hok, fun e he hb => h1 _ (backB_spec hback hok e he hb)⟩
    have honly : ∀ j ∈ Region.ready .any ops listed, j = k := by
      intro j hj
      obtain ⟨hj1, o, ho, hall⟩ := mem_ready.1 hj
      have hlt : j < ops.size := (Array.getElem?_eq_some_iff.1 ho).1
      rcases Nat.lt_trichotomy j k with hjk | hjk | hjk
      · have := h1 j hjk
        rw [getD_both hj1] at this
        cases this
      · exact hjk
      · have hc := List.all_eq_true.1 hchain j (List.mem_range.2 hlt)
        simp only [Bool.or_eq_true, decide_eq_true_eq] at hc
        rcases hc with hc | hc
        · omega
        · obtain ⟨o', ho', e, he, hb, hon⟩ := Region.waitsFor_spec hc
          have : o' = o := Option.some.inj (ho'.symm.trans ho)
          subst this
          have h3 := hall e he hb
          rw [hon, getD_both (h2 (j - 1) (by omega) (by omega))] at h3
          cases h3
    obtain ⟨o, l', rfl⟩ : ∃ o l', l = o :: l' := by
      cases l with
      | nil => have := hl 0; rw [Nat.add_zero, hok] at this; simp at this
      | cons o l' => exact ⟨o, l', rfl⟩
    have ho : ops[k]? = some o := by simpa using (hl 0).symm
    cases fuel with
    | zero => omega
    | succ fuel =>
      refine ⟨fun h0 => (by rw [h0] at hkr; cases hkr), fun i hi => ?_⟩
      obtain rfl := honly i hi
      have hrec : ∀ a w, wpList P ops Q l' a w → wpAny P .any ops Q fuel (listed.setIfInBounds i true) a w := fun a w h' => by
        refine ih (i + 1) fuel _ a w l' (by omega) (by omega) (by omega) (by simp [hs]) (fun j hj => ?_) (fun j hj hj' => ?_) (fun j => by have := hl (j + 1); simpa [Nat.add_assoc, Nat.add_comm 1 j] using this) h'
        · by_cases hji : i = j
          · subst hji; simp [hs, hklt]
          · rw [getD_set_ne false hji]; exact h1 j (by omega)
        · rw [getD_set_ne true (by omega)]; exact h2 j (by omega) hj'
      unfold wpOp
      simp only [ho]
      unfold wpList at h
      split
      · rename_i hw
        rw [if_pos hw] at h
        exact h.imp (Oper.wp_mono hrec) id
      · rename_i hw
        rw [if_neg hw] at h
        exact hrec _ _ h

theorem wpAny_mild {C : World → Prop} {Qa : Act → Prop} (hn : n ≤ ops.size) (hpn : pops.size = n) (hp : ∀ i, i < n → pops[i]? = ops[i]?) (hback : backB ops = true) (hsink : Region.sinkB .any ops n = true) (hchain : Region.chainB .any ops n = true)
    (hnlt : n < ops.size) (hQ : ∀ a w, C w → Qa a → wpList P ops Q (ops.toList.drop n) a w) :
    ∀ (fuel : Nat) (listed : Array Bool) (a : Act) (w : World), C w → HeadInv .any ops n listed → wpAnyQ P .any pops C Qa fuel listed a → wpAny P .any ops Q (fuel + (ops.size - n)) listed a w := by
  have hrd : ∀ listed i, i < n → (i ∈ Region.ready .any pops listed ↔ i ∈ Region.ready .any ops listed) := by
    intro listed i hi
    rw [mem_ready, mem_ready, hp i hi]
  have hlt : ∀ listed i, i ∈ Region.ready .any pops listed → i < n := by
    intro listed i hi
    obtain ⟨_, o, ho, _⟩ := mem_ready.1 hi
    have := (Array.getElem?_eq_some_iff.1 ho).1
    omega
  have hdone : ∀ (fuel : Nat) (listed : Array Bool) (a : Act) (w : World), ops.size - n ≤ fuel → C w → HeadInv .any ops n listed → Region.ready .any pops listed = [] → Qa a → wpAny P .any ops Q fuel listed a w := by
    intro fuel listed a w hf hC inv hr hq
    have hall : ∀ i, i < n → listed.getD i false = true := by
      intro i
      induction i using Nat.strongRecOn with
      | _ i ih =>
        intro hi
        by_cases hl : listed.getD i false = true
        · exact hl
        · exfalso
          have hio : ops[i]? = some (ops[i]'(by omega)) := Array.getElem?_eq_getElem (by omega)
          have : i ∈ Region.ready .any pops listed := (hrd listed i hi).2 (mem_ready.2 ⟨getD_in (by rw [inv.size]; omega) (by simpa using hl), _, hio, fun e he hb => by
            have := backB_spec hback hio e he hb
            exact ih _ this (by omega)⟩)
          rw [hr] at this
          cases this
    exact wpAny_tail hback hchain (ops.size - n) n fuel listed a w (ops.toList.drop n) (by omega) (Nat.le_refl _) hf inv.size hall inv.tail (fun j => by simp) (hQ a w hC hq)
  intro fuel
  induction fuel with
  | zero =>
    intro listed a w hC inv h
    exact hdone _ listed a w (by omega) hC inv h.1 h.2
  | succ fuel ih =>
    intro listed a w hC inv h
    by_cases hr : Region.ready .any pops listed = []
    · exact hdone _ listed a w (by omega) hC inv hr (h.1 hr)
    · obtain ⟨i0, hi0⟩ := List.exists_mem_of_ne_nil _ hr
      have hun := (mem_ready.1 ((hrd listed i0 (hlt _ _ hi0)).1 hi0)).1
      have htail : ∀ j ∈ Region.ready .any ops listed, j < n := by
        intro j hj
        rcases Nat.lt_or_ge j n with h | h
        · exact h
        · exact absurd hj (tail_waits hsink hchain hnlt inv _ i0 rfl (hlt _ _ hi0) hun j h)
      rw [show fuel + 1 + (ops.size - n) = (fuel + (ops.size - n)) + 1 by omega]
      refine ⟨fun h0 => (by have := (hrd listed i0 (hlt _ _ hi0)).1 hi0; rw [h0] at this; cases this), fun i hi => ?_⟩
      have hin := htail i hi
      have hq := h.2 i ((hrd listed i hin).2 hi)
      have hrec : ∀ a' w', C w' → wpAnyQ P .any pops C Qa fuel (listed.setIfInBounds i true) a' → wpAny P .any ops Q (fuel + (ops.size - n)) (listed.setIfInBounds i true) a' w' :=
        fun a' w' hw' h' => ih _ a' w' hw' (inv.set hi hin) h'
      unfold qOp at hq
      unfold wpOp
      rw [← hp i hin]
      split
      · rename_i ho; simp only [ho] at hq; exact hrec _ _ hC hq
      · rename_i o ho
        simp only [ho] at hq
        have hwt : Region.wanted o (yielded ops a.tmps) = Region.wanted o (yielded pops a.tmps) := by
          unfold Region.wanted
          cases hg : o.guard with
          | none => rfl
          | some g =>
            obtain ⟨j, want⟩ := g
            simp only
            have hj : j < n := by have := backB_guard hback ((hp i hin).symm.trans ho) hg; omega
            unfold yielded
            rw [hp j hj]
        rw [hwt]
        split
        · rename_i hw; simp only [hw, if_true] at hq; exact .inl (Oper.wp_of_quiet hC hrec hq)
        · rename_i hw; simp only [hw] at hq; exact hrec _ _ hC hq
end

/-- The first n operations only read, or call what only makes memory; behind them, in whatever world they leave, the rest, one after the other. -/
theorem wp_region_tail {P : Program} {id : Nat} {Q : Exit → Act → World → Prop} {a : Act} {w : World} {l : List Oper} (n : Nat) (hm : P.follows .mixedOrders = true)
    (hB : (Region.noSelect (l.take n).toArray && Region.lexFrom .any (l.take n).toArray n 0 (Array.replicate l.length false) && backB l.toArray && Region.sinkB .any l.toArray n && Region.chainB .any l.toArray n && decide (n < l.length)) = true)
    (h : ∀ (I : Type) [Nonempty I] (W : I → World), (∀ i, Ext w (W i)) → (∀ w', Ext w w' → ∃ i, w' = W i) → wpQuiet P (l.take n).toArray (fun w' => ∃ i, w' = W i) (fun a' => ∀ w', (∃ i, w' = W i) → wpList P l.toArray Q (l.drop n) a' w') (l.take n) a) : (Code.region id l.toArray true).wp P Q a w := by
  simp only [Bool.and_eq_true, decide_eq_true_eq] at hB
  obtain ⟨⟨⟨⟨⟨h1, h2⟩, h3⟩, h4⟩, h5⟩, h6⟩ := hB
  have hC : ∀ w', Ext w w' → ∃ i : { w' // Ext w w' }, w' = i.1 := fun w' h => ⟨⟨w', h⟩, rfl⟩
  haveI : Nonempty { w' // Ext w w' } := ⟨⟨w, Ext.rfl' w⟩⟩
  have hl := h { w' // Ext w w' } (fun i => i.1) (fun i => i.2) hC
  have hlen : (l.take n).length = n := by rw [List.length_take]; omega
  have hlex := wpAnyQ_lex (md := .any) h1 (l.take n) 0 (Array.replicate l.length false) a (by simp) (by rw [hlen]; exact h2) hl
  rw [hlen] at hlex
  refine wp_region_any hm ?_
  have := wpAny_mild (P := P) (ops := l.toArray) (pops := (l.take n).toArray) (Q := Q) (n := n) (C := fun w' => ∃ i : { w' // Ext w w' }, w' = i.1) (by simp; omega) (by simpa using hlen)
    (fun i hi => by simp [hi]) h3 h4 h5 (by simpa using h6) (fun a' w' hw' hq => by simpa using hq w' hw') n (Array.replicate l.length false) a _ (hC _ (Ext.draw (Ext.rfl' w)))
    ⟨by simp, fun j oj hj hl => (by rw [getD_replicate_false] at hl; cases hl), fun t ht ht' => (by simp at ht'; simp [ht'])⟩ hlex
  have e : n + (l.toArray.size - n) = l.toArray.size := by simp; omega
  rw [e] at this
  simpa using this
end Go.Proofs.Ytmeekpinkfpnhaa

namespace Go.Proofs.Ytmeekpinkfpnhaa
open Go.RowKit

/-! ### a map of pairs of numbers that holds bools -/
abbrev pk (k : Int × Int) : Value := .agg #[.int .i64 k.1, .int .i64 k.2]
theorem pk_ok : KeyOk Try.prog 136 pk := keyOk_pair (et := 3) Try.underlying136 Try.underlying3 (by kernel_rfl)
theorem zero_bool (w : World) : (zeroValue 4).run Try.prog w = .ok (.bool false) w := by kernel_rfl
/-- Block b is such a map; what it answers is f. -/
def MapF (w : World) (b : Nat) (f : Int × Int → Bool) : Prop := ∃ m, MapV pk w b m ∧ ∀ k, (getAt k m).getD (.bool false) = .bool (f k)
theorem MapF.ext {w w' : World} {b : Nat} {f : Int × Int → Bool} (h : MapF w b f) (hx : Ext w w') : MapF w' b f := by
  obtain ⟨m, h1, h2⟩ := h; exact ⟨m, h1.ext hx, h2⟩
theorem MapF.get {w : World} {b : Nat} {f : Int × Int → Bool} (h : MapF w b f) (x y : Int) : (Instr.lookup 132 (.map (some b)) (.agg #[.int .i64 x, .int .i64 y]) false).run Try.prog w = .ok (.bool (f (x, y))) w := by
  obtain ⟨m, h1, h2⟩ := h
  rw [← h2 (x, y)]
  exact h1.get pk_ok Try.underlying132 (zero_bool w) (x, y)
theorem mild_map {I : Type} {W : I → World} {w : World} (hE : ∀ i, Ext w (W i)) {b : Nat} {f : Int × Int → Bool} (h : MapF w b f) (x y : Int) :
    ∀ i, (Instr.lookup 132 (.map (some b)) (.agg #[.int .i64 x, .int .i64 y]) false).run Try.prog (W i) = .ok (.bool (f (x, y))) (W i) := fun i => (h.ext (hE i)).get x y

set_option maxRecDepth 10000 in
set_option maxHeartbeats 400000 in
/-- slices.EqualFunc of numbers, the function value one that turns nothing that was there. -/
theorem equalI_any (S S' : Nat → Prop) (xs ys : List Int) (hlen : xs.length = ys.length) (p : Int → Int → Bool) (a a' : Option Addr) (cap cap' fk : Nat) (caps : Array Value) (w : World)
    (_hc1 : xs.length ≤ cap) (hc2 : cap ≤ maxLen) (h1 : SlI w S xs a) (h2 : SlI w S' ys a')
    (hfk : ∀ args w, Sem.run Try.prog (callFunc fk args) w = .ok (.enter fk args) w)
    (hf : ∀ i (h : i < xs.length) (h' : i < ys.length) (wr : World), Ext w wr → Calls Try.prog fk (#[.int .i64 xs[i], .int .i64 ys[i]] ++ caps) wr fun e w' => e = .returned (.bool (p xs[i] ys[i])) ∧ Ext wr w') :
    Calls Try.prog 133 #[.slice a xs.length cap, .slice a' ys.length cap', .func (.func fk) #[] caps] w fun e w' => e = .returned (.bool ((xs.zip ys).all fun q => p q.1 q.2)) ∧ Ext w w' := by
  unfold maxLen at hc2
  have HF := hid hf; clear hf
  have hne : ((xs.length : Int) != ys.length) = false := by simp [hlen]
  have HL := hid hlen; clear hlen
  go_enter Try.func133, Try.ntmps133
  go_wp2_with fail
  clear hne
  go_loopw [17] (fun i wr => ∃ k : Nat, k ≤ xs.length ∧ i = .int .i64 k ∧ ((xs.zip ys).take k).all (fun q => p q.1 q.2) = true ∧ Ext w wr) (fun i _ => xs.length - (intOf i).toNat)
  case atStart => exact ⟨0, by omega, rfl, by simp, Ext.rfl' _⟩
  case round =>
    obtain ⟨k, hk, rfl, hi, hx⟩ := hrel
    have HI := hid hi; clear hi
    by_cases hlt : k < xs.length
    · have hlt' : k < ys.length := by have := HL.out; omega
      obtain ⟨b, o, rfl⟩ := h1.some_ (by omega)
      obtain ⟨b', o', rfl⟩ := h2.some_ (by omega)
      obtain ⟨_, hz, hc⟩ := (h1.ext hx).at_ hlt
      obtain ⟨_, hz', hc'⟩ := (h2.ext hx).at_ hlt'
      have hc : wr.cell? ⟨b, o + k, none⟩ = some (.int .i64 xs[k]) := by simpa using hc
      have hc' : wr.cell? ⟨b', o' + k, none⟩ = some (.int .i64 ys[k]) := by simpa using hc'
      have HC := hid (HF.out k hlt hlt' wr hx)
      have hzl : k < (xs.zip ys).length := by simp; omega
      have HY := hid (show p xs[k] ys[k] = true → ((xs.zip ys).take (k + 1)).all (fun q => p q.1 q.2) = true from fun h => by
        rw [List.take_succ_eq_append_getElem hzl, List.all_append, HI.out]; simp [h])
      have HN := hid (show p xs[k] ys[k] = false → (xs.zip ys).all (fun q => p q.1 q.2) = false from fun h => by
        rw [List.all_eq_false]; exact ⟨(xs.zip ys)[k], List.getElem_mem hzl, by simp [h]⟩)
      generalize hp : p xs[k] ys[k] = q at *
      clear hp hzl
      go_wp2_with fail
      refine HC.out.mono ?_
      rintro e w' ⟨rfl, hx'⟩
      cases q
      · go_wp2_with fail
        go_ret
        exact ⟨ret_bool (HN.out trivial).symm, hx.step hx'⟩
      · go_wp2_with fail
        go_roundw
        case rel => exact ⟨k + 1, by omega, by go_num, HY.out trivial, hx.step hx'⟩
        case measure => simp [intOf]; omega
    · obtain rfl : k = xs.length := by omega
      have HZ := hid (show (xs.zip ys).all (fun q => p q.1 q.2) = true by
        have := HI.out; rwa [List.take_of_length_le (by simp; omega)] at this)
      go_wp2_with fail
      go_ret
      exact ⟨ret_bool HZ.out.symm, hx⟩

set_option maxHeartbeats 400000 in
theorem equalI_no (xs ys : List Int) (hlen : xs.length ≠ ys.length) (a a' : Option Addr) (cap cap' : Nat) (fv : Value) (w : World) :
    Calls Try.prog 133 #[.slice a xs.length cap, .slice a' ys.length cap', fv] w fun e w' => e = .returned (.bool false) ∧ w = w' := by
  have hne : ((xs.length : Int) != ys.length) = true := by simp; omega
  clear hlen
  go_enter Try.func133, Try.ntmps133
  go_wp2_with fail
  go_ret
  exact ⟨rfl, rfl⟩

/-! ### the functions that ask -/
set_option maxRecDepth 10000 in
set_option maxHeartbeats 400000 in
theorem one1_any (x y : Int) (bx bc bs : Nat) (f : Int × Int → Bool) (w : World) (h1 : w.cell? ⟨bx, 0, none⟩ = some (.pointer (some ⟨bc, 0, none⟩))) (h2 : w.cell? ⟨bc, 2, none⟩ = some (.map (some bs))) (h3 : MapF w bs f) :
    Calls Try.prog 134 #[.int .i64 x, .int .i64 y, .pointer (some ⟨bx, 0, none⟩)] w fun e w' => e = .returned (.bool (f (x, y))) ∧ Ext w w' := by
  have hl := h3.get x y
  go_enter Try.func134, Try.ntmps134
  go_wp2_with fail
  go_ret
  exact ⟨rfl, Ext.rfl' _⟩
theorem one1_enter (args : Array Value) (w : World) : Sem.run Try.prog (callFunc 134 args) w = .ok (.enter 134 args) w := by
  go_simp

set_option maxRecDepth 10000 in
set_option maxHeartbeats 400000 in
theorem greater1_any (x k : Int) (bx bk bc bs ba : Nat) (f h : Int × Int → Bool) (w : World) (h1 : w.cell? ⟨bx, 0, none⟩ = some (.pointer (some ⟨bc, 0, none⟩))) (hk : w.cell? ⟨bk, 0, none⟩ = some (.int .i64 k))
    (h2 : w.cell? ⟨bc, 2, none⟩ = some (.map (some bs))) (h3 : w.cell? ⟨bc, 3, none⟩ = some (.map (some ba))) (h4 : MapF w bs f) (h5 : MapF w ba h) :
    Calls Try.prog 154 #[.int .i64 x, .pointer (some ⟨bx, 0, none⟩), .pointer (some ⟨bk, 0, none⟩)] w fun e w' => e = .returned (.bool (f (x, k) || h (x, k))) ∧ Ext w w' := by
  cases hq : f (x, k)
  · go_enter Try.func154, Try.ntmps154
    go_wp2_with fail
    refine wp_region_mild (by kernel_rfl) (by kernel_rfl) ?_
    intro I _ W hE hC
    have f1 := mild_cell hE h1
    have f2 := mild_cell hE hk
    have f3 := mild_cell hE h2
    have f4 := mild_cell hE h3
    have f5 := mild_map hE h4 x k
    have f6 := mild_map hE h5 x k
    rw [hq] at f5
    repeat (go_big_quiet_step (fail))
    refine wpQuiet_nil ?_
    intro _ hw'
    obtain ⟨i, hw''⟩ := hw'
    subst hw''
    go_wp2_with fail
    go_ret
    exact ⟨by simp, hE i⟩
  · go_enter Try.func154, Try.ntmps154
    go_wp2_with fail
    refine wp_region_mild (by kernel_rfl) (by kernel_rfl) ?_
    intro I _ W hE hC
    have f1 := mild_cell hE h1
    have f2 := mild_cell hE hk
    have f3 := mild_cell hE h2
    have f5 := mild_map hE h4 x k
    rw [hq] at f5
    repeat (go_big_quiet_step (fail))
    refine wpQuiet_nil ?_
    intro _ hw'
    obtain ⟨i, hw''⟩ := hw'
    subst hw''
    go_wp2_with fail
    go_ret
    exact ⟨by simp, hE i⟩
theorem greater1_enter (args : Array Value) (w : World) : Sem.run Try.prog (callFunc 154 args) w = .ok (.enter 154 args) w := by
  go_simp

set_option maxRecDepth 10000 in
set_option maxHeartbeats 400000 in
theorem greater2_any (x k : Int) (bx bk bc ba : Nat) (h : Int × Int → Bool) (w : World) (h1 : w.cell? ⟨bx, 0, none⟩ = some (.pointer (some ⟨bc, 0, none⟩))) (hk : w.cell? ⟨bk, 0, none⟩ = some (.int .i64 k))
    (h3 : w.cell? ⟨bc, 3, none⟩ = some (.map (some ba))) (h5 : MapF w ba h) :
    Calls Try.prog 155 #[.int .i64 x, .pointer (some ⟨bx, 0, none⟩), .pointer (some ⟨bk, 0, none⟩)] w fun e w' => e = .returned (.bool (!h (k, x))) ∧ Ext w w' := by
  go_enter Try.func155, Try.ntmps155
  go_wp2_with fail
  refine wp_region_mild (by kernel_rfl) (by kernel_rfl) ?_
  intro I _ W hE hC
  have f1 := mild_cell hE h1
  have f2 := mild_cell hE hk
  have f4 := mild_cell hE h3
  have f6 := mild_map hE h5 k x
  repeat (go_big_quiet_step (fail))
  refine wpQuiet_nil ?_
  intro _ hw'
  obtain ⟨i, hw''⟩ := hw'
  subst hw''
  go_wp2_with fail
  go_ret
  exact ⟨by simp, hE i⟩
theorem greater2_enter (args : Array Value) (w : World) : Sem.run Try.prog (callFunc 155 args) w = .ok (.enter 155 args) w := by
  go_simp
end Go.Proofs.Ytmeekpinkfpnhaa

namespace Go.Proofs.Ytmeekpinkfpnhaa
open Go.RowKit

def lexi (f h : Int × Int → Bool) : List Int → List Int → Bool
  | a :: l, b :: m => if f (a, b) then lexi f h l m else h (a, b)
  | _, _ => false
def grV (f h : Int × Int → Bool) (sv sf : Int) (sa : List Int) (tv tf : Int) (ta : List Int) (i k : Int) : Bool :=
  if sv > 0 then false
  else if sa.any (fun a => f (a, k) || h (a, k)) then true
  else if tv > 0 ∨ sf < tf ∨ ta.any (fun b => !h (i, b)) = true then false
  else if sf > tf then true
  else lexi f h sa ta
theorem lexi_go {f h : Int × Int → Bool} {sa ta : List Int} {j : Nat} (hj : j < sa.length) (hj' : j < ta.length) : lexi f h (sa.drop j) (ta.drop j) = if f (sa[j], ta[j]) then lexi f h (sa.drop (j + 1)) (ta.drop (j + 1)) else h (sa[j], ta[j]) := by
  rw [List.drop_eq_getElem_cons hj, List.drop_eq_getElem_cons hj', lexi]

set_option maxRecDepth 100000 in
set_option maxHeartbeats 2000000 in
theorem greater_any (S S' : Nat → Prop) (sv sf tv tf i k : Int) (us ut : Value) (sa ta : List Int) (aa ab : Option Addr) (ca cb bc bs ba : Nat) (f h : Int × Int → Bool) (w : World)
    (hs1 : us.oneCell' = true) (ht1 : ut.oneCell' = true)
    (h2 : w.cell? ⟨bc, 2, none⟩ = some (.map (some bs))) (h3 : w.cell? ⟨bc, 3, none⟩ = some (.map (some ba))) (h4 : MapF w bs f) (h5 : MapF w ba h)
    (l1 : sa.length ≤ ca) (l2 : ca ≤ maxLen) (l3 : SlI w S sa aa) (l1' : ta.length ≤ cb) (l2' : cb ≤ maxLen) (l3' : SlI w S' ta ab) (hlen : sv ≤ 0 → tv ≤ 0 → sf = tf → sa.length ≤ ta.length) :
    Calls Try.prog 135 #[.pointer (some ⟨bc, 0, none⟩), .agg #[.int .i64 sv, .int .i64 sf, us, .slice aa sa.length ca], .agg #[.int .i64 tv, .int .i64 tf, ut, .slice ab ta.length cb], .int .i64 i, .int .i64 k] w
      fun e w' => e = .returned (.bool (grV f h sv sf sa tv tf ta i k)) ∧ Ext w w' := by
  unfold maxLen at l2 l2'
  by_cases hsv : 0 < sv
  · have HV := hid (show grV f h sv sf sa tv tf ta i k = false by rw [grV, if_pos hsv])
    go_enter Try.func135, Try.ntmps135
    go_wp2_with fail
    go_ret
    exact ⟨ret_bool HV.out.symm, (((Ext.two _ _ _).new _).new _).new _⟩
  · have HV := hid (show grV f h sv sf sa tv tf ta i k = if sa.any (fun a => f (a, k) || h (a, k)) then true else if tv > 0 ∨ sf < tf ∨ ta.any (fun b => !h (i, b)) = true then false else if sf > tf then true else lexi f h sa ta by rw [grV, if_neg hsv])
    have H2 := hid h2
    have H3 := hid h3
    have HL := hid hlen; clear hlen
    go_enter Try.func135, Try.ntmps135
    go_wp2_with fail
    have hx0 : Ext w (((((w.alloc (.cells #[.pointer (some ⟨bc, 0, none⟩)] 129)).alloc (.cells #[.int .i64 sv, .int .i64 sf, us, .slice aa sa.length ca] 157)).alloc (.cells #[.int .i64 tv, .int .i64 tf, ut, .slice ab ta.length cb] 157)).alloc (.cells #[.int .i64 i] 3)).alloc (.cells #[.int .i64 k] 3)) := (((Ext.two _ _ _).new _).new _).new _
    refine (containsInt_any S sa (fun a => f (a, k) || h (a, k)) aa ca 154 #[.pointer (some ⟨w.heap.size, 0, none⟩), .pointer (some ⟨w.heap.size + 4, 0, none⟩)] _ l1 (by unfold maxLen; exact l2) (l3.ext hx0) greater1_enter ?hf).mono ?_
    case hf =>
      intro j hj wr hxr
      have e1 : wr.cell? ⟨w.heap.size, 0, none⟩ = some (.pointer (some ⟨bc, 0, none⟩)) := hxr.some_ (by go_simp)
      have e2 : wr.cell? ⟨w.heap.size + 4, 0, none⟩ = some (.int .i64 k) := hxr.some_ (by go_simp)
      exact greater1_any _ k _ _ bc bs ba f h wr e1 e2 ((hx0.step hxr).some_ H2.out) ((hx0.step hxr).some_ H3.out) (h4.ext (hx0.step hxr)) (h5.ext (hx0.step hxr))
    rintro e w1 ⟨rfl, hx1⟩
    have e1 : w1.cell? ⟨w.heap.size, 0, none⟩ = some (.pointer (some ⟨bc, 0, none⟩)) := hx1.some_ (by go_simp)
    have e2 : w1.cell? ⟨w.heap.size + 1, 0, none⟩ = some (.int .i64 sv) := hx1.some_ (by go_simp)
    have e3 : w1.cell? ⟨w.heap.size + 1, 1, none⟩ = some (.int .i64 sf) := hx1.some_ (by go_simp)
    have e4 : w1.cell? ⟨w.heap.size + 1, 3, none⟩ = some (.slice aa sa.length ca) := hx1.some_ (by go_simp)
    have e5 : w1.cell? ⟨w.heap.size + 2, 0, none⟩ = some (.int .i64 tv) := hx1.some_ (by go_simp)
    have e6 : w1.cell? ⟨w.heap.size + 2, 1, none⟩ = some (.int .i64 tf) := hx1.some_ (by go_simp)
    have e7 : w1.cell? ⟨w.heap.size + 2, 3, none⟩ = some (.slice ab ta.length cb) := hx1.some_ (by go_simp)
    have e8 : w1.cell? ⟨w.heap.size + 3, 0, none⟩ = some (.int .i64 i) := hx1.some_ (by go_simp)
    have hxw := hx0.step hx1
    clear hx0 hx1
    generalize sa.any (fun a => f (a, k) || h (a, k)) = q at *
    cases q
    · have HV := hid (show grV f h sv sf sa tv tf ta i k = if tv > 0 ∨ sf < tf ∨ ta.any (fun b => !h (i, b)) = true then false else if sf > tf then true else lexi f h sa ta by rw [HV.out]; simp)
      by_cases htv : 0 < tv
      · have HV := hid (show grV f h sv sf sa tv tf ta i k = false by rw [HV.out, if_pos (.inl htv)])
        go_wp2_with fail
        go_ret
        exact ⟨ret_bool HV.out.symm, hxw⟩
      · by_cases hsf : sf < tf
        · have HV := hid (show grV f h sv sf sa tv tf ta i k = false by rw [HV.out, if_pos (.inr (.inl hsf))])
          go_wp2_with fail
          go_ret
          exact ⟨ret_bool HV.out.symm, hxw⟩
        · go_wp2_with fail
          refine (containsInt_any S' ta (fun b => !h (i, b)) ab cb 155 #[.pointer (some ⟨w.heap.size, 0, none⟩), .pointer (some ⟨w.heap.size + 3, 0, none⟩)] _ l1' (by unfold maxLen; exact l2') (l3'.ext hxw) greater2_enter ?hg).mono ?_
          case hg =>
            intro j hj wr hxr
            exact greater2_any _ i _ _ bc ba h wr (hxr.some_ e1) (hxr.some_ e8) ((hxw.step hxr).some_ H3.out) (h5.ext (hxw.step hxr))
          rintro e w2 ⟨rfl, hx2⟩
          have e1 := hx2.some_ e1
          have e2 := hx2.some_ e2
          have e3 := hx2.some_ e3
          have e4 := hx2.some_ e4
          have e5 := hx2.some_ e5
          have e6 := hx2.some_ e6
          have e7 := hx2.some_ e7
          have hxw := hxw.step hx2
          have HA := hid (show tv > 0 ∨ sf < tf ∨ ta.any (fun b => !h (i, b)) = true ↔ ta.any (fun b => !h (i, b)) = true by constructor; (rintro (h | h | h); omega; omega; exact h); exact fun h => .inr (.inr h))
          generalize ta.any (fun b => !h (i, b)) = q at *
          cases q
          · have HV := hid (show grV f h sv sf sa tv tf ta i k = if sf > tf then true else lexi f h sa ta by rw [HV.out, if_neg (fun h => by simpa using HA.out.1 h)])
            clear HA
            by_cases hgt : tf < sf
            · have HV := hid (show grV f h sv sf sa tv tf ta i k = true by rw [HV.out, if_pos hgt])
              go_wp2_with fail
              go_ret
              exact ⟨ret_bool HV.out.symm, hxw⟩
            · have HV := hid (show grV f h sv sf sa tv tf ta i k = lexi f h sa ta by rw [HV.out, if_neg hgt])
              have hle : sa.length ≤ ta.length := HL.out (by omega) (by omega) (by omega)
              go_wp2_with fail
              go_loopw [55] (fun n wr => ∃ j : Nat, j ≤ sa.length ∧ n = .int .i64 j ∧ lexi f h (sa.drop j) (ta.drop j) = lexi f h sa ta ∧ Ext w2 wr) (fun n _ => sa.length - (intOf n).toNat)
              case atStart => exact ⟨0, by omega, rfl, rfl, Ext.rfl' _⟩
              case round =>
                obtain ⟨j, hj, rfl, hc, hx⟩ := hrel
                have HC := hid hc; clear hc
                have e1 := hx.some_ e1
                have e7 := hx.some_ e7
                have hxw := hxw.step hx
                by_cases hlt : j < sa.length
                · have hlt' : j < ta.length := by omega
                  obtain ⟨b, o, rfl⟩ := l3.some_ (by omega)
                  obtain ⟨b', o', rfl⟩ := l3'.some_ (by omega)
                  obtain ⟨_, hz, hc⟩ := (l3.ext hxw).at_ hlt
                  obtain ⟨_, hz', hc'⟩ := (l3'.ext hxw).at_ hlt'
                  have hc : wr.cell? ⟨b, o + j, none⟩ = some (.int .i64 sa[j]) := by simpa using hc
                  have hc' : wr.cell? ⟨b', o' + j, none⟩ = some (.int .i64 ta[j]) := by simpa using hc'
                  have HG := hid (lexi_go (f := f) (h := h) hlt hlt')
                  have q1 : (0 : Int) ≤ (j : Int) := by omega
                  have q2 : (j : Int) < (ta.length : Int) := by omega
                  generalize sa[j] = x at *
                  generalize ta[j] = y at *
                  go_wp2_with fail
                  refine wp_region_mild (by kernel_rfl) (by kernel_rfl) ?_
                  intro I _ W hE hC
                  have f1 := mild_cell hE (show (wr.alloc (.cells #[.int .i64 x, .int .i64 y] 136)).cell? ⟨w.heap.size, 0, none⟩ = _ from (Ext.one _ _).some_ e1)
                  have f2 := mild_cell hE ((Ext.one _ _).some_ (hxw.some_ H2.out))
                  have f3 : ∀ i, (W i).cell? ⟨wr.heap.size, 0, none⟩ = some (.int .i64 x) := mild_cell hE (by go_simp)
                  have f4 : ∀ i, (W i).cell? ⟨wr.heap.size, 1, none⟩ = some (.int .i64 y) := mild_cell hE (by go_simp)
                  have f5 := mild_map hE ((h4.ext hxw).ext (Ext.one _ _)) x y
                  repeat (go_big_quiet_step (fail))
                  refine wpQuiet_nil ?_
                  intro _ hw'
                  obtain ⟨i1, hw''⟩ := hw'
                  subst hw''
                  have hxi := (Ext.one _ _).step (hE i1)
                  cases hq : f (x, y)
                  · have HZ := hid (show lexi f h sa ta = h (x, y) by rw [← HC.out, HG.out, hq]; rfl)
                    have e1 := (hE i1).some_ ((Ext.one wr (.cells #[.int .i64 x, .int .i64 y] 136)).some_ e1)
                    have e9 := (hE i1).some_ ((Ext.one wr (.cells #[.int .i64 x, .int .i64 y] 136)).some_ (hxw.some_ H3.out))
                    have g3 := f3 i1
                    have g4 := f4 i1
                    have hm := (h5.ext hxw).ext hxi
                    clear f1 f2 f3 f4 f5
                    go_wp2_with fail
                    refine wp_region_mild (by kernel_rfl) (by kernel_rfl) ?_
                    intro I2 _ W2 hE2 hC2
                    have f1 := mild_cell hE2 e1
                    have f2 := mild_cell hE2 e9
                    have f3 := mild_cell hE2 g3
                    have f4 := mild_cell hE2 g4
                    have f5 := mild_map hE2 hm x y
                    repeat (go_big_quiet_step (fail))
                    refine wpQuiet_nil ?_
                    intro _ hw'
                    obtain ⟨i2, hw''⟩ := hw'
                    subst hw''
                    go_wp2_with fail
                    go_ret
                    exact ⟨ret_bool (by rw [HV.out, HZ.out]), (hxw.step hxi).step (hE2 i2)⟩
                  · have HZ := hid (show lexi f h (sa.drop (j + 1)) (ta.drop (j + 1)) = lexi f h sa ta by rw [← HC.out, HG.out, hq]; rfl)
                    clear f1 f2 f3 f4 f5
                    go_wp2_with fail
                    go_roundw
                    case rel => exact ⟨j + 1, by omega, by go_num, HZ.out, hx.step hxi⟩
                    case measure => simp [intOf]; omega
                · obtain rfl : j = sa.length := by omega
                  have HZ := hid (show lexi f h sa ta = false by rw [← HC.out, List.drop_length, lexi]; simp)
                  go_wp2_with fail
                  go_ret
                  exact ⟨ret_bool (by rw [HV.out, HZ.out]), hxw⟩
          · have HW := hid (show grV f h sv sf sa tv tf ta i k = false by rw [HV.out, if_pos (HA.out.2 rfl)])
            clear HV HA
            go_wp2_with fail
            go_ret
            exact ⟨ret_bool HW.out.symm, hxw⟩
    · have HV := hid (show grV f h sv sf sa tv tf ta i k = true by rw [HV.out]; simp)
      go_wp2_with fail
      go_ret
      exact ⟨ret_bool HV.out.symm, hxw⟩
end Go.Proofs.Ytmeekpinkfpnhaa

namespace Go.Proofs.Ytmeekpinkfpnhaa
open Go.RowKit

def plainOp : Op → Bool
  | .call { callee := .builtin .len, .. } => true
  | .call _ | .go _ | .defer _ | .send _ _ | .recv _ _ _ | .select _ _ => false
  | _ => true
theorem andThen_value {P : Program} {w w' : World} {x : Next} {s : Sem Value} (h : Sem.run P (do pure (.value (← s)) : Sem Next) w = .ok x w') : ∃ v, x = .value v := by
  rw [Sem.run_bind] at h
  cases hs : Sem.run P s w with
  | ok v w1 => rw [hs] at h; simp at h; exact ⟨v, h.1.symm⟩
  | halt e w1 => rw [hs] at h; simp at h
theorem andThen_skip {P : Program} {w w' : World} {x : Next} {s : Sem Unit} (h : Sem.run P (do s; pure .skip : Sem Next) w = .ok x w') : x = .skip := by
  rw [Sem.run_bind] at h
  cases hs : Sem.run P s w with
  | ok v w1 => rw [hs] at h; simp at h; exact h.1.symm
  | halt e w1 => rw [hs] at h; simp at h
theorem noEnter {P : Program} {o : Oper} {ρ : Operand → Value} {w w' : World} {f : FuncId} {args : Array Value} (ho : plainOp o.op = true) : Sem.run P (execOp ρ o) w ≠ .ok (.enter f args) w' := by
  intro h
  obtain ⟨dst, op, type, pos, after, guard⟩ := o
  cases op <;> simp only [plainOp] at ho <;> simp only [execOp] at h
  case pick c a b =>
    rw [Sem.run_bind] at h
    cases hs : Sem.run P (asBool (ρ c)) w with
    | ok v w1 => rw [hs] at h; simp at h
    | halt e w1 => rw [hs] at h; simp at h
  case nilCheck x =>
    have hpan : ∀ x w', Sem.run P (runtimePanic .nilDeref : Sem Next) w ≠ .ok x w' := by
      intro x w' h
      simp [runtimePanic, goPanic, go_sem] at h
      repeat (first | split at h | (simp at h; done))
    split at h
    · exact hpan _ _ h
    · exact hpan _ _ h
    · exact hpan _ _ h
    · split at h
      · exact hpan _ _ h
      · rename_i t w2 _
        rw [Sem.run_bind] at h
        cases h1 : Sem.run P program w with
        | halt e w1 => rw [h1] at h; simp at h
        | ok p w1 =>
          rw [h1] at h
          simp only [Result.andThen_ok, Sem.run_bind] at h
          cases h2 : Sem.run P (nilAhead (p.types.size + Made.depth) t w2 _) w1 with
          | halt e w3 => rw [h2] at h; simp at h
          | ok r w3 =>
            rw [h2] at h
            simp only [Result.andThen_ok] at h
            split at h <;> simp at h
      · simp at h
    · simp at h
  case call c =>
    obtain ⟨callee, as', ats⟩ := c
    cases callee with
    | value f => cases ho
    | invoke r m => cases ho
    | builtin b =>
      cases b <;> first | (cases ho; done) | skip
      simp only [resolve, Sem.run_bind, Sem.run_pure, Result.andThen_ok, invoke, builtin] at h
      cases hs : Sem.run P (Builtin.len_ ats type (Array.map ρ as')) w with
      | ok v w1 => rw [hs] at h; simp at h
      | halt e w1 => rw [hs] at h; simp at h
  all_goals first
    | (obtain ⟨v, hv⟩ := andThen_value h; cases hv; done)
    | (have := andThen_skip h; cases this; done)
    | (simp at h; done)
    | (cases ho; done)
end Go.Proofs.Ytmeekpinkfpnhaa

namespace Go.Proofs.Ytmeekpinkfpnhaa
open Go.RowKit

def readOp : Op → Bool
  | .store _ _ _ | .ready _ | .mapUpdate _ _ _ _ | .insert _ _ _ _ | .entryStore _ _ _ _ => false
  | op => plainOp op
theorem readOp_plain {op : Op} (h : readOp op = true) : plainOp op = true := by cases op <;> first | exact h | cases h
theorem noSkip {P : Program} {o : Oper} {ρ : Operand → Value} {w w' : World} (ho : readOp o.op = true) : Sem.run P (execOp ρ o) w ≠ .ok .skip w' := by
  intro h
  obtain ⟨dst, op, type, pos, after, guard⟩ := o
  cases op <;> simp only [readOp, plainOp] at ho <;> simp only [execOp] at h
  case pick c a b =>
    rw [Sem.run_bind] at h
    cases hs : Sem.run P (asBool (ρ c)) w with
    | ok v w1 => rw [hs] at h; simp at h
    | halt e w1 => rw [hs] at h; simp at h
  case nilCheck x =>
    have hpan : ∀ x w', Sem.run P (runtimePanic .nilDeref : Sem Next) w ≠ .ok x w' := by
      intro x w' h
      simp [runtimePanic, goPanic, go_sem] at h
      repeat (first | split at h | (simp at h; done))
    split at h
    · exact hpan _ _ h
    · exact hpan _ _ h
    · exact hpan _ _ h
    · split at h
      · exact hpan _ _ h
      · rename_i t w2 _
        rw [Sem.run_bind] at h
        cases h1 : Sem.run P program w with
        | halt e w1 => rw [h1] at h; simp at h
        | ok p w1 =>
          rw [h1] at h
          simp only [Result.andThen_ok, Sem.run_bind] at h
          cases h2 : Sem.run P (nilAhead (p.types.size + Made.depth) t w2 _) w1 with
          | halt e w3 => rw [h2] at h; simp at h
          | ok r w3 =>
            rw [h2] at h
            simp only [Result.andThen_ok] at h
            split at h <;> simp at h
      · simp at h
    · simp at h
  case call c =>
    obtain ⟨callee, as', ats⟩ := c
    cases callee with
    | value f => cases ho
    | invoke r m => cases ho
    | builtin b =>
      cases b <;> first | (cases ho; done) | skip
      simp only [resolve, Sem.run_bind, Sem.run_pure, Result.andThen_ok, invoke, builtin] at h
      cases hs : Sem.run P (Builtin.len_ ats type (Array.map ρ as')) w with
      | ok v w1 => rw [hs] at h; simp at h
      | halt e w1 => rw [hs] at h; simp at h
  all_goals first
    | (obtain ⟨v, hv⟩ := andThen_value h; cases hv; done)
    | (simp at h; done)
    | (cases ho; done)

/-- These may be taken first, one behind the other. -/
def takesB (ops : Array Oper) : List Nat → Array Bool → Bool
  | [], _ => true
  | i :: is, listed => (Region.ready .any ops listed).contains i && Region.free .any ops listed i && (match ops[i]? with | some o => readOp o.op | none => false) && takesB ops is (listed.setIfInBounds i true)
def wpTakes (P : Program) (ops : Array Oper) (C : World → Prop) (Fin : Act → Prop) : List Nat → Act → Prop
  | [], a => Fin a
  | i :: is, a => match ops[i]? with
    | some o => if Region.wanted o (yielded ops a.tmps) then o.quiet P a C (wpTakes P ops C Fin is) else wpTakes P ops C Fin is (a.put o.dst undef)
    | none => False
section
variable {P : Program} {ops : Array Oper} {C : World → Prop} {Fin : Act → Prop} {i : Nat} {is : List Nat} {o : Oper} {a : Act}
theorem wpTakes_nil (h : Fin a) : wpTakes P ops C Fin [] a := h
theorem drop_at {l r : List Oper} (h : l.drop i = o :: r) : l.toArray[i]? = some o := by
  have := congrArg (fun l => l[0]?) h
  simpa using this
theorem wpTakes_want {l r : List Oper} (hd : l.drop i = o :: r) (hw : Region.wanted o (yielded l.toArray a.tmps) = true) (h : ∀ K : Act → Prop, (∀ a, wpTakes P l.toArray C Fin is a → K a) → o.quiet P a C K) : wpTakes P l.toArray C Fin (i :: is) a := by
  have hi := drop_at hd
  unfold wpTakes
  rw [hi]
  simp only
  rw [if_pos hw]
  exact h _ fun _ h => h
theorem wpTakes_want' (hi : ops[i]? = some o) (hw : Region.wanted o (yielded ops a.tmps) = true) (h : ∀ K : Act → Prop, (∀ a, wpTakes P ops C Fin is a → K a) → o.quiet P a C K) : wpTakes P ops C Fin (i :: is) a := by
  unfold wpTakes
  rw [hi]
  simp only
  rw [if_pos hw]
  exact h _ fun _ h => h
theorem wpTakes_skip (hi : ops[i]? = some o) (hw : Region.wanted o (yielded ops a.tmps) = false) (h : wpTakes P ops C Fin is (a.put o.dst undef)) : wpTakes P ops C Fin (i :: is) a := by
  unfold wpTakes
  rw [hi]
  simp only
  rw [if_neg (by simp [hw])]
  exact h
end
def listing : List Nat → Array Bool → Array Bool
  | [], listed => listed
  | i :: is, listed => listing is (listed.setIfInBounds i true)

theorem wpAnyH_takes {P : Program} {ops : Array Oper} {Q : Exit → Act → World → Prop} {C : World → Prop} {w : World} (hs : Region.noSelect ops = true) (hQ : ∀ c d v a w, Q (.panic c) (a.put d v) w → Q (.panic c) a w) (hC : C w) (fuel : Nat) :
    ∀ (is : List Nat) (listed : Array Bool) (a : Act), takesB ops is listed = true → wpTakes P ops C (fun a' => wpAnyH P .any ops Q C fuel (listing is listed) a' w) is a → wpAnyH P .any ops Q C (fuel + is.length) listed a w
  | [], _, _, _, h => h
  | i :: is, listed, a, hB, h => by
    simp only [takesB, Bool.and_eq_true] at hB
    obtain ⟨⟨⟨h1, h2⟩, h3⟩, h4⟩ := hB
    cases hi : ops[i]? with
    | none => rw [hi] at h3; cases h3
    | some o =>
      rw [hi] at h3
      simp only at h3
      unfold wpTakes at h
      rw [hi] at h
      simp only at h
      have hrec := fun a' h' => wpAnyH_takes (P := P) (Q := Q) (C := C) (w := w) hs hQ hC fuel is (listed.setIfInBounds i true) a' h4 h'
      by_cases hw : Region.wanted o (yielded ops a.tmps) = true
      · rw [if_pos hw] at h
        obtain ⟨v, hv, hk⟩ := h
        refine wpAnyH_take hi hs h2 h1 (fun c a w => hQ c _ _ a w) (.inl ⟨hw, fun w' hw' => ?_⟩) hC (hrec _ hk)
        have hq := hv w' hw'
        unfold Oper.quietAt at hq
        cases hr : (execOp a.eval o).run P w' with
        | ok x w2 =>
          rw [hr] at hq
          cases x <;> simp only [Oper.quietUpon] at hq
          case value u => rw [hq.1, hq.2]
          case skip => exact absurd hr (noSkip h3)
          case enter f args => exact absurd hr (noEnter (readOp_plain h3))
        | halt x w2 => rw [hr] at hq; simp only [Oper.quietUpon] at hq
      · rw [if_neg hw] at h
        exact wpAnyH_take hi hs h2 h1 (fun c a w => hQ c _ _ a w) (.inr ⟨by simpa using hw, rfl⟩) hC (hrec _ h)

theorem wpOp_go {P : Program} {Q : Exit → Act → World → Prop} {i : Nat} {o : Oper} {K : Act → World → Prop} {a : Act} {w : World} {l r : List Oper} (hd : l.drop i = o :: r) (hg : o.guard = none)
    (h : ∀ K' : Act → World → Prop, (∀ a w, K a w → K' a w) → o.wp P a w K' Q) : wpOp P l.toArray Q i K a w := by
  have hi := drop_at hd
  unfold wpOp
  rw [hi]
  simp only
  rw [if_pos (by simp [Region.wanted, hg])]
  exact .inl (h K fun _ _ h => h)

/-- The region: those of the list are taken first; behind them the rest. -/
theorem wp_region_takes {P : Program} {id : Nat} {Q : Exit → Act → World → Prop} {a : Act} {w : World} {l : List Oper} (is : List Nat) (fuel : Nat) (hm : P.follows .mixedOrders = true)
    (hB : (Region.noSelect l.toArray && takesB l.toArray is (Array.replicate l.length false) && decide (fuel + is.length = l.length)) = true)
    (h : ∀ (I : Type) [Nonempty I] (W : I → World), (∀ i, Ext w (W i)) → wpTakes P l.toArray (fun w' => ∃ i, w' = W i)
      (fun a' => wpAnyH P .any l.toArray (fun e a w => e = .normal ∧ Q .normal a w) (Ext w) fuel (listing is (Array.replicate l.length false)) a' w.drew) is a) : (Code.region id l.toArray true).wp P Q a w := by
  simp only [Bool.and_eq_true, decide_eq_true_eq] at hB
  obtain ⟨⟨h1, h2⟩, h3⟩ := hB
  haveI : Nonempty { w' // Ext w w' } := ⟨⟨w, Ext.rfl' w⟩⟩
  have hl := h { w' // Ext w w' } (fun i => i.1) (fun i => i.2)
  have hCe : (fun w' => ∃ i : { w' // Ext w w' }, w' = i.1) = Ext w := funext fun w' => propext ⟨fun ⟨i, e⟩ => e ▸ i.2, fun h => ⟨⟨w', h⟩, rfl⟩⟩
  rw [hCe] at hl
  have := wpAnyH_takes (Q := fun e a w => e = .normal ∧ Q .normal a w) (C := Ext w) (w := w.drew) h1 (fun c d v a w h => (by cases h.1)) (Ext.draw (Ext.rfl' w)) fuel is (Array.replicate l.length false) a h2 hl
  rw [h3] at this
  have h4 : (Code.region id l.toArray true).wp P (fun e a w => e = .normal ∧ Q .normal a w) a w := wp_region_held hm (by simpa using this)
  exact Code.wp_mono (fun e a w h => by obtain ⟨rfl, h⟩ := h; exact h) h4
end Go.Proofs.Ytmeekpinkfpnhaa
