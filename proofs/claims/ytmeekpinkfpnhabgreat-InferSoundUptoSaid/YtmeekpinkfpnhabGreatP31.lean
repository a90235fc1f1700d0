/- Package infer: falls. -/
import Derived.Test.YtmeekpinkfpnhabGreatP07
import Derived.Test.YtmeekpinkfpnhabGreatP08
import Derived.Test.YtmeekpinkfpnhabGreatP13
import Derived.Test.YtmeekpinkfpnhabGreatP14
import Derived.Test.YtmeekpinkfpnhabGreatP29
import Derived.Test.YtmeekpinkfpnhabGreatP30
set_option linter.all false
namespace Go.Proofs.YtmeekpinkfpnhabGreat
open Go.RowKit
theorem ei_part : ElemOk Tryz.prog 168 178 4 64 := ElemOk.mk' (z := .agg #[.int .i64 0, .int .i64 0, .slice none 0 0, .slice none 0 0]) Tryz.underlying168 (by kernel_rfl) rfl (by decide)
theorem ei_int : ElemOk Tryz.prog 22 3 1 8 := ElemOk.mk' (z := .int .i64 0) Tryz.underlying22 (by kernel_rfl) rfl (by decide)
def PtV (w : World) (S : Nat → Prop) (p : Tm × List Int) (x : Value) : Prop :=
 ∃ a cap a2 cap2, x = .agg #[.int .i64 p.1.v, .int .i64 p.1.f, .slice a p.1.us.length cap, .slice a2 p.2.length cap2] ∧ p.1.us.length ≤ cap ∧ cap ≤ maxLen ∧ SlT w S p.1.us a ∧ p.2.length ≤ cap2 ∧ cap2 ≤ maxLen ∧ SlI w S p.2 a2
theorem vok_pt : VOk PtV := ⟨fun ⟨a, cap, a2, cap2, e, h1, h2, h3, h4, h5, h6⟩ hk hs => ⟨a, cap, a2, cap2, e, h1, h2, h3.keep hk hs, h4, h5, h6.keep hk hs⟩⟩
theorem parts_pos (t : Tm) : 0 < (parts t).length := by rw [parts_eq, List.length_append]; simp
theorem partsL_ge : ∀ us : List Tm, us.length ≤ (partsL us).length
 | [] => by simp
 | x :: xs => by
  have := partsL_ge xs
  have := parts_pos x
  rw [partsL, List.length_append, List.length_cons]; omega
def orNew (S : Nat → Prop) (n : Nat) : Nat → Prop := fun b => S b ∨ n ≤ b
def PartsPostO (w : World) (base : Nat) (Si : Nat → Prop) (ts : List (Tm × List Int)) (r : Option Nat) (e : Ending) (w' : World) : Prop :=
 ∃ v', e = .returned v' ∧ OwnX PtV w' base 178 4 (orNew Si w.heap.size) ts v' ∧ w.grownBy w' r ∧ (v'.ownBlock = r ∨ ∃ g, v'.ownBlock = some g ∧ w.heap.size ≤ g)
def PartsOSpec (t : Tm) : Prop := ∀ (S Si : Nat → Prop) (base : Nat) (l : List (Tm × List Int)) (vl x : Value) (w : World), OwnX PtV w base 178 4 Si l vl → TmV w S t x → base ≤ w.heap.size → (∀ b, S b → b < base) → (∀ b, S b → Si b) → l.length + (parts t).length ≤ 1000000 →
  Calls Tryz.prog 143 #[vl, x] w (PartsPostO w base Si (l ++ pn t l.length) vl.ownBlock)
set_option maxHeartbeats 1000000 in
theorem partsO_step (t : Tm) (ih : ∀ u ∈ t.us, PartsOSpec u) : PartsOSpec t := by
 rintro S Si base l vl x w hl ⟨a, cap, rfl, h1, h2, h3⟩ hbase hS hSi hsz
 unfold maxLen at h2
 have hvl : ∀ g, vl.ownBlock = some g → g < w.heap.size := fun g hg => (hl.block hg).2
 have HVL := hid hvl; clear hvl
 have HSZ := hid hsz; clear hsz
 have HL := hid hl; clear hl
 have HS := hid hS; clear hS
 have HSi := hid hSi; clear hSi
 go_enter Tryz.func143, Tryz.ntmps143
 go_wp2_with fail
 go_loopw [0, 5, 11] (fun v as' i wr => ∃ (k : Nat), k ≤ t.us.length ∧ i = .int .i64 k ∧ OwnX PtV wr base 178 4 (fun b => orNew Si w.heap.size b ∧ some b ≠ as'.ownBlock) (l ++ pnL (t.us.take k) l.length) v ∧ OwnX IntV wr (w.heap.size + 1) 3 1 No' (idxs (t.us.take k) l.length) as' ∧
  (w.alloc (.cells #[.int .i64 t.v, .int .i64 t.f, .slice a t.us.length cap] 63)).grownBy wr vl.ownBlock ∧ (v.ownBlock = vl.ownBlock ∨ ∃ g, v.ownBlock = some g ∧ w.heap.size < g)) (fun _ _ i _ => t.us.length - (intOf i).toNat)
 case atStart => exact ⟨0, by omega, rfl, by simpa [pnL] using (HL.out.ext vok_pt (Ext.one _ _)).wide vok_pt fun b hb _ => ⟨.inl hb, by simp [Value.ownBlock]⟩, by simpa [idxs] using OwnX.nil_ _ _ _ _ _ _, grown_ext (Ext.rfl' _) _, .inl rfl⟩
 case round =>
  obtain ⟨k, hk, rfl, hv, hi, hg, hb⟩ := hrel
  have HB := hid hb; clear hb
  have b2 : wr.cell? ⟨w.heap.size, 2, none⟩ = some (.slice a t.us.length cap) := grown_box hg HVL.out 2
  have hkeep : Keeps S w wr := Keeps.grown (grown_trans (grown_ext (Ext.one _ _) _) (.inl rfl) hg) fun b hb e => by have := (HL.out.block e.symm).1; have := HS.out b hb; omega
  have hgs := hg.size
  simp at hgs
  by_cases hlt : k < t.us.length
  ·obtain ⟨b, o, rfl⟩ := h3.some_ (by omega)
   obtain ⟨_, c1, c2, a1, cap1, c3, l1, l2, s1⟩ := SlT.readAt (h3.keep hkeep fun _ h _ => h) hlt
   have IH := hid (ih _ (List.getElem_mem hlt)); clear ih
   have hsz1 : (l ++ pnL (t.us.take k) l.length).length + (parts t.us[k]).length ≤ 1000000 := by
    have := partsL_at hlt
    have := HSZ.out
    rw [parts_eq, List.length_append] at this
    rw [List.length_append, pnL_len]; omega
   have hsz2 : (l ++ pnL (t.us.take (k + 1)) l.length).length ≤ 1000000 := by
    have h9 := hsz1
    rw [pnL_take hlt, ← List.append_assoc, List.length_append, pn_len]
    exact h9
   have hall : ∀ g, (u5 : Value).ownBlock = some g → w.heap.size + 1 ≤ g ∧ g < wr.heap.size := fun g hg => hi.block hg
   have HALL := hid hall; clear hall
   have HSZ1 := hid hsz1; clear hsz1
   have HSZ2 := hid hsz2; clear hsz2
   go_wp2_with fail
   refine (IH.out S _ base _ _ _ _ (hv.ext vok_pt (Ext.one _ _)) ⟨a1, cap1, rfl, l1, l2, s1.ext (Ext.one _ _)⟩ (by simp; omega) HS.out ?hsi HSZ1.out).mono ?_
   case hsi =>
    intro b hb
    have := HS.out b hb
    exact ⟨.inl (HSi.out b hb), fun e => by have := (HALL.out b e.symm).1; omega⟩
   rintro e w' ⟨v', rfl, hv', hg', hb'⟩
   rw [List.append_assoc, List.length_append, ← pnL_take hlt] at hv'
   have HB' := hid hb'; clear hb'
   have HIX := hid (idxs_take hlt l.length)
   have hi2 := (hi.ext vok_int (Ext.one _ _)).grown vok_int hg' ((hi.ext vok_int (Ext.one wr (.cells #[.int .i64 t.us[k].v, .int .i64 t.us[k].f, .slice a1 t.us[k].us.length cap1] 63))).ne_ (hv.ext vok_pt (Ext.one _ _)) (by decide)) (fun b hb => hb.elim)
   have hgw := grown_trans hg (by
    rcases HB.out with e | ⟨g, e, h⟩
    ·exact .inl e
    ·exact .inr ⟨g, e, by simp; omega⟩) (grown_trans (grown_ext (Ext.one _ (.cells #[.int .i64 t.us[k].v, .int .i64 t.us[k].f, .slice a1 t.us[k].us.length cap1] 63)) _) (.inl rfl) hg')
   have hblk : v'.ownBlock = vl.ownBlock ∨ ∃ g, v'.ownBlock = some g ∧ w.heap.size < g := by
    rcases HB'.out with e | ⟨g, e, h⟩
    ·rw [e]; exact HB.out
    ·exact .inr ⟨g, e, by simp at h; omega⟩
   have HBLK := hid hblk; clear hblk
   have hgs' := hgw.size
   simp at hgs'
   have hS2 : ∀ b, orNew (fun b => orNew Si w.heap.size b ∧ some b ≠ u5.ownBlock) (wr.heap.size + 1) b → orNew Si w.heap.size b ∧ some b ≠ u5.ownBlock := by
    rintro b (hb | hb)
    ·exact hb
    ·refine ⟨.inr (by omega), fun e => by have := (HALL.out b e.symm).2; omega⟩
   have hv2 := hv'.wide (S' := fun b => orNew Si w.heap.size b ∧ some b ≠ u5.ownBlock) vok_pt (fun b hb _ => hS2 b (by simpa using hb))
   have HV2 := hid hv2
   clear hv' hv hi hg hg' hS2 hv2
   obtain ⟨va, vc, rfl, vl1, vl2⟩ := HV2.out.slice
   unfold maxLen at vl2
   generalize hLL : l ++ pnL (t.us.take (k + 1)) l.length = L at *
   have HLL := hid hLL; clear hLL
   have hLn := HSZ2.out
   obtain ⟨xs, x1, x2, x3⟩ := hi2
   have X2 := hid x2; clear x2
   have X3 := hid x3; clear x3
   have hxs : xs.length ≤ 1000000 := by
    have h9 := HSZ.out
    have h10 := partsL_at hlt
    rw [parts_eq, List.length_append] at h9
    rw [X2.out, idxs_len, List.length_take]
    have := partsL_ge t.us
    omega
   go_wp2_with (at_builtin; refine wpList_push' ei_int rfl _ _ (by rfl) (.int .i64 (↑L.length - 1)) rfl rfl (by simp [Value.oneCell']) (by rfl) x1 (by rfl) (by omega) (by unfold maxLen; omega) (by omega) ?_; intro g1 cp1 w1 k1 k2 k3 k4)
   go_roundw
   case rel =>
    have hI := OwnX.push (V := IntV) (S := No') vok_int X2.out X3.out (t := ↑L.length - 1) rfl (S' := No') (fun b hb _ => hb.elim) k1 k2 k3
    refine ⟨k + 1, by omega, by go_num, ?_, ?_, ?_, HBLK.out⟩
    ·rw [HLL.out]
     have hne := HV2.out.ne_ (show OwnX IntV w' (w.heap.size + 1) 3 1 No' (idxs (t.us.take k) l.length) u5 from ⟨xs, x1, X2.out, X3.out⟩) (by decide)
     refine HV2.out.grown2 vok_pt k2 hne (fun b hb _ => hb.2) (fun b hb hl => ⟨hb.1, fun e => ?_⟩)
     have e' : b = g1 := by simpa [Value.ownBlock] using e
     subst e'
     rcases k3 with k3 | k3
     ·exact hb.2 k3.symm
     ·omega
    ·rw [HIX.out, ← List.length_append, HLL.out]; exact hI
    ·exact grown_trans2 hgw (fun g hg => .inr (by have := (HALL.out g hg).1; simp; omega)) k2
   case measure => simp [intOf]; omega
  ·obtain rfl : k = t.us.length := by omega
   have b0 : wr.cell? ⟨w.heap.size, 0, none⟩ = some (.int .i64 t.v) := grown_box hg HVL.out 0
   have b1 : wr.cell? ⟨w.heap.size, 1, none⟩ = some (.int .i64 t.f) := grown_box hg HVL.out 1
   clear ih
   have hall : ∀ g, (u5 : Value).ownBlock = some g → w.heap.size + 1 ≤ g ∧ g < wr.heap.size := fun g hg => hi.block hg
   have HALL := hid hall; clear hall
   have hne := hi.ne_ hv (by decide)
   have HNE := hid hne; clear hne
   have hsl := hi.slI
   rw [List.take_length] at hsl
   have HV3 := hid (hv.wide vok_pt (S' := orNew Si w.heap.size) fun b hb _ => hb.1)
   have hvb : ∀ g, (u0 : Value).ownBlock = some g → base ≤ g := fun g hg => (hv.block hg).1
   have HVB := hid hvb; clear hvb
   clear hv hi
   obtain ⟨ia, ic, rfl, i1, i2, i3⟩ := hsl
   have hy : PtV wr (fun b => S b ∨ (Value.slice ia (idxs t.us l.length).length ic).ownBlock = some b) (t, idxs t.us l.length) (.agg #[.int .i64 t.v, .int .i64 t.f, .slice a t.us.length cap, .slice ia (idxs t.us l.length).length ic]) :=
    ⟨a, cap, ia, ic, rfl, h1, h2, (h3.keep hkeep fun _ h _ => h).wide fun b hb _ => .inl hb, i1, i2, i3.keep (.ext (Ext.rfl' _)) fun b hb _ => .inr hb⟩
   have HY := hid hy; clear hy
   obtain ⟨xs, x1, x2, x3⟩ := HV3.out
   have X2 := hid x2; clear x2
   have X3 := hid x3; clear x3
   have hxs : xs.length ≤ 1000000 - 1 := by
    have := HSZ.out
    rw [parts_eq, List.length_append] at this
    rw [X2.out, List.length_append, List.take_length, pnL_len]
    simp at this
    omega
   generalize hil : (idxs t.us l.length).length = il at *
   have HIL := hid hil; clear hil
   go_wp2_with (at_builtin; refine wpList_push' ei_part rfl _ _ (by rfl) (.agg #[.int .i64 t.v, .int .i64 t.f, .slice a t.us.length cap, .slice ia il ic]) rfl rfl (by simp [Value.oneCell']) (by rfl) x1 (by rfl) (by omega) (by unfold maxLen; omega) (by omega) ?_; intro g1 cp1 w1 k1 k2 k3 k4)
   go_ret
   have hO := OwnX.push vok_pt X2.out X3.out HY.out (fun b hb hl => ?hS) k1 k2 k3
   case hS =>
    rcases hb with hb | hb
    ·exact ⟨.inl (HSi.out b hb), fun e => by have := HVB.out b e.symm; have := HS.out b hb; omega⟩
    ·refine ⟨.inr (by have := (HALL.out b hb).1; omega), fun e => ?_⟩
     rcases HNE.out with h | h
     ·exact h (hb.trans e)
     ·rw [h] at hb; cases hb
   refine ⟨_, rfl, ?_, ?_, ?_⟩
   ·rw [pn_eq, ← List.append_assoc]
    rw [List.take_length] at hO
    exact hO
   ·refine grown_trans (grown_trans (grown_ext (Ext.one _ _) _) (.inl rfl) hg) ?_ k2
    rcases HB.out with e | ⟨g, e, h⟩
    ·exact .inl e
    ·exact .inr ⟨g, e, by omega⟩
   ·rcases k3 with k3 | k3
    ·rcases HB.out with e | ⟨g, e, h⟩
     ·left; rw [← e, k3]; rfl
     ·right; exact ⟨g1, rfl, by rw [e] at k3; cases k3; omega⟩
    ·right; exact ⟨g1, rfl, by omega⟩
theorem partsO_any (t : Tm) : PartsOSpec t := Tm.ind partsO_step t
section
variable {pops : Array Oper} {gd : Nat → Option Tmp} {Yd : Nat → Value → Act → Prop} {Fin : Act → Prop}
def AnyY (pops : Array Oper) (gd : Nat → Option Tmp) (Yd : Nat → Value → Act → Prop) (Fin : Act → Prop) : Nat → Array Bool → Act → Prop
 | 0, listed, a => Region.ready .any pops listed = [] ∧ Fin a
 | f + 1, listed, a => (Region.ready .any pops listed = [] → Fin a) ∧ ∀ i ∈ Region.ready .any pops listed, ∃ v, Yd i v a ∧ AnyY pops gd Yd Fin f (listed.setIfInBounds i true) (a.put (gd i) v)
theorem anyY_first (hgd : ∀ i o, pops[i]? = some o → gd i = none ∨ gd i = o.dst)
  (hloc : ∀ i o, pops[i]? = some o → ∀ v a d u, (∀ t, d = some t → t ∉ o.looksAt pops) → (Yd i v (a.put d u) ↔ Yd i v a)) {i : Nat} {oi : Oper} {v : Value} (hi : pops[i]? = some oi) :
  ∀ (f : Nat) (listed : Array Bool) (a : Act), (∀ j oj, pops[j]? = some oj → j ≠ i → listed.getD j true = false → (∀ e ∈ oj.after, Region.binds .any e = true → e.on ≠ i) → oi.apart pops oj = true) →
   i ∈ Region.ready .any pops listed → Yd i v a → AnyY pops gd Yd Fin f (listed.setIfInBounds i true) (a.put (gd i) v) → AnyY pops gd Yd Fin (f + 1) listed a := by
 have hmem : ∀ {i o t}, pops[i]? = some o → gd i = some t → o.dst = some t := by
  intro i o t ho ht
  rcases hgd i o ho with h | h
  ·rw [h] at ht; cases ht
  ·rw [← h]; exact ht
 intro f
 induction f with
 | zero =>
  intro listed a _ hr hy H
  refine ⟨fun h => (by rw [h] at hr; cases hr), fun j hj => ?_⟩
  by_cases hji : j = i
  ·subst hji; exact ⟨v, hy, H⟩
  ·have := ready_mono hj hji
   rw [H.1] at this
   cases this
 | succ f ih =>
  intro listed a hfree hr hy H
  refine ⟨fun h => (by rw [h] at hr; cases hr), fun j hj => ?_⟩
  by_cases hji : j = i
  ·subst hji; exact ⟨v, hy, H⟩
  ·obtain ⟨u, hu, hn⟩ := H.2 j (ready_mono hj hji)
   obtain ⟨hjun, oj, hoj, hall⟩ := mem_ready.1 hj
   have hnot : ∀ e ∈ oj.after, Region.binds .any e = true → e.on ≠ i := fun e he hb heq => by
    have h1 := hall e he hb
    rw [heq, getD_both (mem_ready.1 hr).1] at h1
    cases h1
   obtain ⟨p1, p2, p3⟩ := Oper.apart_spec (hfree j oj hoj hji hjun hnot)
   refine ⟨u, (hloc j oj hoj u a (gd i) v (fun t ht => p1 t (hmem hi ht))).1 hu, ih (listed.setIfInBounds j true) (a.put (gd j) u) ?_ (ready_mono hr (Ne.symm hji))
    ((hloc i oi hi v a (gd j) u (fun t ht => p3 t (hmem hoj ht))).2 hy) ?_⟩
   ·intro k ok hk hki hun hno
    refine hfree k ok hk hki ?_ hno
    by_cases hjk : j = k
    ·subst hjk; exact hjun
    ·rw [getD_set_ne true hjk] at hun; exact hun
   ·rw [Array.setIfInBounds_comm _ _ hji, ← Act.put_comm a v u (fun t ht h => p2 t (hmem hi ht) (hmem hoj h))]
    exact hn
def TextY (gd : Nat → Option Tmp) (Yd : Nat → Value → Act → Prop) (Fin : Act → Prop) : Nat → Nat → Act → Prop
 | 0, _, a => Fin a
 | r + 1, k, a => ∃ v, Yd k v a ∧ TextY gd Yd Fin r (k + 1) (a.put (gd k) v)
theorem anyY_lex (hgd : ∀ i o, pops[i]? = some o → gd i = none ∨ gd i = o.dst)
  (hloc : ∀ i o, pops[i]? = some o → ∀ v a d u, (∀ t, d = some t → t ∉ o.looksAt pops) → (Yd i v (a.put d u) ↔ Yd i v a)) :
  ∀ (r k : Nat) (listed : Array Bool) (a : Act), Region.lexFrom .any pops r k listed = true → TextY gd Yd Fin r k a → AnyY pops gd Yd Fin r listed a
 | 0, _, _, _, hB, h => ⟨by simpa [Region.lexFrom] using hB, h⟩
 | r + 1, k, listed, a, hB, h => by
  simp only [Region.lexFrom, Bool.and_eq_true] at hB
  obtain ⟨⟨hr, hf⟩, hB'⟩ := hB
  have hr' : k ∈ Region.ready .any pops listed := by simpa using hr
  obtain ⟨_, o, ho, _⟩ := mem_ready.1 hr'
  obtain ⟨v, hy, hK⟩ := h
  exact anyY_first hgd hloc ho r listed a (Region.free_spec ho hf) hr' hy (anyY_lex hgd hloc r (k + 1) _ _ hB' hK)
end
def freshUpon (P : Program) (Φ : Value → Nat → Nat → World → Prop) (w : World) : Result Next → Prop
 | .ok (.value v) w' => Φ v w.heap.size w'.heap.size w' ∧ Ext w w'
 | .ok (.enter f args) w' => w' = w ∧ Calls P f args w fun e w'' => ∃ v, e = .returned v ∧ Φ v w.heap.size w''.heap.size w'' ∧ Ext w w''
 | _ => False
def FreshAt (P : Program) (C : World → Prop) (Φ : Value → Nat → Nat → World → Prop) (o : Oper) (a : Act) : Prop := ∀ w, C w → freshUpon P Φ w ((execOp a.eval o).run P w)
def over (F : List (Nat × Tmp)) (V : Nat → Value) (listed : Array Bool) (a : Act) : Act := F.foldl (fun a p => if listed.getD p.1 false = true then a.put (some p.2) (V p.1) else a) a
section
variable {P : Program} {pops : Array Oper} {V : Nat → Value} {listed : Array Bool}
theorem over_exec (o : Oper) (hs : ∀ cs b, o.op ≠ .select cs b) : ∀ (F : List (Nat × Tmp)) (a : Act), (∀ p ∈ F, p.2 ∉ o.looksAt pops) → execOp (over F V listed a).eval o = execOp a.eval o
 | [], _, _ => rfl
 | p :: F, a, h => by
  unfold over
  rw [List.foldl_cons]
  have h2 := over_exec o hs F (if listed.getD p.1 false = true then a.put (some p.2) (V p.1) else a) (fun q hq => h q (by simp [hq]))
  unfold over at h2
  rw [h2]
  split
  ·exact execOp_put o hs a _ _ fun d hd => by cases hd; exact h p (by simp)
  ·rfl
theorem over_wanted (o : Oper) : ∀ (F : List (Nat × Tmp)) (a : Act), (∀ p ∈ F, p.2 ∉ o.looksAt pops) → Region.wanted o (yielded pops (over F V listed a).tmps) = Region.wanted o (yielded pops a.tmps)
 | [], _, _ => rfl
 | p :: F, a, h => by
  unfold over
  rw [List.foldl_cons]
  have h2 := over_wanted o F (if listed.getD p.1 false = true then a.put (some p.2) (V p.1) else a) (fun q hq => h q (by simp [hq]))
  unfold over at h2
  rw [h2]
  split
  ·exact wanted_put o a _ _ fun d hd => by cases hd; exact h p (by simp)
  ·rfl
theorem over_put (d : Option Tmp) (v : Value) : ∀ (F : List (Nat × Tmp)) (a : Act), (∀ p ∈ F, d ≠ some p.2) → (over F V listed a).put d v = over F V listed (a.put d v)
 | [], _, _ => rfl
 | p :: F, a, h => by
  unfold over
  rw [List.foldl_cons, List.foldl_cons]
  have h2 := over_put d v F (if listed.getD p.1 false = true then a.put (some p.2) (V p.1) else a) (fun q hq => h q (by simp [hq]))
  unfold over at h2
  rw [h2]
  congr 1
  split
  ·exact Act.put_comm a _ _ fun t ht e => h p (by simp) (by rw [e, ht])
  ·rfl
theorem over_congr {V' : Nat → Value} {listed' : Array Bool} : ∀ (F : List (Nat × Tmp)) (a : Act), (∀ p ∈ F, V p.1 = V' p.1 ∧ listed.getD p.1 false = listed'.getD p.1 false) → over F V listed a = over F V' listed' a
 | [], _, _ => rfl
 | p :: F, a, h => by
  unfold over
  rw [List.foldl_cons, List.foldl_cons, (h p (by simp)).1, (h p (by simp)).2]
  exact over_congr F _ fun q hq => h q (by simp [hq])
theorem over_new {i : Nat} {t : Tmp} {v : Value} (hlt : i < listed.size) (hun : listed.getD i false = false) : ∀ (F : List (Nat × Tmp)) (a : Act), (F.map (·.1)).Nodup → (F.map (·.2)).Nodup → (i, t) ∈ F →
  (over F V listed a).put (some t) v = over F (fun j => if j = i then v else V j) (listed.setIfInBounds i true) a
 | [], _, _, _, h => by cases h
 | p :: F, a, h1, h2, h => by
  simp only [List.map_cons, List.nodup_cons] at h1 h2
  by_cases hp : p = (i, t)
  ·subst hp
   have e1 : over ((i, t) :: F) V listed a = over F V listed a := by
    unfold over
    rw [List.foldl_cons, if_neg (by simp only [hun]; exact Bool.false_ne_true)]
   have e2 : over ((i, t) :: F) (fun j => if j = i then v else V j) (listed.setIfInBounds i true) a = over F (fun j => if j = i then v else V j) (listed.setIfInBounds i true) (a.put (some t) v) := by
    unfold over
    rw [List.foldl_cons, if_pos (by simp [hlt])]
    simp
   rw [e1, e2, over_put _ _ F a (fun q hq e => h2.1 (by cases e; exact List.mem_map.2 ⟨q, hq, rfl⟩))]
   refine over_congr F _ fun q hq => ?_
   have hne : q.1 ≠ i := fun e => h1.1 (List.mem_map.2 ⟨q, hq, e⟩)
   exact ⟨by simp [hne], (getD_set_ne false (Ne.symm hne)).symm⟩
  ·have hF : (i, t) ∈ F := by
    rcases List.mem_cons.1 h with h | h
    ·exact absurd h.symm hp
    ·exact h
   have hne : p.1 ≠ i := fun e => h1.1 (by rw [e]; exact List.mem_map.2 ⟨_, hF, rfl⟩)
   have h3 := over_new (v := v) hlt hun F (if listed.getD p.1 false = true then a.put (some p.2) (V p.1) else a) h1.2 h2.2 hF
   unfold over at h3 ⊢
   rw [List.foldl_cons, List.foldl_cons, h3]
   congr 1
   rw [getD_set_ne false (Ne.symm hne)]
   simp [hne]
end
def frOf (F : List (Nat × Tmp)) (i : Nat) : Bool := F.any (·.1 == i)
theorem frOf_mem {F : List (Nat × Tmp)} {i : Nat} (h : frOf F i = true) : ∃ t, (i, t) ∈ F := by
 obtain ⟨p, hp, he⟩ := List.any_eq_true.1 h
 have : p.1 = i := by simpa using he
 exact ⟨p.2, by rw [← this]; exact hp⟩
theorem frOf_of {F : List (Nat × Tmp)} {p : Nat × Tmp} (h : p ∈ F) : frOf F p.1 = true := List.any_eq_true.2 ⟨p, h, by simp⟩
def gdOf (pops : Array Oper) (F : List (Nat × Tmp)) (i : Nat) : Option Tmp := if frOf F i then none else (pops[i]?).bind (·.dst)
def YdOf (P : Program) (C : World → Prop) (pops : Array Oper) (F : List (Nat × Tmp)) (Φ : Nat → Value → Nat → Nat → World → Prop) (i : Nat) (v : Value) (a : Act) : Prop :=
 match pops[i]? with
 | none => True
 | some o => if frOf F i then FreshAt P C (Φ i) o a else YieldsIn P pops C o v a
def wpMix (P : Program) (pops : Array Oper) (C : World → Prop) (F : List (Nat × Tmp)) (Φ : Nat → Value → Nat → Nat → World → Prop) (Fin : Act → Prop) : List Oper → Nat → Act → Prop
 | [], _, a => Fin a
 | o :: l, k, a => if frOf F k then FreshAt P C (Φ k) o a ∧ wpMix P pops C F Φ Fin l (k + 1) a
  else if Region.wanted o (yielded pops a.tmps) then o.quiet P a C (wpMix P pops C F Φ Fin l (k + 1)) else wpMix P pops C F Φ Fin l (k + 1) (a.put o.dst undef)
section
variable {P : Program} {pops : Array Oper} {C : World → Prop} {F : List (Nat × Tmp)} {Φ : Nat → Value → Nat → Nat → World → Prop} {Fin : Act → Prop}
theorem wpMix_nil {k : Nat} {a : Act} (h : Fin a) : wpMix P pops C F Φ Fin [] k a := h
theorem wpMix_want {o : Oper} {l : List Oper} {k : Nat} {a : Act} (hf : frOf F k = false) (hw : Region.wanted o (yielded pops a.tmps) = true) (h : ∀ K : Act → Prop, (∀ a, wpMix P pops C F Φ Fin l (k + 1) a → K a) → o.quiet P a C K) : wpMix P pops C F Φ Fin (o :: l) k a := by
 unfold wpMix
 rw [if_neg (by simp [hf]), if_pos hw]
 exact h _ fun _ h => h
theorem wpMix_fresh {o : Oper} {l : List Oper} {k : Nat} {a : Act} (hf : frOf F k = true) (h1 : ∀ w, C w → freshUpon P (Φ k) w ((execOp a.eval o).run P w)) (h2 : wpMix P pops C F Φ Fin l (k + 1) a) : wpMix P pops C F Φ Fin (o :: l) k a := by
 unfold wpMix
 rw [if_pos hf]
 exact ⟨h1, h2⟩
theorem textY_of_mix : ∀ (l : List Oper) (k : Nat) (a : Act), (∀ j, l[j]? = pops[k + j]?) → wpMix P pops C F Φ Fin l k a → TextY (gdOf pops F) (YdOf P C pops F Φ) Fin l.length k a
 | [], _, _, _, h => h
 | o :: l, k, a, hl, h => by
  have h0 : pops[k]? = some o := by simpa using (hl 0).symm
  have hrec : ∀ a, wpMix P pops C F Φ Fin l (k + 1) a → TextY (gdOf pops F) (YdOf P C pops F Φ) Fin l.length (k + 1) a := fun a => textY_of_mix l (k + 1) a (fun j => by have := hl (j + 1); simpa [Nat.add_assoc, Nat.add_comm 1 j] using this)
  simp only [List.length_cons, TextY]
  unfold wpMix at h
  by_cases hf : frOf F k = true
  ·rw [if_pos hf] at h
   refine ⟨undef, ?_, ?_⟩
   ·simp only [YdOf, h0, hf, if_true]; exact h.1
   ·have : gdOf pops F k = none := by simp [gdOf, hf]
    rw [this]
    exact hrec _ h.2
  ·rw [if_neg hf] at h
   have hg : gdOf pops F k = o.dst := by simp [gdOf, hf, h0]
   by_cases hw : Region.wanted o (yielded pops a.tmps) = true
   ·rw [if_pos hw] at h
    obtain ⟨v, h1, h2⟩ := h
    refine ⟨v, ?_, by rw [hg]; exact hrec _ h2⟩
    simp only [YdOf, h0, hf, Bool.false_eq_true, if_false]
    exact .inl ⟨hw, h1⟩
   ·rw [if_neg hw] at h
    refine ⟨undef, ?_, by rw [hg]; exact hrec _ h⟩
    simp only [YdOf, h0, hf, Bool.false_eq_true, if_false]
    exact .inr ⟨by simpa using hw, rfl⟩
end
def sepB (pops : Array Oper) (F : List (Nat × Tmp)) : Bool :=
 ((List.range pops.size).all fun i => match pops[i]? with
  | some o => F.all fun p => !(o.looksAt pops).contains p.2 && (p.1 == i || o.dst != some p.2)
  | none => true) &&
 (F.all fun p => match pops[p.1]? with
  | some o => o.dst == some p.2 && o.guard.isNone
  | none => false) && decide ((F.map (·.1)).Nodup) && decide ((F.map (·.2)).Nodup)
section
variable {P : Program} {ops pops : Array Oper} {Q : Exit → Act → World → Prop} {n : Nat} {w0 : World} {F : List (Nat × Tmp)} {Φ : Nat → Value → Nat → Nat → World → Prop} {Fin : Act → Prop}
structure Came (w0 : World) (F : List (Nat × Tmp)) (Φ : Nat → Value → Nat → Nat → World → Prop) (listed : Nat → Bool) (V : Nat → Value) (lo hi : Nat → Nat) (w : World) : Prop where
 each : ∀ p ∈ F, listed p.1 = true → Φ p.1 (V p.1) (lo p.1) (hi p.1) w ∧ w0.heap.size ≤ lo p.1 ∧ hi p.1 ≤ w.heap.size
 apart : ∀ p ∈ F, ∀ q ∈ F, listed p.1 = true → listed q.1 = true → p.1 ≠ q.1 → hi p.1 ≤ lo q.1 ∨ hi q.1 ≤ lo p.1
theorem wpAny_fresh (hn : n ≤ ops.size) (hpn : pops.size = n) (hp : ∀ i, i < n → pops[i]? = ops[i]?) (hback : backB ops = true) (hsink : Region.sinkB .any ops n = true) (hchain : Region.chainB .any ops n = true)
  (hnlt : n < ops.size) (hsel : Region.noSelect pops = true) (hsep : sepB pops F = true) (hpl : ∀ i o, pops[i]? = some o → frOf F i = false → plainOp o.op = true) (hΦ : ∀ i v l h w w', Φ i v l h w → Ext w w' → Φ i v l h w')
  (hQ : ∀ a V lo hi w, Ext w0 w → Came w0 F Φ (fun _ => true) V lo hi w → Fin a → wpList P ops Q (ops.toList.drop n) (F.foldl (fun a p => a.put (some p.2) (V p.1)) a) w) :
  ∀ (fuel : Nat) (listed : Array Bool) (a : Act) (V : Nat → Value) (lo hi : Nat → Nat) (w : World), Ext w0 w → HeadInv .any ops n listed → Came w0 F Φ (fun i => listed.getD i false) V lo hi w →
   AnyY pops (gdOf pops F) (YdOf P (Ext w0) pops F Φ) Fin fuel listed a → wpAny P .any ops Q (fuel + (ops.size - n)) listed (over F V listed a) w := by
 simp only [sepB, Bool.and_eq_true, decide_eq_true_eq] at hsep
 obtain ⟨⟨⟨hs1, hs2⟩, hs3⟩, hs4⟩ := hsep
 have hlook : ∀ i o, pops[i]? = some o → ∀ p ∈ F, p.2 ∉ o.looksAt pops ∧ (p.1 ≠ i → o.dst ≠ some p.2) := by
  intro i o ho p hpF
  have hlt : i < pops.size := (Array.getElem?_eq_some_iff.1 ho).1
  have h1 := List.all_eq_true.1 hs1 i (List.mem_range.2 hlt)
  rw [ho] at h1
  have h2 := List.all_eq_true.1 h1 p hpF
  simp only [Bool.and_eq_true, Bool.or_eq_true, beq_iff_eq, bne_iff_ne, Bool.not_eq_true', ne_eq] at h2
  refine ⟨fun hc => ?_, fun hne => ?_⟩
  ·have := h2.1
   rw [List.contains_iff_mem.2 hc] at this
   cases this
  ·rcases h2.2 with h | h
   ·exact absurd h hne
   ·exact h
 have hF : ∀ p ∈ F, ∃ o, pops[p.1]? = some o ∧ o.dst = some p.2 ∧ o.guard = none := by
  intro p hpF
  have h1 := List.all_eq_true.1 hs2 p hpF
  cases ho : pops[p.1]? with
  | none => rw [ho] at h1; cases h1
  | some o =>
   rw [ho] at h1
   simp only [Bool.and_eq_true, beq_iff_eq, Option.isNone_iff_eq_none] at h1
   exact ⟨o, rfl, h1.1, h1.2⟩
 have hrd : ∀ listed i, i < n → (i ∈ Region.ready .any pops listed ↔ i ∈ Region.ready .any ops listed) := by
  intro listed i hi
  rw [mem_ready, mem_ready, hp i hi]
 have hlt : ∀ listed i, i ∈ Region.ready .any pops listed → i < n := by
  intro listed i hi
  obtain ⟨_, o, ho, _⟩ := mem_ready.1 hi
  have := (Array.getElem?_eq_some_iff.1 ho).1
  omega
 have hdone : ∀ (fuel : Nat) (listed : Array Bool) (a : Act) (V : Nat → Value) (lo hi : Nat → Nat) (w : World), ops.size - n ≤ fuel → Ext w0 w → HeadInv .any ops n listed → Came w0 F Φ (fun i => listed.getD i false) V lo hi w →
   Region.ready .any pops listed = [] → Fin a → wpAny P .any ops Q fuel listed (over F V listed a) w := by
  intro fuel listed a V lo hi w hf hC inv hcm hr hq
  have hall : ∀ i, i < n → listed.getD i false = true := by
   intro i
   induction i using Nat.strongRecOn with
   | _ i ih =>
    intro hi
    by_cases hl : listed.getD i false = true
    ·exact hl
    ·exfalso
     have hio : ops[i]? = some (ops[i]'(by omega)) := Array.getElem?_eq_getElem (by omega)
     have : i ∈ Region.ready .any pops listed := (hrd listed i hi).2 (mem_ready.2 ⟨getD_in (by rw [inv.size]; omega) (by simpa using hl), _, hio, fun e he hb => by
      have := backB_spec hback hio e he hb
      exact ih _ this (by omega)⟩)
     rw [hr] at this
     cases this
  have hFn : ∀ p ∈ F, p.1 < n := fun p hpF => by
   obtain ⟨o, ho, _⟩ := hF p hpF
   have := (Array.getElem?_eq_some_iff.1 ho).1
   omega
  have e : over F V listed a = F.foldl (fun a p => a.put (some p.2) (V p.1)) a := by
   have : ∀ (G : List (Nat × Tmp)) (a : Act), (∀ p ∈ G, p.1 < n) → over G V listed a = G.foldl (fun a p => a.put (some p.2) (V p.1)) a := by
    intro G
    induction G with
    | nil => intro a _; rfl
    | cons p G ih =>
     intro a h
     unfold over
     rw [List.foldl_cons, List.foldl_cons, if_pos (hall _ (h p (by simp)))]
     exact ih _ fun q hq => h q (by simp [hq])
   exact this F a hFn
  rw [e]
  refine wpAny_tail hback hchain (ops.size - n) n fuel listed _ w (ops.toList.drop n) (by omega) (Nat.le_refl _) hf inv.size hall inv.tail (fun j => by simp) (hQ a V lo hi w hC ⟨fun p hpF _ => hcm.each p hpF (hall _ (hFn p hpF)), fun p hpF q hqF _ _ => hcm.apart p hpF q hqF (hall _ (hFn p hpF)) (hall _ (hFn q hqF))⟩ hq)
 intro fuel
 induction fuel with
 | zero =>
  intro listed a V lo hi w hC inv hcm h
  exact hdone _ listed a V lo hi w (by omega) hC inv hcm h.1 h.2
 | succ fuel ih =>
  intro listed a V lo hi w hC inv hcm h
  by_cases hr : Region.ready .any pops listed = []
  ·exact hdone _ listed a V lo hi w (by omega) hC inv hcm hr (h.1 hr)
  ·obtain ⟨i0, hi0⟩ := List.exists_mem_of_ne_nil _ hr
   have hun := (mem_ready.1 ((hrd listed i0 (hlt _ _ hi0)).1 hi0)).1
   have htail : ∀ j ∈ Region.ready .any ops listed, j < n := by
    intro j hj
    rcases Nat.lt_or_ge j n with h | h
    ·exact h
    ·exact absurd hj (tail_waits hsink hchain hnlt inv _ i0 rfl (hlt _ _ hi0) hun j h)
   rw [show fuel + 1 + (ops.size - n) = (fuel + (ops.size - n)) + 1 by omega]
   refine ⟨fun h0 => (by have := (hrd listed i0 (hlt _ _ hi0)).1 hi0; rw [h0] at this; cases this), fun i hir => ?_⟩
   have hin := htail i hir
   have hiP := (hrd listed i hin).2 hir
   obtain ⟨v, hy, hnx⟩ := h.2 i hiP
   obtain ⟨hiu, o, ho, _⟩ := mem_ready.1 hiP
   have hns : ∀ cs b, o.op ≠ .select cs b := fun cs b => Region.noSelect_spec hsel i o cs b ho
   have hlo := hlook i o ho
   have hex := over_exec (pops := pops) (V := V) (listed := listed) o hns F a (fun p hpF => (hlo p hpF).1)
   have hsz : i < listed.size := by rw [inv.size]; omega
   unfold wpOp
   rw [← hp i hin, ho]
   simp only
   by_cases hf : frOf F i = true
   ·obtain ⟨t, ht⟩ := frOf_mem hf
    obtain ⟨o', ho', hd, hg⟩ := hF _ ht
    obtain rfl : o' = o := Option.some.inj (ho'.symm.trans ho)
    have hgd : gdOf pops F i = none := by simp [gdOf, hf]
    rw [hgd] at hnx
    simp only [YdOf, ho, hf, if_true] at hy
    rw [if_pos (by simp [Region.wanted, hg])]
    left
    have hu := hy w hC
    rw [← hex] at hu
    have hgo : ∀ u w', Φ i u w.heap.size w'.heap.size w' → Ext w w' → wpAny P .any ops Q (fuel + (ops.size - n)) (listed.setIfInBounds i true) ((over F V listed a).put o'.dst u) w' := by
     intro u w' hphi hx
     rw [hd, over_new hsz (getD_both hiu) F a hs3 hs4 ht]
     refine ih _ a _ (fun j => if j = i then w.heap.size else lo j) (fun j => if j = i then w'.heap.size else hi j) w' (hC.step hx) (inv.set hir hin) ⟨?_, ?_⟩ hnx
     ·intro p hpF hl
      by_cases hpi : p.1 = i
      ·simp only [hpi, if_true]
       exact ⟨hphi, hC.size, Nat.le_refl _⟩
      ·simp only [hpi, if_false]
       rw [getD_set_ne false (Ne.symm hpi)] at hl
       obtain ⟨q1, q2, q3⟩ := hcm.each p hpF hl
       exact ⟨hΦ _ _ _ _ _ _ q1 hx, q2, Nat.le_trans q3 hx.size⟩
     ·intro p hpF q hqF hl hl' hne
      by_cases hpi : p.1 = i
      ·have hqi : q.1 ≠ i := fun e => hne (hpi.trans e.symm)
       simp only [hpi, hqi, if_true, if_false]
       rw [getD_set_ne false (Ne.symm hqi)] at hl'
       exact .inr (hcm.each q hqF hl').2.2
      ·by_cases hqi : q.1 = i
       ·simp only [hpi, hqi, if_true, if_false]
        rw [getD_set_ne false (Ne.symm hpi)] at hl
        exact .inl (hcm.each p hpF hl).2.2
       ·simp only [hpi, hqi, if_false]
        rw [getD_set_ne false (Ne.symm hpi)] at hl
        rw [getD_set_ne false (Ne.symm hqi)] at hl'
        exact hcm.apart p hpF q hqF hl hl' hne
    unfold Oper.wp
    generalize (execOp (over F V listed a).eval o').run P w = r at *
    cases r with
    | ok x w' =>
     cases x <;> simp only [freshUpon] at hu <;> simp only [Oper.upon]
     case value u => exact hgo u w' hu.1 hu.2
     case enter f args =>
      obtain ⟨e1, hc⟩ := hu
      rw [e1]
      exact hc.mono fun e w'' ⟨u, he, h1, h2⟩ => by subst he; exact hgo u w'' h1 h2
    | halt x w' => simp only [freshUpon] at hu
   ·have hgd : gdOf pops F i = o.dst := by simp [gdOf, hf, ho]
    rw [hgd] at hnx
    simp only [YdOf, ho, hf, Bool.false_eq_true, if_false] at hy
    have hne : ∀ p ∈ F, o.dst ≠ some p.2 := fun p hpF => (hlo p hpF).2 fun e => hf (by rw [← e]; exact frOf_of hpF)
    have hrec : ∀ w', Ext w0 w' → Came w0 F Φ (fun i => listed.getD i false) V lo hi w' → wpAny P .any ops Q (fuel + (ops.size - n)) (listed.setIfInBounds i true) ((over F V listed a).put o.dst v) w' := by
     intro w' hC' hcm'
     rw [over_put o.dst v F a hne]
     have e : over F V listed (a.put o.dst v) = over F V (listed.setIfInBounds i true) (a.put o.dst v) := over_congr F _ fun p hpF => ⟨rfl, by
      have : p.1 ≠ i := fun e => hf (by rw [← e]; exact frOf_of hpF)
      rw [getD_set_ne false (Ne.symm this)]⟩
     rw [e]
     refine ih _ _ V lo hi w' hC' (inv.set hir hin) ⟨fun p hpF hl => ?_, fun p hpF q hqF hl hl' => ?_⟩ hnx
     ·rw [getD_set_ne false (fun e => hf (by rw [e]; exact frOf_of hpF))] at hl
      exact hcm'.each p hpF hl
     ·rw [getD_set_ne false (fun e => hf (by rw [e]; exact frOf_of hpF))] at hl
      rw [getD_set_ne false (fun e => hf (by rw [e]; exact frOf_of hqF))] at hl'
      exact hcm'.apart p hpF q hqF hl hl'
    have hcmx : ∀ w', Ext w w' → Came w0 F Φ (fun i => listed.getD i false) V lo hi w' := fun w' hx =>
     ⟨fun p hpF hl => by
      obtain ⟨q1, q2, q3⟩ := hcm.each p hpF hl
      exact ⟨hΦ _ _ _ _ _ _ q1 hx, q2, Nat.le_trans q3 hx.size⟩, hcm.apart⟩
    have hwt : Region.wanted o (yielded ops (over F V listed a).tmps) = Region.wanted o (yielded pops a.tmps) := by
     rw [← over_wanted (pops := pops) (V := V) (listed := listed) o F a (fun p hpF => (hlo p hpF).1)]
     unfold Region.wanted
     cases hg : o.guard with
     | none => rfl
     | some g =>
      obtain ⟨j, want⟩ := g
      simp only
      have hj : j < n := by have := backB_guard hback ((hp i hin).symm.trans ho) hg; omega
      unfold yielded
      rw [hp j hj]
    rw [hwt]
    rcases hy with ⟨hw, hv⟩ | ⟨hw, rfl⟩
    ·rw [if_pos hw]
     left
     have hu := hv w hC
     unfold Oper.quietAt at hu
     rw [← hex] at hu
     unfold Oper.wp
     generalize hrun : (execOp (over F V listed a).eval o).run P w = r at *
     cases r with
     | ok x w' =>
      cases x <;> simp only [Oper.quietUpon] at hu <;> simp only [Oper.upon]
      case value u =>
       obtain ⟨e1, e2⟩ := hu
       rw [e1, e2]
       exact hrec w hC hcm
      case skip =>
       obtain ⟨e1, e2⟩ := hu
       rw [e1, ← e2]
       exact hrec w hC hcm
      case enter f args => exact absurd hrun (noEnter (hpl i o ho (by simpa using hf)))
     | halt x w' => simp only [Oper.quietUpon] at hu
    ·rw [if_neg (by simp [hw])]
     exact hrec w hC hcm
end
def freshB (l : List Oper) (n : Nat) (F : List (Nat × Tmp)) : Bool :=
 Region.noSelect (l.take n).toArray && Region.lexFrom .any (l.take n).toArray n 0 (Array.replicate l.length false) && backB l.toArray && Region.sinkB .any l.toArray n && Region.chainB .any l.toArray n && decide (n < l.length) &&
  sepB (l.take n).toArray F && ((l.take n).zipIdx.all fun p => frOf F p.2 || plainOp p.1.op)
theorem wp_region_fresh {P : Program} {id : Nat} {Q : Exit → Act → World → Prop} {a : Act} {w : World} {l : List Oper} (n : Nat) (F : List (Nat × Tmp)) (Φ : Nat → Value → Nat → Nat → World → Prop) (hm : P.follows .mixedOrders = true)
  (hB : freshB l n F = true) (hΦ : ∀ i v l h w w', Φ i v l h w → Ext w w' → Φ i v l h w')
  (h : ∀ (I : Type) [Nonempty I] (W : I → World), (∀ i, Ext w (W i)) → wpMix P (l.take n).toArray (fun w' => ∃ i, w' = W i) F Φ
   (fun a' => ∀ V lo hi w', Ext w w' → Came w F Φ (fun _ => true) V lo hi w' → wpList P l.toArray Q (l.drop n) (F.foldl (fun a p => a.put (some p.2) (V p.1)) a') w') (l.take n) 0 a) : (Code.region id l.toArray true).wp P Q a w := by
 simp only [freshB, Bool.and_eq_true, decide_eq_true_eq] at hB
 obtain ⟨⟨⟨⟨⟨⟨⟨h1, h2⟩, h3⟩, h4⟩, h5⟩, h6⟩, h7⟩, h8⟩ := hB
 haveI : Nonempty { w' // Ext w w' } := ⟨⟨w, Ext.rfl' w⟩⟩
 have hl := h { w' // Ext w w' } (fun i => i.1) (fun i => i.2)
 have hCe : (fun w' => ∃ i : { w' // Ext w w' }, w' = i.1) = Ext w := funext fun w' => propext ⟨fun ⟨i, e⟩ => e ▸ i.2, fun h => ⟨⟨w', h⟩, rfl⟩⟩
 rw [hCe] at hl
 have hlen : (l.take n).length = n := by rw [List.length_take]; omega
 have htx := textY_of_mix (l.take n) 0 a (by simp) hl
 rw [hlen] at htx
 have hgd : ∀ i o, (l.take n).toArray[i]? = some o → gdOf (l.take n).toArray F i = none ∨ gdOf (l.take n).toArray F i = o.dst := by
  intro i o ho
  unfold gdOf
  split
  ·exact .inl rfl
  ·right; rw [ho]; rfl
 have hloc : ∀ i o, (l.take n).toArray[i]? = some o → ∀ v a d u, (∀ t, d = some t → t ∉ o.looksAt (l.take n).toArray) → (YdOf P (Ext w) (l.take n).toArray F Φ i v (a.put d u) ↔ YdOf P (Ext w) (l.take n).toArray F Φ i v a) := by
  intro i o ho v a d u hd
  have hns : ∀ cs b, o.op ≠ .select cs b := fun cs b => Region.noSelect_spec h1 i o cs b ho
  have e1 := execOp_put (ops := (l.take n).toArray) o hns a d u hd
  have e2 := wanted_put (ops := (l.take n).toArray) o a d u hd
  simp only [YdOf, ho]
  split
  ·unfold FreshAt; rw [e1]
  ·exact ⟨fun hy => hy.of_same e1.symm e2.symm, fun hy => hy.of_same e1 e2⟩
 have hany := anyY_lex hgd hloc n 0 (Array.replicate l.length false) a h2 htx
 refine wp_region_any hm ?_
 have := wpAny_fresh (P := P) (ops := l.toArray) (pops := (l.take n).toArray) (Q := Q) (n := n) (w0 := w) (F := F) (Φ := Φ) (by simp; omega) (by simpa using hlen) (fun i hi => by simp [hi]) h3 h4 h5 (by simpa using h6) h1 h7
  (fun i o ho hf => by
   have hlt : i < n := by have := (Array.getElem?_eq_some_iff.1 ho).1; simp at this; omega
   have hmem : (o, i) ∈ (l.take n).zipIdx := List.mem_zipIdx_iff_getElem?.2 (by simpa using ho)
   have h9 := List.all_eq_true.1 h8 _ hmem
   simpa [hf] using h9)
  hΦ (fun a V lo hi w' hx hc hf => by simpa using hf V lo hi w' hx hc) n (Array.replicate l.length false) a (fun _ => undef) (fun _ => 0) (fun _ => 0) _ (Ext.draw (Ext.rfl' w))
  ⟨by simp, fun j oj hj hl => (by rw [getD_replicate_false] at hl; cases hl), fun t ht ht' => (by simp at ht'; simp [ht'])⟩
  ⟨fun p _ hl => (by rw [getD_replicate_false] at hl; cases hl), fun p _ q _ hl => (by rw [getD_replicate_false] at hl; cases hl)⟩ hany
 have e : n + (l.toArray.size - n) = l.toArray.size := by simp; omega
 rw [e] at this
 have e2 : over F (fun _ => undef) (Array.replicate l.length false) a = a := by
  have : ∀ (G : List (Nat × Tmp)) (a : Act), over G (fun _ => undef) (Array.replicate l.length false) a = a := by
   intro G
   induction G with
   | nil => intro a; rfl
   | cons p G ih =>
    intro a
    unfold over
    rw [List.foldl_cons, getD_replicate_false, if_neg Bool.false_ne_true]
    exact ih a
  exact this F a
 rw [e2] at this
 simpa using this
theorem PtC.keep {w w' : World} {S S' : Nat → Prop} (hk : Keeps S w w') (hs : ∀ b, S b → b < w.heap.size → S' b) {p : Tm × List Int} {ad : Addr} (h1 : S ad.block) (h2 : ad.block < w.heap.size) (h : PtC w S p ad) : PtC w' S' p ad := by
 obtain ⟨h3, a, cap, h4, h5, h6, h7⟩ := h
 exact ⟨TmC.keep hk hs _ _ h1 h2 h3, a, cap, (hk.cell (ad := ad.add 3) h1 h2).trans h4, h5, h6, h7.keep hk hs⟩
theorem SlP.keep {w w' : World} {S S' : Nat → Prop} {ps : List (Tm × List Int)} {a : Option Addr} (h : SlP w S ps a) (hk : Keeps S w w') (hs : ∀ b, S b → b < w.heap.size → S' b) : SlP w' S' ps a :=
 Sl.mono h hs hk.1 fun _ _ _ h1 h2 h3 => PtC.keep hk hs h1 h2 h3
theorem SlP.wide {w : World} {S : Nat → Prop} (S' : Nat → Prop) {ps : List (Tm × List Int)} {a : Option Addr} (h : SlP w S ps a) (hs : ∀ b, S b → b < w.heap.size → S' b) : SlP w S' ps a := h.keep (.ext (Ext.rfl' w)) hs
theorem OwnX.slP' {w : World} {base : Nat} {S S' : Nat → Prop} {ts : List (Tm × List Int)} {v : Value} (h : OwnX PtV w base 178 4 S ts v) (hS : ∀ b, S b → b < w.heap.size → S' b) (hv : ∀ b, v.ownBlock = some b → S' b) :
  ∃ a cap, v = .slice a ts.length cap ∧ ts.length ≤ cap ∧ cap ≤ maxLen ∧ SlP w S' ts a := by
 obtain ⟨a, cap, h1, h2, h3, h4⟩ := h.sl (R := PtC w S') fun t x b o ⟨a, cap, a2, cap2, e, h1, h2, h3, h4, h5, h6⟩ _ hc => by
  subst e
  have c0 := hc 0 (by omega)
  have c1 := hc 1 (by omega)
  have c2 := hc 2 (by omega)
  have c3 := hc 3 (by omega)
  exact ⟨TmC.iff.2 ⟨c0, by rw [add_none]; exact c1, a, cap, by rw [add_none]; exact c2, h1, h2, h3.wide fun b hb hl => hS b hb.1 hl⟩, a2, cap2, by rw [add_none]; exact c3, h4, h5, h6.keep (.ext (Ext.rfl' w)) fun b hb hl => hS b hb.1 hl⟩
 exact ⟨a, cap, h1, h2, h3, Sl.mono h4 (fun _ hb _ => hv _ hb) (Nat.le_refl _) fun _ _ _ _ _ h => h⟩
theorem MapF.made (w : World) : MapF (w.alloc (.map #[] 0)) w.heap.size (fun _ => false) := ⟨[], MapV.made _ _, fun _ => rfl⟩
def abPhi (n0 : Nat) (s t : Tm) (i : Nat) (v : Value) (lo hi : Nat) (w : World) : Prop :=
 (i = 1 → ∃ a cap, v = .slice a (pn s 0).length cap ∧ (pn s 0).length ≤ cap ∧ cap ≤ maxLen ∧ SlP w (fun b => b < n0 ∨ lo ≤ b ∧ b < hi) (pn s 0) a) ∧
 (i = 3 → ∃ a cap, v = .slice a (pn t 0).length cap ∧ (pn t 0).length ≤ cap ∧ cap ≤ maxLen ∧ SlP w (fun b => b < n0 ∨ lo ≤ b ∧ b < hi) (pn t 0) a) ∧
 (i = 4 ∨ i = 5 → v = .map (some lo) ∧ MapF w lo (fun _ => false) ∧ lo < hi)
theorem abPhi_ext {n0 : Nat} {s t : Tm} (i : Nat) (v : Value) (lo hi : Nat) (w w' : World) (h : abPhi n0 s t i v lo hi w) (hx : Ext w w') : abPhi n0 s t i v lo hi w' := by
 obtain ⟨h1, h2, h3⟩ := h
 refine ⟨fun e => ?_, fun e => ?_, fun e => ?_⟩
 ·obtain ⟨a, cap, q1, q2, q3, q4⟩ := h1 e
  exact ⟨a, cap, q1, q2, q3, q4.ext hx⟩
 ·obtain ⟨a, cap, q1, q2, q3, q4⟩ := h2 e
  exact ⟨a, cap, q1, q2, q3, q4.ext hx⟩
 ·obtain ⟨q1, q2, q3⟩ := h3 e
  exact ⟨q1, q2.ext hx, q3⟩
theorem abParts (t : Tm) (S : Nat → Prop) (x : Value) (w : World) (n0 : Nat) (hx : TmV w S t x) (hS : ∀ b, S b → b < n0) (hn0 : n0 ≤ w.heap.size) (hn : (parts t).length ≤ 1000000) :
  Calls Tryz.prog 143 #[.slice none 0 0, x] w fun e w' => ∃ v, e = .returned v ∧ (∃ a cap, v = .slice a (pn t 0).length cap ∧ (pn t 0).length ≤ cap ∧ cap ≤ maxLen ∧ SlP w' (fun b => b < n0 ∨ w.heap.size ≤ b ∧ b < w'.heap.size) (pn t 0) a) ∧ Ext w w' := by
 refine (partsO_any t S (fun b => b < n0) w.heap.size [] (.slice none 0 0) x w (OwnX.nil_ _ _ _ _ _ _) hx (Nat.le_refl _) (fun b hb => by have := hS b hb; omega) hS (by simpa using hn)).mono ?_
 rintro e w' ⟨v, rfl, h1, h2, h3⟩
 refine ⟨v, rfl, ?_, h2.os, h2.tape, h2.output, h2.size, fun k hk => h2.block k hk (by simp [Value.ownBlock])⟩
 exact OwnX.slP' h1 (fun b hb hl => by
  rcases hb with hb | hb
  ·exact .inl hb
  ·exact .inr ⟨hb, hl⟩) (fun b hb => .inr (h1.block hb))
set_option maxRecDepth 100000 in
set_option maxHeartbeats 2000000 in
theorem above_any (S : Nat → Prop) (s t : Tm) (xs xt : Value) (w : World) (hs : TmV w S s xs) (ht : TmV w S t xt) (hS : ∀ b, S b → b < w.heap.size) (har : Arit (pn s 0) (pn t 0)) (hn : (parts s).length ≤ 1000000) (hn' : (parts t).length ≤ 1000000) :
  Calls Tryz.prog 137 #[xs, xt] w fun e w' => e = .returned (.bool (gt s t)) ∧ Ext w w' := by
 obtain ⟨a, cap, rfl, l1, l2, l3⟩ := hs
 obtain ⟨a', cap', rfl, l1', l2', l3'⟩ := ht
 have HS := hid hS; clear hS
 have HN := hid hn; clear hn
 have HN' := hid hn'; clear hn'
 have HA := hid har; clear har
 have hmm := @run_makeMap Tryz.prog
 go_enter Tryz.func137, Tryz.ntmps137
 go_upto_region 1 with (fail)
 refine wp_region_fresh 6 [(1, 9), (3, 11), (4, 12), (5, 13)] (abPhi w.heap.size s t) (by kernel_rfl) (by kernel_rfl) abPhi_ext ?_
 intro I _ W hE
 have b0 : ∀ i, (W i).cell? ⟨w.heap.size, 0, none⟩ = some (.int .i64 s.v) := mild_cell hE (by go_simp)
 have b1 : ∀ i, (W i).cell? ⟨w.heap.size, 1, none⟩ = some (.int .i64 s.f) := mild_cell hE (by go_simp)
 have b2 : ∀ i, (W i).cell? ⟨w.heap.size, 2, none⟩ = some (.slice a s.us.length cap) := mild_cell hE (by go_simp)
 have c0 : ∀ i, (W i).cell? ⟨w.heap.size + 1, 0, none⟩ = some (.int .i64 t.v) := mild_cell hE (by go_simp)
 have c1 : ∀ i, (W i).cell? ⟨w.heap.size + 1, 1, none⟩ = some (.int .i64 t.f) := mild_cell hE (by go_simp)
 have c2 : ∀ i, (W i).cell? ⟨w.heap.size + 1, 2, none⟩ = some (.slice a' t.us.length cap') := mild_cell hE (by go_simp)
 refine wpMix_want (by rfl) (by rfl) ?_; intro K hK; go_big_quiet_op; go_big_quiet_on
 refine wpMix_fresh (by rfl) ?_ ?_
 ·rintro _ ⟨i, rfl⟩
  go_simp
  refine ⟨rfl, (abParts s S _ (W i) w.heap.size (TmV.ext ⟨a, cap, rfl, l1, l2, l3⟩ ((Ext.two _ _ _).step (hE i))) HS.out (by have := (hE i).size; simp at this; omega) HN.out).mono ?_⟩
  rintro e w' ⟨v, rfl, h1, h2⟩
  exact ⟨v, rfl, ⟨fun _ => h1, fun h => absurd h (by decide), fun h => absurd h (by decide)⟩, h2⟩
 refine wpMix_want (by rfl) (by rfl) ?_; intro K hK; go_big_quiet_op; go_big_quiet_on
 refine wpMix_fresh (by rfl) ?_ ?_
 ·rintro _ ⟨i, rfl⟩
  go_simp
  refine ⟨rfl, (abParts t S _ (W i) w.heap.size (TmV.ext ⟨a', cap', rfl, l1', l2', l3'⟩ ((Ext.two _ _ _).step (hE i))) HS.out (by have := (hE i).size; simp at this; omega) HN'.out).mono ?_⟩
  rintro e w' ⟨v, rfl, h1, h2⟩
  exact ⟨v, rfl, ⟨fun h => absurd h (by decide), fun _ => h1, fun h => absurd h (by decide)⟩, h2⟩
 refine wpMix_fresh (by rfl) ?_ ?_
 ·rintro _ ⟨i, rfl⟩
  go_simp
  exact ⟨⟨fun h => absurd h (by decide), fun h => absurd h (by decide), fun _ => ⟨rfl, MapF.made _, by simp⟩⟩, Ext.one _ _⟩
 refine wpMix_fresh (by rfl) ?_ ?_
 ·rintro _ ⟨i, rfl⟩
  go_simp
  exact ⟨⟨fun h => absurd h (by decide), fun h => absurd h (by decide), fun _ => ⟨rfl, MapF.made _, by simp⟩⟩, Ext.one _ _⟩
 refine wpMix_nil ?_
 intro V lo hi wa hxa hcame
 clear b0 b1 b2 c0 c1 c2
 obtain ⟨⟨g1, -, -⟩, o1, o1'⟩ := hcame.each (1, 9) (by simp) rfl
 obtain ⟨⟨-, g3, -⟩, o3, o3'⟩ := hcame.each (3, 11) (by simp) rfl
 obtain ⟨⟨-, -, g4⟩, o4, o4'⟩ := hcame.each (4, 12) (by simp) rfl
 obtain ⟨⟨-, -, g5⟩, o5, o5'⟩ := hcame.each (5, 13) (by simp) rfl
 have p1 := hcame.apart (1, 9) (by simp) (4, 12) (by simp) rfl rfl (by decide)
 have p2 := hcame.apart (1, 9) (by simp) (5, 13) (by simp) rfl rfl (by decide)
 have p3 := hcame.apart (3, 11) (by simp) (4, 12) (by simp) rfl rfl (by decide)
 have p4 := hcame.apart (3, 11) (by simp) (5, 13) (by simp) rfl rfl (by decide)
 have p5 := hcame.apart (4, 12) (by simp) (5, 13) (by simp) rfl rfl (by decide)
 clear hcame
 obtain ⟨sa, sc, e1, s1, s2, s3⟩ := g1 rfl
 obtain ⟨ta, tc, e3, t1, t2, t3⟩ := g3 rfl
 obtain ⟨e4, m4, n4⟩ := g4 (.inl rfl)
 obtain ⟨e5, m5, n5⟩ := g5 (.inr rfl)
 clear g1 g3 g4 g5
 simp only [List.foldl_cons, List.foldl_nil, e1, e3, e4, e5, List.drop_succ_cons, List.drop_zero]
 clear e1 e3 e4 e5
 simp at o1 o3 o4 o5 o1' o3' o4' o5'
 generalize lo 4 = bs at *
 generalize lo 5 = ba at *
 generalize hi 4 = bs' at *
 generalize hi 5 = ba' at *
 generalize lo 1 = x1 at *
 generalize hi 1 = x1' at *
 generalize lo 3 = x3 at *
 generalize hi 3 = x3' at *
 have hbs : bs ≠ ba ∧ bs < wa.heap.size ∧ ba < wa.heap.size ∧ w.heap.size ≤ bs ∧ w.heap.size ≤ ba := by omega
 have s3 := s3.wide (fun b => b ≠ bs ∧ b ≠ ba) fun b hb _ => by omega
 have t3 := t3.wide (fun b => b ≠ bs ∧ b ≠ ba) fun b hb _ => by omega
 clear p1 p2 p3 p4 p5 o1 o1' o3 o3' o4 o4' o5 o5'
 have hpn := hid (show (pn s 0).length = (parts s).length from pn_len s 0)
 have hpn' := hid (show (pn t 0).length = (parts t).length from pn_len t 0)
 have hlw := hxa.size
 simp at hlw
 have hx0 := hid (((Ext.two _ _ _).step hxa : Ext w wa))
 clear hxa hE
 generalize hS0 : pn s 0 = ps at *
 generalize hT0 : pn t 0 = pt at *
 have HS0 := hid hS0; clear hS0
 have HT0 := hid hT0; clear hT0
 have s2' := s2
 have t2' := t2
 unfold maxLen at s2' t2'
 go_wp2_with fail
 go_loopw [21] (fun i wr => ∃ (k : Nat) (f h : Int × Int → Bool), k ≤ ps.length ∧ i = .int .i64 k ∧ Known ps pt f h (lexlt k 0) ∧ MapF wr bs f ∧ MapF wr ba h ∧
  Upd (fun b => b = bs ∨ b = ba) (wa.alloc (.cells #[.slice sa ps.length sc, .slice ta pt.length tc, .map (some bs), .map (some ba)] 172)) wr) (fun i _ => ps.length - (intOf i).toNat)
 case atStart => exact ⟨0, _, _, by omega, rfl, fun a b _ _ hd => by unfold lexlt at hd; omega, m4.ext (Ext.one _ _), m5.ext (Ext.one _ _), Upd.of_ext (Ext.rfl' _)⟩
 case round =>
  obtain ⟨k, f, h, hk, rfl, hK, hf, hh, hu⟩ := hrel
  have HK := hid hK; clear hK
  have q0 : wr.cell? ⟨wa.heap.size, 0, none⟩ = some (.slice sa ps.length sc) := hu.some_ (by simp; omega) (by go_simp)
  have q1 : wr.cell? ⟨wa.heap.size, 1, none⟩ = some (.slice ta pt.length tc) := hu.some_ (by simp; omega) (by go_simp)
  have q3 : wr.cell? ⟨wa.heap.size, 3, none⟩ = some (.map (some ba)) := hu.some_ (by simp; omega) (by go_simp)
  by_cases hlt : k < ps.length
  ·have F := hid hf; clear hf
   have H := hid hh; clear hh
   go_wp2_with fail
   have hf := F.out
   have hh := H.out
   clear F H q0 q1 q3
   obtain ⟨wo, rfl⟩ : ∃ wo : World, wo = wr := ⟨_, rfl⟩
   go_loopw [29] (fun j wr => ∃ (m : Nat) (f h : Int × Int → Bool), m ≤ pt.length ∧ j = .int .i64 m ∧ Hid (Known ps pt f h (lexlt k m)) ∧ MapF wr bs f ∧ MapF wr ba h ∧
    Upd (fun b => b = bs ∨ b = ba) (wa.alloc (.cells #[.slice sa ps.length sc, .slice ta pt.length tc, .map (some bs), .map (some ba)] 172)) wr) (fun i _ => pt.length - (intOf i).toNat)
   case atStart => exact ⟨0, f, h, by omega, rfl, HK, hf, hh, hu⟩
   case round =>
    clear hf hh hu HK
    clear f h
    obtain ⟨m, f, h, hm, rfl, HK, hf, hh, hu⟩ := hrel
    have q0 : wr.cell? ⟨wa.heap.size, 0, none⟩ = some (.slice sa ps.length sc) := hu.some_ (by simp; omega) (by go_simp)
    have q1 : wr.cell? ⟨wa.heap.size, 1, none⟩ = some (.slice ta pt.length tc) := hu.some_ (by simp; omega) (by go_simp)
    have q2 : wr.cell? ⟨wa.heap.size, 2, none⟩ = some (.map (some bs)) := hu.some_ (by simp; omega) (by go_simp)
    have q3 : wr.cell? ⟨wa.heap.size, 3, none⟩ = some (.map (some ba)) := hu.some_ (by simp; omega) (by go_simp)
    by_cases hlt' : m < pt.length
    ·have hkp : Keeps (fun b => b ≠ bs ∧ b ≠ ba) wa wr := ⟨by have := hu.size; simp at this; omega, fun b hb hl => by
      rw [hu.block b (by simp; omega) (by simp; exact hb)]
      exact (Ext.one wa _).block b hl⟩
     have S3 := s3.keep hkp fun _ h _ => h
     have T3 := t3.keep hkp fun _ h _ => h
     have hone := one_any _ _ ps pt k m hlt hlt' sa ta sc tc wa.heap.size bs ba f h wr q0 q1 q2 q3 hf hh hbs.1 s1 s2 S3 t1 t2 T3 (fun h1 h2 h3 => Nat.le_of_eq (HA.out _ (List.getElem_mem hlt) _ (List.getElem_mem hlt') h1 h2 h3))
     have hstep := HK.out.step hlt hlt' (by rw [← HS0.out]; exact pn_well0 s k (by rw [HS0.out]; exact hlt)) (by rw [← HT0.out]; exact pn_well0 t m (by rw [HT0.out]; exact hlt'))
     have HST := hid hstep
     have HONE := hid hone
     have HU := hid hu
     clear hone hstep hf hh hu S3 T3 hkp HK
     generalize setF f ((k : Int), (m : Int)) (eqV f ps[k] pt[m]) = f' at *
     generalize setF h ((k : Int), (m : Int)) (grP f' h ps[k] pt[m] k m) = h' at *
     clear q0 q1 q2 q3
     go_wp2_with fail
     refine HONE.out.mono ?_
     rintro e w' ⟨rfl, y1, y2, y3⟩
     go_wp2_with fail
     go_roundw
     case rel => exact ⟨m + 1, f', h', by omega, by go_num, HST, y2, y3, HU.out.trans y1⟩
     case measure => simp [intOf]; omega
    ·obtain rfl : m = pt.length := by omega
     have F := hid hf; clear hf
     have H := hid hh; clear hh
     have HU := hid hu; clear hu
     go_wp2_with fail
     go_roundw
     case rel => exact ⟨k + 1, f, h, by omega, by go_num, fun a b u v hd h1 h2 => HK.out a b u v (by
      have hb : b < pt.length := by
       rcases hp : pt[b]? with _ | p
       ·rw [hp] at h2; cases h2
       ·exact (List.getElem?_eq_some_iff.1 hp).1
      unfold lexlt at *; omega) h1 h2, F.out, H.out, HU.out⟩
     case measure => simp [intOf]; omega
  ·obtain rfl : k = ps.length := by omega
   have F := hid hf; clear hf
   have HU := hid hu; clear hu
   have hv : h ((ps.length : Int) - 1, (pt.length : Int) - 1) = gt s t := by
    rw [← HS0.out, ← HT0.out]
    refine Known.last fun a b u v _ h1 h2 => HK.out a b u v (.inl ?_) (by rw [← HS0.out]; exact h1) (by rw [← HT0.out]; exact h2)
    rcases hp : (pn s 0)[a]? with _ | p
    ·rw [hp] at h1; cases h1
    ·rw [← HS0.out]; exact (List.getElem?_eq_some_iff.1 hp).1
   have HV := hid hv; clear hv
   go_upto_region 11 with (fail)
   refine wp_region_mild (by kernel_rfl) (by kernel_rfl) ?_
   intro I _ W hE hC
   have f0 := mild_cell hE q0
   have f1 := mild_cell hE q1
   have f3 := mild_cell hE q3
   have f5 := mild_map hE hh ((ps.length : Int) - 1) ((pt.length : Int) - 1)
   have hle1 : 1 ≤ ps.length := by rw [hpn.out]; exact parts_pos s
   have hle2 : 1 ≤ pt.length := by rw [hpn'.out]; exact parts_pos t
   repeat (go_big_quiet_step (fail))
   refine wpQuiet_nil ?_
   rintro _ ⟨i1, rfl⟩
   go_wp2_with fail
   go_ret
   exact ⟨ret_bool HV.out, Ext.step (Below.trans (hx0.out.new _) (HU.out.below (by simp; omega) (by rintro b (rfl | rfl) <;> omega)) : Ext w wr) (hE i1)⟩
theorem own_arit {g : List Int} {s t : Tm} (h : own g s = 0) (h' : own g t = 0) : Arit (pn s 0) (pn t 0) := arit_form (own_form h).1 (own_form h').1
section
variable (t u : Tm)
theorem above_tri (har : Arit (pn t 0) (pn u 0)) (h1 : (parts t).length ≤ 1000000) (h2 : (parts u).length ≤ 1000000) : Tri Tryz.prog 137 [.d (tmDV t), .d (tmDV u)] (pure' (bA (gt t u))) :=
 tri_of2 rfl fun w m x y hm hx hy => above_any (Here w) t u x y w (tm_val hm (fun _ h => h) hx) (tm_val hm (fun _ h => h) hy) (fun _ h => h) har h1 h2
end
def fallsAns (bs : Bs) (x y : Tm) : Bool × Int :=
 if ((rawAns bs x).2 != 0) = true then (false, 2) else if ((rawAns bs y).2 != 0) = true then (false, 2) else (!gt (rawAns bs y).1 (rawAns bs x).1 && !same (rawAns bs x).1 (rawAns bs y).1, 0)
set_option maxHeartbeats 2000000 in
set_option maxRecDepth 20000 in
theorem falls_tri (mm : Nm) (bs : Bs) (hbs : ∀ p ∈ bs, p.2.size ≤ 4000000) (x y : Tm) (hx : x.size ≤ 4000000) (hy : y.size ≤ 4000000)
  (hab : (rawAns bs x).2 = 0 → (rawAns bs y).2 = 0 → Tri Tryz.prog 137 [.d (tmDV (rawAns bs y).1), .d (tmDV (rawAns bs x).1)] (pure' (bA (gt (rawAns bs y).1 (rawAns bs x).1)))) :
  Tri Tryz.prog 124 [.map mm, .d (tmDV x), .d (tmDV y)] (rdE [(mm, .map (bsE bs))] (.tup [bA (fallsAns bs x y).1, iA (fallsAns bs x y).2])) := by
 have h1 := raw_tri mm bs hbs x hx
 have h2 := raw_tri mm bs hbs y hy
 have h3 := same_tri (rawAns bs x).1 (rawAns bs y).1
 unfold fallsAns
 generalize rawAns bs x = A at *
 generalize rawAns bs y = B at *
 refine aER Tryz.func124 rfl Tryz.ntmps124 fun w0 h0 k hro => ?_
 obtain ⟨n2, em⟩ := hro.get _ (List.mem_cons_self ..)
 have q2 := nmne n2
 dsimp only at n2 em
 have hro' : ∀ (k' : Nat) (h : Heap), mm.1 < k' → h mm = some (.map (bsE bs)) → RoOK k' [(mm, .map (bsE bs))] h := fun k' h h1 e => ⟨fun x hx => by simp only [List.mem_cons, List.not_mem_nil, or_false] at hx; subst hx; exact ⟨h1, e⟩⟩
 cases a1 : (A.2 != 0) with
 | true =>
  rw [if_pos rfl]
  repeat' (first | refine aQ fun K hK => ?_ | ((first | refine aK fun R hR => ?_ | refine aD mixed fun R hR => ?_); simp only [go_sem, em, q2, a1]) | ((first | (refine hR _ ?_; clear hR R) | refine aZ rfl ?_); try refine aP ?_) | ((repeat (fail_if_success refine hK _ ?_); clear hK K); refine hK _ ?_; clear hK K) | refine aT ?_ | refine aF ?_ | refine aB ?_ | ((first | refine CallK.look (enter119) (h1) ?_ (hro' (k + 1) _ (by omega) (by simp only [go_sem, em, q2])) (Fr.rfl' _ _) ?_ | refine CallD.look (enter119) (h1) ?_ (hro' (k + 1) _ (by omega) (by simp only [go_sem, em, q2])) (Fr.rfl' _ _) (by first | assumption | exact List.cons_ne_nil _ _) ?_); (focus exact aC); simp only [go_sem, em, q2, a1]) | ((first | refine CallK.look (enter119) (h2) ?_ (hro' (k + 1 + 1) _ (by omega) (by simp only [go_sem, em, q2])) (Fr.rfl' _ _) ?_ | refine CallD.look (enter119) (h2) ?_ (hro' (k + 1 + 1) _ (by omega) (by simp only [go_sem, em, q2])) (Fr.rfl' _ _) (by first | assumption | exact List.cons_ne_nil _ _) ?_); (focus exact aC); simp only [go_sem, em, q2, a1]) | refine aN ?_ | fail)
  (first | refine ret_pure ?_ ?_ ?_ | refine ret_ro ?_ ?_ ?_); focus exact (okA Tryz.ntmps124 Tryz.results124)
  rotate_left; focus exact frA
  simp only [resA, resV, Tryz.results124, go_sem]
  all_goals try exact coA
  all_goals exact .t2 (.dat rfl) (.dat rfl)
 | false =>
  rw [if_neg (by decide)]
  cases b1 : (B.2 != 0) with
  | true =>
   rw [if_pos rfl]
   repeat' (first | refine aQ fun K hK => ?_ | ((first | refine aK fun R hR => ?_ | refine aD mixed fun R hR => ?_); simp only [go_sem, em, q2, a1, b1]) | ((first | (refine hR _ ?_; clear hR R) | refine aZ rfl ?_); try refine aP ?_) | ((repeat (fail_if_success refine hK _ ?_); clear hK K); refine hK _ ?_; clear hK K) | refine aT ?_ | refine aF ?_ | refine aB ?_ | ((first | refine CallK.look (enter119) (h1) ?_ (hro' (k + 1) _ (by omega) (by simp only [go_sem, em, q2])) (Fr.rfl' _ _) ?_ | refine CallD.look (enter119) (h1) ?_ (hro' (k + 1) _ (by omega) (by simp only [go_sem, em, q2])) (Fr.rfl' _ _) (by first | assumption | exact List.cons_ne_nil _ _) ?_); (focus exact aC); simp only [go_sem, em, q2, a1, b1]) | ((first | refine CallK.look (enter119) (h2) ?_ (hro' (k + 1 + 1) _ (by omega) (by simp only [go_sem, em, q2])) (Fr.rfl' _ _) ?_ | refine CallD.look (enter119) (h2) ?_ (hro' (k + 1 + 1) _ (by omega) (by simp only [go_sem, em, q2])) (Fr.rfl' _ _) (by first | assumption | exact List.cons_ne_nil _ _) ?_); (focus exact aC); simp only [go_sem, em, q2, a1, b1]) | refine aN ?_ | fail)
   (first | refine ret_pure ?_ ?_ ?_ | refine ret_ro ?_ ?_ ?_); focus exact (okA Tryz.ntmps124 Tryz.results124)
   rotate_left; focus exact frA
   simp only [resA, resV, Tryz.results124, go_sem]
   all_goals try exact coA
   all_goals exact .t2 (.dat rfl) (.dat rfl)
  | false =>
   rw [if_neg (by decide)]
   have hab := hab (by simpa using a1) (by simpa using b1)
   cases c1 : gt B.1 A.1 with
   | true =>
    rw [c1] at hab
    repeat' (first | refine aQ fun K hK => ?_ | ((first | refine aK fun R hR => ?_ | refine aD mixed fun R hR => ?_); simp only [go_sem, em, q2, a1, b1]) | ((first | (refine hR _ ?_; clear hR R) | refine aZ rfl ?_); try refine aP ?_) | ((repeat (fail_if_success refine hK _ ?_); clear hK K); refine hK _ ?_; clear hK K) | refine aT ?_ | refine aF ?_ | refine aB ?_ | ((first | refine CallK.look (enter119) (h1) ?_ (hro' (k + 1) _ (by omega) (by simp only [go_sem, em, q2])) (Fr.rfl' _ _) ?_ | refine CallD.look (enter119) (h1) ?_ (hro' (k + 1) _ (by omega) (by simp only [go_sem, em, q2])) (Fr.rfl' _ _) (by first | assumption | exact List.cons_ne_nil _ _) ?_); (focus exact aC); simp only [go_sem, em, q2, a1, b1]) | ((first | refine CallK.look (enter119) (h2) ?_ (hro' (k + 1 + 1) _ (by omega) (by simp only [go_sem, em, q2])) (Fr.rfl' _ _) ?_ | refine CallD.look (enter119) (h2) ?_ (hro' (k + 1 + 1) _ (by omega) (by simp only [go_sem, em, q2])) (Fr.rfl' _ _) (by first | assumption | exact List.cons_ne_nil _ _) ?_); (focus exact aC); simp only [go_sem, em, q2, a1, b1]) | ((first | refine CallK.pure (enter137) (hab) ?_ ?_ | refine CallD.pure (enter137) (hab) ?_ ?_); (focus exact aC); simp only [go_sem, em, q2, a1, b1]) | refine aN ?_ | fail)
    (first | refine ret_pure ?_ ?_ ?_ | refine ret_ro ?_ ?_ ?_); focus exact (okA Tryz.ntmps124 Tryz.results124)
    rotate_left; focus exact frA
    simp only [resA, resV, Tryz.results124, go_sem]
    all_goals try exact coA
    all_goals exact .t2 (.dat rfl) (.dat rfl)
   | false =>
    rw [c1] at hab
    repeat' (first | refine aQ fun K hK => ?_ | ((first | refine aK fun R hR => ?_ | refine aD mixed fun R hR => ?_); simp only [go_sem, em, q2, a1, b1]) | ((first | (refine hR _ ?_; clear hR R) | refine aZ rfl ?_); try refine aP ?_) | ((repeat (fail_if_success refine hK _ ?_); clear hK K); refine hK _ ?_; clear hK K) | refine aT ?_ | refine aF ?_ | refine aB ?_ | ((first | refine CallK.look (enter119) (h1) ?_ (hro' (k + 1) _ (by omega) (by simp only [go_sem, em, q2])) (Fr.rfl' _ _) ?_ | refine CallD.look (enter119) (h1) ?_ (hro' (k + 1) _ (by omega) (by simp only [go_sem, em, q2])) (Fr.rfl' _ _) (by first | assumption | exact List.cons_ne_nil _ _) ?_); (focus exact aC); simp only [go_sem, em, q2, a1, b1]) | ((first | refine CallK.look (enter119) (h2) ?_ (hro' (k + 1 + 1) _ (by omega) (by simp only [go_sem, em, q2])) (Fr.rfl' _ _) ?_ | refine CallD.look (enter119) (h2) ?_ (hro' (k + 1 + 1) _ (by omega) (by simp only [go_sem, em, q2])) (Fr.rfl' _ _) (by first | assumption | exact List.cons_ne_nil _ _) ?_); (focus exact aC); simp only [go_sem, em, q2, a1, b1]) | ((first | refine CallK.pure (enter137) (hab) ?_ ?_ | refine CallD.pure (enter137) (hab) ?_ ?_ | refine CallK.pure (enter132) (h3) ?_ ?_ | refine CallD.pure (enter132) (h3) ?_ ?_); (focus exact aC); simp only [go_sem, em, q2, a1, b1]) | refine aN ?_ | fail)
    (first | refine ret_pure ?_ ?_ ?_ | refine ret_ro ?_ ?_ ?_); focus exact (okA Tryz.ntmps124 Tryz.results124)
    rotate_left; focus exact frA
    simp only [resA, resV, Tryz.results124, go_sem]
    all_goals try exact coA
    all_goals exact .t2 (.dat rfl) (.dat rfl)
end Go.Proofs.YtmeekpinkfpnhabGreat
