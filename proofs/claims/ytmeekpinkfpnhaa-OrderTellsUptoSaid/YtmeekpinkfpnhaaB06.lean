/- Walk of superposeref: ArgsOf. Contracts of the first road (X) as contracts on pure values. What arguments read as, as pure values: number, truth, text, list, struct. No program in sight. A law's arguments: what they read as. No program in sight. What superposeref.GreaterOf's table holds. What is known of terms that are right. No program in sight. What terms and signatures, handed in, read as. Regions that draw their order (4): calls that change objects. What the walk knows: the rules by which operations on pure values are worked out. The laws' helpers: small, fn, va. order.Greater, order.Compare. -/
import Derived.Test.YtmeekpinkfpnhaaB05
import Derived.ProofKit
import Derived.OpenShut
import Derived.JoinedCond
import Derived.Test.YtmeekpinkfpnhaaRows
set_option linter.unusedSimpArgs false
set_option linter.unusedSectionVars false
set_option linter.unusedVariables false
set_option linter.unnecessarySimpa false
set_option linter.all false
namespace Go.Proofs.Ytmeekpinkfpnhaa
open Go.RowKit

theorem ei_ints : ElemOk Try.prog 37 22 1 24 := ElemOk.mk' (z := .slice none 0 0) Try.underlying37 (by kernel_rfl) rfl (by decide)
/-- A slice that is nil or a piece of a block. -/
def Shape (x : Value) : Prop := x = .slice none 0 0 ∨ ∃ b o l c, x = .slice (some ⟨b, o, none⟩) l c
def SlIW (w : World) (S : Nat → Prop) (is : List Int) (x : Value) : Prop := SlIV w S is x ∧ Shape x
theorem vok_intsW : VOk SlIW := ⟨fun h hk hs => ⟨h.1.keep hk hs, h.2⟩⟩
theorem OwnX.slIW {w : World} {base e : Nat} {S : Nat → Prop} {ts : List Int} {v : Value} (h : OwnX IntV w base e 1 S ts v) : SlIW w (fun b => v.ownBlock = some b) ts v := by
  refine ⟨h.slI, ?_⟩
  obtain ⟨xs, h1, _⟩ := h
  rcases h1.form with ⟨_, rfl⟩ | ⟨g, cap, rfl, _⟩
  · exact .inl rfl
  · exact .inr ⟨_, _, _, _, rfl⟩
theorem sliv_one {w : World} {S : Nat → Prop} {t : List Int} {x : Value} (h : SlIW w S t x) : x.cells = #[x] := by
  obtain ⟨⟨a, cap, rfl, _⟩, _⟩ := h; rfl
theorem sliv_one' {w : World} {S : Nat → Prop} {t : List Int} {x : Value} (h : SlIW w S t x) : ∀ c ∈ x.cells.toList, c.oneCell' = true := by
  obtain ⟨⟨a, cap, rfl, _⟩, _⟩ := h; simp [Value.cells, Value.oneCell']
theorem OwnX.readI {w : World} {base e g n cap i : Nat} {S : Nat → Prop} {ts : List (List Int)} (h : OwnX SlIW w base e 1 S ts (.slice (some ⟨g, 0, none⟩) n cap)) (hi : i < ts.length) :
    ∃ a c, w.cell? ⟨g, i, none⟩ = some (.slice a ts[i].length c) ∧ ts[i].length ≤ c ∧ c ≤ maxLen ∧ SlI w (fun b => S b ∧ b ≠ g) ts[i] a := by
  obtain ⟨xs, h1, h2, h3⟩ := h
  obtain ⟨⟨a, c, e1, e2, e3, e4⟩, _⟩ := h3 i hi (by omega)
  have h5 := h1.cell (i := i) (by omega) (j := 0) (by omega)
  rw [sliv_one (h3 i hi (by omega)), e1] at h5
  refine ⟨a, c, by simpa using h5, e2, e3, e4.keep (.ext (Ext.rfl' w)) fun b hb _ => ⟨hb.1, fun e => hb.2 (by simp [Value.ownBlock, e])⟩⟩

theorem OwnX.base {α : Type} {V : World → (Nat → Prop) → α → Value → Prop} {w : World} {base base' e sz : Nat} {S : Nat → Prop} {ts : List α} {v : Value} (h : OwnX V w base e sz S ts v) (hb : base' ≤ base) : OwnX V w base' e sz S ts v := by
  obtain ⟨xs, ⟨h1, h2⟩, h3, h4⟩ := h
  refine ⟨xs, ⟨⟨h1.1, ?_⟩, h2⟩, h3, h4⟩
  rcases h1.2 with h | ⟨g, cap, cur, q1, q2, q3⟩
  · exact .inl h
  · exact .inr ⟨g, cap, cur, q1, Nat.le_trans hb q2, q3⟩
def ArgsSpec (t : Tm) : Prop := ∀ (S : Nat → Prop) (x : Value) (w : World), TmV w S t x → (parts t).length ≤ 1000000 →
  Calls Try.prog 64 #[x] w fun e w' => ∃ v, e = .returned v ∧ OwnX SlIW w' w.heap.size 22 1 (fun b => w.heap.size ≤ b) (argsOf t) v ∧ Ext w w'

set_option maxRecDepth 10000 in
set_option maxHeartbeats 2000000 in
theorem argsOf_step (t : Tm) (ih : ∀ u ∈ t.us, ArgsSpec u) : ArgsSpec t := by
  rintro S x w ⟨a, cap, rfl, h1, h2, h3⟩ hsz
  unfold maxLen at h2
  have HSZ := hid hsz; clear hsz
  go_enter Try.func64, Try.ntmps64
  go_wp2_with fail
  go_loopw [3, 4, 5] (fun out args i wr => ∃ (k : Nat), k ≤ t.us.length ∧ i = .int .i64 k ∧ OwnX SlIW wr (w.heap.size + 1) 22 1 (fun b => w.heap.size < b ∧ some b ≠ args.ownBlock) (argsL (t.us.take k)) out ∧ OwnX IntV wr (w.heap.size + 1) 3 1 No' (idxs (t.us.take k) 0) args ∧
    Ext (w.alloc (.cells #[.int .i64 t.v, .int .i64 t.f, .slice a t.us.length cap] 27)) wr) (fun _ _ i _ => t.us.length - (intOf i).toNat)
  case atStart => exact ⟨0, by omega, rfl, by simpa [argsL, pnL] using OwnX.nil_ _ _ _ _ _ _, by simpa [idxs] using OwnX.nil_ _ _ _ _ _ _, Ext.rfl' _⟩
  case round =>
    obtain ⟨k, hk, rfl, ho, hi, hx⟩ := hrel
    have b2 : wr.cell? ⟨w.heap.size, 2, none⟩ = some (.slice a t.us.length cap) := hx.boxed 2
    have hsw := hx.sz1
    by_cases hlt : k < t.us.length
    · obtain ⟨b, o, rfl⟩ := h3.some_ (by omega)
      obtain ⟨_, c1, c2, a1, cap1, c3, l1, l2, s1⟩ := SlT.readAt (h3.ext ((Ext.one _ _).step hx)) hlt
      have IH := hid (ih _ (List.getElem_mem hlt)); clear ih
      have hA := argsL_take hlt
      have hB := idxs_take0 hlt
      have hL1 : (argsL (t.us.take k)).length + (argsOf t.us[k]).length ≤ 1000000 := by
        have h9 := partsL_at hlt
        have h8 := HSZ.out
        rw [parts_eq, List.length_append] at h8
        rw [argsL_len, argsOf_len]; omega
      have hpos : 0 < (argsOf t.us[k]).length := by rw [argsOf_len]; exact parts_pos _
      have hltx := argsOf_lt t.us[k]
      rw [← argsOf_len] at hltx
      have hsmall := argsOf_small t.us[k]
      have HSM := hid hsmall; clear hsmall
      have hpk : (parts t.us[k]).length ≤ 1000000 := by rw [← argsOf_len]; omega
      have HPK := hid hpk; clear hpk
      have HO := hid ho; clear ho
      have HI := hid hi; clear hi
      have HA := hid hA; clear hA
      have HB := hid hB; clear hB
      have HLT := hid hltx; clear hltx
      obtain ⟨oa, oc, eo, ol1, ol2⟩ := HO.out.slice
      unfold maxLen at ol2
      subst eo
      go_wp2_with fail
      refine (IH.out S _ _ ⟨a1, cap1, rfl, l1, l2, s1⟩ HPK.out).mono ?_
      rintro e w1 ⟨vx, rfl, hv, hx1⟩
      obtain ⟨g, gc, rfl, g1, g2, g3, g4⟩ : ∃ g cap, vx = .slice (some ⟨g, 0, none⟩) (argsOf t.us[k]).length cap ∧ wr.heap.size ≤ g ∧ g < w1.heap.size ∧ (argsOf t.us[k]).length ≤ cap ∧ cap ≤ maxLen := by
        obtain ⟨xs, q1, q2, _⟩ := hv
        rcases q1.form with ⟨rfl, _⟩ | ⟨g, cap, q3, q4, q5, q6, q7⟩
        · simp at q2; omega
        · exact ⟨g, cap, by rw [q3, q2], q4, q5, by omega, q7⟩
      unfold maxLen at g4
      generalize hLL : argsOf t.us[k] = L at *
      generalize hOO : argsL (t.us.take k) = O at *
      have HLL := hid hLL; clear hLL
      have HOO := hid hOO; clear hOO
      have HV := hid hv; clear hv
      have HX := hid hx
      have HX1 := hid hx1
      have hsw1 := hx1.size
      clear hx1
      go_wp2_with fail
      obtain ⟨wq, rfl⟩ : ∃ wq : World, wq = wr := ⟨_, rfl⟩
      go_loopw [7] (fun kk wm => ∃ m : Nat, m ≤ L.length ∧ kk = .int .i64 m ∧ OwnX SlIW wm wq.heap.size 22 1 (fun b => wq.heap.size ≤ b) ((L.take m).map (shift O.length) ++ L.drop m) (.slice (some ⟨g, 0, none⟩) L.length gc) ∧ Ext wq wm ∧ g < wm.heap.size) (fun kk _ => L.length - (intOf kk).toNat)
      case atStart => exact ⟨0, by omega, rfl, by simpa using HV.out, HX1.out, g2⟩
      case round =>
        clear hx hsw1
        obtain ⟨m, hm, rfl, hvm, hxm, hgm⟩ := hrel
        have HVM := hid hvm; clear hvm
        have HXM := hid hxm
        have hswm := hxm.size
        clear hxm
        by_cases hlm : m < L.length
        · have hlc : ((L.take m).map (shift O.length) ++ L.drop m).length = L.length := by simp; omega
          have hle : ∀ (h : m < ((L.take m).map (shift O.length) ++ L.drop m).length), ((L.take m).map (shift O.length) ++ L.drop m)[m] = L[m] := fun h => by
            rw [List.getElem_append_right (by rw [List.length_map, List.length_take]; omega)]
            simp only [List.length_map, List.length_take, List.getElem_drop]
            congr 1; omega
          obtain ⟨a5, c5, r1, r2, r3, r4⟩ := HVM.out.readI (i := m) (by omega)
          rw [hle] at r1 r2 r4
          unfold maxLen at r3
          have R1 := hid r1
          have HLE := hid hle; clear hle
          have HLC := hid hlc; clear hlc
          have hml : L[m] ∈ L := List.getElem_mem hlm
          have hmsz := HSM.out _ hml
          generalize hM : L[m] = M at *
          have HM := hid hM; clear hM
          have HML := hid hml; clear hml
          have hLM : ∀ j (h : j < M.length), 0 ≤ M[j] ∧ M[j] < L.length := fun j h => HLT.out M HML.out _ (List.getElem_mem h)
          have HLM := hid hLM; clear hLM
          go_wp2_with fail
          obtain ⟨wo, rfl⟩ : ∃ wo : World, wo = wr := ⟨_, rfl⟩
          go_loopw [8, 9] (fun mv jj wi => ∃ j : Nat, j ≤ M.length ∧ jj = .int .i64 j ∧ OwnX IntV wi wo.heap.size 3 1 No' (shift O.length (M.take j)) mv ∧ Ext wo wi) (fun _ jj _ => M.length - (intOf jj).toNat)
          case atStart => exact ⟨0, by omega, rfl, by simpa [shift] using OwnX.nil_ _ _ _ _ _ _, Ext.rfl' _⟩
          case round =>
            obtain ⟨j, hj, rfl, hmv, hxi⟩ := hrel
            have r1 := hxi.some_ R1.out
            have r4' := r4.ext hxi
            have HMV := hid hmv; clear hmv
            have HXI := hid hxi
            have hswi := hxi.size
            clear hxi
            by_cases hlj : j < M.length
            · obtain ⟨b5, o5, rfl⟩ := r4.some_ (by omega)
              obtain ⟨_, _, hc⟩ := r4'.at_ hlj
              have hc : wr.cell? ⟨b5, o5 + j, none⟩ = some (.int .i64 M[j]) := by simpa using hc
              have HT := hid (show shift O.length (M.take (j + 1)) = shift O.length (M.take j) ++ [M[j] + O.length] from by
                rw [List.take_succ_eq_append_getElem hlj, shift, List.map_append]; rfl)
              have hbd := HLM.out j hlj
              generalize M[j] = q at *
              obtain ⟨xs, x1, x2, x3⟩ := HMV.out
              have X2 := hid x2; clear x2
              have X3 := hid x3; clear x3
              have hxs : xs.length ≤ j := by rw [X2.out, shift_len, List.length_take]; omega
              clear r4 r4'
              go_wp2_with (at_builtin; refine wpList_push' ei_int rfl _ _ (by rfl) (.int .i64 (q + O.length)) rfl rfl (by simp [Value.oneCell']) (by rfl) x1 (by rfl) (by omega) (by unfold maxLen; omega) (by omega) ?_; intro g5 cp5 w5 k1 k2 k3 k4)
              go_roundw
              case rel =>
                refine ⟨j + 1, by omega, by go_num, ?_, ?_⟩
                · rw [HT.out]
                  exact OwnX.push (V := IntV) (S := No') vok_int X2.out X3.out (t := q + O.length) rfl (S' := No') (fun b hb _ => hb.elim) k1 k2 k3
                · exact Ext.grown HXI.out x1 k2 (Nat.le_refl _)
              case measure => simp [intOf]; omega
            · obtain rfl : j = M.length := by omega
              have hsl := HMV.out.slIW
              rw [List.take_length] at hsl
              have hmb : ∀ b, (u8 : Value).ownBlock = some b → wo.heap.size ≤ b := fun b hb => (HMV.out.block hb).1
              have hset := OwnX.set vok_intsW sliv_one (HVM.out.ext vok_intsW HXI.out) (i := m) (by rw [HLC.out]; exact hlm) hsl (fun b hb hl => by have := hmb b hb; omega)
              have HSET := hid hset; clear hset hsl hmb
              obtain ⟨a8, c8, rfl, _, _⟩ := HMV.out.slice
              have e8 : (shift O.length (M.take M.length)).length = M.length := by rw [shift_len, List.length_take, Nat.min_self]
              rw [e8] at HSET ⊢
              clear HMV e8
              have hfr := (HVM.out.ext vok_intsW HXI.out).thawed m
              go_wp2_with fail
              go_roundw
              case rel =>
                refine ⟨m + 1, by omega, by go_num, ?_, ?_, ?_⟩
                · have h9 := HSET.out
                  have e9 := mid_set O.length hlm
                  rw [HM.out] at e9
                  rw [e9] at h9
                  exact h9
                · exact (HXM.out.step HXI.out).set g1 _
                · simp; omega
              case measure => simp [intOf]; omega
        · obtain rfl : m = L.length := by omega
          have hvx := HVM.out
          rw [List.drop_length, List.append_nil, List.take_length] at hvx
          have hxw := HX.out.step HXM.out
          have hOX := HO.out.ext vok_intsW HXM.out
          have hIX := HI.out.ext vok_int HXM.out
          have hOX' := hOX
          obtain ⟨xo, xo1, xo2, xo3⟩ := hOX
          obtain ⟨xx, xx1, xx2, xx3⟩ := hvx
          rw [List.length_map] at xx2
          have hne := hIX.ne_ hOX' (by decide)
          have hbo : ∀ b, (Value.slice oa O.length oc).ownBlock = some b → w.heap.size < b ∧ b < wq.heap.size := fun b hb => (HO.out.block hb)
          have hbi : ∀ b, (u4 : Value).ownBlock = some b → w.heap.size < b ∧ b < wq.heap.size := fun b hb => (HI.out.block hb)
          have hxx3 : ∀ y ∈ xx, ∀ c ∈ y.cells.toList, c.oneCell' = true := fun y hy => by
            obtain ⟨j, hj, rfl⟩ := List.getElem_of_mem hy
            exact sliv_one' (xx3 j (by rw [List.length_map]; omega) hj)
          have XO2 := hid xo2; clear xo2
          have XX2 := hid xx2; clear xx2
          have XO3 := hid xo3; clear xo3
          have XX3 := hid xx3; clear xx3
          have HNE := hid hne; clear hne
          have HBO := hid hbo; clear hbo
          have HBI := hid hbi; clear hbi
          have hl1 : xo.length = O.length := XO2.out
          have hl2 : xx.length = L.length := XX2.out
          have hsum : xo.length + xx.length ≤ 1000000 := by omega
          have hxp : 0 < xx.length := by omega
          have hwb : w.heap.size + 1 ≤ wr.heap.size := by omega
          have HIX := hid hIX; clear hIX
          have HXW := hid hxw; clear hxw hl1 hl2 hOX'
          go_upto_region 17 with (at_builtin; refine wpList_cat ei_ints rfl _ _ (by rfl) (by rfl) (by rfl) xo1 xx1 hxp hxx3 (by omega) (by unfold maxLen; omega) hwb ?_; intro g5 cp5 w5 k1 k2 k3 k4)
          have hcat := OwnX.cat vok_intsW (S := fun b => w.heap.size < b ∧ some b ≠ (u4 : Value).ownBlock) XO2.out XO3.out (by rw [List.length_map]; exact XX2.out) XX3.out (fun b hb hl => ⟨⟨by have := hb.1; omega, fun e => by have := (HBI.out b e.symm).2; have := hb.1; omega⟩, fun e => by have := (HBO.out b e.symm).2; have := hb.1; omega⟩) k1 k2 k3
          have hI1 := HIX.out.grown vok_int k2 HNE.out (fun b hb => hb.elim)
          have hx1 := Ext.grown HXW.out xo1 k2 (by simp)
          have hbi1 : ∀ b, (u4 : Value).ownBlock = some b → w.heap.size < b ∧ b < w5.heap.size := fun b hb => (hI1.block hb)
          rw [← HA.out] at hcat
          have HCAT := hid hcat
          have HX1' := hid hx1
          have HBI1 := hid hbi1; clear hbi1
          have hne2 := HCAT.out.ne_ hI1 (by decide)
          have HNE2 := hid hne2; clear hne2
          obtain ⟨xi, xi1, xi2, xi3⟩ := hI1
          have XI2 := hid xi2; clear xi2
          have XI3 := hid xi3; clear xi3
          have hki : xi.length ≤ k := by rw [XI2.out, idxs_len, List.length_take]; omega
          have hkk : k ≤ 1000000 := by
            have h8 := HSZ.out
            have h7 := partsL_ge t.us
            rw [parts_eq, List.length_append] at h8
            omega
          have hw5 : w.heap.size + 1 ≤ w5.heap.size := by have := k2.size; omega
          have hlen5 : xo.length + xx.length = (argsL (t.us.take (k + 1))).length := by rw [HA.out, List.length_append, List.length_map, ← XO2.out, ← XX2.out]
          have HL5 := hid hlen5; clear hlen5
          generalize hN : xo.length + xx.length = N at *
          have HN := hid hN; clear hN
          clear hcat hx1 k1 k2 k3
          go_wp2_with (at_builtin; refine wpList_push' ei_int rfl _ _ (by rfl) (.int .i64 (↑N - 1)) rfl rfl (by simp [Value.oneCell']) (by rfl) xi1 (by rfl) (by omega) (by unfold maxLen; omega) (by omega) ?_; intro g6 cp6 w6 k1 k2 k3 k4)
          go_roundw
          case rel =>
            refine ⟨k + 1, by omega, by go_num, ?_, ?_, ?_⟩
            · have := HCAT.out.grown2 vok_intsW (S' := fun b => w.heap.size < b ∧ some b ≠ (Value.slice (some ⟨g6, 0, none⟩) (xi.length + 1) cp6).ownBlock) k2 HNE2.out (fun b hb _ => hb.2) (fun b hb hl => ⟨hb.1, fun e => by
                have e' : b = g6 := by simpa [Value.ownBlock] using e
                subst e'
                rcases k3 with k3 | k3
                · exact hb.2 k3.symm
                · omega⟩)
              exact this
            · rw [HB.out, ← HL5.out]
              exact OwnX.push (V := IntV) (S := No') vok_int XI2.out XI3.out (t := (N : Int) - 1) rfl (S' := No') (fun b hb _ => hb.elim) k1 k2 k3
            · exact Ext.grown HX1'.out xi1 k2 (by simp)
          case measure => simp [intOf]; omega
    · obtain rfl : k = t.us.length := by omega
      clear ih
      rw [List.take_length] at ho hi
      have hbi : ∀ b, (u4 : Value).ownBlock = some b → w.heap.size < b ∧ b < wr.heap.size := fun b hb => (hi.block hb)
      have hbo : ∀ b, (u3 : Value).ownBlock = some b → w.heap.size < b ∧ b < wr.heap.size := fun b hb => (ho.block hb)
      have hne := ho.ne_ hi (by decide)
      have HNE := hid hne; clear hne
      have HBI := hid hbi; clear hbi
      have HBO := hid hbo; clear hbo
      have hsl := hi.slIW
      have hle : (argsL t.us).length ≤ 1000000 - 1 := by
        have h8 := HSZ.out
        rw [parts_eq, List.length_append] at h8
        rw [argsL_len]
        simp at h8
        omega
      obtain ⟨xo, xo1, xo2, xo3⟩ := ho.wide vok_intsW (S' := fun b => w.heap.size < b) (fun b hb _ => hb.1)
      clear ho
      have XO2 := hid xo2; clear xo2
      have XO3 := hid xo3; clear xo3
      have HX := hid hx
      have hxl : xo.length ≤ 1000000 - 1 := by rw [XO2.out]; exact hle
      clear hle hi
      obtain ⟨⟨a4, c4, rfl, i1, i2, i3⟩, i4⟩ := hsl
      have HI4 := hid i4; clear i4
      have HI3 := hid i3; clear i3
      go_wp2_with (at_builtin; refine wpList_push' ei_ints rfl _ _ (by rfl) (.slice a4 (idxs t.us 0).length c4) rfl rfl (by simp [Value.oneCell']) (by rfl) xo1 (by rfl) (by omega) (by unfold maxLen; omega) (by omega) ?_; intro g6 cp6 w6 k1 k2 k3 k4)
      go_ret
      refine ⟨_, rfl, ?_, ?_⟩
      · have h9 := OwnX.push vok_intsW XO2.out XO3.out (t := idxs t.us 0) (S' := fun b => (Value.slice a4 (idxs t.us 0).length c4).ownBlock = some b) ⟨⟨a4, c4, rfl, i1, i2, HI3.out⟩, HI4.out⟩ (fun b hb _ => ⟨(HBI.out b hb).1, fun e => by
          rcases HNE.out with h | h
          · exact h (e.symm.trans hb.symm)
          · rw [h] at e; cases e⟩) k1 k2 k3
        rw [argsOf_eq]
        exact (h9.base (by omega)).wide vok_intsW fun b hb _ => Nat.le_of_lt hb
      · exact (Ext.one _ _).step (Ext.grown HX.out xo1 k2 (by simp))
theorem argsOf_any (t : Tm) : ArgsSpec t := Tm.ind argsOf_step t
end Go.Proofs.Ytmeekpinkfpnhaa

namespace Go.Proofs.Ytmeekpinkfpnhaa
open Go.RowKit

section
variable {P : Program} {w0 w w' : World} {h : Heap} {k : Nat} {m : Mem} {β : Bl}

theorem HRel.grow (H : HRel P w0 h k m β w) (hx : Ext w w') : HRel P w0 h k m β w' := by
  refine ⟨H.ext.trans (hx.mono H.size), fun b o v hv => ?_, H.dom, H.new, fun n ob ho => ?_, H.inj⟩
  · obtain ⟨h1, h2⟩ := H.mem b o v hv
    exact ⟨hx.some_ h1, h2⟩
  · obtain ⟨p, hp, hob⟩ := H.obj n ob ho
    refine ⟨p, hp, hob.keep (.rfl' m) (.rfl' β) fun hr => ⟨hx.block _ (hob.lt hr), fun _ => rfl⟩⟩

/-- Frozen cells that hold a thing. -/
def CellsAt (m : Mem) (b o : Nat) (x : DV) : Prop := ∀ (j : Nat) (d : DV), x.cells[j]? = some d → ∃ c, m b (o + j) = some c ∧ RD m c d

theorem RD.int_ {x : Value} {n : Int} (h : RD m x (iD n)) : x = .int .i64 n := by cases h; rfl
theorem RD.slice_ {x : Value} {xs : List DV} (h : RD m x (.sl xs)) : ((∃ a, x = .slice a 0 0) ∧ xs = []) ∨ ∃ b o cap, x = .slice (some ⟨b, o, none⟩) xs.length cap ∧ xs.length ≤ cap ∧ cap ≤ maxLen := by
  cases h with
  | nil => exact .inl ⟨⟨_, rfl⟩, rfl⟩
  | sl hn hc hm _ _ _ => subst hn; exact .inr ⟨_, _, _, rfl, hc, hm⟩
theorem RD.sl_at {b o n cap sz : Nat} {α : Type} {g : α → DV} {ts : List α} (hg : ∀ t, (g t).cells.length = sz) (h : RD m (.slice (some ⟨b, o, none⟩) n cap) (.sl (ts.map g))) {i : Nat} (hi : i < ts.length) : CellsAt m b (o + i * sz) (g ts[i]) := by
  intro j d hj
  refine h.cell (sz := sz) (fun x hx => ?_) (i := i) (x := g ts[i]) ?_ hj
  · obtain ⟨t, _, rfl⟩ := List.mem_map.1 hx; exact hg t
  · rw [List.getElem?_map, List.getElem?_eq_getElem hi]; rfl

variable {S : Nat → Prop} (hm : ∀ b o v, m b o = some v → w.cell? ⟨b, o, none⟩ = some v) (hS : ∀ b, b < w.heap.size → S b)
include hm hS

theorem slice_sl {α : Type} {g : α → DV} {sz : Nat} (hg : ∀ t, (g t).cells.length = sz) (hsz : 0 < sz) {Rr : α → Addr → Prop} {ts : List α} {x : Value} (h : RD m x (.sl (ts.map g))) (hc : ∀ t ∈ ts, ∀ b o, CellsAt m b o (g t) → Rr t ⟨b, o, none⟩) :
    ∃ a cap, x = .slice a ts.length cap ∧ ts.length ≤ cap ∧ cap ≤ maxLen ∧ Sl w S sz Rr ts a := by
  rcases h.slice_ with ⟨⟨a, rfl⟩, h0⟩ | ⟨b, o, cap, rfl, h1, h2⟩
  · have : ts = [] := by simpa using h0
    subst this
    exact ⟨a, 0, rfl, by simp, by simp [maxLen], fun i hi => absurd hi (Nat.not_lt_zero _)⟩
  · rw [List.length_map] at h1 h ⊢
    refine ⟨_, cap, rfl, h1, h2, fun i hi => ?_⟩
    have hca := h.sl_at hg hi
    obtain ⟨d, hd⟩ : ∃ d, (g ts[i]).cells[0]? = some d := ⟨_, List.getElem?_eq_getElem (l := (g ts[i]).cells) (by rw [hg ts[i]]; exact hsz)⟩
    obtain ⟨c, hc0, _⟩ := hca 0 d hd
    have hb := cell_lt (hm _ _ _ hc0)
    exact ⟨b, o, rfl, hS b hb, hb, hc _ (List.getElem_mem hi) _ _ hca⟩

theorem tm_cells (t : Tm) : ∀ b o, CellsAt m b o (tmDV t) → TmC w S t ⟨b, o, none⟩ := by
  induction t using Tm.ind with
  | h t ih =>
    intro b o hc
    rw [TmC.iff]
    unfold CellsAt at hc
    simp only [tmDV_cells] at hc
    obtain ⟨c0, h0, r0⟩ := hc 0 _ rfl
    obtain ⟨c1, h1, r1⟩ := hc 1 _ rfl
    obtain ⟨c2, h2, r2⟩ := hc 2 _ rfl
    rw [r0.int_] at h0; rw [r1.int_] at h1
    simp only [add_none]
    obtain ⟨a, cap, rfl, k1, k2, k3⟩ := slice_sl hm hS (sz := 3) (fun t => by rw [tmDV_cells]; rfl) (by decide) (Rr := TmC w S) r2 fun u hu b o hcc => ih u hu b o hcc
    exact ⟨hm _ _ _ h0, hm _ _ _ h1, a, cap, hm _ _ _ h2, k1, k2, k3⟩

theorem tm_val {t : Tm} {x : Value} (h : RD m x (tmDV t)) : TmV w S t x := by
  rw [tmDV_eq] at h
  cases h with
  | st hl h1 hc =>
    rename_i cs
    obtain ⟨l⟩ := cs
    match l, hl with
    | [c0, c1, c2], _ =>
      have r0 := hc 0 c0 _ rfl rfl
      have r1 := hc 1 c1 _ rfl rfl
      have r2 := hc 2 c2 _ rfl rfl
      rw [r0.int_, r1.int_]
      obtain ⟨a, cap, rfl, k1, k2, k3⟩ := slice_sl hm hS (sz := 3) (fun t => by rw [tmDV_cells]; rfl) (by decide) (Rr := TmC w S) r2 fun u hu b o hcc => tm_cells hm hS u b o hcc
      exact ⟨a, cap, rfl, k1, k2, k3⟩
theorem tms_val {ts : List Tm} {x : Value} (h : RD m x (.sl (ts.map tmDV))) : SlTV w S ts x :=
  slice_sl hm hS (sz := 3) (fun t => by rw [tmDV_cells]; rfl) (by decide) (Rr := TmC w S) h fun u _ b o hcc => tm_cells hm hS u b o hcc
theorem ints_val {is : List Int} {x : Value} (h : RD m x (.sl (is.map iD))) : SlIV w S is x :=
  slice_sl hm hS (sz := 1) (fun t => rfl) (by decide) (Rr := IntC w) h fun n _ b o hcc => by
    obtain ⟨c, hc, r⟩ := hcc 0 _ rfl
    rw [r.int_] at hc
    exact hm _ _ _ hc
end
/-- A signature. -/
def sgDV (g : List Int) : DV := .st [.sl (g.map iD)]
@[go_sem] theorem sgDV_cells (g : List Int) : (sgDV g).cells = [.sl (g.map iD)] := rfl
@[go_sem] theorem sgDV_fold (g : List Int) : DV.st [.sl (g.map iD)] = sgDV g := rfl
theorem sg_val {w : World} {m : Mem} {S : Nat → Prop} (hm : ∀ b o v, m b o = some v → w.cell? ⟨b, o, none⟩ = some v) (hS : ∀ b, b < w.heap.size → S b) {g : List Int} {x : Value} (h : RD m x (sgDV g)) : SgV w S g x := by
  unfold sgDV at h
  cases h with
  | st hl h1 hc =>
    rename_i cs
    obtain ⟨l⟩ := cs
    match l, hl with
    | [c0], _ =>
      obtain ⟨a, cap, rfl, k1, k2, k3⟩ := ints_val hm hS (hc 0 c0 _ rfl rfl)
      exact ⟨a, cap, rfl, k1, k2, k3⟩

/-- All blocks of a world. -/
abbrev Here (w : World) : Nat → Prop := fun b => b < w.heap.size
/-- A contract whose answer is one cell, from one that speaks of worlds. -/
theorem tri_of {P : Program} {f : FuncId} {args : List AV} {v : Value} (h : ∀ (w : World) (m : Mem) (β : Bl) (cargs : Array Value), (∀ b o v, m b o = some v → w.cell? ⟨b, o, none⟩ = some v) → cargs.size = args.length →
    (∀ (i : Nat) (x : Value) (a : AV), cargs[i]? = some x → args[i]? = some a → R m β x a) → Calls P f cargs w fun e w' => e = .returned v ∧ Ext w w') (hv : v.oneCell' = true) : Tri P f args (pure' (.d (.v v))) := by
  intro w0 hh k m β w cargs H _ _ hsz hargs
  refine (h w m β cargs (fun b o v hv => (H.mem b o v hv).1) hsz hargs).mono ?_
  rintro e w' ⟨rfl, hx⟩
  exact ⟨v, m, β, rfl, .rfl' m, .rfl' β, fun _ _ h => h, H.grow hx, .d (.v hv)⟩
theorem R.dat_ {m : Mem} {β : Bl} {x : Value} {d : DV} (h : R m β x (.d d)) : RD m x d := by cases h; assumption
theorem tri_of1 {P : Program} {f : FuncId} {a : DV} {v : Value} (hv : v.oneCell' = true) (h : ∀ (w : World) (m : Mem) (x : Value), (∀ b o v, m b o = some v → w.cell? ⟨b, o, none⟩ = some v) → RD m x a → Calls P f #[x] w fun e w' => e = .returned v ∧ Ext w w') :
    Tri P f [.d a] (pure' (.d (.v v))) := tri_of (fun w m β cargs hm hsz hargs => by
  obtain ⟨l⟩ := cargs
  match l, hsz with
  | [x], _ => exact h w m x hm (hargs 0 x _ rfl rfl).dat_) hv
theorem tri_of2 {P : Program} {f : FuncId} {a b : DV} {v : Value} (hv : v.oneCell' = true) (h : ∀ (w : World) (m : Mem) (x y : Value), (∀ b o v, m b o = some v → w.cell? ⟨b, o, none⟩ = some v) → RD m x a → RD m y b → Calls P f #[x, y] w fun e w' => e = .returned v ∧ Ext w w') :
    Tri P f [.d a, .d b] (pure' (.d (.v v))) := tri_of (fun w m β cargs hm hsz hargs => by
  obtain ⟨l⟩ := cargs
  match l, hsz with
  | [x, y], _ => exact h w m x y hm (hargs 0 x _ rfl rfl).dat_ (hargs 1 y _ rfl rfl).dat_) hv
theorem tri_of3 {P : Program} {f : FuncId} {a b c : DV} {v : Value} (hv : v.oneCell' = true) (h : ∀ (w : World) (m : Mem) (x y z : Value), (∀ b o v, m b o = some v → w.cell? ⟨b, o, none⟩ = some v) → RD m x a → RD m y b → RD m z c → Calls P f #[x, y, z] w fun e w' => e = .returned v ∧ Ext w w') :
    Tri P f [.d a, .d b, .d c] (pure' (.d (.v v))) := tri_of (fun w m β cargs hm hsz hargs => by
  obtain ⟨l⟩ := cargs
  match l, hsz with
  | [x, y, z], _ => exact h w m x y z hm (hargs 0 x _ rfl rfl).dat_ (hargs 1 y _ rfl rfl).dat_ (hargs 2 z _ rfl rfl).dat_) hv

/-- What a call made is frozen. -/
def Mem.frost (m : Mem) (n : Nat) (w : World) : Mem := fun b o => if b < n then m b o else match w.cell? ⟨b, o, none⟩ with | some v => if v.oneCell' = true then some v else none | none => none
theorem tri_frost {P : Program} {f : FuncId} {args : List AV} {d : DV} (h : ∀ (w : World) (m : Mem) (β : Bl) (cargs : Array Value), (∀ b o v, m b o = some v → w.cell? ⟨b, o, none⟩ = some v) → cargs.size = args.length →
    (∀ (i : Nat) (x : Value) (a : AV), cargs[i]? = some x → args[i]? = some a → R m β x a) → Calls P f cargs w fun e w' => ∃ v, e = .returned v ∧ Ext w w' ∧ ∀ m' : Mem, m.le m' → (∀ b o c, w.heap.size ≤ b → w'.cell? ⟨b, o, none⟩ = some c → c.oneCell' = true → m' b o = some c) → RD m' v d) : Tri P f args (pure' (.d d)) := by
  intro w0 hh k m β w cargs H _ _ hsz hargs
  refine (h w m β cargs (fun b o v hv => (H.mem b o v hv).1) hsz hargs).mono ?_
  rintro e w' ⟨v, rfl, hx, hv⟩
  have hle : m.le (m.frost w.heap.size w') := fun b o v hb => by
    unfold Mem.frost
    rw [if_pos (H.mem_lt hb)]; exact hb
  have hold : ∀ b, b < w.heap.size → ∀ o, m.frost w.heap.size w' b o = m b o := fun b hb o => by unfold Mem.frost; rw [if_pos hb]
  refine ⟨v, m.frost w.heap.size w', β, rfl, hle, .rfl' β, fun _ _ h => h, ⟨H.ext.trans (hx.mono H.size), fun b o c hc => ?_, H.dom, H.new, fun n ob ho => ?_, H.inj⟩, .d (hv _ hle fun b o c hb hc h1 => ?_)⟩
  · unfold Mem.frost at hc
    split at hc
    · obtain ⟨h1, h2⟩ := H.mem b o c hc; exact ⟨hx.some_ h1, h2⟩
    · split at hc
      · split at hc
        · cases hc; exact ⟨by assumption, by assumption⟩
        · cases hc
      · cases hc
  · obtain ⟨p, hp, hob⟩ := H.obj n ob ho
    exact ⟨p, hp, hob.keep hle (.rfl' β) fun hr => ⟨hx.block _ (hob.lt hr), hold _ (hob.lt hr)⟩⟩
  · unfold Mem.frost
    rw [if_neg (by omega), hc]
    simp [h1]
theorem ints_frost {w : World} {n : Nat} {m' : Mem} (hm : ∀ b o c, n ≤ b → w.cell? ⟨b, o, none⟩ = some c → c.oneCell' = true → m' b o = some c) {S : Nat → Prop} (hS : ∀ b, S b → n ≤ b) {is : List Int} {x : Value} (h : SlIW w S is x) : RD m' x (.sl (is.map iD)) := by
  obtain ⟨⟨a, cap, rfl, h1, h2, h3⟩, h4⟩ := h
  rcases h4 with h4 | ⟨b, o, l, c, h4⟩
  · injection h4 with e1 e2 e3
    have : is = [] := List.eq_nil_of_length_eq_zero e2
    subst this
    rw [e1, e3]
    exact .nil
  · injection h4 with e1 e2 e3
    subst e1
    have key : ∀ i (hi : i < is.length), m' b (o + i * 1) = some (.int .i64 is[i]) := fun i hi => by
      obtain ⟨g1, g2, g3⟩ := h3.at_ hi
      exact hm _ _ _ (hS _ g1) g3 rfl
    refine .sl (sz := 1) (by simp) h1 h2 (fun x hx => ?_) (fun i j x d hx hd => ?_) (fun i j x d c hx hd hc => ?_)
    · obtain ⟨y, _, rfl⟩ := List.mem_map.1 hx; rfl
    all_goals
      rw [List.getElem?_map, Option.map_eq_some_iff] at hx
      obtain ⟨y, hy, rfl⟩ := hx
      obtain ⟨hi, rfl⟩ := List.getElem?_eq_some_iff.1 hy
      cases j with
      | zero => first | exact ⟨_, key i hi⟩ | (have := key i hi; rw [Nat.add_zero] at hc; rw [this] at hc; cases hc; cases hd; exact .v rfl)
      | succ j => simp [DV.cells] at hd
theorem argsOf_tri (t : Tm) (hn : (parts t).length ≤ 1000000) : Tri Try.prog 64 [.d (tmDV t)] (pure' (.d (.sl ((argsOf t).map fun l => .sl (l.map iD))))) := by
  refine tri_frost fun w m β cargs hm hsz hargs => ?_
  obtain ⟨l⟩ := cargs
  match l, hsz with
  | [x], _ =>
    have hx := (hargs 0 x _ rfl rfl).dat_
    refine (argsOf_any t (Here w) x w (tm_val hm (fun _ h => h) hx) hn).mono ?_
    rintro e w' ⟨v, rfl, ⟨xs, h1, h2, h3⟩, hext⟩
    refine ⟨v, rfl, hext, fun m' _ hm' => ?_⟩
    rcases h1.form with ⟨h0, rfl⟩ | ⟨g, cap, rfl, hb, hlt, k1, k2⟩
    · have : argsOf t = [] := List.eq_nil_of_length_eq_zero (by rw [← h2, h0]; rfl)
      rw [this]; exact .nil
    · have key : ∀ i (hi : i < (argsOf t).length), m' g (0 + i * 1) = some (xs[i]'(by omega)) := fun i hi => by
        have hi' : i < xs.length := by omega
        have h5 := h1.cell hi' (j := 0) (by omega)
        rw [sliv_one (h3 i hi hi')] at h5
        refine hm' _ _ _ hb (by simpa using h5) ?_
        have := sliv_one' (h3 i hi hi')
        rw [sliv_one (h3 i hi hi')] at this
        exact this _ (by simp)
      have hel : ∀ i (hi : i < (argsOf t).length), RD m' (xs[i]'(by omega)) (.sl ((argsOf t)[i].map iD)) := fun i hi => ints_frost hm' (fun b hb => hb.1) (h3 i hi (by omega))
      refine .sl (sz := 1) (by simp [h2]) k1 k2 (fun x hx => ?_) (fun i j x d hx hd => ?_) (fun i j x d c hx hd hc => ?_)
      · obtain ⟨y, _, rfl⟩ := List.mem_map.1 hx; rfl
      all_goals
        rw [List.getElem?_map, Option.map_eq_some_iff] at hx
        obtain ⟨y, hy, rfl⟩ := hx
        obtain ⟨hi, rfl⟩ := List.getElem?_eq_some_iff.1 hy
        cases j with
        | zero => first | exact ⟨_, key i hi⟩ | (have := key i hi; rw [Nat.add_zero] at hc; rw [this] at hc; cases hc; cases hd; exact hel i hi)
        | succ j => simp [DV.cells] at hd

section
variable (g : List Int) (t u : Tm) (l : List Tm)
theorem between_tri (n a b : Int) : Tri Try.prog 80 [iA n, iA a, iA b] (pure' (bA (btw n a b))) :=
  tri_of3 rfl fun w m x y z _ hx hy hz => by rw [hx.int_, hy.int_, hz.int_]; exact (between_any n a b w).mono fun _ _ ⟨h1, h2⟩ => ⟨h1, h2 ▸ Ext.rfl' _⟩
theorem signature_tri : Tri Try.prog 53 [.d (sgDV g)] (pure' (iA (sigOk g))) := tri_of1 rfl fun w m x hm hx => signature_any (Here w) g x w (sg_val hm (fun _ h => h) hx)
theorem checkSig_tri : Tri Try.prog 54 [.d (sgDV g)] (pure' (iA (sigOk g))) := tri_of1 rfl fun w m x hm hx => checkSig_any (Here w) g x w (sg_val hm (fun _ h => h) hx)
theorem own_tri : Tri Try.prog 68 [.d (sgDV g), .d (tmDV t)] (pure' (iA (own g t))) := tri_of2 rfl fun w m x y hm hx hy => own_any (Here w) (Here w) g t x y w (sg_val hm (fun _ h => h) hx) (tm_val hm (fun _ h => h) hy)
theorem checkTerm_tri : Tri Try.prog 21 [.d (sgDV g), .d (tmDV t)] (pure' (iA (own g t))) := tri_of2 rfl fun w m x y hm hx hy => checkTerm_any (Here w) (Here w) g t x y w (sg_val hm (fun _ h => h) hx) (tm_val hm (fun _ h => h) hy)
theorem form_tri : Tri Try.prog 109 [.d (sgDV g), .d (tmDV t)] (pure' (iA (form g t))) := tri_of2 rfl fun w m x y hm hx hy => form_any g t (Here w) (Here w) x y w (sg_val hm (fun _ h => h) hx) (tm_val hm (fun _ h => h) hy)
theorem all_tri : Tri Try.prog 61 [.d (sgDV g), .d (.sl (l.map tmDV))] (pure' (iA (allOk g l))) := tri_of2 rfl fun w m x y hm hx hy => all_any (Here w) (Here w) g l x y w (sg_val hm (fun _ h => h) hx) (tms_val hm (fun _ h => h) hy)
theorem checkTerms_tri : Tri Try.prog 15 [.d (sgDV g), .d (.sl (l.map tmDV))] (pure' (iA (allOk g l))) := tri_of2 rfl fun w m x y hm hx hy => checkTerms_any (Here w) (Here w) g l x y w (sg_val hm (fun _ h => h) hx) (tms_val hm (fun _ h => h) hy)
theorem count_tri (most : Int) (h0 : 0 ≤ most) (h1 : most ≤ 1000000) : Tri Try.prog 102 [.d (tmDV t), iA most] (pure' (iA (count t most))) := tri_of2 rfl fun w m x y hm hx hy => by rw [hy.int_]; exact count_any t (Here w) x w most (tm_val hm (fun _ h => h) hx) h0 h1
theorem sizeOf_tri (most : Int) (h0 : 0 ≤ most) (h1 : most ≤ 1000000) : Tri Try.prog 50 [.d (tmDV t), iA most] (pure' (iA (count t most))) := tri_of2 rfl fun w m x y hm hx hy => by rw [hy.int_]; exact size_any t (Here w) x w most (tm_val hm (fun _ h => h) hx) h0 h1
theorem same_tri : Tri Try.prog 116 [.d (tmDV t), .d (tmDV u)] (pure' (bA (same t u))) := tri_of2 rfl fun w m x y hm hx hy => same_any t (Here w) (Here w) u x y w (tm_val hm (fun _ h => h) hx) (tm_val hm (fun _ h => h) hy)
theorem sameR_tri : Tri Try.prog 47 [.d (tmDV t), .d (tmDV u)] (pure' (bA (same t u))) := tri_of2 rfl fun w m x y hm hx hy => sameR_any t (Here w) (Here w) u x y w (tm_val hm (fun _ h => h) hx) (tm_val hm (fun _ h => h) hy)
theorem above_tri (har : Arit (pn t 0) (pn u 0)) (h1 : (parts t).length ≤ 1000000) (h2 : (parts u).length ≤ 1000000) : Tri Try.prog 62 [.d (tmDV t), .d (tmDV u)] (pure' (bA (gt t u))) :=
  tri_of2 rfl fun w m x y hm hx hy => above_any (Here w) t u x y w (tm_val hm (fun _ h => h) hx) (tm_val hm (fun _ h => h) hy) (fun _ h => h) har h1 h2
end
end Go.Proofs.Ytmeekpinkfpnhaa

namespace Go.Proofs.Ytmeekpinkfpnhaa
open Go.RowKit

mutual
/-- How much a reading holds. -/
def bk {H : Type} : DataW H → Nat
  | .lit (.string bytes) => bytes.length + 1
  | .lit _ => 1
  | .nil => 1
  | .ptr d => bk d + 1
  | .slice elems spare => bkL elems + bkL spare + 1
  | .agg parts => bkL parts + 1
  | .iface _ d => bk d + 1
  | .map _ => 1
  | .held _ => 1
def bkL {H : Type} : List (DataW H) → Nat
  | [] => 0
  | d :: r => bk d + bkL r
end
theorem bkL_at {H : Type} {l : List (DataW H)} {i : Nat} {d : DataW H} (h : l[i]? = some d) : bk d ≤ bkL l := by
  induction l generalizing i with
  | nil => simp at h
  | cons x l ih =>
    rw [bkL]
    cases i with
    | zero => simp at h; subst h; omega
    | succ i => have := ih (i := i) (by simpa using h); omega

/-- All cells of a world. -/
def fullM (w : World) : Mem := fun b o => match w.cell? ⟨b, o, none⟩ with | some v => if v.oneCell' = true then some v else none | none => none
theorem fullM_of {w : World} {b o : Nat} {v : Value} (h : w.cell? ⟨b, o, none⟩ = some v) (h1 : v.oneCell' = true) : fullM w b o = some v := by
  unfold fullM; rw [h]; simp [h1]
theorem fullM_cell {w : World} {b o : Nat} {v : Value} (h : fullM w b o = some v) : w.cell? ⟨b, o, none⟩ = some v ∧ v.oneCell' = true := by
  unfold fullM at h
  split at h
  · split at h
    · cases h; exact ⟨by assumption, by assumption⟩
    · cases h
  · cases h
theorem HRel.start (P : Program) (w : World) : HRel P w (fun _ => none) 0 (fullM w) (fun _ => none) w :=
  ⟨.refl _ _, fun _ _ _ h => fullM_cell h, fun _ _ h => (by cases h), fun _ _ _ h => (by cases h), fun _ _ h => (by cases h), fun _ _ _ _ _ _ h => (by cases h)⟩
theorem add_add (a : Addr) (i j : Nat) : (a.add i).add j = a.add (i + j) := by
  unfold Addr.add
  by_cases hi : i = 0
  · subst hi; simp
  · by_cases hj : j = 0
    · subst hj; simp
    · simp [hi, hj, Nat.add_assoc]

/-- These cells hold that thing. -/
def Holds (w : World) (cs : List Value) (x : DV) : Prop := x.cells.length = cs.length ∧ ∀ (j : Nat) (c : Value) (y : DV), cs[j]? = some c → x.cells[j]? = some y → c.oneCell' = true ∧ RD (fullM w) c y
/-- What is read of cells at a type, with so much fuel, is some thing. -/
def ReadsN (P : Program) (n : Nat) (T : TypeId) {α : Type} (g : α → DV) (ok : α → Prop) (sz : α → Nat) : Prop :=
  ∀ {H : Type} {enc : TypeId × Value → H} {w : World} {base : Nat} {spare : Nat → Bool} {held : Bool} {cs : List Value} {d : DataW H} {ps : List MemPlace}, (∀ b, spare b = true) → DataW.trod enc P w base spare held n T cs = some (d, ps) → ∃ a, ok a ∧ sz a ≤ bk d ∧ Holds w cs (g a)
abbrev Reads (P : Program) (T : TypeId) {α : Type} (g : α → DV) (ok : α → Prop) (sz : α → Nat) : Prop := ∀ n, ReadsN P n T g ok sz

section
variable {P : Program} {T E : TypeId} {α : Type} {g : α → DV} {ok : α → Prop} {sz : α → Nat}

theorem Holds.one {w : World} {c : Value} {x y : DV} (h : x.cells = [y]) (h1 : c.oneCell' = true) (hr : RD (fullM w) c y) : Holds w [c] x := by
  refine ⟨by rw [h]; rfl, fun j c' y' hc hy => ?_⟩
  rw [h] at hy
  cases j with
  | zero => simp at hc hy; subst hc; subst hy; exact ⟨h1, hr⟩
  | succ j => simp at hc

/-- A number within its kind. -/
def I64 (n : Int) : Prop := -9223372036854775808 ≤ n ∧ n ≤ 9223372036854775807
theorem reads_int (ht : P.underlying T = some (.int .i64)) : Reads P T (fun n : Int => DV.v (.int .i64 n)) I64 (fun _ => 1) := by
  intro n H enc w base spare held cs d ps _ h
  obtain ⟨x, rfl, hx, hw⟩ := DataW.trod_int ht h
  cases hx
  refine ⟨x, ?_, by simp [bk], .one rfl rfl (.v rfl)⟩
  simpa [I64, Lit.wf, IntKind.min, IntKind.max, IntKind.signed, IntKind.bits] using hw
theorem reads_bool (ht : P.underlying T = some .bool) : Reads P T (fun b : Bool => DV.v (.bool b)) (fun _ => True) (fun _ => 1) := by
  intro n H enc w base spare held cs d ps _ h
  obtain ⟨x, rfl, hx⟩ := DataW.trod_bool ht h
  cases hx
  exact ⟨x, trivial, by simp [bk], .one rfl rfl (.v rfl)⟩
theorem reads_string (ht : P.underlying T = some .string) : Reads P T (fun s : ByteArray => DV.v (.string s)) (fun s => s.size ≤ maxLen) (fun s => s.size + 1) := by
  intro n H enc w base spare held cs d ps _ h
  obtain ⟨x, rfl, hx, hm⟩ := DataW.trod_string ht h
  cases hx
  refine ⟨x, hm, ?_, .one rfl rfl (.v rfl)⟩
  have : x.data.toList.length = x.size := by rw [Array.length_toList]; rfl
  simp only [bk]; omega

theorem cells_spot {w : World} {base : Nat} {a : Addr} {k : Nat} {cs : List Value} (h : w.cells? base a k = some cs) : cs.length = k ∧ ∀ j c, cs[j]? = some c → w.cell? (a.add j) = some c := by
  unfold World.cells? at h
  split at h
  · refine ⟨by simpa using mapM_some_length h, fun j c hj => ?_⟩
    have hlt : j < k := by
      have h1 := mapM_some_length h
      have h2 := (List.getElem?_eq_some_iff.1 hj).1
      simp at h1; omega
    have := mapM_some_get h j j (by simp [hlt])
    rw [this]; exact hj
  · cases h
theorem spot_none {w : World} {a : Addr} {c : Value} (h : w.cell? a = some c) : a.spot = none := by
  unfold World.cell? at h
  split at h
  · split at h
    · cases h
    · rename_i hs
      simpa using hs
  · cases h

/-- The elements of a list, read. -/
theorem elems_of {w : World} {H : Type} {k : Nat} {a : Addr} {el : List (DataW H × List MemPlace)} {f : List Value → Option (DataW H × List MemPlace)} (hf : ∀ cs y, f cs = some y → ∃ x, ok x ∧ sz x ≤ bk y.1 ∧ Holds w cs (g x))
    {base : Nat} : ∀ (len : Nat), el.length = len → (∀ i, i < len → (w.cells? base (a.add (i * k)) k).bind f = el[i]?) →
    ∃ l : List α, l.length = len ∧ (∀ x ∈ l, ok x) ∧ (l.map sz).sum ≤ bkL (el.map (·.1)) ∧ ∀ (i : Nat) (x : α), l[i]? = some x → (g x).cells.length = k ∧ ∀ (j : Nat) (y : DV), (g x).cells[j]? = some y → ∃ c, w.cell? (a.add (i * k + j)) = some c ∧ c.oneCell' = true ∧ RD (fullM w) c y := by
  have key : ∀ i y, el[i]? = some y → (w.cells? base (a.add (i * k)) k).bind f = el[i]? → ∃ x, ok x ∧ sz x ≤ bk y.1 ∧ (g x).cells.length = k ∧ ∀ (j : Nat) (z : DV), (g x).cells[j]? = some z → ∃ c, w.cell? (a.add (i * k + j)) = some c ∧ c.oneCell' = true ∧ RD (fullM w) c z := by
    intro i y hy hb
    rw [hy, Option.bind_eq_some_iff] at hb
    obtain ⟨cs, h1, h2⟩ := hb
    obtain ⟨x, h3, h4, h5, h6⟩ := hf cs y h2
    obtain ⟨h7, h8⟩ := cells_spot h1
    refine ⟨x, h3, h4, by omega, fun j z hz => ?_⟩
    have hlt : j < cs.length := by have := (List.getElem?_eq_some_iff.1 hz).1; omega
    have hc : cs[j]? = some cs[j] := List.getElem?_eq_getElem hlt
    have h9 := h8 j _ hc
    exact ⟨_, by rw [add_add] at h9; exact h9, h6 j _ z hc hz⟩
  intro len hlen hall
  induction el generalizing len a with
  | nil =>
    subst hlen
    exact ⟨[], rfl, by simp, by simp [bkL], fun i x hx => by simp at hx⟩
  | cons y el ih =>
    obtain ⟨len, rfl⟩ : ∃ m, len = m + 1 := ⟨el.length, by simpa using hlen.symm⟩
    obtain ⟨x, h1, h2, h3, h4⟩ := key 0 y rfl (hall 0 (Nat.succ_pos _))
    have e : ∀ i, (a.add k).add (i * k) = a.add ((i + 1) * k) := fun i => by rw [add_add, Nat.add_mul, Nat.one_mul, Nat.add_comm]
    have e' : ∀ i j, (a.add k).add (i * k + j) = a.add ((i + 1) * k + j) := fun i j => by rw [add_add, Nat.add_mul, Nat.one_mul]; congr 1; omega
    obtain ⟨l, g1, g2, g3, g4⟩ := ih (a := a.add k) (fun i z hz hb => by
      rw [e] at hb
      obtain ⟨x, q1, q2, q3, q4⟩ := key (i + 1) z (by simpa using hz) (by simpa using hb)
      refine ⟨x, q1, q2, q3, fun j z' hz' => ?_⟩
      obtain ⟨c, r1, r2⟩ := q4 j z' hz'
      refine ⟨c, ?_, r2⟩
      rw [e']; exact r1) len (by simpa using hlen) (fun i hi => by rw [e]; simpa using hall (i + 1) (by omega))
    refine ⟨x :: l, by simp [g1], ?_, by simp only [List.map_cons, List.sum_cons, bkL]; omega, fun i z hz => ?_⟩
    · intro z hz
      rcases List.mem_cons.1 hz with rfl | hz
      · exact h1
      · exact g2 z hz
    · cases i with
      | zero => simp at hz; subst hz; exact ⟨h3, by simpa using h4⟩
      | succ i =>
        obtain ⟨r1, r2⟩ := g4 i z (by simpa using hz)
        refine ⟨r1, fun j y hy => ?_⟩
        obtain ⟨c, r3, r4⟩ := r2 j y hy
        refine ⟨c, ?_, r4⟩
        rw [← e']; exact r3

theorem reads_slice {n : Nat} (ht : P.underlying T = some (.slice E)) (hE : 0 < P.cellsOf E) (h : ∀ m, m < n → ReadsN P m E g ok sz) : ReadsN P n T (fun l : List α => .sl (l.map g)) (fun l => ∀ a ∈ l, ok a) (fun l => (l.map sz).sum + 1) := by
  intro H enc w base spare held cs d ps hsp hd
  rcases DataW.trod_slice ht hd with ⟨rfl, hx⟩ | ⟨a, len, cap, elems, rest, m, rfl, rfl, hx, hb, hle, hmax, hel, hat, hrest, _⟩
  · cases hx
    exact ⟨[], by simp, by simp [bk], .one rfl rfl .nil⟩
  · cases hx
    obtain ⟨l, g1, g2, g3, g4⟩ := elems_of (g := g) (ok := ok) (sz := sz) (w := w) (k := P.cellsOf E) (a := a) (el := elems) (f := DataW.trod enc P w base spare held m E) (base := base) (fun cs y hy => h m (Nat.lt_succ_self _) (d := y.1) (ps := y.2) hsp hy) len hel hat
    refine ⟨l, g2, by simp only [bk]; omega, .one rfl rfl ?_⟩
    by_cases hcap : cap = 0
    · have : len = 0 := by omega
      subst hcap; subst this
      have : l = [] := List.eq_nil_of_length_eq_zero g1
      subst this
      exact .nil
    · have hspot : a.spot = none := by
        have key : ∀ i (y : DataW H × List MemPlace), i = 0 → (w.cells? base (a.add (i * P.cellsOf E)) (P.cellsOf E)).bind (DataW.trod enc P w base spare held m E) = some y → a.spot = none := by
          intro i y hi hy
          subst hi
          rw [Option.bind_eq_some_iff] at hy
          obtain ⟨cs, h1, _⟩ := hy
          obtain ⟨h2, h3⟩ := cells_spot h1
          have hc : cs[0]? = some (cs[0]'(by omega)) := List.getElem?_eq_getElem (by omega)
          exact spot_none (by simpa [Addr.add] using h3 0 _ hc)
        by_cases hl0 : len = 0
        · obtain ⟨hr1, hr2⟩ := hrest (hsp _)
          have h0 := hr2 0 (by omega)
          rw [hl0] at h0
          obtain ⟨y, hy⟩ : ∃ y, rest[0]? = some y := ⟨_, List.getElem?_eq_getElem (by omega)⟩
          exact key _ y (by omega) (h0.trans hy)
        · have h0 := hat 0 (by omega)
          obtain ⟨y, hy⟩ : ∃ y, elems[0]? = some y := ⟨_, List.getElem?_eq_getElem (by omega)⟩
          exact key _ y rfl (h0.trans hy)
      obtain ⟨ab, ao, az⟩ := a
      simp only at hspot
      subst hspot
      have hmem : ∀ (i j : Nat) (x d : DV), (l.map g)[i]? = some x → x.cells[j]? = some d → ∃ c, fullM w ab (ao + i * P.cellsOf E + j) = some c ∧ RD (fullM w) c d := by
        intro i j x d hx hd'
        rw [List.getElem?_map, Option.map_eq_some_iff] at hx
        obtain ⟨z, hz, rfl⟩ := hx
        obtain ⟨_, h2⟩ := g4 i z hz
        obtain ⟨c, h3, h4, h5⟩ := h2 j d hd'
        refine ⟨c, fullM_of ?_ h4, h5⟩
        rwa [add_none', ← Nat.add_assoc] at h3
      refine .sl (sz := P.cellsOf E) (by simp [g1]) hle hmax (fun x hx => ?_) (fun i j x d hx hd' => ?_) (fun i j x d c hx hd' hc => ?_)
      · obtain ⟨z, hz, rfl⟩ := List.mem_map.1 hx
        obtain ⟨i, hi, rfl⟩ := List.mem_iff_getElem.1 hz
        exact (g4 i _ (List.getElem?_eq_getElem hi)).1
      · obtain ⟨c, h1, _⟩ := hmem i j x d hx hd'; exact ⟨c, h1⟩
      · obtain ⟨c', h1, h2⟩ := hmem i j x d hx hd'
        rw [hc] at h1; cases h1; exact h2

/-- As some other thing. -/
theorem ReadsN.map {β : Type} {n : Nat} {g' : β → DV} {ok' : β → Prop} {sz' : β → Nat} (h : ReadsN P n T g ok sz) (f : α → β) (hg : ∀ a, ok a → g' (f a) = g a ∧ ok' (f a) ∧ sz' (f a) ≤ sz a) : ReadsN P n T g' ok' sz' := by
  intro H enc w base spare held cs d ps hsp hd
  obtain ⟨a, h1, h2, h3⟩ := h hsp hd
  obtain ⟨k1, k2, k3⟩ := hg a h1
  exact ⟨f a, k2, by omega, by rw [k1]; exact h3⟩

/-- Fields, from a place on. -/
def ReadsF (P : Program) (n : Nat) (fs : List Field) (off : Nat) {α : Type} (g : α → List DV) (ok : α → Prop) (sz : α → Nat) : Prop :=
  ∀ {H : Type} {enc : TypeId × Value → H} {w : World} {base : Nat} {spare : Nat → Bool} {held : Bool} {cs : List Value} {xs : List (DataW H × List MemPlace)}, (∀ b, spare b = true) → xs.length = fs.length →
    (∀ (i : Nat) (f : Field), fs[i]? = some f → DataW.trod enc P w base spare held n f.type ((cs.drop f.offset).take (P.cellsOf f.type)) = xs[i]?) →
    ∃ a, ok a ∧ sz a ≤ bkL (xs.map (·.1)) ∧ Holds w ((cs.drop off).take ((fs.map fun f => P.cellsOf f.type).sum)) (.st (g a))
theorem readsF_nil {n off : Nat} : ReadsF P n [] off (fun _ : Unit => []) (fun _ => True) (fun _ => 0) := by
  intro H enc w base spare held cs xs _ hl _
  exact ⟨(), trivial, Nat.zero_le _, by simp [DV.cells], fun j c y hc => by simp at hc⟩
theorem readsF_cons {n off : Nat} {f : Field} {fs : List Field} {β : Type} {gs : β → List DV} {oks : β → Prop} {szs : β → Nat} (ho : f.offset = off) (h : ReadsN P n f.type g ok sz) (hs : ReadsF P n fs (off + P.cellsOf f.type) gs oks szs) :
    ReadsF P n (f :: fs) off (fun p : α × β => (g p.1).cells ++ gs p.2) (fun p => ok p.1 ∧ oks p.2) (fun p => sz p.1 + szs p.2) := by
  intro H enc w base spare held cs xs hsp hl hf
  match xs, hl with
  | x :: xs, hl =>
    have h0 := hf 0 f rfl
    simp only [List.getElem?_cons_zero] at h0
    obtain ⟨a, h1, h2, h3, h4⟩ := h hsp (d := x.1) (ps := x.2) h0
    obtain ⟨b, k1, k2, k3, k4⟩ := hs hsp (xs := xs) (by simpa using hl) (fun i f' hi => by have := hf (i + 1) f' (by simpa using hi); simpa using this)
    rw [ho] at h3 h4
    have e : (cs.drop off).take (P.cellsOf f.type + (fs.map fun f => P.cellsOf f.type).sum) = (cs.drop off).take (P.cellsOf f.type) ++ (cs.drop (off + P.cellsOf f.type)).take ((fs.map fun f => P.cellsOf f.type).sum) := by
      rw [← List.drop_drop, ← List.take_add]
    refine ⟨(a, b), ⟨h1, k1⟩, by simp only [List.map_cons, bkL]; omega, ?_⟩
    simp only [List.map_cons, List.sum_cons, e]
    refine ⟨by simp only [DV.cells, List.length_append] at h3 k3 ⊢; omega, fun j c y hc hy => ?_⟩
    simp only [DV.cells_st] at hy k4
    by_cases hj : j < ((cs.drop off).take (P.cellsOf f.type)).length
    · rw [List.getElem?_append_left hj] at hc
      rw [List.getElem?_append_left (by omega)] at hy
      exact h4 j c y hc hy
    · rw [List.getElem?_append_right (by omega)] at hc
      rw [List.getElem?_append_right (by omega), h3] at hy
      exact k4 _ c y hc hy
theorem reads_struct {n : Nat} {fs : Array Field} {l : List Field} {gs : α → List DV} (ht : P.underlying T = some (.struct fs)) (hfs : fs.toList = l) (hsz : P.cellsOf T = (l.map fun f => P.cellsOf f.type).sum) (h : ∀ m, m < n → ReadsF P m l 0 gs ok sz) : ReadsN P n T (fun a => .st (gs a)) ok (fun a => sz a + 1) := by
  subst hfs
  intro H enc w base spare held cs d ps hsp hd
  obtain ⟨xs, m, rfl, hx, hl, hlen, hf⟩ := DataW.trod_struct ht hd
  cases hx
  obtain ⟨a, h1, h2, h3⟩ := h m (Nat.lt_succ_self _) hsp (xs := xs) (by simpa using hlen) (fun i f hi => hf i f (by simpa using hi))
  refine ⟨a, h1, by simp only [bk]; omega, ?_⟩
  rw [← hsz, List.drop_zero, ← hl, List.take_length] at h3
  exact h3

/-- A value that is handed in: what reads as a struct. -/
theorem arg_struct {w : World} {m : Mem} {β : Bl} {cs : Array Value} {x : DV} {ds : List DV} (hx : x = .st ds) (h : Holds w cs.toList x) (hm : (fullM w).le m) : R m β (.agg cs) (.d x) := by
  subst hx
  obtain ⟨h1, h2⟩ := h
  refine .d (.st (by simpa [DV.cells] using h1.symm) (fun i c hc => ?_) (fun i c d hc hd => ?_))
  · have hlt : i < cs.size := (Array.getElem?_eq_some_iff.1 hc).1
    obtain ⟨y, hy⟩ : ∃ y, (DV.st ds).cells[i]? = some y := ⟨_, List.getElem?_eq_getElem (by simp at h1 ⊢; omega)⟩
    exact (h2 i c y (by simpa using hc) hy).1
  · exact (h2 i c d (by simpa using hc) hd).2.mono hm
theorem arg_cell {w : World} {m : Mem} {β : Bl} {c : Value} {x : DV} (hx : x.cells = [x]) (h : Holds w [c] x) (hm : (fullM w).le m) : R m β c (.d x) :=
  .d ((h.2 0 c x rfl (by rw [hx]; rfl)).2.mono hm)
end
/-- A contract, at the beginning of the world. -/
theorem Tri.start {P : Program} {f : FuncId} {args : List AV} {v : Value} (h : Tri P f args (pure' (.d (.v v)))) {W : World} {cargs : Array Value} (hsz : cargs.size = args.length) (hargs : ∀ (i : Nat) (x : Value) (a : AV), cargs[i]? = some x → args[i]? = some a → R (fullM W) (fun _ => none) x a) :
    Calls P f cargs W fun e W' => e = .returned v ∧ Below W.heap.size W W' := by
  refine (h W (fun _ => none) 0 (fullM W) (fun _ => none) W cargs (HRel.start P W) (fun x hx => by cases hx) (fun x hx => by cases hx) hsz hargs).mono ?_
  rintro e W' ⟨u, m', β', rfl, _, _, _, h5, h6⟩
  cases h6 with
  | d hd => cases hd with | v _ => exact ⟨rfl, h5.ext⟩

/-- What is asked behind a call, where nothing below has turned. -/
theorem post_below {H : Type} {enc : TypeId × Value → H} {P : Program} {f : Func} {s : ChangeSpec} {apart fresh handsOn again : Bool} {W W' : World} {args : Array Value} {v : Value} {ds gs : List (DataW H)} {before pa pv : List MemPlace}
    (hW : DataW.Whole enc P f.params.toList s.vars apart W args.toList ds gs before) (hb : Below W.heap.size W W')
    (hres : ∀ (b : Nat) (sp : Nat → Bool) (hd : Bool), DataW.TrodAll enc P W' b sp hd f.resultTypes.toList (v.resultList f.resultTypes.size) (s.fn H (ds ++ gs)).results [])
    (hargs : ∀ sp : Nat → Bool, (∀ p ∈ before, sp p.block = true) → DataW.TrodAll enc P W' 0 sp true f.params.toList args.toList (s.fn H (ds ++ gs)).args pa)
    (hvars : ∀ sp : Nat → Bool, (∀ p ∈ before, sp p.block = true) → DataW.TrodVars enc P W' sp s.vars (s.fn H (ds ++ gs)).vars pv)
    (hps : before = pa ++ pv)
    (hok : ∀ (j : Nat) (t : TypeId) (r : Value), f.resultTypes[j]? = some t → (v.resultList f.resultTypes.size)[j]? = some r → Value.okWide P W' .any 0 t r) :
    s.post enc P f apart fresh handsOn again W args v W' := by
  have hlt : ∀ p ∈ before, p.block < W.heap.size := fun p hp => hW.lt p hp
  have hold : ∀ p ∈ before, (fun b => decide (b < W.heap.size)) p.block = true := fun p hp => by simpa using hlt p hp
  refine ⟨ds, gs, before, [], pa, pv, hW, hres _ _ _, hargs _ hold, hvars _ hold, hb.frame _, fun _ => ?_⟩
  obtain ⟨_, _, _, _, _, hz, hn⟩ := hW
  refine ⟨hok, _, _, ([] ++ pa) ++ pv, ⟨[] ++ pa, pv, Go.ChangeShapes.trodAll_append (hargs _ (fun _ _ => rfl)) (hres _ _ _), hvars _ (fun _ _ => rfl), rfl, ?_, ?_⟩, ?_⟩
  · intro b off hp
    have hp' : MemPlace.cell b off ∈ before := by rw [hps]; simpa using hp
    rw [hb.frozen (p := ⟨b, off, none⟩) (hlt _ hp')]
    exact hz b off hp'
  · intro ha
    have := hn ha
    rw [hps] at this
    simpa using this
  · intro p hp _
    rw [hps]
    simpa using hp
/-- Arguments read behind the call as before it. -/
theorem args_below {H : Type} {enc : TypeId × Value → H} {P : Program} (hl : laidOutB P = true) {W W' : World} (hb : Below W.heap.size W W') {sp : Nat → Bool} : ∀ {ts : List TypeId} {vs : List Value} {ds : List (DataW H)} {ps : List MemPlace},
    DataW.TrodAll enc P W 0 (fun _ => true) true ts vs ds ps → (∀ t ∈ ts, P.readableRec t = true ∧ t < P.types.size) → (∀ p ∈ ps, p.block < W.heap.size) → (∀ p ∈ ps, sp p.block = true) → DataW.TrodAll enc P W' 0 sp true ts vs ds ps
  | [], _, _, _, h, _, _, _ => by
    obtain ⟨rfl, rfl, rfl⟩ := Go.ChangeShapes.trodAll_nil h
    exact rfl
  | t :: ts, _, _, _, h, ht, h1, h2 => by
    obtain ⟨v, vs, d, ds, a, b, rfl, rfl, rfl, h3, h4⟩ := Go.ChangeShapes.trodAll_cons h
    obtain ⟨r1, r2⟩ := ht t (by simp)
    exact ⟨a, b, WideElems.Trod_stays hl r1 r2 h3 (fun x hx => hb.same (h1 x (by simp [hx]))) (fun x hx => h2 x (by simp [hx])), args_below hl hb h4 (fun t' ht' => ht t' (by simp [ht'])) (fun p hp => h1 p (by simp [hp])) (fun p hp => h2 p (by simp [hp])), rfl⟩
end Go.Proofs.Ytmeekpinkfpnhaa

namespace Go.Proofs.Ytmeekpinkfpnhaa
open Go.ChangeShapes Go.WideShapes Go.RowKit

/-- An argument of this type is some thing. -/
def ArgOf (P : Program) (T : TypeId) {α : Type} (g : α → DV) (ok : α → Prop) (sz : α → Nat) : Prop :=
  ∀ {H : Type} {enc : TypeId × Value → H} {w : World} {v : Value} {d : DataW H} {ps : List MemPlace} {b0 : Nat}, Value.okWide P w .any b0 T v → DataW.Trod enc P w 0 (fun _ => true) true T v d ps → ∃ a, ok a ∧ sz a ≤ bk d ∧ R (fullM w) (fun _ => none) v (.d (g a))

section
variable {P : Program} {T E : TypeId} {α : Type} {g : α → DV} {ok : α → Prop} {sz : α → Nat}
theorem argOf_struct {fs : Array Field} (ht : P.underlying T = some (.struct fs)) (h : Reads P T g ok sz) (hg : ∀ a, ∃ ds, g a = .st ds) : ArgOf P T g ok sz := by
  intro H enc w v d ps b0 hval hd
  obtain ⟨cs, rfl, _⟩ := okWide_struct ht hval
  obtain ⟨n, hn⟩ := hd
  obtain ⟨a, h1, h2, h3⟩ := h n (fun _ => rfl) hn
  obtain ⟨ds, hds⟩ := hg a
  exact ⟨a, h1, h2, arg_struct hds h3 (fun _ _ _ h => h)⟩
theorem argOf_slice (ht : P.underlying T = some (.slice E)) {f : α → List DV} (h : Reads P T (fun a => .sl (f a)) ok sz) : ArgOf P T (fun a => .sl (f a)) ok sz := by
  intro H enc w v d ps b0 hval hd
  obtain ⟨a', len, cap, rfl⟩ := okWide_slice ht hval
  obtain ⟨n, hn⟩ := hd
  obtain ⟨a, h1, h2, h3⟩ := h n (fun _ => rfl) hn
  exact ⟨a, h1, h2, arg_cell rfl h3 (fun _ _ _ h => h)⟩
theorem argOf_int (ht : P.underlying T = some (.int .i64)) : ArgOf P T (fun n : Int => DV.v (.int .i64 n)) I64 (fun _ => 1) := by
  intro H enc w v d ps b0 hval hd
  obtain ⟨n, rfl⟩ := okWide_int ht hval
  obtain ⟨n, hn⟩ := hd
  obtain ⟨a, h1, h2, h3⟩ := reads_int ht n (fun _ => rfl) hn
  exact ⟨a, h1, h2, arg_cell rfl h3 (fun _ _ _ h => h)⟩
theorem argOf_string (ht : P.underlying T = some .string) : ArgOf P T (fun s : ByteArray => DV.v (.string s)) (fun s => s.size ≤ maxLen) (fun s => s.size + 1) := by
  intro H enc w v d ps b0 hval hd
  obtain ⟨n, rfl⟩ := okWide_string ht hval
  obtain ⟨n, hn⟩ := hd
  obtain ⟨a, h1, h2, h3⟩ := reads_string ht n (fun _ => rfl) hn
  exact ⟨a, h1, h2, arg_cell rfl h3 (fun _ _ _ h => h)⟩
end
end Go.Proofs.Ytmeekpinkfpnhaa

namespace Go.Proofs.Ytmeekpinkfpnhaa

/-- One place of the table. -/
def grAll (h : Int × Int → Bool) (sv sf tv tf : Int) (ta : List Int) (i : Int) : Bool := (sv == 0 && tv == 0 && decide (tf ≤ sf)) && ta.all fun b => h (i, b)
def grYes (f h : Int × Int → Bool) (sv : Int) (sa : List Int) (k : Int) : Bool := sv == 0 && sa.any fun a => h (a, k) || f (a, k)
def grG (f h : Int × Int → Bool) (sv sf : Int) (sa : List Int) (tv tf : Int) (ta : List Int) (i k : Int) : Bool :=
  if grAll h sv sf tv tf ta i && sf == tf then (if grAll h sv sf tv tf ta i && decide (tf < sf) then true else grYes f h sv sa k) || lexi f h sa ta
  else if grAll h sv sf tv tf ta i && decide (tf < sf) then true else grYes f h sv sa k
theorem grG_eq (f h : Int × Int → Bool) {sv tv : Int} (sf : Int) (sa : List Int) (tf : Int) (ta : List Int) (i k : Int) (h1 : 0 ≤ sv) (h2 : 0 ≤ tv) : grG f h sv sf sa tv tf ta i k = grV f h sv sf sa tv tf ta i k := by
  unfold grG grV
  have e : (sa.any fun a => h (a, k) || f (a, k)) = sa.any fun a => f (a, k) || h (a, k) := by
    congr 1; funext a; exact Bool.or_comm _ _
  have e2 : ta.all (fun b => h (i, b)) = !(ta.any fun b => !h (i, b)) := by rw [List.all_eq_not_any_not]
  rw [grYes, e]
  unfold grAll
  rw [e2]
  generalize (sa.any fun a => f (a, k) || h (a, k)) = q
  generalize (ta.any fun b => !h (i, b)) = r
  generalize lexi f h sa ta = l
  by_cases hs : sv > 0
  · have : (sv == 0) = false := by simp; omega
    simp [this, hs]
  · obtain rfl : sv = 0 := by omega
    by_cases ht : tv > 0
    · have : (tv == 0) = false := by simp; omega
      simp [this, ht]
    · obtain rfl : tv = 0 := by omega
      rcases Int.lt_trichotomy sf tf with hf | hf | hf
      · have e1 : decide (tf ≤ sf) = false := by simp; omega
        simp [e1, hf]
      · subst hf
        cases q <;> cases r <;> cases l <;> simp
      · have e1 : decide (tf ≤ sf) = true := by simp; omega
        have e3 : decide (tf < sf) = true := by simpa using hf
        have e4 : (sf == tf) = false := by simp; omega
        have e5 : ¬ sf < tf := by omega
        simp only [e1, e3, e4, e5]
        cases q <;> cases r <;> simp [hf]

/-- Are two parts the same? by their numbers. -/
def sameN (ps pt : List Tm) (p : Int × Int) : Bool := match ps[p.1.toNat]?, pt[p.2.toNat]? with
  | some x, some y => same x y
  | _, _ => false
theorem sameN_at {ps pt : List Tm} {a b : Nat} (ha : a < ps.length) (hb : b < pt.length) : sameN ps pt (a, b) = same ps[a] pt[b] := by
  simp [sameN, ha, hb]
theorem formOne_v {g : List Int} {v f : Int} {n : Nat} (h : formOne g v f n = 0) : 0 ≤ v := by
  unfold formOne at h
  split at h
  · split at h
    · cases h
    · omega
  · omega
/-- The table: what is right for all pairs ahead is right for this one. -/
theorem grG_right {s t : Tm} {h : Int × Int → Bool} {i k : Nat} (hi : i < (parts s).length) (hk : k < (parts t).length) (hv : 0 ≤ (parts s)[i].v) (hv' : 0 ≤ (parts t)[k].v)
    (hK : Known (pn s 0) (pn t 0) (sameN (parts s) (parts t)) h (lexlt i k)) :
    grG (sameN (parts s) (parts t)) h (parts s)[i].v (parts s)[i].f ((argsOf s)[i]'(by rw [argsOf_len]; exact hi)) (parts t)[k].v (parts t)[k].f ((argsOf t)[k]'(by rw [argsOf_len]; exact hk)) i k = gt (parts s)[i] (parts t)[k] := by
  have hi' : i < (pn s 0).length := by rw [pn_len]; exact hi
  have hk' : k < (pn t 0).length := by rw [pn_len]; exact hk
  have e1 : (parts s)[i] = (pn s 0)[i].1 := by simp [← pn_fst s 0]
  have e2 : (parts t)[k] = (pn t 0)[k].1 := by simp [← pn_fst t 0]
  have e3 : (argsOf s)[i]'(by rw [argsOf_len]; exact hi) = (pn s 0)[i].2 := by simp [argsOf]
  have e4 : (argsOf t)[k]'(by rw [argsOf_len]; exact hk) = (pn t 0)[k].2 := by simp [argsOf]
  rw [grG_eq _ _ _ _ _ _ _ _ hv hv', e3, e4]
  have := hK.grP hi' hk' (pn_well0 s i hi') (pn_well0 t k hk')
  rw [grP] at this
  simp only [e1, e2]
  exact this
theorem known_same {s t : Tm} {h : Int × Int → Bool} {D : Nat → Nat → Prop} (H : ∀ a b (ha : a < (parts s).length) (hb : b < (parts t).length), D a b → h (a, b) = gt (parts s)[a] (parts t)[b]) : Known (pn s 0) (pn t 0) (sameN (parts s) (parts t)) h D := by
  intro a b u v hd hu hv
  rw [← List.getElem?_map, pn_fst] at hu hv
  obtain ⟨ha, e⟩ := List.getElem?_eq_some_iff.1 hu
  obtain ⟨hb, e'⟩ := List.getElem?_eq_some_iff.1 hv
  subst e e'
  exact ⟨sameN_at ha hb, H a b ha hb hd⟩
end Go.Proofs.Ytmeekpinkfpnhaa

namespace Go.Proofs.Ytmeekpinkfpnhaa

theorem ownL_all {g : List Int} : ∀ {l : List Tm}, ownL g l = 0 → ∀ t ∈ l, own g t = 0
  | x :: l, h, t, ht => by
    rw [ownL] at h
    by_cases hx : own g x = 0
    · simp [hx] at h
      rcases List.mem_cons.1 ht with rfl | ht
      · exact hx
      · exact ownL_all h t ht
    · simp [hx] at h
theorem allOk_own {g : List Int} {l : List Tm} (h : allOk g l = 0) : sigOk g = 0 ∧ ∀ t ∈ l, own g t = 0 := by
  unfold allOk at h
  by_cases hs : sigOk g = 0
  · simp [hs] at h; exact ⟨hs, ownL_all h⟩
  · simp [hs] at h
theorem own_form {g : List Int} {t : Tm} (h : own g t = 0) : form g t = 0 ∧ count t 120 ≤ 120 := by
  unfold own at h
  split at h
  · cases h
  · exact ⟨h, by omega⟩
theorem own_parts {g : List Int} {t : Tm} (h : own g t = 0) : (parts t).length ≤ 120 := by
  have h2 := (own_form h).2
  have := count_parts t 120 (by omega) h2
  omega
theorem own_each {g : List Int} {t : Tm} (h : own g t = 0) {u : Tm} (hu : u ∈ parts t) : formOne g u.v u.f u.us.length = 0 := formAll_mem (by rw [formAll_parts]; exact (own_form h).1) u hu
theorem own_v {g : List Int} {t : Tm} (h : own g t = 0) {u : Tm} (hu : u ∈ parts t) : 0 ≤ u.v := formOne_v (own_each h hu)
theorem own_arit {g : List Int} {s t : Tm} (h : own g s = 0) (h' : own g t = 0) : Arit (pn s 0) (pn t 0) := arit_form (own_form h).1 (own_form h').1
mutual
theorem size_parts : ∀ t : Tm, t.size = (parts t).length
  | .mk v f us => by rw [parts, Tm.size, List.length_append, sizes_parts us]; simp; omega
theorem sizes_parts : ∀ us : List Tm, Tm.size.sizes us = (partsL us).length
  | [] => rfl
  | x :: xs => by rw [partsL, Tm.size.sizes, List.length_append, size_parts x, sizes_parts xs]
end
theorem Tm.sizes_sum (us : List Tm) : Tm.size.sizes us = (us.map Tm.size).sum := by
  induction us with
  | nil => rfl
  | cons x xs ih => simp [Tm.size.sizes, ih]
end Go.Proofs.Ytmeekpinkfpnhaa

namespace Go.Proofs.Ytmeekpinkfpnhaa
open Go.ChangeShapes Go.WideShapes Go.RowKit

mutual
theorem bk_le {H : Type} : ∀ d : DataW H, bk d ≤ Rows.uptoBulk d
  | .lit l => by cases l <;> simp [Rows.uptoBulk, bk]
  | .nil => by simp [Rows.uptoBulk, bk]
  | .ptr d => by have := bk_le d; simp [Rows.uptoBulk, bk]; omega
  | .slice e s => by have := bkL_le e; have := bkL_le s; simp [Rows.uptoBulk, bk]; omega
  | .agg p => by have := bkL_le p; simp [Rows.uptoBulk, bk]; omega
  | .iface _ d => by have := bk_le d; simp [Rows.uptoBulk, bk]; omega
  | .map _ => by simp [Rows.uptoBulk, bk]
  | .held _ => by simp [Rows.uptoBulk, bk]
theorem bkL_le {H : Type} : ∀ l : List (DataW H), bkL l ≤ Rows.uptoBulkAll l
  | [] => by simp [bkL]
  | x :: xs => by have := bk_le x; have := bkL_le xs; simp [Rows.uptoBulkAll, bkL]; omega
end
theorem laid : laidOutB Try.prog = true := by kernel_rfl
theorem bulk {H : Type} {l : List (DataW H)} (hk : Rows.uptoSmall H l = true) : bkL l ≤ 1048576 :=
  Nat.le_trans (bkL_le l) (of_decide_eq_true hk)

set_option maxRecDepth 20000 in
theorem term_reads : Reads Try.prog 27 tmDV (fun _ => True) Tm.size := by
  intro n
  induction n using Nat.strongRecOn with
  | ind n ih =>
    refine ReadsN.map (reads_struct Try.underlying27 rfl (by kernel_rfl) fun m hm => readsF_cons rfl (reads_int Try.underlying3 m) (readsF_cons rfl (reads_int Try.underlying3 m) (readsF_cons rfl (reads_slice Try.underlying25 (by decide +kernel) fun m' hm' => ih m' (by omega)) readsF_nil))) (fun p => Tm.mk p.1 p.2.1 p.2.2.1) fun p _ => ⟨?_, trivial, ?_⟩
    · rw [tmDV_eq]; rfl
    · rw [Tm.size, Tm.sizes_sum]; omega
set_option maxRecDepth 20000 in
theorem sig_reads : Reads Try.prog 24 sgDV (fun _ => True) (fun g => g.length + 1) := by
  intro n
  refine ReadsN.map (reads_struct Try.underlying24 rfl (by kernel_rfl) fun m hm => readsF_cons rfl (reads_slice Try.underlying22 (by decide +kernel) fun m' hm' => reads_int Try.underlying3 m') readsF_nil) (fun p => p.1) fun p _ => ⟨rfl, trivial, ?_⟩
  have : ∀ l : List Int, (l.map fun _ => 1).sum = l.length := fun l => by induction l <;> simp_all <;> omega
  simp only [this]; omega
theorem term_arg : ArgOf Try.prog 27 tmDV (fun _ => True) Tm.size := argOf_struct Try.underlying27 term_reads fun a => ⟨_, tmDV_eq a⟩
theorem sig_arg : ArgOf Try.prog 24 sgDV (fun _ => True) (fun g => g.length + 1) := argOf_struct Try.underlying24 sig_reads fun a => ⟨_, rfl⟩
end Go.Proofs.Ytmeekpinkfpnhaa

namespace Go.Proofs.Ytmeekpinkfpnhaa
open Go.RowKit
section
variable {P : Program} {ops : Array Oper} {tick : Nat} {K : St → Prop}
theorem CallD.eff {s : St} {i : Nat} {dst : Option Tmp} {g : FuncId} {args : Array Operand} {ats : Array TypeId} {ty : TypeId} {pos : String} {after : Array Edge} {guard : Option (Nat × Bool)} {rest : List Oper} {acc : Acc} {az : List AV} {e : Eff} (hent : enterOk P g) (ht : Tri P g az e)
    (hco : coL (args.toList.map s.ev) az) (hrd : ∀ x ∈ e.rd, s.h x.1 = x.2) (hwr : ∀ x ∈ e.wr, s.h x.1 ≠ none ∨ x.1.1 = tick ∧ x.1.2 % 1000 = i)
    (hk : chk ⟨dst, .call ⟨.value (.func g), args, ats⟩, ty, pos, after, guard⟩ acc e.R_ e.W_ ∧ runD P ops tick rest (i + 1) (s.step ⟨dst, .call ⟨.value (.func g), args, ats⟩, ty, pos, after, guard⟩ e) (addF acc i e.R_ e.W_) K) :
    CallD P ops tick i ⟨dst, .call ⟨.value (.func g), args, ats⟩, ty, pos, after, guard⟩ rest s acc K :=
  ⟨e, ⟨g, [], [], az, rfl, hent, hco, by simpa using ht, hrd, hwr⟩, hk.1, runE_of _ _ _ _ hk.2⟩
theorem CallD.val {s : St} {i : Nat} {dst : Option Tmp} {f : Operand} {g : FuncId} {first caps : List AV} {args : Array Operand} {ats : Array TypeId} {ty : TypeId} {pos : String} {after : Array Edge} {guard : Option (Nat × Bool)} {rest : List Oper} {acc : Acc} {az : List AV} {e : Eff}
    (hf : s.ev f = .fn (.func g) first caps) (hent : enterOk P g) (ht : Tri P g (first ++ az ++ caps) e)
    (hco : coL (args.toList.map s.ev) az) (hrd : ∀ x ∈ e.rd, s.h x.1 = x.2) (hwr : ∀ x ∈ e.wr, s.h x.1 ≠ none ∨ x.1.1 = tick ∧ x.1.2 % 1000 = i)
    (hk : chk ⟨dst, .call ⟨.value f, args, ats⟩, ty, pos, after, guard⟩ acc e.R_ e.W_ ∧ runD P ops tick rest (i + 1) (s.step ⟨dst, .call ⟨.value f, args, ats⟩, ty, pos, after, guard⟩ e) (addF acc i e.R_ e.W_) K) :
    CallD P ops tick i ⟨dst, .call ⟨.value f, args, ats⟩, ty, pos, after, guard⟩ rest s acc K :=
  ⟨e, ⟨g, first, caps, az, hf, hent, hco, ht, hrd, hwr⟩, hk.1, runE_of _ _ _ _ hk.2⟩
end
end Go.Proofs.Ytmeekpinkfpnhaa

namespace Go.Proofs.Ytmeekpinkfpnhaa
open Go.RowKit
set_option linter.unusedSimpArgs false
set_option linter.unusedSectionVars false

/-- Is it a call? -/
def runI (c : Bool) (A B : Prop) : Prop := if c then A else B
@[go_sem] theorem runI_t (A B : Prop) : runI true A B = A := rfl
@[go_sem] theorem runI_f (A B : Prop) : runI false A B = B := rfl
section
variable {P : Program} {ops : Array Oper} {tick : Nat} {s : St} {K : St → Prop} {i : Nat} {rest : List Oper} {acc : Acc}
  {dst : Option Tmp} {op : Op} {ty : TypeId} {pos : String} {after : Array Edge} {j : Nat} {b : Bool}
@[go_sem] theorem runL_nil : runL P ops tick [] i s K = K s := rfl
@[go_sem] theorem runL_none : runL P ops tick (⟨dst, op, ty, pos, after, none⟩ :: rest) i s K = runI (isCallV op) (CallK P ops tick i ⟨dst, op, ty, pos, after, none⟩ rest s K)
    (okOf P op s.ev s.h ∧ runL P ops tick rest (i + 1) (s.step ⟨dst, op, ty, pos, after, none⟩ (effOf P (tick, i) op s.ev s.h)) K) := (Eq.trans rfl (Eq.refl _))
@[go_sem] theorem runL_t (h : gval ops s j = .d (.v (.bool b))) : runL P ops tick (⟨dst, op, ty, pos, after, some (j, b)⟩ :: rest) i s K = runI (isCallV op) (CallK P ops tick i ⟨dst, op, ty, pos, after, some (j, b)⟩ rest s K)
    (okOf P op s.ev s.h ∧ runL P ops tick rest (i + 1) (s.step ⟨dst, op, ty, pos, after, some (j, b)⟩ (effOf P (tick, i) op s.ev s.h)) K) := by
  show (guardOk (gval ops s j) ∧ if guardB b (gval ops s j) = true then _ else _) = _
  rw [h]; simp [guardOk, isBool, guardB, runI]
@[go_sem] theorem runL_f (h : gval ops s j = .d (.v (.bool !b))) : runL P ops tick (⟨dst, op, ty, pos, after, some (j, b)⟩ :: rest) i s K = runL P ops tick rest (i + 1) (s.step ⟨dst, op, ty, pos, after, some (j, b)⟩ nop) K := by
  show (guardOk (gval ops s j) ∧ if guardB b (gval ops s j) = true then _ else _) = _
  rw [h]; cases b <;> simp [guardOk, isBool, guardB]
@[go_sem] theorem runL_u (h : gval ops s j = .un) : runL P ops tick (⟨dst, op, ty, pos, after, some (j, b)⟩ :: rest) i s K = runL P ops tick rest (i + 1) (s.step ⟨dst, op, ty, pos, after, some (j, b)⟩ nop) K := by
  show (guardOk (gval ops s j) ∧ if guardB b (gval ops s j) = true then _ else _) = _
  rw [h]; simp [guardOk, guardB]
theorem runL_split {c : Bool} (h : gval ops s j = .d (.v (.bool c)))
    (h1 : c = b → runL P ops tick (⟨dst, op, ty, pos, after, some (j, b)⟩ :: rest) i s K) (h2 : c = !b → runL P ops tick (⟨dst, op, ty, pos, after, some (j, b)⟩ :: rest) i s K) : runL P ops tick (⟨dst, op, ty, pos, after, some (j, b)⟩ :: rest) i s K := by
  cases c <;> cases b <;> first | exact h1 rfl | exact h2 rfl
@[go_sem] theorem runD_nil : runD P ops tick [] i s acc K = K s := rfl
@[go_sem] theorem runD_none : runD P ops tick (⟨dst, op, ty, pos, after, none⟩ :: rest) i s acc K = runI (isCallV op) (CallD P ops tick i ⟨dst, op, ty, pos, after, none⟩ rest s acc K)
    (okOf P op s.ev s.h ∧ chk ⟨dst, op, ty, pos, after, none⟩ acc (effOf P (tick, i) op s.ev s.h).R_ (effOf P (tick, i) op s.ev s.h).W_ ∧
      runD P ops tick rest (i + 1) (s.step ⟨dst, op, ty, pos, after, none⟩ (effOf P (tick, i) op s.ev s.h)) (addF acc i (effOf P (tick, i) op s.ev s.h).R_ (effOf P (tick, i) op s.ev s.h).W_) K) := (Eq.trans rfl (Eq.refl _))
@[go_sem] theorem runD_t (h : gval ops s j = .d (.v (.bool b))) : runD P ops tick (⟨dst, op, ty, pos, after, some (j, b)⟩ :: rest) i s acc K = runI (isCallV op) (CallD P ops tick i ⟨dst, op, ty, pos, after, some (j, b)⟩ rest s acc K)
    (okOf P op s.ev s.h ∧ chk ⟨dst, op, ty, pos, after, some (j, b)⟩ acc (effOf P (tick, i) op s.ev s.h).R_ (effOf P (tick, i) op s.ev s.h).W_ ∧
      runD P ops tick rest (i + 1) (s.step ⟨dst, op, ty, pos, after, some (j, b)⟩ (effOf P (tick, i) op s.ev s.h)) (addF acc i (effOf P (tick, i) op s.ev s.h).R_ (effOf P (tick, i) op s.ev s.h).W_) K) := by
  show (guardOk (gval ops s j) ∧ if guardB b (gval ops s j) = true then _ else _) = _
  rw [h]; simp [guardOk, isBool, guardB, runI]
@[go_sem] theorem runD_f (h : gval ops s j = .d (.v (.bool !b))) : runD P ops tick (⟨dst, op, ty, pos, after, some (j, b)⟩ :: rest) i s acc K = runD P ops tick rest (i + 1) (s.step ⟨dst, op, ty, pos, after, some (j, b)⟩ nop) acc K := by
  show (guardOk (gval ops s j) ∧ if guardB b (gval ops s j) = true then _ else _) = _
  rw [h]; cases b <;> simp [guardOk, isBool, guardB]
@[go_sem] theorem runD_u (h : gval ops s j = .un) : runD P ops tick (⟨dst, op, ty, pos, after, some (j, b)⟩ :: rest) i s acc K = runD P ops tick rest (i + 1) (s.step ⟨dst, op, ty, pos, after, some (j, b)⟩ nop) acc K := by
  show (guardOk (gval ops s j) ∧ if guardB b (gval ops s j) = true then _ else _) = _
  rw [h]; simp [guardOk, guardB]
theorem runD_split {c : Bool} (h : gval ops s j = .d (.v (.bool c)))
    (h1 : c = b → runD P ops tick (⟨dst, op, ty, pos, after, some (j, b)⟩ :: rest) i s acc K) (h2 : c = !b → runD P ops tick (⟨dst, op, ty, pos, after, some (j, b)⟩ :: rest) i s acc K) : runD P ops tick (⟨dst, op, ty, pos, after, some (j, b)⟩ :: rest) i s acc K := by
  cases c <;> cases b <;> first | exact h1 rfl | exact h2 rfl
end
attribute [go_sem] ite_self List.any_nil List.any_cons Region.binds Bool.or_false Bool.false_or Bool.true_or Bool.or_true Bool.and_true Bool.true_and Bool.and_false Bool.false_and
attribute [go_sem] chk addF Eff.R_ Eff.W_ edgeB Far isCallV okOf effOf St.step St.ev constAV constC Eff.ap List.foldl_cons List.foldl_nil slotsOf List.getD_cons_zero List.getD_cons_succ pure' List.map_cons List.map_nil
attribute [go_sem] Bool.false_eq_true if_false if_true reduceIte reduceCtorEq Nat.reduceEqDiff and_true true_and and_self stOK isInt isBool isVal isI64 valOf intOf' boolOf' addTo isPlace Option.getD_some Option.getD_none gval gslot List.getElem?_toArray List.getElem?_cons_zero List.getElem?_cons_succ Option.bind_some
attribute [go_sem] Nat.reduceAdd Nat.zero_add Nat.add_zero objCells objTy isCells effLoad okLoad effStore okStore setR effIndexAddr okIndexAddr listOf isList binV okBin inK unV okUn okLen lenA effBuiltin okBuiltin effAppend srcRd okAppend okSrc okDest newsOf effBuildSlice okBuildSlice effSlice okSlice effMakeSlice okMakeSlice fillA okFill placeT
attribute [go_sem] Option.some.injEq exists_eq_left' exists_eq_left List.drop_succ_cons List.drop_zero List.take_succ_cons List.take_zero List.length_cons List.length_nil Nat.reduceLeDiff Option.map_some Option.map_none Nat.lt_add_one Nat.reduceMul List.set_cons_zero List.set_cons_succ List.append_assoc List.nil_append List.append_nil List.cons_append
attribute [go_sem] isStruct Prod.mk.injEq ne_eq not_false_eq_true Bool.not_true Bool.not_false forall_const false_implies implies_true Nat.le_refl Option.isSome_some decide_eq_true_eq decide_eq_false_iff_not nop not_true_eq_false decide_true decide_false true_implies List.toList_toArray List.length_map AV.toD AV.toD? List.mem_cons List.not_mem_nil or_false forall_eq forall_eq_or_imp false_or List.range_succ List.range_zero

attribute [go_sem] ownEff newEff Nat.reduceMod Nat.reduceLT true_or or_true
theorem nat_ne (n : Nat) : ((n = n + 1) = False) ∧ ((n = n + 1 + 1) = False) ∧ ((n = n + 1 + 1 + 1) = False) ∧ ((n = n + 1 + 1 + 1 + 1) = False) ∧ ((n = n + 1 + 1 + 1 + 1 + 1) = False) ∧ ((n = n + 1 + 1 + 1 + 1 + 1 + 1) = False) ∧ ((n = n + 1 + 1 + 1 + 1 + 1 + 1 + 1) = False) ∧
    ((n + 1 = n) = False) ∧ ((n + 1 + 1 = n) = False) ∧ ((n + 1 + 1 + 1 = n) = False) ∧ ((n + 1 + 1 + 1 + 1 = n) = False) ∧ ((n + 1 + 1 + 1 + 1 + 1 = n) = False) ∧ ((n + 1 + 1 + 1 + 1 + 1 + 1 = n) = False) ∧ ((n + 1 + 1 + 1 + 1 + 1 + 1 + 1 = n) = False) := by
  and_intros <;> (apply eq_false; omega)
/-- Names of earlier ticks are others. -/
theorem ltne {a b : Nat} (h : a < b) : ((a = b) = False) ∧ ((a = b + 1) = False) ∧ ((a = b + 1 + 1) = False) ∧ ((a = b + 1 + 1 + 1) = False) ∧ ((a = b + 1 + 1 + 1 + 1) = False) ∧ ((a = b + 1 + 1 + 1 + 1 + 1) = False) ∧ ((a = b + 1 + 1 + 1 + 1 + 1 + 1) = False) ∧ ((a = b + 1 + 1 + 1 + 1 + 1 + 1 + 1) = False) ∧
    ((b = a) = False) ∧ ((b + 1 = a) = False) ∧ ((b + 1 + 1 = a) = False) ∧ ((b + 1 + 1 + 1 = a) = False) ∧ ((b + 1 + 1 + 1 + 1 = a) = False) ∧ ((b + 1 + 1 + 1 + 1 + 1 = a) = False) ∧ ((b + 1 + 1 + 1 + 1 + 1 + 1 = a) = False) ∧ ((b + 1 + 1 + 1 + 1 + 1 + 1 + 1 = a) = False) := by
  and_intros <;> (apply eq_false; omega)
/-- The same, of a name that is not known part by part. -/
theorem nmne {n : Nm} {b : Nat} (h : n.1 < b) : (∀ j, (n = (b, j)) = False) ∧ (∀ j, (n = (b + 1, j)) = False) ∧ (∀ j, (n = (b + 1 + 1, j)) = False) ∧ (∀ j, (n = (b + 1 + 1 + 1, j)) = False) ∧ (∀ j, (n = (b + 1 + 1 + 1 + 1, j)) = False) ∧ (∀ j, (n = (b + 1 + 1 + 1 + 1 + 1, j)) = False) ∧ (∀ j, (n = (b + 1 + 1 + 1 + 1 + 1 + 1, j)) = False) ∧
    (∀ j, ((b, j) = n) = False) ∧ (∀ j, ((b + 1, j) = n) = False) ∧ (∀ j, ((b + 1 + 1, j) = n) = False) ∧ (∀ j, ((b + 1 + 1 + 1, j) = n) = False) ∧ (∀ j, ((b + 1 + 1 + 1 + 1, j) = n) = False) ∧ (∀ j, ((b + 1 + 1 + 1 + 1 + 1, j) = n) = False) ∧ (∀ j, ((b + 1 + 1 + 1 + 1 + 1 + 1, j) = n) = False) := by
  and_intros <;> (intro j; apply eq_false; intro e; first | (rw [e] at h; simp only at h; omega) | (rw [← e] at h; simp only at h; omega))
/-- No object has a name of a tick to come. -/
def NoNew (h : Heap) (b : Nat) : Prop := ∀ x : Nm, b ≤ x.1 → h x = none
theorem NoNew.at {h : Heap} {b : Nat} (hn : NoNew h b) : (∀ j, h (b, j) = none) ∧ (∀ j, h (b + 1, j) = none) ∧ (∀ j, h (b + 1 + 1, j) = none) ∧ (∀ j, h (b + 1 + 1 + 1, j) = none) ∧ (∀ j, h (b + 1 + 1 + 1 + 1, j) = none) ∧ (∀ j, h (b + 1 + 1 + 1 + 1 + 1, j) = none) ∧ (∀ j, h (b + 1 + 1 + 1 + 1 + 1 + 1, j) = none) := by
  and_intros <;> (intro j; apply hn; simp only; omega)
attribute [go_sem] nat_ne
theorem map_sz {α : Type} {g : α → DV} {n : Nat} {l : List α} (h : ∀ a, (g a).cells.length = n) : ∀ y ∈ l.map g, y.cells.length = n := fun y hy => by
  obtain ⟨a, _, rfl⟩ := List.mem_map.1 hy
  exact h a
theorem co_i {k : Nat} {a b : Int} (h : a = b) : Co k none (iA a) (iA b) := by rw [h]; exact .dat rfl
theorem co_b {k : Nat} {a b : Bool} (h : a = b) : Co k none (bA a) (bA b) := by rw [h]; exact .dat rfl
theorem co_d {k : Nat} {a b : DV} (h : a = b) : Co k none (.d a) (.d b) := by rw [h]; exact .dat rfl

section
variable {P : Program} {w0 : World} {n : Nat} {Q : Exit → St → Prop} {s : St}
theorem if_both {c : Prop} [Decidable c] {a b : Prop} (h1 : c → a) (h2 : ¬ c → b) : if c then a else b := by
  by_cases h : c
  · rw [if_pos h]; exact h1 h
  · rw [if_neg h]; exact h2 h
theorem awp_new {c : Code} (h : NoNew s.h s.k → awp P w0 n c Q s) : awp P w0 n c Q s := awp_known h
/-- A call of a function value. -/
theorem CallK.val {tick i : Nat} {dst : Option Tmp} {f : Operand} {g : FuncId} {first caps : List AV} {args : Array Operand} {ats : Array TypeId} {ty : TypeId} {pos : String} {after : Array Edge} {guard : Option (Nat × Bool)} {ops : Array Oper} {rest : List Oper} {K : St → Prop} {az : List AV} {e : Eff}
    (hf : s.ev f = .fn (.func g) first caps) (hent : enterOk P g) (ht : Tri P g (first ++ az ++ caps) e) (hco : coL (args.toList.map s.ev) az) (hrd : ∀ x ∈ e.rd, s.h x.1 = x.2) (hwr : ∀ x ∈ e.wr, s.h x.1 ≠ none ∨ x.1.1 = tick ∧ x.1.2 % 1000 = i)
    (hk : runL P ops tick rest (i + 1) (s.step ⟨dst, .call ⟨.value f, args, ats⟩, ty, pos, after, guard⟩ e) K) : CallK P ops tick i ⟨dst, .call ⟨.value f, args, ats⟩, ty, pos, after, guard⟩ rest s K :=
  ⟨e, ⟨g, first, caps, az, hf, hent, hco, ht, hrd, hwr⟩, runF_of _ _ _ hk⟩
/-- A call that hands back a new list. -/
theorem CallK.new {tick i : Nat} {dst : Option Tmp} {g : FuncId} {args : Array Operand} {ats : Array TypeId} {ty : TypeId} {pos : String} {after : Array Edge} {guard : Option (Nat × Bool)} {ops : Array Oper} {rest : List Oper} {K : St → Prop} {az : List AV} {e : TypeId} {ys : List DV} (hi : i % 1000 = i) (hent : enterOk P g) (ht : ∀ n', Tri P g az (newEff e n' ys))
    (hco : coL (args.toList.map s.ev) az) (hrd : s.h (tick, i) = none) (hk : runL P ops tick rest (i + 1) (s.step ⟨dst, .call ⟨.value (.func g), args, ats⟩, ty, pos, after, guard⟩ (newEff e (tick, i) ys)) K) : CallK P ops tick i ⟨dst, .call ⟨.value (.func g), args, ats⟩, ty, pos, after, guard⟩ rest s K :=
  CallK.eff hent (ht (tick, i)) hco (fun x hx => by simp only [newEff, List.mem_cons, List.not_mem_nil, or_false] at hx; subst hx; exact hrd) (fun x hx => by simp only [newEff, List.mem_cons, List.not_mem_nil, or_false] at hx; subst hx; exact .inr ⟨rfl, hi⟩) hk
end
/-- The caller's objects but one are as they were. -/
def FrX (k : Nat) (n : Nm) (h0 h : Heap) : Prop := ∀ x : Nm, x.1 < k → x ≠ n → h x = h0 x
theorem FrX.rfl' (k : Nat) (n : Nm) (h : Heap) : FrX k n h h := fun _ _ _ => rfl
theorem FrX.updk {k : Nat} {n : Nm} {h0 h : Heap} (hf : FrX k n h0 h) {k' i : Nat} (hn : k ≤ k') (o : Option Ob) : FrX k n h0 (upd h (k', i) o) := fun x hx hxn => by
  rw [upd_ne _ _ (fun e => by subst e; simp only at hx; omega)]; exact hf x hx hxn
theorem FrX.updn {k : Nat} {n : Nm} {h0 h : Heap} (hf : FrX k n h0 h) (o : Option Ob) : FrX k n h0 (upd h n o) := fun x hx hxn => by
  rw [upd_ne _ _ hxn]; exact hf x hx hxn
theorem upd_upd (h : Heap) (n : Nm) (o o' : Option Ob) : upd (upd h n o) n o' = upd h n o' := by
  funext x; unfold upd; split <;> rfl
/-- A function that lets a list grow, at the nil list. -/
theorem Tri.grown {P : Program} {f : FuncId} {e : TypeId} {pre args : List AV} {ys : List DV} (h : ∀ n, Tri P f (pre ++ .own n [] :: args) (ownEff e n [] ys)) (n' : Nm) : Tri P f (pre ++ .nil :: args) (newEff e n' ys) := by
  intro w0 hh k m β w cargs H hrd hwr hsz hargs
  have hn : hh n' = none := hrd (n', none) (by simp [newEff])
  obtain ⟨hk, hb⟩ := hwr (n', _) (by simp only [newEff]; exact List.mem_cons_self ..)
  have hb := hb hn
  refine (h n' w0 (upd hh n' (some (.perm e 0))) k m (updB β n' ⟨0, 0, some 0⟩) w cargs (H.perm0 hb hk e 0 0) (fun x hx => ?_) (fun x hx => ?_) (by simpa using hsz) (fun i v a hv ha => ?_)).mono ?_
  · simp only [ownEff, List.mem_cons, List.not_mem_nil, or_false] at hx; subst hx; exact upd_self _ _ _
  · simp only [ownEff, List.mem_cons, List.not_mem_nil, or_false] at hx; subst hx
    exact ⟨hk, fun h0 => by simp only [upd_self] at h0; cases h0⟩
  · have hle := updB_le (le_new (p := ⟨0, 0, some 0⟩) hb)
    have hlt := (List.getElem?_eq_some_iff.1 ha).1
    have hall : (pre ++ .nil :: args)[i]? = some ((pre ++ .nil :: args)[i]'(by simpa using hlt)) := List.getElem?_eq_getElem _
    have hr := hargs i v _ hv hall
    by_cases h1 : i < pre.length
    · rw [List.getElem?_append_left h1] at ha hall
      rw [ha] at hall; cases hall
      exact hr.mono (.rfl' m) hle
    · rw [List.getElem?_append_right (by omega)] at ha hall
      cases hi : i - pre.length with
      | zero =>
        rw [hi] at ha hall
        simp only [List.getElem?_cons_zero, Option.some.injEq] at ha hall
        rw [← hall] at hr
        subst ha
        cases hr with
        | nil => exact .own (p := ⟨0, 0, some 0⟩) (v := 0) .nil (updB_self _ _ _) rfl (Nat.le_refl _) fun _ => ⟨none, rfl, .inl rfl⟩
      | succ j =>
        rw [hi] at ha hall
        simp only [List.getElem?_cons_succ] at ha hall
        rw [ha] at hall
        rw [← Option.some.inj hall] at hr
        exact hr.mono (.rfl' m) hle
  · rintro en w' ⟨v, m', β', rfl, g1, g2, g3, g4, g5⟩
    refine ⟨v, m', β', rfl, g1, (updB_le (le_new hb)).trans g2, fun n hne h0 => g3 n (fun x hx => ?_) ?_, ?_, g5⟩
    · simp only [ownEff, List.mem_cons, List.not_mem_nil, or_false] at hx; subst hx
      exact hne (n', _) (by simp only [newEff]; exact List.mem_cons_self ..)
    · exact updB_none (fun e => hne (n', _) (by simp only [newEff]; exact List.mem_cons_self ..) e.symm) h0
    · have : (newEff e n' ys).ap hh = (ownEff e n' [] ys).ap (upd hh n' (some (.perm e 0))) := by
        simp only [newEff, ownEff, Eff.ap, List.foldl_cons, List.foldl_nil, upd_upd]
      rw [this]; exact g4
/-- These slots, and all objects, are as they were. -/
structure Keep (L : List Nat) (σ σ' : St) : Prop where
  t : ∀ n ∈ L, σ'.t n = σ.t n
  k : σ.k ≤ σ'.k
  h : σ'.h = σ.h
theorem Keep.rfl' (L : List Nat) (σ : St) : Keep L σ σ := ⟨fun _ _ => rfl, Nat.le_refl _, rfl⟩
theorem Keep.set {L : List Nat} {σ : St} {t : Nat → AV} {h : Heap} {k i : Nat} {a : AV} (hk : Keep L σ ⟨t, h, k⟩) (hi : L.contains i = false) : Keep L σ ⟨set t i a, h, k⟩ :=
  ⟨fun n hn => by
    have : ¬ n = i := fun e => by subst e; rw [List.contains_iff_mem.2 hn] at hi; cases hi
    show (if n = i then a else t n) = _
    rw [if_neg this]; exact hk.t n hn, hk.k, hk.h⟩
theorem Keep.tick {L : List Nat} {σ : St} {t : Nat → AV} {h : Heap} {k : Nat} (hk : Keep L σ ⟨t, h, k⟩) : Keep L σ ⟨t, h, k + 1⟩ := ⟨hk.t, Nat.le_succ_of_le hk.k, hk.h⟩
theorem Keep.of {L : List Nat} {σ σ' : St} (hk : Keep L σ σ') : Keep L σ ⟨σ'.t, σ'.h, σ'.k⟩ := hk
theorem Keep.sub {L L' : List Nat} {σ σ' : St} (hk : Keep L σ σ') (hs : L'.all L.contains = true) : Keep L' σ σ' :=
  ⟨fun n hn => hk.t n (by simpa using List.all_eq_true.1 hs n hn), hk.k, hk.h⟩
end Go.Proofs.Ytmeekpinkfpnhaa

namespace Go.Proofs.Ytmeekpinkfpnhaa
open Go.RowKit
set_option linter.unusedSimpArgs false
set_option linter.unusedSectionVars false

theorem co_tm {k : Nat} {ren : Ren} {v f : Int} {a : AV} {us : List Tm} (h : a.toD? = some (.sl (us.map tmDV))) : Co k ren (.st [iA v, iA f, a]) (.d (tmDV (.mk v f us))) :=
  .dat (by simp only [AV.toD?, allD, h]; rw [tmDV_eq]; rfl)
set_option maxRecDepth 20000 in
theorem small_tri : Tri Try.prog 65 [] (pure' (.d (sgDV [0, 1]))) := by
  refine tri_enter Try.func65 rfl Try.ntmps65 (by simp only [List.length_cons, List.length_nil]; omega) fun w0 h0 k hrd hwr => ?_
  repeat' (first
    | refine awp_seq_k fun K hK => ?_
    | (refine awp_region_k (by kernel_rfl) fun R hR => ?_; simp only [go_sem])
    | (refine awp_draw mixed (by kernel_rfl) (by kernel_rfl) fun R hR => ?_; simp only [go_sem])
    | (refine hR _ ?_; clear hR R; try simp only [thenA, inBlockA, reduceIte, reduceCtorEq, Nat.reduceEqDiff, if_false, if_true])
    | (refine hK _ ?_; clear hK K)
    | (clear hK K; refine hK _ ?_; clear hK K)
    | (clear hK K; clear hK K; refine hK _ ?_; clear hK K)
    | (clear hK K; clear hK K; clear hK K; refine hK _ ?_; clear hK K)
    | (clear hK K; clear hK K; clear hK K; clear hK K; refine hK _ ?_; clear hK K)
    | refine awp_true rfl rfl ?_
    | refine awp_false rfl rfl ?_
    | (refine awp_cond rfl rfl (fun hc => ?_) (fun hc => ?_) <;> (try simp only [go_sem] at hc) <;> (try (exfalso; omega)))
    | refine awp_block ?_
    | (refine awp_skip ?_; try simp only [thenA, inBlockA, reduceIte, reduceCtorEq, Nat.reduceEqDiff, if_false, if_true])
    | (refine awp_exit ?_; try simp only [thenA, inBlockA, reduceIte, reduceCtorEq, Nat.reduceEqDiff, if_false, if_true])
    | (refine awp_ret ?_; try simp only [thenA, inBlockA, reduceIte, reduceCtorEq, Nat.reduceEqDiff, if_false, if_true])
    | (refine runL_split ?_ (fun hc => ?_) (fun hc => ?_); (simp only [go_sem]; exact rfl); all_goals (try simp only [go_sem, hc]); all_goals (try simp only [go_sem] at hc); all_goals (try (exfalso; omega)))
    | (refine runD_split ?_ (fun hc => ?_) (fun hc => ?_); (simp only [go_sem]; exact rfl); all_goals (try simp only [go_sem, hc]); all_goals (try simp only [go_sem] at hc); all_goals (try (exfalso; omega)))
    | refine And.intro (by first | omega | exact trivial | rfl | assumption | (apply map_sz; intro a; simp only [go_sem]; done) | ((and_intros <;> first | omega | exact trivial | rfl | assumption | (apply map_sz; intro a; simp only [go_sem]; done) | fail); done) | fail) ?_
    | fail)
  refine ret_pure (by simp only [Try.results65, resOkL, resOk, Try.ntmps65, List.toList_toArray]; first | decide | (simp only [go_sem]; done) | (simp only [go_sem]; and_intros <;> first | omega | rfl | decide)) ?_ (by repeat (first | exact Fr.rfl' _ _ | assumption | refine Fr.updk ?_ (by omega) _))
  simp only [resA, resV, Try.results65, go_sem]
  all_goals try (first | exact Co.t2 (.dat rfl) (.dat rfl) | exact Co.t3 (.dat rfl) (.dat rfl) (.dat rfl))
  exact .dat rfl
set_option maxRecDepth 20000 in
theorem fn_tri (n : Int) (us : List Tm) : Tri Try.prog 66 [iA n, .d (.sl (us.map tmDV))] (pure' (.d (tmDV (.mk 0 n us)))) := by
  refine tri_enter Try.func66 rfl Try.ntmps66 (by simp only [List.length_cons, List.length_nil]; omega) fun w0 h0 k hrd hwr => ?_
  repeat' (first
    | refine awp_seq_k fun K hK => ?_
    | (refine awp_region_k (by kernel_rfl) fun R hR => ?_; simp only [go_sem])
    | (refine awp_draw mixed (by kernel_rfl) (by kernel_rfl) fun R hR => ?_; simp only [go_sem])
    | (refine hR _ ?_; clear hR R; try simp only [thenA, inBlockA, reduceIte, reduceCtorEq, Nat.reduceEqDiff, if_false, if_true])
    | (refine hK _ ?_; clear hK K)
    | (clear hK K; refine hK _ ?_; clear hK K)
    | (clear hK K; clear hK K; refine hK _ ?_; clear hK K)
    | (clear hK K; clear hK K; clear hK K; refine hK _ ?_; clear hK K)
    | (clear hK K; clear hK K; clear hK K; clear hK K; refine hK _ ?_; clear hK K)
    | refine awp_true rfl rfl ?_
    | refine awp_false rfl rfl ?_
    | (refine awp_cond rfl rfl (fun hc => ?_) (fun hc => ?_) <;> (try simp only [go_sem] at hc) <;> (try (exfalso; omega)))
    | refine awp_block ?_
    | (refine awp_skip ?_; try simp only [thenA, inBlockA, reduceIte, reduceCtorEq, Nat.reduceEqDiff, if_false, if_true])
    | (refine awp_exit ?_; try simp only [thenA, inBlockA, reduceIte, reduceCtorEq, Nat.reduceEqDiff, if_false, if_true])
    | (refine awp_ret ?_; try simp only [thenA, inBlockA, reduceIte, reduceCtorEq, Nat.reduceEqDiff, if_false, if_true])
    | (refine runL_split ?_ (fun hc => ?_) (fun hc => ?_); (simp only [go_sem]; exact rfl); all_goals (try simp only [go_sem, hc]); all_goals (try simp only [go_sem] at hc); all_goals (try (exfalso; omega)))
    | (refine runD_split ?_ (fun hc => ?_) (fun hc => ?_); (simp only [go_sem]; exact rfl); all_goals (try simp only [go_sem, hc]); all_goals (try simp only [go_sem] at hc); all_goals (try (exfalso; omega)))
    | refine And.intro (by first | omega | exact trivial | rfl | assumption | (apply map_sz; intro a; simp only [go_sem]; done) | ((and_intros <;> first | omega | exact trivial | rfl | assumption | (apply map_sz; intro a; simp only [go_sem]; done) | fail); done) | fail) ?_
    | fail)
  refine ret_pure (by simp only [Try.results66, resOkL, resOk, Try.ntmps66, List.toList_toArray]; first | decide | (simp only [go_sem]; done) | (simp only [go_sem]; and_intros <;> first | omega | rfl | decide)) ?_ (by repeat (first | exact Fr.rfl' _ _ | assumption | refine Fr.updk ?_ (by omega) _))
  simp only [resA, resV, Try.results66, go_sem]
  all_goals try (first | exact Co.t2 (.dat rfl) (.dat rfl) | exact Co.t3 (.dat rfl) (.dat rfl) (.dat rfl))
  exact co_tm rfl
set_option maxRecDepth 20000 in
theorem va_tri (n : Int) : Tri Try.prog 67 [iA n] (pure' (.d (tmDV (.mk n 0 [])))) := by
  refine tri_enter Try.func67 rfl Try.ntmps67 (by simp only [List.length_cons, List.length_nil]; omega) fun w0 h0 k hrd hwr => ?_
  repeat' (first
    | refine awp_seq_k fun K hK => ?_
    | (refine awp_region_k (by kernel_rfl) fun R hR => ?_; simp only [go_sem])
    | (refine awp_draw mixed (by kernel_rfl) (by kernel_rfl) fun R hR => ?_; simp only [go_sem])
    | (refine hR _ ?_; clear hR R; try simp only [thenA, inBlockA, reduceIte, reduceCtorEq, Nat.reduceEqDiff, if_false, if_true])
    | (refine hK _ ?_; clear hK K)
    | (clear hK K; refine hK _ ?_; clear hK K)
    | (clear hK K; clear hK K; refine hK _ ?_; clear hK K)
    | (clear hK K; clear hK K; clear hK K; refine hK _ ?_; clear hK K)
    | (clear hK K; clear hK K; clear hK K; clear hK K; refine hK _ ?_; clear hK K)
    | refine awp_true rfl rfl ?_
    | refine awp_false rfl rfl ?_
    | (refine awp_cond rfl rfl (fun hc => ?_) (fun hc => ?_) <;> (try simp only [go_sem] at hc) <;> (try (exfalso; omega)))
    | refine awp_block ?_
    | (refine awp_skip ?_; try simp only [thenA, inBlockA, reduceIte, reduceCtorEq, Nat.reduceEqDiff, if_false, if_true])
    | (refine awp_exit ?_; try simp only [thenA, inBlockA, reduceIte, reduceCtorEq, Nat.reduceEqDiff, if_false, if_true])
    | (refine awp_ret ?_; try simp only [thenA, inBlockA, reduceIte, reduceCtorEq, Nat.reduceEqDiff, if_false, if_true])
    | (refine runL_split ?_ (fun hc => ?_) (fun hc => ?_); (simp only [go_sem]; exact rfl); all_goals (try simp only [go_sem, hc]); all_goals (try simp only [go_sem] at hc); all_goals (try (exfalso; omega)))
    | (refine runD_split ?_ (fun hc => ?_) (fun hc => ?_); (simp only [go_sem]; exact rfl); all_goals (try simp only [go_sem, hc]); all_goals (try simp only [go_sem] at hc); all_goals (try (exfalso; omega)))
    | refine And.intro (by first | omega | exact trivial | rfl | assumption | (apply map_sz; intro a; simp only [go_sem]; done) | ((and_intros <;> first | omega | exact trivial | rfl | assumption | (apply map_sz; intro a; simp only [go_sem]; done) | fail); done) | fail) ?_
    | fail)
  refine ret_pure (by simp only [Try.results67, resOkL, resOk, Try.ntmps67, List.toList_toArray]; first | decide | (simp only [go_sem]; done) | (simp only [go_sem]; and_intros <;> first | omega | rfl | decide)) ?_ (by repeat (first | exact Fr.rfl' _ _ | assumption | refine Fr.updk ?_ (by omega) _))
  simp only [resA, resV, Try.results67, go_sem]
  all_goals try (first | exact Co.t2 (.dat rfl) (.dat rfl) | exact Co.t3 (.dat rfl) (.dat rfl) (.dat rfl))
  exact co_tm rfl
end Go.Proofs.Ytmeekpinkfpnhaa

namespace Go.Proofs.Ytmeekpinkfpnhaa
open Go.RowKit
set_option linter.unusedSimpArgs false
set_option linter.unusedSectionVars false

set_option maxRecDepth 20000 in
theorem greater_tri (g : List Int) (s t : Tm) : Tri Try.prog 13 [.d (sgDV g), .d (tmDV s), .d (tmDV t)] (pure' (.tup [bA (allOk g [s, t] == 0 && gt s t), iA (allOk g [s, t])])) := by
  refine tri_enter Try.func13 rfl Try.ntmps13 (by simp only [List.length_cons, List.length_nil]; omega) fun w0 h0 k hrd hwr => ?_
  cases h : allOk g [s, t] == 0 with
  | true =>
    obtain ⟨_, h2⟩ := allOk_own (beq_iff_eq.1 h)
    have hs := h2 s (by simp)
    have ht := h2 t (by simp)
    have := own_parts hs
    have := own_parts ht
    have h0 : allOk g [s, t] = 0 := beq_iff_eq.1 h
    have h3 : (allOk g [s, t] != 0) = false := by simpa using h
    repeat' (first
      | refine awp_seq_k fun K hK => ?_
      | (refine awp_region_k (by kernel_rfl) fun R hR => ?_; simp only [go_sem, h3])
      | (refine awp_draw mixed (by kernel_rfl) (by kernel_rfl) fun R hR => ?_; simp only [go_sem, h3])
      | (refine hR _ ?_; clear hR R; try simp only [thenA, inBlockA, reduceIte, reduceCtorEq, Nat.reduceEqDiff, if_false, if_true])
      | (refine hK _ ?_; clear hK K)
      | (clear hK K; refine hK _ ?_; clear hK K)
      | (clear hK K; clear hK K; refine hK _ ?_; clear hK K)
      | (clear hK K; clear hK K; clear hK K; refine hK _ ?_; clear hK K)
      | (clear hK K; clear hK K; clear hK K; clear hK K; refine hK _ ?_; clear hK K)
      | refine awp_true rfl rfl ?_
      | refine awp_false rfl rfl ?_
      | (refine awp_cond rfl rfl (fun hc => ?_) (fun hc => ?_) <;> (try simp only [go_sem, h3] at hc) <;> (try (exfalso; omega)))
      | refine awp_block ?_
      | (refine awp_skip ?_; try simp only [thenA, inBlockA, reduceIte, reduceCtorEq, Nat.reduceEqDiff, if_false, if_true])
      | (refine awp_exit ?_; try simp only [thenA, inBlockA, reduceIte, reduceCtorEq, Nat.reduceEqDiff, if_false, if_true])
      | (refine awp_ret ?_; try simp only [thenA, inBlockA, reduceIte, reduceCtorEq, Nat.reduceEqDiff, if_false, if_true])
      | (refine runL_split ?_ (fun hc => ?_) (fun hc => ?_); (simp only [go_sem, h3]; exact rfl); all_goals (try simp only [go_sem, hc, h3]); all_goals (try simp only [go_sem, h3] at hc); all_goals (try (exfalso; omega)))
      | (refine runD_split ?_ (fun hc => ?_) (fun hc => ?_); (simp only [go_sem, h3]; exact rfl); all_goals (try simp only [go_sem, hc, h3]); all_goals (try simp only [go_sem, h3] at hc); all_goals (try (exfalso; omega)))
      | (first | (refine CallK.pure (enter61) (all_tri g [s, t]) ?_ ?_; (focus first | ((repeat (first | exact trivial | refine ⟨(by first | exact Or.inl rfl | exact Or.inr rfl), ?_⟩)); done) | (simp only [coL, AV.dat, true_or, or_true, AV.d.injEq, go_sem]; done)); simp only [go_sem, h3]) | (refine CallD.pure (enter61) (all_tri g [s, t]) ?_ ?_; (focus first | ((repeat (first | exact trivial | refine ⟨(by first | exact Or.inl rfl | exact Or.inr rfl), ?_⟩)); done) | (simp only [coL, AV.dat, true_or, or_true, AV.d.injEq, go_sem]; done)); simp only [go_sem, h3]))
      | (first | (refine CallK.pure (enter62) (above_tri s t (own_arit hs ht) (by omega) (by omega)) ?_ ?_; (focus first | ((repeat (first | exact trivial | refine ⟨(by first | exact Or.inl rfl | exact Or.inr rfl), ?_⟩)); done) | (simp only [coL, AV.dat, true_or, or_true, AV.d.injEq, go_sem]; done)); simp only [go_sem, h3]) | (refine CallD.pure (enter62) (above_tri s t (own_arit hs ht) (by omega) (by omega)) ?_ ?_; (focus first | ((repeat (first | exact trivial | refine ⟨(by first | exact Or.inl rfl | exact Or.inr rfl), ?_⟩)); done) | (simp only [coL, AV.dat, true_or, or_true, AV.d.injEq, go_sem]; done)); simp only [go_sem, h3]))
      | refine And.intro (by first | omega | exact trivial | rfl | assumption | (apply map_sz; intro a; simp only [go_sem]; done) | ((and_intros <;> first | omega | exact trivial | rfl | assumption | (apply map_sz; intro a; simp only [go_sem]; done) | fail); done) | fail) ?_
      | fail)
    refine ret_pure (by simp only [Try.results13, resOkL, resOk, Try.ntmps13, List.toList_toArray]; first | decide | (simp only [go_sem]; done) | (simp only [go_sem]; and_intros <;> first | omega | rfl | decide)) ?_ (by repeat (first | exact Fr.rfl' _ _ | assumption | refine Fr.updk ?_ (by omega) _))
    simp only [resA, resV, Try.results13, go_sem, h0]
    all_goals try (first | exact Co.t2 (.dat rfl) (.dat rfl) | exact Co.t3 (.dat rfl) (.dat rfl) (.dat rfl))
  | false =>
    have h0 : ¬ allOk g [s, t] = 0 := by simpa using h
    have h3 : (allOk g [s, t] != 0) = true := by simpa using h
    repeat' (first
      | refine awp_seq_k fun K hK => ?_
      | (refine awp_region_k (by kernel_rfl) fun R hR => ?_; simp only [go_sem, h3])
      | (refine awp_draw mixed (by kernel_rfl) (by kernel_rfl) fun R hR => ?_; simp only [go_sem, h3])
      | (refine hR _ ?_; clear hR R; try simp only [thenA, inBlockA, reduceIte, reduceCtorEq, Nat.reduceEqDiff, if_false, if_true])
      | (refine hK _ ?_; clear hK K)
      | (clear hK K; refine hK _ ?_; clear hK K)
      | (clear hK K; clear hK K; refine hK _ ?_; clear hK K)
      | (clear hK K; clear hK K; clear hK K; refine hK _ ?_; clear hK K)
      | (clear hK K; clear hK K; clear hK K; clear hK K; refine hK _ ?_; clear hK K)
      | refine awp_true rfl rfl ?_
      | refine awp_false rfl rfl ?_
      | (refine awp_cond rfl rfl (fun hc => ?_) (fun hc => ?_) <;> (try simp only [go_sem, h3] at hc) <;> (try (exfalso; omega)))
      | refine awp_block ?_
      | (refine awp_skip ?_; try simp only [thenA, inBlockA, reduceIte, reduceCtorEq, Nat.reduceEqDiff, if_false, if_true])
      | (refine awp_exit ?_; try simp only [thenA, inBlockA, reduceIte, reduceCtorEq, Nat.reduceEqDiff, if_false, if_true])
      | (refine awp_ret ?_; try simp only [thenA, inBlockA, reduceIte, reduceCtorEq, Nat.reduceEqDiff, if_false, if_true])
      | (refine runL_split ?_ (fun hc => ?_) (fun hc => ?_); (simp only [go_sem, h3]; exact rfl); all_goals (try simp only [go_sem, hc, h3]); all_goals (try simp only [go_sem, h3] at hc); all_goals (try (exfalso; omega)))
      | (refine runD_split ?_ (fun hc => ?_) (fun hc => ?_); (simp only [go_sem, h3]; exact rfl); all_goals (try simp only [go_sem, hc, h3]); all_goals (try simp only [go_sem, h3] at hc); all_goals (try (exfalso; omega)))
      | (first | (refine CallK.pure (enter61) (all_tri g [s, t]) ?_ ?_; (focus first | ((repeat (first | exact trivial | refine ⟨(by first | exact Or.inl rfl | exact Or.inr rfl), ?_⟩)); done) | (simp only [coL, AV.dat, true_or, or_true, AV.d.injEq, go_sem]; done)); simp only [go_sem, h3]) | (refine CallD.pure (enter61) (all_tri g [s, t]) ?_ ?_; (focus first | ((repeat (first | exact trivial | refine ⟨(by first | exact Or.inl rfl | exact Or.inr rfl), ?_⟩)); done) | (simp only [coL, AV.dat, true_or, or_true, AV.d.injEq, go_sem]; done)); simp only [go_sem, h3]))
      | refine And.intro (by first | omega | exact trivial | rfl | assumption | (apply map_sz; intro a; simp only [go_sem]; done) | ((and_intros <;> first | omega | exact trivial | rfl | assumption | (apply map_sz; intro a; simp only [go_sem]; done) | fail); done) | fail) ?_
      | fail)
    refine ret_pure (by simp only [Try.results13, resOkL, resOk, Try.ntmps13, List.toList_toArray]; first | decide | (simp only [go_sem]; done) | (simp only [go_sem]; and_intros <;> first | omega | rfl | decide)) ?_ (by repeat (first | exact Fr.rfl' _ _ | assumption | refine Fr.updk ?_ (by omega) _))
    simp only [resA, resV, Try.results13, go_sem]
    all_goals try (first | exact Co.t2 (.dat rfl) (.dat rfl) | exact Co.t3 (.dat rfl) (.dat rfl) (.dat rfl))
set_option maxRecDepth 20000 in
theorem compare_tri (g : List Int) (s t : Tm) : Tri Try.prog 14 [.d (sgDV g), .d (tmDV s), .d (tmDV t)] (pure' (.tup [iA (if allOk g [s, t] = 0 then if gt s t then 1 else if gt t s then -1 else 0 else 0), iA (allOk g [s, t])])) := by
  refine tri_enter Try.func14 rfl Try.ntmps14 (by simp only [List.length_cons, List.length_nil]; omega) fun w0 h0 k hrd hwr => ?_
  cases h : allOk g [s, t] == 0 with
  | true =>
    obtain ⟨_, h2⟩ := allOk_own (beq_iff_eq.1 h)
    have hs := h2 s (by simp)
    have ht := h2 t (by simp)
    have := own_parts hs
    have := own_parts ht
    have h0 : allOk g [s, t] = 0 := beq_iff_eq.1 h
    have h3 : (allOk g [s, t] != 0) = false := by simpa using h
    cases h4 : gt s t with
    | true =>
      repeat' (first
        | refine awp_seq_k fun K hK => ?_
        | (refine awp_region_k (by kernel_rfl) fun R hR => ?_; simp only [go_sem, h3, h4])
        | (refine awp_draw mixed (by kernel_rfl) (by kernel_rfl) fun R hR => ?_; simp only [go_sem, h3, h4])
        | (refine hR _ ?_; clear hR R; try simp only [thenA, inBlockA, reduceIte, reduceCtorEq, Nat.reduceEqDiff, if_false, if_true])
        | (refine hK _ ?_; clear hK K)
        | (clear hK K; refine hK _ ?_; clear hK K)
        | (clear hK K; clear hK K; refine hK _ ?_; clear hK K)
        | (clear hK K; clear hK K; clear hK K; refine hK _ ?_; clear hK K)
        | (clear hK K; clear hK K; clear hK K; clear hK K; refine hK _ ?_; clear hK K)
        | refine awp_true rfl rfl ?_
        | refine awp_false rfl rfl ?_
        | (refine awp_cond rfl rfl (fun hc => ?_) (fun hc => ?_) <;> (try simp only [go_sem, h3, h4] at hc) <;> (try (exfalso; omega)))
        | refine awp_block ?_
        | (refine awp_skip ?_; try simp only [thenA, inBlockA, reduceIte, reduceCtorEq, Nat.reduceEqDiff, if_false, if_true])
        | (refine awp_exit ?_; try simp only [thenA, inBlockA, reduceIte, reduceCtorEq, Nat.reduceEqDiff, if_false, if_true])
        | (refine awp_ret ?_; try simp only [thenA, inBlockA, reduceIte, reduceCtorEq, Nat.reduceEqDiff, if_false, if_true])
        | (refine runL_split ?_ (fun hc => ?_) (fun hc => ?_); (simp only [go_sem, h3, h4]; exact rfl); all_goals (try simp only [go_sem, hc, h3, h4]); all_goals (try simp only [go_sem, h3, h4] at hc); all_goals (try (exfalso; omega)))
        | (refine runD_split ?_ (fun hc => ?_) (fun hc => ?_); (simp only [go_sem, h3, h4]; exact rfl); all_goals (try simp only [go_sem, hc, h3, h4]); all_goals (try simp only [go_sem, h3, h4] at hc); all_goals (try (exfalso; omega)))
        | (first | (refine CallK.pure (enter61) (all_tri g [s, t]) ?_ ?_; (focus first | ((repeat (first | exact trivial | refine ⟨(by first | exact Or.inl rfl | exact Or.inr rfl), ?_⟩)); done) | (simp only [coL, AV.dat, true_or, or_true, AV.d.injEq, go_sem]; done)); simp only [go_sem, h3, h4]) | (refine CallD.pure (enter61) (all_tri g [s, t]) ?_ ?_; (focus first | ((repeat (first | exact trivial | refine ⟨(by first | exact Or.inl rfl | exact Or.inr rfl), ?_⟩)); done) | (simp only [coL, AV.dat, true_or, or_true, AV.d.injEq, go_sem]; done)); simp only [go_sem, h3, h4]))
        | (first | (refine CallK.pure (enter62) (above_tri s t (own_arit hs ht) (by omega) (by omega)) ?_ ?_; (focus first | ((repeat (first | exact trivial | refine ⟨(by first | exact Or.inl rfl | exact Or.inr rfl), ?_⟩)); done) | (simp only [coL, AV.dat, true_or, or_true, AV.d.injEq, go_sem]; done)); simp only [go_sem, h3, h4]) | (refine CallD.pure (enter62) (above_tri s t (own_arit hs ht) (by omega) (by omega)) ?_ ?_; (focus first | ((repeat (first | exact trivial | refine ⟨(by first | exact Or.inl rfl | exact Or.inr rfl), ?_⟩)); done) | (simp only [coL, AV.dat, true_or, or_true, AV.d.injEq, go_sem]; done)); simp only [go_sem, h3, h4]))
        | refine And.intro (by first | omega | exact trivial | rfl | assumption | (apply map_sz; intro a; simp only [go_sem]; done) | ((and_intros <;> first | omega | exact trivial | rfl | assumption | (apply map_sz; intro a; simp only [go_sem]; done) | fail); done) | fail) ?_
        | fail)
      refine ret_pure (by simp only [Try.results14, resOkL, resOk, Try.ntmps14, List.toList_toArray]; first | decide | (simp only [go_sem]; done) | (simp only [go_sem]; and_intros <;> first | omega | rfl | decide)) ?_ (by repeat (first | exact Fr.rfl' _ _ | assumption | refine Fr.updk ?_ (by omega) _))
      simp only [resA, resV, Try.results14, go_sem, h0, h4, eq_self]
      all_goals try (first | exact Co.t2 (.dat rfl) (.dat rfl) | exact Co.t3 (.dat rfl) (.dat rfl) (.dat rfl))
    | false =>
      cases h5 : gt t s with
      | true =>
        repeat' (first
          | refine awp_seq_k fun K hK => ?_
          | (refine awp_region_k (by kernel_rfl) fun R hR => ?_; simp only [go_sem, h3, h4, h5])
          | (refine awp_draw mixed (by kernel_rfl) (by kernel_rfl) fun R hR => ?_; simp only [go_sem, h3, h4, h5])
          | (refine hR _ ?_; clear hR R; try simp only [thenA, inBlockA, reduceIte, reduceCtorEq, Nat.reduceEqDiff, if_false, if_true])
          | (refine hK _ ?_; clear hK K)
          | (clear hK K; refine hK _ ?_; clear hK K)
          | (clear hK K; clear hK K; refine hK _ ?_; clear hK K)
          | (clear hK K; clear hK K; clear hK K; refine hK _ ?_; clear hK K)
          | (clear hK K; clear hK K; clear hK K; clear hK K; refine hK _ ?_; clear hK K)
          | refine awp_true rfl rfl ?_
          | refine awp_false rfl rfl ?_
          | (refine awp_cond rfl rfl (fun hc => ?_) (fun hc => ?_) <;> (try simp only [go_sem, h3, h4, h5] at hc) <;> (try (exfalso; omega)))
          | refine awp_block ?_
          | (refine awp_skip ?_; try simp only [thenA, inBlockA, reduceIte, reduceCtorEq, Nat.reduceEqDiff, if_false, if_true])
          | (refine awp_exit ?_; try simp only [thenA, inBlockA, reduceIte, reduceCtorEq, Nat.reduceEqDiff, if_false, if_true])
          | (refine awp_ret ?_; try simp only [thenA, inBlockA, reduceIte, reduceCtorEq, Nat.reduceEqDiff, if_false, if_true])
          | (refine runL_split ?_ (fun hc => ?_) (fun hc => ?_); (simp only [go_sem, h3, h4, h5]; exact rfl); all_goals (try simp only [go_sem, hc, h3, h4, h5]); all_goals (try simp only [go_sem, h3, h4, h5] at hc); all_goals (try (exfalso; omega)))
          | (refine runD_split ?_ (fun hc => ?_) (fun hc => ?_); (simp only [go_sem, h3, h4, h5]; exact rfl); all_goals (try simp only [go_sem, hc, h3, h4, h5]); all_goals (try simp only [go_sem, h3, h4, h5] at hc); all_goals (try (exfalso; omega)))
          | (first | (refine CallK.pure (enter61) (all_tri g [s, t]) ?_ ?_; (focus first | ((repeat (first | exact trivial | refine ⟨(by first | exact Or.inl rfl | exact Or.inr rfl), ?_⟩)); done) | (simp only [coL, AV.dat, true_or, or_true, AV.d.injEq, go_sem]; done)); simp only [go_sem, h3, h4, h5]) | (refine CallD.pure (enter61) (all_tri g [s, t]) ?_ ?_; (focus first | ((repeat (first | exact trivial | refine ⟨(by first | exact Or.inl rfl | exact Or.inr rfl), ?_⟩)); done) | (simp only [coL, AV.dat, true_or, or_true, AV.d.injEq, go_sem]; done)); simp only [go_sem, h3, h4, h5]))
          | (first | (refine CallK.pure (enter62) (above_tri s t (own_arit hs ht) (by omega) (by omega)) ?_ ?_; (focus first | ((repeat (first | exact trivial | refine ⟨(by first | exact Or.inl rfl | exact Or.inr rfl), ?_⟩)); done) | (simp only [coL, AV.dat, true_or, or_true, AV.d.injEq, go_sem]; done)); simp only [go_sem, h3, h4, h5]) | (refine CallD.pure (enter62) (above_tri s t (own_arit hs ht) (by omega) (by omega)) ?_ ?_; (focus first | ((repeat (first | exact trivial | refine ⟨(by first | exact Or.inl rfl | exact Or.inr rfl), ?_⟩)); done) | (simp only [coL, AV.dat, true_or, or_true, AV.d.injEq, go_sem]; done)); simp only [go_sem, h3, h4, h5]))
          | (first | (refine CallK.pure (enter62) (above_tri t s (own_arit ht hs) (by omega) (by omega)) ?_ ?_; (focus first | ((repeat (first | exact trivial | refine ⟨(by first | exact Or.inl rfl | exact Or.inr rfl), ?_⟩)); done) | (simp only [coL, AV.dat, true_or, or_true, AV.d.injEq, go_sem]; done)); simp only [go_sem, h3, h4, h5]) | (refine CallD.pure (enter62) (above_tri t s (own_arit ht hs) (by omega) (by omega)) ?_ ?_; (focus first | ((repeat (first | exact trivial | refine ⟨(by first | exact Or.inl rfl | exact Or.inr rfl), ?_⟩)); done) | (simp only [coL, AV.dat, true_or, or_true, AV.d.injEq, go_sem]; done)); simp only [go_sem, h3, h4, h5]))
          | refine And.intro (by first | omega | exact trivial | rfl | assumption | (apply map_sz; intro a; simp only [go_sem]; done) | ((and_intros <;> first | omega | exact trivial | rfl | assumption | (apply map_sz; intro a; simp only [go_sem]; done) | fail); done) | fail) ?_
          | fail)
        refine ret_pure (by simp only [Try.results14, resOkL, resOk, Try.ntmps14, List.toList_toArray]; first | decide | (simp only [go_sem]; done) | (simp only [go_sem]; and_intros <;> first | omega | rfl | decide)) ?_ (by repeat (first | exact Fr.rfl' _ _ | assumption | refine Fr.updk ?_ (by omega) _))
        simp only [resA, resV, Try.results14, go_sem, h0, h4, h5, eq_self]
        all_goals try (first | exact Co.t2 (.dat rfl) (.dat rfl) | exact Co.t3 (.dat rfl) (.dat rfl) (.dat rfl))
      | false =>
        repeat' (first
          | refine awp_seq_k fun K hK => ?_
          | (refine awp_region_k (by kernel_rfl) fun R hR => ?_; simp only [go_sem, h3, h4, h5])
          | (refine awp_draw mixed (by kernel_rfl) (by kernel_rfl) fun R hR => ?_; simp only [go_sem, h3, h4, h5])
          | (refine hR _ ?_; clear hR R; try simp only [thenA, inBlockA, reduceIte, reduceCtorEq, Nat.reduceEqDiff, if_false, if_true])
          | (refine hK _ ?_; clear hK K)
          | (clear hK K; refine hK _ ?_; clear hK K)
          | (clear hK K; clear hK K; refine hK _ ?_; clear hK K)
          | (clear hK K; clear hK K; clear hK K; refine hK _ ?_; clear hK K)
          | (clear hK K; clear hK K; clear hK K; clear hK K; refine hK _ ?_; clear hK K)
          | refine awp_true rfl rfl ?_
          | refine awp_false rfl rfl ?_
          | (refine awp_cond rfl rfl (fun hc => ?_) (fun hc => ?_) <;> (try simp only [go_sem, h3, h4, h5] at hc) <;> (try (exfalso; omega)))
          | refine awp_block ?_
          | (refine awp_skip ?_; try simp only [thenA, inBlockA, reduceIte, reduceCtorEq, Nat.reduceEqDiff, if_false, if_true])
          | (refine awp_exit ?_; try simp only [thenA, inBlockA, reduceIte, reduceCtorEq, Nat.reduceEqDiff, if_false, if_true])
          | (refine awp_ret ?_; try simp only [thenA, inBlockA, reduceIte, reduceCtorEq, Nat.reduceEqDiff, if_false, if_true])
          | (refine runL_split ?_ (fun hc => ?_) (fun hc => ?_); (simp only [go_sem, h3, h4, h5]; exact rfl); all_goals (try simp only [go_sem, hc, h3, h4, h5]); all_goals (try simp only [go_sem, h3, h4, h5] at hc); all_goals (try (exfalso; omega)))
          | (refine runD_split ?_ (fun hc => ?_) (fun hc => ?_); (simp only [go_sem, h3, h4, h5]; exact rfl); all_goals (try simp only [go_sem, hc, h3, h4, h5]); all_goals (try simp only [go_sem, h3, h4, h5] at hc); all_goals (try (exfalso; omega)))
          | (first | (refine CallK.pure (enter61) (all_tri g [s, t]) ?_ ?_; (focus first | ((repeat (first | exact trivial | refine ⟨(by first | exact Or.inl rfl | exact Or.inr rfl), ?_⟩)); done) | (simp only [coL, AV.dat, true_or, or_true, AV.d.injEq, go_sem]; done)); simp only [go_sem, h3, h4, h5]) | (refine CallD.pure (enter61) (all_tri g [s, t]) ?_ ?_; (focus first | ((repeat (first | exact trivial | refine ⟨(by first | exact Or.inl rfl | exact Or.inr rfl), ?_⟩)); done) | (simp only [coL, AV.dat, true_or, or_true, AV.d.injEq, go_sem]; done)); simp only [go_sem, h3, h4, h5]))
          | (first | (refine CallK.pure (enter62) (above_tri s t (own_arit hs ht) (by omega) (by omega)) ?_ ?_; (focus first | ((repeat (first | exact trivial | refine ⟨(by first | exact Or.inl rfl | exact Or.inr rfl), ?_⟩)); done) | (simp only [coL, AV.dat, true_or, or_true, AV.d.injEq, go_sem]; done)); simp only [go_sem, h3, h4, h5]) | (refine CallD.pure (enter62) (above_tri s t (own_arit hs ht) (by omega) (by omega)) ?_ ?_; (focus first | ((repeat (first | exact trivial | refine ⟨(by first | exact Or.inl rfl | exact Or.inr rfl), ?_⟩)); done) | (simp only [coL, AV.dat, true_or, or_true, AV.d.injEq, go_sem]; done)); simp only [go_sem, h3, h4, h5]))
          | (first | (refine CallK.pure (enter62) (above_tri t s (own_arit ht hs) (by omega) (by omega)) ?_ ?_; (focus first | ((repeat (first | exact trivial | refine ⟨(by first | exact Or.inl rfl | exact Or.inr rfl), ?_⟩)); done) | (simp only [coL, AV.dat, true_or, or_true, AV.d.injEq, go_sem]; done)); simp only [go_sem, h3, h4, h5]) | (refine CallD.pure (enter62) (above_tri t s (own_arit ht hs) (by omega) (by omega)) ?_ ?_; (focus first | ((repeat (first | exact trivial | refine ⟨(by first | exact Or.inl rfl | exact Or.inr rfl), ?_⟩)); done) | (simp only [coL, AV.dat, true_or, or_true, AV.d.injEq, go_sem]; done)); simp only [go_sem, h3, h4, h5]))
          | refine And.intro (by first | omega | exact trivial | rfl | assumption | (apply map_sz; intro a; simp only [go_sem]; done) | ((and_intros <;> first | omega | exact trivial | rfl | assumption | (apply map_sz; intro a; simp only [go_sem]; done) | fail); done) | fail) ?_
          | fail)
        refine ret_pure (by simp only [Try.results14, resOkL, resOk, Try.ntmps14, List.toList_toArray]; first | decide | (simp only [go_sem]; done) | (simp only [go_sem]; and_intros <;> first | omega | rfl | decide)) ?_ (by repeat (first | exact Fr.rfl' _ _ | assumption | refine Fr.updk ?_ (by omega) _))
        simp only [resA, resV, Try.results14, go_sem, h0, h4, h5, eq_self]
        all_goals try (first | exact Co.t2 (.dat rfl) (.dat rfl) | exact Co.t3 (.dat rfl) (.dat rfl) (.dat rfl))
  | false =>
    have h0 : ¬ allOk g [s, t] = 0 := by simpa using h
    have h3 : (allOk g [s, t] != 0) = true := by simpa using h
    repeat' (first
      | refine awp_seq_k fun K hK => ?_
      | (refine awp_region_k (by kernel_rfl) fun R hR => ?_; simp only [go_sem, h3])
      | (refine awp_draw mixed (by kernel_rfl) (by kernel_rfl) fun R hR => ?_; simp only [go_sem, h3])
      | (refine hR _ ?_; clear hR R; try simp only [thenA, inBlockA, reduceIte, reduceCtorEq, Nat.reduceEqDiff, if_false, if_true])
      | (refine hK _ ?_; clear hK K)
      | (clear hK K; refine hK _ ?_; clear hK K)
      | (clear hK K; clear hK K; refine hK _ ?_; clear hK K)
      | (clear hK K; clear hK K; clear hK K; refine hK _ ?_; clear hK K)
      | (clear hK K; clear hK K; clear hK K; clear hK K; refine hK _ ?_; clear hK K)
      | refine awp_true rfl rfl ?_
      | refine awp_false rfl rfl ?_
      | (refine awp_cond rfl rfl (fun hc => ?_) (fun hc => ?_) <;> (try simp only [go_sem, h3] at hc) <;> (try (exfalso; omega)))
      | refine awp_block ?_
      | (refine awp_skip ?_; try simp only [thenA, inBlockA, reduceIte, reduceCtorEq, Nat.reduceEqDiff, if_false, if_true])
      | (refine awp_exit ?_; try simp only [thenA, inBlockA, reduceIte, reduceCtorEq, Nat.reduceEqDiff, if_false, if_true])
      | (refine awp_ret ?_; try simp only [thenA, inBlockA, reduceIte, reduceCtorEq, Nat.reduceEqDiff, if_false, if_true])
      | (refine runL_split ?_ (fun hc => ?_) (fun hc => ?_); (simp only [go_sem, h3]; exact rfl); all_goals (try simp only [go_sem, hc, h3]); all_goals (try simp only [go_sem, h3] at hc); all_goals (try (exfalso; omega)))
      | (refine runD_split ?_ (fun hc => ?_) (fun hc => ?_); (simp only [go_sem, h3]; exact rfl); all_goals (try simp only [go_sem, hc, h3]); all_goals (try simp only [go_sem, h3] at hc); all_goals (try (exfalso; omega)))
      | (first | (refine CallK.pure (enter61) (all_tri g [s, t]) ?_ ?_; (focus first | ((repeat (first | exact trivial | refine ⟨(by first | exact Or.inl rfl | exact Or.inr rfl), ?_⟩)); done) | (simp only [coL, AV.dat, true_or, or_true, AV.d.injEq, go_sem]; done)); simp only [go_sem, h3]) | (refine CallD.pure (enter61) (all_tri g [s, t]) ?_ ?_; (focus first | ((repeat (first | exact trivial | refine ⟨(by first | exact Or.inl rfl | exact Or.inr rfl), ?_⟩)); done) | (simp only [coL, AV.dat, true_or, or_true, AV.d.injEq, go_sem]; done)); simp only [go_sem, h3]))
      | refine And.intro (by first | omega | exact trivial | rfl | assumption | (apply map_sz; intro a; simp only [go_sem]; done) | ((and_intros <;> first | omega | exact trivial | rfl | assumption | (apply map_sz; intro a; simp only [go_sem]; done) | fail); done) | fail) ?_
      | fail)
    refine ret_pure (by simp only [Try.results14, resOkL, resOk, Try.ntmps14, List.toList_toArray]; first | decide | (simp only [go_sem]; done) | (simp only [go_sem]; and_intros <;> first | omega | rfl | decide)) ?_ (by repeat (first | exact Fr.rfl' _ _ | assumption | refine Fr.updk ?_ (by omega) _))
    simp only [resA, resV, Try.results14, go_sem, h0, eq_self]
    all_goals try (first | exact Co.t2 (.dat rfl) (.dat rfl) | exact Co.t3 (.dat rfl) (.dat rfl) (.dat rfl))
end Go.Proofs.Ytmeekpinkfpnhaa
